/-
  Texts that belong together: Mo1, Mo2, Mo3, Mo4, Srt3, OrdMath, SkewMath, SkewMath2, SkewMath3, NmMath, Nm1, Nm3, Nm4, Nm5, Nm2, Nm6, Ra, Nm7, Nm8.
-/
import Derived.Test.YtopiogkolaelnaaGreatDoorBSw5
import Derived.Scope
set_option maxHeartbeats 8000000
set_option maxRecDepth 100000
set_option linter.unusedVariables false
set_option linter.unusedSimpArgs false
set_option linter.unusedSectionVars false
namespace Go.Proofs.YtopiogkolaelnaaGreatDoor
open _root_.Go.Proofs.Tryz
section
open Go.RowKit
open Mv Disk Num
namespace Sto
section
variable {K S T:Mem} {a p b c q qw:Nat} {fn s:tt} {w w2:Nat} {rows:List (List Nat)} {tot:Nat} {x0 x:Pl} {n i f h wf wh:Nat} {out:List (List Nat)} {sb:Nat} {lv:tu} {last:List Nat}
theorem zo9 (H:CpS K a p b c q qw fn s w w2 rows tot x0 S T x n i f h wf wh out) (hs:K.own sb=some (srB q lv)) (hr:RowsOK w rows) (h1:1<=w) (h8:w<=8) (hc:rows.length<=65536) (hi:i<rows.length) (hn:n+5*w<=16384) (hl:2<=x.fr.length) (aa:LastV K lv last) (X:lessB rows[i] last=false) :
  ACall prog 265 #[self sb] T λv T'=>∃ g S' x' f' h',v = .tuple #[.slice (some ⟨g,0,none⟩) w w,.nilIface]/\K.own g=none/\x'.fr.length=x.fr.length/\CpS ((K.set g ⟨27,rows[i].map nU,w⟩).set sb (srB q (.slice (some ⟨g,0,none⟩) w w))) a p b c q qw fn s w w2 rows tot x0 S' T' x' (n+5*w) (i+1) f' h' wf wh out:=by
 have ae:=zkg H hr h1 h8 hc hi hn hl;have os:=zah H.ar (H.kb.own hs);unfold srB at os;obtain ⟨Y,av⟩:=hr _ (List.getElem_mem hi);refine k_E1 48 func265 ?_;refine r12_ ?_;refine ca_ rfl (ae) ?_;rintro _ T1 ⟨g,S1,x1,f1,W,rfl,hg,V,I⟩;generalize rows[i]=C at *;have J:=vh K g ⟨27,C.map nU,w⟩ hg;have ac:=zah I.ar (I.kb.own (J.own hs));have A:=I.put (J.own hs) (srB q (.slice (some ⟨g,0,none⟩) w w));have ag:=J.trans (I.kb.trans (zbb I.ar));have U:RowR T1 (.slice (some ⟨g,0,none⟩) w w) C:=zdQ Y h8 (zah I.ar (I.kb.own (vf K g _)));unfold srB at ac A;refine r14_ ?_;refine cF_ ?_;rcases aa with ⟨rfl,rfl⟩ | ⟨g0,w0,rfl,ad⟩
 ·refine r20_ ?_;refine cF_ ?_;refine r18_ ?_;refine kw_ [0,2,3,4,5,15,41] ?_;refine s1_ ?_;refine ⟨_,_,⟨_,_,rfl,⟨_,_,rfl,rfl,rfl⟩,rfl⟩,Mem.Less.refl _,?_⟩;exact ⟨g,_,x1,f1,W,rfl,hg,V,A⟩
 refine r16_ ?_;refine vv 5 true 34 rfl (zab rfl) rfl (zab rfl) zvG rfl (zoh C last _ _ _ U (ad.less ag)) ?_;rintro _ S9 ⟨rfl,h9⟩;rw [h9,X];clear h9 S9;refine r3_ ?_;refine cF_ ?_;refine r19_ ?_;refine ⟨_,_,⟨_,_,rfl,⟨_,_,rfl,rfl,rfl⟩,rfl⟩,Mem.Less.refl _,?_⟩;exact ⟨g,_,x1,f1,W,rfl,hg,V,A⟩
theorem zg6 (H:CpS K a p b c q qw fn s w w2 rows tot x0 S T x n rows.length f h wf wh out) (hs:K.own sb=some (srB q lv)) (W:1<=w) (Y:w<=8) (hc:rows.length<=65536) :
  ACall prog 265 #[self sb] T λv T'=>v = .tuple #[.slice none 0 0,.nilIface] /\ ∃ S' x',x'.fr.length=x.fr.length/\CpS K a p b c q qw fn s w w2 rows tot x0 S' T' x' n rows.length f 0 wf wh out:=by
 have I:=zeR H W Y hc;have C:=zfn H;have os:=zah H.ar (H.kb.own hs);unfold srB at os;refine k_E1 48 func265 ?_;refine r12_ ?_;refine cp_ rfl (I) ?_;refine r14_ ?_;refine cT_ ?_;refine r6_ ?_;refine ca_ rfl (C) ?_;rintro _ M ⟨_,V,X,U,A⟩;have oq:=zah A.ar A.oq
 (unfold rdB at oq;dsimp only at oq)
 have J:=zah A.ar (A.kb.own hs);unfold srB at J;refine r11_ ?_;refine cp_ rfl (zbc _ _) ?_;refine r6_ ?_;refine ⟨_,M,⟨_,_,rfl,⟨_,_,rfl,rfl,rfl⟩,rfl⟩,zae,?_⟩;exact ⟨rfl,V,X,U,A⟩
theorem zwk (H:CpS K a p b c q qw fn s w w2 rows tot x0 S T x n i f h wf wh out) {bx:Nat} (hb:K.own bx=some (bxB qw)) (v:tu) (A:List Nat) (J:RowR T v A) (hr:A.length=w2 /\ ∀ z ∈ A,z<Num.top) (W:1<=w2) (Y:w2<=8) (ho:out.length<tot) (ht:tot<=65536) (U:n+5*w2<=16384) (hl:2<=x.fr.length) :
  ACall prog 236 #[v,.pointer (some ⟨bx,0,none⟩)] T λV T'=>V = .nilIface /\ ∃ S' x' C I,x'.fr.length=x.fr.length/\CpS K a p b c q qw fn s w w2 rows tot x0 S' T' x' (n+5*w2) i f h C I (out ++ [A]):=by
 have hp:=zlj H v A J hr W Y ho ht U hl;have ob:=zah H.ar (H.kb.own hb);unfold bxB at ob;obtain ⟨va,vc,rfl,_⟩:=id J;refine k_E2 8 func236 ?_;refine r9_ ?_;refine ca_ rfl (hp) ?_;rintro _ X ⟨rfl,hR⟩;refine cp_ rfl (zbc _ _) ?_;refine r4_ ?_;refine ⟨_,X,⟨_,_,rfl,rfl,rfl⟩,zae,?_⟩;exact ⟨rfl,hR⟩
end
end Sto
end
section
open Go.RowKit
open Mv Disk Num
namespace Sto
def scB (sb gc:Nat):Blk:=⟨325,[self sb],gc⟩
def MoH (K:Mem) (a p b c q qw sb bx gs gc g:Nat) (fn s:tt) (w:Nat) (rows:List (List Nat)) (x0:Pl) (m k:Nat) (P:Mem->Prop) (M:Mem):Prop :=
  ∃ R S x n f h wf wh hv lv,(K.del sb).Less R/\R.own sb=some (srB q lv)/\R.own g=some (oneK hv)/\R.own bx=some (bxB qw)/\R.own gs=some (scB sb gc)/\n<=10*w*k+5*w/\x.fr.length=m/\P R /\
    ((∃ hk:k<rows.length,∃ z,hv = .slice (some ⟨z,0,none⟩) w w/\R.own z=some ⟨27,rows[k].map nU,w⟩/\lv=hv/\CpS R a p b c q qw fn s w w rows rows.length x0 S M x n (k+1) f h wf wh (rows.take k))\/(k=rows.length/\hv = .slice none 0 0/\CpS R a p b c q qw fn s w w rows rows.length x0 S M x n rows.length f 0 wf wh rows))
theorem MoH.new {K M:Mem} {a p b c q qw sb bx gs gc g:Nat} {fn s:tt} {w:Nat} {rows:List (List Nat)} {x0:Pl} {m k:Nat} {P Q:Mem->Prop} (H:MoH K a p b c q qw sb bx gs gc g fn s w rows x0 m k P M) {r:Nat} (C:Fresh M r) (kb:Blk) (hQ:∀ R,P R->R.own r=none->Q (R.set r kb)):MoH K a p b c q qw sb bx gs gc g fn s w rows x0 m k Q (M.set r kb):=by
 obtain ⟨R,S,x,n,f,h,wf,wh,W,lv,X,Y,a3,a4,U,a6,a7,J,hc⟩:=H;have I:R.own r=none:=by rcases hc with ⟨_,_,_,_,_,H⟩ | ⟨_,_,H⟩ <;> exact zaj H.kb (zaz H.ar C kb).1.1
 have A:=vh R r kb I;refine ⟨R.set r kb,S.set r kb,x,n,f,h,wf,wh,W,lv,X.trans A,A.own Y,A.own a3,A.own a4,A.own U,a6,a7,hQ R J I,?_⟩;rcases hc with ⟨V,z,e1,e2,e3,H⟩ | ⟨e1,e2,H⟩
 ·exact .inl ⟨V,z,e1,A.own e2,e3,H.new C kb⟩
 exact .inr ⟨e1,e2,H.new C kb⟩
structure MoX where
  M:Mem
  i:Nat
section
variable {K S T:Mem} {a p b c q qw:Nat} {fn s:tt} {w:Nat} {rows:List (List Nat)} {x0 x:Pl} {sb bx gs gc m:Nat}
theorem zwl (H:CpS K a p b c q qw fn s w w rows rows.length x0 S T x 0 0 0 0 0 0 []) (hs:K.own sb=some (srB q (.slice none 0 0))) (hb:K.own bx=some (bxB qw)) (hg:K.own gs=some (scB sb gc)) (hr:RowsOK w rows) (bi:SortedR rows) (h1:1<=w) (h8:w<=8) (hc:rows.length<=65536) (hn:10*w*rows.length+10*w<=16384) (hm:x.fr.length=m) (bG:2<=m) :
  ACall prog 235 #[.slice (some ⟨gs,0,none⟩) 1 gc,.func (.func 236) #[] #[.pointer (some ⟨bx,0,none⟩)]] T λv T'=>v = .nilIface /\ ∃ S' x' n f wf wh,n<=10*w*rows.length+5*w/\x'.fr.length=m/\CpS (K.del sb) a p b c q qw fn s w w rows rows.length x0 S' T' x' n rows.length f 0 wf wh rows:=by
 have a8:=zah H.ar (H.kb.own hg);unfold scB at a8;have e1:((1:Nat):Int).toNat=1:=rfl;have e2:madeL [Value.slice none 0 0] 1 = [.slice none 0 0]:=by rw [zaT];rfl
 refine k_E2 75 func235 ?_;refine r9_ ?_;refine ARun.makeSlice (zab rfl) zcS rfl rfl vd vd vd vd ?_;intro A aq;have al:=aq
 repeat ((with_reducible replace al:=zaa al);obtain ⟨al,_⟩:=al)
 refine r3_ ?_;simp only [Nat.mul_one,e1,e2];have H1:=H.new aq (oneK (.slice none 0 0));have J:=zaj H.kb (zaz H.ar aq (oneK (.slice none 0 0))).1.1;have I:=vh K A (oneK (.slice none 0 0)) J;refine r9_ ?_;refine AWP.loop (X:=MoX) (λX=>[(0,.slice (some ⟨gs,0,none⟩) 1 gc),(1,.func (.func 236) #[] #[.pointer (some ⟨bx,0,none⟩)]),(5,.slice (some ⟨A,0,none⟩) 1 1),(19,.slice (some ⟨gs,0,none⟩) 1 gc),(20,.int .i64 1),(21,.int .i64 (X.i:Int))]) (λX=>X.M) (λX=>(X.i=0/\X.M=T.set A (oneK (.slice none 0 0)))\/(X.i=1/\MoH K a p b c q qw sb bx gs gc A fn s w rows x0 m 0 (λ_=>True) X.M)) (λX=>1-X.i) (⟨T.set A (oneK (.slice none 0 0)),0⟩) ⟨rfl,rfl,rfl,rfl,rfl,rfl,trivial⟩ (Mem.Less.refl _) (.inl ⟨rfl,rfl⟩) ?_;rintro ⟨M,i⟩ hi;(try dsimp only at *);rcases hi with ⟨hi,hM⟩ | ⟨hi,hH⟩
 ·(try dsimp only at hi hM);subst hi hM;have og:=zah H1.ar (H1.kb.own (I.own hg));unfold scB at og;have bB:=zah H1.ar (H1.kb.own (vf K A (oneK (.slice none 0 0))));have aR:sb≠A:=λe=>by rw [<- e,hs] at J;cases J
  refine r6_ ?_;refine cT_ ?_;by_cases q0:0<rows.length
  ·have af:=zo9 H1 (I.own hs) hr h1 h8 hc q0 vd vd (last:=[]) (.inl ⟨rfl,rfl⟩) (by cases rows[0] <;> rfl);refine r16_ ?_;refine ca_ rfl (af) ?_;rintro _ T2 ⟨z,S2,x2,f2,h2,rfl,hz,aA,C⟩;have W:=vh (K.set A (oneK (.slice none 0 0))) z ⟨27,rows[0].map nU,w⟩ hz;have an:=(vg _ (srB q (.slice (some ⟨z,0,none⟩) w w)) (Ne.symm aR)).trans (W.own (vf K A (oneK (.slice none 0 0))));have aj:=zah C.ar (C.kb.own an);have H3:=C.put an (oneK (.slice (some ⟨z,0,none⟩) w w));refine r11_ ?_;refine rC (vi rfl rfl Er.neNil) ?_;refine r2_ ?_;refine cF_ ?_;refine r7_ ?_;refine vk rfl rfl zcA rfl aj (show 0<1 by decide) rfl ?_
   try simp only [k_ms,k_sz,k_ss,k_za,Nat.reduceAdd]
   refine r3_ ?_;refine kw_ [0,1,5,19,20,21,22,6,7,8,9,32] ?_;have bd:z≠A:=λe=>(by rw [e,vf] at hz;cases hz);have bc:z≠sb:=λe=>(by rw [e,I.own hs] at hz;cases hz);have bk:bx≠sb:=λe=>(by rw [e,hs] at hb;cases hb);have bm:gs≠sb:=λe=>(by rw [e,hs] at hg;cases hg);have aF:bx≠A:=λe=>(by rw [e,J] at hb;cases hb);have aZ:gs≠A:=λe=>(by rw [e,J] at hg;cases hg);have oo:∀ {t:Nat} {k:Blk},t≠sb->t≠A->((K.set A (oneK (.slice none 0 0))).set z ⟨27,rows[0].map nU,w⟩).own t=some k->((((K.set A (oneK (.slice none 0 0))).set z ⟨27,rows[0].map nU,w⟩).set sb (srB q (.slice (some ⟨z,0,none⟩) w w))).set A (oneK (.slice (some ⟨z,0,none⟩) w w))).own t=some k:=λh1 h2 h=>(vg _ _ h2).trans ((vg _ _ h1).trans h);have ad:(K.del sb).Less ((((K.set A (oneK (.slice none 0 0))).set z ⟨27,rows[0].map nU,w⟩).set sb (srB q (.slice (some ⟨z,0,none⟩) w w))).set A (oneK (.slice (some ⟨z,0,none⟩) w w))):=zao (zao (((zaS K sb).trans I).trans W) (by simp [Mem.del])) (zaj (zaS K sb) J);refine r5_ ?_;refine ⟨⟨T2.set A (oneK (.slice (some ⟨z,0,none⟩) w w)),1⟩,?_,?_,?_,?_⟩<;>try dsimp only
   ·exact ⟨rfl,rfl,rfl,rfl,rfl,rfl,trivial⟩
   ·exact Mem.Less.refl _
   ·exact .inr ⟨rfl,_,_,x2,_,f2,h2,0,0,_,_,ad,(vg _ _ aR).trans (vf _ _ _),vf _ _ _,oo bk aF (W.own (I.own hb)),oo bm aZ (W.own (I.own hg)),by omega,aA.trans hm,trivial,.inl ⟨q0,z,rfl,oo bc bd (vf _ _ _),rfl,H3⟩⟩
   decide
  obtain rfl:rows = []:=List.eq_nil_of_length_eq_zero vd;have af:=zg6 H1 (I.own hs) h1 h8 hc;refine r16_ ?_;refine ca_ rfl (af) ?_;rintro _ T2 ⟨rfl,S2,x2,aA,C⟩;have aj:=zah C.ar (C.kb.own (vf K A (oneK (.slice none 0 0))));have aF:bx≠A:=λe=>by rw [e,J] at hb;cases hb
  have aZ:gs≠A:=λe=>by rw [e,J] at hg;cases hg
  refine r11_ ?_;refine rC (vi rfl rfl Er.neNil) ?_;refine r2_ ?_;refine cF_ ?_;refine r7_ ?_;refine vk rfl rfl zcA rfl aj (show 0<1 by decide) rfl ?_
  try simp only [k_ms,k_sz,k_ss,k_za,Nat.reduceAdd]
  refine r8_ ?_;refine ⟨⟨T2,1⟩,?_,?_,?_,?_⟩<;>try dsimp only
  ·exact ⟨rfl,rfl,rfl,rfl,rfl,rfl,trivial⟩
  ·(have e:=vG _ _ _ aj;exact e.symm ▸ Mem.Less.refl _)
  ·exact .inr ⟨rfl,_,_,x2,_,_,0,0,0,_,_,(zaS K sb).trans I,I.own hs,vf _ _ _,I.own hb,I.own hg,by omega,aA.trans hm,trivial,.inr ⟨rfl,rfl,C⟩⟩
  decide
 (try dsimp only at hi hH);subst hi;refine r6_ ?_;refine cF_ ?_;refine r8_ ?_;refine ca_ rfl (zw9 A M) ?_;rintro _ S9 ⟨t,z0,rfl,ht,aY,h9⟩;rw [h9];clear h9 S9;have bf:Fresh (M.set t (oneT (.slice (some ⟨A,0,none⟩) 1 1) (.slice (some ⟨z0,0,none⟩) 1 1))) z0:=zam (zaa aY).1 (zaa aY).2;have aG:=(hH.new ht (oneT (.slice (some ⟨A,0,none⟩) 1 1) (.slice (some ⟨z0,0,none⟩) 1 1)) (Q:=λR=>R.own t=some (oneT (.slice (some ⟨A,0,none⟩) 1 1) (.slice (some ⟨z0,0,none⟩) 1 1))) (λR _ _=>vf _ _ _)).new bf oneZ (Q:=λR=>R.own t=some (oneT (.slice (some ⟨A,0,none⟩) 1 1) (.slice (some ⟨z0,0,none⟩) 1 1))/\R.own z0=some oneZ) (λR h hn=>⟨(vh R z0 oneZ hn).own h,vf _ _ _⟩);generalize (M.set t (oneT (.slice (some ⟨A,0,none⟩) 1 1) (.slice (some ⟨z0,0,none⟩) 1 1))).set z0 oneZ=M2 at *;refine r3_ ?_;refine kw_ [0,1,5,19,20,21,22,10] ?_;refine s1_ ?_;refine AWP.loop (X:=MoX) (λX=>[(0,.slice (some ⟨gs,0,none⟩) 1 gc),(1,.func (.func 236) #[] #[.pointer (some ⟨bx,0,none⟩)]),(10,.pointer (some ⟨t,0,none⟩))]) (λX=>X.M) (λX=>X.i<=rows.length/\MoH K a p b c q qw sb bx gs gc A fn s w rows x0 m X.i (λR=>R.own t=some (oneT (.slice (some ⟨A,0,none⟩) 1 1) (.slice (some ⟨z0,0,none⟩) 1 1))/\R.own z0=some oneZ) X.M) (λX=>rows.length+1-X.i) (⟨M2,0⟩) ⟨rfl,rfl,rfl,trivial⟩ (Mem.Less.refl _) (⟨Nat.zero_le _,aG⟩) ?_;rintro ⟨M,k⟩ ⟨hk,hJ⟩;(try dsimp only at *);clear hH aG H H1;obtain ⟨R,S2,x2,n2,f2,h2,a3,a2,hv,lv,ad,os,og,ob,Y,ay,av,⟨ot,oz⟩,aD⟩:=hJ;rcases aD with ⟨U,z,rfl,aP,rfl,C⟩ | ⟨U,rfl,C⟩
 ·have pt:=zah C.ar (C.kb.own ot);have pg:=zah C.ar (C.kb.own og);have bb:=zsX t A z0 _ w ⟨_,_,rfl⟩ M pt pg (zah C.ar (C.kb.own oz));refine r4_ ?_;refine ca_ rfl (bb) ?_;rintro _ S9 ⟨rfl,h9⟩;rw [h9,decide_eq_true (show 0<w by omega)];clear h9 S9;refine r14_ ?_;refine cF_ ?_;(try dsimp only at U ay);have bv:10*w*(k+1)=10*w*k+10*w:=by rw [Nat.mul_add,Nat.mul_one]
  have br:=Nat.mul_le_mul_left (10*w) (show k+1<=rows.length from U);have ac:=hr _ (List.getElem_mem U);have a7:=zwk C ob (.slice (some ⟨z,0,none⟩) w w) rows[k] (zdQ ac.1 h8 (zah C.ar (C.kb.own aP))) ac h1 h8 (by rw [List.length_take];omega) hc vd vd;unfold oneT at pt;unfold oneK at pg;refine r14_ ?_;refine vq (zab rfl) zvE rfl rfl (a7) ?_;rintro _ T3 ⟨rfl,S3,x3,aU,aN,aW,H3⟩;rw [<- List.take_succ_eq_append_getElem U] at H3;have ps:=zah H3.ar (H3.kb.own Y);unfold scB at ps;refine r6_ ?_;refine rC (vi rfl rfl Er.neNil) ?_;refine r2_ ?_;refine cF_ ?_;have aw:sb≠A:=λe=>by rw [e,og] at os;cases os
  have bl:bx≠sb:=λe=>by rw [e,os] at ob;cases ob
  have bj:gs≠sb:=λe=>by rw [e,os] at Y;cases Y
  have aK:t≠sb:=λe=>by rw [e,os] at ot;cases ot
  have aH:z0≠sb:=λe=>by rw [e,os] at oz;cases oz
  have aT:bx≠A:=λe=>by rw [e,og] at ob;cases ob
  have aE:gs≠A:=λe=>by rw [e,og] at Y;cases Y
  have aL:t≠A:=λe=>by rw [e,og] at ot;cases ot
  have aO:z0≠A:=λe=>by rw [e,og] at oz;cases oz
  by_cases q2:k+1<rows.length
  ·have ba:lessB rows[k+1] rows[k]=false:=List.pairwise_iff_getElem.1 bi k (k+1) vd q2 vd;have af:=zo9 H3 os hr h1 h8 hc q2 vd vd (last:=rows[k]) (.inr ⟨z,w,rfl,zdQ ac.1 h8 aP⟩) ba;refine r8_ ?_;refine ca_ rfl (af) ?_;rintro _ T4 ⟨z2,S4,x4,f4,h4,rfl,ae,au,V⟩;have W:=vh R z2 ⟨27,rows[k+1].map nU,w⟩ ae;have oo:∀ {u:Nat} {kb:Blk},u≠sb->R.own u=some kb->((R.set z2 ⟨27,rows[k+1].map nU,w⟩).set sb (srB q (.slice (some ⟨z2,0,none⟩) w w))).own u=some kb:=λh1 h=>(vg _ _ h1).trans (W.own h);have kg:=oo (Ne.symm aw) og;have aB:=zg5 t A z0 _ (.slice (some ⟨z2,0,none⟩) w w) T4 (zah V.ar (V.kb.own (oo aK ot))) (zah V.ar (V.kb.own kg)) (zah V.ar (V.kb.own (oo aH oz))) ⟨rfl,rfl⟩;refine r7_ ?_;refine kw_ [0,1,10,11,12,47,13,59,14,15] ?_;refine r4_ ?_;refine rC (vi rfl rfl Er.neNil) ?_;refine r2_ ?_;refine cF_ ?_;refine r5_ ?_;refine ca_ rfl (aB) ?_;rintro _ S9 ⟨rfl,h9⟩;rw [h9];clear h9 S9;have H5:=V.put kg (oneK (.slice (some ⟨z2,0,none⟩) w w));have aJ:z2≠A:=λe=>(by rw [e,og] at ae;cases ae);have aX:z2≠sb:=λe=>(by rw [e,os] at ae;cases ae);refine r3_ ?_;refine ⟨⟨T4.set A (oneK (.slice (some ⟨z2,0,none⟩) w w)),k+1⟩,?_,?_,?_,?_⟩<;>try dsimp only
   ·exact ⟨rfl,rfl,rfl,trivial⟩
   ·exact Mem.Less.refl _
   ·exact ⟨U,_,_,x4,_,f4,h4,aU,aN,_,_,zao (zao (ad.trans W) (by simp [Mem.del])) (zaj (zaS K sb) J),(vg _ _ aw).trans (vf _ _ _),vf _ _ _,(vg _ _ aT).trans (oo bl ob),(vg _ _ aE).trans (oo bj Y),by omega,(au.trans aW).trans av,⟨(vg _ _ aL).trans (oo aK ot),(vg _ _ aO).trans (oo aH oz)⟩,.inl ⟨q2,z2,rfl,(vg _ _ aJ).trans ((vg _ _ aX).trans (vf _ _ _)),rfl,H5⟩⟩
   omega
  have e:k+1=rows.length:=by omega
  rw [e,List.take_length] at H3;refine r8_ ?_;refine ca_ rfl (zg6 H3 os h1 h8 hc) ?_;rintro _ T4 ⟨rfl,S4,x4,au,V⟩;have aB:=zg5 t A z0 _ (.slice none 0 0) T4 (zah V.ar (V.kb.own ot)) (zah V.ar (V.kb.own og)) (zah V.ar (V.kb.own oz)) ⟨rfl,rfl⟩;refine r11_ ?_;refine rC (vi rfl rfl Er.neNil) ?_;refine r2_ ?_;refine cF_ ?_;refine r5_ ?_;refine ca_ rfl (aB) ?_;rintro _ S9 ⟨rfl,h9⟩;rw [h9];clear h9 S9;have H5:=V.put og (oneK (.slice none 0 0));refine r3_ ?_;refine ⟨⟨T4.set A (oneK (.slice none 0 0)),k+1⟩,?_,?_,?_,?_⟩<;>try dsimp only
  ·exact ⟨rfl,rfl,rfl,trivial⟩
  ·exact Mem.Less.refl _
  ·exact ⟨U,_,_,x4,_,_,0,aU,aN,_,_,zao ad (zaj (zaS K sb) J),(vg _ _ aw).trans os,vf _ _ _,(vg _ _ aT).trans ob,(vg _ _ aE).trans Y,by omega,(au.trans aW).trans av,⟨(vg _ _ aL).trans ot,(vg _ _ aO).trans oz⟩,.inr ⟨e,rfl,H5⟩⟩
  omega
 refine r4_ ?_;refine cp_ rfl (zsX t A z0 _ 0 ⟨_,_,rfl⟩ _ (zah C.ar (C.kb.own ot)) (zah C.ar (C.kb.own og)) (zah C.ar (C.kb.own oz))) ?_;refine r14_ ?_;refine kw_ [0,1,10,11,12,47] ?_;refine cT_ ?_;(try dsimp only at U ay);subst U;refine r10_ ?_;refine ⟨_,M,⟨_,_,rfl,rfl,rfl⟩,zae,?_⟩;exact ⟨rfl,S2,x2,n2,f2,a3,a2,ay,av,C.less ad⟩
end
end Sto
end
section
open Go.RowKit
open Mv Disk Num
namespace Sto
structure MoY where
  M:Mem
  i:Nat
  v:tu
  n:Nat
theorem zmw {S0 K T0:Mem} {a p b c wk:Nat} {u:W5} {tm:tu} {x0:Pl} {w:Nat} {vn:tu} {fn:tt} {rows:List (List Nat)} (h:ArS S0 a p b c x0 T0) (au:S0.own wk=some (wkB a u tm)) (hp:Ps x0 0) (an:∀ j,j<x0.fr.length->(atF x0 j).dirty=false) (hK:K.Less S0) (hn:Sl 1 strs K vn [fn]) (hH:Has x0 fn w rows.length (rows.flatMap recB)) (ah:fn.size<=1024) (h1:1<=w) (h8:w<=8) (hc:rows.length<=65536) :
  ACall prog 234 #[self wk,vn] T0 λv T'=>∃ q sb gs gc y,v = .tuple #[.slice (some ⟨gs,0,none⟩) 1 gc,.int .u64 (rows.length:Nat),.nilIface]/\Fresh S0 q/\Fresh (S0.set q (rdB a ⟨fn,w,rows.length,0,0,0⟩)) sb/\Fresh ((S0.set q (rdB a ⟨fn,w,rows.length,0,0,0⟩)).set sb (srB q (.slice none 0 0))) gs/\ArS (((S0.set q (rdB a ⟨fn,w,rows.length,0,0,0⟩)).set sb (srB q (.slice none 0 0))).set gs (scB sb gc)) a p b c y T'/\y.d=x0.d/\y.fr=x0.fr:=by
 have hF:=zhN hp an hH;have ai:=Rec.zfV hF;have hh:=(Rec.zcJ ai fn).symm.trans (Rec.zd_ h8 vd hF);have aj:=zkb S0 a p b c wk u _ x0 fn 0 w rows.length T0 h au hp hh h1 ah;obtain ⟨pn,cn,rfl,n1,n2,n3⟩:=id hn;obtain ⟨nb,no,rfl,al⟩:=n3.resolve_left (by simp);have am:=(al 0 (by simp)).less (hK.trans (zbb h));unfold strs at am;refine k_E2 63 func234 ?_;refine r31_ ?_;refine AWP.loop (X:=MoY) (λX=>[(0,self wk),(7,X.v),(8,.int .u64 (X.n:Int)),(9,.nilIface),(14,.slice (some ⟨nb,no,none⟩) 1 cn),(15,.int .i64 1),(16,.int .i64 (X.i:Int))]) (λX=>X.M) (λX=>(X.i=0/\X.M=T0/\X.v = .slice none 0 0/\X.n=0)\/(X.i=1/\X.n=rows.length /\ ∃ q sb gs gc y,X.v = .slice (some ⟨gs,0,none⟩) 1 gc/\Fresh S0 q/\Fresh (S0.set q (rdB a ⟨fn,w,rows.length,0,0,0⟩)) sb/\Fresh ((S0.set q (rdB a ⟨fn,w,rows.length,0,0,0⟩)).set sb (srB q (.slice none 0 0))) gs/\ArS (((S0.set q (rdB a ⟨fn,w,rows.length,0,0,0⟩)).set sb (srB q (.slice none 0 0))).set gs (scB sb gc)) a p b c y X.M/\y.d=x0.d/\y.fr=x0.fr)) (λX=>1-X.i) (⟨T0,0,.slice none 0 0,0⟩) ⟨rfl,rfl,rfl,rfl,rfl,rfl,rfl,trivial⟩ (Mem.Less.refl _) (.inl ⟨rfl,rfl,rfl,rfl⟩) ?_;rintro ⟨M,i,v,n⟩ hi;(try dsimp only at *);rcases hi with ⟨hi,hM,hv,C⟩ | ⟨hi,C,q,sb,gs,gc,y,hv,f1,f2,f3,hA,J,I⟩
 ·(try dsimp only at hi hM hv C);subst hi hM hv C;refine r6_ ?_;refine cT_ ?_;refine r15_ ?_;refine ca_ rfl (aj) ?_;rintro _ T1 ⟨q,y0,rfl,ag,hA,J,I⟩;have oq:=zah hA (vf S0 q (rdB a ⟨fn,w,rows.length,0,0,0⟩))
  (unfold rdB at oq;dsimp only at oq)
  refine r11_ ?_;refine rC (vi rfl rfl Er.neNil) ?_;refine r2_ ?_;refine cF_ ?_;refine r7_ ?_;refine vD (cs:=[_,_]) (zab rfl) rfl ?_;intro b32 ae;have W:=ae
  repeat ((with_reducible replace W:=zaa W);obtain ⟨W,_⟩:=W)
  refine nl_ ?_;refine vu (zab rfl) zih rfl rfl ?_;intro aT ac;have V:=ac
  repeat ((with_reducible replace V:=zaa V);obtain ⟨V,_⟩:=V)
  refine vF (zab rfl) zih (n:=0) (cs:=[]) rfl rfl (zcf (o:=none) (cs:=[]) (zbO _) rfl ac) rfl (news:=[self b32]) rds_ rfl vd (by simp [Value.oneCell',self]) vd vd ?_;intro H A aq;obtain ⟨av,aB⟩:=aq.own _ _ rfl;obtain ⟨aa,ao⟩:=zaz hA ae (srB q (.slice none 0 0));obtain ⟨Y,U⟩:=zaz ao av (scB b32 A);have nq:=aa.ne (vf S0 q (rdB a ⟨fn,w,rows.length,0,0,0⟩));have q1:=(vg (S0.set q (rdB a ⟨fn,w,rows.length,0,0,0⟩)) (srB q (.slice none 0 0)) nq).trans (vf S0 q (rdB a ⟨fn,w,rows.length,0,0,0⟩));have pq:=zah U ((vg _ (scB b32 A) (Y.ne q1)).trans q1);have q2:=vf (S0.set q (rdB a ⟨fn,w,rows.length,0,0,0⟩)) b32 (srB q (.slice none 0 0));have ak:=zah U ((vg _ (scB b32 A) (Y.ne q2)).trans q2);have aw:=zah U (vf _ H (scB b32 A))
  (unfold rdB at pq;dsimp only at pq;unfold srB scB at pq ak aw)
  refine r3_ ?_;refine AWP.less ((T1.set b32 (srB q (.slice none 0 0))).set H (scB b32 A)) (Mem.Less.refl _) ?_;unfold srB scB;refine r2_ ?_;refine dr_ [i0_,i1_,i2_,i3_,i4_,i5_,i6_,i7_,i8_,i9_,i10_,i11_,i12_,i13_] [] ?_;refine r16_ ?_;refine kw_ [0,7,8,9,14,15,16,17,11,12,13,27,48] ?_;refine cF_ ?_;refine r19_ ?_;refine cF_ ?_;(try dsimp only at J I);refine r8_ ?_;refine ⟨⟨(T1.set b32 (srB q (.slice none 0 0))).set H (scB b32 A),1,.slice (some ⟨H,0,none⟩) 1 A,rows.length⟩,?_,?_,?_,?_⟩<;>try dsimp only
  ·exact ⟨sq_,sq_,sq_,sq_,sq_,sq_,sq_,trivial⟩
  ·exact Mem.Less.refl _
  ·exact .inr ⟨rfl,rfl,q,b32,H,A,y0,rfl,ag,aa,Y,U,J,I⟩
  decide
 (try dsimp only at hi hv C);subst hi hv C;refine r6_ ?_;refine cF_ ?_;refine r16_ ?_;refine ⟨_,M,⟨_,_,rfl,⟨_,_,rfl,⟨_,_,rfl,rfl,rfl⟩,rfl⟩,rfl⟩,zae,?_⟩;exact ⟨q,sb,gs,gc,y,rfl,f1,f2,f3,hA,J,I⟩
end Sto
end
section
open Go.RowKit
open Mv Disk Num
namespace Sto
theorem zuj (M:Mem) (w ct:tu) (A qw:Nat) (h:M.own A=some (bxB qw)) :
  ACall prog 175 #[w,ct,.pointer (some ⟨A,0,none⟩)] M λv C=>v = .tuple #[self qw,.nilIface]/\C=M:=by
 unfold bxB at h;refine k_E3 8 func175 ?_;refine r14_ ?_;refine ⟨_,M,⟨_,_,rfl,⟨_,_,rfl,rfl,rfl⟩,rfl⟩,zae,?_⟩;exact ⟨rfl,rfl⟩
theorem zuk {S0 K T0:Mem} {a p b c wk bo qw:Nat} {u:W5} {tm:tu} {x0:Pl} {w:Nat} {vn:tu} {fn s:tt} {rows:List (List Nat)} {eu:tx} {ev:tu} (h:ArS S0 a p b c x0 T0) (aE:S0.own wk=some (wkB a u tm)) (hp:Ps x0 0) (aO:∀ j,j<x0.fr.length->(atF x0 j).dirty=false) (hK:K.Less S0) (hn:Sl 1 strs K vn [fn]) (hH:Has x0 fn w rows.length (rows.flatMap recB)) (al:fn.size<=1024) (h1:1<=w) (h8:w<=8) (hc:rows.length<=65536)
  (aH:K.own bo=some (bxB qw)) (av:S0.own qw=some (wtB a ⟨s,w,0,0,0,0⟩)) (aA:K.own qw=none) (aU:Sto.nb x0.fr=0) (V:∀ o,Use x0 o 0 0) (aF:Wrote x0 s []) (aJ:Sto.ns x0.d s=Rec.needN w rows.length) (hr:RowsOK w rows) (aN:SortedR rows) (aK:fn≠s) (hE:K.Knows ⟨1,0,none⟩ [.iface eu ev]) (bl:10*w*rows.length+10*w+512<=16384) (aB:2<=x0.fr.length) (bm:x0.fr.length<=256) :
  ACall prog 174 #[self wk,vn,.func (.func 175) #[] #[.pointer (some ⟨bo,0,none⟩)]] T0 λv T'=>v = .nilIface /\ ∃ Z y,ArS Z a p b c y T'/\K.Less Z/\Ps y 0/\(∀ j,j<y.fr.length->(atF y j).dirty=false)/\(∀ o,Use y o 0 0)/\Sto.nb y.fr=0/\Far x0 y (λo=>o=s) No 0/\Has y s w rows.length (rows.flatMap recB):=by
 have aQ:=zmw h aE hp aO hK hn hH al h1 h8 hc;obtain ⟨pn,cn,rfl,_⟩:=id hn;refine k_E3 52 func174 ?_;refine r9_ ?_;refine ca_ rfl (aQ) ?_;rintro _ T1 ⟨q,sb,gs,gc,y,rfl,f1,f2,f3,hA,C,A⟩;have l1:=vh S0 q (rdB a ⟨fn,w,rows.length,0,0,0⟩) f1.1;have l2:=vh _ sb (srB q (.slice none 0 0)) f2.1;have l3:=vh _ gs (scB sb gc) f3.1;have aa:=(l1.trans l2).trans l3;have oq:=l3.own (l2.own (vf S0 q (rdB a ⟨fn,w,rows.length,0,0,0⟩)));have os:=l3.own (vf (S0.set q (rdB a ⟨fn,w,rows.length,0,0,0⟩)) sb (srB q (.slice none 0 0)));have og:=vf ((S0.set q (rdB a ⟨fn,w,rows.length,0,0,0⟩)).set sb (srB q (.slice none 0 0))) gs (scB sb gc);have ow:=aa.own av;have ax:=aa.own (hK.own aH);have aR:K.own q=none:=zaj hK f1.1;have ay:K.own sb=none:=zaj (hK.trans l1) f2.1;generalize ((S0.set q (rdB a ⟨fn,w,rows.length,0,0,0⟩)).set sb (srB q (.slice none 0 0))).set gs (scB sb gc)=Y at *;have H:CpS ((Y.del q).del qw) a p b c q qw fn s w w rows rows.length y Y T1 y 0 0 0 0 0 0 []:=⟨hA,oq,ow,hp.same A C,(V fn).fr_ A,(V s).fr_ A,by rw [A,aU];exact Nat.zero_le _,hH.same A C,aF.same A C,by rw [C];exact aJ,λr hr=>(by cases hr),Far.refl _ _ _,(zaS _ _).trans (zaS _ _),zaj (zaS _ qw) (by simp [Mem.del]),by simp [Mem.del],aK⟩;have n1:sb≠q:=λe=>by rw [e,oq] at os;cases os
 have n2:sb≠qw:=λe=>by rw [e,ow] at os;cases os
 have n3:gs≠q:=λe=>by rw [e,oq] at og;cases og
 have n4:gs≠qw:=λe=>by rw [e,ow] at og;cases og
 have ak:=(vj (Y.del q) n2).trans ((vj Y n1).trans os);have aI:=(vj (Y.del q) n4).trans ((vj Y n3).trans og);have aq:K.Less ((Y.del q).del qw):=zaI (zaI (hK.trans aa) aR) aA;have am:=zuj T1 (.int .i64 (w:Nat)) (.int .u64 (rows.length:Nat)) bo qw (zah hA ax);have pq:=zah hA oq;have ps:=zah hA os;have pg:=zah hA og
 (unfold rdB at pq;dsimp only at pq;unfold srB at ps;unfold scB at pg)
 refine r13_ ?_;refine rC (vi rfl rfl Er.neNil) ?_;refine r2_ ?_;refine cF_ ?_;refine r15_ ?_;refine vq (zab rfl) zvD rfl rfl (am) ?_;rintro _ S9 ⟨rfl,h9⟩;rw [h9];clear h9 S9;refine r3_ ?_;refine ARun.alloc (zab rfl) zcC ?_;intro J X;have I:=X
 repeat ((with_reducible replace I:=zaa I);obtain ⟨I,_⟩:=I)
 refine nl_ ?_;refine r4_ ?_;have H1:=H.new X (bxB qw);have W:=zaj H.kb (zaz H.ar X (bxB qw)).1.1;have U:=vh _ J (bxB qw) W;have aP:=zwl H1 (U.own ak) (vf _ _ _) (U.own aI) hr aN h1 h8 hc vd (m:=x0.fr.length) (by rw [A]) aB;refine r4_ ?_;refine rC (vi rfl rfl Er.neNil) ?_;refine r2_ ?_;refine cF_ ?_;refine r6_ ?_;refine ca_ rfl (aP) ?_;rintro _ T2 ⟨rfl,S2,x2,bk,bj,a6,a4,a9,bd,H2⟩;have aj:=zaI (aq.trans U) ay;have a7:=hE.less (aj.trans (H2.kb.trans (zbb H2.ar)));have aG:J≠sb:=λe=>by rw [e,ak] at W;cases W
 have pb:=zah H2.ar (H2.kb.own ((vj _ aG).trans (vf _ J (bxB qw))));unfold bxB at pb;have ba:=Nat.le_refl (10*w*rows.length);have az:=zo8 H2 h1 h8 rfl hc vd (λo _=>(V o).fr_ A);refine r3_ ?_;refine kw_ [0,1,2,6,7,8,9,19,10,37] ?_;refine r5_ ?_;refine cp_ rfl (Er.isNil eu ev _) ?_;refine r2_ ?_;refine cF_ ?_;refine r6_ ?_;refine rC (vi rfl rfl Er.neNil) ?_;refine r2_ ?_;refine cF_ ?_;refine r5_ ?_;refine ca_ rfl (az) ?_;rintro _ T3 ⟨rfl,S3,y3,aD,_,aw,aV,ah,aM,ad,ag,aT,_⟩;refine cp_ rfl (zbc _ _) ?_;refine r4_ ?_;refine ⟨_,T3,⟨_,_,rfl,rfl,rfl⟩,zae,?_⟩;exact ⟨rfl,S3,y3,aD,aj.trans aw,aV,ah,aM,ad,((zds (D:=λo=>o=s) (E:=No) A C).trans ag).mono (λ_ e=>e) (λ_ e=>e) vd,aT⟩
end Sto
end
section
open Go.RowKit
open Mv Disk Num
/-! ### A scope through which the run goes without a goto -/
def Mv.AnoGoto (Q:Exit->Env->Mem->Prop):Exit->Env->Mem->Prop
  | .goto _=>λ_ _=>False
  | e=>Q e
section
variable {P:tz} {N:Nat} {Q:Exit->Env->Mem->Prop} {E:Env} {S:Mem}
theorem Mv.AWP.scope {c:Code} (h:AWP P N c (AnoGoto Q) E S):AWP P N (.scope c) Q E S:=λa w I H =>
 wp_scope_straight (wp_mono (h a w I H) λe J U ⟨A,C,k,g,s⟩=>by
  cases e with
  | goto l=>exact k.elim
  | normal=>exact ⟨A,C,k,g,s⟩
  | exit id=>exact ⟨A,C,k,g,s⟩
  | ret=>exact ⟨A,C,k,g,s⟩
  | panic c=>exact ⟨A,C,k,g,s⟩
  | outgrown=>exact ⟨A,C,k,g,s⟩)
theorem Mv.AWP.label {l:Nat} (h:Q .normal E S):AWP P N (.label l) Q E S:=λa w A C=>wp_label ⟨E,S,h,A,Step.refl C⟩
theorem Mv.ano_ret (h:Q .ret E S):AnoGoto Q .ret E S:=h
end
namespace Sto
open Run (nameS sizeN)
structure OX where
  T:Mem
  S:Mem
  q:Nat
  y:Pl
  b:Nat
  o:Option (Nat × Nat)
theorem zco (k:Nat):(nameS nT k).size=5:=by rw [zbM];rfl
theorem zsZ {K S T:Mem} {a p b c wk m kk w r k:Nat} {u:W5} {x0 y:Pl} {o:Option (Nat × Nat)} {ts L:List tt} {s:tt} {out:List (List Nat)} (hA:ArS S a p b c y T) (hp:Ps y 0) (hc:∀ j,j<y.fr.length->(atF y j).dirty=false) (hu:∀ s,Use y s 0 0) (hn:Sto.nb y.fr=0) (hl:y.fr.length=m) (hw:WkS S a wk u o ts) (hk:K.Less S) (X:K.own wk=none) (Y:∀ t c,o=some (t,c)->K.own t=none)
  (H:∀ s,0<Sto.ns x0.d s <-> s ∈ L) (W:(s :: L).any (pfx (nameS nT kk))=false) (fa:Far x0 y (λo=>o=s\/isRun (nameS nT kk) o) No k) (U:∀ o,isRun (nameS nT kk) o->Sto.ns y.d o=0) (hH:Has y s w r (out.flatMap recB)):NmE K a p b c wk u m x0 ts (s :: L) (λo=>o=s) k T λy=>Has y s w r (out.flatMap recB):=by
 have J:∀ o ∈ s :: L,¬ isRun (nameS nT kk) o:=λo A ⟨j,_,e⟩=>by
  have:=List.any_eq_false.1 W o A;rw [e,zeh] at this;exact this rfl
 have C:∀ o,isRun (nameS nT kk) o->Sto.ns x0.d o=0:=λo A=>Nat.eq_zero_of_not_pos λe=>J o (List.mem_cons_of_mem _ ((H o).1 e)) A;have I:∀ o,o≠s->Sto.ns y.d o=Sto.ns x0.d o:=λo A=>by
  by_cases q:isRun (nameS nT kk) o
  ·rw [U o q,C o q]
  exact fa.n o (λh=>h.elim A q)
 refine ⟨S,y,o,⟨hA,hp,hc,hu,hn,hl,hw,hk,X,Y,λo=>?_⟩,⟨fa.l,fa.z,fa.q,I,λo j A V=>fa.v o j (λh=>h.elim A λq=>?_) V,λo _ _=>hu o⟩,hH⟩
 ·by_cases e:o=s
  ·subst e;exact ⟨λ_=>List.mem_cons_self ..,λ_=>hH.pos⟩
  rw [I o e,H o];exact ⟨λh=>List.mem_cons_of_mem _ h,λh=>(List.mem_cons.1 h).resolve_left e⟩
 rw [C o q] at V;exact Nat.not_lt_zero _ V
theorem zul (K:Mem) (a p b c wk bw a3:Nat) (u:W5) (fn s:tt) (w m kk:Nat) (rows:List (List Nat)) (S0 T:Mem) (x:Pl) (o0:Option (Nat × Nat)) (ts0 L:List tt) (eu:tx) (ev:tu) (h:NmS K a p b c wk u m S0 T x o0 ts0 L) (co:K.own bw=some ⟨68,[self wk],1⟩) (cJ:K.own a3=some ⟨9,[.string s],1⟩)
  (hH:Has x fn w rows.length (rows.flatMap recB)) (a8:24<=m) (ax:m<=256) (h1:1<=w) (h8:w<=8) (hr:RowsOK w rows) (hc:rows.length<=sizeN m w) (cu:5*w*rows.length+5*w*rows.length+512<=16384) (dp:5*w*(1+2*rows.length+2)+512<=16384) (c1:ts0.length<=7) (cj:∀ t ∈ ts0,t ∈ L) (cQ:nm s) (bF:s ∉ L) (cD:kk<=9) (ck:∀ j,j<kk->(s :: L).any (pfx (nameS nT j))=true) (aA:(s :: L).any (pfx (nameS nT kk))=false) (cy:(used x.d.ext:Int)+(Rec.needN w rows.length:Nat)+rows.length+4<=x.d.size) (hE:K.Knows ⟨1,0,none⟩ [.iface eu ev]) :
  ACall prog 118 #[self wk,.string fn,.func (.func 116) #[] #[.pointer (some ⟨bw,0,none⟩),.pointer (some ⟨a3,0,none⟩)]] T λv T'=>v = .nilIface /\ ∃ out,out.Perm rows/\SortedR out/\NmE K a p b c wk u m x (ts0 ++ [s]) (s :: L) (λo=>o=s) (Rec.needN w rows.length+rows.length+2) T' λy=>Has y s w out.length (out.flatMap recB):=by
 have aE:=h.wo;have bP:fn ∈ L:=(h.di fn).1 hH.pos;have cC:fn≠s:=λe=>bF (e ▸ bP);have cz:=h.ns0 bF;have ad:∀ o ∈ s :: L,∀ j,o≠nameS (nameS nT kk) j:=λo J j e=>by
  have:=List.any_eq_false.1 aA o J;rw [e,zeh] at this;exact this rfl
 have c4:rows.length / sizeN m w<=1:=Nat.div_le_of_le_mul vd;have dc:=Run.zoV m w ax;have c9:rows.length<=1638:=by have:=Nat.mul_le_mul_right rows.length (show 5<=5*w by omega);omega
 have hF:=zhN h.ps h.cl hH;have be:=Rec.zfV hF;have hh:=(Rec.zcJ be fn).symm.trans (Rec.zd_ h8 vd hF);have bp:=zkb S0 a p b c wk u _ x fn 0 w rows.length T h.ar aE.own h.ps hh h1 (Nat.le_trans (zuh h.ps.d hH.pos) (by decide));refine k_E3 114 func118 ?_;refine r5_ ?_;refine AWP.scope ?_;refine r4_ ?_;refine ca_ rfl (bp) ?_;rintro _ T1 ⟨q,y0,rfl,aD,hA,al,aI⟩;have bi:q≠wk:=Ne.symm (aD.ne aE.own);have bj:Away o0 q:=λt c e=>aD.ne (aE.gro.own t c e).1;have bf:=aE.set (rdB a ⟨fn,w,rows.length,0,0,0⟩) bi bj;have cd:=vh S0 q (rdB a ⟨fn,w,rows.length,0,0,0⟩) aD.1;have aj:=h.kb.trans cd;have a7:=zo6 _ a p b c wk bw a3 u _ _ y0 s w rows.length 0 0 T1 hA bf (aj.own co) (aj.own cJ) vd (h.ps.same aI al) cQ (by rw [al];exact cz) h8 vd (by rw [al];omega) (by rw [aI,h.nb];exact Nat.le_refl _);have oq:=zah hA (vf S0 q (rdB a ⟨fn,w,rows.length,0,0,0⟩))
 (unfold rdB at oq;dsimp only at oq)
 refine r11_ ?_;refine rC (vi rfl rfl Er.neNil) ?_;refine r2_ ?_;refine cF_ ?_;obtain ⟨M1,mq,bC⟩ : ∃ M1:Mem,M1.own q=_ /\ ∀ U:Mem,U.own q=T1.own q->U.ro=T1.ro->M1.Less U:=⟨pickM T1 [q],(zca (by simp)).trans oq,λU h1 h4=>zeg (λk hk=>by rw [List.mem_singleton.1 hk];exact h1) h4⟩;have cp:M1.Less T1:=bC _ rfl rfl;have Y:∀ {T2:Mem} {qw:Nat} {y:Pl} {S':Mem} {o':Option (Nat × Nat)},Temped (S0.set q (rdB a ⟨fn,w,rows.length,0,0,0⟩)) a p b c wk u o0 ts0 y0 s w rows.length 0 0 T2 qw y S' o'->S'.own q=some (rdB a ⟨fn,w,rows.length,0,0,0⟩)/\q≠qw/\M1.Less T2:=λH=>by
  obtain ⟨k1,k2⟩:=H.kp q _ (vf _ _ _) bj bi;refine ⟨k1,k2,bC _ ?_ ((zbb H.wt.ar).2.symm.trans (H.ro.trans (zbb hA).2))⟩;rw [zah H.wt.ar k1,oq];rfl
 refine r3_ ?_;refine AWP.join (X:=OX) (λX=>[(0,self wk),(7,self q),(8,.nilIface),(9,.pointer (some ⟨X.b,0,none⟩))]) (λX=>X.T.set X.b (bxB X.q)) (λX=>Temped (S0.set q (rdB a ⟨fn,w,rows.length,0,0,0⟩)) a p b c wk u o0 ts0 y0 s w rows.length 0 0 X.T X.q X.y X.S X.o/\Fresh X.T X.b) ?_ ?_
 ·refine uQ (M1) [] mixed zae ?_;refine DG.pure 0 (by kernel_rfl) (by kernel_rfl) rfl rfl rfl rfl (zab rfl) (λ_=>Calm.move rfl) ?_;refine DG.pure 1 (by kernel_rfl) (by kernel_rfl) rfl rfl rfl rfl (zab rfl) (λ_=>Calm.move rfl) ?_;refine DG.pure 2 (by kernel_rfl) (by kernel_rfl) rfl rfl rfl rfl (zab rfl) (λ_=>Calm.nilCheck rfl) ?_;refine DG.pure 3 (by kernel_rfl) (by kernel_rfl) rfl rfl rfl rfl (zab rfl) (λ_=>Calm.fieldAddr zdw rfl) ?_;refine DG.look 4 (by kernel_rfl) (by kernel_rfl) rfl rfl rfl rfl (zab rfl) zae (ld_ zaq rfl) ?_;refine DG.pure 5 (by kernel_rfl) (by kernel_rfl) rfl rfl rfl rfl (zab rfl) (λ_=>Calm.move rfl) ?_;refine DG.pure 6 (by kernel_rfl) (by kernel_rfl) rfl rfl rfl rfl (zab rfl) (λ_=>Calm.nilCheck rfl) ?_;refine DG.pure 7 (by kernel_rfl) (by kernel_rfl) rfl rfl rfl rfl (zab rfl) (λ_=>Calm.fieldAddr zct rfl) ?_;refine DG.look 8 (by kernel_rfl) (by kernel_rfl) rfl rfl rfl rfl (zab rfl) zae (ld_ zaf rfl) ?_;refine DG.two 9 13 (by kernel_rfl) rfl ?_ rfl ?_
  ·refine vq (zab rfl) zkL rfl rfl (a7) ?_;rintro _ T2 ⟨qw,y,S',o',rfl,H⟩;have bq:=(Y H).2.2;refine zad ⟨ny_,?_⟩;refine DG.pure 10 (by kernel_rfl) (by kernel_rfl) rfl rfl rfl rfl (zab rfl) (λ_=>Calm.move rfl) ?_;refine DG.pure 11 (by kernel_rfl) (by kernel_rfl) rfl rfl rfl rfl (zab rfl) (λ_=>Calm.extract rfl rfl) ?_;refine DG.pure 12 (by kernel_rfl) (by kernel_rfl) rfl rfl rfl rfl (zab rfl) (λ_=>Calm.extract rfl rfl) ?_;refine DG.only 13 (by kernel_rfl) rfl ?_;refine ARun.alloc (zab rfl) zcC ?_;intro b9 f9;have g9:=f9
   repeat ((with_reducible replace g9:=zaa g9);obtain ⟨g9,_⟩:=g9)
   refine nl_ ?_;have ci:M1.own b9=none:=zaj bq f9.1;refine zad ⟨ny_,?_⟩;refine DG.only 14 (by kernel_rfl) rfl ?_;refine s1_ ?_;refine zad ⟨ny_,?_⟩;refine DG.pure 15 (by kernel_rfl) (by kernel_rfl) rfl rfl rfl rfl (zab rfl) (λ_=>Calm.assign rfl) ?_;refine ut (by kernel_rfl) ?_;refine ⟨⟨T2,S',qw,y,b9,o'⟩,?_,?_,?_⟩<;>try dsimp only
   ·exact ⟨H,f9⟩
   ·exact ⟨rfl,rfl,rfl,rfl,trivial⟩
   exact Mem.Less.refl _
  refine ARun.alloc (zab rfl) zcC ?_;intro b9 f9;have g9:=f9
  repeat ((with_reducible replace g9:=zaa g9);obtain ⟨g9,_⟩:=g9)
  refine nl_ ?_;have ci:M1.own b9=none:=zaj cp f9.1;refine zad ⟨ny_,?_⟩;refine DG.only 9 (by kernel_rfl) rfl ?_;refine vq (zab rfl) zkL rfl rfl (a7.frame f9) ?_;rintro _ S1 ⟨T2,⟨qw,y,S',o',rfl,H⟩,av,bY⟩;rw [bY];clear bY S1;have bq:=(Y H).2.2;refine zad ⟨ny_,?_⟩;refine DG.pure 10 (by kernel_rfl) (by kernel_rfl) rfl rfl rfl rfl (zab rfl) (λ_=>Calm.move rfl) ?_;refine DG.pure 11 (by kernel_rfl) (by kernel_rfl) rfl rfl rfl rfl (zab rfl) (λ_=>Calm.extract rfl rfl) ?_;refine DG.pure 12 (by kernel_rfl) (by kernel_rfl) rfl rfl rfl rfl (zab rfl) (λ_=>Calm.extract rfl rfl) ?_;refine DG.only 14 (by kernel_rfl) rfl ?_;refine s1_ ?_;refine zad ⟨ny_,?_⟩;refine DG.pure 15 (by kernel_rfl) (by kernel_rfl) rfl rfl rfl rfl (zab rfl) (λ_=>Calm.assign rfl) ?_;refine ut (by kernel_rfl) ?_;refine ⟨⟨T2,S',qw,y,b9,o'⟩,?_,?_,?_⟩<;>try dsimp only
  ·exact ⟨H,av⟩
  ·exact ⟨rfl,rfl,rfl,rfl,trivial⟩
  exact Mem.Less.refl _
 rintro ⟨T2,S',qw,y,b9,o'⟩ ⟨H,av⟩;intro _ _ bl bS;(try dsimp only at *);refine zau ?_;refine AWP.sub _ bl (AWP.less _ bS ?_);clear bl bS;replace H:Temped (S0.set q (rdB a ⟨fn,w,rows.length,0,0,0⟩)) a p b c wk u o0 ts0 y0 s w rows.length 0 0 T2 qw y S' o':=H;replace av:Fresh T2 b9:=av;obtain ⟨k1,k2⟩:=zaz H.wt.ar av (bxB qw);obtain ⟨bQ,bz,_⟩:=Y H;have bt:b9≠wk:=Ne.symm (k1.ne H.wks.own);have W:=H.wks.set (bxB qw) bt (λt c e=>k1.ne (H.wks.gro.own t c e).1);have aC:=(vg S' (bxB qw) (k1.ne H.wt.ow)).trans H.wt.ow;have aL:=vf S' b9 (bxB qw);have a5:=(vg S' (bxB qw) (k1.ne bQ)).trans bQ;have bJ:∀ t c,o'=some (t,c)->K.own t=none:=λt c e=>(H.na t c e).elim (λhn=>zaj aj hn) λ⟨c',e'⟩=>h.ko t c' e';have bI:K.Less S':=⟨λt k ht=>(H.kp t k (aj.own ht) (λg cc e eq=>by subst eq;rw [h.ko g cc e] at ht;cases ht) (λeq=>by rw [eq,h.kw] at ht;cases ht)).1,aj.2.trans H.ro.symm⟩;have cA:=bI.trans (vh S' b9 (bxB qw) k1.1);have cN:K.own q=none:=zaj h.kb aD.1;have au:K.own qw=none:=zaj aj H.new;have a4:Far x y (λo=>o=s) No (Rec.needN w rows.length):=((zds (D:=λo=>o=s) (E:=No) aI al).trans (zfm H.md)).mono (λ_ e=>e) (λ_ e=>e) vd;have aq:qw≠wk:=za5 aC W.own (by show ¬ 206=120;decide);have bA:=W.away aC (by show ¬ 206=9;decide);have bO:=W.away aL (by show ¬ 73=9;decide);have cX:=W.away a5 (by show ¬ 130=9;decide);have br:b9≠qw:=za5 aL aC (by show ¬ 73=206;decide);have cw:b9≠q:=za5 aL a5 (by show ¬ 73=130;decide);generalize T2.set b9 (bxB qw)=T3 at *;generalize S'.set b9 (bxB qw)=S3 at *;have b5:y.fr.length=m:=a4.l.trans h.ln;have ai:y.fr=x.fr:=H.md.fr.trans aI;have bW:∀ j,j<y.fr.length->(atF y j).dirty=false:=λj V=>by unfold atF;rw [ai] at V ⊢;exact h.cl j V
 have bg:∀ o,0<Sto.ns y.d o <-> o ∈ s :: L:=λo=>by
  rw [H.md.n,al];by_cases e:s=o
  ·rw [if_pos e,<- e];exact ⟨λ_=>List.mem_cons_self ..,λ_=>Rec.za7 _ _⟩
  rw [if_neg e,h.di o];exact ⟨λh=>List.mem_cons_of_mem _ h,λh=>(List.mem_cons.1 h).resolve_left (Ne.symm e)⟩
 have cm:∀ j,Sto.ns y.d (nameS (nameS nT kk) j)=0:=λj=>Nat.eq_zero_of_not_pos λe=>ad _ ((bg _).1 e) j rfl;have cf:Has y fn w rows.length (rows.flatMap recB):=hH.far a4 cC;have bV:=zrE S3 a p b c wk q u fn (nameS nT kk) w m rows y T3 k2 a5 o' _ W (by rw [List.length_append];simp;omega) H.wt.ps b5 (by rw [ai];exact h.nb) bW ((h.us fn).fr_ ai) cf a8 ax h1 h8 hr vd cu (by rw [zco];decide) (by rw [zco];decide) (ad fn (List.mem_cons_of_mem _ bP)) cm (by rw [H.md.u,H.md.z,al];omega) (delo (S3.del q |>.del wk) o') ((zi0 _ _).trans ((zaS _ _).trans (zaS _ _))) (zf7 (.inl (by simp [Mem.del]))) (zf7 (.inl (by simp [Mem.del]))) (λt c e=>zf7 (.inr ⟨c,e⟩));have an:∀ {t:Nat} {k:Blk},S3.own t=some k->t≠q->t≠wk->Away o' t->(delo (S3.del q |>.del wk) o').own t=some k:=λht e1 e2 e3=>zed ((vj _ e2).trans ((vj _ e1).trans ht)) (λc e=>e3 _ c e rfl);refine r4_ ?_;refine rC (vi rfl rfl Er.neNil) ?_;refine r2_ ?_;refine cF_ ?_;refine r5_ ?_;refine cp_ rfl (zo5 S3 T3 a p b c wk u _ y 0 kk (s :: L) k2 W.own H.wt.ps bg cD ck aA) ?_;refine r8_ ?_;refine ca_ rfl (bV) ?_;rintro _ T4 ⟨Z,y3,o,ts,done,rfl,A⟩;have dl:done.length<=1:=by
  rcases A.mn with h | h
  ·omega
  by_cases q:done.length<=1
  ·exact q
  have:=Nat.mul_le_mul_right (sizeN m w) (show 1<=done.length-1 by omega);omega
 have af:=A.kb.own (an aC (Ne.symm bz) aq bA);have ac:=A.kb.own (an aL cw bt bO);have aN:K.Less (delo (S3.del q |>.del wk) o'):=zo7 (zaI (zaI cA cN) h.kw) bJ;have aQ:=aN.trans A.kb;have aY:∀ t c,o=some (t,c)->K.own t=none:=λt c e=>zaj aN (A.ko t c e);have aG : ¬ isRun (nameS nT kk) s:=λ⟨j,_,e⟩=>ad s (List.mem_cons_self ..) j e;have am:∀ o,Use y3 o 0 0:=λo=>by
  by_cases e:o=fn
  ·rw [e];exact A.us
  by_cases q:isRun (nameS nT kk) o
  ·obtain ⟨j,V,rfl⟩:=q;by_cases q2:j<done.length
   ·exact A.ud2 j q2
   refine zld λi hi hh hn=>?_;have hx:=zb0 (A.ps.ok i hi) hh;have a1:=hx.s0;have a2:=hx.s1;rw [hn,A.no j vd V] at a2;omega
  exact A.fa.u o (λh=>h.elim e q) ((h.us o).fr_ ai)
 have bM:Sto.nb y3.fr=0:=zub A.ps (λj V e=>by cases A.le j V e) am;have bK:=H.wt.wr.far A.fa aG;have ba:Sto.ns y3.d s=Rec.needN w rows.length:=(A.fa.n s aG).trans (by rw [H.md.n,if_pos rfl]);have I:=(a4.mono (D':=λo=>o=s\/isRun (nameS nT kk) o) (E':=isRunOr fn (nameS nT kk)) (λ_ e=>.inl e) (λ_ e=>e.elim) (Nat.le_refl _)).trans (A.fa.mono (λ_ e=>.inr e) (λ_ e=>e) (Nat.le_refl _));clear bV a7 bp be hh k2 hA Y an;refine r7_ ?_;refine kw_ [0,7,8,9,41,10,11] ?_;refine r4_ ?_;refine rC (vi rfl rfl Er.neNil) ?_;refine r2_ ?_;refine cF_ ?_;refine r15_ ?_;refine AWP.loop (X:=Nat × Option (Nat × Nat)) (λx=>[(0,self wk),(9,.pointer (some ⟨b9,0,none⟩)),(10,.string (nameS nT kk)),(12,outV x.2 x.1),(55,.int .i64 (done.length:Nat)),(56,.int .i64 (x.1:Nat))]) (λx=>outM T4 x.2 9 ((names (nameS nT kk) x.1).map .string)) (λx=>x.1<=done.length/\OkO T4 x.2 x.1/\(x.1=0->x.2=none)) (λx=>done.length-x.1) ((0,none)) ⟨rfl,rfl,rfl,rfl,rfl,rfl,trivial⟩ (Mem.Less.refl _) (⟨Nat.zero_le _,zbO _,λ_=>rfl⟩) ?_;rintro ⟨i,o2⟩ ⟨hi,J,h0⟩;(try dsimp only at *);replace hi:i<=done.length:=hi;replace J:OkO T4 o2 i:=J;replace h0:i=0->o2=none:=h0;by_cases q1:i<done.length
 ·refine r6_ ?_;refine cT_ ?_;refine r14_ ?_;refine cp_ rfl (Run.zfl (nameS nT kk) i _ (by rw [zco];decide) (by rw [zco];decide) vd) ?_;refine r10_ ?_;refine vu (zab rfl) za1 rfl rfl ?_;intro dm bE;have aH:=bE
  repeat ((with_reducible replace aH:=zaa aH);obtain ⟨aH,_⟩:=aH)
  refine vF (zab rfl) za1 rfl (by rw [List.length_map,ziZ]) (zcf J (by rw [List.length_map,ziZ]) bE) rfl (news:=[_]) rds_ rfl vd (by simp [Value.oneCell']) vd vd ?_;intro bn cn ce;refine r9_ ?_;refine ⟨(i+1,some (bn,cn)),?_,?_,?_,?_⟩<;>try dsimp only
  ·exact ⟨rfl,rfl,rfl,rfl,rfl,rfl,trivial⟩
  ·show Mem.Less (outM _ _ _ _) _;rw [zmu,List.map_append];exact Mem.Less.refl _
  ·exact ⟨q1,ce,λe=>by omega⟩
  omega
 obtain rfl:i=done.length:=by omega
 by_cases q2:done.length=0
 ·obtain rfl:o2=none:=h0 q2;obtain ⟨i4,bX⟩:=zcx A.ar;have cO:=zah A.ar A.wks.own;have cE:=zah A.ar ac
  (unfold arB at bX;rw [A.ln] at bX;unfold wkB at cO;unfold bxB at cE)
  refine AWP.less T4 (Mem.Less.refl _) ?_;have cq:=zj_ Z a p b c qw ⟨s,w,0,0,0,0⟩ y3 0 0 [] T4 ⟨A.ar,af,A.ps,am s,by show _<=_+if 0<0 then 1 else 0;rw [if_neg (Nat.lt_irrefl 0),bM];exact Nat.le_refl _,rfl,bK⟩ h1 h8 (show (0:Nat)<18446744073709551616 by decide) (by rw [A.ln];omega) (by rw [ba];exact Rec.za7 _ _);have aP:rows = []:=by
   have:=A.pm;rw [List.eq_nil_of_length_eq_zero q2] at this;exact List.nil_perm.1 this
  have ak:ts=ts0 ++ [s]:=by rw [A.te,q2];simp
  refine r6_ ?_;refine cF_ ?_;refine r15_ ?_;refine cp_ rfl (zsW m _ a8 ax) ?_;refine r7_ ?_;refine kw_ [0,9,10,12,55,56,57,16] ?_;refine s1_ ?_;refine AWP.label ?_;refine r3_ ?_;refine AWP.loop (X:=Unit) (λ_=>[(0,self wk),(9,.pointer (some ⟨b9,0,none⟩)),(12,outV none done.length)]) (λ_=>T4) (λ_=>0<1) (λ_=>0) (()) ⟨rfl,rfl,rfl,trivial⟩ (Mem.Less.refl _) (Nat.zero_lt_one) ?_;rintro _ hz;(try dsimp only at *);refine r11_ ?_;refine cT_ ?_;refine r3_ ?_;refine ca_ rfl (cq) ?_;rintro _ T5 ⟨rfl,y4,cM,aw⟩;refine cp_ rfl (zbc _ _) ?_;have bc:=zg3 (wt:=⟨s,w,0,0,0,0⟩) (out:=[]) h1 (λr hr=>by cases hr) aw rfl rfl rfl (by rw [ba,aP]);have C:=zhR aw;have a9:=zsZ (u:=u) (ts:=ts0 ++ [s]) (kk:=kk) (k:=Rec.needN w rows.length+rows.length+2) cM aw.ps aw.cl (λo=>C.u o (λe=>e.elim) (am o)) (Nat.le_zero.1 aw.nb) (C.l.trans A.ln) (by rw [<- ak];exact A.wks.set _ aq (A.wks.away af (by show ¬ 206=9;decide))) (zao aQ au) h.kw aY h.di aA ⟨(C.l.trans I.l),(C.z.trans I.z),by have:=C.q;have:=I.q;omega,λo J=>(C.n o (λe=>J (.inl e))).trans (I.n o J),λo j J V=>(C.v o j (λe=>J (.inl e)) (by rw [I.n o J];exact V)).trans (I.v o j J V),λo _ _=>C.u o (λe=>e.elim) (am o)⟩ (λo ⟨j,V,e⟩=>(C.n o (λe2=>aG (e2 ▸ ⟨j,V,e⟩))).trans (by rw [e];exact A.no j vd V)) bc;refine r10_ ?_;refine ano_ret ?_;refine ⟨_,T5,⟨_,_,rfl,rfl,rfl⟩,zae,?_⟩;exact ⟨rfl,[],by rw [aP],List.Pairwise.nil,a9⟩
 have aK:done.length=1:=by omega
 obtain ⟨gn,cn,rfl⟩:=J.some vd;obtain ⟨ch,du⟩:=J.own gn cn rfl;obtain ⟨j1,aF⟩:=zaz A.ar ch ⟨9,[.string (nameS (nameS nT kk) 0)],cn⟩;have eN:(names (nameS nT kk) done.length).map Value.string = [.string (nameS (nameS nT kk) 0)]:=by rw [aK];rfl
 rw [eN,aK];have cg:gn≠wk:=Ne.symm (j1.ne A.wks.own);have ah:=A.wks.set ⟨9,[.string (nameS (nameS nT kk) 0)],cn⟩ cg (λt c e=>j1.ne (A.wks.gro.own t c e).1);have bk:=zah aF ah.own;have cG:=zah aF ((vg Z _ (j1.ne ac)).trans ac);obtain ⟨i5,bR⟩:=zcx aF
 (unfold arB at bR;rw [A.ln] at bR;unfold wkB at bk;unfold bxB at cG)
 refine AWP.less (T4.set gn ⟨9,[.string (nameS (nameS nT kk) 0)],cn⟩) (Mem.Less.refl _) ?_;have aM:=(vg Z ⟨9,[.string (nameS (nameS nT kk) 0)],cn⟩ (j1.ne af)).trans af;have bh:=(vg Z ⟨9,[.string (nameS (nameS nT kk) 0)],cn⟩ (j1.ne ac)).trans ac;have aW:=vf Z gn ⟨9,[.string (nameS (nameS nT kk) 0)],cn⟩;have aV:=aQ.trans (vh Z gn ⟨9,[.string (nameS (nameS nT kk) 0)],cn⟩ j1.1);have ak:ts=(ts0 ++ [s]) ++ [nameS (nameS nT kk) 0]:=by rw [A.te,aK];rfl
 have bT:gn≠qw:=Ne.symm (j1.ne af);generalize c3:Z.set gn ⟨9,[.string (nameS (nameS nT kk) 0)],cn⟩=Z5 at *;have cR:sumL done=rows.length:=by unfold sumL;rw [<- List.length_flatten];exact A.pm.length_eq
 have bL:∀ j,(nameS (nameS nT kk) j).size=9:=λj=>by rw [zbM,zco]
 obtain ⟨d0,rfl⟩ : ∃ d0,done = [d0]:=List.length_eq_one_iff.1 aK;have bU:d0.length=rows.length:=by have:=A.pm.length_eq;simpa using this
 have bB:10*w*rows.length+10*w+512<=16384:=by
  have e:5*w*(1+2*rows.length+2)=5*w*1+5*w*(2*rows.length)+5*w*2:=by rw [Nat.mul_add,Nat.mul_add]
  have e2:5*w*(2*rows.length)=10*w*rows.length:=by rw [<- Nat.mul_assoc,Nat.mul_right_comm 5 w 2]
  omega
 have cx:=zuk (K:=Z5.del qw) (w:=w) (rows:=d0) (s:=s) (fn:=nameS (nameS nT kk) 0) (eu:=eu) (ev:=ev) aF ah.own A.ps A.cl (zaS _ _) (vN (g:=Value.string) (r:=⟨9,[.string (nameS (nameS nT kk) 0)],cn⟩) ((vj _ bT).trans aW) List.prefix_rfl rfl vd (by simp)) (A.dn 0 (by simp)) (by rw [bL];decide) h1 h8 vd ((vj _ br).trans bh) aM (by simp [Mem.del]) bM am bK (by rw [ba,bU]) (A.so d0 (by simp)).2.1 (A.so d0 (by simp)).1 (Ne.symm (ad s (List.mem_cons_self ..) 0)) (hE.less (zaI aV au)) (by rw [bU];exact bB) (by rw [A.ln];omega) (by rw [A.ln];exact ax);refine r6_ ?_;refine cF_ ?_;refine r10_ ?_;refine rC (Calm.load ze0 rfl (zcq bk rfl)) ?_;refine r4_ ?_;refine cp_ rfl (zsW m _ a8 ax) ?_;refine r8_ ?_;refine AWP.label ?_;refine r3_ ?_;refine AWP.loop (X:=Unit) (λ_=>[(0,self wk),(9,.pointer (some ⟨b9,0,none⟩)),(12,.slice (some ⟨gn,0,none⟩) 1 cn),(16,.int .i64 ((m-6:Nat):Int))]) (λ_=>T4.set gn ⟨9,[.string (nameS (nameS nT kk) 0)],cn⟩) (λ_=>0<1) (λ_=>0) (()) ⟨rfl,rfl,rfl,rfl,trivial⟩ (Mem.Less.refl _) (Nat.zero_lt_one) ?_;rintro _ hz;(try dsimp only at *);refine r11_ ?_;refine cF_ ?_;refine r9_ ?_;refine kw_ [0,9,12,16,82,89] ?_;refine cT_ ?_;refine r12_ ?_;refine ca_ rfl (cx) ?_;rintro _ T6 ⟨rfl,Z6,y6,bH,aX,cB,cL,bb,cH,aa,cP⟩;have bN:=(ah.del (Ne.symm aq) (ah.away aM (by show ¬ 206=9;decide))).less aX;have cI:∀ t ∈ ts0 ++ [s],t≠nameS (nameS nT kk) 0:=λt ht=>(List.mem_append.1 ht).elim (λh=>ad t (List.mem_cons_of_mem _ (cj t h)) 0) λh=>by rw [List.mem_singleton.1 h];exact ad s (List.mem_cons_self ..) 0
 have cY:ts.length=ts0.length+2:=by rw [ak];simp
 have ca:=zug T6 wk gn cn cn _ (zah bH (aX.own ((vj _ bT).trans aW))) (zo3 Z6 a p b c wk u o ts y6 (nameS (nameS nT kk) 0) (ts0.length+1) T6 bH bN vd vd (by subst ak;simp) (λj V da=>by subst ak;exact cI _ (by rw [List.getElem_append_left (by simp;simp at V;omega)];exact List.getElem_mem _)) cB (bb _) cL (by rw [aa.n _ (Ne.symm (ad s (List.mem_cons_self ..) 0))];exact (A.dn 0 vd).pos) (by rw [bL];decide));refine r7_ ?_;refine rC (vi rfl rfl Er.neNil) ?_;refine r2_ ?_;refine cF_ ?_;refine r6_ ?_;refine ca_ rfl (ca) ?_;rintro _ T7 ⟨rfl,Z7,y7,b7,ao,bv,b8⟩;have bm:ts.eraseIdx (ts0.length+1)=ts0 ++ [s]:=by rw [ak,List.eraseIdx_append_of_length_le (by simp)];simp
 have C:=ao.fa;have cK:s≠nameS (nameS nT kk) 0:=ad s (List.mem_cons_self ..) 0;have bc:=cP.far C cK;have a9:=zsZ (u:=u) (ts:=ts0 ++ [s]) (kk:=kk) (k:=Rec.needN w rows.length+rows.length+2) b7 ao.ps ao.cl (λo=>C.u o (λe=>e.elim) (bb o)) (Nat.le_zero.1 (by rw [<- cH];exact ao.nb)) (C.l.trans (aa.l.trans A.ln)) (by rw [<- bm];exact bv) (b8 K ((zaI aV au).trans aX) h.kw aY) h.kw aY h.di aA ⟨(C.l.trans (aa.l.trans I.l)),(C.z.trans (aa.z.trans I.z)),by have:=C.q;have:=aa.q;have:=I.q;omega,λo J=>(C.n o (λe=>J (.inr ⟨0,by decide,e⟩))).trans ((aa.n o (λe=>J (.inl e))).trans (I.n o J)),λo j J V=>(C.v o j (λe=>J (.inr ⟨0,by decide,e⟩)) (by rw [aa.n o (λe=>J (.inl e)),I.n o J];exact V)).trans ((aa.v o j (λe=>J (.inl e)) (by rw [I.n o J];exact V)).trans (I.v o j J V)),λo _ _=>C.u o (λe=>e.elim) (bb o)⟩ (λo ⟨j,V,e⟩=>by
  by_cases q3:j=0
  ·subst q3;rw [e];exact ao.n0
  rw [C.n o (λe2=>q3 (zf6 V (by decide) (e.symm.trans e2))),aa.n o (λe2=>aG (e2 ▸ ⟨j,V,e⟩)),e];exact A.no j vd V) bc
 refine r4_ ?_;refine ano_ret ?_;refine ⟨_,T7,⟨_,_,rfl,rfl,rfl⟩,zae,?_⟩;exact ⟨rfl,d0,by have:=A.pm;simpa using this,(A.so d0 (by simp)).1,a9⟩
end Sto
end
section
open Num Loser
namespace Ord
/-! ### A list's ends -/
def sl (l:List Nat) (a b:Nat):Bool:=lessB (l.drop a) (l.drop b)
theorem zdf (l:List Nat) (a:Nat):sl l a a=false:=zaD _
theorem zlk (l:List Nat) (a b:Nat) (h:sl l a b=true):sl l b a=false:=zjS _ _ h
theorem zfo (l:List Nat) (a b c:Nat) (A:sl l a b=true) (C:sl l b c=true):sl l a c=true:=zbu _ _ _ A C
theorem zfp (l:List Nat) (a b:Nat) (I:a<l.length) (H:b<l.length) (A:sl l a b=false) (C:sl l b a=false):a=b:=by
 have h:=congrArg List.length (za3 _ _ A C);simp only [List.length_drop] at h;omega
theorem zhT (l:List Nat) (a b:Nat) (C:a<l.length) (A:b<l.length):sl l a b=(decide (l[a]<l[b]) || (decide (l[a]=l[b]) && sl l (a+1) (b+1))):=by
 unfold sl;rw [List.drop_eq_getElem_cons C,List.drop_eq_getElem_cons A,lessB]
theorem zi1 (l:List Nat) (a b:Nat) (C:l.length<=a):sl l a b=decide (b<l.length):=by
 unfold sl;rw [List.drop_eq_nil_of_le C];by_cases A:b<l.length
 ·rw [List.drop_eq_getElem_cons A];simp [lessB,A]
 rw [List.drop_eq_nil_of_le vd];simp [lessB,A]
theorem zmx (l:List Nat) (a b:Nat) (A:l.length<=b):sl l a b=false:=by
 unfold sl;rw [List.drop_eq_nil_of_le A];cases l.drop a <;> rfl

/-! ### Sorted: there is one -/
theorem zmy (R:Nat->Nat->Prop) (hi:∀ a,¬R a a) (J:∀ a b c,R a b->R b c->R a c):∀ (x y:List Nat),x.Perm y->x.Pairwise R->y.Pairwise R->x=y:=by
 intro x
 induction x with
 | nil=>intro y h _ _;exact (List.nil_perm.1 h).symm
 | cons a x U =>
  intro y h V W;cases y with
  | nil=>exact absurd h.symm (List.not_perm_nil_cons _ _)
  | cons b y =>
   obtain ⟨H,A⟩:=List.pairwise_cons.1 V;obtain ⟨C,I⟩:=List.pairwise_cons.1 W;have e:a=b:=by
    rcases List.mem_cons.1 (h.mem_iff.1 (List.mem_cons_self (a:=a) (l:=x))) with e | e
    ·exact e
    rcases List.mem_cons.1 (h.mem_iff.2 (List.mem_cons_self (a:=b) (l:=y))) with e' | e'
    ·exact e'.symm
    exact absurd (J _ _ _ (H b e') (C a e)) (hi a)
   subst e;rw [U y ((List.perm_cons a).1 h) A I]
def SortedE (l e:List Nat):Prop:=e.Perm (List.range l.length)/\e.Pairwise (λa b=>sl l a b=true)
theorem zf8 {l e A:List Nat} (h:SortedE l e) (h':SortedE l A):e=A :=
 zmy (λa b=>sl l a b=true) (λa h=>by rw [zdf] at h;cases h) (λa b c=>zfo l a b c) _ _ (h.1.trans h'.1.symm) h.2 h'.2
theorem SortedE.len {l e:List Nat} (h:SortedE l e):e.length=l.length:=by rw [h.1.length_eq,List.length_range]
theorem SortedE.lt {l e:List Nat} (h:SortedE l e) {a:Nat} (A:a ∈ e):a<l.length:=List.mem_range.1 (h.1.mem_iff.1 A)

/-! ### The document's: each end is put where it belongs -/
def insAt (l out:List Nat) (i:Nat):Nat->Nat
  | 0=>0
  | at'+1=>if sl l i (out.getD at' 0) then insAt l out i at' else at'+1
def insE (l out:List Nat) (i:Nat):List Nat:=out.take (insAt l out i out.length) ++ i :: out.drop (insAt l out i out.length)
def endsR (l:List Nat):Nat->List Nat
  | 0=>[]
  | i+1=>insE l (endsR l i) i
theorem zll (l out:List Nat) (i:Nat):∀ n,insAt l out i n<=n
 | 0=>Nat.le_refl _
 | n+1=>by
  rw [insAt];split
  ·exact Nat.le_succ_of_le (zll l out i n)
  exact Nat.le_refl _
theorem zlm (l out:List Nat) (i:Nat):∀ n k,insAt l out i n<=k->k<n->sl l i (out.getD k 0)=true
 | 0,k,_,h=>absurd h (Nat.not_lt_zero _)
 | n+1,k,h1,h2=>by
  rw [insAt] at h1;split at h1
  ·rename_i hs;rcases Nat.lt_or_ge k n with h | h
   ·exact zlm l out i n k h1 h
   obtain rfl:k=n:=(by omega);exact hs
  omega
theorem zln (l out:List Nat) (i:Nat):∀ n,0<insAt l out i n->sl l i (out.getD (insAt l out i n-1) 0)=false
 | 0,h=>absurd h (Nat.not_lt_zero _)
 | n+1,h=>by
  rw [insAt] at h ⊢;split at h
  ·rename_i hs;rw [if_pos hs];exact zln l out i n h
  rename_i hs;rw [if_neg hs];simpa using hs
theorem zeS (l:List Nat):∀ i,(endsR l i).Perm (List.range i)
 | 0=>List.Perm.refl _
 | i+1=>by
  rw [endsR,insE,List.range_succ];refine List.perm_middle.trans ?_;rw [List.take_append_drop];exact ((zeS l i).cons i).trans (List.perm_append_singleton i _).symm
theorem ze3 (l:List Nat):∀ i,i<=l.length->(endsR l i).Pairwise (λa b=>sl l a b=true)
 | 0,_=>List.Pairwise.nil
 | i+1,hi=>by
  have ih:=ze3 l i vd;have hp:=zeS l i;have H:∀ a ∈ endsR l i,a<i:=λa C=>List.mem_range.1 (hp.mem_iff.1 C);rw [endsR,insE];generalize endsR l i=out at *;have af:=zll l out i out.length;have X:=zlm l out i out.length;have V:=zln l out i out.length;generalize insAt l out i out.length=k at *;have e:=List.take_append_drop k out;have U:(out.take k ++ out.drop k).Pairwise (λa b=>sl l a b=true):=by rw [e];exact ih
  obtain ⟨p1,p2,p3⟩:=List.pairwise_append.1 U;have J:∀ a ∈ out.take k,sl l a i=true:=by
   intro a C;have hm:a ∈ out:=List.mem_of_mem_take C;obtain ⟨j,W,rfl⟩:=List.getElem_of_mem C;have Y:j<k/\j<out.length:=(by rw [List.length_take] at W;omega);have h0:=V vd;have A:sl l out[k-1] i=true:=by
    have hn:out[k-1]≠i:=λh=>(by have:=H out[k-1] (List.getElem_mem _);omega);rw [List.getD_eq_getElem?_getD,List.getElem?_eq_getElem vd,Option.getD_some] at h0;cases hc:sl l out[k-1] i with
    | true=>rfl
    | false=>exact absurd (zfp l _ _ (by have:=H out[k-1] (List.getElem_mem _);omega) vd hc h0) hn
   simp only [List.getElem_take];rcases Nat.lt_or_ge j (k-1) with h | h
   ·exact zfo l _ _ _ (List.pairwise_iff_getElem.1 ih j (k-1) Y.2 vd h) A
   obtain rfl:j=k-1:=(by omega);exact A
  have I:∀ a ∈ out.drop k,sl l i a=true:=by
   intro a C;obtain ⟨j,W,rfl⟩:=List.getElem_of_mem C;have Y:j+k<out.length:=(by simp at W;omega);have:=X (k+j) vd vd;rw [List.getD_eq_getElem?_getD,List.getElem?_eq_getElem vd,Option.getD_some] at this;simpa only [List.getElem_drop] using this
  refine List.pairwise_append.2 ⟨p1,List.pairwise_cons.2 ⟨I,p2⟩,λa C b hb=>?_⟩;rcases List.mem_cons.1 hb with rfl | hb
  ·exact J a C
  exact p3 a C b hb
theorem zdt (l:List Nat):SortedE l (endsR l l.length):=⟨zeS l _,ze3 l _ (Nat.le_refl _)⟩

/-! ### Right: each is less than the next one by its first number, or by the place of what is behind that -/
def behind (n:Nat) (at_:Nat->Nat) (a:Nat):Nat:=if a+1<n then at_ (a+1)+1 else 0
def stepR (l:List Nat) (at_:Nat->Nat) (a b:Nat):Prop:=l.getD a 0<l.getD b 0\/l.getD a 0=l.getD b 0/\behind l.length at_ a<behind l.length at_ b
theorem zkh (l:List Nat) (at_:Nat->Nat) (a b c:Nat) (A:stepR l at_ a b) (C:stepR l at_ b c):stepR l at_ a c:=by
 unfold stepR at *;omega
theorem zlo {R:Nat->Nat->Prop} (H:∀ a b c,R a b->R b c->R a c) (e:List Nat) (h:∀ k (J:k+1<e.length),R (e[k]'vd) e[k+1]):∀ (i j:Nat) (A:j<e.length) (C:i<j),R (e[i]'vd) e[j]:=by
 intro i j
 induction j with
 | zero=>intro _ h;omega
 | succ j I =>
  intro A C;rcases Nat.lt_or_ge i j with h' | h'
  ·exact H _ _ _ (I vd h') (h j A)
  obtain rfl:i=j:=by omega
  exact h i A
theorem zi2 (l e:List Nat) (at_:Nat->Nat) (hp:e.Perm (List.range l.length)) (I:∀ k (C:k<e.length),at_ e[k]=k) (h:∀ k (C:k+1<e.length),stepR l at_ (e[k]'vd) e[k+1]):SortedE l e:=by
 have ai:e.length=l.length:=by rw [hp.length_eq,List.length_range]
 have ac:=zlo (zkh l at_) e h;have X:∀ k (C:k<e.length),e[k]<l.length:=λk C=>List.mem_range.1 (hp.mem_iff.1 (List.getElem_mem C));have H:∀ a,a<l.length->at_ a<e.length/\e.getD (at_ a) 0=a:=by
  intro a U;obtain ⟨k,C,rfl⟩:=List.getElem_of_mem (hp.mem_iff.2 (List.mem_range.2 U));rw [I k C];exact ⟨C,by rw [List.getD_eq_getElem?_getD,List.getElem?_eq_getElem C];rfl⟩
 have key:∀ m a b,a<l.length->b<l.length->l.length-a<=m->at_ a<at_ b->sl l a b=true:=by
  intro m
  induction m with
  | zero=>intro a b U _ hm;omega
  | succ m ih =>
   intro a b U hb hm ah;obtain ⟨ae,W⟩:=H a U;obtain ⟨Y,V⟩:=H b hb;have hs:=ac (at_ a) (at_ b) Y ah;rw [List.getD_eq_getElem?_getD,List.getElem?_eq_getElem ae,Option.getD_some] at W;rw [List.getD_eq_getElem?_getD,List.getElem?_eq_getElem Y,Option.getD_some] at V;rw [W,V] at hs;rw [zhT l a b U hb];unfold stepR at hs;rw [List.getD_eq_getElem?_getD,List.getElem?_eq_getElem U,Option.getD_some,List.getD_eq_getElem?_getD,List.getElem?_eq_getElem hb,Option.getD_some] at hs;rcases hs with hs | ⟨hs,A⟩
   ·simp [hs]
   have:sl l (a+1) (b+1)=true:=by
    unfold behind at A;by_cases h1:a+1<l.length
    ·rw [if_pos h1] at A;by_cases J:b+1<l.length
     ·rw [if_pos J] at A;exact ih (a+1) (b+1) h1 J vd vd
     rw [if_neg J] at A;omega
    rw [if_neg h1] at A;rw [zi1 l _ _ vd];by_cases J:b+1<l.length
    ·simpa using J
    rw [if_neg J] at A;omega
   simp [hs,this]
 refine ⟨hp,List.pairwise_iff_getElem.2 λi j hi hj ad=>?_⟩;exact key _ _ _ (X i hi) (X j hj) (Nat.le_refl _) (by rw [I i hi,I j hj];exact ad)
theorem zi3 (l e:List Nat) (at_:Nat->Nat) (hs:SortedE l e) (W:∀ k (A:k<e.length),at_ e[k]=k) (k:Nat) (A:k+1<e.length):stepR l at_ (e[k]'vd) e[k+1]:=by
 have J:∀ k (A:k<e.length),e[k]<l.length:=λk A=>hs.lt (List.getElem_mem A);have C:∀ a,a<l.length -> ∃ k,∃ A:k<e.length,e[k]=a/\at_ a=k:=by
  intro a U;obtain ⟨k,A,rfl⟩:=List.getElem_of_mem (hs.1.mem_iff.2 (List.mem_range.2 U));exact ⟨k,A,rfl,W k A⟩
 have H:=List.pairwise_iff_getElem.1 hs.2 k (k+1) vd A vd;have U:=J k vd;have X:=J (k+1) A;generalize e[k]=a at *;generalize e[k+1]=b at *;rw [zhT l a b U X] at H;unfold stepR;rw [List.getD_eq_getElem?_getD,List.getElem?_eq_getElem U,Option.getD_some,List.getD_eq_getElem?_getD,List.getElem?_eq_getElem X,Option.getD_some];simp only [Bool.or_eq_true,decide_eq_true_eq,Bool.and_eq_true] at H;rcases H with h | ⟨h,I⟩
 ·exact .inl h
 refine .inr ⟨h,?_⟩;unfold behind;by_cases h1:b+1<l.length
 ·rw [if_pos h1];by_cases V:a+1<l.length
  ·rw [if_pos V];obtain ⟨i,hi,ei,e1⟩:=C (a+1) V;obtain ⟨j,hj,Y,e2⟩:=C (b+1) h1;rw [e1,e2];rcases Nat.lt_trichotomy i j with h4 | h4 | h4
   ·omega
   ·subst h4;rw [<- ei,<- Y,zdf] at I;cases I
   have:=zlk l _ _ (List.pairwise_iff_getElem.1 hs.2 j i hj hi h4);rw [ei,Y] at this;rw [this] at I;cases I
  rw [if_neg V];omega
 rw [zmx l _ _ vd] at I;cases I

/-! ### Doubling -/
def pl (l:List Nat) (k a b:Nat):Bool:=lessB ((l.drop a).take k) ((l.drop b).take k)
theorem ze4:∀ (x y u v:List Nat),(x.length<y.length->u = [])->(y.length<x.length->v = [])->lessB (x ++ u) (y ++ v)=(lessB x y || (decide (x=y) && lessB u v))
 | [],[],u,v,_,_=>by simp [lessB]
 | [],y :: ys,u,v,h,_=>by rw [h (by simp)];simp [lessB]
 | x :: xs,[],u,v,_,h=>by rw [h (by simp)];simp [lessB]
 | x :: xs,y :: ys,u,v,h1,h2=>by
  have A:=ze4 xs ys u v (λh=>h1 (by simpa using h)) (λh=>h2 (by simpa using h));simp only [List.cons_append,lessB,A,List.cons.injEq,Bool.decide_and];by_cases h:x=y <;> by_cases h':x<y <;> simp [h,h'] <;> omega
def RK (l:List Nat) (k:Nat) (r:Nat->Nat):Prop:=∀ a b,a<l.length->b<l.length->(r a<r b <-> pl l k a b=true)
def beh (n:Nat) (r:Nat->Nat) (k a:Nat):Nat:=if a+k<n then r (a+k)+1 else 0
theorem RK.eq {l:List Nat} {k:Nat} {r:Nat->Nat} (h:RK l k r) {a b:Nat} (I:a<l.length) (H:b<l.length):r a=r b <-> (l.drop a).take k=(l.drop b).take k:=by
 have C:=h a b I H;have A:=h b a H I;unfold pl at C A;constructor
 ·intro e;refine za3 _ _ ?_ ?_
  ·cases hc:lessB ((l.drop a).take k) ((l.drop b).take k) with
   | false=>rfl
   | true=>have:=C.2 hc;omega
  cases hc:lessB ((l.drop b).take k) ((l.drop a).take k) with
  | false=>rfl
  | true=>have:=A.2 hc;omega
 intro e;rw [e,zaD] at C;rw [e,zaD] at A;have J : ¬ r a<r b:=λh=>Bool.noConfusion (C.1 h);have U : ¬ r b<r a:=λh=>Bool.noConfusion (A.1 h);omega
theorem zo_ (l:List Nat) (k:Nat) (X:0<k) (r:Nat->Nat) (h:RK l k r) (a b:Nat) (V:a<l.length) (U:b<l.length) :
  pl l (k+k) a b=true <-> r a<r b\/r a=r b/\beh l.length r k a<beh l.length r k b:=by
 have e:∀ c,(l.drop c).take (k+k)=(l.drop c).take k ++ (l.drop (c+k)).take k:=λc=>by rw [List.take_add,List.drop_drop]
 have W:∀ c d,((l.drop c).take k).length<((l.drop d).take k).length->(l.drop (c+k)).take k = []:=λc d I=>by
  rw [List.drop_eq_nil_of_le (by simp only [List.length_take,List.length_drop] at I;omega),List.take_nil]
 have H:pl l (k+k) a b=(pl l k a b || (decide ((l.drop a).take k=(l.drop b).take k) && pl l k (a+k) (b+k))):=by
  unfold pl;rw [e,e,ze4 _ _ _ _ (W a b) (W b a)]
 rw [H];simp only [Bool.or_eq_true,Bool.and_eq_true,decide_eq_true_eq];rw [<- h a b V U,<- h.eq V U];have A:pl l k (a+k) (b+k)=true <-> beh l.length r k a<beh l.length r k b:=by
  unfold beh;by_cases C:b+k<l.length
  ·rw [if_pos C];by_cases J:a+k<l.length
   ·rw [if_pos J,<- h _ _ J C];omega
   rw [if_neg J];unfold pl;obtain ⟨k',rfl⟩ : ∃ k',k=k'+1:=⟨k-1,by omega⟩;rw [List.drop_eq_nil_of_le vd,List.take_nil,List.drop_eq_getElem_cons C,List.take_succ_cons];simp [lessB]
  rw [if_neg C];unfold pl;rw [(show l.drop (b+k) = [] from List.drop_eq_nil_of_le vd),List.take_nil];constructor
  ·intro h';cases hc:((l.drop (a+k)).take k) <;> rw [hc] at h' <;> cases h'
  intro h';omega
 rw [A]
theorem zwm (l:List Nat) (k a b:Nat) (A:l.length<=k):pl l k a b=sl l a b:=by
 unfold pl sl;rw [List.take_of_length_le (by simp;omega),List.take_of_length_le (by simp;omega)]

/-! ### The ranks that a sorted list gives -/
def ups (R:Nat->Nat->Bool) (e:List Nat):Nat->Nat
  | 0=>0
  | i+1=>ups R e i+(if R (e.getD i 0) (e.getD (i+1) 0) then 1 else 0)
theorem zfq (R:Nat->Nat->Bool) (e:List Nat) (i:Nat):∀ j,i<=j->ups R e i<=ups R e j
 | 0,h=>by
  obtain rfl:i=0:=by omega
  exact Nat.le_refl _
 | j+1,h=>by
  rcases Nat.lt_or_ge i (j+1) with h' | h'
  ·exact Nat.le_trans (zfq R e i j vd) (Nat.le_add_right _ _)
  obtain rfl:i=j+1:=by omega
  exact Nat.le_refl _
theorem zwn (R:Nat->Nat->Bool) (hi:∀ a,R a a=false) (V:∀ a b c,R a b=true->R b c=true->R a c=true) (C:∀ a b c,R a b=false->R b c=false->R a c=false)
  (e:List Nat) (hs:∀ i j,i<j->j<e.length->R (e.getD j 0) (e.getD i 0)=false):∀ i j,i<=j->j<e.length->(ups R e i<ups R e j <-> R (e.getD i 0) (e.getD j 0)=true):=by
 intro i j
 induction j with
 | zero =>
  intro h _;obtain rfl:i=0:=by omega
  rw [hi];simp
 | succ j I =>
  intro h U;rcases Nat.lt_or_ge i (j+1) with h' | h'
  ·have H:=I vd vd;have W:=zfq R e i j vd;have s1:R (e.getD j 0) (e.getD i 0)=false:=by
    rcases Nat.lt_or_ge i j with h2 | h2
    ·exact hs i j h2 vd
    obtain rfl:i=j:=(by omega);exact hi _
   have J:=hs j (j+1) vd U;rw [ups];cases hc:R (e.getD j 0) (e.getD (j+1) 0) with
   | true =>
    refine ⟨λ_=>?_,λ_=>by simp;omega⟩;cases hd:R (e.getD i 0) (e.getD (j+1) 0) with
    | true=>rfl
    | false=>rw [C _ _ _ s1 hd] at hc;cases hc
   | false =>
    simp only [Bool.false_eq_true,if_false,Nat.add_zero];rw [H];constructor
    ·intro A;cases hd:R (e.getD i 0) (e.getD (j+1) 0) with
     | true=>rfl
     | false=>rw [C _ _ _ hd J] at A;cases A
    intro A;cases hd:R (e.getD i 0) (e.getD j 0) with
    | true=>rfl
    | false=>rw [C _ _ _ hd hc] at A;cases A
  obtain rfl:i=j+1:=by omega
  rw [hi];simp

theorem zi4 (a b c:List Nat) (H:lessB a b=false) (A:lessB b c=false):lessB a c=false:=by
 cases h:lessB a c with
 | false=>rfl
 | true =>
  cases C:lessB b a with
  | true=>rw [zbu _ _ _ C h] at A;cases A
  | false=>rw [<- za3 _ _ H C,h] at A;cases A
theorem zwo (l:List Nat) (k:Nat) (e:List Nat) (V:e.Perm (List.range l.length)) (hs:∀ i j,i<j->j<e.length->pl l k (e.getD j 0) (e.getD i 0)=false) (r:Nat->Nat)
  (I:∀ i,i<e.length->r (e.getD i 0)=ups (pl l k) e i):RK l k r:=by
 have A:∀ a,a<l.length -> ∃ i,i<e.length/\e.getD i 0=a:=by
  intro a C;obtain ⟨i,hi,rfl⟩:=List.getElem_of_mem (V.mem_iff.2 (List.mem_range.2 C));exact ⟨i,hi,by rw [List.getD_eq_getElem?_getD,List.getElem?_eq_getElem hi];rfl⟩
 have H:=zwn (pl l k) (λ_=>zaD _) (λ_ _ _=>zbu _ _ _) (λ_ _ _=>zi4 _ _ _) e hs;intro a b C U;obtain ⟨i,hi,rfl⟩:=A a C;obtain ⟨j,J,rfl⟩:=A b U;rw [I i hi,I j J];rcases Nat.lt_or_ge j i with h | h
 ·rw [hs j i h hi];have:=zfq (pl l k) e j i vd;constructor
  ·intro h';omega
  intro h';cases h'
 exact H i j h J
theorem zpa (l:List Nat) (k:Nat) (H:l.length<=k) (e:List Nat) (J:e.Perm (List.range l.length)) (hs:∀ i j,i<j->j<e.length->pl l k (e.getD j 0) (e.getD i 0)=false):SortedE l e:=by
 refine ⟨J,List.pairwise_iff_getElem.2 λi j hi I C=>?_⟩;have h:=hs i j C I;rw [zwm l k _ _ H,List.getD_eq_getElem?_getD,List.getElem?_eq_getElem I,List.getD_eq_getElem?_getD,List.getElem?_eq_getElem hi,Option.getD_some,Option.getD_some] at h;have A:∀ k (H:k<e.length),e[k]<l.length:=λk H=>List.mem_range.1 (J.mem_iff.1 (List.getElem_mem H));cases hc:sl l e[i] e[j] with
 | true=>rfl
 | false =>
  have V:=zfp l _ _ (A j I) (A i hi) h hc;have U:e.Nodup:=J.nodup_iff.2 List.nodup_range;exact absurd V.symm (List.pairwise_iff_getElem.1 U i j hi I C)
theorem zwp (l:List Nat) (r:Nat->Nat) (h:∀ a b (C:a<l.length) (A:b<l.length),r a<r b <-> l[a]<l[b]):RK l 1 r:=by
 intro a b C A;rw [h a b C A];unfold pl;rw [List.drop_eq_getElem_cons C,List.drop_eq_getElem_cons A];show _ <-> lessB [l[a]] [l[b]]=true;simp [lessB]

/-! ### What two ends have in common -/
end Ord
end
section
open Num Loser
namespace Skew
/-! ### The samples' places -/
def endP (n:Nat):Nat:=if n % 3=1 then n+1 else n
def restP (r m:Nat):List Nat:=(List.range m).filter (λi=>decide (i % 3=r))
def places (n:Nat):List Nat:=restP 1 (endP n) ++ restP 2 (endP n)
theorem zbx (r m:Nat):restP r (m+1)=restP r m ++ (if m % 3=r then [m] else []):=by
 unfold restP;rw [List.range_succ,List.filter_append];congr 1;by_cases h:m % 3=r <;> simp [h]
theorem zaX (r:Nat) (A:r<3):∀ m,(restP r m).length=(m+2-r) / 3
 | 0=>by
  have:restP r 0 = []:=rfl;rw [this];show 0=_;omega
 | m+1=>by
  rw [zbx,List.length_append,zaX r A m];by_cases h:m % 3=r
  ·rw [if_pos h];show _+1=_;omega
  rw [if_neg h];show _+0=_;omega
theorem zei (n:Nat):(places n).length=(endP n+1) / 3+endP n / 3:=by
 unfold places;rw [List.length_append,zaX 1 vd,zaX 2 vd];omega
theorem zmz (n:Nat):(places n).length<=2*n / 3+1:=by
 rw [zei];unfold endP;split <;> omega
theorem zlp (r:Nat) (I:r<3) (m k:Nat) (A:k<(restP r m).length):(restP r m)[k]=3*k+r:=by
 induction m with
 | zero=>exact absurd A (Nat.not_lt_zero _)
 | succ m H =>
  have J:=zaX r I m;simp only [zbx] at A ⊢;rw [List.getElem_append];split
  ·rename_i h;exact H h
  rename_i h;by_cases C:m % 3=r
  ·simp only [C,if_true,List.length_append,List.length_singleton] at A ⊢;rw [List.getElem_singleton];omega
  simp only [C,if_false,List.append_nil] at A;omega
theorem zmA (n i:Nat):i ∈ places n <-> i<endP n/\i % 3≠0:=by
 unfold places restP;simp only [List.mem_append,List.mem_filter,List.mem_range,decide_eq_true_eq];omega

/-! ### Names -/
def firstK (K:Nat->List Nat) (j:Nat):Bool:=(List.range j).all (λz=>decide (K z≠K j))
theorem zf9 (K:Nat->List Nat):∀ (m a:Nat),a<m->(List.range m).countP (λj=>firstK K j && decide (K j=K a))=1
 | 0,_,h=>absurd h (Nat.not_lt_zero _)
 | m+1,a,ha=>by
  rw [List.range_succ,List.countP_append];by_cases H:∃ b,b<m/\K b=K a
  ·obtain ⟨b,C,e⟩:=H;rw [<- e,zf9 K m b C];have:(firstK K m && decide (K m=K b))=false:=by
    by_cases h:K m=K b
    ·have:firstK K m=false:=by
      unfold firstK;rw [List.all_eq_false];exact ⟨b,List.mem_range.2 C,by simp [h]⟩
     rw [this];rfl
    simp [h]
   simp [this]
  have A:∀ b,b<m->K b≠K a:=λb C e=>H ⟨b,C,e⟩;obtain rfl:a=m:=by
   rcases Nat.lt_or_ge a m with h | h
   ·exact absurd rfl (A a h)
   omega
  have V:(List.range a).countP (λj=>firstK K j && decide (K j=K a))=0:=by
   rw [List.countP_eq_zero];intro j U;simp [A j (List.mem_range.1 U)]
  have J:firstK K a=true:=by
   unfold firstK;rw [List.all_eq_true];intro z I;simp [A z (List.mem_range.1 I)]
  rw [V];simp [J]
theorem zeT {p q r:Nat->Bool}:∀ (l:List Nat),(∀ j ∈ l,p j=(q j || r j)/\(q j=true->r j=false))->l.countP p=l.countP q+l.countP r
 | [],_=>rfl
 | x :: l,h=>by
  have C:=zeT (p:=p) (q:=q) (r:=r) l (λj H=>h j (List.mem_cons_of_mem _ H));obtain ⟨J,A⟩:=h x (List.mem_cons_self (a:=x) (l:=l));rw [List.countP_cons,List.countP_cons,List.countP_cons,C,J];cases I:q x with
  | true=>rw [A I];simp;omega
  | false=>cases r x <;> simp <;> omega
theorem zf_ (K:Nat->List Nat) (m:Nat) (e:List Nat) (X:e.Perm (List.range m)) (hs:∀ i j,i<j->j<e.length->lessB (K (e.getD j 0)) (K (e.getD i 0))=false) :
  ∀ i,i<e.length->Ord.ups (λa b=>lessB (K a) (K b)) e i=(List.range m).countP (λj=>firstK K j && lessB (K j) (K (e.getD i 0))):=by
 have A:∀ a,a<m -> ∃ i,i<e.length/\e.getD i 0=a:=by
  intro a ha;obtain ⟨i,hi,rfl⟩:=List.getElem_of_mem (X.mem_iff.2 (List.mem_range.2 ha));exact ⟨i,hi,by rw [List.getD_eq_getElem?_getD,List.getElem?_eq_getElem hi];rfl⟩
 have V:∀ i,i<e.length->e.getD i 0<m:=λi hi=>by
  rw [List.getD_eq_getElem?_getD,List.getElem?_eq_getElem hi];exact List.mem_range.1 (X.mem_iff.1 (List.getElem_mem hi))
 intro i
 induction i with
 | zero =>
  intro h0;symm;rw [Ord.ups,List.countP_eq_zero];intro j U;obtain ⟨q,C,rfl⟩:=A j (List.mem_range.1 U);rcases Nat.eq_zero_or_pos q with rfl | h
  ·simp [zaD]
  rw [hs 0 q h C,Bool.and_false];exact Bool.noConfusion
 | succ i Y =>
  intro hi;have J:=Y vd;have hr:=hs i (i+1) vd hi;rw [Ord.ups,J];cases hc:lessB (K (e.getD i 0)) (K (e.getD (i+1) 0)) with
  | false =>
   have he:=za3 _ _ hc hr;rw [he];simp
  | true =>
   rw [if_pos rfl];refine Eq.symm ((zeT (q:=λj=>firstK K j && lessB (K j) (K (e.getD i 0))) (r:=λj=>firstK K j && decide (K j=K (e.getD i 0))) _ λj U=>?_).trans (by rw [zf9 K m _ (V i vd)]));obtain ⟨q,C,rfl⟩:=A j (List.mem_range.1 U);have key:lessB (K (e.getD q 0)) (K (e.getD (i+1) 0))=(lessB (K (e.getD q 0)) (K (e.getD i 0)) || decide (K (e.getD q 0)=K (e.getD i 0))):=by
    rcases Nat.lt_trichotomy q i with h | h | h
    ·have W:=hs q i h vd;cases H:lessB (K (e.getD q 0)) (K (e.getD i 0)) with
     | true=>rw [zbu _ _ _ H hc];rfl
     | false=>rw [za3 _ _ H W,hc];simp
    ·subst h;rw [hc];simp
    have H:=hs i q h C;have I:lessB (K (e.getD q 0)) (K (e.getD (i+1) 0))=false:=by
     rcases Nat.lt_or_ge (i+1) q with h3 | h3
     ·exact hs (i+1) q h3 C
     obtain rfl:q=i+1:=(by omega);exact zaD _
    have h4:K (e.getD q 0)≠K (e.getD i 0):=λh=>(by rw [h,hc] at I;cases I);rw [H,I,decide_eq_false h4];rfl
   refine ⟨by rw [key,Bool.and_or_distrib_left],λh=>?_⟩;simp only [Bool.and_eq_true] at h;have:K (e.getD q 0)≠K (e.getD i 0):=λh'=>(by rw [h',zaD] at h;exact Bool.noConfusion h.2);show (_ && decide _)=false;rw [decide_eq_false this,Bool.and_false]

/-! ### Numbers from 1 on: 0 behind the end -/
def at0 (l:List Nat) (i:Nat):Nat:=l.getD i 0
theorem zg7 (l:List Nat) (U:∀ x ∈ l,1<=x) (a b:Nat):Ord.sl l a b=(decide (at0 l a<at0 l b) || (decide (at0 l a=at0 l b) && Ord.sl l (a+1) (b+1))):=by
 have C:∀ i (h:i<l.length),at0 l i=l[i]/\1<=at0 l i:=λi h=>by
  have e:at0 l i=l[i]:=by unfold at0;rw [List.getD_eq_getElem?_getD,List.getElem?_eq_getElem h];rfl
  exact ⟨e,by rw [e];exact U _ (List.getElem_mem h)⟩
 have A:∀ i,l.length<=i->at0 l i=0:=λi h=>by unfold at0;rw [List.getD_eq_getElem?_getD,List.getElem?_eq_none h];rfl
 by_cases I:a<l.length
 ·obtain ⟨J,V⟩:=C a I;by_cases H:b<l.length
  ·rw [Ord.zhT l a b I H,J,(C b H).1]
  rw [Ord.zmx l a b vd,A b vd,decide_eq_false vd,decide_eq_false vd];rfl
 rw [A a vd,Ord.zi1 l a b vd];by_cases H:b<l.length
 ·have:=(C b H).2;rw [decide_eq_true H,decide_eq_true (by omega:0<at0 l b)];rfl
 rw [A b vd,Ord.zmx l (a+1) (b+1) vd,decide_eq_false H];simp
def tri (l:List Nat) (i:Nat):List Nat:=[at0 l i,at0 l (i+1),at0 l (i+2)]
theorem zwq (l:List Nat) (A:∀ x ∈ l,1<=x) (a b:Nat):Ord.sl l a b=(lessB (tri l a) (tri l b) || (decide (tri l a=tri l b) && Ord.sl l (a+3) (b+3))):=by
 rw [zg7 l A a b,zg7 l A (a+1) (b+1),zg7 l A (a+2) (b+2)];simp only [tri,lessB,List.cons.injEq,and_true,Bool.decide_and];cases Ord.sl l (a+2+1) (b+2+1) <;> simp [Bool.or_assoc,Bool.and_or_distrib_left]
end Skew
end
section
open Num Loser
namespace Skew
/-! ### The places, told -/
def numP (n:Nat):Nat:=(places n).length
def plc (n k:Nat):Nat:=(places n).getD k 0
theorem zdR (n:Nat):numP n=(endP n+1) / 3+endP n / 3:=zei n
theorem ze5 (n k:Nat) (A:k<numP n):plc n k=if k<(endP n+1) / 3 then 3*k+1 else 3*(k-(endP n+1) / 3)+2:=by
 have C:(restP 1 (endP n)).length=(endP n+1) / 3:=by rw [zaX 1 vd];omega
 unfold plc numP at *;rw [List.getD_eq_getElem?_getD,List.getElem?_eq_getElem A,Option.getD_some];unfold places at A ⊢;rw [List.getElem_append];split
 ·rename_i h;rw [if_pos vd,zlp 1 vd]
 rename_i h;rw [if_neg vd,zlp 2 vd,C]
theorem zdg (n:Nat):endP n=n/\n % 3≠1\/endP n=n+1/\n % 3=1:=by unfold endP;split <;> omega
theorem zdA (n k:Nat) (A:k<numP n):plc n k<endP n/\plc n k % 3≠0/\plc n k<=n:=by
 have h:=ze5 n k A;rw [zdR] at A;have C:=zdg n;generalize endP n=E at *;split at h <;> omega
theorem zki (n k k':Nat) (H:k<numP n) (A:k'<numP n) (h:plc n k=plc n k'):k=k':=by
 have C:=ze5 n k H;have I:=ze5 n k' A;split at C <;> split at I <;> omega
theorem zhU (n k:Nat) (I:k<numP n) (h:plc n k+2<n):(k+1<numP n/\plc n (k+1)=plc n k+3)\/(k+1=numP n/\plc n k+3=n):=by
 have C:=ze5 n k I;have U:=zdR n;by_cases A:k+1<numP n
 ·refine .inl ⟨A,?_⟩;have H:=ze5 n (k+1) A;have J:=zdg n;generalize endP n=E at *;split at C <;> split at H <;> omega
 refine .inr ⟨by omega,?_⟩;have J:=zdg n;generalize endP n=E at *;split at C <;> omega
theorem zlq (n i:Nat) (hi:i<endP n) (C:i % 3≠0):∃ k,k<numP n/\plc n k=i:=by
 have H:=zdR n;by_cases h:i % 3=1
 ·have A:i / 3<numP n:=by omega
  exact ⟨i / 3,A,by rw [ze5 n _ A,if_pos vd];omega⟩
 have A:(endP n+1) / 3+i / 3<numP n:=by omega
 exact ⟨(endP n+1) / 3+i / 3,A,by rw [ze5 n _ A,if_neg vd];omega⟩

/-! ### Names -/
def nameOf (K:Nat->List Nat) (m k:Nat):Nat:=1+(List.range m).countP (λj=>firstK K j && lessB (K j) (K k))
theorem zrK (K:Nat->List Nat) (m a:Nat) (H:a<m):∃ j,j<m/\firstK K j=true/\K j=K a:=by
 have h:=zf9 K m a H;have C:0<(List.range m).countP (λj=>firstK K j && decide (K j=K a)):=by omega
 obtain ⟨j,I,A⟩:=List.countP_pos_iff.1 C;simp only [Bool.and_eq_true,decide_eq_true_eq] at A;exact ⟨j,List.mem_range.1 I,A.1,A.2⟩
theorem zhV (K:Nat->List Nat) (m a b:Nat) (H:a<m) (h:lessB (K a) (K b)=true):nameOf K m a<nameOf K m b:=by
 unfold nameOf;have e:=zeT (p:=λj=>firstK K j && lessB (K j) (K b)) (q:=λj=>firstK K j && lessB (K j) (K a)) (r:=λj=>firstK K j && (lessB (K j) (K b) && !lessB (K j) (K a))) (List.range m) (λj _=>by
  refine ⟨?_,λh'=>?_⟩
  ·show (firstK K j && lessB (K j) (K b))=_;cases A:firstK K j with
   | false=>rfl
   | true =>
    cases J:lessB (K j) (K a) with
    | true=>rw [zbu _ _ _ J h];rfl
    | false=>simp
  simp only [Bool.and_eq_true] at h';show (firstK K j && (lessB (K j) (K b) && !lessB (K j) (K a)))=false;rw [h'.2];simp)
 obtain ⟨j,I,A,C⟩:=zrK K m a H;have U:0<(List.range m).countP (λj=>firstK K j && (lessB (K j) (K b) && !lessB (K j) (K a))) :=
  List.countP_pos_iff.2 ⟨j,List.mem_range.2 I,by show (firstK K j && (lessB (K j) (K b) && !lessB (K j) (K a)))=true;rw [A,C,h,zaD];rfl⟩
 omega
theorem zum (K:Nat->List Nat) (m a b:Nat) (I:a<m) (C:b<m):nameOf K m a<nameOf K m b <-> lessB (K a) (K b)=true:=by
 refine ⟨λh=>?_,zhV K m a b I⟩;cases H:lessB (K a) (K b) with
 | true=>rfl
 | false =>
  cases A:lessB (K b) (K a) with
  | true=>have:=zhV K m b a C A;omega
  | false =>
   have:=za3 _ _ H A;unfold nameOf at h;rw [this] at h;omega
theorem zun (K:Nat->List Nat) (m a b:Nat) (C:a<m) (A:b<m):nameOf K m a=nameOf K m b <-> K a=K b:=by
 constructor
 ·intro h;refine za3 _ _ ?_ ?_
  ·cases hc:lessB (K a) (K b) with
   | false=>rfl
   | true=>have:=zhV K m a b C hc;omega
  cases hc:lessB (K b) (K a) with
  | false=>rfl
  | true=>have:=zhV K m b a A hc;omega
 intro h;unfold nameOf;rw [h]
def tkey (l:List Nat) (k:Nat):List Nat:=tri l (plc l.length k)
def red (l:List Nat):List Nat:=(List.range (numP l.length)).map (nameOf (tkey l) (numP l.length))
theorem zaY (l:List Nat):(red l).length=numP l.length:=by simp [red]
theorem zlr (l:List Nat) (k:Nat) (A:k<(red l).length):(red l)[k]=nameOf (tkey l) (numP l.length) k:=by simp [red]
theorem zuo (K:Nat->List Nat) (m k:Nat) (H:k<m):nameOf K m k<=m:=by
 unfold nameOf;have:(List.range m).countP (λj=>firstK K j && lessB (K j) (K k))<m:=by
  have C:=List.countP_le_length (p:=λj=>firstK K j && lessB (K j) (K k)) (l:=List.range m);rw [List.length_range] at C;refine Nat.lt_of_le_of_ne C λI=>?_;have A:=List.countP_eq_length.1 (I.trans (List.length_range (n:=m)).symm) k (List.mem_range.2 H);rw [zaD,Bool.and_false] at A;cases A
 omega
theorem zs1 (l:List Nat):∀ x ∈ red l,x<=numP l.length:=by
 intro x A;simp only [red,List.mem_map,List.mem_range] at A;obtain ⟨k,C,rfl⟩:=A;exact zuo _ _ _ C
theorem zrL (l:List Nat) (J:∀ x ∈ l,1<=x) (a b:Nat) (W:a<=l.length) (U:b<=l.length) (I:a≠b) (h:tri l a=tri l b):a+2<l.length/\b+2<l.length:=by
 have C:∀ i,i<l.length->1<=at0 l i:=λi h=>by
  unfold at0;rw [List.getD_eq_getElem?_getD,List.getElem?_eq_getElem h];exact J _ (List.getElem_mem h)
 have A:∀ i,l.length<=i->at0 l i=0:=λi h=>by unfold at0;rw [List.getD_eq_getElem?_getD,List.getElem?_eq_none h];rfl
 simp only [tri,List.cons.injEq,and_true] at h;obtain ⟨e0,e1,e2⟩:=h;have d:∀ i j,at0 l i=at0 l j->(i<l.length <-> j<l.length):=by
  intro i j e;constructor
  ·intro hi;rcases Nat.lt_or_ge j l.length with h | h
   ·exact h
   have:=C i hi;have:=A j h;omega
  intro H;rcases Nat.lt_or_ge i l.length with h | h
  ·exact h
  have:=C j H;have:=A i h;omega
 have X:=d _ _ e0;have V:=d _ _ e1;have Y:=d _ _ e2;omega
theorem zpb (l:List Nat) (V:∀ x ∈ l,1<=x):∀ (d k k':Nat),k<numP l.length->k'<numP l.length->l.length<=plc l.length k+d->Ord.sl (red l) k k'=Ord.sl l (plc l.length k) (plc l.length k')
 | d,k,k',hk,hk',hd=>by
  have hl:=zaY l;rw [Ord.zhT (red l) k k' vd vd,zwq l V,zlr,zlr];have e1:decide (nameOf (tkey l) (numP l.length) k<nameOf (tkey l) (numP l.length) k')=lessB (tri l (plc l.length k)) (tri l (plc l.length k')):=by
   rw [Bool.eq_iff_iff,decide_eq_true_eq];exact zum _ _ _ _ hk hk'
  have e2:decide (nameOf (tkey l) (numP l.length) k=nameOf (tkey l) (numP l.length) k')=decide (tri l (plc l.length k)=tri l (plc l.length k')):=by
   rw [Bool.eq_iff_iff,decide_eq_true_eq,decide_eq_true_eq];exact zun _ _ _ _ hk hk'
  rw [e1,e2];by_cases W:tri l (plc l.length k)=tri l (plc l.length k')
  ·congr 2;by_cases C:k=k'
   ·subst C;rw [Ord.zdf,Ord.zdf]
   have Y:=zdA l.length k hk;have U:=zdA l.length k' hk';have I:plc l.length k≠plc l.length k':=λh=>C (zki _ _ _ hk hk' h);obtain ⟨z1,X⟩:=zrL l V _ _ Y.2.2 U.2.2 I W;rcases zhU _ _ hk z1 with ⟨n1,J⟩ | ⟨n1,J⟩
   ·rcases zhU _ _ hk' X with ⟨H,A⟩ | ⟨H,A⟩
    ·match d with
     | 0=>omega
     | d+1=>rw [zpb l V d (k+1) (k'+1) n1 H vd,J,A]
    rw [H,Ord.zmx (red l) _ _ vd,A,Ord.zmx l _ _ (Nat.le_refl _)]
   rcases zhU _ _ hk' X with ⟨H,A⟩ | ⟨H,A⟩
   ·rw [n1,J,Ord.zi1 (red l) _ _ vd,Ord.zi1 l _ _ (Nat.le_refl _),decide_eq_true vd,decide_eq_true vd]
   omega
  rw [decide_eq_false W];rfl
/-! ### How many names -/
def many (l:List Nat):Nat:=(red l).foldl max 0
theorem zdh (x:Nat):∀ (l:List Nat) (a:Nat),l.foldl max a<=x <-> a<=x /\ ∀ y ∈ l,y<=x
 | [],a=>by simp
 | b :: l,a=>by
  rw [List.foldl_cons,zdh x l];simp only [List.mem_cons,forall_eq_or_imp,Nat.max_le,and_assoc]
theorem zpc (l:List Nat) (x:Nat) (h:∀ y ∈ red l,y<=x) (hx:x ∈ red l\/x=0):many l=x:=by
 have C:many l<=x:=(zdh x _ _).2 ⟨Nat.zero_le _,h⟩;have A:=(zdh (many l) (red l) 0).1 (Nat.le_refl _);rcases hx with hx | hx
 ·have:=A.2 x hx;omega
 omega
theorem zrM (l e:List Nat) (C:e.Perm (List.range (numP l.length))) (hs:∀ i j,i<j->j<e.length->lessB (tkey l (e.getD j 0)) (tkey l (e.getD i 0))=false) (W:0<e.length) :
  many l=1+Ord.ups (λa b=>lessB (tkey l a) (tkey l b)) e (e.length-1):=by
 have I:=zf_ (tkey l) _ e C hs;have A:∀ a,a<numP l.length -> ∃ i,i<e.length/\e.getD i 0=a:=by
  intro a U;obtain ⟨i,hi,rfl⟩:=List.getElem_of_mem (C.mem_iff.2 (List.mem_range.2 U));exact ⟨i,hi,by rw [List.getD_eq_getElem?_getD,List.getElem?_eq_getElem hi];rfl⟩
 have H:∀ i,i<e.length->e.getD i 0<numP l.length:=λi hi=>by
  rw [List.getD_eq_getElem?_getD,List.getElem?_eq_getElem hi];exact List.mem_range.1 (C.mem_iff.1 (List.getElem_mem hi))
 refine zpc l _ (λy J=>?_) (.inl ?_)
 ·simp only [red,List.mem_map,List.mem_range] at J;obtain ⟨k,V,rfl⟩:=J;obtain ⟨i,hi,rfl⟩:=A k V;unfold nameOf;rw [<- I i hi];have:=Ord.zfq (λa b=>lessB (tkey l a) (tkey l b)) e i (e.length-1) vd;omega
 simp only [red,List.mem_map,List.mem_range];exact ⟨e.getD (e.length-1) 0,H _ vd,by unfold nameOf;rw [<- I _ vd]⟩
theorem zs2 (R:Nat->Nat->Bool) (e:List Nat):∀ i,Ord.ups R e i<=i
 | 0=>Nat.le_refl _
 | i+1=>by rw [Ord.ups];have:=zs2 R e i;split <;> omega
end Skew
end
section
open Num Loser
namespace Skew
/-! ### Ranks -/
structure RkI (n:Nat) (e:List Nat) (i:Nat) (r:List Int):Prop where
  len:r.length=n+3
  at_:∀ j,j<i->r.getD (plc n (e.getD j 0)) 0=((j+1:Nat):Int)
  no:∀ p,(∀ j,j<i->plc n (e.getD j 0)≠p)->r.getD p 0=0
theorem zls (r:List Int) (k p:Nat) (x:Int) (A:k<r.length):(r.set k x).getD p 0=if p=k then x else r.getD p 0:=by
 rw [List.getD_eq_getElem?_getD,List.getD_eq_getElem?_getD,List.getElem?_set];by_cases h:p=k
 ·subst h;rw [if_pos rfl,if_pos A,if_pos rfl];rfl
 rw [if_neg (Ne.symm h),if_neg h]
theorem RkI.start (n:Nat) (e:List Nat):RkI n e 0 (List.replicate (n+3) 0) :=
 ⟨by simp,λj h=>absurd h (Nat.not_lt_zero _),λp _=>by
  rw [List.getD_eq_getElem?_getD];by_cases h:p<n+3
  ·simp [h]
  simp [h]⟩
theorem RkI.step {n:Nat} {e:List Nat} {i:Nat} {r:List Int} (h:RkI n e i r) (V:e.Perm (List.range (numP n))) (hi:i<e.length):RkI n e (i+1) (r.set (plc n (e.getD i 0)) ((i+1:Nat):Int)):=by
 have A:∀ i,i<e.length->e.getD i 0<numP n:=λi hi=>by
  rw [List.getD_eq_getElem?_getD,List.getElem?_eq_getElem hi];exact List.mem_range.1 (V.mem_iff.1 (List.getElem_mem hi))
 have W:=(zdA n _ (A i hi)).2.2;have J:e.Nodup:=V.nodup_iff.2 List.nodup_range;have I:∀ j,j<i->plc n (e.getD j 0)≠plc n (e.getD i 0):=λj H U=>by
  have:=zki n _ _ (A j vd) (A i hi) U;rw [List.getD_eq_getElem?_getD,List.getElem?_eq_getElem vd,List.getD_eq_getElem?_getD,List.getElem?_eq_getElem hi,Option.getD_some,Option.getD_some] at this;exact absurd this (List.pairwise_iff_getElem.1 J j i vd hi H)
 refine ⟨by rw [List.length_set];exact h.len,λj H=>?_,λp C=>?_⟩
 ·rw [zls _ _ _ _ (by rw [h.len];omega)];rcases Nat.lt_or_ge j i with h' | h'
  ·rw [if_neg (I j h'),h.at_ j h']
  obtain rfl:j=i:=by omega
  rw [if_pos rfl]
 rw [zls _ _ _ _ (by rw [h.len];omega),if_neg (λe=>C i vd e.symm),h.no p (λj H=>C j vd)]
def Rk (l e:List Nat) (r:List Int):Prop:=RkI l.length e e.length r
theorem zwr (l e:List Nat) (r:List Int) (h1:∀ x ∈ l,1<=x) (he:Ord.SortedE (red l) e) (hr:Rk l e r) (p q:Nat) (hp:p<=l.length) (hq:q<=l.length) (H:p=l.length\/p % 3≠0) (W:q=l.length\/q % 3≠0) (Y:p≠q) :
  r.getD p 0<r.getD q 0 <-> Ord.sl l p q=true:=by
 have an:e.length=numP l.length:=by rw [he.len,zaY]
 have C:∀ i,i<e.length->e.getD i 0<numP l.length:=λi hi=>by
  rw [List.getD_eq_getElem?_getD,List.getElem?_eq_getElem hi,<- zaY];exact he.lt (List.getElem_mem hi)
 have U:∀ a,a<numP l.length -> ∃ i,i<e.length/\e.getD i 0=a:=by
  intro a ha;obtain ⟨i,hi,rfl⟩:=List.getElem_of_mem (he.1.mem_iff.2 (List.mem_range.2 (by rw [zaY];exact ha)));exact ⟨i,hi,by rw [List.getD_eq_getElem?_getD,List.getElem?_eq_getElem hi];rfl⟩
 have hs:∀ p,p<=l.length->(p=l.length\/p % 3≠0)->(∃ j,j<e.length/\plc l.length (e.getD j 0)=p/\r.getD p 0=((j+1:Nat):Int))\/(p=l.length/\r.getD p 0=0):=by
  intro p hp H;by_cases V:p<endP l.length/\p % 3≠0
  ·obtain ⟨k,hk,rfl⟩:=zlq _ _ V.1 V.2;obtain ⟨j,A,rfl⟩:=U k hk;exact .inl ⟨j,A,rfl,hr.at_ j A⟩
  have ad:p=l.length:=by
   rcases H with h | h
   ·exact h
   unfold endP at V;split at V <;> omega
  refine .inr ⟨ad,hr.no p λj A ae=>?_⟩;have:=zdA l.length _ (C j A);rw [ae] at this;exact V ⟨this.1,this.2.1⟩
 rcases hs p hp H with ⟨i,hi,J,ri⟩ | ⟨J,ri⟩
 ·rcases hs q hq W with ⟨j,A,eq,I⟩ | ⟨eq,I⟩
  ·rw [ri,I,<- J,<- eq,<- zpb l h1 l.length _ _ (C i hi) (C j A) vd];have X:=List.pairwise_iff_getElem.1 he.2;have gi:e.getD i 0=e[i]:=(by rw [List.getD_eq_getElem?_getD,List.getElem?_eq_getElem hi];rfl);have gj:e.getD j 0=e[j]:=(by rw [List.getD_eq_getElem?_getD,List.getElem?_eq_getElem A];rfl);rw [gi,gj];rcases Nat.lt_trichotomy i j with h | h | h
   ·rw [X i j hi A h];constructor
    ·intro _;rfl
    intro _;omega
   ·subst h;exact absurd (J.symm.trans eq) Y
   rw [Ord.zlk _ _ _ (X j i A hi h)];constructor
   ·intro h';omega
   intro h';cases h'
  rw [ri,I,eq,Ord.zmx l _ _ (Nat.le_refl _)];constructor
  ·intro h';omega
  intro h';cases h'
 rcases hs q hq W with ⟨j,A,eq,I⟩ | ⟨eq,I⟩
 ·rw [ri,I,J,Ord.zi1 l _ _ (Nat.le_refl _)];constructor
  ·intro _;rw [decide_eq_true_eq];omega
  intro _;omega
 exact absurd (J.trans eq.symm) Y
theorem zs3 (l e:List Nat) (r:List Int) (A:∀ x ∈ l,1<=x) (I:Ord.SortedE (red l) e) (H:Rk l e r) (a b:Nat) (W:a<l.length) (V:b<l.length) (U:a % 3≠2) (C:b % 3≠2) (J:a≠b) :
  Ord.sl l a b=true <-> at0 l a<at0 l b\/at0 l a=at0 l b/\r.getD (a+1) 0<r.getD (b+1) 0:=by
 rw [zwr l e r A I H (a+1) (b+1) vd vd vd vd vd,zg7 l A a b];simp
theorem zws (l e:List Nat) (r:List Int) (J:∀ x ∈ l,1<=x) (X:Ord.SortedE (red l) e) (hr:Rk l e r) (a b:Nat) (ha:a<l.length) (hb:b<l.length) (ad:a % 3≠1) (W:b % 3≠1) (ac:a≠b) :
  Ord.sl l a b=true <-> at0 l a<at0 l b\/at0 l a=at0 l b/\(at0 l (a+1)<at0 l (b+1)\/at0 l (a+1)=at0 l (b+1)/\r.getD (a+2) 0<r.getD (b+2) 0):=by
 have I:∀ i,i<l.length->1<=at0 l i:=λi h=>by
  unfold at0;rw [List.getD_eq_getElem?_getD,List.getElem?_eq_getElem h];exact J _ (List.getElem_mem h)
 have H:∀ i,l.length<=i->at0 l i=0:=λi h=>by unfold at0;rw [List.getD_eq_getElem?_getD,List.getElem?_eq_none h];rfl
 rw [zg7 l J a b,zg7 l J (a+1) (b+1)];have A:at0 l (a+1)=at0 l (b+1)->(Ord.sl l (a+2) (b+2)=true <-> r.getD (a+2) 0<r.getD (b+2) 0):=by
  intro ae;have V:a+1<l.length:=by
   rcases Nat.lt_or_ge (a+1) l.length with h | h
   ·exact h
   have:=H _ h;rcases Nat.lt_or_ge (b+1) l.length with h' | h'
   ·have:=I _ h';omega
   omega
  have Y:b+1<l.length:=by
   rcases Nat.lt_or_ge (b+1) l.length with h | h
   ·exact h
   have:=H _ h;have:=I _ V;omega
  exact (zwr l e r J X hr (a+2) (b+2) vd vd vd vd vd).symm
 simp only [Bool.or_eq_true,decide_eq_true_eq,Bool.and_eq_true];constructor
 ·rintro (h | ⟨h,C | ⟨C,U⟩⟩)
  ·exact .inl h
  ·exact .inr ⟨h,.inl C⟩
  exact .inr ⟨h,.inr ⟨C,(A C).1 U⟩⟩
 rintro (h | ⟨h,C | ⟨C,U⟩⟩)
 ·exact .inl h
 ·exact .inr ⟨h,.inl C⟩
 exact .inr ⟨h,.inr ⟨C,(A C).2 U⟩⟩

/-! ### The merge -/
def mg (l:List Nat):List Nat->List Nat->List Nat
  | [],zs=>zs
  | k :: ks,zs=>if l.length<=plc l.length k then mg l ks zs else zs.takeWhile (λz=>!Ord.sl l (plc l.length k) z) ++ plc l.length k :: mg l ks (zs.dropWhile (λz=>!Ord.sl l (plc l.length k) z))
def smp (l:List Nat) (e:List Nat):List Nat:=(e.map (plc l.length)).filter (λp=>decide (p<l.length))
theorem zlt (l:List Nat) (k:Nat) (A:List Nat):smp l (k :: A)=if l.length<=plc l.length k then smp l A else plc l.length k :: smp l A:=by
 unfold smp;rw [List.map_cons,List.filter_cons];by_cases h:l.length<=plc l.length k
 ·rw [if_pos h,if_neg (by simp;omega)]
 rw [if_neg h,if_pos (by simp;omega)]
theorem zhW (l:List Nat):∀ (A zs:List Nat),(mg l A zs).Perm (smp l A ++ zs)
 | [],zs=>List.Perm.refl _
 | k :: A,zs=>by
  rw [mg,zlt];split
  ·exact zhW l A zs
  refine (List.perm_middle).trans ?_;rw [List.cons_append];refine List.Perm.cons _ ?_;refine ((zhW l A _).append_left _).trans ?_;refine (List.perm_append_comm_assoc _ _ _).trans ?_;rw [List.takeWhile_append_dropWhile]
theorem zga (l:List Nat):∀ (C zs:List Nat),(smp l C).Pairwise (λa b=>Ord.sl l a b=true)->zs.Pairwise (λa b=>Ord.sl l a b=true)->(∀ a ∈ smp l C,∀ z ∈ zs,Ord.sl l a z=false->Ord.sl l z a=true) ->
  (mg l C zs).Pairwise (λa b=>Ord.sl l a b=true)
 | [],zs,_,h,_=>h
 | k :: C,zs,ha,hz,hx=>by
  rw [mg];rw [zlt] at ha hx;split
  ·rename_i W;rw [if_pos W] at ha hx;exact zga l C zs ha hz hx
  rename_i W;rw [if_neg W] at ha hx;obtain ⟨Y,aa⟩:=List.pairwise_cons.1 ha;have A:=List.takeWhile_append_dropWhile (p:=λz=>!Ord.sl l (plc l.length k) z) (l:=zs);have hT:∀ z ∈ zs.takeWhile (λz=>!Ord.sl l (plc l.length k) z),Ord.sl l z (plc l.length k)=true:=by
   intro z hzm;have hm:z ∈ zs:=(by rw [<- A];exact List.mem_append_left _ hzm);have hb:=List.all_takeWhile (p:=λz=>!Ord.sl l (plc l.length k) z) (l:=zs);have:=List.all_eq_true.1 hb z hzm;refine hx _ (List.mem_cons_self ..) z hm ?_;simpa using this
  have V:=hz;rw [<- A] at V;obtain ⟨p1,p2,p3⟩:=List.pairwise_append.1 V;have hD:∀ z ∈ zs.dropWhile (λz=>!Ord.sl l (plc l.length k) z),Ord.sl l (plc l.length k) z=true:=by
   intro z hzm;cases hd:zs.dropWhile (λz=>!Ord.sl l (plc l.length k) z) with
   | nil=>rw [hd] at hzm;cases hzm
   | cons d D =>
    have h0:Ord.sl l (plc l.length k) d=true:=by
     have:=List.head?_dropWhile_not (λz=>!Ord.sl l (plc l.length k) z) zs;rw [hd] at this;simpa using this
    rw [hd] at hzm p2;rcases List.mem_cons.1 hzm with rfl | hzm
    ·exact h0
    exact Ord.zfo l _ _ _ h0 ((List.pairwise_cons.1 p2).1 z hzm)
  have H:∀ y ∈ mg l C (zs.dropWhile (λz=>!Ord.sl l (plc l.length k) z)),y ∈ smp l C\/y ∈ zs.dropWhile (λz=>!Ord.sl l (plc l.length k) z):=λy hy=>List.mem_append.1 ((zhW l C _).mem_iff.1 hy);have I:∀ z ∈ zs.dropWhile (λz=>!Ord.sl l (plc l.length k) z),z ∈ zs:=λz h=>by rw [<- A];exact List.mem_append_right _ h
  have ih:=zga l C (zs.dropWhile (λz=>!Ord.sl l (plc l.length k) z)) aa p2 (λa h z X=>hx a (List.mem_cons_of_mem _ h) z (I z X));have J:∀ y ∈ mg l C (zs.dropWhile (λz=>!Ord.sl l (plc l.length k) z)),Ord.sl l (plc l.length k) y=true:=λy hy=>by
   rcases H y hy with h | h
   ·exact Y y h
   exact hD y h
  refine List.pairwise_append.2 ⟨p1,List.pairwise_cons.2 ⟨J,ih⟩,λz U y hy=>?_⟩;rcases List.mem_cons.1 hy with rfl | hy
  ·exact hT z U
  exact Ord.zfo l _ _ _ (hT z U) (J y hy)
theorem zgb {a b:List Nat} (H:a.Nodup) (C:b.Nodup) (h:∀ x,x ∈ a <-> x ∈ b):a.Perm b:=by
 rw [List.perm_iff_count];intro x;have hc:∀ c:List Nat,c.Nodup->c.count x=if x ∈ c then 1 else 0:=λc hc=>by
  split
  ·rename_i A;have J:=List.nodup_iff_count.1 hc x;have I:=List.count_pos_iff.2 A;omega
  rename_i A;exact List.count_eq_zero.2 A
 rw [hc a H,hc b C];simp only [h x]
theorem zw_ (l e zs:List Nat) (h1:∀ x ∈ l,1<=x) (he:Ord.SortedE (red l) e) (hz:zs.Perm (restP 0 l.length)) (W:zs.Pairwise (λa b=>Ord.sl l a b=true)):Ord.SortedE l (mg l e zs):=by
 have C:∀ k ∈ e,k<numP l.length:=λk U=>by rw [<- zaY];exact he.lt U
 have H:∀ z,z ∈ zs <-> z<l.length/\z % 3=0:=λz=>by
  rw [hz.mem_iff];unfold restP;simp
 have A:∀ p,p ∈ smp l e <-> p<l.length/\p % 3≠0:=λp=>by
  unfold smp;simp only [List.mem_filter,List.mem_map,decide_eq_true_eq];constructor
  ·rintro ⟨⟨k,U,rfl⟩,h⟩;exact ⟨h,(zdA _ _ (C k U)).2.1⟩
  rintro ⟨h,Y⟩;obtain ⟨k,U,rfl⟩:=zlq l.length p (by unfold endP;split <;> omega) Y;exact ⟨⟨k,he.1.mem_iff.2 (List.mem_range.2 (by rw [zaY];exact U)),rfl⟩,h⟩
 have aa:(e.map (plc l.length)).Pairwise (λa b=>Ord.sl l a b=true):=by
  rw [List.pairwise_map];refine List.Pairwise.imp_of_mem ?_ he.2;intro a b I X ae;rw [<- zpb l h1 l.length a b (C a I) (C b X) vd];exact ae
 have J:(smp l e).Pairwise (λa b=>Ord.sl l a b=true):=aa.filter _;have V:∀ c:List Nat,c.Pairwise (λa b=>Ord.sl l a b=true)->c.Nodup:=λc hc=>by
  refine List.Pairwise.imp ?_ hc;intro a b h af;subst af;rw [Ord.zdf] at h;cases h
 refine ⟨(zhW l e zs).trans (zgb (List.nodup_append.2 ⟨V _ J,V _ W,λa I b X=>by have:=(A a).1 I;have:=(H b).1 X;omega⟩) List.nodup_range λx=>?_),zga l e zs J W λa I z ad h=>?_⟩
 ·rw [List.mem_append,A,H,List.mem_range];omega
 have h2:=(A a).1 I;have Y:=(H z).1 ad;cases hc:Ord.sl l z a with
 | true=>rfl
 | false=>have:=Ord.zfp l a z h2.1 Y.1 h hc;omega
theorem zkj (l e:List Nat) (r:List Int) (h1:∀ x ∈ l,1<=x) (he:Ord.SortedE (red l) e) (Y:Rk l e r) (zs:List Nat) (U:zs.Perm (restP 0 l.length))
  (hs:∀ i j,i<j->j<zs.length -> ¬ (at0 l (zs.getD j 0)<at0 l (zs.getD i 0)\/at0 l (zs.getD j 0)=at0 l (zs.getD i 0)/\r.getD (zs.getD j 0+1) 0<r.getD (zs.getD i 0+1) 0)):zs.Pairwise (λa b=>Ord.sl l a b=true):=by
 have H:∀ z,z ∈ zs <-> z<l.length/\z % 3=0:=λz=>by
  rw [U.mem_iff];unfold restP;simp
 have J:zs.Nodup:=U.nodup_iff.2 (by unfold restP;exact List.nodup_range.filter _);refine List.pairwise_iff_getElem.2 λi j hi I C=>?_;have h:=hs i j C I;have gi:zs.getD i 0=zs[i]:=by rw [List.getD_eq_getElem?_getD,List.getElem?_eq_getElem hi];rfl
 have X:zs.getD j 0=zs[j]:=by rw [List.getD_eq_getElem?_getD,List.getElem?_eq_getElem I];rfl
 rw [gi,X] at h;have W:=(H _).1 (List.getElem_mem hi);have V:=(H _).1 (List.getElem_mem I);have A:zs[i]≠zs[j]:=List.pairwise_iff_getElem.1 J i j hi I C;rw [<- zs3 l e r h1 he Y _ _ V.1 W.1 vd vd (Ne.symm A)] at h;cases hc:Ord.sl l zs[i] zs[j] with
 | true=>rfl
 | false =>
  cases hd:Ord.sl l zs[j] zs[i] with
  | true=>exact absurd hd h
  | false=>exact absurd (Ord.zfp l _ _ W.1 V.1 hc hd) A
/-! ### Levels -/
end Skew
end
section
open Num Loser
open Sto (SortedR)
namespace Skew
def firstsN (n:Nat):Nat:=(n+1) / 3+if n % 3=1 then 1 else 0
def needS (n:Nat):Nat:=firstsN n+n / 3
theorem zlu (n:Nat):needS n=numP n:=by
 rw [zdR];unfold needS firstsN endP;split <;> omega
def isW (n i:Nat):Bool:=decide (i % 3≠0) && !(decide (i=n) && decide (i % 3≠1))
def atW (n i:Nat):Nat:=if i % 3=2 then i / 3+firstsN n else i / 3
def rowW (l:List Nat) (i:Nat):List Nat:=[at0 l i,at0 l (i+1),at0 l (i+2),atW l.length i]
def rowsW (l:List Nat) (m:Nat):List (List Nat):=((List.range m).filter (isW l.length)).map (rowW l)
theorem zeU (l:List Nat) (m:Nat):rowsW l (m+1)=rowsW l m ++ if isW l.length m=true then [rowW l m] else []:=by
 unfold rowsW;rw [List.range_succ,List.filter_append,List.map_append];congr 1;by_cases h:isW l.length m=true
 ·simp [h]
 simp [h]
def zhX (l:List Nat) (k:Nat):List Nat:=tkey l k ++ [k]
theorem zwt (n k:Nat) (C:k<numP n):atW n (plc n k)=k:=by
 have h:=zdR n;rw [ze5 n k C];unfold atW firstsN;rcases zdg n with ⟨e,A⟩ | ⟨e,A⟩ <;> rw [e] at h ⊢ <;> split <;> split <;> (try split) <;> omega
theorem zxa (n i:Nat):(i<n+1/\isW n i=true) <-> (i<endP n/\i % 3≠0):=by
 unfold isW;rcases zdg n with ⟨e,A⟩ | ⟨e,A⟩ <;> rw [e] <;> simp only [Bool.and_eq_true,Bool.not_eq_true',Bool.and_eq_false_iff,decide_eq_true_eq,decide_eq_false_iff_not] <;> omega
theorem zg8 (n:Nat):(List.range (numP n)).map (plc n)=places n:=List.ext_getElem (by simp [numP]) λi C A=>by
 rw [List.getElem_map,List.getElem_range];unfold plc;rw [List.getD_eq_getElem?_getD,List.getElem?_eq_getElem A];rfl
theorem zi5 (l:List Nat):(rowsW l (l.length+1)).Perm ((List.range (numP l.length)).map (zhX l)):=by
 have J:(List.range (numP l.length)).map (zhX l)=(places l.length).map (rowW l):=by
  rw [<- zg8,List.map_map];refine List.map_congr_left λk H=>?_;show tri l (plc l.length k) ++ [k]=rowW l (plc l.length k);unfold rowW;rw [zwt _ _ (List.mem_range.1 H)];rfl
 rw [J];have A:(places l.length).Nodup:=by
  rw [<- zg8];rw [List.Nodup,List.pairwise_map,List.pairwise_iff_getElem];intro i j hi C I e;simp only [List.length_range] at hi C;rw [List.getElem_range,List.getElem_range] at e;have:=zki _ _ _ hi C e;omega
 refine List.Perm.map _ (zgb (List.nodup_range.filter _) A λi=>?_);rw [List.mem_filter,List.mem_range,zxa,zmA]
theorem zgc (l:List Nat):(rowsW l (l.length+1)).length=needS l.length:=by rw [(zi5 l).length_eq,zlu];simp
/-! ### Names -/
def cntN (out:List (List Nat)):Nat->Nat
  | 0=>0
  | k+1=>cntN out k+if k=0\/(out.getD (k-1) []).take 3≠(out.getD k []).take 3 then 1 else 0
def rowN (out:List (List Nat)) (i:Nat):List Nat:=[(out.getD i []).getD 3 0,cntN out (i+1)]
def rowsN (out:List (List Nat)) (k:Nat):List (List Nat):=(List.range k).map (rowN out)
theorem zmB (out:List (List Nat)) (k:Nat):rowsN out (k+1)=rowsN out k ++ [rowN out k]:=by unfold rowsN;rw [List.range_succ,List.map_append];rfl
theorem zdi (out:List (List Nat)) (k:Nat):(rowsN out k).length=k:=by simp [rowsN]
theorem zrN (out:List (List Nat)) (k i:Nat) (h:i<(rowsN out k).length):(rowsN out k)[i]=rowN out i:=by simp [rowsN]
theorem zlv:∀ (x y:List Nat) (a b:Nat),x.length=y.length->lessB (y ++ [b]) (x ++ [a])=false->lessB y x=false
 | [],[],_,_,_,_=>rfl
 | u :: x,v :: y,a,b,hl,h=>by
  simp only [List.cons_append,lessB,Bool.or_eq_false_iff,Bool.and_eq_false_iff] at h ⊢;refine ⟨h.1,h.2.imp (λh=>h) λh=>zlv x y a b (by simpa using hl) h⟩
 | [],_ :: _,_,_,hl,_=>by simp at hl
 | _ :: _,[],_,_,hl,_=>by simp at hl
theorem zrO {l:List Nat} {out:List (List Nat)} (U:out.Perm (rowsW l (l.length+1))) (hs:SortedR out) :
  ∃ e:List Nat,e.Perm (List.range (numP l.length))/\out=e.map (zhX l) /\ ∀ i j,i<j->j<e.length->lessB (tkey l (e.getD j 0)) (tkey l (e.getD i 0))=false:=by
 have I:=U.trans (zi5 l);refine ⟨out.map (λx=>x.getD 3 0),?_,?_,?_⟩
 ·have:=I.map (λx=>x.getD 3 0);rw [List.map_map] at this;refine this.trans (List.Perm.of_eq ?_)
  conv=>rhs;rw [<- List.map_id (List.range (numP l.length))]
  exact List.map_congr_left λk _=>rfl
 ·rw [List.map_map]
  conv=>lhs;rw [<- List.map_id out]
  refine List.map_congr_left λx V=>?_;obtain ⟨k,_,rfl⟩:=List.mem_map.1 (I.mem_iff.1 V);rfl
 intro i j H C;rw [List.length_map] at C;have J:=List.pairwise_iff_getElem.1 hs i j vd C H;have key:∀ (z:Nat) (A:z<out.length),out[z]=zhX l ((out.map λx=>x.getD 3 0).getD z 0):=λz A=>by
  rw [List.getD_eq_getElem?_getD,List.getElem?_map,List.getElem?_eq_getElem A];obtain ⟨k,_,e⟩:=List.mem_map.1 (I.mem_iff.1 (List.getElem_mem A));rw [<- e];rfl
 rw [key i vd,key j C] at J;exact zlv _ _ _ _ rfl J
theorem zpd {l e:List Nat} (hs:∀ i j,i<j->j<e.length->lessB (tkey l (e.getD j 0)) (tkey l (e.getD i 0))=false):∀ i,i<e.length->cntN (e.map (zhX l)) (i+1)=1+Ord.ups (λa b=>lessB (tkey l a) (tkey l b)) e i
 | 0,_=>rfl
 | i+1,hi=>by
  rw [cntN,zpd hs i vd,Ord.ups];have key:∀ z,z<e.length->((e.map (zhX l)).getD z []).take 3=tkey l (e.getD z 0):=λz A=>by
   rw [List.getD_eq_getElem?_getD,List.getElem?_map,List.getElem?_eq_getElem A,List.getD_eq_getElem?_getD,List.getElem?_eq_getElem A];rfl
  rw [show i+1-1=i from rfl,key i vd,key (i+1) hi];have h:=hs i (i+1) (Nat.lt_succ_self i) hi;cases q:lessB (tkey l (e.getD i 0)) (tkey l (e.getD (i+1) 0)) with
  | true=>rw [if_pos (.inr λe2=>by rw [e2,zaD] at q;cases q),if_pos rfl,Nat.add_assoc]
  | false=>rw [if_neg (λh'=>h'.elim (λh=>by omega) λh'=>h' (za3 _ _ q h)),if_neg (by simp)];rfl
theorem redD (l:List Nat) (k:Nat) (A:k<numP l.length):(red l).getD k 0=nameOf (tkey l) (numP l.length) k:=by
 rw [List.getD_eq_getElem?_getD,List.getElem?_eq_getElem (by rw [zaY];exact A)];exact zlr l k _
theorem zmC {l e:List Nat} (H:e.Perm (List.range (numP l.length))) (hs:∀ i j,i<j->j<e.length->lessB (tkey l (e.getD j 0)) (tkey l (e.getD i 0))=false):rowsN (e.map (zhX l)) e.length=e.map λk=>[k,(red l).getD k 0]:=by
 refine List.ext_getElem (by rw [zdi,List.length_map]) λi A I=>?_;have A:i<e.length:=by rw [zdi] at A;exact A
 have C:e[i]<numP l.length:=List.mem_range.1 (H.mem_iff.1 (List.getElem_mem A));rw [zrN,List.getElem_map];unfold rowN;rw [zpd hs i A,zf_ (tkey l) _ e H hs i A,redD l _ C];have e1:(e.map (zhX l)).getD i []=zhX l e[i]:=by rw [List.getD_eq_getElem?_getD,List.getElem?_map,List.getElem?_eq_getElem A];rfl
 have e2:e.getD i 0=e[i]:=by rw [List.getD_eq_getElem?_getD,List.getElem?_eq_getElem A];rfl
 rw [e1,e2];rfl
theorem zrP {l e:List Nat} {out:List (List Nat)} (A:e.Perm (List.range (numP l.length))) (C:out.Perm (e.map λk=>[k,(red l).getD k 0])) (hs:SortedR out):out=(List.range (numP l.length)).map λk=>[k,(red l).getD k 0]:=by
 refine List.Perm.eq_of_pairwise (le:=λa b=>lessB b a=false) (λa b _ _ J H=>za3 _ _ H J) hs ?_ (C.trans (A.map _));rw [List.pairwise_map,List.pairwise_iff_getElem];intro i j hi U I;rw [List.getElem_range,List.getElem_range,lessB,decide_eq_false vd,decide_eq_false vd];rfl
theorem zup {l:List Nat}:((List.range (numP l.length)).map λk=>[k,(red l).getD k 0]).map (λx=>[x.getD 1 0])=(red l).map λx=>[x]:=by
 rw [List.map_map];refine List.ext_getElem (by simp [zaY]) λi C A=>?_;rw [List.getElem_map,List.getElem_range,List.getElem_map];have:i<(red l).length:=by simpa using A
 show [(red l).getD i 0]=_;rw [List.getD_eq_getElem?_getD,List.getElem?_eq_getElem this];rfl
end Skew
end
section
open Go.RowKit
open Mv Disk Num
namespace Sto
open Run (nameS sizeN)
open Skew (firstsN needS)
theorem zrQ (n:Nat) (S:Mem) (h:n<=65536):ACall prog 162 #[.int .u64 (n:Nat)] S λr S'=>r = .int .u64 ((if n % 3=1 then 1 else 0:Nat):Int)/\S'=S:=by
 by_cases q:n % 3=1
 ·rw [if_pos q];refine k_E1 6 func162 ?_;refine r13_ ?_;refine cT_ ?_;refine r7_ ?_;refine ⟨_,S,⟨_,_,rfl,rfl,rfl⟩,zae,?_⟩;exact ⟨rfl,rfl⟩
 rw [if_neg q];refine k_E1 6 func162 ?_;refine r13_ ?_;refine cF_ ?_;refine r8_ ?_;refine ⟨_,S,⟨_,_,rfl,rfl,rfl⟩,zae,?_⟩;exact ⟨rfl,rfl⟩
theorem zi6 (n:Nat) (S:Mem) (h:n<=65536):ACall prog 109 #[.int .u64 (n:Nat)] S λr S'=>r = .int .u64 (firstsN n:Nat)/\S'=S:=by
 have A:=λS=>zrQ n S h;have C:(if n % 3=1 then 1 else 0:Nat)<=1:=by split <;> omega
 unfold Skew.firstsN;generalize (if n % 3=1 then 1 else 0:Nat)=k at *;refine k_E1 9 func109 ?_;refine r11_ ?_;refine cp_ rfl (A _) ?_;refine r5_ ?_;refine ⟨_,S,⟨_,_,rfl,rfl,rfl⟩,zae,?_⟩;exact ⟨congrArg (λz=>Value.int .u64 z) vd,rfl⟩
theorem zpe (n:Nat) (S:Mem) (h:n<=65536):ACall prog 57 #[.int .u64 (n:Nat)] S λr S'=>r = .tuple #[.int .u64 (needS n:Nat),.int .i64 0]/\S'=S:=by
 have A:=λS=>zi6 n S h;have C:firstsN n<=65536:=by unfold Skew.firstsN;split <;> omega
 unfold Skew.needS;generalize firstsN n=k at *;refine k_E1 15 func57 ?_;refine r13_ ?_;refine cF_ ?_;refine r5_ ?_;refine cp_ rfl (A _) ?_;refine r16_ ?_;refine ⟨_,S,⟨_,_,rfl,⟨_,_,rfl,rfl,rfl⟩,rfl⟩,zae,?_⟩;exact ⟨congrArg (λz=>Value.tuple #[.int .u64 z,.int .i64 0]) vd,rfl⟩
section
variable {K S T:Mem} {a p b c wk m:Nat} {u:W5} {x:Pl} {o:Option (Nat × Nat)} {ts L:List tt}
theorem zkk (h:NmS K a p b c wk u m S T x o ts L) {fn:tt} {w:Nat} {rows:List (List Nat)} (U:Has x fn w rows.length (rows.flatMap recB)) (h1:1<=w) (h8:w<=8) (hc:rows.length<=65536) :
  ACall prog 108 #[self wk,.string fn] T λv T'=>∃ q y,v = .tuple #[self q,.nilIface]/\K.own q=none/\NmS (K.set q (rdB a ⟨fn,w,rows.length,0,0,0⟩)) a p b c wk u m (S.set q (rdB a ⟨fn,w,rows.length,0,0,0⟩)) T' y o ts L/\y.d=x.d/\y.fr=x.fr:=by
 have V:=zhN h.ps h.cl U;refine (zkb S a p b c wk u _ x fn 0 w rows.length T h.ar h.wo.own h.ps ((Rec.zcJ (Rec.zfV V) fn).symm.trans (Rec.zd_ h8 hc V)) h1 (Nat.le_trans (zuh h.ps.d U.pos) (by decide))).mono λv T' ⟨q,y,Y,C,X,H,A⟩=>?_;have J:q≠wk:=Ne.symm (C.ne h.wo.own);have I:Away o q:=λt c e=>C.ne (h.wo.gro.own t c e).1;refine ⟨q,y,Y,zaj h.kb C.1,⟨X,h.ps.same A H,λj W=>by unfold atF;rw [A] at W ⊢;exact h.cl j W,λs=>(h.us s).fr_ A,by rw [A];exact h.nb,by rw [A];exact h.ln,h.wo.set _ J I,Mv.Less.set h.kb q _,(vg _ _ (Ne.symm J)).trans h.kw,λt c e=>(vg _ _ (I t c e)).trans (h.ko t c e),λs=>by rw [H];exact h.di s⟩,H,A⟩
theorem zpf (h:NmS K a p b c wk u m S T x o ts L) {fn:tt} {rows:List (List Nat)} (I:Has x fn 1 rows.length (rows.flatMap recB)) (hc:rows.length<=65536) :
  ACall prog 56 #[self wk,.string fn] T λv T'=>∃ q y,v = .tuple #[self q,.nilIface]/\K.own q=none/\NmS (K.set q (rdB a ⟨fn,1,rows.length,0,0,0⟩)) a p b c wk u m (S.set q (rdB a ⟨fn,1,rows.length,0,0,0⟩)) T' y o ts L/\y.d=x.d/\y.fr=x.fr:=by
 have U:=zkk h I (Nat.le_refl 1) (by decide) hc;refine k_E2 26 func56 ?_;refine r10_ ?_;refine ca_ rfl (U) ?_;rintro _ V ⟨q,y,rfl,J,C,A,H⟩;have oq:=zah C.ar (C.kb.own (vf K q (rdB a ⟨fn,1,rows.length,0,0,0⟩)))
 (unfold rdB at oq;dsimp only at oq)
 refine r11_ ?_;refine rC (vi rfl rfl Er.eqNil) ?_;refine r9_ ?_;refine cF_ ?_;refine r11_ ?_;refine ⟨_,V,⟨_,_,rfl,⟨_,_,rfl,rfl,rfl⟩,rfl⟩,zae,?_⟩;exact ⟨q,y,rfl,J,C,A,H⟩
def frN (k:Nat):tt:=nameS (nameS nT k) 0
theorem zhY (h:NmS K a p b c wk u m S T x o ts L) (k:Nat) (C:k<=9) (I:∀ j,j<k->L.any (pfx (nameS nT j))=true) (A:L.any (pfx (nameS nT k))=false) :
  ACall prog 58 #[self wk] T λr T'=>r = .string (frN k)/\T'=T:=by
 have H:=zo5 S T a p b c wk u _ x 0 k L h.ar h.wo.own h.ps h.di C I A;refine k_E1 12 func58 ?_;refine r8_ ?_;refine cp_ rfl (H) ?_;refine cp_ rfl (Run.zfl (nameS nT k) 0 _ (by rw [zco];decide) (by rw [zco];decide) (by decide)) ?_;refine r14_ ?_;refine ⟨_,T,⟨_,_,rfl,rfl,rfl⟩,zae,?_⟩;exact ⟨rfl,rfl⟩
def tmF (bw bs_:Nat):tu:=.func (.func 116) #[] #[.pointer (some ⟨bw,0,none⟩),.pointer (some ⟨bs_,0,none⟩)]
def wpB (wk:Nat):Blk:=⟨68,[self wk],1⟩
def nmB (s:tt):Blk:=⟨9,[.string s],1⟩
theorem zkl (T:Mem) (wk:Nat) (s:tt):ACall prog 60 #[self wk,.string s] T λr T'=>∃ I A,r=tmF I A/\Fresh T I/\Fresh (T.set I (wpB wk)) A/\T'=(T.set I (wpB wk)).set A (nmB s):=by
 unfold tmF wpB nmB;refine k_E2 6 func60 ?_;refine r2_ ?_;refine vB (zab rfl) rfl rfl ?_;intro W U;have C:=U
 repeat ((with_reducible replace C:=zaa C);obtain ⟨C,_⟩:=C)
 refine nl_ ?_;refine vB (zab rfl) rfl rfl ?_;intro V J;have H:=J
 repeat ((with_reducible replace H:=zaa H);obtain ⟨H,_⟩:=H)
 refine nl_ ?_;refine r10_ ?_;refine ⟨_,_,⟨_,_,rfl,rfl,rfl⟩,Mem.Less.refl _,?_⟩;exact ⟨W,V,rfl,U,J,rfl⟩
theorem zkm (h:NmS K a p b c wk u m S T x o ts L) (s:tt) (i:Nat) (hi:i<ts.length) (I:ts.length<=9) (C:ts[i]=s) (H:∀ j (h:j<ts.length),j≠i->ts[j]≠s) (hs:s ∈ L) :
  ACall prog 63 #[self wk,.string s] T λv T'=>v = .nilIface/\NmE K a p b c wk u m x (ts.eraseIdx i) (L.filter λt=>decide (t≠s)) (λt=>t=s) 0 T' λ_=>True:=by
 refine (zo3 S a p b c wk u o ts x s i T h.ar h.wo hi I C H h.ps (h.us s) h.cl ((h.di s).2 hs) (Nat.le_trans (zuh h.ps.d ((h.di s).2 hs)) (by decide))).mono λv T' ⟨W,S',y,J,A,U,V⟩=>?_;have X:∀ t,Use y t 0 0:=λt=>A.fa.u t (λe=>e.elim) (h.us t);refine ⟨W,S',y,o,⟨J,A.ps,A.cl,X,Nat.le_zero.1 (by rw [<- h.nb];exact A.nb),A.fa.l.trans h.ln,U,V K h.kb h.kw h.ko,h.kw,h.ko,λt=>?_⟩,A.fa,trivial⟩;rw [List.mem_filter,decide_eq_true_iff];by_cases e:t=s
 ·subst e;rw [A.n0];exact ⟨λh=>absurd h (Nat.lt_irrefl 0),λh=>absurd rfl h.2⟩
 rw [A.fa.n t e,h.di t];exact ⟨λh=>⟨h,e⟩,λh=>h.1⟩
end
end Sto
end
section
open Go.RowKit
open Mv Disk Num
namespace Sto
open Skew (at0 isW atW rowW firstsN needS)
def oneL (l:List Nat):List (List Nat):=l.map λx=>[x]
theorem zaO (l:List Nat):(oneL l).length=l.length:=List.length_map ..
theorem zpg (l:List Nat) {i:Nat} (h:i<l.length):(oneL l)[i]'(by rw [zaO];exact h) = [l[i]]:=by unfold oneL;rw [List.getElem_map]
theorem zph {l:List Nat} (h:∀ z ∈ l,z<Num.top) (i:Nat):at0 l i<Num.top:=by
 unfold Skew.at0;rw [List.getD_eq_getElem?_getD];by_cases q:i<l.length
 ·rw [List.getElem?_eq_getElem q];exact h _ (List.getElem_mem q)
 rw [List.getElem?_eq_none vd];decide
theorem zuq (l:List Nat) {i:Nat} (h:i<l.length):at0 l i=l[i]:=by unfold Skew.at0;rw [List.getD_eq_getElem?_getD,List.getElem?_eq_getElem h];rfl
theorem zpi (l:List Nat) {i:Nat} (h:l.length<=i):at0 l i=0:=by unfold Skew.at0;rw [List.getD_eq_getElem?_getD,List.getElem?_eq_none h];rfl
section
variable {K S T:Mem} {a p b c q qw:Nat} {fn s:tt} {w w2:Nat} {rows:List (List Nat)} {tot:Nat} {x0 x:Pl} {n i f h wf wh:Nat} {out:List (List Nat)} {l:List Nat}
theorem CpS.mono (H:CpS K a p b c q qw fn s w w2 rows tot x0 S T x n i f h wf wh out) {n':Nat} (k:n<=n'):CpS K a p b c q qw fn s w w2 rows tot x0 S T x n' i f h wf wh out:={ H with ps:=H.ps.mono k }
theorem zur (H:CpS K a p b c q qw fn s 1 w2 (oneL l) tot x0 S T x n i f h wf wh out) (X:Nat) (I:K.own X=some ⟨125,[self q],1⟩) (Y:∀ z ∈ l,1<=z/\z<Num.top) (hc:l.length<=4096) (hi:i<=l.length) (hn:n+5<=16384) (hx:2<=x.fr.length) :
  ACall prog 166 #[.pointer (some ⟨X,0,none⟩)] T λv T'=>v = .tuple #[.int .u64 (at0 l i:Nat),.nilIface] /\ ∃ S' x' f' h',x'.fr.length=x.fr.length/\CpS K a p b c q qw fn s 1 w2 (oneL l) tot x0 S' T' x' (n+5) (min (i+1) l.length) f' h' wf wh out:=by
 have ae:=zah H.ar (H.kb.own I);by_cases A:i<l.length
 ·have C:=zkg H (λr hr=>by obtain ⟨z,V,rfl⟩:=List.mem_map.1 hr;exact ⟨rfl,λy hy=>by rw [List.mem_singleton.1 hy];exact (Y z V).2⟩) (Nat.le_refl 1) (by decide) (by rw [zaO];omega) (by rw [zaO];exact A) hn hx;have V:=(Y _ (List.getElem_mem A)).1;rw [zpg l A] at C;rw [zuq l A,Nat.min_eq_left A];generalize l[i]=z at *;refine k_E1 27 func166 ?_;refine r9_ ?_;refine ca_ rfl (C) ?_;rintro _ T1 ⟨g,S1,x1,f1,h1,rfl,hg,J,U⟩;have W:=zah U.ar (U.kb.own (vf K g _));(simp only [List.map_cons,List.map_nil] at W;unfold nU at W);refine r16_ ?_;refine cF_ ?_;refine r9_ ?_;refine cF_ ?_;refine r13_ ?_;refine ⟨_,T1,⟨_,_,rfl,⟨_,_,rfl,rfl,rfl⟩,rfl⟩,zae,?_⟩;exact ⟨rfl,S1,x1,f1,h1,J,(U.less (vh K g _ hg))⟩
 obtain rfl:i=(oneL l).length:=by rw [zaO];omega
 have C:=zeR H (Nat.le_refl 1) (by decide) (by rw [zaO];omega);have oq:=zah H.ar H.oq;unfold rdB at oq;dsimp only at oq;rw [zpi l vd,Nat.min_eq_right vd];refine k_E1 27 func166 ?_;refine r9_ ?_;refine cp_ rfl (C) ?_;refine r7_ ?_;refine kw_ [0,1,2,3,4] ?_;refine r9_ ?_;refine cT_ ?_;refine r6_ ?_;refine cp_ rfl (zbc _ _) ?_;refine r7_ ?_;refine ⟨_,T,⟨_,_,rfl,⟨_,_,rfl,rfl,rfl⟩,rfl⟩,zae,?_⟩;exact ⟨rfl,S,x,f,h,rfl,by have:=H.mono (Nat.le_add_right n 5);rwa [zaO] at this⟩
end
end Sto
end
section
open Go.RowKit
open Mv Disk Num
namespace Sto
open Skew (at0 isW atW rowW firstsN needS)
section
variable {K S T:Mem} {a p b c q qw:Nat} {fn s:tt} {tot:Nat} {x0 x:Pl} {n i f h wf wh:Nat} {out:List (List Nat)} {l:List Nat}
theorem zpj {l:List Nat} (A:∀ z ∈ l,z<Num.top) (hc:l.length<=4096) {j:Nat} (I:j<=l.length):(rowW l j).length=4 /\ ∀ z ∈ rowW l j,z<Num.top:=by
 refine ⟨rfl,λz C=>?_⟩;have H:atW l.length j<Num.top:=by
  refine Nat.lt_of_lt_of_le (show atW l.length j<65536 from ?_) (by decide);unfold Skew.atW Skew.firstsN;split <;> (try split) <;> omega
 unfold Skew.rowW at C;simp only [List.mem_cons,List.not_mem_nil,or_false] at C;rcases C with rfl | rfl | rfl | rfl
 ·exact zph A _
 ·exact zph A _
 ·exact zph A _
 exact H
theorem zpk (H:CpS K a p b c q qw fn s 1 4 (oneL l) tot x0 S T x n i f h wf wh out) (b7 ao an j:Nat) (h7:K.own b7=some ⟨125,[self q],1⟩) (aA:K.own ao=some ⟨27,[.int .u64 (firstsN l.length:Nat)],1⟩) (ay:K.own an=some (bxB qw)) (hl:∀ z ∈ l,z<Num.top) (hc:l.length<=4096) (hj:j<=l.length) (ho:isW l.length j=true->out.length<tot) (ht:tot<=65536) (hn:n+20<=16384) (hx:2<=x.fr.length) :
  ACall prog 113 #[.int .u64 (j:Nat),.agg #[.int .u64 (at0 l j:Nat),.int .u64 (at0 l (j+1):Nat),.int .u64 (at0 l (j+2):Nat)],.pointer (some ⟨b7,0,none⟩),.pointer (some ⟨ao,0,none⟩),.pointer (some ⟨an,0,none⟩)] T λv T'=>v = .nilIface /\ ∃ S' x' ac ad,x'.fr.length=x.fr.length/\CpS K a p b c q qw fn s 1 4 (oneL l) tot x0 S' T' x' (n+20) i f h ac ad (out ++ if isW l.length j=true then [rowW l j] else []):=by
 have V:=zah H.ar (H.kb.own h7);have J:=zah H.ar (H.kb.own aA);have I:=zah H.ar (H.kb.own ay);have oq:=zah H.ar H.oq;unfold bxB at I;unfold rdB at oq;dsimp only at oq;rw [zaO] at oq;have aG:firstsN l.length<=4096:=by unfold Skew.firstsN;split <;> omega
 have ah:=zpj hl hc hj;have Y:∀ {r1 r2:Nat} {k1:Blk} (cs:List tu),cs=(rowW l j).map nU->isW l.length j=true->Fresh T r1->Fresh (T.set r1 k1) r2->ACall prog 114 #[self qw,.slice (some ⟨r2,0,none⟩) 4 4] ((T.set r1 k1).set r2 ⟨27,cs,4⟩) λrv T'=>rv = .int .i64 0 /\ ∃ S' x' ac ad,x'.fr.length=x.fr.length/\CpS K a p b c q qw fn s 1 4 (oneL l) tot x0 S' T' x' (n+20) i f h ac ad (out ++ if isW l.length j=true then [rowW l j] else []):=λ{r1 r2 k1} cs aw hw g1 g2=>by
  subst aw;have H1:=H.new g1 k1;have H2:=H1.new g2 ⟨27,(rowW l j).map nU,4⟩;rw [if_pos hw];exact (zlj H2 _ (rowW l j) (zdQ ah.1 (by decide) (vf _ _ _)) ah (by decide) (by decide) (ho hw) ht hn hx).mono λrv T' ⟨e,S',x',ac,ad,e2,H3⟩=>⟨e,S',x',ac,ad,e2,H3.less ((vh K r1 k1 (zaj H.kb (zaz H.ar g1 k1).1.1)).trans (vh _ r2 _ (zaj H1.kb (zaz H1.ar g2 k1).1.1)))⟩
 by_cases hw:isW l.length j=true
 ·have hW:=hw;have aF:((j / 3:Nat):Int)=(j:Int) / 3:=rfl;unfold Skew.isW at hw;simp only [Bool.and_eq_true,Bool.not_eq_true',Bool.and_eq_false_iff,decide_eq_true_eq,decide_eq_false_iff_not] at hw;rcases (show (j≠l.length/\j % 3=1)\/(j≠l.length/\j % 3=2)\/(j=l.length/\j % 3=1) from by omega) with ⟨e0,e1⟩ | ⟨e0,e1⟩ | ⟨rfl,e1⟩
  ·skip
   refine k_E5 44 func113 ?_;refine r2_ ?_;refine vD (cs:=[_,_,_]) (zab rfl) rfl ?_;intro b6 W;have C:=W
   repeat ((with_reducible replace C:=zaa C);obtain ⟨C,_⟩:=C)
   have:=C.ne V;have:=C.ne' V
   have:=C.ne J;have:=C.ne' J
   have:=C.ne I;have:=C.ne' I
   have:=C.ne oq;have:=C.ne' oq
   refine nl_ ?_;refine r21_ ?_;refine cF_ ?_;refine r6_ ?_;refine rC (vi rfl rfl (zag (c:=false) (zaV _ _) (decide_eq_false vd))) ?_;refine r8_ ?_;refine cF_ ?_;refine r8_ ?_;refine cF_ ?_;refine r13_ ?_;refine vO (cs:=[_,_,_,_]) (zab rfl) zbi rfl rfl rfl rfl ?_;intro aq U;have A:=U
   repeat ((with_reducible replace A:=zaa A);obtain ⟨A,_⟩:=A)
   have:=A.ne V;have:=A.ne' V
   have:=A.ne J;have:=A.ne' J
   have:=A.ne I;have:=A.ne' I
   have:=A.ne oq;have:=A.ne' oq
   refine ca_ rfl (Y _ (by unfold Skew.rowW Skew.atW nU;rw [if_neg vd];rfl) hW W U) ?_;rintro _ T1 ⟨rfl,S1,x1,X,ae,aa,H1⟩;refine cp_ rfl (zbc _ _) ?_;refine r3_ ?_;refine kw_ [0,1,2,3,4,6,7,8,11,26] ?_;refine s1_ ?_;refine ⟨_,T1,⟨_,_,rfl,rfl,rfl⟩,zae,?_⟩;exact ⟨rfl,S1,x1,X,ae,aa,H1⟩
  ·skip
   refine k_E5 44 func113 ?_;refine r2_ ?_;refine vD (cs:=[_,_,_]) (zab rfl) rfl ?_;intro b6 W;have C:=W
   repeat ((with_reducible replace C:=zaa C);obtain ⟨C,_⟩:=C)
   have:=C.ne V;have:=C.ne' V
   have:=C.ne J;have:=C.ne' J
   have:=C.ne I;have:=C.ne' I
   have:=C.ne oq;have:=C.ne' oq
   refine nl_ ?_;refine r21_ ?_;refine cF_ ?_;refine r6_ ?_;refine rC (vi rfl rfl (zag (c:=false) (zaV _ _) (decide_eq_false vd))) ?_;refine r8_ ?_;refine cF_ ?_;refine r8_ ?_;refine cT_ ?_;refine r8_ ?_;refine kw_ [0,1,2,3,4,6,7,8,11,26] ?_;refine r10_ ?_;refine vO (cs:=[_,_,_,_]) (zab rfl) zbi rfl rfl rfl rfl ?_;intro aq U;have A:=U
   repeat ((with_reducible replace A:=zaa A);obtain ⟨A,_⟩:=A)
   have:=A.ne V;have:=A.ne' V
   have:=A.ne J;have:=A.ne' J
   have:=A.ne I;have:=A.ne' I
   have:=A.ne oq;have:=A.ne' oq
   refine ca_ rfl (Y _ (by unfold Skew.rowW Skew.atW nU;rw [if_pos e1];rfl) hW W U) ?_;rintro _ T1 ⟨rfl,S1,x1,X,ae,aa,H1⟩;refine cp_ rfl (zbc _ _) ?_;refine r4_ ?_;refine ⟨_,T1,⟨_,_,rfl,rfl,rfl⟩,zae,?_⟩;exact ⟨rfl,S1,x1,X,ae,aa,H1⟩
  skip
  refine k_E5 44 func113 ?_;refine r2_ ?_;refine vD (cs:=[_,_,_]) (zab rfl) rfl ?_;intro b6 W;have C:=W
  repeat ((with_reducible replace C:=zaa C);obtain ⟨C,_⟩:=C)
  have:=C.ne V;have:=C.ne' V
  have:=C.ne J;have:=C.ne' J
  have:=C.ne I;have:=C.ne' I
  have:=C.ne oq;have:=C.ne' oq
  refine nl_ ?_;refine r21_ ?_;refine cF_ ?_;refine r6_ ?_;refine rC (vi rfl rfl (zag (c:=true) (zaV _ _) (decide_eq_true rfl))) ?_;refine r3_ ?_
  first|refine k_q 21 ?_|refine rG 21 (vi rfl rfl (zag (c:=false) (zcp _ _) (by rw [decide_eq_true vd];rfl))) ?_
  refine r4_ ?_;refine cF_ ?_;refine r8_ ?_;refine kw_ [0,1,2,3,4,6,7,8,11,26] ?_;refine cF_ ?_;refine r13_ ?_;refine vO (cs:=[_,_,_,_]) (zab rfl) zbi rfl rfl rfl rfl ?_;intro aq U;have A:=U
  repeat ((with_reducible replace A:=zaa A);obtain ⟨A,_⟩:=A)
  have:=A.ne V;have:=A.ne' V
  have:=A.ne J;have:=A.ne' J
  have:=A.ne I;have:=A.ne' I
  have:=A.ne oq;have:=A.ne' oq
  refine ca_ rfl (Y _ (by unfold Skew.rowW Skew.atW nU;rw [if_neg vd];rfl) hW W U) ?_;rintro _ T1 ⟨rfl,S1,x1,X,ae,aa,H1⟩;refine cp_ rfl (zbc _ _) ?_;refine r4_ ?_;refine ⟨_,T1,⟨_,_,rfl,rfl,rfl⟩,zae,?_⟩;exact ⟨rfl,S1,x1,X,ae,aa,H1⟩
 rw [if_neg hw,List.append_nil];have az:j % 3=0\/(j=l.length/\j % 3=2):=by
  unfold Skew.isW at hw;simp only [Bool.and_eq_true,Bool.not_eq_true',Bool.and_eq_false_iff,decide_eq_true_eq,decide_eq_false_iff_not] at hw;omega
 rcases az with e0 | ⟨rfl,e1⟩
 ·skip
  refine k_E5 44 func113 ?_;refine r2_ ?_;refine vD (cs:=[_,_,_]) (zab rfl) rfl ?_;intro b6 W;have C:=W
  repeat ((with_reducible replace C:=zaa C);obtain ⟨C,_⟩:=C)
  have:=C.ne V;have:=C.ne' V
  have:=C.ne J;have:=C.ne' J
  have:=C.ne I;have:=C.ne' I
  have:=C.ne oq;have:=C.ne' oq
  refine nl_ ?_;refine r21_ ?_;refine cT_ ?_;refine r2_ ?_;refine cT_ ?_;refine r8_ ?_;refine ⟨_,T,⟨_,_,rfl,rfl,rfl⟩,zae,?_⟩;exact ⟨rfl,S,x,wf,wh,rfl,H.mono vd⟩
 skip
 refine k_E5 44 func113 ?_;refine r2_ ?_;refine vD (cs:=[_,_,_]) (zab rfl) rfl ?_;intro b6 W;have C:=W
 repeat ((with_reducible replace C:=zaa C);obtain ⟨C,_⟩:=C)
 have:=C.ne V;have:=C.ne' V
 have:=C.ne J;have:=C.ne' J
 have:=C.ne I;have:=C.ne' I
 have:=C.ne oq;have:=C.ne' oq
 refine nl_ ?_;refine r21_ ?_;refine kw_ [0,1,2,3,4,6,7,8,11] ?_;refine cF_ ?_;refine r6_ ?_;refine rC (vi rfl rfl (zag (c:=true) (zaV _ _) (decide_eq_true rfl))) ?_;refine r3_ ?_
 first|refine k_q 21 ?_|refine rG 21 (vi rfl rfl (zag (c:=true) (zcp _ _) (by rw [Bool.not_eq_true',decide_eq_false_iff_not];omega))) ?_
 refine r4_ ?_;refine cT_ ?_;refine r8_ ?_;refine ⟨_,T,⟨_,_,rfl,rfl,rfl⟩,zae,?_⟩;exact ⟨rfl,S,x,wf,wh,rfl,H.mono vd⟩
end
end Sto
end
section
open Go.RowKit
open Mv Disk Num
namespace Mv
theorem uF {P:tz} {N:Nat} {E:Env} {S:Mem} {dst:Option Nat} {ty:tx} {pos:String} {aft:Array Edge} {gd:Option (Nat × Bool)} {T e:tx} {x lo:tw} {I:IntKind} {b o len n l:Nat} (J:P.underlying T=some (.array len e)) (C:sizeT P e=some n) (H:ev E x=some (.pointer (some ⟨b,o,none⟩))) (A:ev E lo=some (.int I (l:Int))) (V:l<len) :
  ACalm P N ⟨dst,.slice T x (some lo) none none,ty,pos,aft,gd⟩ E S (.slice (some ⟨b,o+l*n,none⟩) (len-l) (len-l)):=λc w g U=>by
 have e1:(Instr.sliceBounds false len len (some (c.eval lo)) none none).run P w = .ok (l,len,len) w:=by
  unfold Instr.sliceBounds;simp [g.ev A,zbN _ _ rfl (Int.natCast_nonneg l) (show ((l:Nat):Int)<=len by omega) w]
 simp only [execOp,g.ev H,Instr.sliceAt,Sem.run_bind,run_underlying J w,Instr.sureAddr,Option.map_some,Option.map_none,e1,Result.andThen_ok,zaZ C w,Sem.run_pure,zaE];split
 ·omega
 rfl
end Mv
namespace Sto
open Skew (at0 isW atW rowW rowsW firstsN needS)
section
variable {K S T:Mem} {a p b c q qw:Nat} {fn s:tt} {x0 x:Pl} {n:Nat} {l:List Nat}
structure WX where
  S:Mem
  T:Mem
  x:Pl
  i:Nat
  f:Nat
  h:Nat
  wf:Nat
  wh:Nat
theorem zg9 (l:List Nat) (i:Nat):∀ k,(rowsW l i).length<=(rowsW l (i+k)).length
 | 0=>Nat.le_refl _
 | k+1=>by
  refine Nat.le_trans (zg9 l i k) ?_;rw [show i+(k+1)=i+k+1 from rfl,Skew.zeU,List.length_append];exact Nat.le_add_right _ _
theorem zrR (l:List Nat) {i:Nat} (hi:i<=l.length) (h:isW l.length i=true):(rowsW l i).length<needS l.length:=by
 have:=zg9 l (i+1) (l.length-i);rw [Skew.zeU,if_pos h,List.length_append,List.length_singleton,show i+1+(l.length-i)=l.length+1 from by omega,Skew.zgc] at this;omega
theorem zus (l:List Nat) (i:Nat):at0 l (min i l.length)=at0 l i:=by
 rcases Nat.le_total i l.length with h | h
 ·rw [Nat.min_eq_left h]
 rw [Nat.min_eq_right h,zpi l (Nat.le_refl _),zpi l h]
theorem zhZ {j n i f h wf wh w2 tot:Nat} {out:List (List Nat)} (H:CpS K a p b c q qw fn s 1 w2 (oneL l) tot x0 S T x n (min j l.length) f h wf wh out) (C:Nat) (A:K.own C=some ⟨125,[self q],1⟩) (V:∀ z ∈ l,1<=z/\z<Num.top) (hc:l.length<=60) (J:n+5<=16384) (U:2<=x.fr.length) :
  ACall prog 166 #[.pointer (some ⟨C,0,none⟩)] T λv T'=>v = .tuple #[.int .u64 (at0 l j:Nat),.nilIface] /\ ∃ S' x' I h',x'.fr.length=x.fr.length/\CpS K a p b c q qw fn s 1 w2 (oneL l) tot x0 S' T' x' (n+5) (min (j+1) l.length) I h' wf wh out:=by
 have:=zur H C A V vd (Nat.min_le_right _ _) J U;rwa [zus,show min (min j l.length+1) l.length=min (j+1) l.length from by omega] at this
def u3 (x y z:Nat):List tu:=[.int .u64 (x:Nat),.int .u64 (y:Nat),.int .u64 (z:Nat)]
theorem zpl (H:CpS K a p b c q qw fn s 1 4 (oneL l) (needS l.length) x0 S T x 0 0 0 0 0 0 []) (b7 W Y:Nat) (h7:K.own b7=some ⟨125,[self q],1⟩) (aY:K.own W=some ⟨27,[.int .u64 (firstsN l.length:Nat)],1⟩) (aV:K.own Y=some (bxB qw)) (hl:∀ z ∈ l,1<=z/\z<Num.top) (hc:l.length<=60) (hx:2<=x.fr.length) :
  ACall prog 112 #[self q,.func (.func 113) #[] #[.pointer (some ⟨b7,0,none⟩),.pointer (some ⟨W,0,none⟩),.pointer (some ⟨Y,0,none⟩)]] T λv T'=>v = .nilIface /\ ∃ S' x' n' f' aF aX,n'<=2000/\x'.fr.length=x.fr.length/\CpS K a p b c q qw fn s 1 4 (oneL l) (needS l.length) x0 S' T' x' n' l.length f' 0 aF aX (rowsW l (l.length+1)):=by
 have bn:needS l.length<=100:=by unfold Skew.needS Skew.firstsN;split <;> omega
 refine k_E2 61 func112 ?_;refine r2_ ?_;refine vB (zab rfl) rfl rfl ?_;intro A f2;have g2:=f2
 repeat ((with_reducible replace g2:=zaa g2);obtain ⟨g2,_⟩:=g2)
 refine nl_ ?_;refine r5_ ?_;refine ARun.alloc (zab rfl) zcU ?_;intro I f5;have g5:=f5
 repeat ((with_reducible replace g5:=zaa g5);obtain ⟨g5,_⟩:=g5)
 refine nl_ ?_;refine r2_ ?_;have aB:K.own A=none:=zaj H.kb (zaz H.ar f2 ⟨125,[self q],1⟩).1.1;have H1:=H.new f2 ⟨125,[self q],1⟩;have ah:=zaj H1.kb (zaz H1.ar f5 ⟨157,u3 0 0 0,3⟩).1.1;have H2:=H1.new f5 ⟨157,u3 0 0 0,3⟩;have aa:∀ k,K.Less ((K.set A ⟨125,[self q],1⟩).set I k):=λk=>(vh K A _ aB).trans (vh _ I k ah);have az:A≠I:=λe=>by rw [<- e,vf] at ah;cases ah
 have ac:∀ k,((K.set A ⟨125,[self q],1⟩).set I k).own A=some ⟨125,[self q],1⟩:=λk=>(vg _ _ az).trans (vf _ _ _);generalize aN:(T.set A ⟨125,[self q],1⟩).set I ⟨157,u3 0 0 0,3⟩=T2 at H2;refine AWP.less T2 (by rw [<- aN];exact Mem.Less.refl _) ?_;refine r13_ ?_;refine AWP.loop (X:=WX × Nat) (λX=>[(1,.func (.func 113) #[] #[.pointer (some ⟨b7,0,none⟩),.pointer (some ⟨W,0,none⟩),.pointer (some ⟨Y,0,none⟩)]),(2,.pointer (some ⟨A,0,none⟩)),(5,.pointer (some ⟨I,0,none⟩)),(6,.func (.func 166) #[] #[.pointer (some ⟨A,0,none⟩)]),(15,.int .i64 (X.2:Nat))]) (λX=>X.1.T) (λX=>X.2<=2/\X.1.x.fr.length=x.fr.length/\CpS ((K.set A ⟨125,[self q],1⟩).set I ⟨157,u3 0 (if 1<=X.2 then at0 l 0 else 0) (if 2<=X.2 then at0 l 1 else 0),3⟩) a p b c q qw fn s 1 4 (oneL l) (needS l.length) x0 X.1.S X.1.T X.1.x (5*X.2) (min X.2 l.length) X.1.f X.1.h X.1.wf X.1.wh []) (λX=>2-X.2) ((⟨(S.set A ⟨125,[self q],1⟩).set I ⟨157,u3 0 0 0,3⟩,T2,x,0,0,0,0,0⟩,0)) ⟨rfl,rfl,rfl,rfl,rfl,trivial⟩ (Mem.Less.refl _) (⟨Nat.zero_le _,rfl,by rw [Nat.zero_min];exact H2⟩) ?_;rintro ⟨⟨S3,T3,x3,i3,f3,h3,ae,ad⟩,j⟩ ⟨hj,V,H3⟩;(try dsimp only at *);replace hj:j<=2:=hj;replace V:x3.fr.length=x.fr.length:=V;replace H3:CpS ((K.set A ⟨125,[self q],1⟩).set I ⟨157,u3 0 (if 1<=j then at0 l 0 else 0) (if 2<=j then at0 l 1 else 0),3⟩) a p b c q qw fn s 1 4 (oneL l) (needS l.length) x0 S3 T3 x3 (5*j) (min j l.length) f3 h3 ae ad []:=H3;obtain rfl | rfl | rfl:j=0\/j=1\/j=2:=by omega
 ·have U:=zhZ (j:=0) (i:=0) H3 A (ac _) hl hc vd vd;refine r6_ ?_;refine cT_ ?_;refine r13_ ?_;refine vq (zab rfl) znr rfl rfl (U) ?_;rintro _ T4 ⟨rfl,S4,x4,f4,h4,af,H4⟩;have o5:=zah H4.ar (H4.kb.own (vf _ _ _));refine r11_ ?_;refine rC (vi rfl rfl Er.neNil) ?_;refine r2_ ?_;refine cF_ ?_;refine r7_ ?_;refine vk rfl rfl zai rfl o5 (show 1<3 by decide) rfl ?_
  try simp only [k_ms,k_sz,k_ss,k_za,Nat.reduceAdd]
  refine r3_ ?_;refine kw_ [1,2,5,6,15,16,7,8,9,24] ?_;have C:=H4.put (vf _ _ _) ⟨157,u3 0 (at0 l 0) 0,3⟩;rw [Mem.set_set] at C;refine r5_ ?_;refine ⟨(⟨S4.set I ⟨157,u3 0 (at0 l 0) 0,3⟩,T4.set I ⟨157,u3 0 (at0 l 0) 0,3⟩,x4,0,f4,h4,ae,ad⟩,1),?_,?_,?_,?_⟩<;>try dsimp only
  ·exact ⟨rfl,rfl,rfl,rfl,rfl,trivial⟩
  ·exact Mem.Less.refl _
  ·exact ⟨by decide,af.trans V,C⟩
  decide
 ·have U:=zhZ (j:=1) (i:=0) H3 A (ac _) hl hc vd vd;refine r6_ ?_;refine cT_ ?_;refine r13_ ?_;refine vq (zab rfl) znr rfl rfl (U) ?_;rintro _ T4 ⟨rfl,S4,x4,f4,h4,af,H4⟩;have o5:=zah H4.ar (H4.kb.own (vf _ _ _));refine r11_ ?_;refine rC (vi rfl rfl Er.neNil) ?_;refine r2_ ?_;refine cF_ ?_;refine r7_ ?_;refine vk rfl rfl zai rfl o5 (show 2<3 by decide) rfl ?_
  try simp only [k_ms,k_sz,k_ss,k_za,Nat.reduceAdd]
  refine r3_ ?_;have C:=H4.put (vf _ _ _) ⟨157,u3 0 (at0 l 0) (at0 l 1),3⟩;rw [Mem.set_set] at C;refine r5_ ?_;refine ⟨(⟨S4.set I ⟨157,u3 0 (at0 l 0) (at0 l 1),3⟩,T4.set I ⟨157,u3 0 (at0 l 0) (at0 l 1),3⟩,x4,0,f4,h4,ae,ad⟩,2),?_,?_,?_,?_⟩<;>try dsimp only
  ·exact ⟨rfl,rfl,rfl,rfl,rfl,trivial⟩
  ·exact Mem.Less.refl _
  ·exact ⟨by decide,af.trans V,C⟩
  decide
 refine r6_ ?_;refine cF_ ?_;refine r12_ ?_;refine AWP.loop (X:=WX × Nat × Nat) (λX=>[(1,.func (.func 113) #[] #[.pointer (some ⟨b7,0,none⟩),.pointer (some ⟨W,0,none⟩),.pointer (some ⟨Y,0,none⟩)]),(2,.pointer (some ⟨A,0,none⟩)),(5,.pointer (some ⟨I,0,none⟩)),(6,.func (.func 166) #[] #[.pointer (some ⟨A,0,none⟩)]),(10,.int .u64 (X.2.1:Nat))]) (λX=>X.1.T) (λX=>X.2.1<=l.length+1/\X.1.x.fr.length=x.fr.length/\CpS ((K.set A ⟨125,[self q],1⟩).set I ⟨157,u3 X.2.2 (at0 l X.2.1) (at0 l (X.2.1+1)),3⟩) a p b c q qw fn s 1 4 (oneL l) (needS l.length) x0 X.1.S X.1.T X.1.x (10+25*X.2.1) (min (X.2.1+2) l.length) X.1.f X.1.h X.1.wf X.1.wh (rowsW l X.2.1)) (λX=>l.length+1-X.2.1) ((⟨S3,T3,x3,0,f3,h3,ae,ad⟩,0,0)) ⟨rfl,rfl,rfl,rfl,rfl,trivial⟩ (Mem.Less.refl _) (⟨Nat.zero_le _,V,H3⟩) ?_;rintro ⟨⟨S5,T5,x5,i5,aq,h5,ao,al⟩,i,v0⟩ ⟨hi,J,C⟩;(try dsimp only at *);replace hi:i<=l.length+1:=hi;replace J:x5.fr.length=x.fr.length:=J;replace C:CpS ((K.set A ⟨125,[self q],1⟩).set I ⟨157,u3 v0 (at0 l i) (at0 l (i+1)),3⟩) a p b c q qw fn s 1 4 (oneL l) (needS l.length) x0 S5 T5 x5 (10+25*i) (min (i+2) l.length) aq h5 ao al (rowsW l i):=C;have o2:=zah C.ar (C.kb.own (ac _));have oq:=zah C.ar C.oq
 (unfold rdB at oq;dsimp only at oq;rw [zaO] at oq)
 by_cases aj:i<=l.length
 ·have o5:=zah C.ar (C.kb.own (vf _ _ _));refine r11_ ?_;refine kw_ [1,2,5,6,10,36] ?_;refine cT_ ?_;refine r5_ ?_;refine dr_ [i0_,i1_,o2_] [2] ?_;refine s1_ ?_;refine dP (hc:=λ_=>uF (l:=1) underlying157 zai rfl rfl (by decide)) (h:=?_);refine zac rfl ?_;refine vU (n:=1) (q:=2) (news:=[.int .u64 (at0 l i:Nat),.int .u64 (at0 l (i+1):Nat)]) (zab rfl) zbi rfl o5 (Nat.zero_le _) rfl rfl (vA o5 1 _ (λj v hj=>by rw [show 1+j=j+1 from Nat.add_comm 1 j];exact hj)) rfl (by simp [Value.oneCell']) (.inl (show 2<=3 by decide)) ?_;have H6:=C.put (vf _ _ _) ⟨157,u3 (at0 l i) (at0 l (i+1)) (at0 l (i+1)),3⟩;rw [Mem.set_set] at H6;have U:=zhZ (j:=i+2) (i:=0) H6 A (ac _) hl hc vd vd;refine zad ⟨nz_,?_⟩;refine r5_ ?_;refine vq (zab rfl) znr rfl rfl (U) ?_;rintro _ T7 ⟨rfl,S7,x7,f7,aP,aW,H7⟩;have aD:=zah H7.ar (H7.kb.own (vf _ _ _));refine r11_ ?_;refine rC (vi rfl rfl Er.neNil) ?_;refine r2_ ?_;refine cF_ ?_;refine r6_ ?_;refine vk rfl rfl zai rfl aD (show 2<3 by decide) rfl ?_
  try simp only [k_ms,k_sz,k_ss,k_za,Nat.reduceAdd]
  refine r2_ ?_;have H8:=H7.put (vf _ _ _) ⟨157,u3 (at0 l i) (at0 l (i+1)) (at0 l (i+2)),3⟩;rw [Mem.set_set] at H8;have bf:=zah H8.ar (H8.kb.own (vf _ _ _));have aA:=zpk H8 b7 W Y i ((aa _).own h7) ((aa _).own aY) ((aa _).own aV) (λz hz=>(hl z hz).2) vd aj (λhw=>zrR l aj hw) vd vd vd;refine r5_ ?_;refine vq (zab rfl) zvw rfl rfl (aA) ?_;rintro _ T9 ⟨rfl,S9,x9,aQ,aJ,aL,H9⟩;rw [<- Skew.zeU] at H9;refine r3_ ?_;refine kw_ [1,2,5,6,10,36,11,12,48,13] ?_;refine r3_ ?_;refine rC (vi rfl rfl Er.neNil) ?_;refine r2_ ?_;refine cF_ ?_;refine r9_ ?_;refine ⟨(⟨S9,T9,x9,0,f7,aP,aQ,aJ⟩,i+1,at0 l i),?_,?_,?_,?_⟩<;>try dsimp only
  ·exact ⟨rfl,rfl,rfl,rfl,rfl,trivial⟩
  ·exact Mem.Less.refl _
  ·exact ⟨by omega,aL.trans (aW.trans J),H9⟩
  omega
 obtain rfl:i=l.length+1:=by omega
 refine r11_ ?_;refine cF_ ?_;have aU:=zfn C;refine r8_ ?_;refine ca_ rfl (aU) ?_;rintro _ T6 ⟨_,S6,x6,aR,H6⟩;rw [show min (l.length+1+2) l.length=l.length from by omega] at H6;refine r8_ ?_;refine ⟨_,T6,⟨_,_,rfl,rfl,rfl⟩,zae,?_⟩;exact ⟨rfl,S6,x6,_,aq,ao,al,by omega,aR.trans J,H6.less (aa _)⟩
end
end Sto
end
section
open Go.RowKit
open Mv Disk Num
namespace Sto
open Run (nameS sizeN)
section
variable {K S T:Mem} {a p b c wk m:Nat} {u:W5} {x:Pl} {o:Option (Nat × Nat)} {ts L:List tt}
theorem zpm {L:List tt} {k:Nat} (h:L.any (pfx (nameS nT k))=false):frN k ∉ L:=λA=>by
 have:=List.any_eq_false.1 h _ A;rw [show pfx (nameS nT k) (frN k)=true from zeh _ _] at this;exact this rfl
theorem zut (k:Nat):nm (frN k):=zlg (by rw [zco];decide) 0
theorem zpn (h:NmS K a p b c wk u m S T x o ts L) (fn:tt) (w A kk i:Nat) (rows:List (List Nat)) (eu:tx) (ev:tu) (hH:Has x fn w rows.length (rows.flatMap recB)) (au:24<=m) (aC:m<=256) (h1:1<=w) (h8:w<=8) (hr:RowsOK w rows) (hc:rows.length<=sizeN m w) (av:5*w*rows.length+5*w*rows.length+512<=16384) (ax:5*w*(1+2*rows.length+2)+512<=16384) (hi:i<ts.length) (Y:ts[i]=fn) (am:∀ j (h:j<ts.length),j≠i->ts[j]≠fn) (al:ts.length<=7) (aa:∀ t ∈ ts,t ∈ L)
  (an:A<=9) (hk:∀ j,j<A->L.any (pfx (nameS nT j))=true) (ad:L.any (pfx (nameS nT A))=false) (az:kk<=9) (aA:∀ j,j<kk->(frN A :: L).any (pfx (nameS nT j))=true) (ay:(frN A :: L).any (pfx (nameS nT kk))=false) (J:(used x.d.ext:Int)+(Rec.needN w rows.length:Nat)+rows.length+4<=x.d.size) (hE:K.Knows ⟨1,0,none⟩ [.iface eu ev]) :
  ACall prog 61 #[self wk,.string fn] T λv T'=>v = .tuple #[.string (frN A),.nilIface] /\ ∃ out,out.Perm rows/\SortedR out/\NmE K a p b c wk u m x ((ts ++ [frN A]).eraseIdx i) ((frN A :: L).filter λt=>decide (t≠fn)) (λt=>t=frN A\/t=fn) (Rec.needN w rows.length+rows.length+2) T' λy=>Has y (frN A) w out.length (out.flatMap recB):=by
 have ah:=zhY h A an hk ad;have W:fn ∈ L:=by rw [<- Y];exact aa _ (List.getElem_mem hi)
 have X:=zpm ad;have V:frN A≠fn:=λe=>X (e ▸ W);refine k_E2 23 func61 ?_;refine r9_ ?_;refine cp_ rfl (ah) ?_;refine r10_ ?_;refine ca_ rfl (zkl T wk (frN A)) ?_;rintro _ S1 ⟨bw,C,rfl,f1,f2,af⟩;rw [af];clear af S1;have H1:=h.new f1 (wpB wk);have H2:=H1.new f2 (nmB (frN A));have aj:K.own bw=none:=zaj h.kb (zaz h.ar f1 (wpB wk)).1.1;have I:(K.set bw (wpB wk)).own C=none:=zaj H1.kb (zaz H1.ar f2 (wpB wk)).1.1;have ac:=(vh K bw (wpB wk) aj).trans (vh _ C (nmB (frN A)) I);have ao:bw≠C:=λe=>by rw [<- e,vf] at I;cases I
 have ak:=zul _ a p b c wk bw C u fn (frN A) w m kk rows _ _ x o ts L eu ev H2 ((vg _ _ ao).trans (vf _ _ _)) (vf _ _ _) hH au aC h1 h8 hr hc av ax al aa (zut A) X az aA ay J (hE.less ac);refine ca_ rfl (ak) ?_;rintro _ T2 ⟨rfl,out,aB,U,S2,y,o2,H3,aD,aq⟩;refine r6_ ?_;refine rC (vi rfl rfl Er.neNil) ?_;refine r2_ ?_;refine cF_ ?_;have ai:i<(ts ++ [frN A]).length:=by rw [List.length_append];omega
 have ag:=zkm H3 fn i ai (by rw [List.length_append];simp;omega) (by rw [List.getElem_append_left hi];exact Y) (λj hj aE=>by
  by_cases q:j<ts.length
  ·rw [List.getElem_append_left q];exact am j q aE
  rw [List.getElem_append_right vd];simpa using V) (List.mem_cons_of_mem _ W)
 refine r7_ ?_;refine ca_ rfl (ag) ?_;rintro _ T3 ⟨rfl,S3,y3,o3,H4,H,_⟩;refine r5_ ?_;refine ⟨_,T3,⟨_,_,rfl,⟨_,_,rfl,rfl,rfl⟩,rfl⟩,zae,?_⟩;exact ⟨rfl,out,aB,U,S3,y3,o3,H4.less ac,(aD.mono (λ_ e=>.inl e) (λ_ e=>e) (Nat.le_refl _)).trans (H.mono (λ_ e=>.inr e) (λ_ e=>e) (Nat.le_refl _)),aq.far H V⟩
end
end Sto
end
section
open Go.RowKit
open Mv Disk Num
namespace Sto
open Skew (rowsW firstsN needS)
section
variable {K S T:Mem} {a p b c wk m q qw:Nat} {u:W5} {x x0:Pl} {o:Option (Nat × Nat)} {ts L:List tt} {fn s:tt} {w w2 tot n i f wf wh:Nat} {rows out:List (List Nat)} {S0 T0:Mem}
theorem zlw (h:NmS K a p b c wk u m S T x o ts L) {bw C ct:Nat} (af:K.own bw=some (wpB wk)) (U:K.own C=some (nmB s)) (W:ts.length<=9) (hs:nm s) (V:s ∉ L) (hw:w<=8) (ad:ct<=65536) (hr:(used x.d.ext:Int)+(Rec.needN w ct:Nat)<=x.d.size) :
  ACall prog 116 #[.int .i64 (w:Nat),.int .u64 (ct:Nat),.pointer (some ⟨bw,0,none⟩),.pointer (some ⟨C,0,none⟩)] T λv T'=>∃ qw y S' o',v = .tuple #[self qw,.nilIface]/\K.own qw=none/\NmS (K.set qw (wtB a ⟨s,w,0,0,0,0⟩)) a p b c wk u m S' T' y o' (ts ++ [s]) (s :: L)/\Far x y (λt=>t=s) No (Rec.needN w ct)/\Wrote y s []/\Sto.ns y.d s=Rec.needN w ct:=by
 refine (zo6 S a p b c wk bw C u o ts x s w ct 0 0 T h.ar h.wo (h.kb.own af) (h.kb.own U) W h.ps hs (h.ns0 V) hw ad hr (Nat.le_of_eq h.nb)).mono λv T' ⟨qw,y,S',o',hv,A⟩=>?_;have X:K.Less S':=⟨λt k I=>(A.kp t k (h.kb.own I) (λg J e eq=>by subst eq;rw [h.ko g J e] at I;cases I) (λeq=>by rw [eq,h.kw] at I;cases I)).1,h.kb.2.trans A.ro.symm⟩;have Y:=zaj h.kb A.new;have H:=zfm A.md;have ac:qw≠wk:=za5 A.wt.ow A.wks.own (by show ¬ 206=120;decide);have aa:=A.wks.away A.wt.ow (by show ¬ 206=9;decide);refine ⟨qw,y,S',o',hv,Y,⟨A.wt.ar,A.wt.ps,λj hj=>by unfold atF;rw [A.md.fr] at hj ⊢;exact h.cl j hj,λt=>H.u t (λe=>e.elim) (h.us t),by rw [A.md.fr];exact h.nb,H.l.trans h.ln,A.wks,?_,(vg _ _ (Ne.symm ac)).trans h.kw,λt J e=>(vg _ _ (aa t J e)).trans ((A.na t J e).elim (λhn=>zaj h.kb hn) λ⟨c',e'⟩=>h.ko t c' e'),λt=>?_⟩,H,A.wt.wr,by rw [A.md.n,if_pos rfl]⟩
 ·have:=Mv.Less.set X qw (wtB a ⟨s,w,0,0,0,0⟩);rwa [vG _ _ _ A.wt.ow] at this
 rw [A.md.n];by_cases e:s=t
 ·rw [if_pos e,<- e];exact ⟨λ_=>List.mem_cons_self ..,λ_=>Rec.za7 _ _⟩
 rw [if_neg e,h.di t];exact ⟨λh=>List.mem_cons_of_mem _ h,λh=>(List.mem_cons.1 h).resolve_left (Ne.symm e)⟩
theorem zh0 (h:NmS K a p b c wk u m S T x o ts L) (U:S.own q=some (rdB a ⟨fn,w,rows.length,0,0,0⟩)) (A:S.own qw=some (wtB a ⟨s,w2,0,0,0,0⟩)) (H:Has x fn w rows.length (rows.flatMap recB)) (V:Wrote x s []) (I:Sto.ns x.d s=Rec.needN w2 tot) (C:fn≠s):CpS ((S.del q).del qw) a p b c q qw fn s w w2 rows tot x S T x 0 0 0 0 0 0 [] :=
 ⟨h.ar,U,A,h.ps,h.us fn,h.us s,by rw [h.nb];exact Nat.zero_le _,H,V,I,λr J=>(by cases J),Far.refl _ _ _,(zaS _ _).trans (zaS _ _),zaj (zaS _ qw) (by simp [Mem.del]),by simp [Mem.del],C⟩
theorem zpo {J I:Mem} (U:NmS K a p b c wk u m S0 T0 x0 o ts L) (hw:WkS I a wk u o ts) (hK:J.Less I) (aa:J.own wk=none) (V:∀ t cc,o=some (t,cc)->J.own t=none) (H:CpS I a p b c q qw fn s w w2 rows tot x0 S T x n i f 0 wf wh out) (h1:1<=w2) (h8:w2<=8) (ht:out.length=tot) (hb:tot<=65536) (hn:n+x.fr.length<=16384) (X:s ∈ L) :
  ACall prog 115 #[self qw] T λv T'=>v = .int .i64 0/\I.Less T'/\NmE J a p b c wk u m x0 ts L (λt=>t=s) 0 T' λy=>Has y s w2 tot (out.flatMap recB):=by
 refine (zo8 H h1 h8 ht hb hn (λt _=>U.us t)).mono λv T' ⟨hv,S',y,hA,_,A,hp,W,hu,Y,C,hH,_⟩=>?_;refine ⟨hv,A.trans (zbb hA),S',y,o,⟨hA,hp,W,hu,Y,C.l.trans U.ln,hw.less A,hK.trans A,aa,V,λt=>?_⟩,C,hH⟩;by_cases e:t=s
 ·subst e;exact ⟨λ_=>X,λ_=>hH.pos⟩
 rw [C.n t e];exact U.di t
theorem zmD (C:NmS K a p b c wk u m S0 T0 x0 o ts L) {r:Rd} {r':Wt} (H:S0.own q=some (rdB a r)) (A:S0.own qw=some (wtB a r')):WkS ((S0.del q).del qw) a wk u o ts :=
 (C.wo.del (za5 C.wo.own H (by show ¬ 120=130;decide)) (C.wo.away H (by show ¬ 130=9;decide))).del (za5 C.wo.own A (by show ¬ 120=206;decide)) (C.wo.away A (by show ¬ 206=9;decide))
theorem zs4 (A:NmS K a p b c wk u m S0 T0 x0 o ts L) (hq:S0.own q=some (rdB a ⟨fn,w,rows.length,0,0,0⟩)) (I:S0.own qw=some (wtB a ⟨s,w2,0,0,0,0⟩)) {C:Mem} (J:C.Less K) (W:C.own q=none) (V:C.own qw=none) (H:CpS ((S0.del q).del qw) a p b c q qw fn s w w2 rows tot x0 S T x n i f 0 wf wh out) (h1:1<=w2) (h8:w2<=8) (Y:out.length=tot) (X:tot<=65536) (hn:n+x.fr.length<=16384) (U:s ∈ L) :
  ACall prog 115 #[self qw] T λv T'=>v = .int .i64 0/\NmE C a p b c wk u m x0 ts L (λt=>t=s) 0 T' λy=>Has y s w2 tot (out.flatMap recB) :=
 (zpo A (zmD A hq I) (zaI (zaI (J.trans A.kb) W) V) (zaj J A.kw) (λt cc e=>zaj J (A.ko t cc e)) H h1 h8 Y X hn U).mono λv T' ⟨e,_,h⟩=>⟨e,h⟩
theorem zmE {l:List Nat} (h:NmS K a p b c wk u m S T x o ts L) {bw ax:Nat} (aT:K.own bw=some (wpB wk)) (a5:K.own ax=some (nmB s)) (aN:ts.length<=9) (hs:nm s) (aC:s ∉ L) (hH:Has x fn 1 (oneL l).length ((oneL l).flatMap recB)) (hl:∀ z ∈ l,1<=z/\z<Num.top) (hc:l.length<=60) (bn:24<=m) (bo:m<=256) (hr:(used x.d.ext:Int)+(Rec.needN 4 (needS l.length):Nat)<=x.d.size) :
  ACall prog 59 #[self wk,.string fn,tmF bw ax] T λv T'=>v = .nilIface/\NmE K a p b c wk u m x (ts ++ [s]) (s :: L) (λt=>t=s) (Rec.needN 4 (needS l.length)) T' λy=>Has y s 4 (needS l.length) ((rowsW l (l.length+1)).flatMap recB):=by
 have bp:needS l.length<=100:=by unfold Skew.needS Skew.firstsN;split <;> omega
 have aD:fn≠s:=λe=>aC (e ▸ (h.di fn).1 hH.pos);have aP:=zpf h hH (by rw [zaO];omega);unfold tmF;refine k_E3 53 func59 ?_;refine r9_ ?_;refine ca_ rfl (aP) ?_;rintro _ T1 ⟨q,y1,rfl,hq,H1,aF,a4⟩;have a6:=H1.kb.own (vf K q (rdB a ⟨fn,1,(oneL l).length,0,0,0⟩));have oq:=zah H1.ar a6
 (unfold rdB at oq;dsimp only at oq;rw [zaO] at oq)
 refine r3_ ?_;refine ARun.alloc (zab rfl) zjs ?_;intro b7 f7;have g7:=f7
 repeat ((with_reducible replace g7:=zaa g7);obtain ⟨g7,_⟩:=g7)
 have:=g7.ne oq;have:=g7.ne' oq
 refine nl_ ?_;refine r4_ ?_;have H2:=H1.new f7 ⟨125,[self q],1⟩;have a0:=zaj H1.kb (zaz H1.ar f7 ⟨125,[self q],1⟩).1.1;have a7:=vf K q (rdB a ⟨fn,1,(oneL l).length,0,0,0⟩);have ac:=vh K q (rdB a ⟨fn,1,(oneL l).length,0,0,0⟩) hq;have V:=vh (K.set q (rdB a ⟨fn,1,(oneL l).length,0,0,0⟩)) b7 ⟨125,[self q],1⟩ a0;have aM:=zlw (w:=4) (ct:=needS l.length) H2 (V.own (ac.own aT)) (V.own (ac.own a5)) aN hs aC (by decide) vd (by rw [aF];exact hr);refine r4_ ?_;refine rC (vi rfl rfl Er.neNil) ?_;refine r2_ ?_;refine cF_ ?_;refine r8_ ?_;refine cp_ rfl (zpe _ _ vd) ?_;refine r11_ ?_;refine vq (zab rfl) zkL rfl rfl (aM) ?_;rintro _ T3 ⟨qw,y3,S3,o3,rfl,aw,H3,aK,aO,a8⟩;have aq:=vh _ qw (wtB a ⟨s,4,0,0,0,0⟩) aw;have al:=H3.kb.own (aq.own (vf _ b7 ⟨125,[self q],1⟩));have J:=H3.kb.own (aq.own (V.own a7));have ak:=H3.kb.own (vf _ qw (wtB a ⟨s,4,0,0,0,0⟩));have o7:=zah H3.ar al;have H:=zah H3.ar J
 (unfold rdB at H;dsimp only at H;rw [zaO] at H)
 refine r3_ ?_;refine ARun.alloc (zab rfl) zcC ?_;intro I aa;have C:=aa
 repeat ((with_reducible replace C:=zaa C);obtain ⟨C,_⟩:=C)
 have:=C.ne o7;have:=C.ne' o7
 have:=C.ne H;have:=C.ne' H
 refine nl_ ?_;refine r4_ ?_;have H4:=H3.new aa (bxB qw);have ay:=zaj H3.kb (zaz H3.ar aa (bxB qw)).1.1;have au:=(zaz H3.ar aa (bxB qw)).1;refine r4_ ?_;refine rC (vi rfl rfl Er.neNil) ?_;refine r2_ ?_;refine kw_ [0,1,2,6,7,8,20,9,11,37] ?_;refine cF_ ?_;refine r8_ ?_;refine cp_ rfl (zi6 _ _ vd) ?_;refine ARun.alloc (zab rfl) zez ?_;intro X af;have A:=af
 repeat ((with_reducible replace A:=zaa A);obtain ⟨A,_⟩:=A)
 have:=A.ne o7;have:=A.ne' o7
 have:=A.ne H;have:=A.ne' H
 refine nl_ ?_;refine r3_ ?_;have H5:=H4.new af ⟨27,[.int .u64 (firstsN l.length:Nat)],1⟩;have az:=zaj H4.kb (zaz H4.ar af ⟨27,[.int .u64 (firstsN l.length:Nat)],1⟩).1.1;have ae:=(zaz H4.ar af ⟨27,[.int .u64 (firstsN l.length:Nat)],1⟩).1;have aR:=(((ac.trans V).trans aq).trans (vh _ I (bxB qw) ay)).trans (vh _ X ⟨27,[.int .u64 (firstsN l.length:Nat)],1⟩ az);have aj:=(vg _ (bxB qw) (au.ne J)).trans J;have W:=(vg _ ⟨27,[.int .u64 (firstsN l.length:Nat)],1⟩ (ae.ne aj)).trans aj;have ah:=(vg _ (bxB qw) (au.ne ak)).trans ak;have Y:=(vg _ ⟨27,[.int .u64 (firstsN l.length:Nat)],1⟩ (ae.ne ah)).trans ah;have ai:=(vg _ (bxB qw) (au.ne al)).trans al;have aA:=(vg _ ⟨27,[.int .u64 (firstsN l.length:Nat)],1⟩ (ae.ne ai)).trans ai;have U:=vf S3 I (bxB qw);have an:=(vg _ ⟨27,[.int .u64 (firstsN l.length:Nat)],1⟩ (ae.ne U)).trans U;have ao:=vf (S3.set I (bxB qw)) X ⟨27,[.int .u64 (firstsN l.length:Nat)],1⟩;have ag:Far x y3 (λt=>t=s) No (Rec.needN 4 (needS l.length)):=((zds (D:=λt=>t=s) (E:=No) a4 aF).trans aK).mono (λ_ e=>e) (λ_ e=>e) vd;have H6:=zh0 H5 W Y (hH.far ag aD) aO a8 aD;have am:∀ {t:Nat} {k:Blk},((S3.set I (bxB qw)).set X ⟨27,[.int .u64 (firstsN l.length:Nat)],1⟩).own t=some k->k.elem≠130->k.elem≠206->((((S3.set I (bxB qw)).set X ⟨27,[.int .u64 (firstsN l.length:Nat)],1⟩).del q).del qw).own t=some k:=λht e1 e2=>(vj _ (za5 ht Y e2)).trans ((vj _ (za5 ht W e1)).trans ht);have aE:=am an (by show ¬ 73=130;decide) (by show ¬ 73=206;decide);have aY:=zpl H6 b7 X I (am aA (by show ¬ 125=130;decide) (by show ¬ 125=206;decide)) (am ao (by show ¬ 27=130;decide) (by show ¬ 27=206;decide)) aE hl hc (by rw [H5.ln];omega);refine r4_ ?_;refine ca_ rfl (aY) ?_;rintro _ T6 ⟨rfl,S6,x6,n6,f6,bl,bj,bm,a1,H7⟩;have a2:=zah H7.ar (H7.kb.own aE);unfold bxB at a2;have aW:=zs4 H5 W Y aR hq (zaj (ac.trans V) aw) H7 (by decide) (by decide) (Skew.zgc l) vd (by rw [a1,H5.ln];omega) (List.mem_cons_self ..);refine r7_ ?_;refine rC (vi rfl rfl Er.neNil) ?_;refine r2_ ?_;refine cF_ ?_;refine r5_ ?_;refine ca_ rfl (aW) ?_;rintro _ T7 ⟨rfl,S7,y7,aQ,H8,aU,aV⟩;refine cp_ rfl (zbc _ _) ?_;refine r4_ ?_;refine ⟨_,T7,⟨_,_,rfl,rfl,rfl⟩,zae,?_⟩;exact ⟨rfl,S7,y7,aQ,H8,(ag.trans aU),aV⟩
end
end Sto
end
section
open Go.RowKit Go.Shelf
attribute [local go_sem] Oper.semAt_some
def atV:Option tu->Nat
  | some (.int _ z)=>z.toNat
  | _=>0
set_option maxRecDepth 100000 in
theorem zwu (l X q n C:Nat) (h5:0<C) (J:Nat->tv->Prop) (Y:Nat->tu->tv->Prop) (Z:tv->Prop) (W:tv)
  (hc:∀ k W,J k W->W.cell? ⟨X,0,none⟩=some (.pointer (some ⟨q,0,none⟩))/\W.cell? ⟨q,4,none⟩=some (.int .i64 ((C*k:Nat):Int)))
  (hN:∀ k W,k<n->J k W->Calls prog 167 #[.pointer (some ⟨q,0,none⟩)] W λe H=>∃ g m c,e = .returned (.tuple #[.slice g m c,.bool true])/\Y k (.slice g m c) H)
  (hE:∀ W,J n W->Calls prog 167 #[.pointer (some ⟨q,0,none⟩)] W λe H=>e = .returned (.tuple #[.slice none 0 0,.bool false])/\Z H)
  (hY:∀ k v W,k<n->Y k v W->YieldAt Fence.wide 4 prog l #[v] W λe H=>e = .returned (.bool true)/\J (k+1) H) (h0:J 0 W) :
  CallsIn Fence.wide 5 prog 177 #[.func (.yield l) #[] #[],.pointer (some ⟨X,0,none⟩)] W λe H=>(∃ v,e = .returned v)/\Z H:=by
 refine callsIn_of_wp func177 rfl trivial ?_ rfl;simp only [ntmps177,List.size_toArray,List.length_cons,List.length_nil,Nat.reduceAdd,Nat.reduceSub,Array.replicate_succ,Array.replicate_zero,List.push_toArray,List.append_toArray,List.nil_append,List.cons_append]
 gi_wp2
 gi_loopw [] (λwr=>∃ k:Nat,k<=n/\J k wr) (λwr=>C*n-atV (wr.cell? ⟨q,4,none⟩))
 case atStart=>exact ⟨0,Nat.zero_le _,h0⟩
 case round =>
  obtain ⟨k,hk,U⟩:=hrel;obtain ⟨c1,c2⟩:=hc k wr U;by_cases A:k<n
  ·gi_wp2_with (refine ⟨trivial,?_⟩;gi_at_call 167;refine (callsIn_wide.2 (hN k wr A U)).mono ?_;rintro e w2 ⟨g,m,c,rfl,V⟩)
   obtain ⟨fn,tmps,assign,body,hy,hR⟩:=hY k _ w2 A V;simp only [hy,Oper.uponIn];refine ⟨λ_=>by decide,hR.mono ?_⟩;rintro e W3 ⟨rfl,I⟩
   gi_wp2
   go_roundw
   case rel=>exact ⟨k+1,A,I⟩
   case measure =>
    obtain ⟨_,d2⟩:=hc (k+1) W3 I;rw [c2,d2];have:=Nat.mul_le_mul_left C A;have e1:C*(k+1)=C*k+C:=(by rw [Nat.mul_add,Nat.mul_one]);simp only [atV,Int.toNat_natCast];rw [Nat.succ_eq_add_one] at this;omega
  obtain rfl:k=n:=by omega
  gi_wp2_with (refine ⟨trivial,?_⟩;gi_at_call 167;refine (callsIn_wide.2 (hE wr U)).mono ?_;rintro e w2 ⟨rfl,hZ⟩)
  case h_2 =>
   refine ⟨?_,?_⟩
   ·intro f e;cases e
   gi_wp2
   refine bodyPost_ret (results_none rfl _ _ _) rfl ?_;exact ⟨⟨_,rfl⟩,hZ⟩
namespace Mv
theorem zi7 {N:Nat} {g:tw} {p1:Tmp} {assign body:Code} {Q:Exit->Act->tv->Prop} {a:Act} {w w0:tv} {S0:Mem} (bq q n w5:Nat) (h5:0<w5) (I:Nat->Mem->Prop) (Y:Nat->tu->Mem->Prop) (Z:Mem->Prop) (E0:Env)
  (hG:Good N E0 a) (aj:ev E0 g=some (.func (.func 177) #[] #[.pointer (some ⟨bq,0,none⟩)])) (ah:p1<N)
  (h0:∃ S,I 0 S/\Step S0 w0 S w)
  (hb:∀ k S,I k S->S.rd ⟨bq,0,none⟩=some (.pointer (some ⟨q,0,none⟩))/\S.rd ⟨q,4,none⟩=some (.int .i64 ((w5*k:Nat):Int)))
  (hN:∀ k S,k<n->I k S->ACall prog 167 #[.pointer (some ⟨q,0,none⟩)] S λr S'=>∃ g m c,r = .tuple #[.slice g m c,.bool true]/\Y k (.slice g m c) S')
  (hE:∀ S,I n S->ACall prog 167 #[.pointer (some ⟨q,0,none⟩)] S λr S'=>r = .tuple #[.slice none 0 0,.bool false]/\Z S')
  (H:∀ (l k:Nat) (v:tu) (S:Mem),k<n->Y k v S->GWP (some l) 4 [] prog N assign (Athen (GWP (some l) 4 [] prog N body (λe _ S'=>(e = .normal/\I (k+1) S')\/(e = .ret/\False))) (λ_ _ _=>False)) ((p1,v) :: E0) S)
  (U:∀ (D:Nat) (S:Mem) (W:tv),Z S->Step S0 w0 S W->w0.heap.size<=D->W.heap[D]?=some (.deferred (some []))->Q .normal { a with defers:={ target:=.collected D,args:=#[] } :: [] } W) :
  (Code.rangeFunc g #[p1] assign body).wpIn Fence.wide 6 prog Q a w:=by
 obtain ⟨S1,hI,hs⟩:=h0;refine znW (ps:=[p1]) Z (λ_=>False) E0 hG aj (by kernel_rfl) (by simp [ah]) hs (λl J Jx W view step V hj=>?_) U (λ_ _ _ h=>h.elim);refine (zwu l bq q n w5 h5 (λk W=>∃ S,I k S/\J S W) (λk v W=>∃ S,Y k v S/\J S W) (λW=>∃ S,Z S/\J S W) W (λk W ⟨S,C,A⟩=>⟨(view A).rd (hb k S C).1,(view A).rd (hb k S C).2⟩) (λk W hk ⟨S,C,A⟩=>(hN k S hk C W (view A)).mono λe W' ⟨r,S',he,⟨g',m,c,X,hy⟩,st⟩=>⟨g',m,c,by rw [he,X],S',hy,step A st⟩)
  (λW ⟨S,C,A⟩=>(hE S C W (view A)).mono λe W' ⟨r,S',he,⟨X,hz⟩,st⟩=>⟨by rw [he,X],S',hz,step A st⟩) (λk v W hk ⟨S,C,A⟩=>?_) ⟨S1,hI,hj⟩).mono λe W' ⟨C,A⟩=>⟨C,.inl A⟩
 obtain ⟨fn,t,a2,bo,hy,X⟩:=V [v] (I (k+1)) (λ_=>False) A rfl (H l k v S hk C);exact ⟨fn,t,a2,bo,hy,X.mono λe W' h=>h.resolve_right λ⟨_,_,h,_⟩=>h⟩
end Mv
end
section
open Go.RowKit Go.Shelf
open Mv Disk Num
namespace Sto
def rpB (q:Nat):Blk:=⟨125,[self q],1⟩
def allF (bq:Nat):tu:=.func (.func 177) #[] #[.pointer (some ⟨bq,0,none⟩)]
theorem zs5 (T:Mem) (q:Nat):ACall prog 119 #[self q] T λr T'=>∃ C,r=allF C/\Fresh T C/\T'=T.set C (rpB q):=by
 unfold allF rpB;refine k_E1 4 func119 ?_;refine r2_ ?_;refine vB (zab rfl) rfl rfl ?_;intro H f1;have A:=f1
 repeat ((with_reducible replace A:=zaa A);obtain ⟨A,_⟩:=A)
 refine nl_ ?_;refine r10_ ?_;refine ⟨_,_,⟨_,_,rfl,rfl,rfl⟩,Mem.Less.refl _,?_⟩;exact ⟨H,rfl,f1,rfl⟩
section
variable {K S T:Mem} {a p b c wk m q qw:Nat} {u:W5} {x:Pl} {o:Option (Nat × Nat)} {ts L:List tt} {fn s:tt} {w:Nat} {rows:List (List Nat)}
def colR (rows:List (List Nat)) (j k:Nat):List (List Nat):=(rows.take k).map λr=>[r.getD j 0]
theorem zpp (rows:List (List Nat)) (j:Nat) {k:Nat} (h:k<rows.length):colR rows j (k+1)=colR rows j k ++ [[rows[k].getD j 0]]:=by
 unfold colR;rw [List.take_succ_eq_append_getElem h,List.map_append];rfl
theorem zlx (rows:List (List Nat)) (j:Nat) {k:Nat} (h:k<=rows.length):(colR rows j k).length=k:=by
 unfold colR;rw [List.length_map,List.length_take];omega
def dd (S:Mem) (q qw:Nat):Mem:=(S.del q).del qw
theorem zi8 {S:Mem} {q qw t:Nat} {k:Blk} {a:Nat} {r:Rd} {r':Wt} (H:S.own q=some (rdB a r)) (A:S.own qw=some (wtB a r')) (C:S.own t=some k) (e1:k.elem≠130) (e2:k.elem≠206):(dd S q qw).own t=some k:=(vj _ (za5 C A e2)).trans ((vj _ (za5 C H e1)).trans C)
def CpI (K:Mem) (a p b c q qw:Nat) (fn s:tt) (w w2:Nat) (rows:List (List Nat)) (tot:Nat) (x0:Pl) (m N i:Nat) (out:List (List Nat)) (M:Mem):Prop :=
  ∃ S x n f h wf wh,n<=N/\x.fr.length=m/\CpS K a p b c q qw fn s w w2 rows tot x0 S M x n i f h wf wh out
def CpY (K:Mem) (a p b c q qw:Nat) (fn s:tt) (w w2:Nat) (rows:List (List Nat)) (tot:Nat) (x0:Pl) (m N i:Nat) (out:List (List Nat)) (v:tu) (M:Mem):Prop :=
  ∃ g,v = .slice (some ⟨g,0,none⟩) w w/\K.own g=none/\CpI (K.set g ⟨27,(rows.getD i []).map nU,w⟩) a p b c q qw fn s w w2 rows tot x0 m N (i+1) out M
theorem zly {K M:Mem} {a p b c q qw w w2 tot m N i:Nat} {fn s:tt} {rows out:List (List Nat)} {x0:Pl} (h:CpI K a p b c q qw fn s w w2 rows tot x0 m N i out M) (W:RowsOK w rows) (h1:1<=w) (h8:w<=8) (hc:rows.length<=100) (hi:i<rows.length) (hN:N<=16000) (hm:2<=m) :
  ACall prog 167 #[self q] M λr I=>∃ g z C,r = .tuple #[.slice g z C,.bool true]/\CpY K a p b c q qw fn s w w2 rows tot x0 m (N+50) i out (.slice g z C) I:=by
 obtain ⟨S,x,n,f,h',wf,wh,hn,X,H⟩:=h;refine (zkg H W h1 h8 vd hi vd vd).mono λv I ⟨g,S',x',J,U,e,Y,A,V⟩=>⟨_,_,_,e,g,rfl,Y,S',x',n+5*w,J,U,wf,wh,by omega,A.trans X,?_⟩;rw [List.getD_eq_getElem?_getD,List.getElem?_eq_getElem hi];exact V
theorem zpq {K M:Mem} {a p b c q qw w w2 tot m N:Nat} {fn s:tt} {rows out:List (List Nat)} {x0:Pl} (h:CpI K a p b c q qw fn s w w2 rows tot x0 m N rows.length out M) (C:1<=w) (I:w<=8) (hc:rows.length<=100) :
  ACall prog 167 #[self q] M λr A=>r = .tuple #[.slice none 0 0,.bool false]/\CpI K a p b c q qw fn s w w2 rows tot x0 m N rows.length out A:=by
 have h':=h;obtain ⟨S,x,n,f,hd,wf,wh,J,U,H⟩:=h;exact (zeR H C I vd).mono λv A ⟨e,e2⟩=>⟨e,by rw [e2];exact h'⟩
theorem zs6 {K M:Mem} {a p b c q qw w w2 tot m N i A:Nat} {fn s:tt} {rows out:List (List Nat)} {x0:Pl} (h:CpI K a p b c q qw fn s w w2 rows tot x0 m N i out M) (C:K.own A=some (rpB q)):M.rd ⟨A,0,none⟩=some (self q)/\M.rd ⟨q,4,none⟩=some (.int .i64 ((5*w*i:Nat):Int)):=by
 obtain ⟨S,x,n,f,h',wf,wh,J,I,H⟩:=h;exact ⟨zcq (zah H.ar (H.kb.own C)) rfl,zcq (zah H.ar H.oq) rfl⟩
theorem zpr (h:NmS K a p b c wk u m S T x o ts L) (j:Nat) (hj:j<w) (hH:Has x fn w rows.length (rows.flatMap recB)) (hr:RowsOK w rows) (h1:1<=w) (h8:w<=8) (hc:rows.length<=100) (aR:K.own qw=some (wtB a ⟨s,1,0,0,0,0⟩)) (hw:Wrote x s []) (hn:Sto.ns x.d s=Rec.needN 1 rows.length) (ba:fn≠s) (a6:s ∈ L) (bU:24<=m) (bV:m<=256) :
  ACall prog 64 #[self wk,.string fn,.int .i64 (j:Nat),self qw] T λv T'=>v = .nilIface/\NmE (K.del qw) a p b c wk u m x ts L (λt=>t=s) 0 T' λy=>Has y s 1 rows.length ((colR rows j rows.length).flatMap recB):=by
 refine vY (args:=[self wk,.string fn,.int .i64 (j:Nat),self qw]) (rs:=[.cell 8 63]) 50 [(0,self wk),(1,.string fn),(2,.int .i64 (j:Nat)),(3,self qw)] func64 rfl rfl (Nat.le_of_ble_eq_true rfl) rfl ⟨rfl,rfl,rfl,rfl,trivial⟩ ?_;refine vI (rs:=[.cell 8 63]) rfl ?_;refine AWP.region ?_;refine vB (zab rfl) rfl rfl ?_;intro b6 f6;have g6:=f6
 repeat ((with_reducible replace g6:=zaa g6);obtain ⟨g6,_⟩:=g6)
 try simp only [k_l1,k_l0,k_za,Nat.reduceAdd]
 refine vB (zab rfl) rfl rfl ?_;intro b7 f7;have g7:=f7
 repeat ((with_reducible replace g7:=zaa g7);obtain ⟨g7,_⟩:=g7)
 try simp only [k_l1,k_l0,k_za,Nat.reduceAdd]
 refine ARun.alloc (zab rfl) zgv ?_;intro b8 f8;have g8:=f8
 repeat ((with_reducible replace g8:=zaa g8);obtain ⟨g8,_⟩:=g8)
 try simp only [k_l1,k_l0,k_za,Nat.reduceAdd]
 refine k_n ?_;have A:=h.new f6 ⟨3,[.int .i64 (j:Nat)],1⟩;have k1:=zaj h.kb (zaz h.ar f6 ⟨3,[.int .i64 (j:Nat)],1⟩).1.1;have U:=A.new f7 (bxB qw);have k2:=zaj A.kb (zaz A.ar f7 (bxB qw)).1.1;have H3:=U.new f8 ⟨63,[.nilIface],1⟩;have k3:=zaj U.kb (zaz U.ar f8 ⟨63,[.nilIface],1⟩).1.1;have ac:=((vh K b6 ⟨3,[.int .i64 (j:Nat)],1⟩ k1).trans (vh _ b7 (bxB qw) k2)).trans (vh _ b8 ⟨63,[.nilIface],1⟩ k3);have ay:=zkk H3 hH h1 h8 vd;refine vI (rs:=[.cell 8 63]) rfl ?_;refine AWP.region ?_;refine k_m rfl (k_m rfl ?_);refine ARun.call (zab rfl) znm rfl (ay) ?_;rintro _ T1 ⟨q,y1,rfl,hq,H4,ae,aq⟩;refine k_m rfl ?_;refine rC (Calm.extract rfl rfl) ?_;refine rC (Calm.extract rfl rfl) ?_;refine k_s rfl (k_e rfl ?_);refine AWPM.sub [(0,_),(1,_),(2,_),(3,_),(6,_),(7,_),(8,_),(9,_),(10,_)] ⟨rfl,rfl,rfl,rfl,rfl,rfl,rfl,rfl,rfl,trivial⟩ ?_;refine vI (rs:=[.cell 8 63]) rfl ?_;refine k_a (k_m rfl ?_);refine rC (vi rfl rfl Er.neNil) ?_;refine k_n ?_;refine k_u [(0,_),(1,_),(2,_),(3,_),(6,_),(7,_),(8,_),(9,_),(10,_),(21,_)] ?_;refine k_F rfl ?_;refine k_k ?_;refine ux ?_;refine AWPM.seq ?_;refine AWP.region ?_;refine k_m rfl ?_;refine ARun.call (zab rfl) zst rfl (zs5 T1 q) ?_;rintro _ S9 ⟨bq,rfl,fq,X⟩;rw [X];clear X S9;intro S0 w0 e w1 am hg;refine wpIn_block ?_;have l2:=vh _ b7 (bxB qw) k2;have l3:=vh _ b8 ⟨63,[.nilIface],1⟩ k3;have l4:=vh _ q (rdB a ⟨fn,w,rows.length,0,0,0⟩) hq;have k5:=zaj H4.kb (zaz H4.ar fq (rpB q)).1.1;have l5:=vh _ bq (rpB q) k5;have Y:=H4.new fq (rpB q);have o6:=Y.kb.own (l5.own (l4.own (l3.own (l2.own (vf K b6 ⟨3,[.int .i64 (j:Nat)],1⟩)))));have o7:=Y.kb.own (l5.own (l4.own (l3.own (vf _ b7 (bxB qw)))));have o8:=Y.kb.own (l5.own (l4.own (vf _ b8 ⟨63,[.nilIface],1⟩)));have oq:=Y.kb.own (l5.own (vf _ q (rdB a ⟨fn,w,rows.length,0,0,0⟩)));have a7:=Y.kb.own (vf _ bq (rpB q));have I:=Y.kb.own (l5.own (l4.own (ac.own aR)));have aW:=(ac.trans l4).trans l5;have a4:=l5.own (l4.own (vf _ b8 ⟨63,[.nilIface],1⟩));have bi:K.own q=none:=zaj ac hq;replace am:Step S0 w0 (T1.set bq (rpB q)) w1:=am;clear l2 l3 l4 l5 k1 k2 k3 k5 ac ay A U H3 H4 fq;generalize ((((K.set b6 ⟨3,[.int .i64 (j:Nat)],1⟩).set b7 (bxB qw)).set b8 ⟨63,[.nilIface],1⟩).set q (rdB a ⟨fn,w,rows.length,0,0,0⟩)).set bq (rpB q)=K5 at *;generalize ((((S.set b6 ⟨3,[.int .i64 (j:Nat)],1⟩).set b7 (bxB qw)).set b8 ⟨63,[.nilIface],1⟩).set q (rdB a ⟨fn,w,rows.length,0,0,0⟩)).set bq (rpB q)=S5 at *;generalize T1.set bq (rpB q)=T5 at *;have H6:CpS (dd S5 q qw) a p b c q qw fn s w 1 rows rows.length y1 S5 T5 y1 0 0 0 0 0 0 []:=zh0 Y oq I (hH.same aq ae) (hw.same aq ae) (by rw [ae];exact hn) ba;have e6:=zi8 oq I o6 (by show ¬ 3=130;decide) (by show ¬ 3=206;decide);have e7:=zi8 oq I o7 zw7 zw8;have e8:=zi8 oq I o8 (by show ¬ 63=130;decide) (by show ¬ 63=206;decide);have a1:=zi8 oq I a7 (by show ¬ 125=130;decide) (by show ¬ 125=206;decide);refine zi7 (N:=50) (p1:=25) (S0:=S0) (w0:=w0) bq q rows.length (5*w) vd (λk M=>CpI (dd S5 q qw) a p b c q qw fn s w 1 rows rows.length y1 m (100*k) k (colR rows j k) M) (λk v M=>CpY (dd S5 q qw) a p b c q qw fn s w 1 rows rows.length y1 m (100*k+50) k (colR rows j k) v M) (λM=>CpI (dd S5 q qw) a p b c q qw fn s w 1 rows rows.length y1 m (100*rows.length) rows.length (colR rows j rows.length) M) [(6,.pointer (some ⟨b6,0,none⟩)),(7,.pointer (some ⟨b7,0,none⟩)),(8,.pointer (some ⟨b8,0,none⟩)),(9,self q),(24,allF bq)] (hg.sub ⟨rfl,rfl,rfl,rfl,rfl,trivial⟩) rfl (zab rfl) ⟨T5,⟨S5,y1,0,0,0,0,0,Nat.le_refl _,Y.ln,H6⟩,am⟩ (λk M hI=>zs6 hI a1) (λk M hk hI=>zly hI hr h1 h8 hc hk vd vd) (λM hI=>zpq hI h1 h8 hc) ?round ?done
 case round =>
  rintro l k v M hk ⟨g,rfl,bg,S1,x1,n1,f1,aw,wf,wh,aU,ax,A⟩;rw [List.getD_eq_getElem?_getD,List.getElem?_eq_getElem hk] at A;replace A:CpS ((dd S5 q qw).set g ⟨27,rows[k].map nU,w⟩) a p b c q qw fn s w 1 rows rows.length y1 S1 M x1 n1 (k+1) f1 aw wf wh (colR rows j k):=A;have ak:=vh (dd S5 q qw) g ⟨27,rows[k].map nU,w⟩ bg;have p6:=zah A.ar (A.kb.own (ak.own e6));have p7:=zah A.ar (A.kb.own (ak.own e7));have pg:=zah A.ar (A.kb.own (vf _ g _));have aF:=hr _ (List.getElem_mem hk);have be:=zpp rows j hk;have au:=zlx rows j (Nat.le_of_lt hk);generalize rows[k]=C at *;have av:j<C.length:=by rw [aF.1];exact hj
  have hz:C.getD j 0=C[j]:=by rw [List.getD_eq_getElem?_getD,List.getElem?_eq_getElem av];rfl
  have a5:=aF.2 _ (List.getElem_mem av);unfold bxB at p7;refine GWP.region ?_;refine k_e rfl ?_;refine GWP.sub [(25,_),(6,_),(7,_),(8,_),(9,_),(11,_)] ⟨rfl,rfl,rfl,rfl,rfl,rfl,trivial⟩ ?_;refine GWP.block ?_;refine GWP.seq ?_;refine GWP.draw [i0_,i1_,i2_,i3_,i4_,o5_,o6_,o7_,i8_] [6,7] mixed (by kernel_rfl) ?_;refine dC (hc:=ld_ zcj rfl) (h:=?_);refine dP (hc:=λ_=>Calm.move rfl) (h:=?_);refine dC (hc:=ld_ zaq rfl) (h:=?_);refine dP (hc:=λ_=>vK underlying22 zai rfl rfl vd vd) (h:=?_);refine dC (hc:=Calm.load zaf rfl (v:=nU C[j]) (zbe (g:=nU) j av pg vd)) (h:=?_);have aD:∀ {J:Nat},Fresh M J->ACall prog 114 #[self qw,.slice (some ⟨J,0,none⟩) 1 1] (M.set J ⟨27,[nU C[j]],1⟩) λrv M'=>rv = .int .i64 0/\CpI (dd S5 q qw) a p b c q qw fn s w 1 rows rows.length y1 m (100*(k+1)) (k+1) (colR rows j (k+1)) M':=λ{J} V=>by
   have U:=A.new V ⟨27,[nU C[j]],1⟩;have bk:=zaj A.kb (zaz A.ar V ⟨27,[nU C[j]],1⟩).1.1;refine (zlj U _ [C[j]] (zdQ rfl (show 1<=8 by decide) (vf _ _ _)) ⟨rfl,λz hz=>by rw [List.mem_singleton.1 hz];exact a5⟩ (Nat.le_refl 1) (by decide) (by rw [au];exact hk) vd vd vd).mono λrv M' ⟨e,S2,x2,aT,aO,aA,H3⟩=>⟨e,S2,x2,n1+5,f1,aw,aT,aO,by omega,aA.trans ax,?_⟩;rw [be,hz];exact H3.less (ak.trans (vh _ J _ bk))
  refine zac rfl ?_;refine vu (zab rfl) zbi rfl rfl ?_;intro J V;have H:=V
  repeat ((with_reducible replace H:=zaa H);obtain ⟨H,_⟩:=H)
  have:=H.ne p6;have:=H.ne' p6
  have:=H.ne p7;have:=H.ne' p7
  refine zad ⟨ny_,?_⟩;refine zac rfl ?_;refine ARun.call (zab rfl) znn rfl (aD V) ?_;rintro _ M2 ⟨rfl,bc⟩;refine zad ⟨nz_,?_⟩;refine zac rfl ?_;refine ARun.call (zab rfl) zjy rfl (zbc _ _) ?_;rintro _ S9 ⟨rfl,X⟩;rw [X];clear X S9;refine zad ⟨nz_,?_⟩;refine dP (hc:=λ_=>Calm.assign rfl) (h:=?_);refine zcQ ?_;refine zau ?_;refine GWP.sub [(25,_),(6,_),(7,_),(8,_),(9,_),(11,_),(12,_)] ⟨rfl,rfl,rfl,rfl,rfl,rfl,rfl,trivial⟩ ?_;refine GWP.seq ?_;refine GWP.region ?_;refine k_m rfl ?_;refine rC (vi rfl rfl Er.neNil) ?_;refine k_n ?_;refine GWP.sub [(25,_),(6,_),(7,_),(8,_),(9,_),(11,_),(12,_),(35,_)] ⟨rfl,rfl,rfl,rfl,rfl,rfl,rfl,rfl,trivial⟩ ?_;refine GWP.condF rfl (by first|rfl|(simp;done)|(simp;omega)) ?_;refine GWP.skip ?_;refine zhg ?_;exact .inl ⟨rfl,bc⟩
 case done =>
  rintro D M W ⟨S1,x1,n1,f1,aw,wf,wh,aU,ax,A⟩ aN hD hK;refine uK (rs:=[.cell 8 63]) (N:=50) rfl aN hD hK (hg.sub (show Sub [(7,.pointer (some ⟨b7,0,none⟩)),(8,.pointer (some ⟨b8,0,none⟩)),(9,self q)] _ from ⟨rfl,rfl,rfl,trivial⟩)) ?_;have au:=zfn A;refine GWP.seq ?_;refine GWP.region ?_;refine k_m rfl ?_;refine ARun.call (zab rfl) znp rfl (au) ?_;rintro _ M2 ⟨_,S2,x2,aA,U⟩;have aB:=zah U.ar U.oq;have p7:=zah U.ar (U.kb.own e7)
  (unfold rdB at aB;dsimp only at aB;unfold bxB at p7)
  refine k_n ?_;refine GWP.sub [(7,_),(8,_),(9,_)] ⟨rfl,rfl,rfl,trivial⟩ ?_;refine GWP.seq ?_;refine GWP.seq ?_;refine GWP.region ?_;refine k_m rfl ?_;refine rC (Calm.nilCheck rfl) ?_;refine rC (Calm.fieldAddr zcu rfl) ?_;refine rC (ld_ zbX rfl) ?_;refine ARun.call (zab rfl) zjy rfl (zbc _ _) ?_;rintro _ S9 ⟨rfl,X⟩;rw [X];clear X S9;refine k_e rfl ?_;refine GWP.sub [(7,_),(8,_),(9,_),(13,_)] ⟨rfl,rfl,rfl,rfl,trivial⟩ ?_;refine GWP.seq ?_;refine GWP.region ?_;refine k_m rfl ?_;refine rC (vi rfl rfl Er.neNil) ?_;refine k_n ?_;refine GWP.sub [(7,_),(8,_),(9,_),(13,_),(45,_)] ⟨rfl,rfl,rfl,rfl,rfl,trivial⟩ ?_;refine GWP.condF rfl (by first|rfl|(simp;done)|(simp;omega)) ?_;have bb:=za5 o8 oq (by show ¬ 63=130;decide);have bf:=za5 o8 I (by show ¬ 63=206;decide);have aX:((K5.del q).del qw).own b8=some ⟨63,[.nilIface],1⟩:=(vj _ bf).trans ((vj _ bb).trans a4);have aZ:=zs4 Y oq I ((zaS _ qw).trans (zaS _ q)) (zaj (zaS _ qw) (by simp [Mem.del])) (by simp [Mem.del]) U (Nat.le_refl 1) (by decide) (zlx rows j (Nat.le_refl _)) vd vd a6;refine GWP.skip ?_;refine zau ?_;refine GWP.seq ?_;refine GWP.region ?_;refine rC (ld_ zcj rfl) ?_;refine ARun.call (zab rfl) zno rfl (aZ) ?_;rintro _ M3 ⟨rfl,S3,x3,o3,H3,aK,bj⟩;refine ARun.call (zab rfl) zjy rfl (zbc _ _) ?_;rintro _ S9 ⟨rfl,X⟩;rw [X];clear X S9;have p8:=zah H3.ar (H3.kb.own aX);refine vk rfl rfl zgu rfl p8 (show 0<1 by decide) rfl ?_
  try simp only [k_ms,k_sz,k_ss,k_za,Nat.reduceAdd]
  refine k_n ?_;refine GWP.sub [(7,_),(8,_),(9,_),(13,_),(45,_)] ⟨rfl,rfl,rfl,rfl,rfl,trivial⟩ ?_;have a3:Far x x3 (λt=>t=s) No 0:=(zds (D:=λt=>t=s) (E:=No) aq ae).trans aK;refine GWP.ret ?_;refine ⟨_,M3,⟨_,_,_,rfl,.inl ⟨zdG,rd_⟩,rfl,rfl⟩,(by rw [vG _ _ _ p8];exact Mem.Less.refl _),?_⟩;exact ⟨rfl,S3,x3,o3,H3.less (zaI (zaI ((zaS K qw).trans aW) (zaj (zaS K qw) bi)) (by simp [Mem.del])),a3,bj⟩
end
end Sto
end
section
open Go.RowKit Go.Shelf
open Mv Disk Num
namespace Sto
open Skew (cntN rowN rowsN)
theorem zrS (a b:List Nat) (va vb:tu) (S:Mem) (ha:Sl 1 u64s S va a) (hb:Sl 1 u64s S vb b) (H:a.length=b.length) :
  ACall prog 120 #[va,vb] S λr S'=>r = .bool (decide (a=b))/\S'=S:=by
 obtain ⟨pa,ca,rfl,am,aq,Y⟩:=ha;obtain ⟨pb,cb,rfl,ay,ai,W⟩:=hb;refine k_E2 26 func120 ?_;refine r15_ ?_;refine cF_ ?_;refine r11_ ?_;refine AWP.loop (X:=Nat) (λx=>[(0,.slice pa a.length ca),(1,.slice pb b.length cb),(12,.int .i64 a.length),(13,.int .i64 x)]) (λx=>S) (λx=>x<=a.length /\ ∀ j (hj:j<a.length) (I:j<b.length),j<x->a[j]=b[j]) (λx=>a.length-x) (0) ⟨rfl,rfl,rfl,rfl,trivial⟩ (Mem.Less.refl _) (⟨Nat.zero_le _,λ_ _ _ h=>absurd h (Nat.not_lt_zero _)⟩) ?_;rintro i ⟨an,hq⟩;(try dsimp only at *);refine r6_ ?_;refine vp rfl (λA=>?_) (λA=>?_)
 ·have A:i<a.length:=by have:=of_decide_eq_true A;omega
  have C:i<b.length:=by omega
  obtain ⟨b0,off,rfl,V⟩:=Y.resolve_left (by intro h;rw [h] at A;exact absurd A (Nat.not_lt_zero _));obtain ⟨b1,ad,rfl,J⟩:=W.resolve_left (by intro h;rw [h] at C;exact absurd C (Nat.not_lt_zero _));have aa:=V i A;have U:=J i C;unfold u64s at aa U;by_cases c1:a[i]=b[i]
  ·refine r10_ ?_;refine s1_ ?_;refine dr_ [i0_,i1_,i2_,i3_,i4_,i5_,i6_,i7_,i8_] [] ?_;refine r11_ ?_;refine cF_ ?_;refine r8_ ?_;refine ⟨i+1,?_,?_,?_,?_⟩<;>try dsimp only
   ·exact ⟨rfl,rfl,rfl,rfl,trivial⟩
   ·exact Mem.Less.refl _
   ·exact ⟨A,λj hj I ax=>by rcases Nat.lt_or_ge j i with h | h;exact hq j hj I h;obtain rfl:j=i:=vd;exact c1⟩
   omega
  refine r10_ ?_;refine kw_ [0,1,12,13,14,5] ?_;refine s1_ ?_;refine dr_ [i0_,i1_,i2_,i3_,i4_,i5_,i6_,i7_,i8_] [] ?_;refine r11_ ?_;refine cT_ ?_;refine r11_ ?_;refine ⟨_,S,⟨_,_,rfl,rfl,rfl⟩,zae,?_⟩;exact ⟨by rw [decide_eq_false (λe=>c1 (by subst e;rfl))];rfl,rfl⟩
 have A:i=a.length:=by have:=of_decide_eq_false A;omega
 refine r11_ ?_;refine ⟨_,S,⟨_,_,rfl,rfl,rfl⟩,zae,?_⟩;exact ⟨by rw [decide_eq_true (List.ext_getElem H λj h1 h2=>hq j h1 h2 vd)];rfl,rfl⟩
def LastN (R:Mem) (lv:tu) (rows:List (List Nat)) (k:Nat):Prop:=(k=0/\lv = .slice none 0 0)\/(k≠0 /\ ∃ g,lv = .slice (some ⟨g,0,none⟩) 3 4/\Sl 1 u64s R lv ((rows.getD (k-1) []).take 3))
def cnB (k:Nat):Blk:=⟨27,[.int .u64 (k:Nat)],1⟩
def lsB (v:tu):Blk:=⟨22,[v],1⟩
def NmI (Rb:Mem) (b11 b12:Nat) (rows:List (List Nat)) (k:Nat) (P:Mem->Prop):Prop :=
  ∃ R lv,Rb.Less R/\R.own b11=none/\R.own b12=none/\LastN R lv rows k/\P ((R.set b11 (cnB (cntN rows k))).set b12 (lsB lv))
theorem zmF {D:Mem} {C H:Nat} {I J:Blk} (V:D.own C=some I) (U:D.own H=some J):((((D.del C).del H).set C I).set H J).Less D:=⟨λk r A=>by
 by_cases e2:k=H
 ·subst e2;rw [vf] at A;rw [U];exact A
 rw [vg _ _ e2] at A;by_cases e1:k=C
 ·subst e1;rw [vf] at A;rw [V];exact A
 rw [vg _ _ e1,vj _ e2,vj _ e1] at A;exact A,rfl⟩
theorem zuu {R:Mem} {H I g:Nat} {C U V J W:Blk}:(((R.set g W).set H U).set I J).Less (((((R.set H C).set I V).set g W).set H U).set I J):=⟨λk r A=>by
 by_cases e2:k=I
 ·subst e2;rw [vf] at A ⊢;exact A
 rw [vg _ _ e2] at A ⊢;by_cases e1:k=H
 ·subst e1;rw [vf] at A ⊢;exact A
 rw [vg _ _ e1] at A ⊢;by_cases e:k=g
 ·subst e;rw [vf] at A ⊢;exact A
 rw [vg _ _ e] at A ⊢;rw [vg _ _ e2,vg _ _ e1];exact A,rfl⟩
section
variable {K S T:Mem} {a p b c wk m q qw:Nat} {u:W5} {x:Pl} {o:Option (Nat × Nat)} {ts L:List tt} {fn s:tt} {rows:List (List Nat)}
theorem zrT (h:NmS K a p b c wk u m S T x o ts L) {bw aQ:Nat} (cn:K.own bw=some (wpB wk)) (cT:K.own aQ=some (nmB s)) (cd:ts.length<=9) (hs:nm s) (bQ:s ∉ L) (hH:Has x fn 4 rows.length (rows.flatMap recB)) (hr:RowsOK 4 rows) (hc:rows.length<=100) (dI:24<=m) (dJ:m<=256) (c0:(used x.d.ext:Int)+(Rec.needN 2 rows.length:Nat)<=x.d.size) :
  ACall prog 62 #[self wk,.string fn,tmF bw aQ] T λv T'=>v = .tuple #[.int .u64 (cntN rows rows.length:Nat),.nilIface]/\NmE K a p b c wk u m x (ts ++ [s]) (s :: L) (λt=>t=s) (Rec.needN 2 rows.length) T' λy=>Has y s 2 rows.length ((rowsN rows rows.length).flatMap recB):=by
 have bS:fn≠s:=λe=>bQ (e ▸ (h.di fn).1 hH.pos);unfold tmF;refine vY (args:=[self wk,.string fn,.func (.func 116) #[] #[.pointer (some ⟨bw,0,none⟩),.pointer (some ⟨aQ,0,none⟩)]]) (rs:=[.cell 6 27,.cell 7 63]) 78 [(0,self wk),(1,.string fn),(2,.func (.func 116) #[] #[.pointer (some ⟨bw,0,none⟩),.pointer (some ⟨aQ,0,none⟩)])] func62 rfl rfl (Nat.le_of_ble_eq_true rfl) rfl ⟨rfl,rfl,rfl,trivial⟩ ?_;refine vI (rs:=[.cell 6 27,.cell 7 63]) rfl ?_;refine AWP.region ?_;refine ARun.alloc (zab rfl) zez ?_;intro b6 f6;have g6:=f6
 repeat ((with_reducible replace g6:=zaa g6);obtain ⟨g6,_⟩:=g6)
 try simp only [k_l1,k_l0,k_za,Nat.reduceAdd]
 refine ARun.alloc (zab rfl) zgv ?_;intro b7 f7;have g7:=f7
 repeat ((with_reducible replace g7:=zaa g7);obtain ⟨g7,_⟩:=g7)
 try simp only [k_l1,k_l0,k_za,Nat.reduceAdd]
 refine k_n ?_;have H1:=h.new f6 (cnB 0);have l1:=vh K b6 (cnB 0) (zaj h.kb (zaz h.ar f6 (cnB 0)).1.1);have H2:=H1.new f7 ⟨63,[.nilIface],1⟩;have l2:=vh _ b7 ⟨63,[.nilIface],1⟩ (zaj H1.kb (zaz H1.ar f7 ⟨63,[.nilIface],1⟩).1.1);have bF:=zkk H2 hH (by decide) (by decide) vd;refine vI (rs:=[.cell 6 27,.cell 7 63]) rfl ?_;refine AWP.region ?_;refine k_m rfl (k_m rfl ?_);refine ARun.call (zab rfl) znm rfl (bF) ?_;rintro _ T1 ⟨q,y1,rfl,hq,H3,bW,cR⟩;have l3:=vh _ q (rdB a ⟨fn,4,rows.length,0,0,0⟩) hq;have bl:=zah H3.ar (H3.kb.own (vf _ q (rdB a ⟨fn,4,rows.length,0,0,0⟩)))
 (unfold rdB at bl;dsimp only at bl)
 have br:=zlw (w:=2) (ct:=rows.length) H3 (l3.own (l2.own (l1.own cn))) (l3.own (l2.own (l1.own cT))) cd hs bQ (by decide) vd (by rw [bW];exact c0);refine k_m rfl ?_;refine rC (Calm.extract rfl rfl) ?_;refine rC (Calm.extract rfl rfl) ?_;refine k_s rfl (k_e rfl ?_);refine AWPM.sub [(0,_),(1,_),(2,_),(6,_),(7,_),(8,_),(9,_)] ⟨rfl,rfl,rfl,rfl,rfl,rfl,rfl,trivial⟩ ?_;refine vI (rs:=[.cell 6 27,.cell 7 63]) rfl ?_;refine k_a (k_m rfl ?_);refine rC (vi rfl rfl Er.neNil) ?_;refine k_n ?_;refine k_u [(0,_),(1,_),(2,_),(6,_),(7,_),(8,_),(9,_),(23,_)] ?_;refine k_F rfl ?_;refine k_k ?_;refine vI (rs:=[.cell 6 27,.cell 7 63]) rfl ?_;refine AWP.region ?_;refine k_m rfl (k_m rfl ?_);refine rC (Calm.nilCheck rfl) ?_;refine rC (Calm.fieldAddr zct rfl) ?_;refine rC (ld_ zaf rfl) ?_;refine vq (zab rfl) zkL rfl rfl (br) ?_;rintro _ T3 ⟨qw,y3,S3,o3,rfl,bd,H4,b5,cf,c4⟩;have l4:=vh _ qw (wtB a ⟨s,2,0,0,0,0⟩) bd;refine k_m rfl ?_;refine rC (Calm.extract rfl rfl) ?_;refine rC (Calm.extract rfl rfl) ?_;refine ARun.alloc (zab rfl) zcC ?_;intro aa aY;have aF:=aY
 repeat ((with_reducible replace aF:=zaa aF);obtain ⟨aF,_⟩:=aF)
 try simp only [k_l1,k_l0,k_za,Nat.reduceAdd]
 refine vk rfl rfl zgw rfl own_ zdC rfl ?_
 try simp only [k_ms,k_sz,k_ss,k_za,Nat.reduceAdd]
 refine k_e rfl ?_;refine AWPM.sub [(0,_),(1,_),(2,_),(6,_),(7,_),(8,_),(9,_),(23,_),(10,_)] ⟨rfl,rfl,rfl,rfl,rfl,rfl,rfl,rfl,rfl,trivial⟩ ?_;have H5:=H4.new aY (bxB qw);have l5:=vh _ aa (bxB qw) (zaj H4.kb (zaz H4.ar aY (bxB qw)).1.1);refine vI (rs:=[.cell 6 27,.cell 7 63]) rfl ?_;refine k_a (k_m rfl ?_);refine rC (vi rfl rfl Er.neNil) ?_;refine k_n ?_;refine k_u [(0,_),(1,_),(2,_),(6,_),(7,_),(8,_),(9,_),(23,_),(10,_),(35,_)] ?_;refine k_F rfl ?_;refine k_k ?_;refine vI (rs:=[.cell 6 27,.cell 7 63]) rfl ?_;refine AWP.region ?_;refine ARun.alloc (zab rfl) zez ?_;intro I au;have aE:=au
 repeat ((with_reducible replace aE:=zaa aE);obtain ⟨aE,_⟩:=aE)
 try simp only [k_l1,k_l0,k_za,Nat.reduceAdd]
 refine vk rfl rfl zai rfl own_ zdC rfl ?_
 try simp only [k_ms,k_sz,k_ss,k_za,Nat.reduceAdd]
 refine k_n ?_;have H6:=H5.new au (cnB 0);have l6:=vh _ I (cnB 0) (zaj H5.kb (zaz H5.ar au (cnB 0)).1.1);refine vI (rs:=[.cell 6 27,.cell 7 63]) rfl ?_;refine AWP.region ?_;refine ARun.alloc (zab rfl) zlS ?_;intro J aK;have aB:=aK
 repeat ((with_reducible replace aB:=zaa aB);obtain ⟨aB,_⟩:=aB)
 try simp only [k_l1,k_l0,k_za,Nat.reduceAdd]
 refine k_n ?_;have H7:=H6.new aK (lsB (.slice none 0 0));have l7:=vh _ J (lsB (.slice none 0 0)) (zaj H6.kb (zaz H6.ar aK (lsB (.slice none 0 0))).1.1);refine ux ?_;refine AWPM.seq ?_;refine AWP.region ?_;refine k_m rfl ?_;refine ARun.call (zab rfl) zst rfl (zs5 _ q) ?_;rintro _ S9 ⟨bq,rfl,fq,h9⟩;rw [h9];clear h9 S9;intro S0 w0 e w1 bR hg;refine wpIn_block ?_;have H8:=H7.new fq (rpB q);have l8:=vh _ bq (rpB q) (zaj H7.kb (zaz H7.ar fq (rpB q)).1.1);obtain ⟨K8,S8,T8,H,cM,cm,o6,o7,oq,af,aq,aG,aw,cI⟩ : ∃ K8 S8 T8:Mem,NmS K8 a p b c wk u m S8 T8 y3 o3 (ts ++ [s]) (s :: L)/\Step S0 w0 T8 w1/\K.Less K8/\K8.own b6=some (cnB 0)/\K8.own b7=some ⟨63,[.nilIface],1⟩/\K8.own q=some (rdB a ⟨fn,4,rows.length,0,0,0⟩)/\K8.own qw=some (wtB a ⟨s,2,0,0,0,0⟩)/\K8.own aa=some (bxB qw)/\K8.own I=some (cnB 0)/\K8.own J=some (lsB (.slice none 0 0))/\K8.own bq=some (rpB q) :=
  ⟨_,_,_,H8,bR,(((((((l1.trans l2).trans l3).trans l4).trans l5).trans l6).trans l7).trans l8),l8.own (l7.own (l6.own (l5.own (l4.own (l3.own (l2.own (vf K b6 (cnB 0)))))))),l8.own (l7.own (l6.own (l5.own (l4.own (l3.own (vf _ b7 _)))))),l8.own (l7.own (l6.own (l5.own (l4.own (vf _ q _))))),l8.own (l7.own (l6.own (l5.own (vf _ qw _)))),l8.own (l7.own (l6.own (vf _ aa _))),l8.own (l7.own (vf _ I _)),l8.own (vf _ J _),vf _ bq _⟩
 have c3:K.own q=none:=zaj (l1.trans l2) hq;have c8:K.own qw=none:=zaj ((l1.trans l2).trans l3) bd;have b8:K.own b6=none:=zaj h.kb (zaz h.ar f6 (cnB 0)).1.1;have bL:K.own I=none:=zaj ((((l1.trans l2).trans l3).trans l4).trans l5) (zaj H5.kb (zaz H5.ar au (cnB 0)).1.1);have bE:K.own J=none:=zaj (((((l1.trans l2).trans l3).trans l4).trans l5).trans l6) (zaj H6.kb (zaz H6.ar aK (lsB (.slice none 0 0))).1.1);have n6:b6≠I:=(zaz H5.ar au (cnB 0)).1.ne (H5.kb.own (l5.own (l4.own (l3.own (l2.own (vf K b6 (cnB 0)))))));clear l1 l2 l3 l4 l5 l6 l7 l8 bR bF br H1 H2 H3 H4 H5 H6 H7 H8 f6 f7 g6 g7 aY aF au aE aK aB fq hq bd bl;have cE:27≠130:=by decide
 have cX:27≠206:=by decide
 have a4:Far x y3 (λt=>t=s) No (Rec.needN 2 rows.length):=((zds (D:=λt=>t=s) (E:=No) cR bW).trans b5).mono (λ_ e=>e) (λ_ e=>e) vd;have H6:CpS (dd S8 q qw) a p b c q qw fn s 4 2 rows rows.length y3 S8 T8 y3 0 0 0 0 0 0 []:=zh0 H (H.kb.own oq) (H.kb.own af) (hH.far a4 bS) cf c4 bS;have dO:=λ{t:Nat} {k:Blk} (ht:K8.own t=some k)=>zi8 (H.kb.own oq) (H.kb.own af) (H.kb.own ht);have a0:=dO aG cE cX;have aP:=dO aw (by show ¬ 22=130;decide) (by show ¬ 22=206;decide);have bk:∀ {t:Nat} {k:Blk},K8.own t=some k->k.elem≠130->k.elem≠206->k.elem≠27->k.elem≠22 -> ∀ {R:Mem} {C V:Blk},Mem.Less (((dd S8 q qw).del I).del J) R->((R.set I C).set J V).own t=some k:=λht d1 d2 d3 d4 R C V hR=>by
  have n1:=za5 (dO ht d1 d2) a0 d3;have n2:=za5 (dO ht d1 d2) aP d4;rw [vg _ _ n2,vg _ _ n1];exact hR.own ((vj _ n2).trans ((vj _ n1).trans (dO ht d1 d2)))
 refine zi7 (N:=78) (p1:=39) (S0:=S0) (w0:=w0) bq q rows.length (5*4) (by decide) (λk M=>NmI (((dd S8 q qw).del I).del J) I J rows k λK=>CpI K a p b c q qw fn s 4 2 rows rows.length y3 m (100*k) k (rowsN rows k) M) (λk v M=>NmI (((dd S8 q qw).del I).del J) I J rows k λK=>CpY K a p b c q qw fn s 4 2 rows rows.length y3 m (100*k+50) k (rowsN rows k) v M) (λM=>NmI (((dd S8 q qw).del I).del J) I J rows rows.length λK=>CpI K a p b c q qw fn s 4 2 rows rows.length y3 m (100*rows.length) rows.length (rowsN rows rows.length) M) [(6,.pointer (some ⟨b6,0,none⟩)),(7,.pointer (some ⟨b7,0,none⟩)),(8,self q),(10,.pointer (some ⟨aa,0,none⟩)),(11,.pointer (some ⟨I,0,none⟩)),(12,.pointer (some ⟨J,0,none⟩)),(38,allF bq)] (hg.sub ⟨rfl,rfl,rfl,rfl,rfl,rfl,rfl,trivial⟩) rfl (zab rfl) ⟨T8,⟨(((dd S8 q qw).del I).del J),.slice none 0 0,Mem.Less.refl _,zaj (zaS _ J) (by simp [Mem.del]),by simp [Mem.del],.inl ⟨rfl,rfl⟩,S8,y3,0,0,0,0,0,Nat.le_refl _,H.ln,H6.less (zmF a0 aP)⟩,cM⟩ (λk M ⟨R,lv,hR,_,_,_,hI⟩=>zs6 hI (bk cI (by show ¬ 125=130;decide) (by show ¬ 125=206;decide) (by show ¬ 125=27;decide) (by show ¬ 125=22;decide) hR)) (λk M hk ⟨R,lv,r1,r2,r3,r4,hI⟩=>(zly hI hr (by decide) (by decide) hc hk vd vd).mono λv M' ⟨g,z,cc,e,hy⟩=>⟨g,z,cc,e,R,lv,r1,r2,r3,r4,hy⟩) (λM ⟨R,lv,r1,r2,r3,r4,hI⟩=>(zpq hI (by decide) (by decide) hc).mono λv M' ⟨e,hy⟩=>⟨e,R,lv,r1,r2,r3,r4,hy⟩) ?round ?done
 case round =>
  rintro l k v M hk ⟨R,lv,hR,ad,ac,bP,g,rfl,ax,S1,x1,n1,f1,a1,wf,wh,ci,bv,H1⟩;have aW:rows.getD k []=rows[k]:=by rw [List.getD_eq_getElem?_getD,List.getElem?_eq_getElem hk];rfl
  rw [aW] at H1;replace H1:CpS (((R.set I (cnB (cntN rows k))).set J (lsB lv)).set g ⟨27,rows[k].map nU,4⟩) a p b c q qw fn s 4 2 rows rows.length y3 S1 M x1 n1 (k+1) f1 a1 wf wh (rowsN rows k):=H1;have al:=vh ((R.set I (cnB (cntN rows k))).set J (lsB lv)) g ⟨27,rows[k].map nU,4⟩ ax;have U:I≠J:=za5 aG aw (by show ¬ 27=22;decide);have bj:((R.set I (cnB (cntN rows k))).set J (lsB lv)).own J=some (lsB lv):=vf _ _ _;have ao:((R.set I (cnB (cntN rows k))).set J (lsB lv)).own I=some (cnB (cntN rows k)):=(vg _ _ U).trans (vf _ _ _);have kg:=vf ((R.set I (cnB (cntN rows k))).set J (lsB lv)) g ⟨27,rows[k].map nU,4⟩;have aX:=al.own (bk aq (by show ¬ 73=130;decide) (by show ¬ 73=206;decide) (by show ¬ 73=27;decide) (by show ¬ 73=22;decide) (C:=cnB (cntN rows k)) (V:=lsB lv) hR);have cG:R.Less (((R.set I (cnB (cntN rows k))).set J (lsB lv)).set g ⟨27,rows[k].map nU,4⟩):=((vh R I (cnB (cntN rows k)) ad).trans (vh _ J (lsB lv) ((vg _ _ (Ne.symm U)).trans ac))).trans al;have ca:R.own g=none:=zaj ((vh R I (cnB (cntN rows k)) ad).trans (vh _ J (lsB lv) ((vg _ _ (Ne.symm U)).trans ac))) ax;have aC:g≠I:=λe=>by rw [e,ao] at ax;cases ax
  have aA:g≠J:=λe=>by rw [e,bj] at ax;cases ax
  have hM:=H1.kb.trans (zbb H1.ar);have p10:=hM.own aX;have p11:=hM.own (al.own ao);have cB:=hM.own (al.own bj);have pg:=hM.own kg;obtain ⟨dw,da⟩:=hr _ (List.getElem_mem hk);have ah:cntN rows (k+1)=cntN rows k+if k=0\/(rows.getD (k-1) []).take 3≠rows[k].take 3 then 1 else 0:=by rw [Skew.cntN,aW]
  have cD:rowN rows k = [rows[k].getD 3 0,cntN rows (k+1)]:=by unfold Skew.rowN;rw [aW]
  have bC:∀ z,cntN rows z<=z:=λz=>by
   induction z with
   | zero=>exact Nat.le_refl 0
   | succ z ih=>rw [Skew.cntN];split <;> omega
  have dm:=bC k;have bT:=bC (k+1);generalize rows[k]=Y at *;have cz:Y.getD 3 0=Y[3]'vd:=by rw [List.getD_eq_getElem?_getD,List.getElem?_eq_getElem vd];rfl
  have cK:=da _ (List.getElem_mem (show 3<Y.length by omega));have bK:Sl 1 u64s M (.slice (some ⟨g,0,none⟩) 3 4) (Y.take 3):=vN (g:=nU) (r:=⟨27,Y.map nU,4⟩) pg (by rw [List.map_take];exact List.take_prefix _ _) (by rw [List.length_take];omega) (by decide) (by decide);obtain ⟨bb,aO⟩ : ∃ bb,bb=decide (k=0\/(rows.getD (k-1) []).take 3≠Y.take 3):=⟨_,rfl⟩;unfold bxB at p10;unfold cnB at p11;unfold lsB at cB;refine GWP.region ?_;refine k_e rfl ?_;refine GWP.sub [(39,_),(6,_),(7,_),(8,_),(10,_),(11,_),(12,_),(13,_)] ⟨rfl,rfl,rfl,rfl,rfl,rfl,rfl,rfl,trivial⟩ ?_;refine GWP.block ?_;refine GWP.seq ?_;refine GWP.seq ?_;refine GWP.join (X:=Unit) (λ_=>[(13,.slice (some ⟨g,0,none⟩) 4 4),(10,.pointer (some ⟨aa,0,none⟩)),(11,.pointer (some ⟨I,0,none⟩)),(12,.pointer (some ⟨J,0,none⟩)),(48,.bool bb)]) (λ_=>M) (λ_=>0<1) ?_ ?_
  ·rcases bP with ⟨rfl,rfl⟩ | ⟨cv,g0,rfl,cF⟩
   ·refine GWP.draw [i0_,i1_,i2_,i3_,i4_,i5_,o6_,i7_,i8_] [6] mixed (by kernel_rfl) ?_;refine dC (hc:=ld_ zbW rfl) (h:=?_);refine dP (hc:=λ_=>vi rfl rfl (zdE underlying22)) (h:=?_);refine dP (hc:=λ_=>Calm.move rfl) (h:=?_)
    first|refine k_d ?_|refine dL (hc:=ld_ zbW rfl) (h:=?_)
    first|refine k_d ?_|refine dG (hc:=λ_=>Calm.move rfl) (h:=?_)
    first|refine k_d ?_|refine dG (hc:=λ_=>(by first | exact vZ underlying22 zai rfl (zaU _ _) (λ_=>rfl) (zb1 _ _ rfl vd vd) | exact uk underlying22 zai rfl (zaU _ _) (by simp) (zkE _ _ rfl) (zaU _ _))) (h:=?_)
    refine zac rfl ?_
    first | refine rS 42 ?_ | refine rU 42 ?_
    refine zad ⟨nz_,?_⟩
    first|refine k_d ?_|refine dG (hc:=λ_=>Calm.un rfl (zji _)) (h:=?_)
    refine dP (hc:=λ_=>(by first | exact uf rfl rfl | exact ug rfl rfl)) (h:=?_);refine zcQ ?_;refine ⟨(),?_,?_,?_⟩<;>try dsimp only
    ·exact Nat.zero_lt_one
    ·exact ⟨rfl,rfl,rfl,rfl,(by rw [aO,decide_eq_true (.inl rfl)];rfl),trivial⟩
    exact Mem.Less.refl _
   refine GWP.draw [i0_,i1_,i2_,i3_,i4_,i5_,o6_,i7_,i8_] [6] mixed (by kernel_rfl) ?_;refine dC (hc:=ld_ zbW rfl) (h:=?_);refine dP (hc:=λ_=>vi rfl rfl (zdE underlying22)) (h:=?_);refine dP (hc:=λ_=>Calm.move rfl) (h:=?_)
   first|refine k_d ?_|refine dL (hc:=ld_ zbW rfl) (h:=?_)
   first|refine k_d ?_|refine dG (hc:=λ_=>Calm.move rfl) (h:=?_)
   first|refine k_d ?_|refine dG (hc:=λ_=>vM 3 underlying22 zai rfl rfl rfl (by decide)) (h:=?_)
   have c1:((rows.getD (k-1) []).take 3).length=3:=(by rw [List.getD_eq_getElem?_getD,List.getElem?_eq_getElem (show k-1<rows.length by omega),List.length_take];have:=(hr _ (List.getElem_mem (show k-1<rows.length by omega))).1;simp only [Option.getD_some];omega);refine zac rfl ?_;refine vv 2 false 42 rfl (zab rfl) rfl (zab rfl) zvx rfl (zrS _ _ _ _ _ (cF.less (cG.trans hM)) bK (by rw [c1,List.length_take];omega)) ?_;rintro _ S9 ⟨rfl,h9⟩;rw [h9];clear h9 S9;refine zad ⟨nz_,?_⟩
   first|refine k_d ?_|refine dG (hc:=λ_=>Calm.un rfl (zji _)) (h:=?_)
   refine dP (hc:=λ_=>(by first | exact uf rfl rfl | exact ug rfl rfl)) (h:=?_);refine zcQ ?_;refine ⟨(),?_,?_,?_⟩<;>try dsimp only
   ·exact Nat.zero_lt_one
   ·exact ⟨rfl,rfl,rfl,rfl,congrArg (λz=>some (Value.bool z)) (show (!decide ((rows.getD (k-1) []).take 3=Y.take 3))=bb from by rw [aO,<- decide_not];exact decide_eq_decide.2 ⟨.inr,λh=>h.resolve_left cv⟩),trivial⟩
   exact Mem.Less.refl _
  rintro _ _;intro _ _ az aI;(try dsimp only at *);refine zau ?_;refine GWP.sub _ az (GWP.less _ aI ?_);clear az aI;refine GWP.join (X:=Mem) (λ_=>[(13,.slice (some ⟨g,0,none⟩) 4 4),(10,.pointer (some ⟨aa,0,none⟩)),(11,.pointer (some ⟨I,0,none⟩)),(12,.pointer (some ⟨J,0,none⟩))]) (λX=>X) (λX=>∃ S2,CpS ((((R.set I (cnB (cntN rows k))).set J (lsB lv)).set g ⟨27,Y.map nU,4⟩).set I (cnB (cntN rows (k+1)))) a p b c q qw fn s 4 2 rows rows.length y3 S2 X x1 n1 (k+1) f1 a1 wf wh (rowsN rows k)) ?_ ?_
  ·by_cases hq:k=0\/(rows.getD (k-1) []).take 3≠Y.take 3
   ·rw [aO,decide_eq_true hq];rw [if_pos hq] at ah;refine GWP.condT rfl (by first|rfl|(simp;done)|(simp;omega)) ?_;refine GWP.region ?_;refine rC (ld_ zaf rfl) ?_;refine rC (vi rfl rfl zm8) ?_;refine vk rfl rfl zai rfl p11 (show 0<1 by decide) rfl ?_
    try simp only [k_ms,k_sz,k_ss,k_za,Nat.reduceAdd]
    refine zad ?_;have H2:=H1.put (al.own ao) (cnB (cntN rows (k+1)));refine ⟨(M.set I (cnB (cntN rows (k+1)))),?_,?_,?_⟩<;>try dsimp only
    ·exact ⟨_,H2⟩
    ·exact ⟨rfl,rfl,rfl,rfl,trivial⟩
    (rw [ah];exact Mem.Less.refl _)
   rw [aO,decide_eq_false hq];replace ah:cntN rows (k+1)=cntN rows k:=(by rw [ah,if_neg hq];rfl);refine GWP.condF rfl (by first|rfl|(simp;done)|(simp;omega)) ?_;have H2:=H1;refine GWP.skip ?_;refine ⟨M,?_,?_,?_⟩<;>try dsimp only
   ·exact ⟨S1,by rw [ah,vG _ _ _ (al.own ao)];exact H1⟩
   ·exact ⟨rfl,rfl,rfl,rfl,trivial⟩
   exact Mem.Less.refl _
  rintro M2 ⟨S2,H2⟩;intro _ _ az aI;(try dsimp only at *);refine zau ?_;refine GWP.sub _ az (GWP.less _ aI ?_);clear az aI;have aR:=H2.kb.trans (zbb H2.ar);have ck:=aR.own ((vg _ _ (za5 aq aG (by show ¬ 73=27;decide))).trans aX);have c9:=aR.own (vf _ I (cnB (cntN rows (k+1))));have bc:=(vg _ (cnB (cntN rows (k+1))) (Ne.symm U)).trans (al.own bj);have bX:=aR.own bc;have cr:=(vg _ (cnB (cntN rows (k+1))) aC).trans kg;unfold lsB at bX;refine GWP.seq ?_;refine GWP.region ?_;refine k_m rfl ?_;refine rC (vM 3 underlying22 zai rfl rfl rfl (by decide)) ?_;refine vk rfl rfl zcA rfl bX (show 0<1 by decide) rfl ?_
  try simp only [k_ms,k_sz,k_ss,k_za,Nat.reduceAdd]
  refine k_n ?_;refine GWP.sub [(13,_),(10,_),(11,_),(12,_)] ⟨rfl,rfl,rfl,rfl,trivial⟩ ?_;have H3:=H2.put bc (lsB (.slice (some ⟨g,0,none⟩) 3 4));have bt:=H3.kb.trans (zbb H3.ar);have bh:=za5 aq aw (by show ¬ 73=22;decide);have be:=(vg M2 (lsB (.slice (some ⟨g,0,none⟩) 3 4)) bh).trans ck;have bi:=(vg M2 (lsB (.slice (some ⟨g,0,none⟩) 3 4)) U).trans c9;have ig:=bt.own ((vg _ (lsB (.slice (some ⟨g,0,none⟩) 3 4)) aA).trans cr);unfold bxB at be;unfold cnB at bi;refine GWP.less (M2.set J (lsB (.slice (some ⟨g,0,none⟩) 3 4))) (Mem.Less.refl _) ?_;generalize M2.set J (lsB (.slice (some ⟨g,0,none⟩) 3 4))=M3 at *;have cC:∀ {an:Nat},Fresh M3 an->ACall prog 114 #[self qw,.slice (some ⟨an,0,none⟩) 2 2] (M3.set an ⟨27,[nU (Y[3]'vd),.int .u64 (cntN rows (k+1):Nat)],2⟩) λrv M'=>rv = .int .i64 0/\NmI (((dd S8 q qw).del I).del J) I J rows (k+1) λK=>CpI K a p b c q qw fn s 4 2 rows rows.length y3 m (100*(k+1)) (k+1) (rowsN rows (k+1)) M':=λ{an} ay=>by
   have H4:=H3.new ay ⟨27,[nU (Y[3]'vd),.int .u64 (cntN rows (k+1):Nat)],2⟩;have c5:=zaj H3.kb (zaz H3.ar ay ⟨27,[nU (Y[3]'vd),.int .u64 (cntN rows (k+1):Nat)],2⟩).1.1;refine (zlj H4 _ [Y[3]'vd,cntN rows (k+1)] (zdQ rfl (show 2<=8 by decide) (vf _ _ _)) ⟨rfl,λz hz=>?_⟩ (by decide) (by decide) (by rw [Skew.zdi];exact hk) vd vd vd).mono λrv M' ⟨e,S5,x5,ch,ce,bJ,H5⟩=>⟨e,R.set g ⟨27,Y.map nU,4⟩,.slice (some ⟨g,0,none⟩) 3 4,hR.trans (vh _ g _ ca),(vg _ _ (Ne.symm aC)).trans ad,(vg _ _ (Ne.symm aA)).trans ac,.inr ⟨Nat.succ_ne_zero k,g,rfl,?_⟩,S5,x5,n1+10,f1,a1,ch,ce,by omega,bJ.trans bv,?_⟩
   ·rcases List.mem_cons.1 hz with rfl | hz
    ·exact cK
    rw [List.mem_singleton.1 hz];exact Nat.lt_of_le_of_lt bT (Nat.lt_of_lt_of_le (show k+1<1000 by omega) (by decide))
   ·rw [Nat.add_sub_cancel,aW];exact vN (g:=nU) (r:=⟨27,Y.map nU,4⟩) (vf _ _ _) (by rw [List.map_take];exact List.take_prefix _ _) (by rw [List.length_take];omega) (by decide) (by decide)
   rw [Skew.zmB,cD,cz];exact H5.less (zuu.trans (vh _ an _ c5))
  refine GWP.seq ?_;refine GWP.draw [i0_,i1_,i2_,i3_,i4_,o5_,o6_,o7_,i8_] [6,7] mixed (by kernel_rfl) ?_;refine dC (hc:=ld_ zcj rfl) (h:=?_);refine dP (hc:=λ_=>Calm.move rfl) (h:=?_);refine dP (hc:=λ_=>vK underlying22 zai rfl rfl vd vd) (h:=?_);refine dC (hc:=Calm.load zaf rfl (v:=nU (Y[3]'vd)) (zbe (g:=nU) 3 vd ig vd)) (h:=?_);refine dC (hc:=ld_ zaf rfl) (h:=?_);refine zac rfl ?_;refine vO (cs:=[_,_]) (zab rfl) zbi rfl rfl rfl rfl ?_;intro an ay;have ag:=ay
  repeat ((with_reducible replace ag:=zaa ag);obtain ⟨ag,_⟩:=ag)
  have:=ag.ne be;have:=ag.ne' be
  have:=ag.ne bi;have:=ag.ne' bi
  refine zad ⟨ny_,?_⟩;refine zac rfl ?_;refine ARun.call (zab rfl) znn rfl (cC ay) ?_;rintro _ M5 ⟨rfl,hI⟩;refine zad ⟨nz_,?_⟩;refine zac rfl ?_;refine ARun.call (zab rfl) zjy rfl (zbc _ _) ?_;rintro _ S9 ⟨rfl,h9⟩;rw [h9];clear h9 S9;refine zad ⟨nz_,?_⟩;refine dP (hc:=λ_=>Calm.assign rfl) (h:=?_);refine zcQ ?_;refine zau ?_;refine GWP.sub [(13,_),(10,_),(11,_),(12,_),(14,_)] ⟨rfl,rfl,rfl,rfl,rfl,trivial⟩ ?_;refine GWP.seq ?_;refine GWP.region ?_;refine k_m rfl ?_;refine rC (vi rfl rfl Er.neNil) ?_;refine k_n ?_;refine GWP.sub [(13,_),(10,_),(11,_),(12,_),(14,_),(62,_)] ⟨rfl,rfl,rfl,rfl,rfl,rfl,trivial⟩ ?_;refine GWP.condF rfl (by first|rfl|(simp;done)|(simp;omega)) ?_;refine GWP.skip ?_;refine zhg ?_;exact .inl ⟨rfl,hI⟩
 case done =>
  rintro D M W ⟨R,lv,hR,ad,ac,bP,S1,x1,n1,f1,a1,wf,wh,ci,bv,H1⟩ cb hD hK;refine uK (rs:=[.cell 6 27,.cell 7 63]) (N:=78) rfl cb hD hK (hg.sub (show Sub [(6,.pointer (some ⟨b6,0,none⟩)),(7,.pointer (some ⟨b7,0,none⟩)),(8,self q),(10,.pointer (some ⟨aa,0,none⟩)),(11,.pointer (some ⟨I,0,none⟩))] _ from ⟨rfl,rfl,rfl,rfl,rfl,trivial⟩)) ?_;have cV:=zfn H1;have U:I≠J:=za5 aG aw (by show ¬ 27=22;decide);have ao:((R.set I (cnB (cntN rows rows.length))).set J (lsB lv)).own I=some (cnB (cntN rows rows.length)):=(vg _ _ U).trans (vf _ _ _);have aX:=bk aq (by show ¬ 73=130;decide) (by show ¬ 73=206;decide) (by show ¬ 73=27;decide) (by show ¬ 73=22;decide) (C:=cnB (cntN rows rows.length)) (V:=lsB lv) hR;have n7:b7≠I/\b7≠J:=⟨za5 o7 aG (by show ¬ 63=27;decide),za5 o7 aw (by show ¬ 63=22;decide)⟩;have cZ:=((((zmD H (H.kb.own oq) (H.kb.own af)).del (za5 (zmD H (H.kb.own oq) (H.kb.own af)).own a0 (by show ¬ 120=27;decide)) ((zmD H (H.kb.own oq) (H.kb.own af)).away a0 (by show ¬ 27=9;decide))).del (za5 (zmD H (H.kb.own oq) (H.kb.own af)).own aP (by show ¬ 120=22;decide)) ((zmD H (H.kb.own oq) (H.kb.own af)).away aP (by show ¬ 22=9;decide)))).less hR;have cJ:WkS ((R.set I (cnB (cntN rows rows.length))).set J (lsB lv)) a wk u o3 (ts ++ [s]):=cZ.less ((vh R I (cnB (cntN rows rows.length)) ad).trans (vh _ J (lsB lv) ((vg _ _ (Ne.symm U)).trans ac)));have bH:b6≠aa:=za5 o6 aq (by show ¬ 27=73;decide);have bV:b7≠aa:=za5 o7 aq (by show ¬ 63=73;decide);have bG:b7≠b6:=za5 o7 o6 (by show ¬ 63=27;decide);have a9:((((K8.del q).del qw).del I).del J).Less K8:=(((zaS _ J).trans (zaS _ I)).trans (zaS _ qw)).trans (zaS _ q);have aT:∀ {A B:Mem} (t:Nat),A.Less B->(A.del t).Less (B.del t):=λ{A B} t cY=>zaI ((zaS A t).trans cY) (by simp [Mem.del]);have cP:((((K8.del q).del qw).del I).del J).Less ((R.set I (cnB (cntN rows rows.length))).set J (lsB lv)):=((aT J (aT I (aT qw (aT q H.kb)))).trans hR).trans ((vh R I (cnB (cntN rows rows.length)) ad).trans (vh _ J (lsB lv) ((vg _ _ (Ne.symm U)).trans ac)));have bN:((((K8.del q).del qw).del I).del J).own b6=some (cnB 0):=(vj _ (za5 o6 aw (by show ¬ 27=22;decide))).trans ((vj _ n6).trans ((vj _ (za5 o6 af (by show ¬ 27=206;decide))).trans ((vj _ (za5 o6 oq (by show ¬ 27=130;decide))).trans o6)));have cw:((((K8.del q).del qw).del I).del J).own b7=some ⟨63,[.nilIface],1⟩:=(vj _ n7.2).trans ((vj _ n7.1).trans ((vj _ (za5 o7 af (by show ¬ 63=206;decide))).trans ((vj _ (za5 o7 oq (by show ¬ 63=130;decide))).trans o7)));have bU:K.Less ((((K8.del q).del qw).del I).del J):=zaI (zaI (zaI (zaI cm c3) c8) bL) bE;obtain ⟨M0,b9,c2,bD,dq,dE⟩ : ∃ M0:Mem,M0.own aa=some (bxB qw)/\M0.own I=some (cnB (cntN rows rows.length))/\M0.Less ((R.set I (cnB (cntN rows rows.length))).set J (lsB lv))/\M0.own b6=none/\M0.own b7=none:=⟨pickM ((R.set I (cnB (cntN rows rows.length))).set J (lsB lv)) [aa,I],(zca (by simp)).trans aX,(zca (by simp)).trans ao,zeg (λ_ _=>rfl) rfl,if_neg (by simp [bH,n6]),if_neg (by simp [bV,n7.1])⟩;unfold bxB at b9;unfold cnB at c2;refine GWP.seq ?_;refine GWP.region ?_;refine k_m rfl ?_;refine ARun.call (zab rfl) znp rfl (cV) ?_;rintro _ M2 ⟨_,S2,x2,bJ,H2⟩;have bO:=zah H2.ar H2.oq
  (unfold rdB at bO;dsimp only at bO)
  refine k_n ?_;refine GWP.sub [(6,_),(7,_),(8,_),(10,_),(11,_)] ⟨rfl,rfl,rfl,rfl,rfl,trivial⟩ ?_;refine GWP.seq ?_;refine GWP.seq ?_;refine GWP.region ?_;refine k_m rfl ?_;refine rC (Calm.nilCheck rfl) ?_;refine rC (Calm.fieldAddr zcu rfl) ?_;refine rC (ld_ zbX rfl) ?_;refine ARun.call (zab rfl) zjy rfl (zbc _ _) ?_;rintro _ S9 ⟨rfl,h9⟩;rw [h9];clear h9 S9;refine k_e rfl ?_;refine GWP.sub [(6,_),(7,_),(8,_),(10,_),(11,_),(15,_)] ⟨rfl,rfl,rfl,rfl,rfl,rfl,trivial⟩ ?_;refine GWP.seq ?_;refine GWP.region ?_;refine k_m rfl ?_;refine rC (vi rfl rfl Er.neNil) ?_;refine k_n ?_;refine GWP.sub [(6,_),(7,_),(8,_),(10,_),(11,_),(15,_),(72,_)] ⟨rfl,rfl,rfl,rfl,rfl,rfl,rfl,trivial⟩ ?_;refine GWP.condF rfl (by first|rfl|(simp;done)|(simp;omega)) ?_;have aR:M0.Less M2:=bD.trans (H2.kb.trans (zbb H2.ar));have cp:=zpo H cJ cP (zaj a9 H.kw) (λt cc e=>zaj a9 (H.ko t cc e)) H2 (by decide) (by decide) (Skew.zdi rows rows.length) vd vd (List.mem_cons_self ..);refine GWP.skip ?_;refine zau ?_;refine GWP.seq ?_;refine GWP.drawS (M0) zae [i0_,i1_,o2_,o3_,o4_,o5_] [] mixed (by kernel_rfl) ?_;refine dC (hc:=ld_ zaf rfl) (h:=?_);refine dC (hc:=ld_ zcj rfl) (h:=?_);refine zac rfl ?_;refine ARun.call (zab rfl) zno rfl (cp) ?_;rintro _ M3 ⟨rfl,cH,S3,x3,o4,H3,c6,cL⟩;have bt:=bD.trans cH;refine zad ⟨ny_,?_⟩;refine zac rfl ?_;refine ARun.call (zab rfl) zjy rfl (zbc _ _) ?_;rintro _ S9 ⟨rfl,h9⟩;rw [h9];clear h9 S9;have p6:=zah H3.ar (H3.kb.own bN);have p7:=zah H3.ar (H3.kb.own cw);unfold cnB at p6;refine zad ⟨ny_,?_⟩;refine zac rfl ?_;refine vk rfl rfl zai rfl p6 (show 0<1 by decide) rfl ?_
  try simp only [k_ms,k_sz,k_ss,k_za,Nat.reduceAdd]
  refine zad ⟨ny_,?_⟩;refine zac rfl ?_;refine vk rfl rfl zgu rfl ((vg _ _ bG).trans p7) (show 0<1 by decide) rfl ?_
  try simp only [k_ms,k_sz,k_ss,k_za,Nat.reduceAdd]
  refine zad ⟨ny_,?_⟩;refine zcQ ?_;refine zau ?_;refine GWP.sub [(6,_),(7,_),(8,_),(10,_),(11,_),(15,_),(72,_)] ⟨rfl,rfl,rfl,rfl,rfl,rfl,rfl,trivial⟩ ?_;have H4:=H3.put bN (cnB (cntN rows rows.length));refine GWP.ret ?_;refine ⟨_,M3.set b6 (cnB (cntN rows rows.length)),⟨_,_,_,rfl,.inl ⟨zaf,rd_⟩,⟨_,_,_,rfl,.inl ⟨zdG,rd_⟩,rfl,rfl⟩,rfl⟩,(by rw [vG _ _ _ ((vg _ _ bG).trans p7)];exact Mem.Less.refl _),?_⟩;exact ⟨rfl,_,x3,o4,H4.less (zao bU b8),a4.trans c6,cL⟩
end
end Sto
end
end Go.Proofs.YtopiogkolaelnaaGreatDoor
