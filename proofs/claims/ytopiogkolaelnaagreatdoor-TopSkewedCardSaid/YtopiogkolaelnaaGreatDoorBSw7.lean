/-
  Texts that belong together: Nm9, SwL0, Flw4, Nm10, Ints, Ord1, Ord2, Ord3, Sk1, Sk2, Drw, Sort0, SortX, SortB, CmL, Sk4, Sk5, Sk6, Sk7, SkE, Od1, Od2, Od3, OdP.
-/
import Derived.Test.YtopiogkolaelnaaGreatDoorBSw6
import Derived.Test.YtopiogkolaelnaaGreatDoorBase
import Derived.Calls
import Derived.Sort.AssemblyPlain
import Derived.Sort.LotD5
import Derived.Lib.QuietBelow
import Derived.Laws.StructEq
set_option maxHeartbeats 8000000
set_option maxRecDepth 100000
set_option linter.unusedVariables false
set_option linter.unusedSimpArgs false
set_option linter.unusedSectionVars false
namespace Go.Proofs.YtopiogkolaelnaaGreatDoor
open _root_.Go.Proofs.Tryz
section
open Go.RowKit
open Mv Disk Num
namespace Sto
open Skew (rowsW firstsN needS cntN rowN rowsN red)
open Run (nameS sizeN)
section
variable {K S T:Mem} {a p b c wk m q qw:Nat} {u:W5} {x:Pl} {o:Option (Nat × Nat)} {ts L:List tt} {fn s:tt}
theorem zrU (h:NmS K a p b c wk u m S T x o ts L) {bw C ct:Nat} (ad:K.own bw=some (wpB wk)) (W:K.own C=some (nmB s)) (hs:nm s) (X:s ∉ L) (Y:ct<=65536) (hr:(used x.d.ext:Int)+(Rec.needN 1 ct:Nat)<=x.d.size) :
  ACall prog 24 #[.int .i64 1,.int .u64 (ct:Nat),.pointer (some ⟨bw,0,none⟩),.pointer (some ⟨C,0,none⟩)] T λv T'=>∃ qw y S',v = .tuple #[self qw,.nilIface]/\K.own qw=none/\NmS (K.set qw (wtB a ⟨s,1,0,0,0,0⟩)) a p b c wk u m S' T' y o ts (s :: L)/\Far x y (λt=>t=s) No (Rec.needN 1 ct)/\Wrote y s []/\Sto.ns y.d s=Rec.needN 1 ct:=by
 have V:=zv9 S a p b c wk u _ x s 1 ct 0 0 T h.ar h.wo.own h.ps hs (h.ns0 X) (by decide) Y hr (Nat.le_of_eq h.nb);have o1:=zah h.ar (h.kb.own ad);have o2:=zah h.ar (h.kb.own W);unfold wpB at o1;unfold nmB at o2;refine k_E4 15 func24 ?_;refine r12_ ?_;refine ca_ rfl (V) ?_;rintro _ T1 ⟨q,y,rfl,hq,U,H⟩;have J:q≠wk:=Ne.symm (hq.ne h.wo.own);have I:Away o q:=λt Q e=>hq.ne (h.wo.gro.own t Q e).1;have A:=zfm H;have aa:∀ t,0<Sto.ns y.d t <-> t ∈ s :: L:=λt=>by
  rw [H.n];by_cases e:s=t
  ·rw [if_pos e,<- e];exact ⟨λ_=>List.mem_cons_self ..,λ_=>Rec.za7 _ _⟩
  rw [if_neg e,h.di t];exact ⟨λh=>List.mem_cons_of_mem _ h,λh=>(List.mem_cons.1 h).resolve_left (Ne.symm e)⟩
 refine r7_ ?_;refine ⟨_,T1,⟨_,_,rfl,⟨_,_,rfl,rfl,rfl⟩,rfl⟩,zae,?_⟩;exact ⟨q,y,_,rfl,zaj h.kb hq.1,⟨U.ar,U.ps,λj hj=>(by unfold atF;rw [H.fr] at hj ⊢;exact h.cl j hj),λt=>A.u t (λe=>e.elim) (h.us t),by rw [H.fr];exact h.nb,A.l.trans h.ln,h.wo.set (wtB a ⟨s,1,0,0,0,0⟩) J I,Mv.Less.set h.kb q _,(vg _ _ (Ne.symm J)).trans h.kw,λt Q e=>(vg _ _ (I t Q e)).trans (h.ko t Q e),aa⟩,A,U.wr,by rw [H.n,if_pos rfl]⟩
theorem zps (rows:List (List Nat)) (z:Nat):cntN rows z<=z:=by
 induction z with
 | zero=>exact Nat.le_refl 0
 | succ z A=>rw [Skew.cntN];split <;> omega
theorem zrV {rows:List (List Nat)} (I:RowsOK 4 rows) (hc:rows.length<=1000):RowsOK 2 (rowsN rows rows.length):=λr C=>by
 obtain ⟨i,hi,rfl⟩:=List.mem_map.1 C;rw [List.mem_range] at hi;refine ⟨rfl,λn A=>?_⟩;unfold Skew.rowN at A;rw [List.mem_cons,List.mem_singleton] at A;rcases A with rfl | rfl
 ·obtain ⟨J,H⟩:=I _ (List.getElem_mem hi);rw [show rows.getD i []=rows[i] from by rw [List.getD_eq_getElem?_getD,List.getElem?_eq_getElem hi];rfl,List.getD_eq_getElem?_getD,List.getElem?_eq_getElem vd];exact H _ (List.getElem_mem _)
 exact Nat.lt_of_le_of_lt (zps rows (i+1)) (Nat.lt_of_lt_of_le (show i+1<65536 by omega) (by decide))
theorem zrW {l:List Nat} (A:∀ z ∈ l,z<Num.top) (hc:l.length<=4096):RowsOK 4 (rowsW l (l.length+1)):=λr C=>by
 obtain ⟨i,hi,rfl⟩:=List.mem_map.1 C;exact zpj A hc (by have:=List.mem_range.1 (List.mem_filter.1 hi).1;omega)
theorem zpt {w:Nat} {r s:List (List Nat)} (h:r.Perm s) (hs:RowsOK w s):RowsOK w r:=λz A=>hs z (h.mem_iff.1 A)
theorem zb9 {k:Nat} {t:tt} (h:t.size<5):pfx (nameS nT k) t=false:=by
 unfold pfx;rw [decide_eq_false (by rw [zbM];show ¬ 1+4<=_;omega)];rfl
theorem zh1 (k:Nat):(frN k).size=9:=by unfold frN;rw [zbM,zbM];rfl
theorem p00:pfx (nameS nT 0) (frN 0)=true:=zeh _ _
theorem p11:pfx (nameS nT 1) (frN 1)=true:=zeh _ _
theorem p01:pfx (nameS nT 0) (frN 1)=false:=by decide +kernel
theorem p10:pfx (nameS nT 1) (frN 0)=false:=by decide +kernel
theorem p20:pfx (nameS nT 2) (frN 0)=false:=by decide +kernel
theorem p21:pfx (nameS nT 2) (frN 1)=false:=by decide +kernel
theorem fr01:frN 0≠frN 1:=λe=>by have:=p01;rw [<- e,p00] at this;cases this
theorem zuv {l:List Nat} (h:NmS K a p b c wk u 24 S T x o [] [fn]) {bw aL:Nat} (bt:K.own bw=some (wpB wk)) (bS:K.own aL=some (nmB s)) (hs:nm s) (am:fn.size<5) (ag:s.size<5) (al:fn≠s) (hH:Has x fn 1 (oneL l).length ((oneL l).flatMap recB)) (hl:∀ z ∈ l,1<=z/\z<Num.top) (hc:l.length<=60) (bG:(used x.d.ext:Int)+160<=x.d.size) {eu:tx} {ev:tu} (hE:K.Knows ⟨1,0,none⟩ [.iface eu ev]) :
  ACall prog 23 #[self wk,.string fn,.func (.func 24) #[] #[.pointer (some ⟨bw,0,none⟩),.pointer (some ⟨aL,0,none⟩)]] T λv T'=>∃ nn:Nat,v = .tuple #[.int .u64 nn,.nilIface]/\NmE K a p b c wk u 24 x [] [s,fn] (λ_=>True) 150 T' λy=>Has y s 1 (red l).length ((oneL (red l)).flatMap recB):=by
 have aV:needS l.length<=41:=by unfold Skew.needS Skew.firstsN;split <;> omega
 have co:Rec.needN 1 (needS l.length)<=6:=by unfold Rec.needN;rw [show Rec.eachN 1=5 from rfl];omega
 have cd:Rec.needN 2 (needS l.length)<=9:=by unfold Rec.needN;rw [show Rec.eachN 2=10 from rfl];omega
 have cB:Rec.needN 4 (needS l.length)<=15:=by unfold Rec.needN;rw [show Rec.eachN 4=20 from rfl];omega
 have f0:frN 0≠fn:=λe=>by have:=zh1 0;rw [e] at this;omega
 have bb:frN 1≠fn:=λe=>by have:=zh1 1;rw [e] at this;omega
 have g0:frN 0≠s:=λe=>by have:=zh1 0;rw [e] at this;omega
 have g1:frN 1≠s:=λe=>by have:=zh1 1;rw [e] at this;omega
 have a0:([s,fn] : List tt).any (pfx (nameS nT 0))=false:=by simp [zb9 am,zb9 ag]
 have a1:([frN 0,s,fn] : List tt).any (pfx (nameS nT 0))=true:=by simp [p00]
 have a2:([frN 0,s,fn] : List tt).any (pfx (nameS nT 1))=false:=by simp [p10,zb9 am,zb9 ag]
 have a3:([frN 1,frN 0,s,fn] : List tt).any (pfx (nameS nT 0))=true:=by simp [p00]
 have a4:([frN 1,frN 0,s,fn] : List tt).any (pfx (nameS nT 1))=true:=by simp [p11]
 have a5:([frN 1,frN 0,s,fn] : List tt).any (pfx (nameS nT 2))=false:=by simp [p20,p21,zb9 am,zb9 ag]
 have a6:([frN 1,s,fn] : List tt).any (pfx (nameS nT 0))=false:=by simp [p01,zb9 am,zb9 ag]
 have w0:([frN 1,frN 0,s,fn] : List tt).filter (λt=>decide (t≠frN 0)) = [frN 1,s,fn]:=by simp [Ne.symm fr01,Ne.symm g0,Ne.symm f0]
 have w1:([frN 0,frN 1,s,fn] : List tt).filter (λt=>decide (t≠frN 1)) = [frN 0,s,fn]:=by simp [fr01,Ne.symm g1,Ne.symm bb]
 have w2:([frN 1,s,fn] : List tt).filter (λt=>decide (t≠frN 1)) = [s,fn]:=by simp [Ne.symm g1,Ne.symm bb]
 have aG:=zpf h hH (by rw [zaO];omega);have hz:∀ j,j<1->j=0:=λj I=>by omega
 refine k_E3 103 func23 ?_;refine r10_ ?_;refine ca_ rfl (aG) ?_;rintro _ T1 ⟨q,y1,rfl,hq,H1,ba,bR⟩;have oq:=zah H1.ar (H1.kb.own (vf K q (rdB a ⟨fn,1,(oneL l).length,0,0,0⟩)))
 (unfold rdB at oq;dsimp only at oq;rw [zaO] at oq)
 have ad:=vh K q (rdB a ⟨fn,1,(oneL l).length,0,0,0⟩) hq;have aC:=zrU (ct:=needS l.length) H1 (ad.own bt) (ad.own bS) hs (λe=>al (List.mem_singleton.1 e).symm) vd (by rw [ba];omega);refine r11_ ?_;refine rC (vi rfl rfl Er.neNil) ?_;refine r2_ ?_;refine cF_ ?_;refine r8_ ?_;refine cp_ rfl (zpe _ _ vd) ?_;refine r11_ ?_;refine vq (zab rfl) zwX rfl rfl (aC) ?_;rintro _ T2 ⟨qw,y2,S2,rfl,bn,H2,bU,bW,bz⟩;have bf:K.own qw=none:=zaj ad bn;replace H2:=H2.less (Mv.Less.set ad qw (wtB a ⟨s,1,0,0,0,0⟩));have ak:=(zds (D:=λt=>t=s) (E:=No) bR ba).trans bU;have bD:=hH.far ak al;have cH:=ak.z;have cx:=ak.q;have aK:=vh K qw (wtB a ⟨s,1,0,0,0,0⟩) bf;have aZ:=hE.less aK;have bX:K.Less ((K.set qw (wtB a ⟨s,1,0,0,0,0⟩)).del qw):=zaI aK bf;have bM:=vf K qw (wtB a ⟨s,1,0,0,0,0⟩);clear H1 ad aC aG;generalize K.set qw (wtB a ⟨s,1,0,0,0,0⟩)=Kw at *;refine r11_ ?_;refine rC (vi rfl rfl Er.neNil) ?_;refine r2_ ?_;refine kw_ [0,1,2,6,7,8,9,26,10,12,43] ?_;refine cF_ ?_;refine r5_ ?_;refine cp_ rfl (zhY H2 0 (by decide) (λj I=>absurd I (Nat.not_lt_zero _)) a0) ?_;refine r10_ ?_;refine ca_ rfl (zkl T2 wk (frN 0)) ?_;rintro _ S9 ⟨c1,c2,rfl,e1,e2,h9⟩;rw [h9];clear h9 S9;have H3:=H2.new e1 (wpB wk);have H4:=H3.new e2 (nmB (frN 0));have k1:=zaj H2.kb (zaz H2.ar e1 (wpB wk)).1.1;have k2:=zaj H3.kb (zaz H3.ar e2 (nmB (frN 0))).1.1;have l2:=vh _ c2 (nmB (frN 0)) k2;have Q:=(vh Kw c1 (wpB wk) k1).trans l2;have aH:=zmE H4 (l2.own (vf Kw c1 (wpB wk))) (vf _ c2 (nmB (frN 0))) (by decide) (zut 0) (zpm a0) bD hl hc (by decide) (by decide) vd;refine ca_ rfl (aH) ?_;rintro _ T5 ⟨rfl,S5,y5,o5,H5,aa,aJ⟩;replace H5:=H5.less Q;have bo:=bW.far aa (Ne.symm g0);have bp:=(aa.n s (Ne.symm g0)).trans bz;have cE:=aa.z;have cI:=aa.q;have C:=Skew.zgc l;have bc:=zrW (λz hz=>(hl z hz).2) (show l.length<=4096 by omega);rw [<- C] at aJ;clear H2 H3 H4 aH k1 k2 l2 Q e1 e2;have Y:=zpn H5 (frN 0) 4 1 2 0 (rowsW l (l.length+1)) eu ev aJ (by decide) (by decide) (by decide) (by decide) bc (by rw [C];exact Nat.le_trans aV (by decide)) (by rw [C];omega) (by rw [C];omega) (by decide) rfl (λj I al=>by simp at I;omega) (by decide) (λt ht=>by simp at ht;simp [ht]) (by decide) (λj I=>by rw [hz j I];exact a1) a2 (by decide) (λj I=>by rcases (show j=0\/j=1 by omega) with rfl | rfl;exact a3;exact a4) a5 (by rw [C];omega) aZ;refine r6_ ?_;refine rC (vi rfl rfl Er.neNil) ?_;refine r2_ ?_;refine cF_ ?_;refine r6_ ?_;refine ca_ rfl (Y) ?_;rintro _ T6 ⟨rfl,out,ax,bQ,S6,y6,o6,H6,ac,bY⟩;replace H6:NmS Kw a p b c wk u 24 S6 T6 y6 o6 [frN 1] [frN 1,s,fn]:=by rw [<- w0];exact H6
 have bJ:=bo.far ac (by rintro (e | e);exact g1 e.symm;exact g0 e.symm);have bV:=(ac.n s (by rintro (e | e);exact g1 e.symm;exact g0 e.symm)).trans bp;have cp:=ac.z;have bd:=ac.q;have J:=ax.length_eq;have aF:=zpt ax bc;clear H5 Y;refine r11_ ?_;refine rC (vi rfl rfl Er.neNil) ?_;refine r2_ ?_;refine kw_ [0,1,2,6,7,8,9,26,10,12,43,13,14,54,15,63] ?_;refine cF_ ?_;refine r5_ ?_;refine cp_ rfl (zhY H6 0 (by decide) (λj I=>absurd I (Nat.not_lt_zero _)) a6) ?_;refine r9_ ?_;refine ca_ rfl (zkl T6 wk (frN 0)) ?_;rintro _ S9 ⟨c1,c2,rfl,e1,e2,h9⟩;rw [h9];clear h9 S9;have H3:=H6.new e1 (wpB wk);have H4:=H3.new e2 (nmB (frN 0));have k1:=zaj H6.kb (zaz H6.ar e1 (wpB wk)).1.1;have k2:=zaj H3.kb (zaz H3.ar e2 (nmB (frN 0))).1.1;have l2:=vh _ c2 (nmB (frN 0)) k2;have Q:=(vh Kw c1 (wpB wk) k1).trans l2;have aW:=zrT H4 (l2.own (vf Kw c1 (wpB wk))) (vf _ c2 (nmB (frN 0))) (by decide) (zut 0) (zpm a6) bY aF vd (by decide) (by decide) (by rw [J,C];rw [C] at bd;omega);refine ca_ rfl (aW) ?_;rintro _ T7 ⟨rfl,S7,y7,o7,H7,ae,bv⟩;replace H7:NmS Kw a p b c wk u 24 S7 T7 y7 o7 [frN 1,frN 0] [frN 0,frN 1,s,fn]:=H7.less Q;have bA:=bJ.far ae (Ne.symm g0);have bl:=(ae.n s (Ne.symm g0)).trans bV;have cv:=ae.z;have bL:=ae.q;clear H6 H3 H4 aW k1 k2 l2 Q e1 e2;have aj:=zkm H7 (frN 1) 0 (by decide) (by decide) rfl (λj I bP=>by rcases (show j=1 by simp at I;omega) with rfl;exact fr01) (by simp);refine r11_ ?_;refine rC (vi rfl rfl Er.eqNil) ?_;refine r2_ ?_;refine cT_ ?_;refine r3_ ?_;refine ca_ rfl (aj) ?_;rintro _ T8 ⟨rfl,S8,y8,o8,H8,X,_⟩;replace H8:NmS Kw a p b c wk u 24 S8 T8 y8 o8 [frN 0] [frN 0,s,fn]:=by rw [<- w1];exact H8
 have az:=bv.far X fr01;have bT:=bA.far X (Ne.symm g1);have bm:=(X.n s (Ne.symm g1)).trans bl;have cC:=X.z;have cu:=X.q;have aX:=zrV aF vd;have H:=Skew.zdi out out.length;rw [<- H] at az;rw [H] at az;clear H7 aj;have Y:=zpn H8 (frN 0) 2 1 2 0 (rowsN out out.length) eu ev (by rw [H];exact az) (by decide) (by decide) (by decide) (by decide) aX (by rw [H,J,C];exact Nat.le_trans aV (by decide)) (by rw [H,J,C];omega) (by rw [H,J,C];omega) (by decide) rfl (λj I al=>by simp at I;omega) (by decide) (λt ht=>by simp at ht;simp [ht]) (by decide) (λj I=>by rw [hz j I];exact a1) a2 (by decide) (λj I=>by rcases (show j=0\/j=1 by omega) with rfl | rfl;exact a3;exact a4) a5 (by rw [H,J,C];rw [C] at bd;rw [J,C] at bL;omega) aZ;refine r7_ ?_;refine rC (vi rfl rfl Er.neNil) ?_;refine r2_ ?_;refine kw_ [0,1,2,6,7,8,9,26,10,12,43,13,14,54,15,63,16,17,77,82] ?_;refine cF_ ?_;refine r6_ ?_;refine ca_ rfl (Y) ?_;rintro _ br ⟨rfl,W,V,aB,bE,bH,bC,ai,U,a9⟩;replace ai:NmS Kw a p b c wk u 24 bE br bH bC [frN 1] [frN 1,s,fn]:=by rw [<- w0];exact ai
 have aY:=bT.far U (by rintro (e | e);exact g1 e.symm;exact g0 e.symm);have aR:=(U.n s (by rintro (e | e);exact g1 e.symm;exact g0 e.symm)).trans bm;have av:W.length=needS l.length:=by rw [V.length_eq,H,J,C]
 have a8:=zpr ai 1 (by decide) a9 (zpt V aX) (by decide) (by decide) vd bM aY (by rw [aR,av]) g1 (by simp) (by decide) (by decide);refine r11_ ?_;refine rC (vi rfl rfl Er.eqNil) ?_;refine r2_ ?_;refine cT_ ?_;refine r4_ ?_;refine ca_ rfl (a8) ?_;rintro _ cD ⟨rfl,cf,cr,cF,bu,aE,aU⟩;clear ai a8 Y H8;have aj:=zkm (bu.less bX) (frN 1) 0 (by decide) (by decide) rfl (λj I bP=>by simp at I;omega) (by simp);refine r7_ ?_;refine rC (vi rfl rfl Er.neNil) ?_;refine r2_ ?_;refine cF_ ?_;refine r7_ ?_;refine ca_ rfl (aj) ?_;rintro _ bB ⟨rfl,bZ,aO,bN,bI,aq,_⟩;have aw:=aU.far aq (Ne.symm g1);have aT:colR W 1 W.length=oneL (red l):=by
  obtain ⟨e,aQ,rfl,bq⟩:=Skew.zrO ax bQ;rw [List.length_map,Skew.zmC aQ bq] at V;have h2:=Skew.zrP aQ V aB;unfold colR;rw [List.take_length,h2];exact Skew.zup
 have bF:W.length=(red l).length:=by rw [av,Skew.zaY,Skew.zlu]
 rw [aT,bF] at aw;have b3:=U.q;have bK:Far x aO (λ_=>True) No 150:=by
  have h1:=λ{A B:Pl} {D:tt->Prop} {k:Nat} (h:Far A B D No k)=>h.mono (D':=λ_=>True) (E':=No) (λ_ _=>trivial) (λ_ e=>e) (Nat.le_refl _);refine ((((((((h1 ak).trans (h1 aa)).trans (h1 ac)).trans (h1 ae)).trans (h1 X)).trans (h1 U)).trans (h1 aE)).trans (h1 aq)).mono (λ_ e=>e) (λ_ e=>e) ?_;rw [H,J,C];omega
 refine r4_ ?_;refine kw_ [0,1,2,6,7,8,9,26,10,12,43,13,14,54,15,63,16,17,77,82,18,91,97] ?_;refine s1_ ?_;refine ⟨_,bB,⟨_,_,rfl,⟨_,_,rfl,rfl,rfl⟩,rfl⟩,zae,?_⟩;exact ⟨_,rfl,bZ,aO,bN,by rw [<- w2];exact bI,bK,aw⟩
end
end Sto
end
section
open Go.RowKit
open Mv Disk Num
namespace Top
open Rec Sto Run
theorem zbK {l:List Nat} (h:∀ n ∈ l,n<Num.top):(oneL l).all (rowOK 1)=true:=by
 rw [List.all_eq_true];intro x A;obtain ⟨n,C,rfl⟩:=List.mem_map.1 A;unfold rowOK recOK;simp only [List.length_cons,List.length_nil,List.all_cons,List.all_nil,Bool.and_true,Bool.and_eq_true,decide_eq_true_eq];exact ⟨⟨by decide,h n C⟩,trivial⟩
theorem zuw {l:List Nat} (h:∀ n ∈ l,n<Num.top):∀ x ∈ oneL l,∀ n ∈ x,n<18446744073709551616:=λx A n H=>by
 obtain ⟨z,C,rfl⟩:=List.mem_map.1 A;rw [List.mem_singleton.1 H];exact Nat.lt_of_lt_of_le (h z C) (by decide)
theorem zux {l:List Nat} (h:l.length<=4096):∀ n ∈ Skew.red l,n<Num.top:=λn A=>Nat.lt_of_le_of_lt (Skew.zs1 l n A) (Nat.lt_of_le_of_lt (show Skew.numP l.length<=4096 from by rw [Skew.zdR];have:=Skew.zdg l.length;omega) (by decide))
theorem zuy {l:List Nat} (h:∀ n ∈ l,n<Num.top) (V:l.length<=60):∃ z,writeP (freshD 500) nA ((1:Nat):Int) (oneL l)=(z,0)/\Dw z 0/\(used z.ext:Int)+160<=z.size/\(∀ t,0<Sto.ns z t <-> t ∈ [nA])/\FileR z nA 1 (oneL l).length (bs ((oneL l).flatMap recB)):=by
 obtain ⟨z,J,H,I,U,Q,A⟩:=zmv (n:=500) (s:=nA) (w:=1) (l:=oneL l) (by decide) (by decide) (by decide) (by decide) (by decide) (zbK h) (by rw [zaO];omega);refine ⟨z,J,H,?_,λt=>?_,A⟩
 ·rw [I,U,zaO];have:=zke (w:=1) (c:=l.length) (by decide);omega
 rw [List.mem_singleton];refine ⟨λC=>?_,λe=>?_⟩
 ·refine Classical.byContradiction λe=>?_;rw [Q t e] at C;exact absurd C (Nat.lt_irrefl 0)
 subst e;exact (zoS (m:=24) H A (by rw [zaJ,zef (by decide) (zg4 (zbK h))])).pos
end Top
end
section
open Go.RowKit
open Mv Disk Num
namespace Sto
theorem maxI {P:tz} {N:Nat} {E:Env} {S:Mem} {dst:Option Nat} {ty:tx} {pos:String} {aft:Array Edge} {gd:Option (Nat × Bool)} {x y:tw} {i j:Int} {A:Array tx} (H:ev E x=some (.int .i64 i)) (C:ev E y=some (.int .i64 j)):ACalm P N ⟨dst,.call ⟨.builtin .max,#[x,y],A⟩,ty,pos,aft,gd⟩ E S (.int .i64 (max i j)):=by
 rcases Int.le_total i j with h | h
 ·rw [show max i j=j from Int.max_eq_right h];exact uO H C h
 rw [show max i j=i from Int.max_eq_left h];exact uR H C h
theorem zwv (S:Mem) (a p b c wk:Nat) (u:W5) (tm:tu) (x:Pl) (n:Nat) (T:Mem) (h:ArS S a p b c x T) (hw:S.own wk=some (wkB a u tm)) (hp:Ps x n) :
  ACall prog 26 #[self wk,.nilIface] T λr T'=>∃ v c1 c2 c3,r = .tuple #[v,.agg #[.int .u64 c1,.int .u64 c2,.int .i64 c3],.int .i64 0]/\DkR T' v x.d/\T.Less T':=by
 have J:=zah h hw;unfold wkB at J;obtain ⟨i,oE,oW,ok,rfl⟩:=h;have U:=ok.rd (zeP hp) i;have I:=zbf (M:=devM S p x.d oE oW) (a:=a) (p:=p) (b:=b) (c:=c) (x:=x) (k:=i);generalize arM (devM S p x.d oE oW) a p b c x i=T at *;obtain ⟨W,de,qw,dw,Q,hE,X⟩:=U;unfold arB at I;refine k_E2 90 func26 ?_;refine r2_ ?_;refine ARun.alloc (zab rfl) zaC ?_;intro b4 f4;have A:=f4
 repeat ((with_reducible replace A:=zaa A);obtain ⟨A,_⟩:=A)
 have:=A.ne J;have:=A.ne' J
 have:=A.ne I;have:=A.ne' I
 have:=A.ne Q;have:=A.ne' Q
 refine nl_ ?_;refine ARun.alloc (zab rfl) zcB ?_;intro b5 f5;have C:=f5
 repeat ((with_reducible replace C:=zaa C);obtain ⟨C,_⟩:=C)
 have:=C.ne J;have:=C.ne' J
 have:=C.ne I;have:=C.ne' I
 have:=C.ne Q;have:=C.ne' Q
 refine nl_ ?_;refine r11_ ?_;refine rC (vi rfl rfl (zdO underlying117)) ?_;refine r3_ ?_;refine cF_ ?_;refine r3_ ?_;refine rC (vi rfl rfl Er.neNil) ?_;refine r2_ ?_
 first|refine k_q 24 ?_|refine rG 24 (Calm.mkI (by kernel_rfl) rfl) ?_
 refine r6_ ?_;refine cF_ ?_;refine r4_ ?_;refine dr_ [i0_,i1_,i2_,i3_,i4_,i5_,i6_,i7_,i8_,i9_,i10_,i11_,i12_,i13_,i14_,i15_,i16_,i17_,i18_,i19_,i20_,i21_,i22_,i23_,i24_,i25_,i26_,i27_,i28_,i29_,i30_,i31_,i32_,i33_,i34_,i35_,i36_,i37_,i38_,i39_,o40_,o41_] [41] ?_;refine r38_ ?_;refine dC (hc:=maxI rfl rfl) (h:=?_);refine s1_ ?_;refine zac rfl ?_;refine ARun.alloc (zab rfl) zcB ?_;intro Y V;have H:=V
 repeat ((with_reducible replace H:=zaa H);obtain ⟨H,_⟩:=H)
 have:=H.ne J;have:=H.ne' J
 have:=H.ne I;have:=H.ne' I
 have:=H.ne Q;have:=H.ne' Q
 refine nl_ ?_;refine zad ⟨ny_,?_⟩;refine zac rfl ?_;refine s1_ ?_;refine zad ⟨nz_,?_⟩;refine r3_ ?_;refine AWP.drawS (T.set Y ⟨36,[.int .u64 (IntKind.u64.wrap (x.reads+0)),.int .u64 (IntKind.u64.wrap (x.writes+0)),.int .i64 (max i 0)],3⟩) zae [i0_,i1_,i2_,i3_,i4_,i5_,i6_,i7_,i8_,i9_,i10_,i11_,o12_,o13_,o14_,i15_] [] mixed (by kernel_rfl) ?_;refine r12_ ?_;refine zac rfl ?_;refine cp_ rfl (zoX _) ?_;refine zad ⟨ny_,?_⟩;refine zac rfl ?_;refine s1_ ?_;refine zad ⟨ny_,?_⟩;refine zac rfl ?_;refine s1_ ?_;refine zad ⟨ny_,?_⟩;refine r4_ ?_;refine ⟨_,_,⟨_,_,_,rfl,.inr ⟨zax,[_,_,_,_,_],zar,rds_,rfl⟩,⟨_,_,_,rfl,.inr ⟨zfD,[_,_,_],zeB,rds_,rfl⟩,⟨_,_,rfl,rfl,rfl⟩,rfl⟩,rfl⟩,Mem.Less.refl _,?_⟩;exact ⟨_,_,_,_,rfl,⟨W,de,qw,dw,rfl,hE.less zae,X.less zae⟩,zae⟩
end Sto
end
section
open Go.RowKit
open Mv Disk Num
namespace Sto
open Skew (red)
theorem zrX {S T:Mem} {a p b m wk:Nat} {u:W5} {d:D} {L:List tt} (h:ArS S a p b m (newP d m) T) (Q:S.own wk=some (wkB a u (.slice none 0 0))) (hd:Dw d 0) (A:1<=m) (C:m<=256) {K:Mem} (I:K.Less S) (H:K.own wk=none) (J:∀ t,0<Sto.ns d t <-> t ∈ L):NmS K a p b m wk u m S T (newP d m) none [] L :=
 ⟨h,zrt hd A C,λj _=>by rw [zeQ];rfl,λt=>zt6 d m t,zv6 d m,zee d m,⟨Q,Gro.empty _ _⟩,I,H,λ_ _ e=>(by cases e),J⟩
theorem zpu (v:tu) (d:D) (fn s:tt) (l:List Nat) (S:Mem) (eu:tx) (ev:tu) (aB:DkR S v d) (hz:Dz d) (ho:openD d=(d,0)) (hd:Dw d 0) (hF:Rec.FileR d fn 1 (oneL l).length (bs ((oneL l).flatMap recB))) (hr:RowsOK 1 (oneL l)) (hl:∀ z ∈ l,1<=z/\z<Num.top) (hc:l.length<=60) (a6:fn.size<5) (aO:s.size<5) (a5:fn≠s) (bb:nm s) (aW:∀ t,0<Sto.ns d t <-> t ∈ [fn]) (ah:(used d.ext:Int)+160<=d.size) (hE:S.Knows ⟨1,0,none⟩ [.iface eu ev]) :
  ACall prog 8 #[v,.int .i64 24,.string fn,.string s] S λr T=>∃ (dv:tu) (y:Pl) (nn:Nat) (c1 c2 c3:Int),r = .tuple #[dv,.int .u64 nn,.agg #[.int .u64 c1,.int .u64 c2,.int .i64 c3],.int .i64 0]/\S.Less T/\DkR T dv (Pl.d y)/\Dw y.d 0/\Rec.FileR y.d s 1 (red l).length (bs ((oneL (red l)).flatMap recB)):=by
 have hH:=zoS (m:=24) hd hF (by rw [zaJ,zef (by decide) hr]);rw [bs_data] at hH;have hb:=λM h=>zrx v d 24 M (DkR.less aB h) hz ho (by decide) (by decide);obtain ⟨pe,ce,pw,cw,rfl,_,_⟩:=id aB;refine k_E4 46 func8 ?_;refine r2_ ?_;refine k_b5 rfl ?_;intro b4 f4;have g4:=f4
 repeat ((with_reducible replace g4:=zaa g4);obtain ⟨g4,_⟩:=g4)
 refine nl_ ?_;refine vB (zab rfl) rfl rfl ?_;intro b7 f7;have g7:=f7
 repeat ((with_reducible replace g7:=zaa g7);obtain ⟨g7,_⟩:=g7)
 refine nl_ ?_;refine ARun.alloc (zab rfl) zaC ?_;intro b8 f8;have g8:=f8
 repeat ((with_reducible replace g8:=zaa g8);obtain ⟨g8,_⟩:=g8)
 refine nl_ ?_;refine s1_ ?_;refine ARun.alloc (zab rfl) zcB ?_;intro ai aw;have J:=aw
 repeat ((with_reducible replace J:=zaa J);obtain ⟨J,_⟩:=J)
 refine nl_ ?_;refine r7_ ?_;refine ca_ rfl (((hb _ ((vh S b4 _ f4.1).trans (vh _ b7 _ f7.1))).frame (r:=⟨31,[.int .i64 0,.slice none 0 0,.slice none 0 0,.int .i64 0,.bool false],5⟩) f8).frame (r:=⟨36,[.int .u64 0,.int .u64 0,.int .i64 0],3⟩) aw) ?_;rintro _ S1 ⟨Sa,⟨T1,⟨S0,wk,a,p,b,u,rfl,aX,aj,hA⟩,aZ,A⟩,aa,H⟩;rw [H,A];rw [A] at aa;clear H S1 A Sa;refine r3_ ?_;refine ARun.alloc (zab rfl) zlT ?_;intro C aA;have U:=aA
 repeat ((with_reducible replace U:=zaa U);obtain ⟨U,_⟩:=U)
 refine nl_ ?_;refine r4_ ?_;obtain ⟨aU,ad⟩:=zaa aA;obtain ⟨aR,al⟩:=zaa aU;obtain ⟨j1,j2⟩:=zaz hA aR ⟨68,[self wk],1⟩;have aV:Fresh (T1.set C ⟨68,[self wk],1⟩) b8:=zam aZ (Ne.symm al);obtain ⟨ax,am⟩:=zaa aa;have au:Fresh ((T1.set C ⟨68,[self wk],1⟩).set b8 ⟨31,[.int .i64 0,.slice none 0 0,.slice none 0 0,.int .i64 0,.bool false],5⟩) ai:=zam (zam ax (Ne.symm ad)) am;refine AWP.less (((T1.set C ⟨68,[self wk],1⟩).set b8 ⟨31,[.int .i64 0,.slice none 0 0,.slice none 0 0,.int .i64 0,.bool false],5⟩).set ai ⟨36,[.int .u64 0,.int .u64 0,.int .i64 0],3⟩) (by rw [vC _ _ _ al,vC _ _ _ ad];exact Mem.Less.refl _) ?_;have ac:wk≠C:=j1.ne (vf S0 wk (wkB a u (.slice none 0 0)));have az:=(Mv.Less.set (vh S b4 _ f4.1) b7 ⟨9,[.string s],1⟩).trans aX;have a2:=zaj az aj.1;have ao:=az.trans (vh S0 wk (wkB a u (.slice none 0 0)) aj.1);have ak:=zaj ao j1.1;have an:S.own b7=none:=zaj (vh S b4 _ f4.1) f7.1;have av:=(vh S b7 ⟨9,[.string s],1⟩ an).trans (vh (S.set b7 ⟨9,[.string s],1⟩) C ⟨68,[self wk],1⟩ ak);have a7:=(vh (S.set b7 ⟨9,[.string s],1⟩) C ⟨68,[self wk],1⟩ ak).own (vf S b7 ⟨9,[.string s],1⟩);have hN:=zrX (L:=[fn]) j2 ((vg _ _ ac).trans (vf _ _ _)) hd (by decide) (by decide) (K:=(S.set b7 ⟨9,[.string s],1⟩).set C ⟨68,[self wk],1⟩) (Mv.Less.set ao C _) ((vg _ _ ac).trans a2) aW;have bc:=((zuv hN (vf _ C ⟨68,[self wk],1⟩) a7 bb a6 aO a5 hH hl hc ah (hE.less av)).frame (r:=⟨31,[.int .i64 0,.slice none 0 0,.slice none 0 0,.int .i64 0,.bool false],5⟩) aV).frame (r:=⟨36,[.int .u64 0,.int .u64 0,.int .i64 0],3⟩) au;refine r9_ ?_;refine rC (vi rfl rfl Er.eqNil) ?_;refine r2_ ?_;refine cT_ ?_;refine r4_ ?_;refine ca_ rfl (bc) ?_;rintro _ S1 ⟨Sa,⟨T2,⟨nn,rfl,Z,y,o2,Q,bq,aQ⟩,ag,A⟩,I,H⟩;rw [H,A];rw [A] at I;clear H S1 A Sa;have W:=zah Q.ar (Q.kb.own (vf _ C ⟨68,[self wk],1⟩));obtain ⟨bi,be⟩:=zaa I;have bj:=(vg (T2.set b8 ⟨31,[.int .i64 0,.slice none 0 0,.slice none 0 0,.int .i64 0,.bool false],5⟩) ⟨36,[.int .u64 0,.int .u64 0,.int .i64 0],3⟩ (I.ne ((vg T2 _ (ag.ne W)).trans W))).trans ((vg T2 _ (ag.ne W)).trans W);refine r11_ ?_;refine ca_ rfl (((zwv Z a p b 24 wk u _ y 0 T2 Q.ar Q.wo.own Q.ps).frame (r:=⟨31,[.int .i64 0,.slice none 0 0,.slice none 0 0,.int .i64 0,.bool false],5⟩) ag).frame (r:=⟨36,[.int .u64 0,.int .u64 0,.int .i64 0],3⟩) I) ?_;rintro _ S1 ⟨Sa,⟨T3,⟨dv,c1,c2,c3,rfl,Y,a8⟩,bv,A⟩,af,H⟩;rw [H,A];rw [A] at af;clear H S1 A Sa;obtain ⟨a9,a3,ba,a1,rfl,_,_⟩:=id Y;obtain ⟨J,_⟩:=zaa af;refine r4_ ?_;refine ARun.alloc (zab rfl) zaC ?_;intro bd aM;have V:=aM
 repeat ((with_reducible replace V:=zaa V);obtain ⟨V,_⟩:=V)
 refine nl_ ?_;refine ARun.alloc (zab rfl) zcB ?_;intro aN aP;have X:=aP
 repeat ((with_reducible replace X:=zaa X);obtain ⟨X,_⟩:=X)
 refine nl_ ?_;refine r12_ ?_;refine kw_ [0,1,2,3,4,7,8,9,10,11,12,13,14,25,15,16,17,41] ?_;refine cF_ ?_;refine r3_ ?_;refine AWP.drawS ((T3.set bd ⟨31,[.int .i64 y.d.size,.slice a9 y.d.ext.length a3,.slice ba y.d.waits.length a1,.int .i64 y.d.fuse,.bool y.d.down],5⟩).set aN ⟨36,[.int .u64 c1,.int .u64 c2,.int .i64 c3],3⟩) zae [i0_,i1_,i2_,i3_,o4_,i5_,o6_,i7_] [] mixed (by kernel_rfl) ?_;refine r4_ ?_;refine zac rfl ?_;refine s1_ ?_;refine zad ⟨ny_,?_⟩;refine s1_ ?_;refine zac rfl ?_;refine s1_ ?_;refine zad ⟨ny_,?_⟩;refine r4_ ?_;refine ⟨_,_,⟨_,_,_,rfl,.inr ⟨zax,[_,_,_,_,_],zar,rds_,rfl⟩,⟨_,_,rfl,⟨_,_,_,rfl,.inr ⟨zfD,[_,_,_],zeB,rds_,rfl⟩,⟨_,_,rfl,rfl,rfl⟩,rfl⟩,rfl⟩,rfl⟩,Mem.Less.refl _,?_⟩;exact ⟨_,y,nn,c1,c2,c3,rfl,((av.trans Q.kb).trans ((zbb Q.ar).trans a8)).trans zae,Y.less zae,Q.ps.d,zhN Q.ps Q.cl aQ⟩
end Sto
end
section
open Go.RowKit
open Mv Num
def i64n (k:Nat):List tu:=[.int .i64 (k:Int)]
abbrev IdxR (S:Mem) (v:tu) (l:List Nat):Prop:=Sl 1 i64n S v l
theorem zi9 (S S':Mem) (v:tu) (l:List Nat) (h:IdxR S v l) (A:S.Less S'):IdxR S' v l:=h.less A
theorem zh2 {S:Mem} {v:tu} {l:List Nat} (h:IdxR S v l):Sl 1 i64s S v (l.map (λk:Nat=>(k:Int))):=by
 obtain ⟨a,cap,rfl,C,I,A⟩:=h;refine ⟨a,cap,by rw [List.length_map],by rw [List.length_map];exact C,by rw [List.length_map];exact I,?_⟩;rcases A with h | ⟨b,off,e,H⟩
 ·exact .inl (by rw [h];rfl)
 refine .inr ⟨b,off,e,λi hi=>?_⟩;rw [List.getElem_map];exact H i (by rw [List.length_map] at hi;exact hi)
theorem zrY {S:Mem} {v:tu} {l:List Nat} (h:Sl 1 i64s S v (l.map (λk:Nat=>(k:Int)))):IdxR S v l:=Sl.map (λk:Nat=>(k:Int)) (λ_=>rfl) h
theorem zdj (x y:Nat) (S:Mem):ACall prog 87 #[.int .u64 x,.int .u64 y] S λr S'=>r = .int .i64 (if x<y then -1 else if y<x then 1 else 0)/\S'=S:=zq3 x y S
theorem zs7 (x:Int) (S:Mem):ACall prog 144 #[.int .i64 x] S λr S'=>r = .bool false/\S'=S:=by
 refine k_E1 6 func144 ?_;refine r14_ ?_;refine ⟨_,S,⟨_,_,rfl,rfl,rfl⟩,zae,?_⟩;exact ⟨rfl,rfl⟩
def cmpZ (x y:Int):Int:=if x<y then -1 else if y<x then 1 else 0
theorem zej (x y:Int):cmpZ x y<0 <-> x<y:=by unfold cmpZ;split <;> (try split) <;> omega
theorem zek (x y:Int):cmpZ x y=0 <-> x=y:=by unfold cmpZ;split <;> (try split) <;> omega
theorem zg_ (x y:Int) (S:Mem):ACall prog 88 #[.int .i64 x,.int .i64 y] S λr S'=>r = .int .i64 (cmpZ x y)/\S'=S:=by
 unfold cmpZ;refine k_E2 20 func88 ?_;refine r8_ ?_;refine cp_ rfl (zs7 x S) ?_;refine r6_ ?_;refine cp_ rfl (zs7 y S) ?_;refine r9_ ?_;refine cF_ ?_;refine r8_ ?_;refine cF_ ?_;by_cases A:x<y
 ·refine r10_ ?_;refine cT_ ?_;refine r7_ ?_;refine ⟨_,S,⟨_,_,rfl,rfl,rfl⟩,zae,?_⟩;exact ⟨by rw [if_pos A];rfl,rfl⟩
 refine r10_ ?_;refine cF_ ?_;by_cases C:y<x
 ·refine r10_ ?_;refine kw_ [0,1,4,5,6,11,13,16,19] ?_;refine cT_ ?_;refine r7_ ?_;refine ⟨_,S,⟨_,_,rfl,rfl,rfl⟩,zae,?_⟩;exact ⟨by rw [if_neg A,if_pos C];rfl,rfl⟩
 refine r10_ ?_;refine cF_ ?_;refine r8_ ?_;refine ⟨_,S,⟨_,_,rfl,rfl,rfl⟩,zae,?_⟩;exact ⟨by rw [if_neg A,if_neg C];rfl,rfl⟩
def orL:List Int->Int
  | []=>0
  | x :: l=>if x=0 then orL l else x
theorem zpv (v:tu) (l:List Int) (S:Mem) (h:Sl 1 i64s S v l):ACall prog 86 #[v] S λr S'=>r = .int .i64 (orL l)/\S'=S:=by
 obtain ⟨a,cap,rfl,U,Q,H⟩:=id h;refine k_E1 18 func86 ?_;refine r19_ ?_;refine AWP.loop (X:=Nat) (λx=>[(0,.slice a l.length cap),(3,.int .i64 0),(6,.slice a l.length cap),(7,.int .i64 l.length),(8,.int .i64 x)]) (λx=>S) (λx=>x<=l.length/\orL (l.drop x)=orL l) (λx=>l.length-x) (0) ⟨rfl,rfl,rfl,rfl,rfl,trivial⟩ (Mem.Less.refl _) (⟨Nat.zero_le _,rfl⟩) ?_;rintro i ⟨hi,A⟩;(try dsimp only at *);refine r6_ ?_;refine vp rfl (λhc=>?_) (λhc=>?_)
 ·have hc:i<l.length:=by have:=of_decide_eq_true hc;omega
  obtain ⟨b,off,rfl,J⟩:=H.resolve_left (λe=>by subst e;simp at hc);have I:=J i hc;rw [List.drop_eq_getElem_cons hc,orL] at A;by_cases C:l[i]=0
  ·refine r11_ ?_;refine r7_ ?_;refine cF_ ?_;refine r8_ ?_;refine ⟨i+1,?_,?_,?_,?_⟩<;>try dsimp only
   ·exact ⟨rfl,rfl,rfl,rfl,rfl,trivial⟩
   ·exact zae
   ·exact ⟨hc,by rw [if_pos C] at A;exact A⟩
   omega
  refine r11_ ?_;refine r7_ ?_;refine cT_ ?_;refine r6_ ?_;refine kw_ [0,3,6,7,8,9,5,14,2] ?_;refine r6_ ?_;refine ⟨_,S,⟨_,_,rfl,rfl,rfl⟩,zae,?_⟩;exact ⟨by rw [<- A,if_neg C];rfl,rfl⟩
 have hc:i=l.length:=by have:=of_decide_eq_false hc;omega
 refine r12_ ?_;refine ⟨_,S,⟨_,_,rfl,rfl,rfl⟩,zae,?_⟩;exact ⟨by rw [<- A,List.drop_eq_nil_of_le vd];rfl,rfl⟩
theorem zgo (a b:List Int) (va vb:tu) (S:Mem) (ha:Sl 1 i64s S va a) (hb:Sl 1 i64s S vb b) :
  ACall prog 12 #[va,vb] S λr S'=>r = .bool (decide (a=b))/\S'=S:=by
 obtain ⟨pa,ca,rfl,al,ao,W⟩:=ha;obtain ⟨pb,cb,rfl,ay,ah,V⟩:=hb;by_cases A:a.length=b.length
 ·have I:=A;refine k_E2 26 func12 ?_;refine r15_ ?_;refine cF_ ?_;refine r11_ ?_;refine AWP.loop (X:=Nat) (λx=>[(0,.slice pa a.length ca),(1,.slice pb b.length cb),(12,.int .i64 a.length),(13,.int .i64 x)]) (λx=>S) (λx=>x<=a.length /\ ∀ j (hj:j<a.length) (J:j<b.length),j<x->a[j]=b[j]) (λx=>a.length-x) (0) ⟨rfl,rfl,rfl,rfl,trivial⟩ (Mem.Less.refl _) (⟨Nat.zero_le _,λ_ _ _ h=>absurd h (Nat.not_lt_zero _)⟩) ?_;rintro i ⟨am,hq⟩;(try dsimp only at *);refine r6_ ?_;refine vp rfl (λC=>?_) (λC=>?_)
  ·have C:i<a.length:=(by have:=of_decide_eq_true C;omega);have H:i<b.length:=(by omega);obtain ⟨b0,off,rfl,U⟩:=W.resolve_left (by intro h;rw [h] at C;exact absurd C (Nat.not_lt_zero _));obtain ⟨b1,aa,rfl,Q⟩:=V.resolve_left (by intro h;rw [h] at H;exact absurd H (Nat.not_lt_zero _));have aw:=U i C;have ad:=Q i H;by_cases Y:a[i]=b[i]
   ·refine r10_ ?_;refine s1_ ?_;refine dr_ [i0_,i1_,i2_,i3_,i4_,i5_,i6_,i7_,i8_] [] ?_;refine r11_ ?_;refine cF_ ?_;refine r8_ ?_;refine ⟨i+1,?_,?_,?_,?_⟩<;>try dsimp only
    ·exact ⟨rfl,rfl,rfl,rfl,trivial⟩
    ·exact Mem.Less.refl _
    ·exact ⟨C,λj hj J ax=>by rcases Nat.lt_or_ge j i with h | h;exact hq j hj J h;obtain rfl:j=i:=vd;exact Y⟩
    omega
   refine r10_ ?_;refine kw_ [0,1,12,13,14,5] ?_;refine s1_ ?_;refine dr_ [i0_,i1_,i2_,i3_,i4_,i5_,i6_,i7_,i8_] [] ?_;refine r11_ ?_;refine cT_ ?_;refine r11_ ?_;refine ⟨_,S,⟨_,_,rfl,rfl,rfl⟩,zae,?_⟩;exact ⟨by rw [decide_eq_false (λe=>Y (by subst e;rfl))];rfl,rfl⟩
  have C:i=a.length:=by have:=of_decide_eq_false C;omega
  refine r11_ ?_;refine ⟨_,S,⟨_,_,rfl,rfl,rfl⟩,zae,?_⟩;exact ⟨by rw [decide_eq_true (List.ext_getElem A λj h1 h2=>hq j h1 h2 vd)];rfl,rfl⟩
 have I:=A;refine k_E2 26 func12 ?_;refine r15_ ?_;refine cT_ ?_;refine r7_ ?_;refine ⟨_,S,⟨_,_,rfl,rfl,rfl⟩,zae,?_⟩;exact ⟨by rw [decide_eq_false (λe=>A (by rw [e]))];rfl,rfl⟩
def gI (k:Nat):tu:=.int .i64 (k:Int)
def gU (k:Nat):tu:=.int .u64 (k:Int)
def gZ (x:Int):tu:=.int .i64 x
theorem zal {α : Type} (l:List α) (i:Nat) (z : α) (h:i<l.length):l.getD i z=l[i]:=by rw [List.getD_eq_getElem?_getD,List.getElem?_eq_getElem h];rfl
def cmpU (x y:Nat):Int:=if x<y then -1 else if y<x then 1 else 0
theorem zfr (x y:Nat):cmpU x y<0 <-> x<y:=by unfold cmpU;split <;> (try split) <;> omega
theorem zel (x y:Nat):cmpU x y=0 <-> x=y:=by unfold cmpU;split <;> (try split) <;> omega
theorem zh3 {S:Mem} {b:Nat} {T:tx} {x y:Int} (h:S.own b=some ⟨T,[.int .i64 x,.int .i64 y],2⟩):Sl 1 i64s S (.slice (some ⟨b,0,none⟩) 2 2) [x,y]:=vN (g:=gZ) (l:=[x,y]) h List.prefix_rfl rfl (Nat.le_refl _) (by decide)
theorem zuz {S:Mem} {b:Nat} {T:tx} {x y z:Int} (h:S.own b=some ⟨T,[.int .i64 x,.int .i64 y,.int .i64 z],3⟩):Sl 1 i64s S (.slice (some ⟨b,0,none⟩) 3 3) [x,y,z]:=vN (g:=gZ) (l:=[x,y,z]) h List.prefix_rfl rfl (Nat.le_refl _) (by decide)
theorem zww (x y:Nat) (h:x*y<18446744073709551616) (C:x<18446744073709551616) (A:y<18446744073709551616) (S:Mem):ACall prog 155 #[.int .u64 (x:Int),.int .u64 (y:Int)] S λr S'=>r = .tuple #[.int .u64 0,.int .u64 ((x*y:Nat):Int)]/\S'=S:=by
 refine uq λw=>?_;have e:=Tryz.bits_Mul x y C A w;rw [Nat.div_eq_of_lt h,Nat.mod_eq_of_lt h] at e;exact e
theorem zpw (k n q:Nat) (a z:Int) (C:k<=n) (A:k+q<=n):spl ((List.replicate k a ++ List.replicate (n-k) z).map gZ) k ((List.replicate q a).map gZ)=(List.replicate (k+q) a ++ List.replicate (n-(k+q)) z).map gZ:=by
 unfold spl;simp only [List.map_append,List.map_replicate,List.length_replicate];rw [List.take_append_of_le_length (by simp),List.take_of_length_le (by simp),List.drop_append,List.drop_of_length_le (by simp),List.nil_append,List.drop_replicate,List.length_replicate,List.append_assoc,<- List.append_assoc,List.replicate_append_replicate];congr 2;omega
theorem zuA {a:Int} {n j:Nat} {v:tu} (h:((List.replicate (min 1 n) a).map gZ)[j]?=some v) : [Value.int .i64 a][j]?=some v:=by
 obtain ⟨A,e⟩:=List.getElem?_eq_some_iff.1 h;have C:j=0:=by simp at A;omega
 subst C;simp at e;rw [<- e];rfl
theorem zwx {a z:Int} {q k n j:Nat} {v:tu} (h:((List.replicate q a).map gZ)[j]?=some v) (C:q<=k):((List.replicate k a ++ List.replicate (n-k) z).map gZ)[j]?=some v:=by
 obtain ⟨A,e⟩:=List.getElem?_eq_some_iff.1 h;simp at A e;rw [List.map_append,List.getElem?_append_left (by simp;omega),List.getElem?_map,List.getElem?_replicate,if_pos vd,<- e];rfl
theorem zpx (bx:Nat) (U:Int) (n:Nat) (a:Int) (T:tx) (S:Mem) (Y:U=n) (hn:n<=17592186043904) (Q:S.own bx=some ⟨T,[.int .i64 a],1⟩) :
  ACall prog 142 #[.slice (some ⟨bx,0,none⟩) 1 1,.int .i64 U] S (NewL gZ 3 (List.replicate n a) S):=by
 subst Y;refine k_E2 48 func142 ?_;refine r12_ ?_;refine cF_ ?_;refine r9_ ?_;refine cp_ rfl (zww 1 n vd vd vd _) ?_;rw [Nat.one_mul];refine r18_ ?_;refine cF_ ?_;have V:madeL [Value.int .i64 0] ((n:Int).toNat*1)=(List.replicate 0 a ++ List.replicate (n-0) 0).map gZ:=by rw [Int.toNat_natCast,Nat.mul_one,zaT,List.replicate_zero,List.nil_append,Nat.sub_zero,List.map_replicate];rfl
 refine r6_ ?_;refine ARun.makeSlice (zab rfl) zat rfl rfl vd vd vd vd ?_;intro C H;have A:=H
 repeat ((with_reducible replace A:=zaa A);obtain ⟨A,_⟩:=A)
 have:=A.ne Q;have:=A.ne' Q
 refine r7_ ?_;rw [V,Int.toNat_natCast,Nat.mul_one];refine vU (n:=1) (q:=min 1 n) (news:=(List.replicate (min 1 n) a).map gZ) (zab rfl) zat rfl (vf _ _ _) (Nat.zero_le _) rfl rfl (vA (r:=⟨T,[.int .i64 a],1⟩) own_ 0 _ (λj v I=>by rw [Nat.zero_add];exact zuA I)) (by simp) (λv J=>by obtain ⟨y,_,rfl⟩:=List.mem_map.1 J;rfl) (.inl (by simp only [List.length_map,List.length_append,List.length_replicate];omega)) ?_;rw [zpw 0 n (min 1 n) a 0 (Nat.zero_le _) vd,Nat.zero_add,Mem.set_set];refine r3_ ?_;refine kw_ [0,1,4,10,5,6,26,7,8] ?_;refine r2_ ?_;refine AWP.loop (X:=Nat) (λk=>[(7,.slice (some ⟨C,0,none⟩) n n),(8,.int .i64 k)]) (λk=>S.set C ⟨3,(List.replicate k a ++ List.replicate (n-k) 0).map gZ,n⟩) (λk=>min 1 n<=k/\k<=n) (λk=>n-k) (min 1 n) ⟨sq_,sq_,trivial⟩ (Mem.Less.refl _) (⟨Nat.le_refl _,by omega⟩) ?_;rintro k ⟨h1,W⟩;(try dsimp only at *);by_cases hk:k<n
 ·refine r9_ ?_;refine cT_ ?_;refine r3_ ?_;refine dr_ [i0_,i1_,i2_,i3_,i4_,i5_,i6_,o7_,i8_,i9_] [7] ?_;refine r3_ ?_;refine dP (hc:=λ_=>vE k underlying41 zbk rfl rfl rfl vd vd) (h:=?_);refine r3_ ?_;refine zac rfl ?_;refine vU (n:=1) (q:=min k (n-k)) (news:=(List.replicate (min k (n-k)) a).map gZ) (zab rfl) zat rfl (vf _ _ _) (by simp only [List.length_map,List.length_append,List.length_replicate];omega) rfl vd (vA (vf _ _ _) 0 _ (λj v I=>by rw [Nat.zero_add];exact zwx I vd)) (by simp) (λv J=>by obtain ⟨y,_,rfl⟩:=List.mem_map.1 J;rfl) (.inl (by simp only [List.length_map,List.length_append,List.length_replicate];omega)) ?_;rw [show 0+k*1=k by omega,zpw k n (min k (n-k)) a 0 W vd,Mem.set_set];refine zad ⟨nz_,?_⟩;refine r5_ ?_;refine ⟨k+min k (n-k),?_,?_,?_,?_⟩<;>try dsimp only
  ·exact ⟨sq_,sq_,trivial⟩
  ·exact Mem.Less.refl _
  ·exact ⟨by omega,by omega⟩
  omega
 refine r9_ ?_;refine cF_ ?_;obtain rfl:k=n:=by omega
 rw [Nat.sub_self,List.replicate_zero,List.append_nil];refine r12_ ?_;refine ⟨_,_,⟨_,_,rfl,rfl,rfl⟩,Mem.Less.refl _,?_⟩;exact ⟨some (C,k),zbE H (by simp),by simp [outV,Mv.one],rfl⟩
/-! ### Where each number is -/
theorem zpy:∀ (n:Nat) (l:List Nat),l.Nodup->(∀ x ∈ l,x<n)->l.length<=n
 | 0,l,_,h=>by
  cases l with
  | nil=>exact Nat.le_refl _
  | cons x l=>exact absurd (h x (List.mem_cons_self ..)) (Nat.not_lt_zero _)
 | n+1,l,hn,h=>by
  by_cases C:n ∈ l
  ·have:=zpy n (l.erase n) (hn.erase n) λx A=>by
    have H:=h x (List.mem_of_mem_erase A);have I:x≠n:=λe=>(by subst e;exact absurd A (List.Nodup.not_mem_erase hn));omega
   rw [List.length_erase_of_mem C] at this;omega
  have:=zpy n l hn λx A=>by
   have H:=h x A;have I:x≠n:=λe=>(by subst e;exact C A);omega
  omega
theorem pig:∀ (n:Nat) (l:List Nat),l.Nodup->(∀ x ∈ l,x<n)->l.length=n->l.Perm (List.range n)
 | 0,l,_,_,hl=>by rw [List.length_eq_zero_iff.1 hl];exact List.Perm.refl _
 | n+1,l,hn,h,hl=>by
  by_cases C:n ∈ l
  ·have:=pig n (l.erase n) (hn.erase n) (λx A=>by
    have H:=h x (List.mem_of_mem_erase A);have I:x≠n:=λe=>(by subst e;exact absurd A (List.Nodup.not_mem_erase hn));omega) (by rw [List.length_erase_of_mem C];omega)
   refine (List.perm_cons_erase C).trans ?_;rw [List.range_succ];exact (this.cons n).trans (List.perm_append_singleton n _).symm
  have:=zpy n l hn λx A=>by
   have H:=h x A;have I:x≠n:=λe=>(by subst e;exact C A);omega
  omega
def GoodE (l:List Int):Prop:=∃ e:List Nat,l=e.map (λk:Nat=>(k:Int))/\e.Perm (List.range l.length)
def InvOf (l:List Int) (x:List Int):Prop:=x.length=l.length /\ ∀ j (h:j<l.length),x.getD (l[j]).toNat 0=(j:Int)
structure InvI (l:List Int) (i:Nat) (x:List Int):Prop where
  len:x.length=l.length
  rng:∀ j (h:j<l.length),j<i->0<=l[j]/\l[j]<l.length
  at_:∀ j (h:j<l.length),j<i->x.getD (l[j]).toNat 0=(j:Int)
def InvP (l:List Int) (i:Nat) (x:List Int):Prop:=InvI l i x /\ ∀ q,q<l.length->(∀ j (h:j<l.length),j<i->l[j]≠(q:Int))->x.getD q 0 = -1
theorem zpz {l:List Int} {i:Nat} {x:List Int} (h:InvI l i x) {a b:Nat} (J:a<l.length) (H:b<l.length) (A:a<i) (C:b<i) (e:l[a]=l[b]):a=b:=by
 have Q:=h.at_ a J A;have I:=h.at_ b H C;rw [e,I] at Q;omega
theorem zrZ {l:List Int} {x:List Int} (h:InvI l l.length x):GoodE l/\InvOf l x:=by
 refine ⟨⟨l.map Int.toNat,?_,?_⟩,h.len,λj A=>h.at_ j A A⟩
 ·rw [List.map_map];refine List.ext_getElem (by simp) λj J W=>?_;rw [List.getElem_map];have:=h.rng j J J;show _=((l[j].toNat:Nat):Int);omega
 have I:(l.map Int.toNat).Nodup:=by
  refine List.pairwise_iff_getElem.2 λa b H C U e=>?_;rw [List.getElem_map,List.getElem_map] at e;rw [List.length_map] at H C;have V:=h.rng a H H;have X:=h.rng b C C;have:=zpz h H C H C vd;omega
 refine pig l.length _ I (λy Q=>?_) (List.length_map ..);obtain ⟨j,A,e⟩:=List.getElem_of_mem Q;rw [List.getElem_map] at e;rw [List.length_map] at A;have r:=h.rng j A A;omega
theorem zr0 {l:List Int} {i:Nat} {x:List Int} (h:InvI l i x) (hi:i<l.length) (Q:0<=l[i]) (U:l[i]<l.length) (I:∀ j (A:j<l.length),j<i->l[j]≠l[i]):InvI l (i+1) (x.set (l[i]).toNat (i:Int)):=by
 have J:=h.len;refine ⟨by rw [List.length_set];exact J,λj A C=>?_,λj A C=>?_⟩
 ·rcases Nat.lt_or_ge j i with h' | h'
  ·exact h.rng j A h'
  obtain rfl:j=i:=by omega
  exact ⟨Q,U⟩
 rcases Nat.lt_or_ge j i with h' | h'
 ·have r:=h.rng j A h';have H:(l[i]).toNat≠(l[j]).toNat:=λe=>I j A h' vd;rw [List.getD_eq_getElem?_getD,List.getElem?_set_ne H,<- List.getD_eq_getElem?_getD,h.at_ j A h']
 obtain rfl:j=i:=by omega
 rw [List.getD_eq_getElem?_getD,List.getElem?_set_self vd];rfl
theorem zlz {l:List Int} (h:GoodE l) (i:Nat) (hi:i<l.length):0<=l[i]/\l[i]<l.length:=by
 obtain ⟨e,rfl,A⟩:=h;rw [List.length_map] at A hi;have:=List.mem_range.1 (A.mem_iff.1 (List.getElem_mem hi));simp only [List.getElem_map,List.length_map];omega
theorem zr1 {l:List Int} (h:GoodE l) (i j:Nat) (hi:i<l.length) (C:j<l.length) (e:l[i]=l[j]):i=j:=by
 obtain ⟨m,rfl,H⟩:=h;rw [List.length_map] at H hi C;rw [List.getElem_map,List.getElem_map] at e;have A:m.Nodup:=H.nodup_iff.2 List.nodup_range;have I:m[i]=m[j]:=by omega
 rcases Nat.lt_trichotomy i j with h | h | h
 ·exact absurd I (List.pairwise_iff_getElem.1 A i j hi C h)
 ·exact h
 exact absurd I.symm (List.pairwise_iff_getElem.1 A j i C hi h)
theorem zmG (l:List Int):InvP l 0 (List.replicate l.length (-1)):=⟨⟨by simp,λj _ h=>absurd h (Nat.not_lt_zero _),λj _ h=>absurd h (Nat.not_lt_zero _)⟩,λq A _=>by rw [zal _ _ _ (by simpa using A),List.getElem_replicate]⟩
theorem zpA {l:List Int} {i:Nat} {x:List Int} (h:InvP l i x) (hi:i<l.length) (U:0<=l[i]) (V:l[i]<l.length) (W:x.getD (l[i]).toNat 0<0):InvP l (i+1) (x.set (l[i]).toNat (i:Int)):=by
 have J:∀ j (H:j<l.length),j<i->l[j]≠l[i]:=λj H C e=>by have:=h.1.at_ j H C;rw [e] at this;omega
 refine ⟨zr0 h.1 hi U V J,λq Q A=>?_⟩;have I:(l[i]).toNat≠q:=λe=>A i hi vd vd;rw [List.getD_eq_getElem?_getD,List.getElem?_set_ne I,<- List.getD_eq_getElem?_getD];exact h.2 q Q λj H C=>A j H vd
theorem zr2 {l:List Int} {i:Nat} {x:List Int} (h:InvP l i x) (hi:i<l.length) (J:0<=l[i]) (Q:l[i]<l.length) (I:0<=x.getD (l[i]).toNat 0) : ¬ GoodE l:=λH=>by
 have:=h.2 (l[i]).toNat vd λj C A e=>by
  have:=zr1 H j i C hi vd;omega
 omega
def InvR (l:List Int) (S:Mem) (r:tu) (S':Mem):Prop:=(GoodE l /\ ∃ u x,InvOf l x/\r = .tuple #[u,.int .i64 0]/\NewL gZ 3 x S u S')\/(¬ GoodE l/\r = .tuple #[.slice none 0 0,.int .i64 2]/\S'=S)
theorem zeV (v:tu) (l:List Int) (S:Mem) (hv:Sl 1 i64s S v l) (hl:l.length<=17592186043904) :
  ACall prog 84 #[v] S (InvR l S):=by
 obtain ⟨a,cap,rfl,h1,h2,h3⟩:=id hv;refine k_E1 39 func84 ?_;refine r8_ ?_;refine vu (zab rfl) zat rfl rfl ?_;intro W V;have Q:=V
 repeat ((with_reducible replace Q:=zaa Q);obtain ⟨Q,_⟩:=Q)
 refine r2_ ?_;refine ca_ rfl (zpx W _ l.length (-1) _ _ rfl hl own_) ?_;rintro _ _ ⟨o,ho,rfl,rfl⟩;rw [List.length_replicate] at *;refine r3_ ?_;have A:=ho.unset;refine AWP.less (outM S o 3 ((List.replicate l.length (-1)).map gZ)) (zm7 _ _ _ (vh _ _ _ V.1)) ?_;refine r9_ ?_;refine AWP.loop (X:=Nat × List Int) (λx=>[(0,.slice a l.length cap),(4,outV o l.length),(11,.slice a l.length cap),(12,.int .i64 l.length),(13,.int .i64 x.1)]) (λx=>outM S o 3 (x.2.map gZ)) (λx=>x.1<=l.length/\InvP l x.1 x.2) (λx=>l.length-x.1) ((0,List.replicate l.length (-1))) ⟨rfl,rfl,rfl,rfl,rfl,trivial⟩ (Mem.Less.refl _) (⟨Nat.zero_le _,zmG l⟩) ?_;rintro ⟨i,x⟩ ⟨hi,J⟩;(try dsimp only at *);have I:=J.1.len;by_cases hc:i<l.length
 ·refine r6_ ?_;refine cT_ ?_;obtain ⟨b,off,rfl,Y⟩:=h3.resolve_left (λh=>by rw [h] at hc;exact absurd hc (Nat.not_lt_zero _));obtain ⟨q,c,rfl⟩:=A.some vd;obtain ⟨fq,_⟩:=A.own q c rfl;have ae:Mem.Knows (outM S (some (q,c)) 3 (x.map gZ)) ⟨b,off+i*1,none⟩ [.int .i64 l[i]]:=(Y i hc).less (zaG A);by_cases c0:l[i]<0
  ·refine r13_ ?_;refine r20_ ?_;refine cT_ ?_;refine r13_ ?_;refine ⟨_,S,⟨_,_,rfl,⟨_,_,rfl,rfl,rfl⟩,rfl⟩,zaG A,?_⟩;exact .inr ⟨λC=>by have:=zlz C i hc;omega,rfl,rfl⟩
  by_cases c1:(l.length:Int)<=l[i]
  ·refine r13_ ?_;refine r20_ ?_;refine kw_ [0,4,11,12,13,14,5,6,32] ?_;refine cT_ ?_;refine r13_ ?_;refine ⟨_,S,⟨_,_,rfl,⟨_,_,rfl,rfl,rfl⟩,rfl⟩,zaG A,?_⟩;exact .inr ⟨λC=>by have:=zlz C i hc;omega,rfl,rfl⟩
  obtain ⟨k,U⟩ : ∃ k,k=(l[i]).toNat:=⟨_,rfl⟩;have H:x.getD (l[i]).toNat 0=x[k]'vd:=by rw [<- U];exact zal _ _ _ vd
  refine r28_ ?_
  first|refine k_q 26 ?_|refine rG 26 (Calm.as (show gZ (x[k]'vd) = .int .i64 (x[k]'vd) from rfl) (Calm.load zaq rfl (zbe (g:=gZ) k vd (vf _ _ _) vd))) ?_
  refine r4_ ?_;by_cases c2:0<=x[k]'vd
  ·refine cT_ ?_;refine r13_ ?_;refine ⟨_,S,⟨_,_,rfl,⟨_,_,rfl,rfl,rfl⟩,rfl⟩,zaG A,?_⟩;exact .inr ⟨zr2 J hc vd vd (by rw [H];exact c2),rfl,rfl⟩
  refine cF_ ?_;refine r7_ ?_;refine vk rfl rfl zbk rfl (vf _ _ _) (by rw [List.length_map];omega) rfl ?_
  try simp only [k_ms,k_sz,k_ss,k_za,Nat.reduceAdd]
  refine r3_ ?_;simp only [Nat.zero_add,Nat.mul_one];refine r5_ ?_;refine ⟨(i+1,x.set (l[i]).toNat (i:Int)),?_,?_,?_,?_⟩<;>try dsimp only
  ·exact ⟨sq_,sq_,sq_,sq_,sq_,trivial⟩
  ·rw [List.map_set];show (S.set q _).Less ((S.set q _).set q _);rw [Mem.set_set];exact Mem.Less.refl _
  ·exact ⟨hc,zpA J hc vd vd (by rw [H];omega)⟩
  omega
 obtain rfl:i=l.length:=by omega
 refine r6_ ?_;refine cF_ ?_;obtain ⟨C,hx⟩:=zrZ J.1;refine r13_ ?_;refine ⟨_,_,⟨_,_,rfl,⟨_,_,rfl,rfl,rfl⟩,rfl⟩,Mem.Less.refl _,?_⟩;exact .inl ⟨C,_,x,hx,rfl,o,by rw [I];exact A,by rw [I],rfl⟩
def RightE (l:List Nat) (ends:List Int):Prop:=∃ e:List Nat,ends=e.map (λk:Nat=>(k:Int))/\Ord.SortedE l e
theorem zha {l:List Nat} {A:List Int} (h:RightE l A):GoodE A/\A.length=l.length:=by
 obtain ⟨e,rfl,h⟩:=h;have C:=h.len;exact ⟨⟨e,rfl,by rw [List.length_map,C];exact h.1⟩,by rw [List.length_map,C]⟩
def behZ (n:Nat) (x:List Int) (a:Nat):Int:=if a+1<n then x.getD (a+1) 0 else -1
def cfR (l:List Nat) (x:List Int) (a b:Nat):Int:=orL [cmpU (l.getD a 0) (l.getD b 0),cmpZ (behZ l.length x a) (behZ l.length x b)]
theorem zuB {e:List Nat} {x:List Int} (H:e.Perm (List.range e.length)) (I:InvOf (e.map (λk:Nat=>(k:Int))) x) (q:Nat) (J:q<e.length):∃ k,∃ h:k<e.length,e[k]=q/\x.getD q 0=(k:Int):=by
 obtain ⟨j,A,C⟩:=List.getElem_of_mem (H.mem_iff.2 (List.mem_range.2 J));have:=I.2 j (by rw [List.length_map];exact A);rw [List.getElem_map,Int.toNat_natCast,C] at this;exact ⟨j,A,C,this⟩
theorem zpB {l e:List Nat} {x:List Int} (H:e.Perm (List.range e.length)) (I:InvOf (e.map (λk:Nat=>(k:Int))) x) (W:e.length=l.length) (a b:Nat):cfR l x a b<0 <-> Ord.stepR l (λq=>(x.getD q 0).toNat) a b:=by
 unfold cfR orL orL orL Ord.stepR;have X:=zfr (l.getD a 0) (l.getD b 0);have Q:=zel (l.getD a 0) (l.getD b 0);have J:=zej (behZ l.length x a) (behZ l.length x b);have A:∀ a,behZ l.length x a=((Ord.behind l.length (λq=>(x.getD q 0).toNat) a:Nat):Int)-1:=λa=>by
  unfold behZ Ord.behind;split
  ·obtain ⟨k,V,_,e1⟩:=zuB H I (a+1) vd;dsimp only;rw [e1];omega
  rfl
 have U:=A a;have C:=A b;split
 ·split <;> omega
 omega
theorem zpC {l e:List Nat} {x:List Int} (H:e.Perm (List.range e.length)) (I:InvOf (e.map (λk:Nat=>(k:Int))) x) (J:e.length=l.length) :
  RightE l (e.map (λk:Nat=>(k:Int))) <-> ∀ k (A:k+1<e.length),cfR l x (e[k]'vd) e[k+1]<0:=by
 have C:∀ k (A:k<e.length),(x.getD e[k] 0).toNat=k:=λk A=>by
  have:=I.2 k (by rw [List.length_map];exact A);rw [List.getElem_map,Int.toNat_natCast] at this;rw [this];omega
 constructor
 ·rintro ⟨Q,W,U⟩ k A;have V:e=Q:=by
   have:=congrArg (List.map Int.toNat) W;simpa [List.map_map,Function.comp_def] using this
  subst V;rw [zpB H I J];exact Ord.zi3 l e _ U C k A
 intro h;exact ⟨e,rfl,Ord.zi2 l e _ (by rw [J] at H;exact H) C λk A=>(zpB H I J _ _).1 (h k A)⟩
theorem zs8 (H:Int) (i J C:Nat) (v u:tu) (l:List Nat) (x:List Int) (W:H=i) (S:Mem) (k2:S.Knows ⟨J,0,none⟩ [v]) (k5:S.Knows ⟨C,0,none⟩ [u]) (U:RowR S v l) (V:Sl 1 i64s S u x) (I:x.length=l.length) (hi:i<l.length) :
  ACall prog 85 #[.int .i64 H,.pointer (some ⟨J,0,none⟩),.pointer (some ⟨C,0,none⟩)] S λr S'=>r = .int .i64 (behZ l.length x i)/\S'=S:=by
 subst W;obtain ⟨va,vc,rfl,v1,v2,v3⟩:=id U;obtain ⟨Y,X,rfl,u1,u2,u3⟩:=id V;unfold behZ;by_cases hc:i+1<l.length
 ·rw [if_pos hc];obtain ⟨Q,uo,rfl,A⟩:=u3.resolve_left (λh=>by rw [h] at I;simp at I;omega);have kk:S.Knows ⟨Q,uo+(i+1)*1,none⟩ [.int .i64 (x.getD (i+1) 0)]:=by rw [zal x (i+1) 0 vd];exact A (i+1) vd
  refine k_E3 15 func85 ?_;refine r15_ ?_;refine cT_ ?_;refine r12_ ?_;refine ⟨_,S,⟨_,_,rfl,rfl,rfl⟩,zae,?_⟩;exact ⟨rfl,rfl⟩
 rw [if_neg hc];refine k_E3 15 func85 ?_;refine r15_ ?_;refine cF_ ?_;refine r8_ ?_;refine ⟨_,S,⟨_,_,rfl,rfl,rfl⟩,zae,?_⟩;exact ⟨rfl,rfl⟩
theorem zr3 (v ve:tu) (l:List Nat) (C:List Int) (S:Mem) (hv:RowR S v l) (W:Sl 1 i64s S ve C) (hl:C.length<=17592186043904) :
  ACall prog 33 #[v,ve] S λr S'=>(∃ t,r = .bool t/\(t=true <-> RightE l C))/\S'=S:=by
 obtain ⟨va,vc,rfl,v1,v2,v3⟩:=id hv;obtain ⟨ea,ec,rfl,e1,e2,e3⟩:=id W;by_cases hg:GoodE C
 ·by_cases A:C.length=l.length
  ·obtain ⟨e,rfl,hp⟩:=hg;rw [List.length_map] at hp A;have V:(e.map (λk:Nat=>(k:Int))).length=e.length:=List.length_map ..;rw [V] at e1 e2 hl W;have ax:∀ i (h:i<e.length),∃ b off,ea=some ⟨b,off,none⟩/\S.Knows ⟨b,off+i*1,none⟩ [.int .i64 (e[i] : Int)]:=λi h=>by
    obtain ⟨b,off,rfl,hk⟩:=e3.resolve_left (λh'=>by rw [List.map_eq_nil_iff] at h';subst h';exact absurd h (Nat.not_lt_zero _));have:=hk i (by rw [V];exact h);rw [List.getElem_map] at this;exact ⟨b,off,rfl,this⟩
   rw [V];have H:=zeV _ _ S W (by rw [V];exact hl);refine k_E2 62 func33 ?_;refine r2_ ?_;refine vB (zab rfl) rfl rfl ?_;intro b2 f2;have Q:=f2
   repeat ((with_reducible replace Q:=zaa Q);obtain ⟨Q,_⟩:=Q)
   refine nl_ ?_;refine r6_ ?_;refine ca_ rfl ((H.frame f2)) ?_;rintro _ _ ⟨S1,hR,am,rfl⟩;obtain ⟨_,u,x,hx,rfl,U⟩:=hR.resolve_right (λh=>h.1 ⟨e,rfl,by rw [V];exact hp⟩);have a4:x.length=e.length:=(by rw [hx.1,V]);obtain ⟨aa,hu⟩:=U.rd vd;clear U;obtain ⟨ua,uc,rfl,_⟩:=id hu;have ag:=zpC hp hx A;refine r3_ ?_;refine ARun.alloc (zab rfl) zeC ?_;intro b5 f5;have J:=f5
   repeat ((with_reducible replace J:=zaa J);obtain ⟨J,_⟩:=J)
   refine nl_ ?_;refine r18_ ?_;refine cF_ ?_;obtain ⟨B,hB⟩ : ∃ B,B=(S1.set b2 ⟨22,[.slice va l.length vc],1⟩).set b5 ⟨41,[.slice ua x.length uc],1⟩:=⟨_,rfl⟩;have an:S1.Less B:=(by rw [hB];exact zae);have o2:B.own b2=some ⟨22,[.slice va l.length vc],1⟩:=(by rw [hB];exact own_);have o5:B.own b5=some ⟨41,[.slice ua x.length uc],1⟩:=(by rw [hB];exact own_);have I:S.Less B:=aa.trans an;have k2:B.Knows ⟨b2,0,none⟩ [.slice va l.length vc]:=vA o2 0 _ (λj v hj=>by rw [Nat.zero_add];exact hj);have k5:B.Knows ⟨b5,0,none⟩ [.slice ua x.length uc]:=vA o5 0 _ (λj v hj=>by rw [Nat.zero_add];exact hj);replace hu:=hu.less an;refine AWP.less B (by rw [hB];exact Mem.Less.refl _) ?_;clear hB f5 J am an;refine r15_ ?_;refine AWP.loop (X:=Nat) (λi=>[(1,.slice ea e.length ec),(2,.pointer (some ⟨b2,0,none⟩)),(7,.func (.func 85) #[] #[.pointer (some ⟨b2,0,none⟩),.pointer (some ⟨b5,0,none⟩)]),(8,.int .i64 i)]) (λ_=>B) (λi=>1<=i/\(i<=e.length\/i=1) /\ ∀ k (hk:k+1<e.length),k+1<i->cfR l x (e[k]'vd) e[k+1]<0) (λi=>e.length-i) (1) ⟨rfl,rfl,rfl,rfl,trivial⟩ (Mem.Less.refl _) (⟨Nat.le_refl _,.inr rfl,λk hk h=>by omega⟩) ?_;rintro i ⟨q1,q2,q3⟩;(try dsimp only at *);by_cases hi:i<e.length
   ·obtain ⟨i,rfl⟩ : ∃ q,i=q+1:=⟨i-1,by omega⟩;refine r9_ ?_;refine cT_ ?_;obtain ⟨eb,eo,rfl,ak⟩:=ax (i+1) hi;obtain ⟨a6,a1,ee,ai⟩:=ax i vd;cases ee;obtain ⟨a,ha⟩ : ∃ a,a=e[i]'vd:=⟨_,rfl⟩;obtain ⟨b,hb⟩ : ∃ b,b=e[i+1]:=⟨_,rfl⟩;have Y:a<l.length:=(by rw [ha,<- A];exact List.mem_range.1 (hp.mem_iff.1 (List.getElem_mem _)));have ao:b<l.length:=(by rw [hb,<- A];exact List.mem_range.1 (hp.mem_iff.1 (List.getElem_mem _)));rw [<- ha] at ai;rw [<- hb] at ak;replace ai:B.Knows ⟨eb,eo+(((i+1:Nat):Int)-1).toNat*1,none⟩ [.int .i64 (a:Int)]:=(by rw [show (((i+1:Nat):Int)-1).toNat=i by omega];exact ai.less I);replace ak:=ak.less I;obtain ⟨vb,vo,rfl,au⟩:=v3.resolve_left (λh=>by rw [h] at Y;exact absurd Y (Nat.not_lt_zero _));have a7:B.Knows ⟨vb,vo+a*1,none⟩ [.int .u64 (l.getD a 0:Int)]:=(by rw [zal l a 0 Y];exact (au a Y).less I);have aZ:B.Knows ⟨vb,vo+b*1,none⟩ [.int .u64 (l.getD b 0:Int)]:=(by rw [zal l b 0 ao];exact (au b ao).less I);refine r5_ ?_;refine dr_ [i0_,i1_,i2_,i3_,i4_,i5_,i6_,i7_,i8_,i9_,i10_] [] ?_;refine r13_ ?_;refine kw_ [1,2,7,8,30,9,10] ?_;refine s1_ ?_;refine dr_ [i0_,i1_,i2_,i3_,i4_,i5_,i6_,i7_,i9_,i10_,i12_,i13_,o8_,o11_,o14_,o15_,o16_,o17_,i18_] [] ?_;refine r12_ ?_;refine zac rfl ?_;refine cp_ rfl (zdj (l.getD a 0) (l.getD b 0) _) ?_;refine zad ⟨ny_,?_⟩;refine zac rfl ?_;refine vq (zab rfl) zvu rfl rfl (zs8 _ a b2 b5 _ _ l x rfl _ k2 k5 (hv.less I) hu vd Y) ?_;rintro _ S9 ⟨rfl,h9⟩;rw [h9];clear h9 S9;refine zad ⟨ny_,?_⟩;refine zac rfl ?_;refine vq (zab rfl) zvu rfl rfl (zs8 _ b b2 b5 _ _ l x rfl _ k2 k5 (hv.less I) hu vd ao) ?_;rintro _ S9 ⟨rfl,h9⟩;rw [h9];clear h9 S9;refine zad ⟨ny_,?_⟩;refine zac rfl ?_;refine cp_ rfl (zg_ (behZ l.length x a) (behZ l.length x b) _) ?_;refine zad ⟨ny_,?_⟩;refine zac rfl ?_;refine vO (cs:=[_,_]) (zab rfl) zat rfl rfl rfl rfl ?_;intro a5 aL;have ac:=aL
    repeat ((with_reducible replace ac:=zaa ac);obtain ⟨ac,_⟩:=ac)
    refine zad ⟨ny_,?_⟩;refine zac rfl ?_;refine ca_ rfl (zpv _ _ _ (zh3 own_)) ?_;rintro _ _ ⟨rfl,rfl⟩;have aJ:cfR l x a b=orL [if l.getD a 0<l.getD b 0 then -1 else if l.getD b 0<l.getD a 0 then 1 else 0,cmpZ (behZ l.length x a) (behZ l.length x b)]:=rfl;rw [<- aJ];refine zad ⟨ny_,?_⟩;refine r3_ ?_;by_cases ae:cfR l x a b<0
    ·refine r6_ ?_;refine cF_ ?_;refine r9_ ?_;refine ⟨i+1+1,?_,?_,?_,?_⟩<;>try dsimp only
     ·exact ⟨sq_,sq_,sq_,sq_,trivial⟩
     ·exact zae
     ·exact ⟨by omega,by omega,λk hk h=>by rcases Nat.lt_or_ge (k+1) (i+1) with h' | h';exact q3 k hk h';obtain rfl:k=i:=vd;rw [<- ha,<- hb];exact ae⟩
     omega
    refine r6_ ?_;refine cT_ ?_;refine r11_ ?_;refine ⟨_,S,⟨_,_,rfl,rfl,rfl⟩,I.trans zae,?_⟩;exact ⟨⟨false,rfl,by constructor;(intro h;cases h);(intro h;have:=(ag.1 h) i hi;rw [<- ha,<- hb] at this;exact absurd this ae)⟩,rfl⟩
   refine r9_ ?_;refine cF_ ?_;refine r11_ ?_;refine ⟨_,S,⟨_,_,rfl,rfl,rfl⟩,I,?_⟩;exact ⟨⟨true,rfl,by constructor;(intro _;exact ag.2 λk hk=>q3 k hk vd);(intro _;rfl)⟩,rfl⟩
  have H:=zeV _ _ S W hl;refine k_E2 62 func33 ?_;refine r2_ ?_;refine vB (zab rfl) rfl rfl ?_;intro b2 f2;have Q:=f2
  repeat ((with_reducible replace Q:=zaa Q);obtain ⟨Q,_⟩:=Q)
  refine nl_ ?_;refine r6_ ?_;refine ca_ rfl ((H.frame f2)) ?_;rintro _ _ ⟨S1,hR,am,rfl⟩;obtain ⟨_,u,x,hx,rfl,U⟩:=hR.resolve_right (λh=>h.1 hg);obtain ⟨aa,hu⟩:=U.rd (by have:=hx.1;omega);obtain ⟨ua,uc,rfl,_⟩:=id hu;refine r3_ ?_;refine ARun.alloc (zab rfl) zeC ?_;intro b5 f5;have J:=f5
  repeat ((with_reducible replace J:=zaa J);obtain ⟨J,_⟩:=J)
  refine nl_ ?_;refine r4_ ?_;refine kw_ [0,1,2,4,5,6] ?_;refine r14_ ?_;refine cT_ ?_;refine r7_ ?_;refine ⟨_,S,⟨_,_,rfl,rfl,rfl⟩,aa.trans zae,?_⟩;exact ⟨⟨false,rfl,by constructor;(intro h;cases h);(intro h;exact absurd (zha h).2 A)⟩,rfl⟩
 have H:=zeV _ _ S W hl;refine k_E2 62 func33 ?_;refine r2_ ?_;refine vB (zab rfl) rfl rfl ?_;intro b2 f2;have Q:=f2
 repeat ((with_reducible replace Q:=zaa Q);obtain ⟨Q,_⟩:=Q)
 refine nl_ ?_;refine r6_ ?_;refine ca_ rfl ((H.frame f2)) ?_;rintro _ _ ⟨S1,hR,am,rfl⟩;obtain ⟨_,rfl,aa⟩:=hR.resolve_left (λh=>hg h.1);subst aa;refine r3_ ?_;refine ARun.alloc (zab rfl) zeC ?_;intro b5 f5;have J:=f5
 repeat ((with_reducible replace J:=zaa J);obtain ⟨J,_⟩:=J)
 refine nl_ ?_;refine r18_ ?_;refine cT_ ?_;refine r7_ ?_;refine ⟨_,S1,⟨_,_,rfl,rfl,rfl⟩,zae,?_⟩;exact ⟨⟨false,rfl,by constructor;(intro h;cases h);(intro h;exact absurd (zha h).1 hg)⟩,rfl⟩
theorem zh4 (S:Mem) (o:Option (Nat × Nat)) (e:tx) (cs:List tu):outN 1 S o e cs=outM S o e cs:=by
 cases o with
 | none=>rfl
 | some q=>show S.set q.1 ⟨e,cs,q.2*1⟩=S.set q.1 ⟨e,cs,q.2⟩;rw [Nat.mul_one]
theorem zwy {S:Mem} {o:Option (Nat × Nat)} {k:Nat} {e:tx} {cs:List tu} (h:OkO S o k) (A:cs.length=k):AppN 1 (outM S o e cs) S o e cs:=by
 rw [<- zh4];exact zch h (by rw [A,Nat.mul_one])
theorem zr4 {α : Type} (g : α->tu) (L:List α):L.flatMap (λx=>[g x])=L.map g:=by
 induction L with
 | nil=>rfl
 | cons x l A=>rw [List.flatMap_cons,List.map_cons,A];rfl
theorem zs9 {α : Type} {g : α->tu} {S:Mem} {v:tu} {L:List α} (h:Sl 1 (λx=>[g x]) S v L):Src S v L.length (L.map g):=by
 have:=Sl.src (n:=1) (λ_=>rfl) h;rw [zr4] at this;exact this
theorem zpD {α : Type} {g : α->tu} (A:∀ x,(g x).oneCell'=true) (L:List α):∀ v ∈ L.map g,v.oneCell'=true:=λv C=>by obtain ⟨x,_,rfl⟩:=List.mem_map.1 C;exact A x
def EndsR (l:List Nat) (S:Mem) (r:tu) (S':Mem):Prop:=(l.length<=4096 /\ ∃ u,r = .tuple #[u,.int .i64 0]/\RdL gI (Ord.endsR l l.length) S u S')\/(4096<l.length/\r = .tuple #[.slice none 0 0,.int .i64 1]/\S'=S)
end
section
open Go.RowKit
open Mv Num Loser Skew


namespace Skew
def bad (x:Nat):Bool:=decide (x<1) || decide (1099511627776<=x)
def chkL (l:List Nat):Int:=if 4096<l.length\/l.any bad=true then 1 else 0
theorem zpE {l:List Nat} (h:chkL l=0):l.length<=4096/\(∀ x ∈ l,1<=x) /\ ∀ x ∈ l,x<1099511627776:=by
 unfold chkL at h;split at h
 ·omega
 rename_i J;have H:l.any bad=false:=by cases I:l.any bad with
  | false=>rfl
  | true=>exact absurd (Or.inr I) J
 rw [List.any_eq_false] at H;have C:∀ x ∈ l,1<=x/\x<1099511627776:=λx A=>by have:=H x A;unfold bad at this;simp at this;omega
 exact ⟨by omega,λx A=>(C x A).1,λx A=>(C x A).2⟩
theorem zs_ {l:List Nat} (h:chkL l≠0):chkL l=1:=by unfold chkL at *;split at h <;> simp_all
theorem zhb (r i:Nat) (h:i % 3=r):restP r (i+3)=restP r i ++ [i]:=by
 rw [zbx,zbx,zbx,if_pos h,if_neg vd,if_neg vd,List.append_nil,List.append_nil]
theorem zhc (r E:Nat) (H:r<3):∀ (i:Nat),E<=i->i<E+3->i % 3=r->restP r i=restP r E:=by
 intro i C I A;rcases (by omega:i=E\/i=E+1\/i=E+2) with h | h | h
 ·rw [h]
 ·rw [h,zbx,if_neg vd,List.append_nil]
 rw [h,zbx,zbx,if_neg vd,if_neg vd,List.append_nil,List.append_nil]
theorem zkn (r:Nat) (C:r<3):restP r r = []:=by
 have:∀ m,m<=r->restP r m = []:=by
  intro m
  induction m with
  | zero=>intro _;rfl
  | succ m A=>intro h;rw [zbx,A vd,if_neg vd];rfl
 exact this r (Nat.le_refl _)
def accP (E:Nat):Nat->List Nat
  | 0=>[]
  | 1=>[]
  | 2=>restP 1 E
  | _=>restP 1 E ++ restP 2 E
theorem zr5 (E r:Nat) (A:1<=r) (C:r<3):accP E r ++ restP r E=accP E (r+1):=by
 rcases (by omega:r=1\/r=2) with rfl | rfl
 ·rfl
 rfl
theorem zuC (E r:Nat) (A:E<=1048577) (C:r<3):(accP E r).length<=r+1048577:=by
 rcases (by omega:r=0\/r=1\/r=2) with rfl | rfl | rfl
 ·show 0<=_;omega
 ·show 0<=_;omega
 show (restP 1 E).length<=_;rw [zaX 1 vd];omega
theorem zr6 (E:Nat) (A:E<=1048577):(accP E 3).length<=9223372036854775807:=by
 show (restP 1 E ++ restP 2 E).length<=_;rw [List.length_append,zaX 1 vd,zaX 2 vd];omega
end Skew
theorem zuD (x:Nat) (S:Mem):ACall prog 16 #[.int .u64 (x:Int)] S λr S'=>r = .bool (Skew.bad x)/\S'=S:=by
 unfold Skew.bad;by_cases h:x<1
 ·have H:=h;rw [decide_eq_true h];refine k_E1 9 func16 ?_;refine r17_ ?_;refine ⟨_,S,⟨_,_,rfl,rfl,rfl⟩,zae,?_⟩;exact ⟨rfl,rfl⟩
 have H:=h;rw [decide_eq_false h];by_cases A:1099511627776<=x
 ·have C:=A;rw [decide_eq_true A];refine k_E1 9 func16 ?_;refine r17_ ?_;refine ⟨_,S,⟨_,_,rfl,rfl,rfl⟩,zae,?_⟩;exact ⟨rfl,rfl⟩
 have C:=A;rw [decide_eq_false A];refine k_E1 9 func16 ?_;refine r17_ ?_;refine ⟨_,S,⟨_,_,rfl,rfl,rfl⟩,zae,?_⟩;exact ⟨rfl,rfl⟩
theorem zr7 (v:tu) (l:List Nat) (S:Mem) (U:RowR S v l) :
  ACall prog 42 #[v,.func (.func 16) #[] #[]] S λr S'=>(∃ n:Int,r = .int .i64 n/\decide (0<=n)=l.any Skew.bad)/\S'=S:=by
 obtain ⟨a,cap,rfl,I,W,J⟩:=id U;refine k_E2 19 func42 ?_;refine r14_ ?_;refine AWP.loop (X:=Nat) (λx=>[(0,.slice a l.length cap),(1,.func (.func 16) #[] #[]),(7,.int .i64 l.length),(8,.int .i64 x)]) (λx=>S) (λx=>x<=l.length/\(l.drop x).any Skew.bad=l.any Skew.bad) (λx=>l.length-x) (0) ⟨rfl,rfl,rfl,rfl,trivial⟩ (Mem.Less.refl _) (⟨Nat.zero_le _,rfl⟩) ?_;rintro i ⟨hi,A⟩;(try dsimp only at *);refine r6_ ?_;refine vp rfl (λhc=>?_) (λhc=>?_)
 ·have hc:i<l.length:=by have:=of_decide_eq_true hc;omega
  obtain ⟨b,off,rfl,Q⟩:=J.resolve_left (λe=>by subst e;simp at hc);have H:=Q i hc;unfold u64s at H;rw [List.drop_eq_getElem_cons hc,List.any_cons] at A;refine r17_ ?_;refine vq (zab rfl) zwW rfl rfl (zuD l[i] _) ?_;rintro _ V ⟨rfl,I⟩;rw [I];clear I V;refine r2_ ?_;refine vp rfl (λC=>?_) (λC=>?_)
  ·refine r6_ ?_;refine r6_ ?_;refine ⟨_,S,⟨_,_,rfl,rfl,rfl⟩,zae,?_⟩;exact ⟨⟨i,rfl,by rw [<- A,C,decide_eq_true vd];rfl⟩,rfl⟩
  refine r8_ ?_;refine ⟨i+1,?_,?_,?_,?_⟩<;>try dsimp only
  ·exact ⟨rfl,rfl,rfl,rfl,trivial⟩
  ·exact zae
  ·exact ⟨hc,by rw [C,Bool.false_or] at A;exact A⟩
  omega
 have hc:i=l.length:=by have:=of_decide_eq_false hc;omega
 refine r11_ ?_;refine ⟨_,S,⟨_,_,rfl,rfl,rfl⟩,zae,?_⟩;exact ⟨⟨-1,rfl,by rw [<- A,List.drop_eq_nil_of_le vd];rfl⟩,rfl⟩
theorem zko (v:tu) (l:List Nat) (S:Mem) (C:RowR S v l) :
  ACall prog 15 #[v,.func (.func 16) #[] #[]] S λr S'=>r = .bool (l.any Skew.bad)/\S'=S:=by
 refine k_E2 9 func15 ?_;refine r9_ ?_;refine ca_ rfl (zr7 v l _ C) ?_;rintro _ H ⟨⟨n,rfl,I⟩,A⟩;rw [A];clear A H;refine rC (vi rfl rfl (zag (zcP _ _) I)) ?_;refine r4_ ?_;refine ⟨_,S,⟨_,_,rfl,rfl,rfl⟩,zae,?_⟩;exact ⟨rfl,rfl⟩
theorem zem (v:tu) (l:List Nat) (S:Mem) (H:RowR S v l) :
  ACall prog 5 #[v] S λr S'=>r = .int .i64 (chkL l)/\S'=S:=by
 obtain ⟨a,cap,rfl,C,U,J⟩:=id H;unfold chkL;by_cases h:4096<l.length
 ·rw [if_pos (.inl h)];refine k_E1 10 func5 ?_;refine r17_ ?_;refine cT_ ?_;refine r7_ ?_;refine ⟨_,S,⟨_,_,rfl,rfl,rfl⟩,zae,?_⟩;exact ⟨rfl,rfl⟩
 have Q:=h;refine k_E1 10 func5 ?_;refine r13_ ?_;refine vv 3 false 6 rfl (zab rfl) rfl (zab rfl) ztl rfl (zko _ l _ H) ?_;rintro _ I ⟨rfl,C⟩;rw [C];clear C I;refine r3_ ?_;refine vp rfl (λA=>?_) (λA=>?_)
 ·refine r7_ ?_;refine ⟨_,S,⟨_,_,rfl,rfl,rfl⟩,zae,?_⟩;exact ⟨by rw [if_pos (.inr A)];rfl,rfl⟩
 refine r8_ ?_;refine ⟨_,S,⟨_,_,rfl,rfl,rfl⟩,zae,?_⟩;exact ⟨by rw [if_neg (by rw [A];simp;omega)];rfl,rfl⟩
theorem zwz (l:List Nat) (i:Nat) (h:i<l.length):at0 l i=l[i]:=by unfold at0;rw [List.getD_eq_getElem?_getD,List.getElem?_eq_getElem h];rfl
theorem zuE (l:List Nat) (i:Nat) (h : ¬ i<l.length):at0 l i=0:=by unfold at0;rw [List.getD_eq_getElem?_getD,List.getElem?_eq_none vd];rfl
theorem zgd (v:tu) (l:List Nat) (C:Int) (i:Nat) (Q:C=i) (S:Mem) (J:RowR S v l) :
  ACall prog 140 #[v,.int .i64 C] S λr S'=>r=gU (at0 l i)/\S'=S:=by
 subst Q;unfold gU;obtain ⟨a,cap,rfl,V,U,H⟩:=id J;by_cases hc:i<l.length
 ·rw [zwz l i hc];obtain ⟨b,off,rfl,I⟩:=H.resolve_left (λe=>by subst e;simp at hc);have A:=I i hc;unfold u64s at A;refine k_E2 13 func140 ?_;refine r14_ ?_;refine cT_ ?_;refine r11_ ?_;refine ⟨_,S,⟨_,_,rfl,rfl,rfl⟩,zae,?_⟩;exact ⟨rfl,rfl⟩
 rw [zuE l i hc];refine k_E2 13 func140 ?_;refine r14_ ?_;refine cF_ ?_;refine r8_ ?_;refine ⟨_,S,⟨_,_,rfl,rfl,rfl⟩,zae,?_⟩;exact ⟨rfl,rfl⟩
def triV (l:List Nat) (i:Nat):tu:=.agg #[gU (at0 l i),gU (at0 l (i+1)),gU (at0 l (i+2))]
theorem zen (v:tu) (l:List Nat) (H:Int) (i:Nat) (I:H=i) (S:Mem) (C:RowR S v l) (hi:i<=1048576) :
  ACall prog 80 #[v,.int .i64 H] S λr S'=>r=triV l i/\S'=S:=by
 subst I;refine k_E2 17 func80 ?_;refine r2_ ?_;refine ARun.alloc (zab rfl) zcU ?_;intro Q J;have A:=J
 repeat ((with_reducible replace A:=zaa A);obtain ⟨A,_⟩:=A)
 refine nl_ ?_;refine r6_ ?_;refine ca_ rfl (zgd v l _ i om_ _ (C.less zae)) ?_;rintro _ _ ⟨rfl,rfl⟩;refine r3_ ?_;refine ca_ rfl (zgd v l _ (i+1) om_ _ (C.less zae)) ?_;rintro _ _ ⟨rfl,rfl⟩;refine r3_ ?_;refine ca_ rfl (zgd v l _ (i+2) om_ _ (C.less zae)) ?_;rintro _ _ ⟨rfl,rfl⟩;refine rC (um (cs:=[_,_,_]) zlV rfl rfl) ?_;refine r4_ ?_;refine ⟨_,S,⟨_,_,_,rfl,.inr ⟨zgy,[_,_,_],zfI,rds_,rfl⟩,rfl,rfl⟩,zae,?_⟩;exact ⟨rfl,rfl⟩
theorem zpF (ii:Int) (n:Nat) (ei:ii=n) (hn:n<=1048576) (S:Mem) :
  ACall prog 78 #[.int .i64 ii] S (RdL gI (places n) S):=by
 subst ei;have hE:=zdg n;have hp:places n=accP (endP n) 3:=rfl;rw [hp];generalize endP n=E at *;refine k_E1 28 func78 ?_;refine r19_ ?_;refine AWP.join (X:=Unit) (λ_=>[(3,.int .i64 (E:Int))]) (λ_=>S) (λ_=>E<=n+1) ?_ ?_
 ·by_cases h1:n % 3=1
  ·refine cT_ ?_;refine r5_ ?_;refine ⟨(),?_,?_,?_⟩<;>try dsimp only
   ·omega
   ·exact ⟨sq_,trivial⟩
   exact Mem.Less.refl _
  refine cF_ ?_;refine s1_ ?_;refine ⟨(),?_,?_,?_⟩<;>try dsimp only
  ·omega
  ·exact ⟨sq_,trivial⟩
  exact Mem.Less.refl _
 rintro _ _;intro _ _ I H;(try dsimp only at *);refine zau ?_;refine AWP.sub _ I (AWP.less _ H ?_);clear I H;refine r12_ ?_;refine AWP.loop (X:=Nat × List Nat × Option (Nat × Nat)) (λx=>[(3,.int .i64 (E:Int)),(4,outV x.2.2 x.2.1.length),(5,.int .i64 x.1)]) (λx=>outM S x.2.2 3 (x.2.1.map gI)) (λx=>1<=x.1/\x.1<=3/\x.2.1=accP E x.1/\OkO S x.2.2 x.2.1.length) (λx=>3-x.1) ((1,[],none)) ⟨rfl,rfl,rfl,trivial⟩ (Mem.Less.refl _) (⟨Nat.le_refl _,by dsimp only;omega,rfl,zbO _⟩) ?_;rintro ⟨r,L,o⟩ ⟨h1,h2,J,ho⟩;(try dsimp only at *);by_cases Q:r<3
 ·refine r7_ ?_;refine cT_ ?_;refine r11_ ?_;refine AWP.loop (X:=Nat × List Nat × Option (Nat × Nat)) (λx=>[(3,.int .i64 (E:Int)),(4,outV x.2.2 x.2.1.length),(5,.int .i64 r),(6,.int .i64 x.1)]) (λx=>outM S x.2.2 3 (x.2.1.map gI)) (λx=>x.1 % 3=r % 3/\x.1<E+3/\x.2.1=accP E r ++ restP r x.1/\x.2.1.length<=x.1+1048577/\OkO S x.2.2 x.2.1.length) (λx=>E+3-x.1) ((r,L,o)) ⟨rfl,rfl,rfl,rfl,trivial⟩ (Mem.Less.refl _) (⟨rfl,by dsimp only;omega,by dsimp only;rw [J,zkn r Q,List.append_nil],by dsimp only;rw [J];exact zuC E r vd Q,ho⟩) ?_;rintro ⟨i,U,o2⟩ ⟨k1,k2,k3,k5,k4⟩;(try dsimp only at *);by_cases hi:i<E
  ·refine r8_ ?_;refine kw_ [3,4,5,6,20] ?_;refine cT_ ?_;refine r7_ ?_;refine vu (zab rfl) zat rfl rfl ?_;intro ah C;have A:=C
   repeat ((with_reducible replace A:=zaa A);obtain ⟨A,_⟩:=A)
   refine vF (zab rfl) zat rfl zcY (zcf k4 zcY C) rfl (news:=[_]) rds_ rfl vd (by simp [Value.oneCell']) vd vd ?_;intro Y V W;refine r10_ ?_;refine ⟨(i+3,U ++ [i],some (Y,V)),?_,?_,?_,?_⟩<;>try dsimp only
   ·exact ⟨sq_,sq_,sq_,sq_,trivial⟩
   ·exact zd7 rfl
   ·exact ⟨by omega,by omega,by rw [k3,zhb r i vd,List.append_assoc],by rw [List.length_append];show U.length+1<=_;omega,zht W rfl⟩
   omega
  refine r8_ ?_;refine cF_ ?_;refine r12_ ?_;refine ⟨(r+1,U,o2),?_,?_,?_,?_⟩<;>try dsimp only
  ·exact ⟨sq_,sq_,sq_,trivial⟩
  ·exact Mem.Less.refl _
  ·exact ⟨by omega,by omega,by rw [k3,zhc r E Q i vd k2 vd,zr5 E r h1 Q],k4⟩
  omega
 obtain rfl:r=3:=by omega
 refine r7_ ?_;refine cF_ ?_;rw [<- J];refine r12_ ?_;refine ⟨_,_,⟨_,_,rfl,rfl,rfl⟩,Mem.Less.refl _,?_⟩;exact uJ ho rfl (by rw [J];exact zr6 E vd)
end
section
open Go.RowKit
open Mv Num Loser Skew
namespace Skew
def smpL (l:List Nat):List Nat:=if chkL l=0 then places l.length else []
theorem zge (n:Nat) (A:n<=4096):(places n).length<=3000:=by have:=zmz n;omega
end Skew
theorem zuF (S:Mem):Sl 1 (λx=>[gI x]) S (.slice none 0 0) ([] : List Nat):=Sl.nil _ _ _
theorem zmH (v:tu) (l:List Nat) (S:Mem) (A:RowR S v l) :
  ACall prog 31 #[v] S λr S'=>∃ u,r = .tuple #[u,.int .i64 (chkL l)]/\RdL gI (smpL l) S u S':=by
 obtain ⟨a,cap,rfl,V,U,Q⟩:=id A;by_cases hc:chkL l=0
 ·have H:=(zpE hc).1;have C:smpL l=places l.length:=if_pos hc;rw [C];refine k_E1 13 func31 ?_;refine r10_ ?_;refine cp_ rfl (zem _ l _ A) ?_;rw [hc];refine r9_ ?_;refine cF_ ?_;refine r6_ ?_;refine ca_ rfl (zpF _ l.length rfl vd S) ?_;rintro u I J;refine r5_ ?_;refine ⟨_,I,⟨_,_,rfl,⟨_,_,rfl,rfl,rfl⟩,rfl⟩,Mem.Less.refl _,?_⟩;exact ⟨u,rfl,J⟩
 have C:smpL l = []:=if_neg hc;rw [C];have e1:=zs_ hc;refine k_E1 13 func31 ?_;refine r10_ ?_;refine cp_ rfl (zem _ l _ A) ?_;rw [e1];refine r9_ ?_;refine kw_ [0,2,3,4,8] ?_;refine cT_ ?_;refine r9_ ?_;refine ⟨_,S,⟨_,_,rfl,⟨_,_,rfl,rfl,rfl⟩,rfl⟩,zae,?_⟩;exact ⟨_,rfl,Mem.Less.refl _,zuF _⟩
end
section
namespace Drw
theorem ask {α : Type}:∀ (a:Ask α) (w:tv),w.drawn<=(w.ask a).2.drawn
 | .done a,w=>Nat.le_refl _
 | .ask q r k,w=>by
  unfold World.ask;dsimp only;split
  ·exact ask (k 0) w
  exact Nat.le_trans (Nat.le_succ _) (ask (k _) { w with drawn:=w.drawn+1 })
theorem sys (w:tv) (c:Sys):w.drawn<=(w.sys c).2.drawn:=by
 have h:=ask (Kernel.perform c w.os) w;unfold World.sys;split
 ·exact Nat.le_refl _
 rename_i e;rw [e] at h;exact h
def rw_ {α : Type}:Result α->tv
  | .ok _ w=>w
  | .halt _ w=>w
theorem far {p:tz} {w w':tv} {a:Addr} {v:tu} {b:Bool} {l:List Addr} (h:w.farStore p a v b = .ok (w',l)):w'.drawn=w.drawn:=by
 unfold World.farStore at h;split at h
 ·split at h
  ·rename_i e;cases h;unfold World.viewStore at e;simp only [bind,Except.bind,pure,Except.pure,throw,throwThe,MonadExceptOf.throw] at e
   repeat' split at e
   all_goals first | (cases e;done) | (cases e;rfl)
  cases h
 cases h
theorem run {α : Type} (p:tz):∀ (s:Sem α) (w:tv),w.drawn<=(rw_ (s.run p w)).drawn
 | .pure a,w=>Nat.le_refl _
 | .load m a k,w=>by
  unfold Sem.run;split
  ·exact run p _ w
  split
  ·exact run p _ w
  exact Nat.le_refl _
 | .store m a v k,w=>by
  have h:v.oneCell'=false\/(Sem.store m a v k).run p w=(match w.cell? a with
   | some _ => if w.frozen? a then .halt (.unsupported (.unsafePointer "a write to bytes that a string shares")) w else k.run p (w.setCell a v)
   | none=>match w.farStore p a v (m == .atomic) with
    | .ok (w,_)=>k.run p w
    | .error h=>.halt h w):=by cases v <;> first | exact .inr rfl | exact .inl rfl
  rcases h with h | h
  ·cases v <;> first | exact Nat.le_refl _ | cases h
  rw [h];split
  ·split
   ·exact Nat.le_refl _
   exact run p k (w.setCell a v)
  split
  ·rename_i e;rw [<- far e];exact run p k _
  exact Nat.le_refl _
 | .new o k,w=>by unfold Sem.run;exact run p (k w.heap.size) { w with heap:=w.heap.push o }
 | .shape r k,w=>by unfold Sem.run;exact run p _ _
 | .freeze a n k,w=>by
  unfold Sem.run;refine Nat.le_trans (Nat.le_of_eq ?_) (run p k _);unfold World.freeze;split <;> rfl
 | .frozen a k,w=>by unfold Sem.run;exact run p _ _
 | .getObj r k,w=>by
  unfold Sem.run;split <;> first | exact Nat.le_refl _ | exact run p _ _
 | .setObj r o k,w=>by
  unfold Sem.run;split <;> first | exact Nat.le_refl _ | exact run p k { w with heap:=w.heap.setIfInBounds r o }
 | .choose q k,w=>by
  unfold Sem.run;split
  ·exact run p _ _
  exact Nat.le_trans (Nat.le_succ _) (run p (k _) { w with drawn:=w.drawn+1 })
 | .sys c k,w=>by unfold Sem.run;exact Nat.le_trans (sys w c) (run p _ _)
 | .program k,w=>by unfold Sem.run;exact run p _ _
 | .mark m k,w=>by unfold Sem.run;exact run p _ _
 | .halt h,w=>Nat.le_refl _
theorem ok_ {α : Type} {p:tz} {s:Sem α} {w w':tv} {v : α} (e:s.run p w = .ok v w'):w.drawn<=w'.drawn:=by have:=run p s w;rw [e] at this;exact this
theorem ha_ {α : Type} {p:tz} {s:Sem α} {w w':tv} {v:Halt} (e:s.run p w = .halt v w'):w.drawn<=w'.drawn:=by have:=run p s w;rw [e] at this;exact this
def G (n:Nat):GStep->Prop
  | .go _ w _ | .comm _ _ _ _ w _ | .spawn _ _ w _ | .count _ w _ | .timer _ _ w _ | .alone _ _ w _ | .newcoro _ _ _ w _ | .coroswitch _ _ _ w _ | .collect _ w _ | .watch _ w _=>n<=w.drawn
  | .ended ..=>True
theorem G.after {n:Nat} {A:Array Event} {s:GStep}:G n (GStep.after A s)=G n s:=by cases s <;> rfl
theorem gElim {α : Type} {n:Nat} {o:Option α} {a:GStep} {f : α->GStep} (A:G n a) (C:∀ x,G n (f x)):G n (o.elim a f):=by cases o with
 | none=>exact A
 | some x=>exact C x
section
variable {p:tz} {n:Nat} {w:tv} (h:n<=w.drawn)
include h
theorem gThrow (fr:Frame) (m:String):G n (endThrow fr m w):=h
theorem gWith (A:Nat) (t:tt) (o:Outcome):G n (endWith w A t o):=by
 unfold endWith;dsimp only
 repeat' first | trivial | split
theorem gPrinting (fr:Frame) (v:tu):G n (endPrinting p fr v w):=by
 unfold endPrinting;dsimp only
 repeat' first | exact gThrow h _ _ | trivial | split
theorem gFatal (fr:Frame) (cs:List Frame) (d:Option Dying) (m:String):G n (endFatal p fr cs d m w):=by
 unfold endFatal;dsimp only
 repeat' first | exact Nat.le_trans h (ok_ (by assumption)) | trivial | split
theorem gWrite (fr:Frame) (d:Dying) (f:Fatal):G n (writeOn p fr d f w):=by
 unfold writeOn;simp only [Sem.runT_eq];split
 ·trivial
 generalize hs:(if (!(f.whole && f.begun))=true then _ else _:Sem Unit)=s;clear hs
 repeat' first | exact Nat.le_trans h (ok_ (Prod.mk.inj (by assumption)).1) | exact Nat.le_trans h (ha_ (Prod.mk.inj (by assumption)).1) | trivial | split
theorem gDie (fr:Frame) (d:Dying):G n (die p fr d w):=by
 unfold die;simp only [Sem.runT_eq]
 repeat' first | exact h | exact gWrite h _ _ _ | exact gWith h _ _ _ | exact Nat.le_trans h (ok_ (by assumption)) | exact gPrinting (Nat.le_trans h (ha_ (by assumption))) _ _ | trivial | rw [G.after] | split
theorem gEarly (fr:Frame) (cs:List Frame) (d:Option Dying) (g:Nat):G n (early p fr cs d g w):=by
 unfold early;dsimp only
 repeat' first | exact h | exact Nat.le_trans h (ok_ (by assumption)) | trivial | split | (simp only [G];exact Nat.le_trans h (ok_ (by assumption)))
theorem gReturn (A:Bool) (fr:Frame) (cs:List Frame) (d:Option Dying) (v:tu):G n (doReturn p A fr cs d v w):=by
 unfold doReturn
 repeat' first | exact h | trivial | split
theorem gDeferred (fr:Frame) (cs:List Frame) (d:Option Dying) (e:Deferred):G n (callDeferred p fr cs d e w):=by
 unfold callDeferred;simp only [Sem.runT_eq]
 repeat' first | exact h | exact Nat.le_trans h (ok_ (by assumption)) | exact Nat.le_trans h (ha_ (by assumption)) | exact gFatal (Nat.le_trans h (ha_ (by assumption))) _ _ _ _ | exact gThrow (Nat.le_trans h (ha_ (by assumption))) _ _ | trivial | rw [G.after] | split
theorem gUnwind (A:Bool) (fr:Frame) (cs:List Frame) (d:Option Dying):G n (unwind p A fr cs d w):=by
 unfold unwind;simp only [Sem.runT_eq]
 repeat' first | exact h | exact gDeferred h _ _ _ _ | exact gReturn h _ _ _ _ _ | exact gPrinting h _ _ | exact Nat.le_trans h (ok_ (by assumption)) | exact gReturn (Nat.le_trans h (ok_ (by assumption))) _ _ _ _ _ | trivial | rw [G.after] | split
theorem gApply (fr:Frame) (cs:List Frame) (d:Option Dying) (s:Sem Next) (b:Bool):G n (stepG.apply p b fr cs d s w):=by
 unfold stepG.apply;simp only [Sem.runT_eq];generalize hs:(if b=true then (Sem.run p s w,_) else (Sem.run p s w,_):Result Next × Array Event)=r;have A:r.1=Sem.run p s w:=by rw [<- hs];split <;> rfl
 rw [A]
 repeat' first | exact h | exact Nat.le_trans h (ok_ (by assumption)) | exact Nat.le_trans h (ha_ (by assumption)) | exact gFatal (Nat.le_trans h (ha_ (by assumption))) _ _ _ _ | exact gThrow (Nat.le_trans h (ha_ (by assumption))) _ _ | exact gThrow (Nat.le_trans h (ok_ (by assumption))) _ _ | exact gEarly (Nat.le_trans h (ha_ (by assumption))) _ _ _ _ | trivial | rw [G.after] | split
theorem gStep (A:Bool) (g:Goroutine) (b:Bool):G n (stepG p A g w b):=by
 obtain ⟨fr,cs,st,d,o⟩:=g;simp only [stepG];split
 ·exact gDie h _ _
 ·unfold stepG.exec;simp only [Sem.runT_eq]
  repeat' first | exact h | exact gApply h _ _ _ _ _ | exact gApply (Nat.le_trans h (ok_ (by assumption))) _ _ _ _ _ | exact gReturn (Nat.le_trans h (ok_ (by assumption))) _ _ _ _ _ | exact Nat.le_trans h (ok_ (by assumption)) | exact Nat.le_trans h (ha_ (by assumption)) | trivial | rw [G.after] | refine gElim ?_ λ_=>?_ | split | (unfold stepG.oper;split)
 exact gUnwind h _ _ _ _
end
def O (n:Nat):Stepped->Prop
  | .next m=>n<=m.world.drawn
  | .ended ..=>True
theorem waiting {rest:Rest} {cases:Array CommCase} {w w':tv} (h:waitingAt rest cases w=some w'):w'.drawn=w.drawn:=by
 unfold waitingAt at h
 repeat' split at h
 all_goals first | (cases h;done) | (cases h;rfl)
theorem comm {p:tz} {n:Nat} {w:tv} (h:n<=w.drawn) (rest:Rest) (C:Array Goroutine) (i:Nat) (g:Goroutine) (cases:Array CommCase) (b:Bool) (A:CommShape):O n (communicate p rest C i g cases b A w).1:=by
 unfold communicate;dsimp only
 repeat' first | exact h | trivial | split
 all_goals first | (simp only [O];done) | simp only [O]
 all_goals first | (rw [waiting (by assumption)];exact h) | exact Nat.le_trans h (ok_ (by assumption)) | exact Nat.le_trans h (Nat.le_trans (ok_ (by assumption)) (ok_ (by assumption))) | exact Nat.le_trans h (Nat.le_trans (ok_ (by assumption)) (ha_ (by assumption)))
theorem lookO {p:tz} {n:Nat} {w:tv} (h:n<=w.drawn) (A:Array Goroutine) (rest:Rest):O n (look p A rest w):=by
 unfold look;dsimp only
 repeat' first | exact h | trivial | (simp only [O];exact Nat.le_trans h (ok_ (by assumption))) | split
theorem opened {m m':Machine} {A:Addr} (h:timerOp.opened m A=some m'):m'.world.drawn=m.world.drawn:=by
 unfold timerOp.opened at h
 repeat' split at h
 all_goals first | (cases h;done) | (cases h;rfl)
theorem timer {m m':Machine} {A:TimerOp} {v:tu} (h:timerOp m A = .ok (v,m')):m'.world.drawn=m.world.drawn:=by
 cases A <;> simp only [timerOp,timerOp.named,retime,drain] at h
 all_goals repeat' split at h
 all_goals first | (cases h;done) | (cases h;rfl) | (cases h;dsimp only [Machine.withTimers];exact opened (by assumption))
theorem runO {p:tz} {n:Nat} {m:Machine} (h:n<=m.world.drawn) (i:Nat) (b:Bool):O n (Go.runT p m i b).1:=by
 simp only [Go.runT];generalize m.gs.swapAt! _ _=C;have A:=gStep (p:=p) h (i == 0) C.1 b;generalize stepG p (i == 0) C.1 m.world b=s at *;cases s <;> dsimp only
 case comm=>exact comm A _ _ _ _ _ _ _
 case collect=>exact lookO A _ _
 case timer =>
  split
  ·rename_i e;exact Nat.le_trans A (Nat.le_of_eq (timer e).symm)
  all_goals first | trivial | exact A
 all_goals repeat' first | exact A | trivial | split
theorem serveO {p:tz} {n:Nat} {m:Machine} (h:n<=m.world.drawn) (k:Nat):O n (serve p m k):=by
 unfold serve;dsimp only
 repeat' first | exact h | trivial | split
def M (n:Nat):Move->Prop
  | .goroutine m _=>n<=m.world.drawn
  | .machine s _=>O n s
theorem askOnM {p:tz} {n:Nat} {m:Machine} (h:n<=m.world.drawn):M n (askOn p m):=by
 unfold askOn;dsimp only
 repeat' first | exact h | trivial | exact serveO (Nat.le_trans h (ok_ (by assumption))) _ | split
 all_goals repeat first | exact h | refine Nat.le_trans ?_ (ok_ (by assumption)) | simp only [M,O,Machine.advanceTo]
theorem moveM {p:tz} {n:Nat} {m:Machine} (h:n<=m.world.drawn):M n (move p m):=by
 have C:∀ m:Machine,n<=m.world.drawn->M n (Go.ask p m):=λm h=>by
  unfold Go.ask;split
  ·split
   ·trivial
   ·have A:=lookO (p:=p) (Nat.le_trans h (ok_ (by assumption))) m.gs m.rest;split
    ·rename_i e;rw [e] at A;exact askOnM A
    exact A
   exact askOnM (Nat.le_trans h (ok_ (by assumption)))
  exact askOnM h
 unfold move
 repeat' first | exact h | trivial | exact C _ h | split
theorem stepO {p:tz} {n:Nat} {m:Machine} (h:n<=m.world.drawn):O n (step p m):=by
 have A:=moveM (p:=p) h;unfold step stepT;split
 ·rename_i e;rw [e] at A;exact runO A _ _
 rename_i e;rw [e] at A;exact A
theorem runN {p:tz} {n:Nat}:∀ (k:Nat) (m:Machine),n<=m.world.drawn->O n (Go.runN p k m)
 | 0,m,h=>h
 | k+1,m,h=>by
  have hs:=stepO (p:=p) h;unfold Go.runN;split
  ·rename_i e;rw [e] at hs;exact runN k _ hs
  exact hs
theorem calls {P:tz} {f:tA} {args:Array tu} {w:tv} {v:tu} {R:tv->Prop} (h:Calls P f args w λe w'=>e = .returned v/\R w'):Calls P f args w λe w'=>e = .returned v/\R w'/\w.drawn<=w'.drawn:=λcs=>by
 obtain ⟨e,w',fr,⟨rfl,A⟩,hc,C⟩:=h cs;refine ⟨_,w',fr,⟨rfl,A,?_⟩,hc,C⟩;obtain ⟨k,H⟩:=hc;have:=runN (p:=P) k (lone (Frame.enter P f args .normal) cs w) (Nat.le_refl w.drawn);rw [H] at this;exact this
end Drw
end
section
open Go.RowKit
open Mv
namespace Srt
theorem rw_ {p:Prop} (h:p:=by first | omega | (simp only [Array.size_setIfInBounds];omega)):p:=h
theorem sb_ {p:Prop} (h:p:=by first | rfl | (refine zan ?_;first | omega | (dsimp only;omega))):p:=h
section
variable {P:tz} {N:Nat} {ops:Array Oper} {E:Env} {S:Mem} {K:Env->Mem->Prop} {ty:tx} {pos:String} {aft:Array Edge}
theorem vm {α : Type} {os:List Oper} {T e:tx} {x y:tw} {b o room:Nat} (enc : α->tu) {d:Array α} {v : α} (k:Nat) (J:ev E x=some (.pointer (some ⟨b,o,none⟩))) (Q:ev E y=some (enc v)) (hs:sizeT P T=some 1)
  (A:(enc v).cells = #[enc v]/\(enc v).oneCell'=true) (C:S.own b=some ⟨e,d.toList.map enc,room⟩) (I:k<d.size) (H:o=k) (h:ARun P N ops os K E (S.set b ⟨e,(d.setIfInBounds k v).toList.map enc,room⟩)) :
  ARun P N ops (⟨none,.store T x y,ty,pos,aft,none⟩ :: os) K E S:=by
 subst H;refine vk J Q hs A.1 C (by simpa using I) A.2 ?_;have:(d.toList.map enc).set o (enc v)=(d.setIfInBounds o v).toList.map enc:=by simp
 rw [this];exact h
end
variable {α : Type} [Inhabited α]
theorem zak {S:Mem} {b:Nat} {T:tx} {enc : α->tu} {d:Array α} {room o k:Nat} (h:S.own b=some ⟨T,d.toList.map enc,room⟩) (A:k<d.size) (C:o=k):S.rd ⟨b,o,none⟩=some (enc d[k]!):=by
 rw [zdv h,C,getElem!_pos d k A];simp [A]
structure Rw (okP : α->Prop) (n:Nat) (d:Array α):Prop where
  size:d.size=n
  ok:∀ i,i<n->okP d[i]!
theorem Rw.swp {okP : α->Prop} {n:Nat} {d:Array α} (h:Rw okP n d) (i j:Nat) (hi:i<n) (H:j<n):Rw okP n (Go.Sort.swp d i j):=by
 refine ⟨by rw [Go.Sort.size_swp,h.size],λk I=>?_⟩;have hs:=h.size;by_cases A:k=j
 ·subst A;rw [Go.Sort.swp_right d i k vd];exact h.ok i hi
 by_cases C:k=i
 ·subst C;rw [Go.Sort.swp_left d k j vd A];exact h.ok j H
 rw [Go.Sort.swp_other d i j k C A];exact h.ok k I
/-! ### The plain sort's steps -/
section
variable (lt : α -> α->Bool)
theorem zwA {a j:Nat} {d:Array α} (A:a<j+1) (C:lt d[j+1]! d[j]! = true):Go.Sort.insInner lt a j (Go.Sort.swp d (j+1) j)=Go.Sort.insInner lt a (j+1) d:=by
 rw [Go.Sort.insInner.eq_def lt a (j+1) d];simp only [];rw [if_pos (by simp [A,C])]
theorem zwB {a j:Nat} {d:Array α} (A:lt d[j+1]! d[j]! = false):d=Go.Sort.insInner lt a (j+1) d:=by
 rw [Go.Sort.insInner];rw [if_neg (by simp [A])]
theorem zuG {a j:Nat} {d:Array α} (A : ¬ a<j):d=Go.Sort.insInner lt a j d:=by
 cases j with
 | zero=>rfl
 | succ j=>rw [Go.Sort.insInner];rw [if_neg (by simp;omega)]
theorem zr8 {a b i:Nat} {d:Array α} (h:i<b):Go.Sort.insOuter lt a b (i+1) (Go.Sort.insInner lt a i d)=Go.Sort.insOuter lt a b i d:=by
 rw [Go.Sort.insOuter.eq_def lt a b i d,if_pos h]
theorem zpG {a b i:Nat} {d:Array α} (h : ¬ i<b):d=Go.Sort.insOuter lt a b i d:=by
 rw [Go.Sort.insOuter,if_neg h]
def child (hi first root:Nat) (d:Array α):Nat:=if 2*root+2<hi/\lt d[first+(2*root+1)]! d[first+(2*root+2)]! = true then 2*root+2 else 2*root+1
theorem zpH {hi first A:Nat} {d:Array α} (h:hi<=2*A+1):d=Go.Sort.siftDown lt hi first A d:=by
 rw [Go.Sort.siftDown,dif_pos h]
theorem zgf {hi first A:Nat} {d:Array α} (h : ¬ hi<=2*A+1) (C:lt d[first+A]! d[first+child lt hi first A d]! = false):d=Go.Sort.siftDown lt hi first A d:=by
 rw [Go.Sort.siftDown,dif_neg h];unfold child at C;by_cases hc:2*A+2<hi/\lt d[first+(2*A+1)]! d[first+(2*A+2)]! = true
 ·rw [if_pos hc] at C;rw [if_pos (by simp;exact hc),if_pos (by simp [C])]
 rw [if_neg hc] at C;rw [if_neg (λh=>hc (by simp only [Bool.and_eq_true,decide_eq_true_eq] at h;exact h)),if_pos (by simp [C])]
theorem zkp {hi first A:Nat} {d:Array α} (h : ¬ hi<=2*A+1) (C:lt d[first+A]! d[first+child lt hi first A d]! = true) :
  Go.Sort.siftDown lt hi first (child lt hi first A d) (Go.Sort.swp d (first+A) (first+child lt hi first A d))=Go.Sort.siftDown lt hi first A d:=by
 rw [Go.Sort.siftDown.eq_def lt hi first A d,dif_neg h];unfold child at *;by_cases hc:2*A+2<hi/\lt d[first+(2*A+1)]! d[first+(2*A+2)]! = true
 ·rw [if_pos hc] at C ⊢;rw [if_pos (by simp;exact hc),if_neg (by simp [C]),dif_pos hc.1]
 rw [if_neg hc] at C ⊢;rw [if_neg (λh=>hc (by simp only [Bool.and_eq_true,decide_eq_true_eq] at h;exact h)),if_neg (by simp [C])]
theorem zuH {p : α->Bool} {d:Array α} {i j:Nat} (h:i<=j) (A:p d[i]! = true):Go.Sort.scanUp p d j (i+1)=Go.Sort.scanUp p d j i:=by
 rw [Go.Sort.scanUp.eq_def p d j i,if_pos (by simp [h,A])]
theorem zpI {p : α->Bool} {d:Array α} {i j:Nat} (h : ¬ i<=j):i=Go.Sort.scanUp p d j i:=by
 rw [Go.Sort.scanUp,if_neg (by simp;omega)]
theorem zuI {p : α->Bool} {d:Array α} {i j:Nat} (h:p d[i]! = false):i=Go.Sort.scanUp p d j i:=by
 rw [Go.Sort.scanUp,if_neg (by simp [h])]
theorem zkq {p : α->Bool} {d:Array α} {i j:Nat} (h:i<=j+1) (A:p d[j+1]! = true):Go.Sort.scanDown p d i j=Go.Sort.scanDown p d i (j+1):=by
 rw [Go.Sort.scanDown.eq_def p d i (j+1)];simp only [];rw [if_pos (by simp [h,A])]
theorem zh5 {p : α->Bool} {d:Array α} {i j:Nat} (h : ¬ i<=j):j=Go.Sort.scanDown p d i j:=by
 cases j with
 | zero=>rfl
 | succ j=>rw [Go.Sort.scanDown];rw [if_neg (by simp;omega)]
theorem zkr {p : α->Bool} {d:Array α} {i j:Nat} (A:0<j) (h:p d[j]! = false):j=Go.Sort.scanDown p d i j:=by
 cases j with
 | zero=>omega
 | succ j=>rw [Go.Sort.scanDown];rw [if_neg (by simp [h])]
theorem zpJ {a i j A C:Nat} {d:Array α} (H:A=Go.Sort.scanUp (λx=>lt x d[a]!) d j i) (I:C=Go.Sort.scanDown (λx=>!lt x d[a]!) d A j) (h:C<A):(C,d)=Go.Sort.partLoop lt a i j d:=by
 rw [Go.Sort.partLoop_eq,<- H,<- I,if_pos h]
theorem zuJ {a i j A C:Nat} {d:Array α} (H:A=Go.Sort.scanUp (λx=>lt x d[a]!) d j i) (I:C=Go.Sort.scanDown (λx=>!lt x d[a]!) d A j) (h : ¬ C<A):Go.Sort.partLoop lt a (A+1) (C-1) (Go.Sort.swp d A C)=Go.Sort.partLoop lt a i j d:=by
 rw [Go.Sort.partLoop_eq lt a i j d,<- H,<- I,if_neg h]
theorem zks {a i j A C:Nat} {d:Array α} (H:A=Go.Sort.scanUp (λx=>!lt d[a]! x) d j i) (I:C=Go.Sort.scanDown (λx=>lt d[a]! x) d A j) (h:C<A):(A,d)=Go.Sort.partEqLoop lt a i j d:=by
 rw [Go.Sort.partEqLoop_eq,<- H,<- I,if_pos h]
theorem zpK {a i j A C:Nat} {d:Array α} (H:A=Go.Sort.scanUp (λx=>!lt d[a]! x) d j i) (I:C=Go.Sort.scanDown (λx=>lt d[a]! x) d A j) (h : ¬ C<A):Go.Sort.partEqLoop lt a (A+1) (C-1) (Go.Sort.swp d A C)=Go.Sort.partEqLoop lt a i j d:=by
 rw [Go.Sort.partEqLoop_eq lt a i j d,<- H,<- I,if_neg h]
theorem zxb {d:Array α} {b i:Nat} (h:i<b) (A:lt d[i]! d[i-1]! = false):Go.Sort.scanSorted lt d b (i+1)=Go.Sort.scanSorted lt d b i:=by
 rw [Go.Sort.scanSorted.eq_def lt d b i,if_pos (by simp [h,A])]
theorem zwC {d:Array α} {b i:Nat} (h : ¬ i<b):i=Go.Sort.scanSorted lt d b i:=by
 rw [Go.Sort.scanSorted,if_neg (by simp;omega)]
theorem zxc {d:Array α} {b i:Nat} (A:lt d[i]! d[i-1]! = true):i=Go.Sort.scanSorted lt d b i:=by
 rw [Go.Sort.scanSorted,if_neg (by simp [A])]
theorem zxd {j:Nat} {d:Array α} (A:lt d[j+1]! d[j]! = true):Go.Sort.shiftDown lt j (Go.Sort.swp d (j+1) j)=Go.Sort.shiftDown lt (j+1) d:=by
 rw [Go.Sort.shiftDown.eq_def lt (j+1) d];simp only [];rw [if_neg (by simp [A])]
theorem zxe {j:Nat} {d:Array α} (A:lt d[j+1]! d[j]! = false):d=Go.Sort.shiftDown lt (j+1) d:=by
 rw [Go.Sort.shiftDown];rw [if_pos (by simp [A])]
theorem zxf {b j:Nat} {d:Array α} (h:j<b) (A:lt d[j]! d[j-1]! = true):Go.Sort.shiftUp lt b (j+1) (Go.Sort.swp d j (j-1))=Go.Sort.shiftUp lt b j d:=by
 rw [Go.Sort.shiftUp.eq_def lt b j d,if_pos h,if_neg (by simp [A])]
theorem zxg {b j:Nat} {d:Array α} (A:lt d[j]! d[j-1]! = false):d=Go.Sort.shiftUp lt b j d:=by
 rw [Go.Sort.shiftUp];split
 ·rw [if_pos (by simp [A])]
 rfl
theorem zwD {b j:Nat} {d:Array α} (h : ¬ j<b):d=Go.Sort.shiftUp lt b j d:=by
 rw [Go.Sort.shiftUp,if_neg h]
theorem zwE {i j:Nat} {d:Array α} (h:i<j):Go.Sort.reverseLoop (i+1) (j-1) (Go.Sort.swp d i j)=Go.Sort.reverseLoop i j d:=by
 rw [Go.Sort.reverseLoop.eq_def i j d,if_pos h]
theorem zuK {i j:Nat} {d:Array α} (h : ¬ i<j):d=Go.Sort.reverseLoop i j d:=by
 rw [Go.Sort.reverseLoop,if_neg h]
end
end Srt
end
section
open Go.RowKit
open Mv
namespace Srt
open Go.Sort (swp scanUp scanDown partLoop partition partEqLoop partitionEqual)
theorem nt_ {p:Bool} (h:(!p)=true):p=false:=by cases p <;> simp_all
theorem nf_ {p:Bool} (h:(!p)=false):p=true:=by cases p <;> simp_all
def ltN (x y:Nat):Bool:=decide (x<y)
def PartR (α : Type) [Inhabited α] (M:Array α->Mem) (okP : α->Prop) (n:Nat) (q:Nat × Bool × Array α) (a e:Nat) (r:tu) (S':Mem):Prop :=
  r = .tuple #[.int .i64 (q.1:Int),.bool q.2.1]/\S'=M q.2.2/\Rw okP n q.2.2/\a<=q.1/\q.1<e
def PartEqR (α : Type) [Inhabited α] (M:Array α->Mem) (okP : α->Prop) (n:Nat) (q:Nat × Array α) (a e:Nat) (r:tu) (S':Mem):Prop :=
  r = .int .i64 (q.1:Int)/\S'=M q.2/\Rw okP n q.2/\a<q.1/\q.1<=e
section
variable {α : Type} [Inhabited α] (lt : α -> α->Bool)
theorem zpL {M:Array α->Mem} {okP : α->Prop} {n a p J i j:Nat} {d A:Array α} (hd:A=swp d a p) (I:i=scanUp (λx=>lt x A[a]!) A J (a+1)) (C:j=scanDown (λx=>!lt x A[a]!) A i J) (H:j<i)
  (R:Rw okP n (swp A j a)) (Q:a<=j) (U:j<=J):PartR α M okP n (partition lt d a (J+1) p) a (J+1) (.tuple #[.int .i64 (j:Int),.bool true]) (M (swp A j a)):=by
 have e:partition lt d a (J+1) p=(j,true,swp A j a):=by
  unfold partition;simp only [Nat.add_sub_cancel,<- hd,<- I,<- C];rw [if_pos H]
 rw [e];exact ⟨rfl,rfl,R,Q,by show j<J+1;omega⟩
theorem zpM {M:Array α->Mem} {okP : α->Prop} {n a p J i j A:Nat} {d C H:Array α} (hd:C=swp d a p) (V:i=scanUp (λx=>lt x C[a]!) C J (a+1)) (Q:j=scanDown (λx=>!lt x C[a]!) C i J) (U : ¬ j<i)
  (I:(A,H)=partLoop lt a (i+1) (j-1) (swp C i j)) (R:Rw okP n (swp H A a)) (W:a<=A) (X:A<=J):PartR α M okP n (partition lt d a (J+1) p) a (J+1) (.tuple #[.int .i64 (A:Int),.bool false]) (M (swp H A a)):=by
 have e:partition lt d a (J+1) p=(A,false,swp H A a):=by
  unfold partition;simp only [Nat.add_sub_cancel,<- hd,<- V,<- Q];rw [if_neg U,<- I]
 rw [e];exact ⟨rfl,rfl,R,W,by show A<J+1;omega⟩
theorem zmI {M:Array α->Mem} {okP : α->Prop} {n a p J i:Nat} {d C A:Array α} (hd:C=swp d a p) (H:(i,A)=partEqLoop lt a (a+1) J C) (R:Rw okP n A) (Q:a+1<=i) (I:i<=J+1) :
  PartEqR α M okP n (partitionEqual lt d a (J+1) p) a (J+1) (.int .i64 (i:Int)) (M A):=by
 have e:partitionEqual lt d a (J+1) p=(i,A):=by
  unfold partitionEqual;rw [Nat.add_sub_cancel,<- hd,<- H]
 rw [e];exact ⟨rfl,rfl,R,Q,I⟩
end
end Srt
end
section
open Go.RowKit
open Mv Srt
theorem zkt (x:Nat) (h:x<2 ^ 64):Lib.bitLen x=Go.Sort.bitsLen x:=by
 induction x using Nat.strongRecOn with
 | _ x C =>
  by_cases A:x=0
  ·subst A;rfl
  rw [Lib.bitLen_half x A h,C (x / 2) vd vd];unfold Go.Sort.bitsLen;rw [if_neg A,Nat.log2_def x];by_cases H:2<=x
  ·rw [if_pos H,if_neg vd];omega
  obtain rfl:x=1:=by omega
  simp
theorem zlA (x:Nat) (A:x<9223372036854775808) (S:Mem):ACall prog 137 #[.int .u64 (x:Int)] S λr S'=>r = .int .i64 (Go.Sort.bitsLen x:Nat)/\S'=S:=by
 refine uq λw=>?_;have h:=Tryz.bits_Len (x:Int) w vd vd;rw [Int.toNat_natCast,zkt x vd] at h;exact h
theorem zeo (L:Nat) (h:L<=1048576):Go.Sort.bitsLen L<=21:=(Go.Sort.bitsLen_le_iff L 21).2 vd
theorem zwF (A:Int) (L:Nat) (U:A=L) (Q:L<=1048576) (S:Mem):ACall prog 246 #[.int .i64 A] S λr S'=>r = .int .u64 ((1 <<< Go.Sort.bitsLen L:Nat):Int)/\S'=S:=by
 subst U;have C:=zeo L Q;have H:IntKind.u64.wrap (1*2 ^ ((Go.Sort.bitsLen L:Nat):Int).toNat)=((1 <<< Go.Sort.bitsLen L:Nat):Int):=by
  rw [Int.toNat_natCast,Nat.one_shiftLeft,Int.one_mul];have V:(2:Nat) ^ Go.Sort.bitsLen L<=2 ^ 21:=Nat.pow_le_pow_right vd C;have J:((2:Int) ^ Go.Sort.bitsLen L)=((2 ^ Go.Sort.bitsLen L:Nat):Int):=by simp
  rw [J];generalize 2 ^ Go.Sort.bitsLen L=M at *;exact IntWalk.u64_in _ vd
 generalize I:Go.Sort.bitsLen L=K at *;refine k_E1 7 func246 ?_;refine r9_ ?_;refine cp_ rfl ((I ▸ zlA L vd S)) ?_;refine rC (Calm.as (congrArg (Value.int .u64) H) (vi rfl rfl (zew vd (by show ((K:Nat):Int)<=64;omega)))) ?_;refine r4_ ?_;refine ⟨_,S,⟨_,_,rfl,rfl,rfl⟩,zae,?_⟩;exact ⟨rfl,rfl⟩
theorem zgg (a b:Nat) (C:a<18446744073709551616) (A:b<18446744073709551616):bits .xor .u64 (a:Int) (b:Int)=((a ^^^ b:Nat):Int):=by
 have h:a ^^^ b<2 ^ 64:=Nat.xor_lt_two_pow vd vd;show IntKind.u64.wrap (((BitVec.ofInt 64 (a:Int)) ^^^ (BitVec.ofInt 64 (b:Int))).toNat:Int)=_;rw [BitVec.ofInt_natCast,BitVec.ofInt_natCast,BitVec.toNat_xor,BitVec.toNat_ofNat,BitVec.toNat_ofNat,Nat.mod_eq_of_lt vd,Nat.mod_eq_of_lt vd];exact IntWalk.u64_in _ vd
theorem zlB (n:Nat):IntKind.u64.wrap (n:Int)=((n % 18446744073709551616:Nat):Int):=by
 simp [IntKind.wrap,IntKind.bits,IntKind.signed]
def xorB (x:Nat):Blk:=⟨339,[.int .u64 (x:Int)],1⟩
theorem zuL (c:Nat) (r:UInt64) (S:Mem) (hc:Fresh S c) :
  ACall prog 247 #[.pointer (some ⟨c,0,none⟩)] (S.set c (xorB r.toNat)) λv S'=>v = .int .u64 (((Go.Sort.xorNext r).toNat:Nat):Int)/\S'=S.set c (xorB (Go.Sort.xorNext r).toNat):=by
 have U:r.toNat<18446744073709551616:=r.toNat_lt;rw [Go.Sort.xorNext_toNat];unfold Go.Sort.xorNextN;generalize r.toNat=x at *;have p:(18446744073709551616:Nat)=2 ^ 64:=by decide
 obtain ⟨y,C⟩ : ∃ y,y=x ^^^ (x*8192 % 18446744073709551616):=⟨_,rfl⟩;have J:y<18446744073709551616:=by rw [C,p];exact Nat.xor_lt_two_pow vd vd
 obtain ⟨z,A⟩ : ∃ z,z=y ^^^ (y / 128):=⟨_,rfl⟩;have Q:z<18446744073709551616:=by rw [A,p];exact Nat.xor_lt_two_pow vd vd
 have e1:∀ (t:tx) (a b:tw),Bin prog .shl t a b (.int .u64 (x:Int)) (.int .u64 13) (.int .u64 ((x*8192 % 18446744073709551616:Nat):Int)):=λt a b=>by
  have h:=zew (P:=prog) (t:=t) (x:=a) (y:=b) (k:=.u64) (k':=.u64) (a:=(x:Int)) (b:=13) (by decide) (by decide);have e:IntKind.u64.wrap ((x:Int)*2 ^ (13:Int).toNat)=((x*8192 % 18446744073709551616:Nat):Int):=zlB (x*8192);rw [e] at h;exact h
 have e2:∀ (t:tx) (a b:tw),Bin prog .shr t a b (.int .u64 (y:Int)) (.int .u64 7) (.int .u64 ((y / 128:Nat):Int)):=λt a b =>
  zm1 (P:=prog) (t:=t) (x:=a) (y:=b) (k:=.u64) (k':=.u64) (a:=(y:Int)) (b:=7) (by decide) (by decide)
 have e3:∀ (t:tx) (a b:tw),Bin prog .shl t a b (.int .u64 (z:Int)) (.int .u64 17) (.int .u64 ((z*131072 % 18446744073709551616:Nat):Int)):=λt a b=>by
  have h:=zew (P:=prog) (t:=t) (x:=a) (y:=b) (k:=.u64) (k':=.u64) (a:=(z:Int)) (b:=17) (by decide) (by decide);have e:IntKind.u64.wrap ((z:Int)*2 ^ (17:Int).toNat)=((z*131072 % 18446744073709551616:Nat):Int):=zlB (z*131072);rw [e] at h;exact h
 have H:=zgg x (x*8192 % 18446744073709551616) U (Nat.mod_lt _ (by decide));have I:=zgg y (y / 128) J vd;have V:=zgg z (z*131072 % 18446744073709551616) Q (Nat.mod_lt _ (by decide));rw [<- C] at H;rw [<- A] at I;simp only [<- C,<- A];clear C A;unfold xorB;refine k_E1 33 func247 ?_;refine r6_ ?_;refine dr_ [i0_,i1_,i2_,i3_,i4_,i5_,i6_,i7_,i8_,o9_] [9] ?_;refine r6_ ?_;refine dP (hc:=λ_=>vi rfl rfl (e1 _ _ _)) (h:=?_);refine dP (hc:=λ_=>vi rfl rfl (zhj H)) (h:=?_);refine s1_ ?_;refine zac rfl ?_;refine s1_ ?_;refine zad ⟨nz_,?_⟩;refine r3_ ?_;refine dr_ [i0_,i1_,i2_,i3_,i4_,i5_,i6_,i7_,i8_,o9_] [9] ?_;refine r6_ ?_;refine dP (hc:=λ_=>vi rfl rfl (e2 _ _ _)) (h:=?_);refine dP (hc:=λ_=>vi rfl rfl (zhj I)) (h:=?_);refine s1_ ?_;refine zac rfl ?_;refine s1_ ?_;refine zad ⟨nz_,?_⟩;refine r3_ ?_;refine dr_ [i0_,i1_,i2_,i3_,i4_,i5_,i6_,i7_,i8_,o9_] [9] ?_;refine r6_ ?_;refine dP (hc:=λ_=>vi rfl rfl (e3 _ _ _)) (h:=?_);refine dP (hc:=λ_=>vi rfl rfl (zhj V)) (h:=?_);refine s1_ ?_;refine zac rfl ?_;refine s1_ ?_;refine zad ⟨nz_,?_⟩;refine r11_ ?_;refine ⟨_,_,⟨_,_,rfl,rfl,rfl⟩,Mem.Less.refl _,?_⟩;exact ⟨rfl,rfl⟩
theorem Mv.Mem.Knows.ro {S:Mem} {a:Addr} {cs:List tu} {w:tv} (h:S.Knows a cs) (A:View S w):(roM w).Knows a cs:=zfx (h w A)
theorem Mv.Sl.ro {α : Type} {n:Nat} {f : α->List tu} {S:Mem} {v:tu} {l:List α} {w:tv} (h:Sl n f S v l) (H:View S w):Sl n f (roM w) v l:=by
 obtain ⟨a,c,e,C,I,A⟩:=h;exact ⟨a,c,e,C,I,A.imp_right λ⟨b,o,e,k⟩=>⟨b,o,e,λi hi=>(k i hi).ro H⟩⟩
theorem lays {P:tz} {f:tA} {args:Array tu} {v:tu} {w:tv} (h:ACall P f args (roM w) λv' S'=>v'=v):Calls P f args w λe w'=>e = .returned v /\ ∃ q os,w'=Go.Sort.grow (w.drewN q) os :=
 (Drw.calls h.callsW).mono λe w' ⟨C,A,hd⟩=>⟨C,by
  obtain ⟨p,rfl⟩:=regrown_of_below A;refine ⟨p.d-w.drawn,p.os,?_⟩;have hd:w.drawn<=p.d:=hd;unfold redrawn World.drewN;rw [Nat.add_sub_cancel' hd]⟩
theorem zr9 (q:Option Addr) (cap:Nat) (A:tu) (S:Mem):ACall prog 205 #[.slice q 0 cap,.int .i64 0,.int .i64 0,A] S λr S'=>S'=S:=by
 refine k_E4 53 func205 ?_;refine r8_ ?_;refine AWP.loop (X:=Unit) (λ_=>[(0,.slice q 0 cap),(2,.int .i64 0),(8,.int .i64 1)]) (λ_=>S) (λ_=>True) (λ_=>0) (()) ⟨sb_,sb_,sb_,trivial⟩ (Mem.Less.refl _) (trivial) ?_;rintro _ _;(try dsimp only at *);refine r8_ ?_;refine cF_ ?_;refine r4_ ?_;refine ⟨_,S,rfl,Mem.Less.refl _,?_⟩;exact rfl
theorem zr_ (q:Option Addr) (cap:Nat) (A:tu) (S:Mem):ACall prog 141 #[.slice q 0 cap,.int .i64 0,.int .i64 0,.int .i64 0,A] S λr S'=>S'=S:=by
 refine k_E5 148 func141 ?_;refine r11_ ?_;refine AWP.loop (X:=Unit) (λ_=>[(0,.slice q 0 cap),(1,.int .i64 0),(2,.int .i64 0),(4,A)]) (λ_=>S) (λ_=>True) (λ_=>0) (()) ⟨rfl,rfl,rfl,rfl,trivial⟩ (Mem.Less.refl _) (trivial) ?_;rintro _ _;(try dsimp only at *);refine r16_ ?_;refine cT_ ?_;refine r6_ ?_;refine ca_ rfl (zr9 q cap A S) ?_;rintro _ H C;rw [C];clear C H;refine r7_ ?_;refine ⟨_,S,rfl,Mem.Less.refl _,?_⟩;exact rfl
theorem zi_ (q:Option Addr) (cap:Nat) (C:tu) (S:Mem):ACall prog 81 #[.slice q 0 cap,C] S λr S'=>r = .tuple #[]/\S'=S:=by
 refine k_E2 14 func81 ?_;refine r12_ ?_;refine cp_ rfl (zlA 0 vd _) ?_;refine s1_ ?_;refine ca_ rfl (zr_ q cap C S) ?_;rintro _ H A;rw [A];clear A H;refine s1_ ?_;refine ⟨_,S,rfl,Mem.Less.refl _,?_⟩;exact ⟨rfl,rfl⟩
theorem zh6 {S:Mem} {b n cap room m:Nat} {g:tA} {cb:Array tu} {cf:Nat->Nat->Int} (e:List Nat) (U:e.length=n) (V:∀ x ∈ e,x<m) (ag:n<=8192) (hb:Fresh S b) (Q:∀ args w,(callFunc g args).run prog w = .ok (.enter g args) w) (J:Go.Sort.SWO λx y=>decide (cf x y<0)) (hc:∀ w,View S w -> ∀ x y,x<m->y<m->ACall prog g (#[gI x,gI y] ++ cb) (roM w) λv _=>v = .int .i64 (cf x y)) :
  ACall prog 81 #[.slice (some ⟨b,0,none⟩) n cap,.func (.func g) #[] cb] (S.set b ⟨3,e.map gI,room⟩) λv S'=>v = .tuple #[] /\ ∃ A:List Nat,A.Perm e/\(A.Pairwise λx y=>¬ cf y x<0)/\S'=S.set b ⟨3,A.map gI,room⟩:=by
 cases e with
 | nil =>
  subst U;exact (zi_ _ _ _ _).mono λv S' ⟨I,C⟩=>⟨I,[],.nil,.nil,C⟩
 | cons x0 es =>
 have:Inhabited {a:Nat // a<m}:=⟨⟨x0,V x0 (List.mem_cons_self ..)⟩⟩;generalize x0 :: es=e at *;obtain ⟨L,H⟩ : ∃ L:List {a:Nat // a<m},L.map (·.1)=e:=⟨e.attachWith _ V,by simp⟩;have hl:L.length=n:=by rw [<- List.length_map (f:=(·.1)),H,U]
 have hs:=zsL (T:=3) (cap:=cap) (room:=room) (enc:=λx : {a:Nat // a<m}=>gI x.1) (cf:=λx y=>cf x.1 y.1) L hl vd hb (λw hw x y=>lays (hc w hw x.1 y.1 x.2 y.2)) λd w I C h3 Y=>Tryz.slices_SortFunc_f81 (λx : {a:Nat // a<m}=>gI x.1) (λ_=>rfl) (λx y=>cf x.1 y.1) ⟨λx=>J.irrefl x.1,λx y z=>J.trans x.1 y.1 z.1,λx y z=>J.ntrans x.1 y.1 z.1⟩ g cb b 0 cap d w Q I C h3 Y;have e1:∀ L:List {a:Nat // a<m},L.map (λx=>gI x.1)=(L.map (·.1)).map gI:=λL=>by rw [List.map_map];rfl
 rw [e1,H] at hs;refine hs.mono λv S' ⟨hv,W,p1,p2,X⟩=>⟨hv,W.map (·.1),H ▸ p1.map _,?_,by rw [X,e1]⟩;rw [List.pairwise_map];exact p2
end
section
open Go.RowKit
open Mv Num Loser Skew
def LvR (S:Mem) (p:Nat) (l:List Nat):Prop:=∃ vt vs,S.Knows ⟨p,0,none⟩ [vt]/\S.Knows ⟨p,1,none⟩ [vs]/\RowR S vt l/\IdxR S vs (places l.length)
theorem LvR.less {S S':Mem} {p:Nat} {l:List Nat} (h:LvR S p l) (A:S.Less S'):LvR S' p l:=by
 obtain ⟨Q,vs,J,H,C,I⟩:=h;exact ⟨Q,vs,J.less A,H.less A,C.less A,I.less A⟩
theorem LvR.ro {S:Mem} {p:Nat} {l:List Nat} {w:tv} (h:LvR S p l) (A:View S w):LvR (roM w) p l:=by
 obtain ⟨Q,vs,J,H,C,I⟩:=h;exact ⟨Q,vs,J.ro A,H.ro A,C.ro A,I.ro A⟩
theorem zck {n k:Nat} (A:k<numP n):plc n k=(places n)[k]'A:=by
 unfold plc;rw [List.getD_eq_getElem?_getD,List.getElem?_eq_getElem A];rfl
theorem zta (U:Int) (k c p:Nat) (l:List Nat) (ei:U=k) (S:Mem) (hc:S.Knows ⟨c,0,none⟩ [.pointer (some ⟨p,0,none⟩)]) (hv:LvR S p l) (C:k<numP l.length) (hl:l.length<=4096) :
  ACall prog 79 #[.int .i64 U,.pointer (some ⟨c,0,none⟩)] S λr S'=>S.Less S'/\RowR S' r (tkey l k):=by
 subst ei;obtain ⟨Q,vs,h1,h2,J,W⟩:=hv;obtain ⟨ps,pc,rfl,p1,p2,V⟩:=id W;obtain ⟨pb,po,rfl,H⟩:=V.resolve_left (λe=>by unfold numP at C;rw [e] at C;exact absurd C (Nat.not_lt_zero _));have ad:S.Knows ⟨pb,po+k*1,none⟩ [.int .i64 (plc l.length k:Int)]:=by rw [zck C];exact H k C
 have Y:(k:Int)<((places l.length).length:Nat):=by unfold numP at C;omega
 have ae:=(zdA l.length k C).2.2;unfold tkey;refine k_E2 18 func79 ?_;refine r6_ ?_;refine uT [13] mixed ?_;refine DG.look 0 (by kernel_rfl) (by kernel_rfl) rfl rfl rfl rfl (zab rfl) zae (ld_ zdH rfl) ?_;refine DG.pure 1 (by kernel_rfl) (by kernel_rfl) rfl rfl rfl rfl (zab rfl) (λ_=>Calm.nilCheck rfl) ?_;refine DG.pure 2 (by kernel_rfl) (by kernel_rfl) rfl rfl rfl rfl (zab rfl) (λ_=>Calm.fieldAddr zdZ rfl) ?_;refine DG.look 3 (by kernel_rfl) (by kernel_rfl) rfl rfl rfl rfl (zab rfl) zae (ld_ zfG rfl) ?_;refine DG.look 4 (by kernel_rfl) (by kernel_rfl) rfl rfl rfl rfl (zab rfl) zae (ld_ zdH rfl) ?_;refine DG.pure 5 (by kernel_rfl) (by kernel_rfl) rfl rfl rfl rfl (zab rfl) (λ_=>Calm.nilCheck rfl) ?_;refine DG.pure 6 (by kernel_rfl) (by kernel_rfl) rfl rfl rfl rfl (zab rfl) (λ_=>Calm.fieldAddr zd0 rfl) ?_;refine DG.look 7 (by kernel_rfl) (by kernel_rfl) rfl rfl rfl rfl (zab rfl) zae (ld_ zfE rfl) ?_;refine DG.pure 8 (by kernel_rfl) (by kernel_rfl) rfl rfl rfl rfl (zab rfl) (λ_=>Calm.move rfl) ?_;refine DG.pure 9 (by kernel_rfl) (by kernel_rfl) rfl rfl rfl rfl (zab rfl) (λ_=>vK underlying41 zbk rfl rfl vd vd) ?_;refine DG.look 10 (by kernel_rfl) (by kernel_rfl) rfl rfl rfl rfl (zab rfl) zae (ld_ zaq rfl) ?_;refine DG.two 11 12 (by kernel_rfl) rfl ?_ rfl ?_
 ·refine cp_ rfl (zen Q l _ (plc l.length k) rfl _ (J.less zae) vd) ?_;unfold triV;refine zad ⟨ny_,?_⟩;refine DG.only 12 (by kernel_rfl) rfl ?_;refine ARun.alloc (zab rfl) zcU ?_;intro X I;have A:=I
  repeat ((with_reducible replace A:=zaa A);obtain ⟨A,_⟩:=A)
  refine nl_ ?_;refine zad ⟨ny_,?_⟩;refine DG.only 13 (by kernel_rfl) rfl ?_;refine s1_ ?_;refine zad ⟨nz_,?_⟩;refine ut (by kernel_rfl) ?_;refine r8_ ?_;refine ⟨_,_,⟨_,_,rfl,rfl,rfl⟩,Mem.Less.refl _,?_⟩;exact ⟨zae,vN (g:=gU) (l:=tri l (plc l.length k)) (vf _ _ _) List.prefix_rfl rfl (Nat.le_refl _) (by decide)⟩
 refine ARun.alloc (zab rfl) zcU ?_;intro X I;have A:=I
 repeat ((with_reducible replace A:=zaa A);obtain ⟨A,_⟩:=A)
 refine nl_ ?_;refine zad ⟨ny_,?_⟩;refine DG.only 11 (by kernel_rfl) rfl ?_;refine ca_ rfl (zen Q l _ (plc l.length k) rfl _ (J.less zae) vd) ?_;rintro _ _ ⟨rfl,rfl⟩;unfold triV;refine zad ⟨ny_,?_⟩;refine DG.only 13 (by kernel_rfl) rfl ?_;refine s1_ ?_;refine zad ⟨nz_,?_⟩;refine ut (by kernel_rfl) ?_;refine r8_ ?_;refine ⟨_,_,⟨_,_,rfl,rfl,rfl⟩,Mem.Less.refl _,?_⟩;exact ⟨zae,vN (g:=gU) (l:=tri l (plc l.length k)) (vf _ _ _) List.prefix_rfl rfl (Nat.le_refl _) (by decide)⟩
def keyF (c:Nat):tu:=.func (.func 79) #[] #[.pointer (some ⟨c,0,none⟩)]
theorem zuM (a b V c p:Nat) (l:List Nat) (S:Mem) (h6:S.Knows ⟨V,0,none⟩ [keyF c]) (hc:S.Knows ⟨c,0,none⟩ [.pointer (some ⟨p,0,none⟩)]) (Q:LvR S p l) (X:a<numP l.length) (W:b<numP l.length) (U:l.length<=4096) :
  ACall prog 82 #[gI a,gI b,.pointer (some ⟨V,0,none⟩)] S λr S'=>r = .int .i64 (cmpB (tkey l a) (tkey l b))/\S'=S:=by
 unfold gI keyF at *;refine k_E3 13 func82 ?_;refine r6_ ?_;refine dr_ [i0_,i1_,i3_,i4_,o2_,o5_,o6_,i7_] [] ?_;refine r4_ ?_;refine zac rfl ?_;refine vq (zab rfl) zvt rfl rfl (zta _ a c p l rfl _ hc Q X U) ?_;rintro va S1 ⟨C,J⟩;refine zad ⟨ny_,?_⟩;refine zac rfl ?_;refine vq (zab rfl) zvt rfl rfl (zta _ b c p l rfl _ (hc.less C) (Q.less C) W U) ?_;rintro Y S2 ⟨A,H⟩;have I:=C.trans A;refine zad ⟨ny_,?_⟩;refine zac rfl ?_;refine cp_ rfl (ze2 _ _ va Y _ (J.less A) H) ?_;refine zad ⟨ny_,?_⟩;refine r4_ ?_;refine ⟨_,S,⟨_,_,rfl,rfl,rfl⟩,I,?_⟩;exact ⟨rfl,rfl⟩
end
section
open Go.RowKit
open Mv Num Loser Skew Srt
theorem zsa {P:tz} {t e:tx} {x y:tw} (ht:P.underlying t=some (.array 3 e)) (he:sizeT P e=some 1) (hi:P.underlying e=some (.int .u64)) (hg:P.eqGuardType P.depth t=false) (V I U Q J W:Nat) :
  Bin P .neq t x y (.agg #[gU V,gU I,gU U]) (.agg #[gU Q,gU J,gU W]) (.bool (!decide ([V,I,U] = [Q,J,W]))):=λw=>by
 have hs:=zaZ he w;have h1:∀ d a b,(Op.equalIn (d+1) e (gU a) (gU b)).run P w = .ok (decide (a=b)) w:=λd a b=>by
  unfold gU;rw [run_equalIn_int w d e .u64 .u64 _ _ hi];congr 1;rw [Bool.eq_iff_iff];simp only [beq_iff_eq,decide_eq_true_eq];omega
 simp only [Sem.run_bind,run_eqGuard_agg w .neq t x y _ _ hg,Result.andThen_ok,run_neq_struct];have hE:∀ d,(Op.equalIn (d+1+1) t (.agg #[gU V,gU I,gU U]) (.agg #[gU Q,gU J,gU W])).run P w = .ok (decide ([V,I,U] = [Q,J,W])) w:=λd=>by
  have X:∀ (cs:Array tu) (k:Nat) (v:tu),cs[k]?=some v->(part e cs k).run P w = .ok v w:=λcs k v hv=>by
   have Y:plainT P e=true:=(by unfold plainT;rw [hi]);simp only [part,Sem.run_bind,zcM Y,Result.andThen_ok,Bool.false_eq_true,if_false,hv,Sem.run_pure]
  rw [Op.equalIn];simp only [Sem.run_bind,run_underlying ht,Result.andThen_ok,hs,Std.Legacy.Range.forIn_eq_forIn_range',Std.Legacy.Range.size,Nat.sub_zero,Nat.add_sub_cancel,Nat.div_one,List.range'_succ,List.range'_zero,List.forIn_cons,List.forIn_nil];have p0:∀ C A H:tu,(part e #[C,A,H] 0).run P w = .ok C w:=λC A H=>X _ 0 _ rfl;have p1:∀ C A H:tu,(part e #[C,A,H] 1).run P w = .ok A w:=λC A H=>X _ 1 _ rfl;have p2:∀ C A H:tu,(part e #[C,A,H] 2).run P w = .ok H w:=λC A H=>X _ 2 _ rfl;by_cases c0:V=Q <;> by_cases c1:I=J <;> by_cases c2:U=W <;> simp [c0,c1,c2,p0,p1,p2,h1]
 rw [hE 9998];rfl
def redM (S:Mem) (b1 b6 p:Nat):Mem:=(S.set b1 ⟨85,[.pointer (some ⟨p,0,none⟩)],1⟩).set b6 ⟨159,[keyF b1],1⟩
theorem swoK (l:List Nat):Go.Sort.SWO λx y=>decide (cmpB (tkey l x) (tkey l y)<0):=by
 have e:∀ a b,decide (cmpB (tkey l a) (tkey l b)<0)=lessB (tkey l a) (tkey l b):=λa b=>zhC _ _;exact ⟨λa=>by rw [e];exact zaD _,λa b c=>by rw [e,e,e];exact zbu _ _ _,λa b c=>by rw [e,e,e];exact Ord.zi4 _ _ _⟩
theorem zku {l e:List Nat} (hs:e.Pairwise λx y=>¬ cmpB (tkey l y) (tkey l x)<0):∀ i j,i<j->j<e.length->lessB (tkey l (e.getD j 0)) (tkey l (e.getD i 0))=false:=λi j A C=>by
 have:=List.pairwise_iff_getElem.1 hs i j vd C A;rw [zal _ _ _ C,zal _ _ _ vd,<- zhC];exact decide_eq_false this
theorem zpN (l e o:List Nat) (I:e.Perm (List.range (numP l.length))) (hs:∀ i j,i<j->j<e.length->lessB (tkey l (e.getD j 0)) (tkey l (e.getD i 0))=false) (J:o.length=numP l.length)
  (H:∀ j,j<e.length->o.getD (e.getD j 0) 0=1+Ord.ups (λa b=>lessB (tkey l a) (tkey l b)) e j):o=red l:=by
 have U:=zf_ (tkey l) _ e I hs;refine List.ext_getElem (by rw [J,zaY]) λk Q V=>?_;obtain ⟨j,C,e1⟩:=List.getElem_of_mem (I.mem_iff.2 (List.mem_range.2 (by rw [<- J];exact Q)));have A:e.getD j 0=k:=by rw [zal _ _ _ C];exact e1
 have:=H j C;rw [U j C,A,zal _ _ _ Q] at this;rw [this,zlr];rfl
theorem zmJ (l e:List Nat) (i:Nat) (hs:∀ i j,i<j->j<e.length->lessB (tkey l (e.getD j 0)) (tkey l (e.getD i 0))=false) (hi:i<e.length) :
  (if (decide (i=0) || !decide (tkey l (e.getD (i-1) 0)=tkey l (e.getD i 0)))=true then (if i=0 then 0 else 1+Ord.ups (λa b=>lessB (tkey l a) (tkey l b)) e (i-1))+1 else (if i=0 then 0 else 1+Ord.ups (λa b=>lessB (tkey l a) (tkey l b)) e (i-1)))=1+Ord.ups (λa b=>lessB (tkey l a) (tkey l b)) e i:=by
 cases i with
 | zero=>rfl
 | succ i =>
  rw [if_neg (Nat.succ_ne_zero i),Nat.add_sub_cancel,Ord.ups];have C:=hs i (i+1) vd hi;by_cases A:tkey l (e.getD i 0)=tkey l (e.getD (i+1) 0)
  ·rw [decide_eq_false (Nat.succ_ne_zero i),Bool.false_or,decide_eq_true A,A,zaD];rfl
  have H:lessB (tkey l (e.getD i 0)) (tkey l (e.getD (i+1) 0))=true:=by
   cases hc:lessB (tkey l (e.getD i 0)) (tkey l (e.getD (i+1) 0)) with
   | true=>rfl
   | false=>exact absurd (za3 _ _ hc C) A
  rw [decide_eq_false (Nat.succ_ne_zero i),Bool.false_or,decide_eq_false A,H,if_pos rfl];show 1+_+1=_;omega
theorem zpO (l e o:List Nat) {m i k U:Nat} (Q:e.Perm (List.range m)) (X:o.length=m) (hi:i<e.length) (W:∀ j,j<i->o.getD (e.getD j 0) 0=1+Ord.ups (λa b=>lessB (tkey l a) (tkey l b)) e j) (A:e.getD i 0=k) (I:U=1+Ord.ups (λa b=>lessB (tkey l a) (tkey l b)) e i) :
  ∀ j,j<i+1->(o.set k U).getD (e.getD j 0) 0=1+Ord.ups (λa b=>lessB (tkey l a) (tkey l b)) e j:=by
 intro j hj;have C:∀ q,q<e.length->e.getD q 0<m:=λq V=>by rw [zal e q 0 V];exact List.mem_range.1 (Q.mem_iff.1 (List.getElem_mem V))
 have Y:=C i hi;rcases Nat.lt_or_ge j i with h | h
 ·have H:k≠e.getD j 0:=λh'=>by
   have J:e.Nodup:=Q.nodup_iff.2 List.nodup_range;rw [<- A,zal e i 0 hi,zal e j 0 vd] at h';exact absurd h'.symm (List.pairwise_iff_getElem.1 J j i vd hi h)
  rw [List.getD_eq_getElem?_getD,List.getElem?_set_ne H,<- List.getD_eq_getElem?_getD,W j h]
 obtain rfl:j=i:=by omega
 rw [A,List.getD_eq_getElem?_getD,List.getElem?_set_self vd,I];rfl
theorem zpP (l:List Nat) (h:numP l.length=0):many l=0:=zpc l 0 (λy A=>by have:=zs1 l y A;omega) (.inr rfl)
theorem zmK (p:Nat) (l:List Nat) (S:Mem) (hv:LvR S p l) (hl:l.length<=4096) :
  ACall prog 32 #[.pointer (some ⟨p,0,none⟩)] S λr S'=>∃ u,r = .tuple #[u,.int .i64 (many l:Nat)]/\RdL gU (red l) S u S':=by
 have aG:=hv;obtain ⟨vt,vs,h1,h2,h3,h4⟩:=hv;obtain ⟨ps,pc,rfl,p1,p2,p3⟩:=id h4;have aA:=zge l.length hl;obtain ⟨m,W⟩ : ∃ m,m=(places l.length).length:=⟨_,rfl⟩;have ad:numP l.length=m:=W.symm;rw [<- W] at h2 p1 p2 aA;refine k_E1 84 func32 ?_;refine r2_ ?_;refine vB (zab rfl) rfl rfl ?_;intro I f1;have g1:=f1
 repeat ((with_reducible replace g1:=zaa g1);obtain ⟨g1,_⟩:=g1)
 refine nl_ ?_;refine r11_ ?_;refine ARun.makeSlice (zab rfl) zat rfl rfl vd vd vd vd ?_;intro C am;have U:=am
 repeat ((with_reducible replace U:=zaa U);obtain ⟨U,_⟩:=U)
 refine r3_ ?_;simp only [Nat.mul_one,zaT,Int.toNat_natCast];refine r9_ ?_;refine AWP.loop (X:=Nat) (λx=>[(1,.pointer (some ⟨I,0,none⟩)),(4,.slice (some ⟨C,0,none⟩) m m),(18,.int .i64 m),(19,.int .i64 x)]) (λx=>(S.set I ⟨85,[.pointer (some ⟨p,0,none⟩)],1⟩).set C ⟨3,(List.range x).map gI ++ List.replicate (m-x) (gI 0),m⟩) (λx=>x<=m) (λx=>m-x) (0) ⟨rfl,rfl,rfl,rfl,trivial⟩ (Mem.Less.refl _) (Nat.zero_le _) ?_;rintro i hi;(try dsimp only at *);by_cases hc:i<m
 ·refine r6_ ?_;refine cT_ ?_;have a0:((List.range i).map gI ++ List.replicate (m-i) (gI 0)).length=m:=by simp;omega
  refine r19_ ?_;simp only [Nat.zero_add,Nat.mul_one,Int.toNat_natCast];rw [show (Value.int .i64 (i:Int))=gI i from rfl,zhu gI (List.range i) 0 m i i (by simp) hc,<- List.range_succ,show gI i=Value.int .i64 (i:Int) from rfl];refine r5_ ?_;refine ⟨i+1,?_,?_,?_,?_⟩<;>try dsimp only
  ·exact ⟨sq_,sq_,sq_,sq_,trivial⟩
  ·exact Mem.Less.refl _
  ·exact hc
  omega
 obtain rfl:m=i:=by omega
 refine r6_ ?_;refine cF_ ?_;rw [Nat.sub_self,List.replicate_zero,List.append_nil];refine r8_ ?_;refine ARun.alloc (zab rfl) zju ?_;intro b6 f6;have g6:=f6
 repeat ((with_reducible replace g6:=zaa g6);obtain ⟨g6,_⟩:=g6)
 refine nl_ ?_;refine r3_ ?_;refine kw_ [1,4,18,19,20,6] ?_;refine AWP.less ((redM S I b6 p).set C ⟨3,(List.range m).map gI,m⟩) (by unfold redM keyF;exact zae) ?_;have Y:Fresh (redM S I b6 p) C:=zam (zam U ne_) ne_;have o1:(redM S I b6 p).own I=some ⟨85,[.pointer (some ⟨p,0,none⟩)],1⟩:=by unfold redM;exact own_
 have o6:(redM S I b6 p).own b6=some ⟨159,[keyF I],1⟩:=by unfold redM;exact own_
 have A:S.Less (redM S I b6 p):=by unfold redM;exact zae
 obtain ⟨S0,au⟩ : ∃ S0,S0=redM S I b6 p:=⟨_,rfl⟩;rw [<- au] at Y o1 o6 A ⊢;refine r4_ ?_;refine ca_ rfl (zh6 (room:=m) (m:=m) (List.range m) (by simp) (λx hx=>List.mem_range.1 hx) vd Y (λ_ _=>zbg (by kernel_rfl) _ _) (swoK l) (λw hw x y hx hy=>(zuM x y b6 I p l (roM w) ((vA o6 0 _ (λj v hj=>by rw [Nat.zero_add];exact hj)).ro hw) ((vA o1 0 _ (λj v hj=>by rw [Nat.zero_add];exact hj)).ro hw) ((aG.less A).ro hw) vd vd hl).mono λv _ h=>h.1)) ?_;rintro _ S9 ⟨rfl,e,hp,hs,h9⟩;rw [h9];clear h9 S9;replace hs:=zku hs;have av:e.length=m:=by rw [hp.length_eq,List.length_range]
 obtain ⟨T,hT⟩ : ∃ T,T=S0.set C ⟨3,e.map gI,m⟩:=⟨_,rfl⟩;have ai:S0.Less T:=by rw [hT];exact vh _ _ _ Y.1
 have oe:T.own C=some ⟨3,e.map gI,m⟩:=by rw [hT];exact vf _ _ _
 rw [<- hT];replace o1:=ai.own o1;replace A:=A.trans ai;clear Y o6 ai au hT f6 g6 am;refine r6_ ?_;refine ARun.makeSlice (zab rfl) zbi rfl rfl vd vd vd vd ?_;intro H ae;have aa:=ae
 repeat ((with_reducible replace aa:=zaa aa);obtain ⟨aa,_⟩:=aa)
 refine r3_ ?_;simp only [Nat.mul_one,zaT,Int.toNat_natCast];refine r14_ ?_;refine AWP.loop (X:=Nat × List Nat × Nat) (λx=>[(1,.pointer (some ⟨I,0,none⟩)),(4,.slice (some ⟨C,0,none⟩) m m),(7,.slice (some ⟨H,0,none⟩) m m),(8,.int .i64 x.2.2),(34,.slice (some ⟨C,0,none⟩) m m),(35,.int .i64 m),(36,.int .i64 x.1)]) (λx=>T.set H ⟨27,x.2.1.map gU,m⟩) (λx=>x.1<=m/\x.2.1.length=m/\x.2.2=(if x.1=0 then 0 else 1+Ord.ups (λa b=>lessB (tkey l a) (tkey l b)) e (x.1-1)) /\ ∀ j,j<x.1->x.2.1.getD (e.getD j 0) 0=1+Ord.ups (λa b=>lessB (tkey l a) (tkey l b)) e j) (λx=>m-x.1) ((0,List.replicate m 0,0)) ⟨sq_,sq_,sq_,sq_,sq_,sq_,sq_,trivial⟩ (by dsimp only;rw [List.map_replicate];exact Mem.Less.refl _) (⟨Nat.zero_le _,by simp,rfl,λj h=>absurd h (Nat.not_lt_zero _)⟩) ?_;rintro ⟨i,o,nm⟩ ⟨q1,q2,q3,q4⟩;(try dsimp only at *);by_cases hc:i<m
 ·refine r6_ ?_;refine cT_ ?_;have J:T.Less (T.set H ⟨27,o.map gU,m⟩):=vh _ _ _ ae.1;have aq:=J.own oe;have a6:=A.trans J;have a8:=J.own o1;have aH:e[i]'vd<m:=List.mem_range.1 (hp.mem_iff.1 (List.getElem_mem _));refine r8_ ?_;refine rC (Calm.load zaq rfl (zbe (g:=gI) i vd aq rw_)) ?_;refine r4_ ?_;obtain ⟨k,hk⟩ : ∃ k,k=e[i]'vd:=⟨_,rfl⟩;rw [<- hk] at aH ⊢;unfold gI;refine r2_ ?_;refine AWP.join (X:=Bool) (λx=>[(1,.pointer (some ⟨I,0,none⟩)),(4,.slice (some ⟨C,0,none⟩) m m),(7,.slice (some ⟨H,0,none⟩) m m),(8,.int .i64 nm),(9,.int .i64 i),(10,.int .i64 k),(34,.slice (some ⟨C,0,none⟩) m m),(35,.int .i64 m),(36,.int .i64 i),(73,.bool x)]) (λ_=>T.set H ⟨27,o.map gU,m⟩) (λx=>x=(decide (i=0) || !decide (tkey l (e.getD (i-1) 0)=tkey l k))) ?_ ?_
  ·by_cases h0:i=0
   ·refine dr_ [i0_,i1_,i2_,i3_,i4_,i5_,i6_,i7_,i8_,i9_,i10_,i11_,i12_,i13_,i14_,i15_,i16_,i17_,i19_,i20_,i21_,i22_,i23_,i24_,i25_,i26_,i27_,i28_,i29_,o18_,o30_,i31_,i32_] [] ?_;refine r29_ ?_;refine zac rfl ?_;refine s1_ ?_;refine zad ⟨ny_,?_⟩;refine zac rfl ?_;refine s1_ ?_;refine zad ⟨ny_,?_⟩;refine r3_ ?_;refine ⟨true,?_,?_,?_⟩<;>try dsimp only
    ·rw [decide_eq_true h0];rfl
    ·exact ⟨sq_,sq_,sq_,sq_,sq_,sq_,sq_,sq_,sq_,sq_,trivial⟩
    exact Mem.Less.refl _
   obtain ⟨j,rfl⟩ : ∃ q,i=q+1:=⟨i-1,by omega⟩;obtain ⟨pb,po,rfl,ak⟩:=p3.resolve_left (λe=>by rw [e] at W;simp at W;omega);have aF:e[j]'vd<m:=List.mem_range.1 (hp.mem_iff.1 (List.getElem_mem _));obtain ⟨k',af⟩ : ∃ k',k'=e[j]'vd:=⟨_,rfl⟩;rw [<- af] at aF;have k1:T.Knows ⟨pb,po+k*1,none⟩ [.int .i64 (plc l.length k:Int)]:=(by rw [zck vd];exact (ak k vd).less A);have k2:T.Knows ⟨pb,po+k'*1,none⟩ [.int .i64 (plc l.length k':Int)]:=(by rw [zck vd];exact (ak k' vd).less A);have a7:=(zdA l.length k vd).2.2;have a1:=(zdA l.length k' vd).2.2;refine dr_ [i0_,i1_,i2_,i3_,i4_,i5_,i6_,i7_,i8_,i9_,i10_,i11_,i12_,i13_,i14_,i15_,i16_,i17_,i19_,i20_,i21_,i22_,i23_,i24_,i25_,i26_,i27_,i28_,i29_,o18_,o30_,i31_,i32_] [] ?_;refine r15_ ?_
   first|refine k_d ?_|refine dL (hc:=Calm.as (show gI (e[j]'vd) = .int .i64 (k':Int) by rw [<- af];rfl) (Calm.load zaq rfl (zbe (g:=gI) j vd aq rw_))) (h:=?_)
   refine r13_ ?_;refine zac rfl ?_;refine vv 2 false 43 rfl (zab rfl) rfl (zab rfl) ztm rfl (zen vt l _ (plc l.length k') rfl _ (h3.less (A.trans J)) vd) ?_;rintro _ _ ⟨rfl,rfl⟩;refine zad ⟨ny_,?_⟩;refine zac rfl ?_;refine vv 2 false 43 rfl (zab rfl) rfl (zab rfl) ztm rfl (zen vt l _ (plc l.length k) rfl _ (h3.less (A.trans J)) vd) ?_;rintro _ _ ⟨rfl,rfl⟩;refine zad ⟨ny_,?_⟩
   first|refine k_d ?_|refine dG (hc:=λ_=>vi rfl rfl (zsa underlying157 zai underlying27 (by kernel_rfl) _ _ _ _ _ _)) (h:=?_)
   refine r2_ ?_;refine ⟨(!decide (tkey l k'=tkey l k)),?_,?_,?_⟩<;>try dsimp only
   ·rw [decide_eq_false h0,Nat.add_sub_cancel,zal e j 0 vd,<- af];rfl
   ·exact ⟨sq_,sq_,sq_,sq_,sq_,sq_,sq_,sq_,sq_,sq_,trivial⟩
   exact Mem.Less.refl _
  rintro x hx;intro _ _ V Q;(try dsimp only at *);refine zau ?_;refine AWP.sub _ V (AWP.less _ Q ?_);clear V Q;have ah:(if x=true then nm+1 else nm)=1+Ord.ups (λa b=>lessB (tkey l a) (tkey l b)) e i:=by rw [hx,q3,hk,<- zal e i 0 vd];exact zmJ l e i hs vd
  have aJ:e.getD i 0=k:=by rw [zal e i 0 vd];exact hk.symm
  have a4:=zs2 (λa b=>lessB (tkey l a) (tkey l b)) e i;refine AWP.join (X:=Unit) (λ_=>[(1,.pointer (some ⟨I,0,none⟩)),(4,.slice (some ⟨C,0,none⟩) m m),(7,.slice (some ⟨H,0,none⟩) m m),(8,.int .i64 ((1+Ord.ups (λa b=>lessB (tkey l a) (tkey l b)) e i:Nat):Int)),(10,.int .i64 k),(34,.slice (some ⟨C,0,none⟩) m m),(35,.int .i64 m),(36,.int .i64 i)]) (λ_=>T.set H ⟨27,o.map gU,m⟩) (λ_=>i<m) ?_ ?_
  ·cases x
   ·simp only [Bool.false_eq_true,if_false] at ah;refine cF_ ?_;refine s1_ ?_;refine ⟨(),?_,?_,?_⟩<;>try dsimp only
    ·exact hc
    ·exact ⟨sq_,sq_,sq_,sq_,sq_,sq_,sq_,sq_,trivial⟩
    exact Mem.Less.refl _
   simp only [if_true] at ah;refine cT_ ?_;refine r5_ ?_;refine ⟨(),?_,?_,?_⟩<;>try dsimp only
   ·exact hc
   ·exact ⟨sq_,sq_,sq_,sq_,sq_,sq_,sq_,sq_,trivial⟩
   exact Mem.Less.refl _
  rintro _ _;intro _ _ V Q;(try dsimp only at *);refine zau ?_;refine AWP.sub _ V (AWP.less _ Q ?_);clear V Q;obtain ⟨nx,ag⟩ : ∃ nx,nx=1+Ord.ups (λa b=>lessB (tkey l a) (tkey l b)) e i:=⟨_,rfl⟩;rw [<- ag] at ah ⊢;refine r10_ ?_;simp only [Nat.zero_add,Nat.mul_one,Int.toNat_natCast];refine r5_ ?_;refine ⟨(i+1,o.set k nx,nx),?_,?_,?_,?_⟩<;>try dsimp only
  ·exact ⟨sq_,sq_,sq_,sq_,sq_,sq_,sq_,trivial⟩
  ·rw [List.map_set];exact Mem.Less.refl _
  ·exact ⟨hc,by rw [List.length_set];exact q2,by rw [if_neg vd,Nat.add_sub_cancel];exact ag,λj hj=>zpO l e o hp vd vd q4 aJ ag j hj⟩
  omega
 obtain rfl:i=m:=by omega
 refine r6_ ?_;refine cF_ ?_;have aI:=zpN l e o (by rw [ad];exact hp) hs vd (by rw [av];exact q4);have aD:nm=many l:=by rw [q3];split;(exact (zpP l vd).symm);(rw [zrM l e (by rw [ad];exact hp) hs vd,av])
 rw [aI,aD];refine r13_ ?_;refine kw_ [1,4,7,8,34,35,36,37,2,3] ?_;refine s1_ ?_;refine ⟨_,_,⟨_,_,rfl,⟨_,_,rfl,rfl,rfl⟩,rfl⟩,Mem.Less.refl _,?_⟩;exact ⟨_,rfl,(A.trans (vh _ _ _ ae.1)),vN (g:=gU) (l:=red l) (vf _ _ _) List.prefix_rfl (by rw [zaY,ad]) (Nat.le_refl _) vd⟩
theorem zpQ {S:Mem} {b:Nat} {T:tx} {C vs:tu} {l:List Nat} {room:Nat} (H:S.own b=some ⟨T,[C,vs],room⟩) (J:RowR S C l) (I:IdxR S vs (places l.length)):LvR S b l :=
 ⟨C,vs,vA H 0 _ (λj v A=>by cases j with | zero=>exact A | succ j=>simp at A),vA H 1 _ (λj v A=>by cases j with | zero=>exact A | succ j=>simp at A),J,I⟩

theorem zsb (p:Nat) (ve:tu) (l e:List Nat) (S:Mem) (hv:LvR S p l) (he:IdxR S ve e) (W:e.Perm (List.range (numP l.length))) (hl:l.length<=4096) :
  ACall prog 89 #[.pointer (some ⟨p,0,none⟩),ve] S λr S'=>∃ x,Rk l e x/\RdL gZ x S r S':=by
 obtain ⟨vt,vs,h1,h2,h3,h4⟩:=hv;obtain ⟨ta,tc,rfl,_⟩:=id h3;obtain ⟨ea,ec,rfl,e1,e2,e3⟩:=id he;obtain ⟨pa,pc,rfl,p1,p2,p3⟩:=id h4;have aq:e.length=numP l.length:=by rw [W.length_eq,List.length_range]
 have ad:numP l.length<=3000:=zge l.length hl;have I:(places l.length).length=numP l.length:=rfl;rw [I] at p1 p2 h2;refine k_E2 35 func89 ?_;refine r13_ ?_;refine ARun.makeSlice (zab rfl) zat rfl rfl vd vd vd vd ?_;intro Q J;have C:=J
 repeat ((with_reducible replace C:=zaa C);obtain ⟨C,_⟩:=C)
 refine r3_ ?_;have hz:List.replicate (l.length+3) (Value.int .i64 0)=(List.replicate (l.length+3) (0:Int)).map gZ:=by rw [List.map_replicate];rfl
 rw [show ((l.length:Int)+3).toNat=l.length+3 by omega,Nat.mul_one,zaT,hz];refine r9_ ?_;refine AWP.loop (X:=Nat × List Int) (λx=>[(0,.pointer (some ⟨p,0,none⟩)),(5,.slice (some ⟨Q,0,none⟩) (l.length+3) (l.length+3)),(15,.slice ea e.length ec),(16,.int .i64 e.length),(17,.int .i64 x.1)]) (λx=>S.set Q ⟨3,x.2.map gZ,l.length+3⟩) (λx=>x.1<=e.length/\RkI l.length e x.1 x.2) (λx=>e.length-x.1) ((0,List.replicate (l.length+3) 0)) ⟨rfl,rfl,rfl,rfl,rfl,trivial⟩ (Mem.Less.refl _) (⟨Nat.zero_le _,RkI.start _ _⟩) ?_;rintro ⟨i,x⟩ ⟨hi,U⟩;(try dsimp only at *);by_cases hc:i<e.length
 ·refine r6_ ?_;refine cT_ ?_;have au:=U.len;obtain ⟨eb,eo,rfl,Y⟩:=e3.resolve_left (λh=>by rw [h] at hc;exact absurd hc (Nat.not_lt_zero _));have A:e[i]<numP l.length:=List.mem_range.1 (W.mem_iff.1 (List.getElem_mem hc));obtain ⟨pb,po,rfl,V⟩:=p3.resolve_left (λh=>by rw [<- I,h] at A;exact absurd A (Nat.not_lt_zero _));have k0:S.Knows ⟨eb,eo+i*1,none⟩ [.int .i64 (e[i] : Int)]:=Y i hc;have k1:S.Knows ⟨pb,po+e[i]*1,none⟩ [.int .i64 (plc l.length e[i] : Int)]:=by rw [zck A];exact V e[i] A
  have hb:=(zdA l.length e[i] A).2.2;have H:=U.step W hc;rw [zal e i 0 hc] at H;refine r29_ ?_;simp only [Nat.zero_add,Nat.mul_one,Int.toNat_natCast];refine r5_ ?_;refine ⟨(i+1,x.set (plc l.length e[i]) ((i+1:Nat):Int)),?_,?_,?_,?_⟩<;>try dsimp only
  ·exact ⟨sq_,sq_,sq_,sq_,sq_,trivial⟩
  ·rw [List.map_set];exact Mem.Less.refl _
  ·exact ⟨hc,H⟩
  omega
 obtain rfl:i=e.length:=by omega
 refine r6_ ?_;refine cF_ ?_;refine r12_ ?_;refine ⟨_,_,⟨_,_,rfl,rfl,rfl⟩,Mem.Less.refl _,?_⟩;exact ⟨x,U,vh _ _ _ J.1,vN (g:=gZ) (l:=x) (vf _ _ _) List.prefix_rfl U.len (Nat.le_refl _) vd⟩
def cf2 (l:List Nat) (x:List Int) (a b:Nat):Int:=orL [cmpU (at0 l a) (at0 l b),cmpZ (x.getD (a+1) 0) (x.getD (b+1) 0)]
def cf3 (l:List Nat) (x:List Int) (a b:Nat):Int:=orL [cmpU (at0 l a) (at0 l b),cmpU (at0 l (a+1)) (at0 l (b+1)),cmpZ (x.getD (a+2) 0) (x.getD (b+2) 0)]
theorem zkv (l:List Nat) (x:List Int) (a b:Nat):cf2 l x a b<0 <-> at0 l a<at0 l b\/at0 l a=at0 l b/\x.getD (a+1) 0<x.getD (b+1) 0:=by
 unfold cf2 orL orL orL;have C:=zfr (at0 l a) (at0 l b);have H:=zel (at0 l a) (at0 l b);have A:=zej (x.getD (a+1) 0) (x.getD (b+1) 0);have I:=zek (x.getD (a+1) 0) (x.getD (b+1) 0);split
 ·split <;> omega
 omega
theorem zuN (l:List Nat) (x:List Int) (a b:Nat):cf3 l x a b<0 <-> at0 l a<at0 l b\/at0 l a=at0 l b/\(at0 l (a+1)<at0 l (b+1)\/at0 l (a+1)=at0 l (b+1)/\x.getD (a+2) 0<x.getD (b+2) 0):=by
 unfold cf3 orL orL orL orL;have J:=zfr (at0 l a) (at0 l b);have C:=zel (at0 l a) (at0 l b);have Q:=zfr (at0 l (a+1)) (at0 l (b+1));have H:=zel (at0 l (a+1)) (at0 l (b+1));have A:=zej (x.getD (a+2) 0) (x.getD (b+2) 0);have I:=zek (x.getD (a+2) 0) (x.getD (b+2) 0);split
 ·split
  ·split <;> omega
  omega
 omega
theorem zuO (a b X V p:Nat) (W:tu) (l:List Nat) (x:List Int) (S:Mem) (h2:S.Knows ⟨X,0,none⟩ [.pointer (some ⟨p,0,none⟩)]) (h3:S.Knows ⟨V,0,none⟩ [W]) (hv:LvR S p l) (hx:Sl 1 i64s S W x) (H:x.length=l.length+3) (ha:a<l.length) (hb:b<l.length) (hl:l.length<=4096) :
  ACall prog 145 #[gI a,gI b,.pointer (some ⟨X,0,none⟩),.pointer (some ⟨V,0,none⟩)] S λr S'=>r = .int .i64 (cf2 l x a b)/\S'=S:=by
 unfold gI at *;obtain ⟨U,vs,v1,v2,v3,v4⟩:=hv;obtain ⟨xa,xc,rfl,x1,x2,x3⟩:=id hx;obtain ⟨Q,J,rfl,C⟩:=x3.resolve_left (λh=>by rw [h] at H;simp at H);have k1:S.Knows ⟨Q,J+(a+1)*1,none⟩ [.int .i64 (x.getD (a+1) 0)]:=by rw [zal x (a+1) 0 vd];exact C (a+1) vd
 have k2:S.Knows ⟨Q,J+(b+1)*1,none⟩ [.int .i64 (x.getD (b+1) 0)]:=by rw [zal x (b+1) 0 vd];exact C (b+1) vd
 refine k_E4 33 func145 ?_;refine r6_ ?_;refine dr_ [i0_,i1_,i2_,i3_,i4_,i6_,i7_,i8_,i9_,i10_,i13_,i14_,i15_,i16_,i17_,i18_,i19_,i20_,i21_,i22_,o5_,o11_,o12_,o23_,o24_,o25_,i26_] [] ?_;refine r20_ ?_;refine zac rfl ?_;refine cp_ rfl (zgd U l _ a rfl _ v3) ?_;refine zad ⟨ny_,?_⟩;refine zac rfl ?_;refine cp_ rfl (zgd U l _ b rfl _ v3) ?_;refine zad ⟨ny_,?_⟩;refine zac rfl ?_;refine cp_ rfl (zdj (at0 l a) (at0 l b) _) ?_;refine zad ⟨ny_,?_⟩;refine zac rfl ?_;refine cp_ rfl (zg_ (x.getD (a+1) 0) (x.getD (b+1) 0) _) ?_;refine zad ⟨ny_,?_⟩;refine zac rfl ?_;refine vO (cs:=[_,_]) (zab rfl) zat rfl rfl rfl rfl ?_;intro Y I;have A:=I
 repeat ((with_reducible replace A:=zaa A);obtain ⟨A,_⟩:=A)
 refine zad ⟨ny_,?_⟩;refine zac rfl ?_;refine ca_ rfl (zpv _ _ _ (zh3 own_)) ?_;rintro _ _ ⟨rfl,rfl⟩;refine zad ⟨ny_,?_⟩;refine r4_ ?_;refine ⟨_,S,⟨_,_,rfl,rfl,rfl⟩,zae,?_⟩;exact ⟨rfl,rfl⟩
theorem zsc (p s z:Nat) (iS iz:Int) (es:iS=s) (ez:iz=z) (vx:tu) (l e:List Nat) (x:List Int) (S:Mem) (hv:LvR S p l) (hx:Sl 1 i64s S vx x) (h1:∀ y ∈ l,1<=y) (he:Ord.SortedE (red l) e) (X:Rk l e x) (hs:s<l.length) (Y:z<l.length) (aj:s % 3≠0) (aq:z % 3=0) (hl:l.length<=4096) :
  ACall prog 91 #[.pointer (some ⟨p,0,none⟩),vx,.int .i64 iS,.int .i64 iz] S λr S'=>r = .bool (Ord.sl l s z)/\S'=S:=by
 subst es ez;have U:=X.len;obtain ⟨I,vs,v1,v2,v3,v4⟩:=hv;obtain ⟨xa,xc,rfl,x1,x2,x3⟩:=id hx;obtain ⟨xb,xo,rfl,Q⟩:=x3.resolve_left (λh=>by rw [h] at U;simp at U);have J:∀ k,k<x.length->S.Knows ⟨xb,xo+k*1,none⟩ [.int .i64 (x.getD k 0)]:=λk hk=>by rw [zal x k 0 hk];exact Q k hk
 have k1:=J (s+1) vd;have k2:=J (z+1) vd;have k3:=J (s+2) vd;have k4:=J (z+2) vd;clear J Q;by_cases h3:s % 3=1
 ·have A:decide (cf2 l x s z<0)=Ord.sl l s z:=by rw [Bool.eq_iff_iff,decide_eq_true_eq,zkv,zs3 l e x h1 he X s z hs Y vd vd vd]
  refine k_E4 81 func91 ?_;refine r13_ ?_;refine cT_ ?_;refine s1_ ?_;refine dr_ [i0_,i1_,i2_,i3_,i4_,i6_,i7_,i8_,i9_,i10_,i13_,i14_,i15_,i16_,i17_,i18_,i19_,i20_,i21_,i22_,o5_,o11_,o12_,o23_,o24_,o25_,i26_,i27_] [] ?_;refine r20_ ?_;refine zac rfl ?_;refine cp_ rfl (zgd I l _ s rfl _ v3) ?_;refine zad ⟨ny_,?_⟩;refine zac rfl ?_;refine cp_ rfl (zgd I l _ z rfl _ v3) ?_;refine zad ⟨ny_,?_⟩;refine zac rfl ?_;refine cp_ rfl (zdj (at0 l s) (at0 l z) _) ?_;refine zad ⟨ny_,?_⟩;refine zac rfl ?_;refine cp_ rfl (zg_ (x.getD (s+1) 0) (x.getD (z+1) 0) _) ?_;refine zad ⟨ny_,?_⟩;refine zac rfl ?_;refine vO (cs:=[_,_]) (zab rfl) zat rfl rfl rfl rfl ?_;intro ah W;have C:=W
  repeat ((with_reducible replace C:=zaa C);obtain ⟨C,_⟩:=C)
  refine zad ⟨ny_,?_⟩;refine zac rfl ?_;refine ca_ rfl (zpv _ _ _ (zh3 own_)) ?_;rintro _ _ ⟨rfl,rfl⟩;refine zad ⟨ny_,?_⟩;refine dP (hc:=λ_=>vi rfl rfl (zag (za9 _ _) A)) (h:=?_);refine r5_ ?_;refine ⟨_,S,⟨_,_,rfl,rfl,rfl⟩,zae,?_⟩;exact ⟨rfl,rfl⟩
 have A:decide (cf3 l x s z<0)=Ord.sl l s z:=by rw [Bool.eq_iff_iff,decide_eq_true_eq,zuN,zws l e x h1 he X s z hs Y vd vd vd]
 refine k_E4 81 func91 ?_;refine r13_ ?_;refine cF_ ?_;refine r3_ ?_;refine dr_ [i0_,i1_,i2_,i3_,i4_,i6_,i7_,i8_,i9_,i10_,i13_,i14_,i15_,i16_,i17_,i18_,i20_,i21_,i22_,i23_,i24_,i25_,i28_,i29_,i30_,i31_,i32_,i33_,i34_,i35_,i36_,i37_,o5_,o11_,o12_,o19_,o26_,o27_,o38_,o39_,o40_,i41_,i42_] [] ?_;refine r32_ ?_;refine zac rfl ?_;refine cp_ rfl (zgd I l _ s rfl _ v3) ?_;refine zad ⟨ny_,?_⟩;refine zac rfl ?_;refine cp_ rfl (zgd I l _ z rfl _ v3) ?_;refine zad ⟨ny_,?_⟩;refine zac rfl ?_;refine cp_ rfl (zdj (at0 l s) (at0 l z) _) ?_;refine zad ⟨ny_,?_⟩;refine zac rfl ?_;refine cp_ rfl (zgd I l _ (s+1) om_ _ v3) ?_;refine zad ⟨ny_,?_⟩;refine zac rfl ?_;refine cp_ rfl (zgd I l _ (z+1) om_ _ v3) ?_;refine zad ⟨ny_,?_⟩;refine zac rfl ?_;refine cp_ rfl (zdj (at0 l (s+1)) (at0 l (z+1)) _) ?_;refine zad ⟨ny_,?_⟩;refine zac rfl ?_;refine cp_ rfl (zg_ (x.getD (s+2) 0) (x.getD (z+2) 0) _) ?_;refine zad ⟨ny_,?_⟩;refine zac rfl ?_;refine vO (cs:=[_,_,_]) (zab rfl) zat rfl rfl rfl rfl ?_;intro an V;have H:=V
 repeat ((with_reducible replace H:=zaa H);obtain ⟨H,_⟩:=H)
 refine zad ⟨ny_,?_⟩;refine zac rfl ?_;refine ca_ rfl (zpv _ _ _ (zuz own_)) ?_;rintro _ _ ⟨rfl,rfl⟩;refine zad ⟨ny_,?_⟩;refine dP (hc:=λ_=>vi rfl rfl (zag (za9 _ _) A)) (h:=?_);refine r4_ ?_;refine ⟨_,S,⟨_,_,rfl,rfl,rfl⟩,zae,?_⟩;exact ⟨rfl,rfl⟩
theorem swo2 (l:List Nat) (x:List Int):Go.Sort.SWO λa b=>decide (cf2 l x a b<0):=by
 have e:∀ a b,decide (cf2 l x a b<0)=true <-> at0 l a<at0 l b\/at0 l a=at0 l b/\x.getD (a+1) 0<x.getD (b+1) 0:=λa b=>by rw [decide_eq_true_eq,zkv]
 have e0:∀ a b,decide (cf2 l x a b<0)=false <-> ¬ (at0 l a<at0 l b\/at0 l a=at0 l b/\x.getD (a+1) 0<x.getD (b+1) 0):=λa b=>by rw [<- e];simp
 exact ⟨λa=>by rw [e0];omega,λa b c A C=>by rw [e] at *;omega,λa b c A C=>by rw [e0] at *;omega⟩
theorem zkw (l e:List Nat) (x:List Int) (Q:∀ y ∈ l,1<=y) (J:Ord.SortedE (red l) e) (I:Rk l e x) (z:List Nat) (H:z.Perm (restP 0 l.length)) (hs:z.Pairwise λa b=>¬ cf2 l x b a<0):z.Pairwise (λa b=>Ord.sl l a b=true) :=
 zkj l e x Q J I _ H λi j A C=>by
  have:=List.pairwise_iff_getElem.1 hs i j vd C A;rw [zkv] at this;rw [zal _ _ _ C,zal _ _ _ vd];exact this
theorem zuP (p:Nat) (vx:tu) (l e:List Nat) (x:List Int) (S:Mem) (hv:LvR S p l) (hx:Sl 1 i64s S vx x) (h1:∀ y ∈ l,1<=y) (he:Ord.SortedE (red l) e) (hr:Rk l e x) (hl:l.length<=4096) :
  ACall prog 90 #[.pointer (some ⟨p,0,none⟩),vx] S λr S'=>∃ zs,zs.Perm (restP 0 l.length)/\zs.Pairwise (λa b=>Ord.sl l a b=true)/\RdL gI zs S r S':=by
 have al:=hv;obtain ⟨vt,vs,v1,v2,v3,v4⟩:=hv;obtain ⟨ta,tc,rfl,_⟩:=id v3;obtain ⟨xa,xc,rfl,_⟩:=id hx;refine k_E2 24 func90 ?_;refine r2_ ?_;refine vB (zab rfl) rfl rfl ?_;intro b2 f2;have H:=f2
 repeat ((with_reducible replace H:=zaa H);obtain ⟨H,_⟩:=H)
 refine nl_ ?_;refine vB (zab rfl) rfl rfl ?_;intro b3 f3;have J:=f3
 repeat ((with_reducible replace J:=zaa J);obtain ⟨J,_⟩:=J)
 refine nl_ ?_;refine r3_ ?_;obtain ⟨B,Q⟩ : ∃ B,B=(S.set b2 ⟨85,[.pointer (some ⟨p,0,none⟩)],1⟩).set b3 ⟨41,[.slice xa x.length xc],1⟩:=⟨_,rfl⟩;have A:S.Less B:=by rw [Q];exact zae
 have o2:B.own b2=some ⟨85,[.pointer (some ⟨p,0,none⟩)],1⟩:=by rw [Q];exact own_
 have o3:B.own b3=some ⟨41,[.slice xa x.length xc],1⟩:=by rw [Q];exact own_
 rw [<- Q];clear Q f2 f3 H J;refine r12_ ?_;refine AWP.loop (X:=Nat × List Nat × Option (Nat × Nat)) (λx=>[(2,.pointer (some ⟨b2,0,none⟩)),(3,.pointer (some ⟨b3,0,none⟩)),(5,outV x.2.2 x.2.1.length),(6,.int .i64 x.1)]) (λx=>outM B x.2.2 3 (x.2.1.map gI)) (λx=>x.1 % 3=0/\x.1<l.length+3/\x.2.1=restP 0 x.1/\OkO B x.2.2 x.2.1.length) (λx=>l.length+3-x.1) ((0,[],none)) ⟨rfl,rfl,rfl,rfl,trivial⟩ (Mem.Less.refl _) (⟨rfl,by dsimp only;omega,rfl,zbO _⟩) ?_;rintro ⟨i,L,o⟩ ⟨k1,k2,k3,U⟩;(try dsimp only at *);have q2:=zp4 (e:=3) (cs:=L.map gI) U o2;have aK:S.Less (outM B o 3 (L.map gI)):=A.trans (zaG U);have aM:L.length<=l.length+3:=by rw [k3,zaX 0 vd];omega
 by_cases hi:i<l.length
 ·refine r12_ ?_;refine cT_ ?_;refine r7_ ?_;refine vu (zab rfl) zat rfl rfl ?_;intro aE I;have C:=I
  repeat ((with_reducible replace C:=zaa C);obtain ⟨C,_⟩:=C)
  refine vF (zab rfl) zat rfl zcY (zcf U zcY I) rfl (news:=[_]) rds_ rfl vd (by simp [Value.oneCell']) vd vd ?_;intro ae af am;refine r10_ ?_;refine ⟨(i+3,L ++ [i],some (ae,af)),?_,?_,?_,?_⟩<;>try dsimp only
  ·exact ⟨sq_,sq_,sq_,sq_,trivial⟩
  ·exact zd7 rfl
  ·exact ⟨by omega,by omega,by rw [k3,zhb 0 i k1],zht am rfl⟩
  omega
 refine r12_ ?_;refine cF_ ?_;have Y:L=restP 0 l.length:=by rw [k3,zhc 0 l.length vd i vd k2 k1]
 have ai:∀ k ∈ L,k<l.length:=λk V=>by rw [Y] at V;unfold restP at V;simp at V;exact V.1
 cases o
 ·have hn:L = []:=List.length_eq_zero_iff.1 (U.nil rfl);rw [hn];refine r9_ ?_;refine cp_ rfl (zi_ _ _ _ _) ?_;refine r8_ ?_;refine kw_ [2,3,5,6,13,4] ?_;refine s1_ ?_;refine ⟨_,_,⟨_,_,rfl,rfl,rfl⟩,Mem.Less.refl _,?_⟩;exact ⟨[],by rw [<- Y,hn],List.Pairwise.nil,A,Sl.nil _ _ _⟩
 rename_i q;obtain ⟨b,c⟩:=q;obtain ⟨fb,aj⟩:=U.own b c rfl;refine r9_ ?_;refine ca_ rfl (zh6 (cap:=c) (room:=c) (m:=l.length) L rfl ai vd fb (λ_ _=>zbg (by kernel_rfl) _ _) (swo2 l x) (λw W a b' ha hb=>(zuO a b' b2 b3 p _ l x (roM w) ((vA o2 0 _ (λj v hj=>by rw [Nat.zero_add];exact hj)).ro W) ((vA o3 0 _ (λj v hj=>by rw [Nat.zero_add];exact hj)).ro W) ((al.less A).ro W) ((hx.less A).ro W) hr.len ha hb hl).mono λv _ h=>h.1)) ?_;rintro _ S9 ⟨rfl,d',hp,hs,h9⟩;rw [h9];clear h9 S9;rw [Y] at hp;have ag:d'.length=L.length:=by rw [hp.length_eq,<- Y]
 refine r9_ ?_;refine ⟨_,_,⟨_,_,rfl,rfl,rfl⟩,Mem.Less.refl _,?_⟩;exact ⟨d',hp,zkw l e x h1 he hr d' hp hs,A.trans (vh _ _ _ fb.1),vN (g:=gI) (l:=d') (vf _ _ _) List.prefix_rfl ag aj vd⟩
theorem zuQ (l:List Nat) (s z:Nat) (zs:List Nat) (h:Ord.sl l s z=false):(z :: zs).takeWhile (λz=>!Ord.sl l s z)=z :: zs.takeWhile (λz=>!Ord.sl l s z)/\(z :: zs).dropWhile (λz=>!Ord.sl l s z)=zs.dropWhile (λz=>!Ord.sl l s z):=by
 constructor
 ·rw [List.takeWhile_cons_of_pos (by simp [h])]
 rw [List.dropWhile_cons_of_pos (by simp [h])]
theorem zuR (l:List Nat) (s z:Nat) (zs:List Nat) (h:Ord.sl l s z=true):(z :: zs).takeWhile (λz=>!Ord.sl l s z) = []/\(z :: zs).dropWhile (λz=>!Ord.sl l s z)=z :: zs:=by
 constructor
 ·rw [List.takeWhile_cons_of_neg (by simp [h])]
 rw [List.dropWhile_cons_of_neg (by simp [h])]
def mgS (l:List Nat) (s:Nat) (ks zs:List Nat):List Nat:=zs.takeWhile (λz=>!Ord.sl l s z) ++ s :: mg l ks (zs.dropWhile (λz=>!Ord.sl l s z))
theorem src1 {S:Mem} {v:tu} {L:List Nat} (h:IdxR S v L):Src S v L.length (L.map gI):=zs9 h
theorem zkx (p:Nat) (ve:tu) (l e:List Nat) (S:Mem) (hv:LvR S p l) (am:IdxR S ve e) (h1:∀ y ∈ l,1<=y) (he:Ord.SortedE (red l) e) (hl:l.length<=4096) :
  ACall prog 34 #[.pointer (some ⟨p,0,none⟩),ve] S (RdL gI (Ord.endsR l l.length) S):=by
 have ag:=hv;obtain ⟨vt,vs,v1,v2,v3,v4⟩:=hv;obtain ⟨ta,tc,rfl,_⟩:=id v3;obtain ⟨ea,ec,rfl,e1,e2,e3⟩:=id am;obtain ⟨pa,pc,rfl,p1,p2,p3⟩:=id v4;have H:e.Perm (List.range (numP l.length)):=by have:=he.1;rw [zaY] at this;exact this
 have bv:e.length=numP l.length:=by rw [H.length_eq,List.length_range]
 have bj:numP l.length<=3000:=zge l.length hl;have ao:(places l.length).length=numP l.length:=rfl;rw [ao] at p1 p2 v2;refine k_E2 72 func34 ?_;refine r9_ ?_;refine ca_ rfl (zsb p _ l e S ag am H hl) ?_;rintro vx S1 ⟨x,hr,aA,hx⟩;refine r7_ ?_;refine ca_ rfl (zuP p vx l e x S1 (ag.less aA) hx h1 he hr hl) ?_;rintro vz A ⟨zs,ad,aB,J,hz⟩;have aF:=Ord.zf8 (zw_ l e zs h1 he ad aB) (Ord.zdt l);have aZ:∀ z ∈ zs,z<l.length/\z % 3=0:=λz hz=>by have:=ad.mem_iff.1 hz;unfold restP at this;simpa using this
 have bm:zs.length<=l.length+3:=by rw [ad.length_eq,zaX 0 vd];omega
 have ah:=aA.trans J;replace hx:=hx.less J;clear J ad aB;refine r10_ ?_;refine vS (zab rfl) zat rfl rfl vd vd vd vd ?_;intro aq aH;have aa:=aH
 repeat ((with_reducible replace aa:=zaa aa);obtain ⟨aa,_⟩:=aa)
 refine r12_ ?_;refine AWP.loop (X:=Nat × List Nat × Option (Nat × Nat) × List Nat × tu) (λy=>[(0,.pointer (some ⟨p,0,none⟩)),(5,vx),(6,y.2.2.2.2),(7,outV y.2.2.1 y.2.1.length),(23,.slice ea e.length ec),(24,.int .i64 e.length),(25,.int .i64 y.1)]) (λy=>outM A y.2.2.1 3 (y.2.1.map gI)) (λy=>y.1<=e.length/\y.2.1.length+y.2.2.2.1.length<=l.length+3+y.1/\(∀ z ∈ y.2.2.2.1,z<l.length/\z % 3=0)/\IdxR A y.2.2.2.2 y.2.2.2.1/\OkO A y.2.2.1 y.2.1.length/\y.2.1 ++ mg l (e.drop y.1) y.2.2.2.1=Ord.endsR l l.length) (λy=>e.length-y.1) ((0,[],some (aq,l.length),zs,vz)) ⟨rfl,rfl,rfl,rfl,rfl,rfl,rfl,trivial⟩ (by show (A.set aq _).Less _;simp only [List.map_nil];rw [show ((l.length:Int)).toNat*1=l.length by omega,show madeL [Value.int .i64 0] (Int.toNat 0*1) = [] from List.length_eq_zero_iff.1 (zbq _ _)];exact Mem.Less.refl _) (⟨Nat.zero_le _,by show 0+zs.length<=_;omega,aZ,hz,zbE aH (Nat.zero_le _),aF⟩) ?_;rintro ⟨i,L,o,Z,uz⟩ ⟨q1,q2,q3,q4,q5,Y⟩;(try dsimp only at *);have aI:A.Less (outM A o 3 (L.map gI)):=zaG q5;have bn:S.Less (outM A o 3 (L.map gI)):=ah.trans aI;by_cases hc:i<e.length
 ·refine r6_ ?_;refine cT_ ?_;obtain ⟨eb,eo,rfl,aW⟩:=e3.resolve_left (λh=>by rw [h] at hc;exact absurd hc (Nat.not_lt_zero _));have Q:e[i]<numP l.length:=List.mem_range.1 (H.mem_iff.1 (List.getElem_mem hc));obtain ⟨pb,po,rfl,a5⟩:=p3.resolve_left (λh=>by rw [<- ao,h] at Q;exact absurd Q (Nat.not_lt_zero _));have k0:S.Knows ⟨eb,eo+i*1,none⟩ [.int .i64 (e[i] : Int)]:=aW i hc;have k1:S.Knows ⟨pb,po+e[i]*1,none⟩ [.int .i64 (plc l.length e[i] : Int)]:=by rw [zck Q];exact a5 e[i] Q
  have hb:=zdA l.length e[i] Q;rw [List.drop_eq_getElem_cons hc,mg] at Y;obtain ⟨s,hs⟩ : ∃ s,s=plc l.length e[i]:=⟨_,rfl⟩;rw [<- hs] at k1 hb Y;by_cases aE:l.length<=s
  ·refine r11_ ?_;refine r12_ ?_;refine kw_ [0,5,6,7,23,24,25,26,9,10] ?_;refine r12_ ?_;refine cT_ ?_;rw [if_pos aE] at Y;refine r9_ ?_;refine ⟨(i+1,L,o,Z,uz),?_,?_,?_,?_⟩<;>try dsimp only
   ·exact ⟨sq_,sq_,sq_,sq_,sq_,sq_,sq_,trivial⟩
   ·exact Mem.Less.refl _
   ·exact ⟨hc,by omega,q3,q4,q5,Y⟩
   omega
  refine r11_ ?_;refine r24_ ?_;refine cF_ ?_;rw [if_neg aE] at Y;refine r3_ ?_;refine AWP.join (X:=List Nat × Option (Nat × Nat) × List Nat × tu) (λy=>[(0,.pointer (some ⟨p,0,none⟩)),(5,vx),(6,y.2.2.2),(7,outV y.2.1 y.1.length),(10,.int .i64 s),(23,.slice (some ⟨eb,eo,none⟩) e.length ec),(24,.int .i64 e.length),(25,.int .i64 i)]) (λy=>outM A y.2.1 3 (y.1.map gI)) (λy=>y.1.length+y.2.2.1.length<=l.length+3+i/\(∀ z ∈ y.2.2.1,z<l.length/\z % 3=0)/\IdxR A y.2.2.2 y.2.2.1/\OkO A y.2.1 y.1.length/\y.1 ++ s :: mg l (e.drop (i+1)) y.2.2.1=Ord.endsR l l.length) ?_ ?_
  ·refine s1_ ?_;refine AWP.loop (X:=List Nat × Option (Nat × Nat) × List Nat × tu) (λy=>[(0,.pointer (some ⟨p,0,none⟩)),(5,vx),(6,y.2.2.2),(7,outV y.2.1 y.1.length),(10,.int .i64 s),(23,.slice (some ⟨eb,eo,none⟩) e.length ec),(24,.int .i64 e.length),(25,.int .i64 i)]) (λy=>outM A y.2.1 3 (y.1.map gI)) (λy=>y.1.length+y.2.2.1.length<=l.length+3+i/\(∀ z ∈ y.2.2.1,z<l.length/\z % 3=0)/\IdxR A y.2.2.2 y.2.2.1/\OkO A y.2.1 y.1.length/\y.1 ++ mgS l s (e.drop (i+1)) y.2.2.1=Ord.endsR l l.length) (λy=>y.2.2.1.length) ((L,o,Z,uz)) ⟨rfl,rfl,rfl,rfl,rfl,rfl,rfl,rfl,trivial⟩ (Mem.Less.refl _) (⟨q2,q3,q4,q5,Y⟩) ?_;rintro ⟨U,o2,V,an⟩ ⟨r2,r3,r4,r5,r6⟩;(try dsimp only at *);unfold mgS at r6;cases V
   ·obtain ⟨za,zc,rfl,_⟩:=id r4;refine r18_ ?_;refine kw_ [0,5,6,7,10,23,24,25,55] ?_;refine cF_ ?_;refine r4_ ?_;refine ⟨(U,o2,[],.slice za 0 zc),?_,?_,?_⟩<;>try dsimp only
    ·exact ⟨r2,r3,r4,r5,r6⟩
    ·exact ⟨sq_,sq_,sq_,sq_,sq_,sq_,sq_,sq_,trivial⟩
    exact Mem.Less.refl _
   rename_i z V;obtain ⟨zb,zo,zc,rfl,bg,_⟩:=uS r4;have aT:=(tk r4).1;have I:A.Less (outM A o2 3 (U.map gI)):=zaG r5;have kz:Mem.Knows (outM A o2 3 (U.map gI)) ⟨zb,zo+0*1,none⟩ [.int .i64 (z:Int)]:=aT.less I;obtain ⟨a3,a4⟩:=r3 z (List.mem_cons_self ..);refine r13_ ?_;refine vv 3 true 46 rfl (zab rfl) rfl (zab rfl) zw1 rfl (zsc p s z _ _ rfl rfl vx l e x _ (ag.less (ah.trans I)) (hx.less I) h1 he hr vd a3 hb.2.1 a4 hl) ?_;rintro _ _ ⟨rfl,rfl⟩;refine r4_ ?_;refine vp rfl (λC=>?_) (λC=>?_)
   ·have C:Ord.sl l s z=false:=nt_ C;obtain ⟨w1,w2⟩:=zuQ l s z V C;rw [w1,w2] at r6;have bh:(U.map gI).length=U.length:=List.length_map ..;refine r3_ ?_;refine dr_ [i0_,i1_,i2_,i3_,i6_,i7_,o4_,o5_,i8_,i9_] [5] ?_;refine r6_ ?_;refine zac rfl ?_;refine vu (zab rfl) zat rfl rfl ?_;intro bf az;have W:=az
    repeat ((with_reducible replace W:=zaa W);obtain ⟨W,_⟩:=W)
    refine zad ⟨ny_,?_⟩;refine zac rfl ?_;refine vF (zab rfl) zat rfl zcY (zcf r5 zcY az) rfl (news:=[_]) rds_ rfl vd (by simp [Value.oneCell']) (by simp at r2;omega) (by simp at r2;omega) ?_;intro aV aU ai;refine zad ⟨nz_,?_⟩;refine r5_ ?_;refine ⟨(U ++ [z],some (aV,aU),V,.slice (some ⟨zb,if zc=1 then zo else zo+1*1,none⟩) (V.length+1-1) (zc-1)),?_,?_,?_,?_⟩<;>try dsimp only
    ·exact ⟨sq_,sq_,sq_,sq_,sq_,sq_,sq_,sq_,trivial⟩
    ·exact zd7 rfl
    ·exact ⟨by simp at r2 ⊢;omega,λy hy=>r3 y (List.mem_cons_of_mem _ hy),tp r4,zht ai rfl,by unfold mgS;rw [List.append_assoc];exact r6⟩
    simp
   have C:Ord.sl l s z=true:=nf_ C;obtain ⟨w1,w2⟩:=zuR l s z V C;rw [w1,w2] at r6;refine r4_ ?_;refine ⟨(U,o2,z :: V,.slice (some ⟨zb,zo,none⟩) (V.length+1) zc),?_,?_,?_⟩<;>try dsimp only
   ·exact ⟨r2,r3,r4,r5,r6⟩
   ·exact ⟨sq_,sq_,sq_,sq_,sq_,sq_,sq_,sq_,trivial⟩
   exact Mem.Less.refl _
  rintro ⟨U,o2,V,an⟩ ⟨r2,r3,r4,r5,r6⟩;intro _ _ au aG;(try dsimp only at *);refine zau ?_;refine AWP.sub _ au (AWP.less _ aG ?_);clear au aG;refine r3_ ?_;refine vu (zab rfl) zat rfl rfl ?_;intro be aJ;have ac:=aJ
  repeat ((with_reducible replace ac:=zaa ac);obtain ⟨ac,_⟩:=ac)
  refine vF (zab rfl) zat rfl zcY (zcf r5 zcY aJ) rfl (news:=[_]) rds_ rfl vd (by simp [Value.oneCell']) vd vd ?_;intro a0 aY ai;refine r9_ ?_;refine ⟨(i+1,U ++ [s],some (a0,aY),V,an),?_,?_,?_,?_⟩<;>try dsimp only
  ·exact ⟨sq_,sq_,sq_,sq_,sq_,sq_,sq_,trivial⟩
  ·exact zd7 rfl
  ·exact ⟨hc,by rw [List.length_append];show U.length+1+_<=_;omega,r3,r4,zht ai rfl,by rw [List.append_assoc];exact r6⟩
  omega
 obtain rfl:i=e.length:=by omega
 refine r6_ ?_;refine cF_ ?_;rw [List.drop_eq_nil_of_le (Nat.le_refl _),mg] at Y;have av:L.length+Z.length=l.length:=by have:=congrArg List.length Y;rw [List.length_append,(Ord.zdt l).len] at this;exact this
 refine r9_ ?_;refine vJ (n:=1) (o:=o) (k:=L.length) (m:=Z.length) (cs:=L.map gI) (news:=Z.map gI) (zab rfl) zat rfl rfl (by rw [List.length_map,Nat.mul_one]) q5 (zwy q5 zcY) rfl ((src1 q4).less aI) (by rw [List.length_map,Nat.mul_one]) (λv hv=>by obtain ⟨y,_,rfl⟩:=List.mem_map.1 hv;rfl) vd vd ?_;intro o' aw;rw [zh4,<- List.map_append,Y];refine r4_ ?_;refine ⟨_,_,⟨_,_,rfl,rfl,rfl⟩,Mem.Less.refl _,?_⟩;exact ⟨ah.trans (zaG aw),zhi aw (by rw [(Ord.zdt l).len,av]) vd⟩
end
section
open Go.RowKit
open Mv Num Loser Skew
theorem zmL (v ve:tu) (l e:List Nat) (S:Mem) (hl:RowR S v l) (I:Sl 1 i64s S ve (e.map λk:Nat=>(k:Int))) (ag:e.length<=17592186043904) (hc:chkL l=0) (V:Ord.SortedE (red l) e) :
  ACall prog 11 #[v,ve] S λr S'=>∃ u,r = .tuple #[u,.int .i64 0]/\RdL gI (Ord.endsR l l.length) S u S':=by
 obtain ⟨a,cap,rfl,h1,h2,h3⟩:=id hl;obtain ⟨ea,ec,rfl,_⟩:=id I;have hS:=zmH _ l S hl;have J:=zpE hc;have es:smpL l=places l.length:=if_pos hc;rw [es,hc] at hS;refine k_E2 35 func11 ?_;refine r9_ ?_;refine ca_ rfl (hS) ?_;rintro vs S1 ⟨u,rfl,U,hu⟩;obtain ⟨pa,pc,rfl,_⟩:=id hu;refine r14_ ?_;refine cF_ ?_;refine r7_ ?_;refine vD (cs:=[_,_]) (zab rfl) rfl ?_;intro Q H;have C:=H
 repeat ((with_reducible replace C:=zaa C);obtain ⟨C,_⟩:=C)
 refine nl_ ?_;refine r6_ ?_;refine ca_ rfl (zmK Q l _ (zpQ own_ (hl.less (U.trans zae)) (zi9 _ _ _ _ hu zae)) J.1) ?_;rintro _ Y ⟨u2,rfl,X,W⟩;have A:S.Less Y:=U.trans ((vh _ _ _ H.1).trans X);have ad:LvR Y Q l:=(zpQ (vf _ _ _) (hl.less (U.trans (vh _ _ _ H.1))) (zi9 _ _ _ _ hu (vh _ _ _ H.1))).less X;obtain ⟨ua,uc,rfl,_⟩:=id W;refine r12_ ?_;refine ca_ rfl (zr3 _ _ (red l) _ Y W (I.less A) (by rw [List.length_map];exact ag)) ?_;rintro _ S3 ⟨⟨t,rfl,ht⟩,h5⟩;rw [h5];clear h5 S3;obtain rfl:=ht.2 ⟨e,rfl,V⟩;refine r3_ ?_;refine kw_ [0,1,4,5,6,7,17,8,9,31] ?_;refine cF_ ?_;refine r6_ ?_;refine ca_ rfl (zkx Q _ l e Y ad (zrY (I.less A)) J.2.1 V J.1) ?_;rintro u4 S4 ⟨af,ac⟩;refine r5_ ?_;refine ⟨_,S4,⟨_,_,rfl,⟨_,_,rfl,rfl,rfl⟩,rfl⟩,Mem.Less.refl _,?_⟩;exact ⟨_,rfl,A.trans af,ac⟩
end
section
open Go.RowKit
open Mv Num Loser Srt
def bhd (r:List Nat) (k a:Nat):Nat:=Ord.beh r.length (λj=>r.getD j 0) k a
def cfD (r:List Nat) (k a b:Nat):Int:=orL [cmpZ (r.getD a 0:Nat) (r.getD b 0:Nat),cmpZ (bhd r k a:Nat) (bhd r k b:Nat)]
theorem zpR (r:List Nat) (k a b:Nat):cfD r k a b<0 <-> r.getD a 0<r.getD b 0\/r.getD a 0=r.getD b 0/\bhd r k a<bhd r k b:=by
 unfold cfD orL orL orL;have C:=zej (r.getD a 0:Nat) (r.getD b 0:Nat);have H:=zek (r.getD a 0:Nat) (r.getD b 0:Nat);have A:=zej (bhd r k a:Nat) (bhd r k b:Nat);have I:=zek (bhd r k a:Nat) (bhd r k b:Nat);split
 ·split <;> omega
 omega
theorem zja (J:Int) (a k C I:Nat) (V:J=a) (H:tu) (r:List Nat) (S:Mem) (h1:S.Knows ⟨C,0,none⟩ [.int .i64 (k:Int)]) (h2:S.Knows ⟨I,0,none⟩ [H]) (Y:IdxR S H r) (ha:a<=8192) (hk:k<=8192) (X:∀ x ∈ r,x<=8192) :
  ACall prog 134 #[.int .i64 J,.pointer (some ⟨C,0,none⟩),.pointer (some ⟨I,0,none⟩)] S λv S'=>v = .int .i64 (bhd r k a:Nat)/\S'=S:=by
 subst V;obtain ⟨ra,rc,rfl,r1,r2,Q⟩:=id Y;unfold bhd Ord.beh;by_cases h:a+k<r.length
 ·rw [if_pos h];dsimp only;obtain ⟨W,ro,rfl,A⟩:=Q.resolve_left (λe=>by rw [e] at h;exact absurd h (Nat.not_lt_zero _));have U:=X _ (List.getElem_mem h);have k1:S.Knows ⟨W,ro+(a+k)*1,none⟩ [.int .i64 (r.getD (a+k) 0:Nat)]:=by rw [zal r _ 0 h];exact A _ h
  rw [<- zal r _ 0 h] at U;generalize r.getD (a+k) 0=x at *;refine k_E3 18 func134 ?_;refine r16_ ?_;refine cT_ ?_;refine r14_ ?_;refine ⟨_,S,⟨_,_,rfl,rfl,rfl⟩,zae,?_⟩;exact ⟨rfl,rfl⟩
 rw [if_neg h];refine k_E3 18 func134 ?_;refine r16_ ?_;refine cF_ ?_;refine r8_ ?_;refine ⟨_,S,⟨_,_,rfl,rfl,rfl⟩,zae,?_⟩;exact ⟨rfl,rfl⟩
def behF (c5 c4:Nat):tu:=.func (.func 134) #[] #[.pointer (some ⟨c5,0,none⟩),.pointer (some ⟨c4,0,none⟩)]
theorem zwG (a b k C Q c7:Nat) (Y:tu) (r:List Nat) (S:Mem) (h4:S.Knows ⟨C,0,none⟩ [Y]) (h5:S.Knows ⟨Q,0,none⟩ [.int .i64 (k:Int)]) (h7:S.Knows ⟨c7,0,none⟩ [behF Q C]) (U:IdxR S Y r) (J:a<r.length) (hb:b<r.length) (ag:r.length<=4096) (X:k<=8192) (I:∀ x ∈ r,x<=8192) :
  ACall prog 135 #[gI a,gI b,.pointer (some ⟨C,0,none⟩),.pointer (some ⟨c7,0,none⟩)] S λv S'=>v = .int .i64 (cfD r k a b)/\S'=S:=by
 unfold gI behF at *;obtain ⟨ra,rc,rfl,r1,r2,r3⟩:=id U;obtain ⟨rb,ro,rfl,H⟩:=r3.resolve_left (λe=>by rw [e] at J;exact absurd J (Nat.not_lt_zero _));have k1:S.Knows ⟨rb,ro+a*1,none⟩ [.int .i64 (r.getD a 0:Nat)]:=by rw [zal r _ 0 J];exact H _ J
 have k2:S.Knows ⟨rb,ro+b*1,none⟩ [.int .i64 (r.getD b 0:Nat)]:=by rw [zal r _ 0 hb];exact H _ hb
 refine k_E4 25 func135 ?_;refine r6_ ?_;refine dr_ [i0_,i1_,i2_,i3_,i4_,i5_,i6_,i7_,i9_,i10_,i12_,i13_,o8_,o11_,o14_,o15_,o16_,o17_,i18_] [] ?_;refine r12_ ?_;refine zac rfl ?_;refine cp_ rfl (zg_ (r.getD a 0:Nat) (r.getD b 0:Nat) _) ?_;refine zad ⟨ny_,?_⟩;refine zac rfl ?_;refine vq (zab rfl) zsu rfl rfl (zja _ a k Q C rfl _ r _ h5 h4 U vd X I) ?_;rintro _ V ⟨rfl,e1⟩;rw [e1];clear e1 V;refine zad ⟨ny_,?_⟩;refine zac rfl ?_;refine vq (zab rfl) zsu rfl rfl (zja _ b k Q C rfl _ r _ h5 h4 U vd X I) ?_;rintro _ V ⟨rfl,e1⟩;rw [e1];clear e1 V;refine zad ⟨ny_,?_⟩;refine zac rfl ?_;refine cp_ rfl (zg_ (bhd r k a:Nat) (bhd r k b:Nat) _) ?_;refine zad ⟨ny_,?_⟩;refine zac rfl ?_;refine vO (cs:=[_,_]) (zab rfl) zat rfl rfl rfl rfl ?_;intro ai W;have A:=W
 repeat ((with_reducible replace A:=zaa A);obtain ⟨A,_⟩:=A)
 refine zad ⟨ny_,?_⟩;refine zac rfl ?_;refine ca_ rfl (zpv _ _ _ (zh3 own_)) ?_;rintro _ _ ⟨rfl,rfl⟩;refine zad ⟨ny_,?_⟩;refine r4_ ?_;refine ⟨_,S,⟨_,_,rfl,rfl,rfl⟩,zae,?_⟩;exact ⟨rfl,rfl⟩
def odM (S:Mem) (b4 b5 b7:Nat) (vr:tu) (k:Nat):Mem:=((S.set b4 ⟨41,[vr],1⟩).set b5 ⟨3,[.int .i64 (k:Int)],1⟩).set b7 ⟨148,[behF b5 b4],1⟩
def stepD (r:List Nat) (k a b:Nat):Bool:=decide (cfD r k a b<0)
theorem swoD (r:List Nat) (k:Nat):Go.Sort.SWO λx y=>decide (cfD r k x y<0):=by
 have e1:∀ a b,decide (cfD r k a b<0)=true <-> r.getD a 0<r.getD b 0\/r.getD a 0=r.getD b 0/\bhd r k a<bhd r k b:=λa b=>by rw [decide_eq_true_eq,zpR]
 have e0:∀ a b,decide (cfD r k a b<0)=false <-> ¬ (r.getD a 0<r.getD b 0\/r.getD a 0=r.getD b 0/\bhd r k a<bhd r k b):=λa b=>by rw [<- e1];simp
 exact ⟨λa=>by rw [e0];omega,λa b c A C=>by rw [e1] at *;omega,λa b c A C=>by rw [e0] at *;omega⟩
theorem zmM {r e:List Nat} {k n:Nat} (H:e.Perm (List.range n)) (hs:e.Pairwise λx y=>¬ cfD r k y x<0):∀ i j,i<j->j<e.length->stepD r k (e.getD j 0) (e.getD i 0)=false:=λi j A C=>by
 have:=List.pairwise_iff_getElem.1 hs i j vd C A;unfold stepD;rw [zal _ _ _ C,zal _ _ _ vd];exact decide_eq_false this
def RkD (r e:List Nat) (k i:Nat) (o:List Nat):Prop:=o.length=e.length /\ ∀ j,j<i->o.getD (e.getD j 0) 0=Ord.ups (stepD r k) e j
theorem RkD.step {r e o:List Nat} {k i n y:Nat} (h:RkD r e k i o) (A:e.Perm (List.range n)) (hi:i<e.length) (V:y=Ord.ups (stepD r k) e i):RkD r e k (i+1) (o.set (e.getD i 0) y):=by
 have U:e.length=n:=by rw [A.length_eq,List.length_range]
 have C:∀ q,q<e.length->e.getD q 0<n:=λq Q=>by rw [zal e q 0 Q];exact List.mem_range.1 (A.mem_iff.1 (List.getElem_mem Q))
 refine ⟨by rw [List.length_set];exact h.1,λj W=>?_⟩;have X:=h.1;rcases Nat.lt_or_ge j i with h' | h'
 ·have H:e.getD i 0≠e.getD j 0:=λJ=>by
   have I:e.Nodup:=A.nodup_iff.2 List.nodup_range;rw [zal e i 0 hi,zal e j 0 vd] at J;exact absurd J.symm (List.pairwise_iff_getElem.1 I j i vd hi h')
  rw [List.getD_eq_getElem?_getD,List.getElem?_set_ne H,<- List.getD_eq_getElem?_getD,h.2 j h']
 obtain rfl:j=i:=by omega
 rw [List.getD_eq_getElem?_getD,List.getElem?_set_self (by have:=C j hi;omega),V];rfl
theorem zsd {r e:List Nat} {k n:Nat} (h:e.length=n):RkD r e k 1 (List.replicate n 0):=by
 refine ⟨by simp [h],λj A=>?_⟩;obtain rfl:j=0:=by omega
 show (List.replicate n 0).getD _ 0=0;rw [List.getD_eq_getElem?_getD,List.getElem?_replicate];split <;> rfl
theorem zh7 (R:Nat->Nat->Bool) (e:List Nat) (j:Nat):Ord.ups R e (j+1)=Ord.ups R e j+(if R (e.getD j 0) (e.getD (j+1) 0) then 1 else 0):=rfl
theorem zgh (R:Nat->Nat->Bool) (e:List Nat):∀ i,Ord.ups R e i<=i
 | 0=>Nat.le_refl _
 | i+1=>by rw [Ord.ups];have:=zgh R e i;split <;> omega
theorem zmN (V k:Nat) (ik:Int) (ek:ik=k) (n:Nat) (vr:tu) (r e:List Nat) (S:Mem) (aT:Fresh S V) (hr:IdxR S vr r) (hn:r.length=n) (aU:0<n) (ba:n<=4096) (hk:k<=8192) (aQ:∀ x ∈ r,x<=8192) (hp:e.Perm (List.range n)) :
  ACall prog 73 #[.slice (some ⟨V,0,none⟩) n n,vr,.int .i64 ik] (S.set V ⟨3,e.map gI,n⟩) λu S'=>∃ S1 A r',S'=S1.set V ⟨3,A.map gI,n⟩/\Fresh S1 V/\S.Less S1/\IdxR S1 u r'/\A.Perm (List.range n)/\(∀ i j,i<j->j<A.length->stepD r k (A.getD j 0) (A.getD i 0)=false)/\RkD r A k n r':=by
 subst ek;obtain ⟨ra,rc,rfl,r1,r2,r3⟩:=id hr;have aX:e.length=n:=by rw [hp.length_eq,List.length_range]
 rw [hn] at r1 r2 hr ⊢;refine k_E3 61 func73 ?_;refine r2_ ?_;refine vB (zab rfl) rfl rfl ?_;intro U f4;have g4:=f4
 repeat ((with_reducible replace g4:=zaa g4);obtain ⟨g4,_⟩:=g4)
 refine nl_ ?_;refine vB (zab rfl) rfl rfl ?_;intro b5 f5;have g5:=f5
 repeat ((with_reducible replace g5:=zaa g5);obtain ⟨g5,_⟩:=g5)
 refine nl_ ?_;refine r6_ ?_;refine ARun.alloc (zab rfl) zjt ?_;intro Y f7;have g7:=f7
 repeat ((with_reducible replace g7:=zaa g7);obtain ⟨g7,_⟩:=g7)
 refine nl_ ?_;refine r9_ ?_;refine AWP.less ((odM S U b5 Y (.slice ra n rc) k).set V ⟨3,e.map gI,n⟩) (by unfold odM behF;exact zae) ?_;have fB:Fresh (odM S U b5 Y (.slice ra n rc) k) V:=zam (zam (zam aT ne_) ne_) ne_;have o4:(odM S U b5 Y (.slice ra n rc) k).own U=some ⟨41,[.slice ra n rc],1⟩:=by unfold odM;exact own_
 have o5:(odM S U b5 Y (.slice ra n rc) k).own b5=some ⟨3,[.int .i64 (k:Int)],1⟩:=by unfold odM;exact own_
 have o7:(odM S U b5 Y (.slice ra n rc) k).own Y=some ⟨148,[behF b5 U],1⟩:=by unfold odM;exact own_
 have Q:S.Less (odM S U b5 Y (.slice ra n rc) k):=by unfold odM;exact zae
 generalize odM S U b5 Y (.slice ra n rc) k=S0 at *;have aj:∀ T,(∀ {a cs},S0.Knows a cs->T.Knows a cs)->IdxR T (.slice ra n rc) r -> ∀ x y,x<n->y<n->ACall prog 135 #[gI x,gI y,.pointer (some ⟨U,0,none⟩),.pointer (some ⟨Y,0,none⟩)] T λv S'=>v = .int .i64 (cfD r k x y)/\S'=T:=λT an aN x y hx hy=>zwG x y k U b5 Y _ r T (an (vA o4 0 _ (λj v hj=>by rw [Nat.zero_add];exact hj))) (an (vA o5 0 _ (λj v hj=>by rw [Nat.zero_add];exact hj))) (an (vA o7 0 _ (λj v hj=>by rw [Nat.zero_add];exact hj))) aN vd vd vd hk aQ;refine r4_ ?_;refine ca_ rfl (zh6 (room:=n) (m:=n) e aX (λx hx=>List.mem_range.1 (hp.mem_iff.1 hx)) vd fB (λ_ _=>zbg (by kernel_rfl) _ _) (swoD r k) (λw hw x y hx hy=>(aj (roM w) (λh=>h.ro hw) ((hr.less Q).ro hw) x y hx hy).mono λv _ h=>h.1)) ?_;rintro _ S9 ⟨rfl,A,J,am,h9⟩;rw [h9];clear h9 S9;have am:=zmM (J.trans hp) am;replace J:=J.trans hp;have aa:A.length=n:=by rw [J.length_eq,List.length_range]
 have aw:∀ q,q<n->A.getD q 0<n:=λq hq=>by rw [zal A q 0 vd];exact List.mem_range.1 (J.mem_iff.1 (List.getElem_mem _))
 obtain ⟨T,hT⟩ : ∃ T,T=S0.set V ⟨3,A.map gI,n⟩:=⟨_,rfl⟩;have ai:S0.Less T:=by rw [hT];exact vh _ _ _ fB.1
 have oe:T.own V=some ⟨3,A.map gI,n⟩:=by rw [hT];exact vf _ _ _
 rw [<- hT];have bi:=ai.own o4;refine r6_ ?_;refine ARun.makeSlice (zab rfl) zat rfl rfl vd vd vd vd ?_;intro C ae;have ag:=ae
 repeat ((with_reducible replace ag:=zaa ag);obtain ⟨ag,_⟩:=ag)
 refine r3_ ?_;rw [show madeL [Value.int .i64 0] (((n:Nat):Int).toNat*1)=(List.replicate n 0).map gI by rw [zaT,List.map_replicate,Nat.mul_one];rfl,Nat.mul_one,Int.toNat_natCast];refine r7_ ?_;refine AWP.loop (X:=Nat × List Nat) (λx=>[(0,.slice (some ⟨V,0,none⟩) n n),(8,.func (.func 135) #[] #[.pointer (some ⟨U,0,none⟩),.pointer (some ⟨Y,0,none⟩)]),(9,.slice (some ⟨C,0,none⟩) n n),(10,.int .i64 x.1)]) (λx=>T.set C ⟨3,x.2.map gI,n⟩) (λx=>1<=x.1/\x.1<=n/\RkD r A k x.1 x.2) (λx=>n-x.1) ((1,List.replicate n 0)) ⟨rfl,rfl,rfl,rfl,trivial⟩ (Mem.Less.refl _) (⟨Nat.le_refl _,aU,zsd aa⟩) ?_;rintro ⟨i,o⟩ ⟨q1,q2,q3⟩;(try dsimp only at *);by_cases hi:i<n
 ·refine r9_ ?_;refine kw_ [0,8,9,10,22] ?_;refine cT_ ?_;obtain ⟨j,rfl⟩ : ∃ j,i=j+1:=⟨i-1,by omega⟩;have aF:=aw j vd;have aA:=aw (j+1) hi;have ep:A[j]'vd=A.getD j 0:=(zal _ _ _ vd).symm;have eq:A[j+1]'vd=A.getD (j+1) 0:=(zal _ _ _ vd).symm;have aO:o.length=n:=by rw [q3.1,aa]
  have hy:=q3.2 j vd;have a6:=zgh (stepD r k) A j;have H:=zh7 (stepD r k) A j;have al:=λy (hy:y=Ord.ups (stepD r k) A (j+1))=>q3.step J vd hy;rw [show stepD r k (A.getD j 0) (A.getD (j+1) 0)=decide (cfD r k (A.getD j 0) (A.getD (j+1) 0)<0) from rfl] at H;generalize Ord.ups (stepD r k) A j=y at *;generalize Ord.ups (stepD r k) A (j+1)=y' at *;obtain ⟨p,aY⟩ : ∃ p,p=A.getD j 0:=⟨_,rfl⟩;obtain ⟨q,ao⟩ : ∃ q,q=A.getD (j+1) 0:=⟨_,rfl⟩;rw [<- aY] at aF ep hy H;rw [<- ao] at aA eq H al;have I:∀ c:List Nat,T.Less (T.set C ⟨3,c.map gI,n⟩):=λc=>vh _ _ _ ae.1;have ob:∀ c:List Nat,(T.set C ⟨3,c.map gI,n⟩).own C=some ⟨3,c.map gI,n⟩:=λc=>vf _ _ _;refine r5_ ?_;refine dr_ [i0_,i1_,i2_,i3_,i4_,i5_,i6_,i7_,i8_,i9_,i10_,i11_,i12_,i13_,o14_] [14] ?_;refine r4_ ?_;refine dC (hc:=Calm.as (show gI (A[j+1]'vd) = .int .i64 (q:Int) by rw [eq];rfl) (Calm.load zaq rfl (zbe (g:=gI) (j+1) vd ((I o).own oe) rw_))) (h:=?_);refine r5_ ?_;refine dC (hc:=Calm.as (show gI (A[j]'vd) = .int .i64 (p:Int) by rw [ep];rfl) (Calm.load zaq rfl (zbe (g:=gI) j vd ((I o).own oe) rw_))) (h:=?_);refine s1_ ?_;refine dC (hc:=Calm.as (show gI (o[p]'vd) = .int .i64 (y:Int) by rw [<- hy,zal _ _ _ vd];rfl) (Calm.load zaq rfl (zbe (g:=gI) p vd (ob o) rw_))) (h:=?_);refine s1_ ?_;refine zac rfl ?_;refine s1_ ?_;refine zad ⟨nz_,?_⟩;refine r2_ ?_;rw [Int.toNat_natCast,Nat.mul_one,show (Value.int .i64 (y:Int))=gI y from rfl,<- List.map_set];obtain ⟨W,ac⟩ : ∃ W,W=o.set q y:=⟨_,rfl⟩;have ay:W.set q y'=o.set q y':=by rw [ac,List.set_set]
  have a5:W.length=n:=by rw [ac,List.length_set];exact aO
  have aW:W[q]'vd=y:=by subst ac;exact List.getElem_set_self _
  rw [<- ac];refine s1_ ?_;refine dr_ [i0_,i1_,i2_,i3_,i4_,i5_,i6_,i7_,i8_,i9_,o10_,i11_] [] ?_;refine r5_ ?_;refine dC (hc:=Calm.as (show gI (A[j]'vd) = .int .i64 (p:Int) by rw [ep];rfl) (Calm.load zaq rfl (zbe (g:=gI) j vd ((I W).own oe) rw_))) (h:=?_);refine r3_ ?_;refine dC (hc:=Calm.as (show gI (A[j+1]'vd) = .int .i64 (q:Int) by rw [eq];rfl) (Calm.load zaq rfl (zbe (g:=gI) (j+1) vd ((I W).own oe) rw_))) (h:=?_);refine zac rfl ?_;refine vq (zab rfl) zvA rfl rfl (aj _ (λh=>h.less (ai.trans (I W))) (hr.less (Q.trans (ai.trans (I W)))) p q aF aA) ?_;rintro _ S1 ⟨rfl,e1⟩;rw [e1];clear e1 S1;refine zad ⟨ny_,?_⟩;refine r3_ ?_;refine AWP.join (X:=Unit) (λ_=>[(0,.slice (some ⟨V,0,none⟩) n n),(8,.func (.func 135) #[] #[.pointer (some ⟨U,0,none⟩),.pointer (some ⟨Y,0,none⟩)]),(9,.slice (some ⟨C,0,none⟩) n n),(10,.int .i64 ((j+1:Nat):Int))]) (λ_=>T.set C ⟨3,(o.set q y').map gI,n⟩) (λ_=>j+1<n) ?_ ?_
  ·by_cases ak:cfD r k p q<0
   ·rw [decide_eq_true ak,if_pos rfl] at H;refine cT_ ?_;refine r5_ ?_;refine rC (Calm.as (show gI (A[j+1]'vd) = .int .i64 (q:Int) by rw [eq];rfl) (Calm.load zaq rfl (zbe (g:=gI) (j+1) vd ((I W).own oe) rw_))) ?_;refine s1_ ?_;refine rC (Calm.as (show gI (W[q]'vd) = .int .i64 (y:Int) by rw [aW];rfl) (Calm.load zaq rfl (zbe (g:=gI) q vd (ob W) rw_))) ?_;refine r4_ ?_;refine ⟨(),?_,?_,?_⟩<;>try dsimp only
    ·exact hi
    ·exact ⟨sq_,sq_,sq_,sq_,trivial⟩
    rw [Int.toNat_natCast,Nat.mul_one,<- ay,H,List.map_set];exact Mem.Less.refl _
   rw [decide_eq_false ak,if_neg (by decide)] at H;refine cF_ ?_;refine s1_ ?_;refine ⟨(),?_,?_,?_⟩<;>try dsimp only
   ·exact hi
   ·exact ⟨sq_,sq_,sq_,sq_,trivial⟩
   rw [H,Nat.add_zero,<- ac];exact Mem.Less.refl _
  rintro _ _;intro _ _ ax aE;(try dsimp only at *);refine zhg ?_;refine zau ?_;refine AWP.sub _ ax (AWP.less _ aE ?_);clear ax aE;refine r6_ ?_;refine ⟨(j+2,o.set q y'),?_,?_,?_,?_⟩<;>try dsimp only
  ·exact ⟨sq_,sq_,sq_,sq_,trivial⟩
  ·exact Mem.Less.refl _
  ·exact ⟨by omega,hi,by rw [ao];rw [<- ao];exact al y' rfl⟩
  omega
 obtain rfl:i=n:=by omega
 refine r9_ ?_;refine cF_ ?_;have aC:V≠C:=ae.ne oe;have aV:Fresh S0 C:=ae.less ai;refine r12_ ?_;refine ⟨_,_,⟨_,_,rfl,rfl,rfl⟩,Mem.Less.refl _,?_⟩;exact ⟨S0.set C ⟨3,o.map gI,i⟩,A,o,by rw [hT];exact vC _ _ _ aC,zam fB aC,Q.trans (vh _ _ _ aV.1),vN (g:=gI) (l:=o) (vf _ _ _) List.prefix_rfl (by rw [q3.1,aa]) (Nat.le_refl _) vd,J,am,q3⟩
def rkF (r:List Nat) (j:Nat):Nat:=r.getD j 0
theorem zpS {l r:List Nat} {k:Nat} (H:0<k) (I:r.length=l.length) (h:Ord.RK l k (rkF r)) {a b:Nat} (C:a<l.length) (A:b<l.length):stepD r k a b=Ord.pl l (k+k) a b:=by
 rw [Bool.eq_iff_iff,Ord.zo_ l k H (rkF r) h a b C A];unfold stepD;rw [decide_eq_true_eq,zpR];unfold bhd rkF;rw [I]
theorem zjb {R C:Nat->Nat->Bool} {e:List Nat} {n:Nat} (A:∀ q,q<e.length->e.getD q 0<n) (h:∀ a b,a<n->b<n->R a b=C a b):∀ i,i<e.length->Ord.ups R e i=Ord.ups C e i
 | 0,_=>rfl
 | i+1,hi=>by rw [zh7,zh7,zjb A h i vd,h _ _ (A i vd) (A (i+1) hi)]
theorem zpT {l r A r':List Nat} {k:Nat} (Y:0<k) (hl:r.length=l.length) (h:Ord.RK l k (rkF r)) (I:A.Perm (List.range l.length)) (hs:∀ i j,i<j->j<A.length->stepD r k (A.getD j 0) (A.getD i 0)=false) (J:RkD r A k l.length r') :
  Ord.RK l (k+k) (rkF r')/\(∀ i j,i<j->j<A.length->Ord.pl l (k+k) (A.getD j 0) (A.getD i 0)=false)/\r'.length=l.length /\ ∀ x ∈ r',x<=l.length:=by
 have W:A.length=l.length:=by rw [I.length_eq,List.length_range]
 have C:∀ q,q<A.length->A.getD q 0<l.length:=λq U=>by rw [zal A q 0 U];exact List.mem_range.1 (I.mem_iff.1 (List.getElem_mem U))
 have H:∀ i j,i<j->j<A.length->Ord.pl l (k+k) (A.getD j 0) (A.getD i 0)=false:=λi j X Q=>by
  rw [<- zpS Y hl h (C j Q) (C i vd)];exact hs i j X Q
 refine ⟨Ord.zwo l (k+k) A I H (rkF r') (λi hi=>?_),H,by rw [J.1,W],λx hx=>?_⟩
 ·unfold rkF;rw [J.2 i vd];exact zjb C (λa b ha hb=>zpS Y hl h ha hb) i hi
 obtain ⟨q,U,rfl⟩:=List.getElem_of_mem hx;obtain ⟨j,Q,V⟩:=List.getElem_of_mem (I.mem_iff.2 (List.mem_range.2 (by have:=J.1;omega:q<l.length)));have:=J.2 j vd;rw [zal A j 0 Q,V,zal r' q 0 U] at this;rw [this];have:=zgh (stepD r k) A j;omega
def OwnL {α : Type} (g : α->tu) (e:tx) (l:List α) (S:Mem) (r:tu) (S':Mem):Prop:=∃ M,S.Less M/\NewL g e l M r S'
theorem OwnL.rd {α : Type} {g : α->tu} {e:tx} {l:List α} {S:Mem} {r:tu} {S':Mem} (h:OwnL g e l S r S') (J:l.length<=9223372036854775807):RdL g l S r S':=by
 obtain ⟨M,I,C⟩:=h;obtain ⟨A,H⟩:=C.rd J;exact ⟨I.trans A,H⟩
theorem zse (vr:tu) (l r:List Nat) (S:Mem) (hr:IdxR S vr r) (A:r.length=l.length) (hl:l.length<=4096) (W:∀ x ∈ r,x<=8192) (h1:Ord.RK l 1 (rkF r)) :
  ACall prog 29 #[vr] S (OwnL gI 3 (Ord.endsR l l.length) S):=by
 obtain ⟨ra,rc,rfl,_⟩:=id hr;obtain ⟨n,H⟩ : ∃ n,n=l.length:=⟨_,rfl⟩;rw [A,<- H] at hr ⊢;rw [<- H] at hl A;refine k_E1 30 func29 ?_;refine k_a (k_e rfl (k_a (k_m rfl ?_)));refine rC (vL underlying41 rfl) ?_;refine ARun.makeSlice (zab rfl) zat rfl rfl vd vd vd vd ?_;intro C f8;have I:=f8
 repeat ((with_reducible replace I:=zaa I);obtain ⟨I,_⟩:=I)
 refine k_e rfl ?_;refine k_u [(0,_),(2,_),(3,_)] ?_;rw [show madeL [Value.int .i64 0] (((n:Nat):Int).toNat*1)=List.replicate (n-0) (gI 0) by rw [zaT,Nat.mul_one];rfl,Nat.mul_one,Int.toNat_natCast];refine AWP.seq (k_a (k_m rfl ?_));refine rC (vL underlying41 rfl) ?_;refine k_m rfl (k_n ?_);refine k_u [(0,_),(2,_),(3,_),(10,_),(11,_)] ?_;refine AWP.block ?_;refine AWP.loop (X:=Nat) (λx=>[(0,.slice ra n rc),(3,.slice (some ⟨C,0,none⟩) n n),(10,.int .i64 n),(11,.int .i64 x)]) (λx=>S.set C ⟨3,(List.range x).map gI ++ List.replicate (n-x) (gI 0),n⟩) (λx=>x<=n) (λx=>n-x) (0) ⟨rfl,rfl,rfl,rfl,trivial⟩ (Mem.Less.refl _) (Nat.zero_le _) ?_;rintro i hi;(try dsimp only at *);by_cases hc:i<n
 ·refine k_a ?_;refine rC (vi rfl rfl zu9) ?_;refine k_n (AWP.seq ?_);refine k_T rfl ?_;have ax:((List.range i).map gI ++ List.replicate (n-i) (gI 0)).length=n:=by simp;omega
  refine k_k (AWP.seq ?_);refine AWP.block ?_;refine k_a (k_m rfl (k_e rfl ?_));refine k_u [(0,_),(3,_),(10,_),(11,_),(12,_),(4,_)] ?_;refine AWP.region ?_;refine k_m rfl (k_m rfl (k_m rfl ?_));refine rC (vK underlying41 zbk rfl rfl vd vd) ?_;refine vk rfl rfl zbk rfl own_ zdC rfl ?_
  try simp only [k_ms,k_sz,k_ss,k_za,Nat.reduceAdd]
  refine zad ?_;refine zhg ?_;refine zau ?_;refine k_u [(0,_),(3,_),(10,_),(11,_),(12,_),(4,_)] ?_;simp only [Nat.zero_add,Nat.mul_one,Int.toNat_natCast];rw [show (Value.int .i64 (i:Int))=gI i from rfl,zhu gI (List.range i) 0 n i i (by simp) hc,<- List.range_succ];refine AWP.region ?_;refine rC (vi rfl rfl zid) ?_;refine k_m rfl (k_n ?_);refine ⟨i+1,?_,?_,?_,?_⟩<;>try dsimp only
  ·exact ⟨sq_,sq_,sq_,sq_,trivial⟩
  ·exact Mem.Less.refl _
  ·exact hc
  omega
 obtain rfl:n=i:=by omega
 refine k_a ?_;refine rC (vi rfl rfl zu9) ?_;refine k_n (AWP.seq ?_);refine k_F rfl ?_;rw [Nat.sub_self,List.replicate_zero,List.append_nil];refine AWP.exit ?_;refine zcy ?_;refine zcy ?_;refine zhh ?_;refine zau ?_;refine AWP.seq (k_a (k_e rfl ?_));refine AWP.block ?_;refine AWP.loop (X:=Mem × List Nat × List Nat × tu × Nat) (λx=>[(0,x.2.2.2.1),(3,.slice (some ⟨C,0,none⟩) n n),(5,.int .i64 x.2.2.2.2)]) (λx=>x.1.set C ⟨3,x.2.1.map gI,n⟩) (λx=>S.Less x.1/\Fresh x.1 C/\IdxR x.1 x.2.2.2.1 x.2.2.1/\x.2.2.1.length=n/\Ord.RK l x.2.2.2.2 (rkF x.2.2.1)/\(∀ y ∈ x.2.2.1,y<=8192)/\x.2.1.Perm (List.range n)/\1<=x.2.2.2.2/\x.2.2.2.2<=8192/\(n<x.2.2.2.2 -> ∀ i j,i<j->j<x.2.1.length->Ord.pl l x.2.2.2.2 (x.2.1.getD j 0) (x.2.1.getD i 0)=false)) (λx=>8192-x.2.2.2.2) ((S,List.range n,r,.slice ra n rc,1)) ⟨rfl,rfl,rfl,trivial⟩ (Mem.Less.refl _) (⟨Mem.Less.refl _,f8,hr,A,h1,W,List.Perm.refl _,Nat.le_refl _,by show 1<=8192;decide,λh i j av hj=>by have h':n<1:=h;have h2:j<(List.range n).length:=hj;rw [List.length_range] at h2;omega⟩) ?_;rintro ⟨M,e,r2,aI,k⟩ ⟨q1,q2,Y,q4,q5,q6,Q,q8,q9,U⟩;(try dsimp only at *);obtain ⟨aH,aF,rfl,_⟩:=id Y;rw [q4] at Y ⊢;by_cases hk:k<=n
 ·refine AWP.seq (k_a (k_m rfl (k_m rfl ?_)));refine rC (vL underlying41 rfl) ?_;refine rC (vi rfl rfl zu_) ?_;refine k_n ?_;refine k_u [(0,_),(3,_),(5,_),(22,_)] ?_;refine k_T rfl ?_;refine k_k (AWP.seq ?_);refine AWP.block ?_;refine AWP.region ?_;refine k_m rfl (k_m rfl (k_m rfl ?_));refine ARun.call (zab rfl) zw0 rfl (zmN C k _ rfl n _ r2 e M q2 Y q4 vd hl q9 q6 Q) ?_;rintro u S2 ⟨S1,e2,r3,rfl,g1,g2,g3,J,g5,g6⟩;rw [H] at J g6;obtain ⟨p1,p2,p3,p4⟩:=zpT q8 vd q5 J g5 g6;rw [<- H] at J p3 p4;refine k_s rfl ?_;refine zad ?_;refine zhg ?_;refine zau ?_;refine k_u [(0,_),(3,_),(5,_),(22,_)] ?_;refine AWP.region ?_;refine k_m rfl ?_;refine rC (vi rfl rfl zfw) ?_;refine k_e rfl ?_;refine ⟨(S1,e2,r3,u,k+k),?_,?_,?_,?_⟩<;>try dsimp only
  ·exact ⟨sq_,sq_,congrArg (λq:Int=>some (Value.int .i64 q)) vd,trivial⟩
  ·exact Mem.Less.refl _
  ·exact ⟨q1.trans g2,g1,g3,p3,p1,λy hy=>by have:=p4 y hy;omega,J,by omega,by omega,λ_=>p2⟩
  omega
 refine AWP.seq (k_a (k_m rfl (k_m rfl ?_)));refine rC (vL underlying41 rfl) ?_;refine rC (vi rfl rfl zu_) ?_;refine k_n ?_;refine k_u [(0,_),(3,_),(5,_),(22,_)] ?_;refine k_F rfl ?_;have V:Ord.SortedE l e:=Ord.zpa l k vd e (by rw [<- H];exact Q) (U vd);have aa:Ord.endsR l n=e:=by rw [H];exact Ord.zf8 (Ord.zdt l) V
 rw [aa];refine AWP.exit ?_;refine zcy ?_;refine zcy ?_;refine zhh ?_;refine zau ?_;refine k_a (k_m rfl (k_e rfl ?_));refine k_u [(0,_),(3,_),(5,_),(22,_),(2,_)] ?_;refine AWP.ret ?_;refine ⟨_,_,⟨_,_,rfl,rfl,rfl⟩,Mem.Less.refl _,?_⟩;exact ⟨M,q1,some (C,n),zbE q2 (by rw [Q.length_eq,List.length_range];exact Nat.le_refl _),by rw [Q.length_eq,List.length_range];rfl,rfl⟩
def cntL (D:List Nat) (x:Nat):Nat:=D.countP (λy=>decide (y<x))
theorem zwH (D:List Nat) (x i:Nat) (hi:i<=D.length) (H:∀ k (A:k<D.length),k<i->D[k]<x) (I:∀ k (A:k<D.length),i<=k->x<=D[k]):cntL D x=i:=by
 unfold cntL;rw [<- List.take_append_drop i D,List.countP_append];have e1:(D.take i).countP (λy=>decide (y<x))=(D.take i).length:=List.countP_eq_length.2 λy C=>by
  obtain ⟨k,A,rfl⟩:=List.getElem_of_mem C;rw [List.length_take] at A;rw [List.getElem_take];exact decide_eq_true (H k vd vd)
 have e2:(D.drop i).countP (λy=>decide (y<x))=0:=List.countP_eq_zero.2 λy C=>by
  obtain ⟨k,A,rfl⟩:=List.getElem_of_mem C;rw [List.length_drop] at A;rw [List.getElem_drop];have:=I (i+k) vd vd;simp;omega
 rw [e1,e2,List.length_take];omega
theorem ztb (D:List Nat) (x y:Nat) (hx:x ∈ D) (h:x<y):cntL D x<cntL D y:=by
 unfold cntL
 induction D with
 | nil=>cases hx
 | cons d D C =>
  rw [List.countP_cons,List.countP_cons];have A:D.countP (λz=>decide (z<x))<=D.countP (λz=>decide (z<y)):=List.countP_mono_left λz _ H=>by simp at H ⊢;omega
  rcases List.mem_cons.1 hx with rfl | hx
  ·rw [if_neg (by simp),if_pos (by simp [h])];omega
  have:=C hx;split <;> split <;> simp_all <;> omega
theorem zps (D:List Nat) (x:Nat):cntL D x<=D.length:=List.countP_le_length
theorem zwI (l D:List Nat) (H:∀ x ∈ l,x ∈ D):Ord.RK l 1 (rkF (l.map (cntL D))):=by
 refine Ord.zwp l _ λa b C A=>?_;unfold rkF;rw [zal _ _ _ (by simpa using C),zal _ _ _ (by simpa using A),List.getElem_map,List.getElem_map];constructor
 ·intro h;rcases Nat.lt_or_ge l[a] l[b] with h' | h'
  ·exact h'
  rcases Nat.lt_or_eq_of_le h' with h'' | h''
  ·have:=ztb D l[b] l[a] (H _ (List.getElem_mem A)) h'';omega
  rw [h''] at h;omega
 exact ztb D _ _ (H _ (List.getElem_mem C))
def CpI (L A:List Nat) (k q:Nat):Prop:=A.length=L.length/\1<=k/\k<q/\q<=L.length/\(∀ p,k<=p->A.getD p 0=L.getD p 0)/\(∀ i,i+1<k->A.getD i 0<A.getD (i+1) 0)/\A.getD (k-1) 0=L.getD (q-1) 0 /\ ∀ p,p<q -> ∃ i,i<k/\A.getD i 0=L.getD p 0
theorem CpI.start {L:List Nat} {k:Nat} (C:1<=k) (H:k<L.length) (hs:∀ i,i+1<k->L.getD i 0<L.getD (i+1) 0) (A:L.getD k 0=L.getD (k-1) 0):CpI L L k (k+1) :=
 ⟨rfl,C,Nat.lt_succ_self _,H,λ_ _=>rfl,hs,by rw [Nat.add_sub_cancel];exact A.symm,λp I=>by
  rcases Nat.lt_or_ge p k with h | h
  ·exact ⟨p,h,rfl⟩
  obtain rfl:p=k:=by omega
  exact ⟨p-1,by omega,A.symm⟩⟩
theorem CpI.same {L A:List Nat} {k q:Nat} (h:CpI L A k q) (U:q<L.length) (C:L.getD q 0=L.getD (q-1) 0):CpI L A k (q+1):=by
 obtain ⟨V,I,Y,h4,J,Q,H,W⟩:=h;refine ⟨V,I,by omega,U,J,Q,by rw [Nat.add_sub_cancel,H,C],λp X=>?_⟩;rcases Nat.lt_or_ge p q with h | h
 ·exact W p h
 obtain rfl:p=q:=by omega
 exact ⟨k-1,by omega,by rw [H,C]⟩
theorem zc4 (A:List Nat) (k x:Nat) (h:k<A.length):(A.set k x).getD k 0=x:=by rw [List.getD_eq_getElem?_getD,List.getElem?_set_self h];rfl
theorem zbB (A:List Nat) (k p x:Nat) (h:k≠p):(A.set k x).getD p 0=A.getD p 0:=by rw [List.getD_eq_getElem?_getD,List.getElem?_set_ne h,<- List.getD_eq_getElem?_getD]
theorem CpI.more {L A:List Nat} {k q:Nat} (h:CpI L A k q) (U:q<L.length) (Q:L.getD (q-1) 0<L.getD q 0):CpI L (A.set k (L.getD q 0)) (k+1) (q+1):=by
 obtain ⟨V,h2,Y,h4,X,J,H,W⟩:=h;have C:k<A.length:=by omega
 refine ⟨by rw [List.length_set];exact V,by omega,by omega,U,λp I=>?_,λi hi=>?_,?_,λp I=>?_⟩
 ·rw [zbB _ _ _ _ vd];exact X p vd
 ·rcases Nat.lt_or_ge (i+1) k with h | h
  ·rw [zbB _ _ _ _ vd,zbB _ _ _ _ vd];exact J i h
  obtain rfl:k=i+1:=by omega
  rw [zc4 _ _ _ C,zbB _ _ _ _ vd];rw [Nat.add_sub_cancel] at H;rw [H];exact Q
 ·rw [Nat.add_sub_cancel,Nat.add_sub_cancel,zc4 _ _ _ C]
 rcases Nat.lt_or_ge p q with h | h
 ·obtain ⟨i,hi,e⟩:=W p h;exact ⟨i,by omega,by rw [zbB _ _ _ _ vd];exact e⟩
 obtain rfl:p=q:=by omega
 exact ⟨k,by omega,zc4 _ _ _ C⟩
theorem zgi (D:List Nat) (h:∀ i,i+1<D.length->D.getD i 0<D.getD (i+1) 0):D.Pairwise (· < ·):=by
 refine List.pairwise_iff_getElem.2 λi j hi H A=>?_;have:=Ord.zlo (R:=λa b=>a<b) (λa b c=>Nat.lt_trans) D (λk C=>by have:=h k C;rw [zal _ _ _ vd,zal _ _ _ C] at this;exact this) i j H A;exact this
theorem CpI.done {L A:List Nat} {k:Nat} (h:CpI L A k L.length):(A.take k).Pairwise (· < ·)/\(∀ x ∈ L,x ∈ A.take k)/\(A.take k).length=k/\k<L.length:=by
 obtain ⟨h1,W,J,Y,h5,Q,X,V⟩:=h;have I:(A.take k).length=k:=by rw [List.length_take];omega
 have C:∀ i,i<k->(A.take k).getD i 0=A.getD i 0:=λi hi=>by rw [List.getD_eq_getElem?_getD,List.getElem?_take_of_lt hi,<- List.getD_eq_getElem?_getD]
 refine ⟨zgi _ λi hi=>by rw [I] at hi;rw [C _ vd,C _ hi];exact Q i hi,λx U=>?_,I,J⟩;obtain ⟨p,H,rfl⟩:=List.getElem_of_mem U;obtain ⟨i,hi,e⟩:=V p H;rw [zal L p 0 H,<- C i hi,zal _ _ _ vd] at e;rw [<- e];exact List.getElem_mem _
theorem zmO (l:List Nat) (n:Nat) (U:l.length=n) (d':Array Nat) (hd:d'=Go.Sort.pdq ltN l.toArray 0 n (Go.Sort.bitsLen n) true true) :
  d'.toList.Perm l/\d'.toList.Pairwise (· <= ·):=by
 have J:Go.Sort.SWO ltN:=by
  unfold ltN;exact ⟨λa=>by simp,λa b c V I=>by simp at *;omega,λa b c V I=>by simp at *;omega⟩
 subst U;obtain ⟨p1,H⟩:=Go.Sort.pdq_sorts _ J l.toArray 0 l.length (Go.Sort.bitsLen l.length) true true (Nat.zero_le _) (by simp) (Or.inl rfl);rw [<- hd] at p1 H;have hs:d'.size=l.length:=by rw [p1.1];simp
 refine ⟨?_,List.pairwise_iff_getElem.2 λi j hi Q C=>?_⟩
 ·have:=p1.2.2;rw [show d'.extract 0 l.length=d' by rw [<- hs];simp,show l.toArray.extract 0 l.length=l.toArray by simp] at this;simpa using this
 have A:j<l.length:=by simpa [hs] using Q
 have:=H i j (Nat.zero_le _) C A;unfold ltN at this;rw [getElem!_pos d' j vd,getElem!_pos d' i vd] at this;simp at this;simpa using this
end
end Go.Proofs.YtopiogkolaelnaaGreatDoor
