/-
  Texts that belong together: Lv2, Lv3, Lv4, Lv5, Bw1, Bw2, Bw3, Bw4, Bw5, TuL0, Lv6, Lv7, Ints, Ord1, Ord3, Sk1, Sk2, Drw, Sort0, SortX, SortB, CmL, Sk4, Sk5, Sk6, Sk7, SkewMath4, RfB.
-/
import Derived.Test.YtbgjkpkakoggbaaGreatDoorBTu6
import Derived.Test.YtbgjkpkakoggbaaGreatDoorBase
import Derived.Calls
import Derived.Sort.AssemblyPlain
import Derived.Sort.LotD5
import Derived.Lib.QuietBelow
import Derived.Laws.StructEq
set_option maxHeartbeats 8000000
set_option maxRecDepth 100000
set_option linter.unusedVariables false
set_option linter.unusedSimpArgs false
set_option linter.unusedSectionVars false
namespace Go.Proofs.YtbgjkpkakoggbaaGreatDoor
open _root_.Go.Proofs.Tryz
section
open Go.RowKit Go.Shelf
open Mv Disk Num
namespace Sto
open Skew (at0)
def csR (R:List (List Nat)) (a:Nat):Nat:=(R.filter λr=>decide (r.getD 0 0<a)).length
def rkR (R:List (List Nat)) (a:Nat):Nat:=if (R.getD (csR R a) []).getD 0 0=a/\csR R a<R.length then (R.getD (csR R a) []).getD 1 0 else 0
def AscR (R:List (List Nat)):Prop:=R.Pairwise λx y=>x.getD 0 0<y.getD 0 0
theorem zwP (R:List (List Nat)) (a:Nat):csR R a<=R.length:=List.length_filter_le _ _
theorem zkG {R:List (List Nat)} {a:Nat} (h:∀ r ∈ R,a<=r.getD 0 0):csR R a=0:=by
 unfold csR;rw [List.filter_eq_nil_iff.2 λr I=>by have:=h r I;simp only [decide_eq_true_eq];omega];rfl
theorem zgH {r:List Nat} {R:List (List Nat)} {a:Nat} (h:AscR (r :: R)):csR (r :: R) a=if r.getD 0 0<a then csR R a+1 else 0:=by
 by_cases q:r.getD 0 0<a
 ·rw [if_pos q];unfold csR;rw [List.filter_cons,if_pos (by simpa using q)];rfl
 rw [if_neg q];exact zkG λx hx=>by
  rcases List.mem_cons.1 hx with rfl | hx
  ·omega
  have:=(List.pairwise_cons.1 h).1 x hx;omega
theorem zsP:∀ {R:List (List Nat)} {a:Nat},AscR R->csR R a<R.length->a<=(R.getD (csR R a) []).getD 0 0
 | r :: R,a,h,hl=>by
  rw [zgH h] at hl ⊢;split at hl
  ·next q =>
   rw [if_pos q];exact zsP (List.pairwise_cons.1 h).2 (by simpa using hl)
  next q =>
  rw [if_neg q];show a<=r.getD 0 0;omega
theorem zpw:∀ {R:List (List Nat)} {a:Nat},AscR R->csR R (a+1)=csR R a+if (R.getD (csR R a) []).getD 0 0=a/\csR R a<R.length then 1 else 0
 | [],_,_=>by simp [csR]
 | r :: R,a,h=>by
  rw [zgH h,zgH h];have J:=(List.pairwise_cons.1 h).2;by_cases q:r.getD 0 0<a
  ·rw [if_pos q,if_pos vd,zpw J];show _=csR R a+1+if (R.getD (csR R a) []).getD 0 0=a/\csR R a+1<R.length+1 then 1 else 0
   rw [Nat.add_right_comm];congr 1;by_cases I:(R.getD (csR R a) []).getD 0 0=a/\csR R a<R.length
   ·rw [if_pos I,if_pos ⟨I.1,by omega⟩]
   rw [if_neg I,if_neg λh=>I ⟨h.1,by omega⟩]
  rw [if_neg q];show _=0+if r.getD 0 0=a/\0<R.length+1 then 1 else 0
  by_cases I:r.getD 0 0=a
  ·rw [if_pos vd,if_pos ⟨I,Nat.succ_pos _⟩,zkG λx Q=>by have:=(List.pairwise_cons.1 h).1 x Q;omega]
  rw [if_neg vd,if_neg λh=>I h.1]
def fdB (p q a:Nat) (nx:tu) (t0 t1 r0 r1 r2:Nat):Blk:=⟨310,[self p,self q,.int .u64 a,nx,.int .u64 t0,.int .u64 t1,.int .u64 r0,.int .u64 r1,.int .u64 r2],9⟩
def FdS (g:Cx) (B:List (Nat × Blk)) (F:List Fl) (H:List Sh) (p q fb:Nat) (fn rn:tt) (l:List Nat) (R:List (List Nat)) (j a t0 t1 r0 r1 r2 n:Nat) (T:Mem):Prop :=
  ∃ nx Bl i z1 z2,Op g ((fb,fdB p q a nx t0 t1 r0 r1 r2) :: (Bl ++ B)) F (rdR p fn 1 (oneL l) (min j l.length) z1 :: rdR q rn 2 R i z2 :: H) n T/\((nx = .slice none 0 0/\Bl = []/\i=csR R a)\/((∃ b,nx = .slice (some ⟨b,0,none⟩) 2 2/\Bl = [(b,⟨31,(R.getD (csR R a) []).map nU,2⟩)])/\csR R a<R.length/\i=csR R a+1))
section
variable {g:Cx} {B:List (Nat × Blk)} {F:List Fl} {H:List Sh} {p q fb j a t0 t1 r0 r1 r2 n:Nat} {fn rn:tt} {l:List Nat} {R:List (List Nat)} {T:Mem}
theorem FdS.mono {m:Nat} (I:FdS g B F H p q fb fn rn l R j a t0 t1 r0 r1 r2 n T) (h:n<=m):FdS g B F H p q fb fn rn l R j a t0 t1 r0 r1 r2 m T:=by
 obtain ⟨Q,J,i,U,V,I,X⟩:=I;exact ⟨Q,J,i,U,V,I.mono h,X⟩
theorem FdS.put (I:FdS g B F H p q fb fn rn l R j a t0 t1 r0 r1 r2 n T) (s0 s1 V Q U:Nat):∃ J,T.own fb=some (fdB p q a J t0 t1 r0 r1 r2)/\FdS g B F H p q fb fn rn l R j a s0 s1 V Q U n (T.set fb (fdB p q a J s0 s1 V Q U)):=by
 obtain ⟨J,X,i,Y,z2,I,h1⟩:=I;exact ⟨J,I.o.1,J,X,i,Y,z2,I.put [] _,h1⟩
theorem zju (I:FdS g B F H p q fb fn rn l R j a t0 t1 r0 r1 r2 n T) (hl:∀ z ∈ l,1<=z/\z<Num.top) (hc:l.length<=4096) (hn:n+5<=16384) (hH:H.length<=5) :
  ACall prog 231 #[self fb] T λv T'=>v = .tuple #[.int .u64 (at0 l j:Nat),.nilIface]/\FdS g B F H p q fb fn rn l R (j+1) a t0 t1 r0 r1 r2 (n+5) T':=by
 obtain ⟨V,X,i,z1,z2,I,h1⟩:=I;have of:=I.o.1;unfold fdB at of;by_cases Q:j<l.length
 ·have hz:=(hl _ (List.getElem_mem Q)).1;rw [Nat.min_eq_left (Nat.le_of_lt Q)] at I;have U:=zel [] I (zgF λz hz=>(hl z hz).2) (Nat.le_refl 1) (by decide) (by rw [zag];omega) (by rw [zag];exact Q) hn (by show H.length+1<=7;omega);rw [zgE l Q] at U;rw [zpf l Q];generalize l[j]=z at *;refine k_E1 34 func231 ?_;refine r12_ ?_;refine ca_ rfl (U) ?_;rintro _ T1 ⟨b,rfl,J⟩;have og:=J.o.1;(simp only [List.map_cons,List.map_nil] at og;unfold nU at og);refine r16_ ?_;refine cF_ ?_;refine r9_ ?_;refine cF_ ?_;refine r13_ ?_;refine ⟨_,T1,⟨_,_,rfl,⟨_,_,rfl,rfl,rfl⟩,rfl⟩,zae,?_⟩;exact ⟨rfl,V,X,i,false,z2,by rw [Nat.min_eq_left Q];exact J.tl,h1⟩
 rw [zsM l vd];have e1:min j l.length=(oneL l).length:=by rw [zag];omega
 have e2:min (j+1) l.length=(oneL l).length:=by rw [zag];omega
 rw [e1] at I;have U:=zb2 [] I (Nat.le_refl 1) (by decide) (by rw [zag];omega);obtain ⟨f0,h0,Y⟩:=Op.rq [] I;unfold rdB at Y;dsimp only at Y;refine k_E1 34 func231 ?_;refine r12_ ?_;refine cp_ rfl (U) ?_;refine r7_ ?_;refine kw_ [0,2,3,4,5] ?_;refine r9_ ?_;refine cT_ ?_;refine r9_ ?_;refine cp_ rfl (zaj _ _) ?_;refine r7_ ?_;refine ⟨_,T,⟨_,_,rfl,⟨_,_,rfl,rfl,rfl⟩,rfl⟩,zae,?_⟩;exact ⟨rfl,V,X,i,z1,z2,by rw [e2];exact I.mono vd,h1⟩
def FdN (g:Cx) (B:List (Nat × Blk)) (F:List Fl) (H:List Sh) (p q fb:Nat) (fn rn:tt) (l:List Nat) (R:List (List Nat)) (j a t0 t1 r0 r1 r2 n:Nat) (T:Mem):Prop :=
  ∃ z1 z2,(csR R a<R.length /\ ∃ b,Op g ((fb,fdB p q a (.slice (some ⟨b,0,none⟩) 2 2) t0 t1 r0 r1 r2) :: (b,⟨31,(R.getD (csR R a) []).map nU,2⟩) :: B) F (rdR p fn 1 (oneL l) (min j l.length) z1 :: rdR q rn 2 R (csR R a+1) z2 :: H) n T)\/(csR R a=R.length/\Op g ((fb,fdB p q a (.slice none 0 0) t0 t1 r0 r1 r2) :: B) F (rdR p fn 1 (oneL l) (min j l.length) z1 :: rdR q rn 2 R R.length z2 :: H) n T)
theorem zcr {R:List (List Nat)} {i:Nat} (h:i<R.length):R.getD i []=R[i]:=by rw [List.getD_eq_getElem?_getD,List.getElem?_eq_getElem h];rfl
theorem zkH (I:FdS g B F H p q fb fn rn l R j a t0 t1 r0 r1 r2 n T) (hR:RowsOK 2 R) (ha:AscR R) (hc:R.length<=100) (aB:a<=1000) (hn:n+10<=16384) (hH:H.length<=5) :
  ACall prog 232 #[self fb] T λv T'=>v = .tuple #[.int .u64 (rkR R a:Nat),.nilIface]/\FdS g B F H p q fb fn rn l R j (a+1) t0 t1 r0 r1 r2 (n+10) T':=by
 have U:=zpw (a:=a) ha;obtain ⟨nx,Bl,i,z1,z2,I,h1⟩:=I;have az:=zwP R a;have af:=I.o.1;unfold fdB at af;refine k_E1 76 func232 ?_;refine r7_ ?_;refine AWP.join (X:=Mem) (λ_=>[(0,self fb)]) (λX=>X) (λX=>FdN g B F H p q fb fn rn l R j a t0 t1 r0 r1 r2 (n+10) X) ?_ ?_
 ·rcases h1 with ⟨rfl,rfl,rfl⟩ | ⟨⟨b,rfl,rfl⟩,Q,rfl⟩
  ·by_cases Q:csR R a<R.length
   ·refine r9_ ?_;refine cT_ ?_;refine r6_ ?_;have V:=zel [rdR p fn 1 (oneL l) (min j l.length) z1] I hR (by decide) (by decide) vd Q vd (by show H.length+1<=7;omega);refine ca_ rfl (V) ?_;rintro _ T1 ⟨b,rfl,J⟩;clear V;have al:=J.o.2.1;unfold fdB at al;refine r7_ ?_;refine ⟨T1.set fb (fdB p q a (.slice (some ⟨b,0,none⟩) 2 2) t0 t1 r0 r1 r2),?_,?_,?_⟩<;>try dsimp only
    ·exact ⟨z1,false,.inl ⟨Q,b,by rw [zcr Q];exact (J.put [_] _).perm (List.Perm.swap ..) (.refl _) (.refl _)⟩⟩
    ·exact ⟨rfl,trivial⟩
    exact Mem.Less.refl _
   have e:csR R a=R.length:=(by omega);rw [e] at I;refine r9_ ?_;refine cT_ ?_;refine r6_ ?_;have V:=zb2 [rdR p fn 1 (oneL l) (min j l.length) z1] I (by decide) (by decide) vd;refine ca_ rfl (V) ?_;rintro _ S9 ⟨rfl,h9⟩;clear V;rw [h9];clear h9 S9;refine r7_ ?_;refine ⟨T,?_,?_,?_⟩<;>try dsimp only
   ·exact ⟨z1,z2,.inr ⟨e,I.mono vd⟩⟩
   ·exact ⟨rfl,trivial⟩
   (show Mem.Less T (T.set fb ⟨310,[self p,self q,.int .u64 a,.slice none 0 0,.int .u64 t0,.int .u64 t1,.int .u64 r0,.int .u64 r1,.int .u64 r2],9⟩);rw [vB _ _ _ af];exact Mem.Less.refl _)
  refine r9_ ?_;refine cF_ ?_;refine s1_ ?_;refine ⟨T,?_,?_,?_⟩<;>try dsimp only
  ·exact ⟨z1,z2,.inl ⟨Q,b,I.mono vd⟩⟩
  ·exact ⟨rfl,trivial⟩
  exact Mem.Less.refl _
 rintro M ⟨y1,y2,hM⟩;intro _ _ ag ai;(try dsimp only at *);refine zbO ?_;refine AWP.sub _ ag (AWP.less _ ai ?_);clear ag ai;rcases hM with ⟨Q,b,J⟩ | ⟨e,J⟩
 ·obtain ⟨x,y,ad⟩ : ∃ x y,R.getD (csR R a) [] = [x,y]:=by
   have:=(hR _ (List.getElem_mem Q)).1;rw [<- zcr Q] at this
   match hm:R.getD (csR R a) [],this with
   | [x,y],_=>exact ⟨x,y,rfl⟩
  have ac:=zsP ha Q;have Y:rkR R a=if x=a then y else 0:=by
   unfold rkR;rw [ad];by_cases e:x=a
   ·rw [if_pos e,if_pos ⟨e,Q⟩];rfl
   rw [if_neg e,if_neg λh=>e h.1]
  rw [ad] at ac J U;replace ac:a<=x:=ac;replace U:csR R (a+1)=csR R a+if x=a/\csR R a<R.length then 1 else 0:=U
  have o1:=J.o.1;obtain ⟨M1,l1,J1⟩:=(J.put [] (fdB p q (a+1) (.slice (some ⟨b,0,none⟩) 2 2) t0 t1 r0 r1 r2)).vl;have o3:=J1.o.1;have o4:M1.own b=some ⟨31,[nU x,nU y],2⟩:=J1.o.2.1;unfold fdB at o1 o3;unfold nU at o4;refine r21_ ?_;refine kw_ [0,4] ?_;refine AWP.less M1 l1 ?_;refine r12_ ?_;refine cF_ ?_;refine r13_ ?_;refine cF_ ?_;by_cases q1:x=a
  ·refine r13_ ?_;refine cF_ ?_;refine r22_ ?_;refine kw_ [0,4,33,47,57,5] ?_;refine r8_ ?_;refine ⟨_,_,⟨_,_,rfl,⟨_,_,rfl,rfl,rfl⟩,rfl⟩,Mem.Less.refl _,?_⟩;exact ⟨by rw [Y,if_pos q1];rfl,.slice none 0 0,[],csR R a+1,y1,y2,((J1.put [] (fdB p q (a+1) (.slice none 0 0) t0 t1 r0 r1 r2)).sub ((List.sublist_cons_self _ _).cons_cons _)),.inl ⟨rfl,rfl,by rw [U,if_pos ⟨q1,Q⟩]⟩⟩
  have e2:csR R (a+1)=csR R a:=by rw [U,if_neg λh=>q1 h.1];rfl
  refine r13_ ?_;refine cT_ ?_;refine r9_ ?_;refine ⟨_,_,⟨_,_,rfl,⟨_,_,rfl,rfl,rfl⟩,rfl⟩,Mem.Less.refl _,?_⟩;exact ⟨by rw [Y,if_neg q1];rfl,.slice (some ⟨b,0,none⟩) 2 2,[(b,⟨31,[x,y].map nU,2⟩)],csR R a+1,y1,y2,J1,.inr ⟨⟨b,rfl,by rw [e2,ad]⟩,by rw [e2];exact Q,by rw [e2]⟩⟩
 have Y:rkR R a=0:=by unfold rkR;rw [if_neg λh=>by omega]
 have e2:csR R (a+1)=R.length:=by rw [U,if_neg λh=>by omega];exact e
 have o1:=J.o.1;obtain ⟨M1,l1,J1⟩:=(J.put [] (fdB p q (a+1) (.slice none 0 0) t0 t1 r0 r1 r2)).vl;have o3:=J1.o.1;obtain ⟨f0,h0,oq⟩:=Op.rq [rdR p fn 1 (oneL l) (min j l.length) y1] J1;unfold fdB at o1 o3
 (unfold rdB at oq;dsimp only at oq)
 refine r21_ ?_;refine AWP.less M1 l1 ?_;refine r12_ ?_;refine kw_ [0,4,33] ?_;refine cT_ ?_;refine r9_ ?_;refine cp_ rfl (zaj _ _) ?_;refine r7_ ?_;refine ⟨_,M1,⟨_,_,rfl,⟨_,_,rfl,rfl,rfl⟩,rfl⟩,zae,?_⟩;exact ⟨by rw [Y];rfl,.slice none 0 0,[],R.length,y1,y2,J1,.inl ⟨rfl,rfl,e2.symm⟩⟩
theorem zuu (I:FdS g B F H p q fb fn rn l R j a t0 t1 r0 r1 r2 n T) (hl:∀ z ∈ l,1<=z/\z<Num.top) (ac:l.length<=4096) (hR:RowsOK 2 R) (ha:AscR R) (hc:R.length<=100) (Y:a<=1000) (hn:n+15<=16384) (hH:H.length<=5) :
  ACall prog 200 #[self fb] T λv T'=>v = .nilIface/\FdS g B F H p q fb fn rn l R (j+1) (a+1) t1 (at0 l j) r1 r2 (rkR R a) (n+15) T':=by
 obtain ⟨X,o1,I⟩:=I.put t1 t1 r1 r2 r2;have o2:(T.set fb (fdB p q a X t1 t1 r0 r1 r2)).own fb=some (fdB p q a X t1 t1 r0 r1 r2):=vf _ _ _;generalize U:T.set fb (fdB p q a X t1 t1 r1 r2 r2)=T1 at *;unfold fdB at o1 o2 U;refine k_E1 54 func200 ?_;refine r6_ ?_;refine dr_ [i0_,i1_,i2_,i3_,i4_,i5_,i6_,i7_,i8_,i9_,o10_] [10] ?_;refine r9_ ?_;refine dP (hc:=λ_=>vZ (l:=1) underlying305 zaw rfl rfl (by decide)) (h:=?_);refine zac rfl ?_;refine vQ (n:=1) (q:=1) (news:=[.int .u64 t1]) (zab rfl) zaq rfl o1 (show 4<=9 by decide) rfl rfl (vq o1 5 _ (λj v Q=>by match j,Q with | 0,Q=>exact Q | j+1,Q=>simp at Q)) rfl (by simp [Value.oneCell']) (.inl (show 5<=9 by decide)) ?_;refine zad ⟨nz_,?_⟩;refine r3_ ?_;refine dr_ [i0_,i1_,i2_,i3_,i4_,i5_,i6_,i7_,i8_,i9_,o10_] [10] ?_;refine r9_ ?_;refine dP (hc:=λ_=>vZ (l:=1) underlying306 zaw rfl rfl (by decide)) (h:=?_);refine zac rfl ?_;refine vQ (n:=1) (q:=2) (news:=[.int .u64 r1,.int .u64 r2]) (zab rfl) zaq rfl o2 (show 6<=9 by decide) rfl rfl (vq o2 7 _ (λj v Q=>by rw [show 7+j=j+7 from Nat.add_comm 7 j];exact Q)) rfl (by simp [Value.oneCell']) (.inl (show 8<=9 by decide)) ?_;refine zad ⟨nz_,?_⟩;refine r2_ ?_;rw [Mem.set_set];refine AWP.less T1 (by rw [<- U];exact Mem.Less.refl _) ?_;refine r3_ ?_;have J:=zju I hl ac vd hH;refine ca_ rfl (J) ?_;rintro _ T2 ⟨rfl,I⟩;clear J;refine r11_ ?_;refine rC (vh rfl rfl Er.neNil) ?_;refine r2_ ?_;refine cF_ ?_;refine r5_ ?_;have J:=zkH I hR ha hc Y vd hH;refine ca_ rfl (J) ?_;rintro _ T3 ⟨rfl,I⟩;clear J;obtain ⟨V,o3,I⟩:=I.put t1 (at0 l j) r1 r2 (rkR R a);unfold fdB at o3;refine r7_ ?_;refine kw_ [0,2,3,4,34,5] ?_;refine s1_ ?_;refine dr_ [i0_,i1_,i2_,i3_,i4_,i5_,i6_,i7_,i9_,i10_,i11_,o8_,i12_,o13_] [8,13] ?_;refine r11_ ?_;refine zac rfl ?_;refine s1_ ?_;refine zad ⟨nz_,?_⟩;refine s1_ ?_;refine zac rfl ?_;refine s1_ ?_;refine zad ⟨nz_,?_⟩;refine r9_ ?_;refine ⟨_,T3.set fb (fdB p q (a+1) V t1 (at0 l j) r1 r2 (rkR R a)),⟨_,_,rfl,rfl,rfl⟩,Mem.Less.refl _,?_⟩;exact ⟨rfl,I.mono vd⟩
theorem zrS (I:FdS g B F H p q fb fn rn l R 0 0 t0 t1 r0 r1 r2 n T) (hl:∀ z ∈ l,1<=z/\z<Num.top) (V:l.length<=4096) (Y:RowsOK 2 R) (X:AscR R) (hc:R.length<=100) (hn:n+25<=16384) (U:H.length<=5) :
  ACall prog 199 #[self fb] T λv T'=>v = .nilIface/\FdS g B F H p q fb fn rn l R 1 2 t0 (at0 l 0) r0 (rkR R 0) (rkR R 1) (n+25) T':=by
 refine k_E1 47 func199 ?_;refine r8_ ?_;have J:=zju I hl V vd U;refine ca_ rfl (J) ?_;rintro _ T2 ⟨rfl,I⟩;clear J;refine r11_ ?_;refine rC (vh rfl rfl Er.neNil) ?_;refine r2_ ?_;refine cF_ ?_;refine r5_ ?_;have J:=zkH I Y X hc (by decide) vd U;refine ca_ rfl (J) ?_;rintro _ T3 ⟨rfl,I⟩;clear J;refine r11_ ?_;refine rC (vh rfl rfl Er.neNil) ?_;refine r2_ ?_;refine cF_ ?_;refine r5_ ?_;have J:=zkH I Y X hc (by decide) vd U;refine ca_ rfl (J) ?_;rintro _ T4 ⟨rfl,I⟩;clear J;obtain ⟨Q,o3,I⟩:=I.put t0 (at0 l 0) r0 (rkR R 0) (rkR R 1);unfold fdB at o3;refine r7_ ?_;refine kw_ [0,2,3,4,13,5,21,6] ?_;refine s1_ ?_;refine dr_ [i0_,i1_,i2_,i3_,i4_,i5_,i6_,i7_,i8_,i9_,i11_,i12_,i13_,i16_,i17_,i18_,o10_,i14_,o15_,i19_,o20_] [10,15,20] ?_;refine r16_ ?_;refine zac rfl ?_;refine s1_ ?_;refine zad ⟨nz_,?_⟩;refine s1_ ?_;refine zac rfl ?_;refine s1_ ?_;refine zad ⟨nz_,?_⟩;refine s1_ ?_;refine zac rfl ?_;refine s1_ ?_;refine zad ⟨nz_,?_⟩;refine r9_ ?_;refine ⟨_,T4.set fb (fdB p q 2 Q t0 (at0 l 0) r0 (rkR R 0) (rkR R 1)),⟨_,_,rfl,rfl,rfl⟩,Mem.Less.refl _,?_⟩;exact ⟨rfl,I.mono vd⟩
end
end Sto
end
section
open Go.RowKit Go.Shelf
open Mv Disk Num
namespace Sto
open Skew (at0)
def zrow (l:List Nat) (R:List (List Nat)) (i:Nat):List Nat:=[at0 l i,rkR R (i+1),i,at0 l (i+1),rkR R (i+2)]
def srow (l:List Nat) (R:List (List Nat)) (i:Nat):List Nat:=[rkR R i,i,at0 l i,at0 l (i+1),rkR R (i+1),rkR R (i+2)]
def rowsZ (l:List Nat) (R:List (List Nat)) (k:Nat):List (List Nat):=((List.range k).filter λi=>decide (i % 3=0)).map (zrow l R)
def rowsS (l:List Nat) (R:List (List Nat)) (k:Nat):List (List Nat):=((List.range k).filter λi=>!decide (i % 3=0)).map (srow l R)
theorem zfo (l:List Nat) (R:List (List Nat)) (k:Nat):rowsZ l R (k+1)=if k % 3=0 then rowsZ l R k ++ [zrow l R k] else rowsZ l R k:=by
 unfold rowsZ;rw [List.range_succ,List.filter_append,List.map_append];by_cases q:k % 3=0
 ·rw [if_pos q];simp [q]
 rw [if_neg q];simp [q]
theorem zfp (l:List Nat) (R:List (List Nat)) (k:Nat):rowsS l R (k+1)=if k % 3=0 then rowsS l R k else rowsS l R k ++ [srow l R k]:=by
 unfold rowsS;rw [List.range_succ,List.filter_append,List.map_append];by_cases q:k % 3=0
 ·rw [if_pos q];simp [q]
 rw [if_neg q];simp [q]
theorem zgI (l:List Nat) (R:List (List Nat)):∀ k,(rowsZ l R k).length=(k+2) / 3/\(rowsS l R k).length=k-(k+2) / 3
 | 0=>⟨rfl,rfl⟩
 | k+1=>by
  obtain ⟨I,J⟩:=zgI l R k;rw [zfo,zfp];have e1:(k+1+2) / 3=k / 3+1:=by omega
  rw [e1];by_cases q:k % 3=0
  ·have e2:(k+2) / 3=k / 3:=(by omega);rw [if_pos q,if_pos q,List.length_append,I,J,e2,List.length_singleton];constructor <;> omega
  have e2:(k+2) / 3=k / 3+1:=by omega
  rw [if_neg q,if_neg q,List.length_append,I,J,e2,List.length_singleton];constructor <;> omega
theorem zwh {R:List (List Nat)} (I:RowsOK 2 R) (i:Nat):rkR R i<Num.top:=by
 unfold rkR;split
 ·next h =>
  rw [zcr h.2];obtain ⟨Q,J⟩:=I _ (List.getElem_mem h.2);rw [List.getD_eq_getElem?_getD,List.getElem?_eq_getElem vd];exact J _ (List.getElem_mem _)
 decide
theorem zkI {l:List Nat} {R:List (List Nat)} (hl:∀ z ∈ l,z<Num.top) (V:RowsOK 2 R) {i:Nat} (hi:i<=1000):(∀ z ∈ zrow l R i,z<Num.top) /\ ∀ z ∈ srow l R i,z<Num.top:=by
 have U:i<Num.top:=Nat.lt_of_le_of_lt hi (by decide);have J:=zlX hl;have Q:=zwh V;unfold zrow srow;constructor <;> intro z I <;> simp only [List.mem_cons,List.not_mem_nil,or_false] at I
 ·rcases I with rfl | rfl | rfl | rfl | rfl <;> first | exact U | exact J _ | exact Q _
 rcases I with rfl | rfl | rfl | rfl | rfl | rfl <;> first | exact U | exact J _ | exact Q _
def v2B (l:List Nat) (i:Nat):Blk:=⟨305,[.int .u64 (at0 l i:Nat),.int .u64 (at0 l (i+1):Nat)],2⟩
def v3B (R:List (List Nat)) (i:Nat):Blk:=⟨306,[.int .u64 (rkR R i:Nat),.int .u64 (rkR R (i+1):Nat),.int .u64 (rkR R (i+2):Nat)],3⟩
structure SpX where
  M:Mem
  i:Nat
  t0:Nat
  r0:Nat
section
variable {g:Cx} {B:List (Nat × Blk)} {F:List Fl} {H:List Sh} {qs qz n lw:Nat} {fn rn ss sz:tt} {l:List Nat} {R:List (List Nat)} {T:Mem}
theorem zrT (I:Op g B F (wtR qs ss 6 [] (Rec.needN 6 (n-(n+2) / 3)) :: wtR qz sz 5 [] (Rec.needN 5 ((n+2) / 3)) :: H) 0 T) (hw:(lw,lwB g.k) ∈ B) (hf:flR fn 1 (oneL l) ∈ F) (hr:flR rn 2 R ∈ F) (aE:fn≠rn) (hi:∀ h ∈ H,h.isW=true) (hn:l.length=n) (hl:∀ z ∈ l,1<=z/\z<Num.top) (hR:RowsOK 2 R) (ha:AscR R) (aQ:n<=60) (aT:R.length<=60) (hH:H.length<=3) :
  ACall prog 152 #[self lw,.string fn,.string rn,.int .u64 (n:Nat),self qs,self qz] T λv T'=>v = .nilIface/\Op g B (flR sz 5 (rowsZ l R n) :: flR ss 6 (rowsS l R n) :: F) H 0 T':=by
 have ow:=I.o.mem _ hw;unfold lwB at ow;refine k_E6 121 func152 ?_;refine r12_ ?_;have Q:=zdf I hf rfl (by show (oneL l).length<=_;rw [zag];omega) (λh hh=>.inl (by rcases List.mem_cons.1 hh with rfl | hh;rfl;rcases List.mem_cons.1 hh with rfl | hh;rfl;exact hi h hh));refine ca_ rfl (Q) ?_;rintro _ T1 ⟨p,rfl,I⟩;clear Q;have ow:=I.o.mem _ hw;unfold lwB at ow;refine r11_ ?_;refine rC (vh rfl rfl Er.neNil) ?_;refine r2_ ?_;refine cF_ ?_;refine r9_ ?_;have Q:=zcI I hr (show 1<=2 by decide) (show 2<=8 by decide) (show R.length<=65536 by omega) (λh hh=>by rcases List.mem_cons.1 hh with rfl | hh;exact .inr aE;rcases List.mem_cons.1 hh with rfl | hh;exact .inl rfl;rcases List.mem_cons.1 hh with rfl | hh;exact .inl rfl;exact .inl (hi h hh));refine ca_ rfl (Q) ?_;rintro _ T2 ⟨q,rfl,I⟩;clear Q;refine r11_ ?_;refine rC (vh rfl rfl Er.neNil) ?_;refine r2_ ?_;refine cF_ ?_;refine r7_ ?_;refine k_b9 rfl ?_;intro ac aI;refine nl_ ?_;refine r3_ ?_;refine kw_ [0,1,2,3,4,5,12,13,14,31,15,43,16] ?_;have I:FdS g B F (wtR qs ss 6 [] (Rec.needN 6 (n-(n+2) / 3)) :: wtR qz sz 5 [] (Rec.needN 5 ((n+2) / 3)) :: H) p q ac fn rn l R 0 0 0 0 0 0 0 0 (T2.set ac (fdB p q 0 (.slice none 0 0) 0 0 0 0 0)):=⟨_,[],0,true,true,by rw [Nat.zero_min];exact (I.new aI _).perm (.refl _) (.refl _) (List.Perm.swap ..),.inl ⟨rfl,rfl,(zkG λ_ _=>Nat.zero_le _).symm⟩⟩;generalize aK:T2.set ac (fdB p q 0 (.slice none 0 0) 0 0 0 0 0)=T3 at *;refine AWP.less T3 (by rw [<- aK];exact Mem.Less.refl _) ?_;refine r3_ ?_;have Q:=zrS I hl vd hR ha vd (by decide) (by show H.length+2<=5;omega);refine ca_ rfl (Q) ?_;rintro _ T4 ⟨rfl,I⟩;clear Q;refine r10_ ?_;refine AWP.loop (X:=SpX) (λX=>[(3,.int .u64 (n:Nat)),(4,self qs),(5,self qz),(13,self p),(14,.nilIface),(15,self q),(16,.pointer (some ⟨ac,0,none⟩)),(17,.int .u64 (X.i:Nat))]) (λX=>X.M) (λX=>X.i<=n/\FdS g B F (wtR qs ss 6 (rowsS l R X.i) (Rec.needN 6 (n-(n+2) / 3)) :: wtR qz sz 5 (rowsZ l R X.i) (Rec.needN 5 ((n+2) / 3)) :: H) p q ac fn rn l R (X.i+1) (X.i+2) X.t0 (at0 l X.i) X.r0 (rkR R X.i) (rkR R (X.i+1)) (25+60*X.i) X.M) (λX=>n-X.i) (⟨T4,0,0,0⟩) ⟨rfl,rfl,rfl,rfl,rfl,rfl,rfl,rfl,trivial⟩ (Mem.Less.refl _) (⟨Nat.zero_le _,I⟩) ?_;rintro ⟨M,i,t0,r0⟩ ⟨ax,J⟩;(try dsimp only at *);clear I;replace ax:i<=n:=ax;replace J:FdS g B F (wtR qs ss 6 (rowsS l R i) (Rec.needN 6 (n-(n+2) / 3)) :: wtR qz sz 5 (rowsZ l R i) (Rec.needN 5 ((n+2) / 3)) :: H) p q ac fn rn l R (i+1) (i+2) t0 (at0 l i) r0 (rkR R i) (rkR R (i+1)) (25+60*i) M:=J;obtain ⟨au,al⟩:=zgI l R i;by_cases ay:i<n
 ·refine r8_ ?_
  first|refine k_q 54 ?_|refine rG 54 (vh rfl rfl Er.eqNil) ?_
  refine r3_ ?_;refine cT_ ?_;refine r8_ ?_;have Q:=zuu J hl vd hR ha vd vd vd (by show H.length+2<=5;omega);refine ca_ rfl (Q) ?_;rintro _ T5 ⟨rfl,J⟩;clear Q;obtain ⟨nx,Bl,i',z1,z2,J,hJ⟩:=J;have aa:=J.o.1;unfold fdB at aa;refine r6_ ?_;refine rC (vh rfl rfl Er.neNil) ?_;refine r2_ ?_;refine cF_ ?_;refine r3_ ?_;refine AWP.join (X:=Mem × Nat × Nat) (λX=>[(3,.int .u64 (n:Nat)),(4,self qs),(5,self qz),(13,self p),(14,.nilIface),(15,self q),(16,.pointer (some ⟨ac,0,none⟩)),(17,.int .u64 (i:Nat)),(18,.pointer (some ⟨X.2.1,0,none⟩)),(19,.pointer (some ⟨X.2.2,0,none⟩))]) (λX=>X.1) (λX=>Op g ((X.2.2,v3B R i) :: (X.2.1,v2B l i) :: (ac,fdB p q (i+3) nx (at0 l i) (at0 l (i+1)) (rkR R i) (rkR R (i+1)) (rkR R (i+2))) :: (Bl ++ B)) F (rdR p fn 1 (oneL l) (min (i+2) l.length) z1 :: rdR q rn 2 R i' z2 :: wtR qs ss 6 (rowsS l R i) (Rec.needN 6 (n-(n+2) / 3)) :: wtR qz sz 5 (rowsZ l R i) (Rec.needN 5 ((n+2) / 3)) :: H) (25+60*i+15) X.1) ?_ ?_
  ·refine uj (T5) [] mixed zae ?_;refine dgp 0 rfl rfl (λ_=>Calm.move rfl) ?_;refine dgp 1 rfl rfl (λ_=>Calm.nilCheck rfl) ?_;refine dgp 2 rfl rfl (λ_=>Calm.fieldAddr zcD rfl) ?_;refine dgp 3 rfl rfl (λ_=>Calm.fieldAddr zdY rfl) ?_;refine dgl 4 rfl rfl (ldA_ (cs:=[_,_]) zgW zf2 rfl) ?_;refine dgp 5 rfl rfl (λ_=>Calm.move rfl) ?_;refine dgp 6 rfl rfl (λ_=>Calm.nilCheck rfl) ?_;refine dgp 7 rfl rfl (λ_=>Calm.fieldAddr zcD rfl) ?_;refine dgp 8 rfl rfl (λ_=>Calm.fieldAddr zdZ rfl) ?_;refine dgl 9 rfl rfl (ldA_ (cs:=[_,_,_]) ze7 zd8 rfl) ?_;refine DG.two 10 11 (by kernel_rfl) rfl ?_ rfl ?_
   ·refine ARun.alloc (zab rfl) zf3 ?_;intro af aj;have U:=aj
    repeat ((with_reducible replace U:=zaa U);obtain ⟨U,_⟩:=U)
    have:=U.ne aa;have:=U.ne' aa
    refine nl_ ?_;refine zad ⟨ny_,?_⟩;refine DG.only 11 (by kernel_rfl) rfl ?_;refine ARun.alloc (zab rfl) zbY ?_;intro ae ak;have V:=ak
    repeat ((with_reducible replace V:=zaa V);obtain ⟨V,_⟩:=V)
    have:=V.ne aa;have:=V.ne' aa
    refine nl_ ?_;refine zad ⟨ny_,?_⟩;refine DG.only 12 (by kernel_rfl) rfl ?_;refine s1_ ?_;refine zad ⟨ny_,?_⟩;refine DG.only 13 (by kernel_rfl) rfl ?_;refine s1_ ?_;refine zad ⟨ny_,?_⟩;refine uf (by kernel_rfl) ?_;refine ⟨(((T5.set af (v2B l i)).set ae (v3B R i)),af,ae),?_,?_,?_⟩<;>try dsimp only
    ·exact (J.new U _).new (zai V (by first | assumption | (apply Ne.symm;assumption))) _
    ·exact ⟨rfl,rfl,rfl,rfl,rfl,rfl,rfl,rfl,rfl,rfl,trivial⟩
    exact zae
   refine ARun.alloc (zab rfl) zbY ?_;intro ae ak;have V:=ak
   repeat ((with_reducible replace V:=zaa V);obtain ⟨V,_⟩:=V)
   have:=V.ne aa;have:=V.ne' aa
   refine nl_ ?_;refine zad ⟨ny_,?_⟩;refine DG.only 10 (by kernel_rfl) rfl ?_;refine ARun.alloc (zab rfl) zf3 ?_;intro af aj;have U:=aj
   repeat ((with_reducible replace U:=zaa U);obtain ⟨U,_⟩:=U)
   have:=U.ne aa;have:=U.ne' aa
   refine nl_ ?_;refine zad ⟨ny_,?_⟩;refine DG.only 12 (by kernel_rfl) rfl ?_;refine s1_ ?_;refine zad ⟨ny_,?_⟩;refine DG.only 13 (by kernel_rfl) rfl ?_;refine s1_ ?_;refine zad ⟨ny_,?_⟩;refine uf (by kernel_rfl) ?_;refine ⟨(((T5.set af (v2B l i)).set ae (v3B R i)),af,ae),?_,?_,?_⟩<;>try dsimp only
   ·exact (J.new U _).new (zai V (by first | assumption | (apply Ne.symm;assumption))) _
   ·exact ⟨rfl,rfl,rfl,rfl,rfl,rfl,rfl,rfl,rfl,rfl,trivial⟩
   exact zae
  rintro ⟨T6,af,ae⟩ J;intro _ _ an aw;(try dsimp only at *);refine zbO ?_;refine AWP.sub _ an (AWP.less _ aw ?_);clear an aw;replace J:Op g ((ae,v3B R i) :: (af,v2B l i) :: (ac,fdB p q (i+3) nx (at0 l i) (at0 l (i+1)) (rkR R i) (rkR R (i+1)) (rkR R (i+2))) :: (Bl ++ B)) F (rdR p fn 1 (oneL l) (min (i+2) l.length) z1 :: rdR q rn 2 R i' z2 :: wtR qs ss 6 (rowsS l R i) (Rec.needN 6 (n-(n+2) / 3)) :: wtR qz sz 5 (rowsZ l R i) (Rec.needN 5 ((n+2) / 3)) :: H) (25+60*i+15) T6:=J;obtain ⟨ah,ag,-⟩:=J.o
  (unfold v3B at ah;unfold v2B at ag)
  obtain ⟨aJ,aH⟩:=zkI (i:=i) (λz hz=>(hl z hz).2) hR vd;by_cases q3:i % 3=0
  ·refine r7_ ?_;refine kw_ [3,4,5,13,14,15,16,17,18,19,76] ?_;refine cT_ ?_;refine r11_ ?_;refine vD (cs:=[_,_,_,_,_]) (zab rfl) zaq rfl rfl rfl rfl ?_;intro aU aq;have ad:=aq
   repeat ((with_reducible replace ad:=zaa ad);obtain ⟨ad,_⟩:=ad)
   have:=ad.ne ag;have:=ad.ne' ag
   have:=ad.ne ah;have:=ad.ne' ah
   have Q:=zbT [_,_,_] (zrow l R i) ((n+2) / 3) J aq rfl rfl aJ (by decide) (by decide) rfl vd vd vd (by show H.length+3<=7;omega);refine ca_ rfl (Q) ?_;rintro _ T7 ⟨rfl,J⟩;clear Q;refine cp_ rfl (zaj _ _) ?_;refine r10_ ?_;refine ⟨⟨T7,i+1,at0 l i,rkR R i⟩,?_,?_,?_,?_⟩<;>try dsimp only
   ·exact ⟨rfl,rfl,rfl,rfl,rfl,rfl,rfl,rfl,trivial⟩
   ·exact Mem.Less.refl _
   ·exact ⟨ay,nx,Bl,i',z1,z2,by rw [zfp,zfo,if_pos q3,if_pos q3,<- zaX];exact J.tl.tl.mono vd,hJ⟩
   omega
  refine r7_ ?_;refine cF_ ?_;refine r13_ ?_;refine vD (cs:=[_,_,_,_,_,_]) (zab rfl) zaq rfl rfl rfl rfl ?_;intro aO ai;have Y:=ai
  repeat ((with_reducible replace Y:=zaa Y);obtain ⟨Y,_⟩:=Y)
  have:=Y.ne ag;have:=Y.ne' ag
  have:=Y.ne ah;have:=Y.ne' ah
  have Q:=zbT [_,_] (srow l R i) (n-(n+2) / 3) J ai rfl rfl aH (by decide) (by decide) rfl vd vd vd (by show H.length+3<=7;omega);refine ca_ rfl (Q) ?_;rintro _ T7 ⟨rfl,J⟩;clear Q;refine cp_ rfl (zaj _ _) ?_;refine r10_ ?_;refine ⟨⟨T7,i+1,at0 l i,rkR R i⟩,?_,?_,?_,?_⟩<;>try dsimp only
  ·exact ⟨rfl,rfl,rfl,rfl,rfl,rfl,rfl,rfl,trivial⟩
  ·exact Mem.Less.refl _
  ·exact ⟨ay,nx,Bl,i',z1,z2,by rw [zfp,zfo,if_neg q3,if_neg q3,<- zaX];exact J.tl.tl.mono vd,hJ⟩
  omega
 obtain rfl:i=n:=by omega
 obtain ⟨nx,Bl,i',z1,z2,J,hJ⟩:=J;refine r12_ ?_;refine cF_ ?_;refine r9_ ?_;refine rC (vh rfl rfl Er.neNil) ?_;refine r2_ ?_;refine kw_ [3,4,5,13,14,15,16,17,57,106] ?_;refine cF_ ?_;refine r5_ ?_;have Q:=zbd [] J;refine ca_ rfl (Q) ?_;rintro _ T5 ⟨rfl,f5,J⟩;clear Q;refine r5_ ?_;have Q:=zbd [] J;refine ca_ rfl (Q) ?_;rintro _ T6 ⟨rfl,f6,J⟩;clear Q;refine r6_ ?_;have Q:=zbK [] J (c':=i-(i+2) / 3) (by rw [if_neg (by decide),al]) (by decide) rfl vd vd;refine ca_ rfl (Q) ?_;rintro _ T7 ⟨rfl,J⟩;clear Q;refine cp_ rfl (zaj _ _) ?_;refine r6_ ?_;refine rC (vh rfl rfl Er.neNil) ?_;refine r2_ ?_;refine cF_ ?_;refine r5_ ?_;have Q:=zbK [] J (c':=(i+2) / 3) (by rw [if_neg (by decide),au]) (by decide) rfl vd vd;refine ca_ rfl (Q) ?_;rintro _ T8 ⟨rfl,J⟩;clear Q;refine cp_ rfl (zaj _ _) ?_;refine r3_ ?_;refine kw_ [3,4,5,13,14,15,16,17,57,106,20,116,12] ?_;refine s1_ ?_;refine ⟨_,T8,⟨_,_,rfl,rfl,rfl⟩,zae,?_⟩;exact ⟨rfl,by unfold flR;rw [au,al];exact J.sub (((List.sublist_append_right _ _).trans (List.sublist_cons_self _ _)).trans ((List.sublist_cons_self _ _).trans (List.sublist_cons_self _ _)))⟩
end
end Sto
end
section
open Go.RowKit Go.Shelf
open Mv Disk Num
namespace Sto
def cmpN (x y:Nat):Int:=if x<y then -1 else if y<x then 1 else 0
def orI:List Int->Int
  | []=>0
  | x :: t=>if x≠0 then x else orI t
theorem zsQ (x:Nat) (S:Mem):ACall prog 259 #[.int .u64 (x:Nat)] S λr S'=>r = .bool false/\S'=S:=by
 refine k_E1 6 func259 ?_;refine r14_ ?_;refine ⟨_,S,⟨_,_,rfl,rfl,rfl⟩,zae,?_⟩;exact ⟨by simp [Mv.one],rfl⟩
theorem zjv (x y:Nat) (S:Mem):ACall prog 240 #[.int .u64 (x:Nat),.int .u64 (y:Nat)] S λr S'=>r = .int .i64 (cmpN x y)/\S'=S:=by
 unfold cmpN;refine k_E2 20 func240 ?_;refine r8_ ?_;refine cp_ rfl (zsQ _ _) ?_;refine r6_ ?_;refine cp_ rfl (zsQ _ _) ?_;refine r9_ ?_;refine cF_ ?_;refine r8_ ?_;refine cF_ ?_;by_cases q:x<y
 ·refine r10_ ?_;refine cT_ ?_;refine r7_ ?_;refine ⟨_,S,⟨_,_,rfl,rfl,rfl⟩,zae,?_⟩;exact ⟨by rw [if_pos q];rfl,rfl⟩
 refine r10_ ?_;refine cF_ ?_;by_cases I:y<x
 ·refine r10_ ?_;refine kw_ [0,1,4,5,6,11,13,16,19] ?_;refine cT_ ?_;refine r7_ ?_;refine ⟨_,S,⟨_,_,rfl,rfl,rfl⟩,zae,?_⟩;exact ⟨by rw [if_neg q,if_pos I];rfl,rfl⟩
 refine r10_ ?_;refine cF_ ?_;refine r8_ ?_;refine ⟨_,S,⟨_,_,rfl,rfl,rfl⟩,zae,?_⟩;exact ⟨by rw [if_neg q,if_neg I];rfl,rfl⟩
theorem zsR (l:List Int) (b c:Nat) (S:Mem) (h:S.own b=some ⟨3,l.map (λx=>Value.int .i64 x),c⟩) (hl:l.length<=3):ACall prog 239 #[.slice (some ⟨b,0,none⟩) l.length l.length] S λr S'=>r = .int .i64 (orI l)/\S'=S:=by
 refine k_E1 18 func239 ?_;refine r19_ ?_;refine AWP.loop (X:=Nat) (λi=>[(3,.int .i64 0),(6,.slice (some ⟨b,0,none⟩) l.length l.length),(7,.int .i64 (l.length:Nat)),(8,.int .i64 (i:Nat))]) (λ_=>S) (λi=>i<=l.length/\orI l=orI (l.drop i)) (λi=>l.length-i) (0) ⟨rfl,rfl,rfl,rfl,trivial⟩ (Mem.Less.refl _) (⟨Nat.zero_le _,rfl⟩) ?_;rintro i ⟨hi,I⟩;(try dsimp only at *);by_cases q:i<l.length
 ·rw [List.drop_eq_getElem_cons q] at I;refine r6_ ?_;refine cT_ ?_;refine r7_ ?_;refine rC (Calm.load zbM rfl (v:=.int .i64 l[i]) (zbZ (g:=λx:Int=>Value.int .i64 x) i q h vd)) ?_;rw [show orI (l[i] :: l.drop (i+1))=if l[i]≠0 then l[i] else orI (l.drop (i+1)) from rfl] at I;refine r3_ ?_;by_cases J:l[i]=0
  ·rw [J];rw [if_neg (by simp [J])] at I;refine r7_ ?_;refine cF_ ?_;refine r8_ ?_;refine ⟨i+1,?_,?_,?_,?_⟩<;>try dsimp only
   ·exact ⟨rfl,rfl,rfl,rfl,trivial⟩
   ·exact Mem.Less.refl _
   ·exact ⟨q,I⟩
   omega
  rw [if_pos J] at I;refine r7_ ?_;refine cT_ ?_;refine r12_ ?_;refine ⟨_,S,⟨_,_,rfl,rfl,rfl⟩,zae,?_⟩;exact ⟨by rw [I];rfl,rfl⟩
 rw [List.drop_eq_nil_of_le vd] at I;refine r6_ ?_;refine cF_ ?_;refine r11_ ?_;refine kw_ [3,6,7,8,9,2] ?_;refine s1_ ?_;refine ⟨_,S,⟨_,_,rfl,rfl,rfl⟩,zae,?_⟩;exact ⟨by rw [I];rfl,rfl⟩
theorem zwi (b:Nat) (S:Mem) (h:S.own b=some ⟨27,[.int .i64 0,.int .i64 0],2⟩):ACall prog 203 #[.slice (some ⟨b,0,none⟩) 2 2] S λr S'=>r = .int .i64 0/\S'=S:=by
 refine k_E1 18 func203 ?_;refine r19_ ?_;refine AWP.loop (X:=Nat) (λi=>[(3,.int .i64 0),(6,.slice (some ⟨b,0,none⟩) 2 2),(7,.int .i64 2),(8,.int .i64 (i:Nat))]) (λ_=>S) (λi=>i<=2) (λi=>2-i) (0) ⟨rfl,rfl,rfl,rfl,trivial⟩ (Mem.Less.refl _) (Nat.zero_le _) ?_;rintro i hi;(try dsimp only at *);replace hi:i<=2:=hi;obtain rfl | rfl | rfl:i=0\/i=1\/i=2:=by omega
 ·refine r6_ ?_;refine cT_ ?_;refine r18_ ?_;refine cF_ ?_;refine r8_ ?_;refine ⟨1,?_,?_,?_,?_⟩<;>try dsimp only
  ·exact ⟨rfl,rfl,rfl,rfl,trivial⟩
  ·exact Mem.Less.refl _
  ·decide
  decide
 ·refine r6_ ?_;refine cT_ ?_;refine r18_ ?_;refine cF_ ?_;refine r8_ ?_;refine ⟨2,?_,?_,?_,?_⟩<;>try dsimp only
  ·exact ⟨rfl,rfl,rfl,rfl,trivial⟩
  ·exact Mem.Less.refl _
  ·decide
  decide
 refine r6_ ?_;refine cF_ ?_;refine r11_ ?_;refine kw_ [3,6,7,8,9,2] ?_;refine s1_ ?_;refine ⟨_,S,⟨_,_,rfl,rfl,rfl⟩,zae,?_⟩;exact ⟨rfl,rfl⟩
def ahB (s z:List Nat):Bool :=
  if s.getD 1 0 % 3=1 then decide (orI [cmpN (s.getD 2 0) (z.getD 0 0),cmpN (s.getD 4 0) (z.getD 1 0)]<0)
  else decide (orI [cmpN (s.getD 2 0) (z.getD 0 0),cmpN (s.getD 3 0) (z.getD 3 0),cmpN (s.getD 5 0) (z.getD 4 0)]<0)
theorem zl6 {bs bz s0 s1 Q V U X z0 z1 z2 z3 z4:Nat} (S:Mem) (hs:S.own bs=some ⟨31,[.int .u64 (s0:Nat),.int .u64 (s1:Nat),.int .u64 (Q:Nat),.int .u64 (V:Nat),.int .u64 (U:Nat),.int .u64 (X:Nat)],6⟩) (Y:S.own bz=some ⟨31,[.int .u64 (z0:Nat),.int .u64 (z1:Nat),.int .u64 (z2:Nat),.int .u64 (z3:Nat),.int .u64 (z4:Nat)],5⟩) :
  ACall prog 202 #[.slice (some ⟨bs,0,none⟩) 6 6,.slice (some ⟨bz,0,none⟩) 5 5] S λr S'=>r = .bool (ahB [s0,s1,Q,V,U,X] [z0,z1,z2,z3,z4])/\S'=S:=by
 unfold ahB;show ACall _ _ _ _ λr S'=>r = .bool (if s1 % 3=1 then decide (orI [cmpN Q z0,cmpN U z1]<0) else decide (orI [cmpN Q z0,cmpN V z3,cmpN X z4]<0))/\S'=S;refine k_E2 51 func202 ?_;by_cases q:s1 % 3=1
 ·rw [if_pos q];refine r15_ ?_;refine cT_ ?_;refine s1_ ?_;refine dr_ [i0_,i1_,i2_,i3_,i4_,i5_,i7_,i8_,i9_,i10_,i11_,i12_,o6_,o13_,o14_,o15_,i16_,i17_] [] ?_;refine r12_ ?_;refine zac rfl ?_;refine cp_ rfl (zjv _ _ _) ?_;refine zad ⟨ny_,?_⟩;refine zac rfl ?_;refine cp_ rfl (zjv _ _ _) ?_;refine zad ⟨ny_,?_⟩;refine zac rfl ?_;refine vD (cs:=[_,_]) (zab rfl) zau rfl rfl rfl rfl ?_;intro ai ae;have I:=ae
  repeat ((with_reducible replace I:=zaa I);obtain ⟨I,_⟩:=I)
  have:=I.ne hs;have:=I.ne' hs
  have:=I.ne Y;have:=I.ne' Y
  refine zad ⟨ny_,?_⟩;refine zac rfl ?_;refine cp_ rfl (zsR [cmpN Q z0,cmpN U z1] _ _ _ (vf _ _ _) (show 2<=3 by decide)) ?_;refine zad ⟨ny_,?_⟩;refine r6_ ?_;refine ⟨_,S,⟨_,_,rfl,rfl,rfl⟩,zae,?_⟩;exact ⟨rfl,rfl⟩
 rw [if_neg q];refine r15_ ?_;refine cF_ ?_;refine r3_ ?_;refine dr_ [i0_,i1_,i2_,i3_,i4_,i5_,i7_,i8_,i9_,i10_,i11_,i12_,i14_,i15_,i16_,i17_,i18_,i19_,o6_,o13_,o20_,o21_,o22_,i23_,i24_] [] ?_;refine r18_ ?_;refine zac rfl ?_;refine cp_ rfl (zjv _ _ _) ?_;refine zad ⟨ny_,?_⟩;refine zac rfl ?_;refine cp_ rfl (zjv _ _ _) ?_;refine zad ⟨ny_,?_⟩;refine zac rfl ?_;refine cp_ rfl (zjv _ _ _) ?_;refine zad ⟨ny_,?_⟩;refine zac rfl ?_;refine vD (cs:=[_,_,_]) (zab rfl) zau rfl rfl rfl rfl ?_;intro aj af;have J:=af
 repeat ((with_reducible replace J:=zaa J);obtain ⟨J,_⟩:=J)
 have:=J.ne hs;have:=J.ne' hs
 have:=J.ne Y;have:=J.ne' Y
 refine zad ⟨ny_,?_⟩;refine zac rfl ?_;refine cp_ rfl (zsR [cmpN Q z0,cmpN V z3,cmpN X z4] _ _ _ (vf _ _ _) (Nat.le_refl 3)) ?_;refine zad ⟨ny_,?_⟩;refine r5_ ?_;refine ⟨_,S,⟨_,_,rfl,rfl,rfl⟩,zae,?_⟩;exact ⟨rfl,rfl⟩
end Sto
end
section
open Go.RowKit Go.Shelf
open Mv Disk Num
namespace Sto
def brd:List (List Nat)->List (List Nat)->List Nat
  | [],[]=>[]
  | s :: S,[]=>s.getD 1 0 :: brd S []
  | [],z :: Z=>z.getD 2 0 :: brd [] Z
  | s :: S,z :: Z=>if ahB s z then s.getD 1 0 :: brd S (z :: Z) else z.getD 2 0 :: brd (s :: S) Z
  termination_by a b=>a.length+b.length
theorem zuv {s:List Nat} {S Z:List (List Nat)} (h:∀ z I,Z=z :: I->ahB s z=true):brd (s :: S) Z=s.getD 1 0 :: brd S Z:=by
 cases Z with
 | nil=>rw [brd]
 | cons z Z=>rw [brd,if_pos (h z Z rfl)]
theorem zuw {z:List Nat} {S Z:List (List Nat)} (h:∀ s S',S=s :: S'->ahB s z=false):brd S (z :: Z)=z.getD 2 0 :: brd S Z:=by
 cases S with
 | nil=>rw [brd]
 | cons s S=>rw [brd,if_neg (by rw [h s S rfl];decide)]
theorem zdF:∀ S Z,(brd S Z).length=S.length+Z.length
 | [],[]=>by rw [brd];rfl
 | s :: S,[]=>by rw [zuv (λ_ _ h=>by cases h),List.length_cons,zdF S []];simp only [List.length_cons,List.length_nil]
 | [],z :: Z=>by rw [zuw (λ_ _ h=>by cases h),List.length_cons,zdF [] Z];simp only [List.length_cons,List.length_nil];omega
 | s :: S,z :: Z=>by
  rw [brd];split
  ·rw [List.length_cons,zdF S (z :: Z)];simp only [List.length_cons];omega
  rw [List.length_cons,zdF (s :: S) Z];simp only [List.length_cons];omega
 termination_by a b=>a.length+b.length
def atV (w:Nat) (R:List (List Nat)) (i b:Nat):tu:=if i<R.length then .slice (some ⟨b,0,none⟩) w w else .slice none 0 0
def atB (w:Nat) (R:List (List Nat)) (i b:Nat):List (Nat × Blk):=if i<R.length then [(b,⟨31,(R.getD i []).map nU,w⟩)] else []
section
variable {g:Cx} {B:List (Nat × Blk)} {F:List Fl} (A:List Sh) {C:List Sh} {T:Mem} {n q w i:Nat} {s:tt} {R:List (List Nat)} {z:Bool}
theorem zdT (I:Op g B F (A ++ rdR q s w R (min i R.length) z :: C) n T) (X:RowsOK w R) (U:1<=w) (Q:w<=8) (hc:R.length<=65536) (Y:n+5*w<=16384) (hl:(A ++ C).length<=7) :
  ACall prog 188 #[self q] T λv T'=>∃ b ok V,v = .tuple #[atV w R i b,.bool ok]/\Op g (atB w R i b ++ B) F (A ++ rdR q s w R (min (i+1) R.length) V :: C) (n+5*w) T':=by
 by_cases h:i<R.length
 ·rw [Nat.min_eq_left (Nat.le_of_lt h)] at I;refine (zel A I X U Q hc h Y hl).mono λv T' ⟨b,e,J⟩=>⟨b,true,false,?_⟩;unfold atV atB;rw [if_pos h,if_pos h,zcr h,Nat.min_eq_left h];exact ⟨e,J⟩
 rw [Nat.min_eq_right vd] at I;refine (zb2 A I U Q hc).mono λv T' ⟨e1,e2⟩=>⟨0,false,z,?_⟩;unfold atV atB;rw [if_neg h,if_neg h,Nat.min_eq_right vd,e2];exact ⟨e1,I.mono vd⟩
end
theorem at6 {S:List (List Nat)} {i a:Nat} {M:Mem} (h:∀ y ∈ atB 6 S i a,M.own y.1=some y.2) (Y:RowsOK 6 S) (hi:i<S.length):∃ s0 s1 U J I Q:Nat,S.drop i = [s0,s1,U,J,I,Q] :: S.drop (i+1)/\s1<Num.top/\atV 6 S i a = .slice (some ⟨a,0,none⟩) 6 6/\M.own a=some ⟨31,[.int .u64 (s0:Nat),.int .u64 (s1:Nat),.int .u64 (U:Nat),.int .u64 (J:Nat),.int .u64 (I:Nat),.int .u64 (Q:Nat)],6⟩:=by
 obtain ⟨h1,X⟩:=Y _ (List.getElem_mem hi);have V:=h (a,⟨31,(S.getD i []).map nU,6⟩) (by unfold atB;rw [if_pos hi];exact List.mem_singleton.2 rfl);rw [zcr hi] at V;rw [List.drop_eq_getElem_cons hi]
 match hm:S[i],h1 with
 | [s0,s1,U,J,I,Q],_ =>
  rw [hm] at X V;exact ⟨s0,s1,U,J,I,Q,rfl,X s1 (by simp),by unfold atV;rw [if_pos hi],V⟩
theorem at5 {Z:List (List Nat)} {k b:Nat} {M:Mem} (h:∀ y ∈ atB 5 Z k b,M.own y.1=some y.2) (hZ:RowsOK 5 Z) (hk:k<Z.length):∃ z0 Q I J U:Nat,Z.drop k = [z0,Q,I,J,U] :: Z.drop (k+1)/\I<Num.top/\atV 5 Z k b = .slice (some ⟨b,0,none⟩) 5 5/\M.own b=some ⟨31,[.int .u64 (z0:Nat),.int .u64 (Q:Nat),.int .u64 (I:Nat),.int .u64 (J:Nat),.int .u64 (U:Nat)],5⟩:=by
 obtain ⟨Y,X⟩:=hZ _ (List.getElem_mem hk);have V:=h (b,⟨31,(Z.getD k []).map nU,5⟩) (by unfold atB;rw [if_pos hk];exact List.mem_singleton.2 rfl);rw [zcr hk] at V;rw [List.drop_eq_getElem_cons hk]
 match hm:Z[k],Y with
 | [z0,Q,I,J,U],_ =>
  rw [hm] at X V;exact ⟨z0,Q,I,J,U,rfl,X I (by simp),by unfold atV;rw [if_pos hk],V⟩
theorem zux {w i b:Nat} {R:List (List Nat)} (h : ¬ i<R.length):atV w R i b = .slice none 0 0/\R.drop i = []:=⟨by unfold atV;rw [if_neg h],List.drop_eq_nil_of_le vd⟩
structure BrX where
  M:Mem
  i:Nat
  k:Nat
  a:Nat
  b:Nat
  y:Bool
  z:Bool
  out:List Nat
section
variable {g:Cx} {B:List (Nat × Blk)} {F:List Fl} {H:List Sh} {qo tot lw:Nat} {sn zn so:tt} {S Z:List (List Nat)} {T:Mem}
def BrO (g:Cx) (B:List (Nat × Blk)) (F:List Fl) (H:List Sh) (p q qo:Nat) (sn zn so:tt) (S Z:List (List Nat)) (c:Nat) (X:BrX):Prop :=
  Op g (atB 5 Z X.k X.b ++ (atB 6 S X.i X.a ++ B)) F (rdR p sn 6 S (min (X.i+1) S.length) X.y :: rdR q zn 5 Z (min (X.k+1) Z.length) X.z :: wtR qo so 1 (oneL X.out) c :: H) (55+60*X.out.length) X.M/\X.i<=S.length/\X.k<=Z.length/\X.out ++ brd (S.drop X.i) (Z.drop X.k)=brd S Z
theorem zcZ (l:List Nat) (x:Nat):oneL (l ++ [x])=oneL l ++ [[x]]:=by unfold oneL;rw [List.map_append];rfl
theorem br_s {C:List Sh} {W:List (Nat × Blk)} {i k a b:Nat} {out:List Nat} {x:Nat} (J:Op g (atB 6 S i a ++ (atB 5 Z k b ++ (W ++ B))) F C (55+60*out.length+5*6+5*1) T):Op g (atB 5 Z k b ++ (atB 6 S i a ++ B)) F C (55+60*(out ++ [x]).length) T:=by
 rw [List.length_append];refine ((J.sub ((List.Sublist.refl _).append ((List.Sublist.refl _).append (List.sublist_append_right _ _)))).perm ?_ (.refl _) (.refl _)).mono (by simp only [List.length_singleton];omega);exact List.perm_append_comm_assoc _ _ _
theorem br_z {C:List Sh} {W V:List (Nat × Blk)} {out:List Nat} {x:Nat} (J:Op g (W ++ (V ++ B)) F C (55+60*out.length+5*5+5*1) T):Op g (W ++ B) F C (55+60*(out ++ [x]).length) T:=by
 rw [List.length_append];exact (J.sub ((List.Sublist.refl _).append (List.sublist_append_right _ _))).mono (by simp only [List.length_singleton];omega)
theorem zrU (I:Op g B F (wtR qo so 1 [] (Rec.needN 1 tot) :: H) 0 T) (hw:(lw,lwB g.k) ∈ B) (hs:flR sn 6 S ∈ F) (hz:flR zn 5 Z ∈ F) (aw:sn≠zn) (hi:∀ h ∈ H,h.isW=true) (hS:RowsOK 6 S) (hZ:RowsOK 5 Z) (ah:S.length+Z.length=tot) (ht:tot<=60) (hH:H.length<=3) :
  ACall prog 154 #[self lw,.string sn,.string zn,self qo] T λv T'=>v = .nilIface/\Op g B (flR so 1 (oneL (brd S Z)) :: F) H 0 T':=by
 have ow:=I.o.mem _ hw;unfold lwB at ow;refine k_E4 115 func154 ?_;refine r12_ ?_;have Q:=zcI I hs (show 1<=6 by decide) (show 6<=8 by decide) (show S.length<=65536 by omega) (λh hh=>.inl (by rcases List.mem_cons.1 hh with rfl | hh;rfl;exact hi h hh));refine ca_ rfl (Q) ?_;rintro _ T1 ⟨p,rfl,I⟩;clear Q;have ow:=I.o.mem _ hw;unfold lwB at ow;refine r11_ ?_;refine rC (vh rfl rfl Er.neNil) ?_;refine r2_ ?_;refine cF_ ?_;refine r9_ ?_;have Q:=zcI I hz (show 1<=5 by decide) (show 5<=8 by decide) (show Z.length<=65536 by omega) (λh hh=>by rcases List.mem_cons.1 hh with rfl | hh;exact .inr aw;rcases List.mem_cons.1 hh with rfl | hh;exact .inl rfl;exact .inl (hi h hh));refine ca_ rfl (Q) ?_;rintro _ T2 ⟨q,rfl,I⟩;clear Q;replace I:Op g B F (rdR p sn 6 S (min 0 S.length) true :: rdR q zn 5 Z (min 0 Z.length) true :: wtR qo so 1 [] (Rec.needN 1 tot) :: H) 0 T2:=by rw [Nat.zero_min,Nat.zero_min];exact I.perm (.refl _) (.refl _) (List.Perm.swap ..)
 refine r11_ ?_;refine rC (vh rfl rfl Er.neNil) ?_;refine r2_ ?_;refine cF_ ?_;refine r5_ ?_;have Q:=zdT [] I hS (by decide) (by decide) vd (by decide) (by show H.length+2<=7;omega);refine ca_ rfl (Q) ?_;rintro _ T3 ⟨a0,k0,y0,rfl,I⟩;clear Q;refine r7_ ?_;refine kw_ [0,1,2,3,8,9,10,29,11,41,12] ?_;refine r3_ ?_;have Q:=zdT [_] I hZ (by decide) (by decide) vd (by decide) (by show H.length+2<=7;omega);refine ca_ rfl (Q) ?_;rintro _ T4 ⟨b0,k1,z0,rfl,I⟩;clear Q;refine r9_ ?_;refine AWP.loop (X:=BrX) (λX=>[(3,self qo),(9,self p),(11,self q),(12,atV 6 S X.i X.a),(14,atV 5 Z X.k X.b)]) (λX=>X.M) (λX=>BrO g B F H p q qo sn zn so S Z (Rec.needN 1 tot) X) (λX=>tot-X.out.length) (⟨T4,0,0,a0,b0,y0,z0,[]⟩) ⟨rfl,rfl,rfl,rfl,rfl,trivial⟩ (Mem.Less.refl _) (⟨I,Nat.zero_le _,Nat.zero_le _,rfl⟩) ?_;rintro ⟨M,i,k,a,b,y,z,out⟩ ⟨J,ae,ad,he⟩;(try dsimp only at *);clear I;replace J:Op g (atB 5 Z k b ++ (atB 6 S i a ++ B)) F (rdR p sn 6 S (min (i+1) S.length) y :: rdR q zn 5 Z (min (k+1) Z.length) z :: wtR qo so 1 (oneL out) (Rec.needN 1 tot) :: H) (55+60*out.length) M:=J;replace ae:i<=S.length:=ae;replace ad:k<=Z.length:=ad;replace he:out ++ brd (S.drop i) (Z.drop k)=brd S Z:=he;have aC:=congrArg List.length he;rw [List.length_append,zdF,zdF,List.length_drop,List.length_drop] at aC;have ax:∀ y ∈ atB 6 S i a,M.own y.1=some y.2:=λy hy=>J.o.mem y (List.mem_append_right _ (List.mem_append_left _ hy));have an:∀ y ∈ atB 5 Z k b,M.own y.1=some y.2:=λy hy=>J.o.mem y (List.mem_append_left _ hy);by_cases hi:i<S.length
 ·obtain ⟨s0,s1,s2,s3,s4,s5,es,st,ac,os⟩:=at6 ax hS hi;rw [ac];by_cases hk:k<Z.length
  ·obtain ⟨z0,z1,z2,z3,z4,ez,zt,V,oz⟩:=at5 an hZ hk;rw [V];rcases hah:ahB [s0,s1,s2,s3,s4,s5] [z0,z1,z2,z3,z4] with _ | _
   ·refine r11_ ?_;refine cT_ ?_;refine r19_ ?_;refine vC 5 true 64 rfl (zab rfl) rfl (zab rfl) zsl rfl (zl6 _ os oz) ?_;rintro _ S9 ⟨rfl,h9⟩;rw [h9,hah];clear h9 S9;refine r4_ ?_;refine cF_ ?_;refine r10_ ?_;have Q:=zdT [_] J hZ (by decide) (by decide) vd vd (by show H.length+2<=7;omega);refine ca_ rfl (Q) ?_;rintro _ T5 ⟨b',k',z',rfl,J⟩;clear Q;refine r6_ ?_;refine kw_ [3,9,11,12,14,58,16,69] ?_;refine r4_ ?_;refine vk (zab rfl) zaq rfl rfl ?_;intro aj Y;have Q:=zbT [_,_] [z2] tot J Y rfl rfl (λz hz=>by rw [List.mem_singleton.1 hz];exact zt) (by decide) (by decide) rfl (by rw [zag];omega) vd vd (by show H.length+2<=7;omega);refine ca_ rfl (Q) ?_;rintro _ T6 ⟨rfl,J⟩;clear Q;refine cp_ rfl (zaj _ _) ?_;refine r6_ ?_;refine rC (vh rfl rfl Er.neNil) ?_;refine r2_ ?_;refine cF_ ?_;refine r3_ ?_;refine ⟨⟨T6,i,k+1,a,b',y,z',out ++ [z2]⟩,?_,?_,?_,?_⟩<;>try dsimp only
    ·exact ⟨rfl,rfl,rfl,by rw [ac];rfl,rfl,trivial⟩
    ·exact Mem.Less.refl _
    ·exact ⟨br_z (by rw [zaX,<- zcZ] at J;exact J),ae,hk,by rw [ez,zuw (λs S' e=>by rw [es] at e;rw [<- (List.cons.inj e).1];exact hah)] at he;rw [List.append_assoc];exact he⟩
    (rw [List.length_append];show tot-(out.length+1)<tot-out.length;omega)
   refine r11_ ?_;refine cT_ ?_;refine r19_ ?_;refine vC 5 true 64 rfl (zab rfl) rfl (zab rfl) zsl rfl (zl6 _ os oz) ?_;rintro _ S9 ⟨rfl,h9⟩;rw [h9,hah];clear h9 S9;refine r4_ ?_;refine cT_ ?_;refine r8_ ?_;refine kw_ [3,9,11,12,14,58,16,69] ?_;refine r2_ ?_;have Q:=zdT [] J hS (by decide) (by decide) vd vd (by show H.length+2<=7;omega);refine ca_ rfl (Q) ?_;rintro _ T5 ⟨a',k',y',rfl,J⟩;clear Q;refine r10_ ?_;refine vk (zab rfl) zaq rfl rfl ?_;intro aj Y;have Q:=zbT [_,_] [s1] tot J Y rfl rfl (λz hz=>by rw [List.mem_singleton.1 hz];exact st) (by decide) (by decide) rfl (by rw [zag];omega) vd vd (by show H.length+2<=7;omega);refine ca_ rfl (Q) ?_;rintro _ T6 ⟨rfl,J⟩;clear Q;refine cp_ rfl (zaj _ _) ?_;refine r6_ ?_;refine rC (vh rfl rfl Er.neNil) ?_;refine r2_ ?_;refine cF_ ?_;refine r3_ ?_;refine ⟨⟨T6,i+1,k,a',b,y',z,out ++ [s1]⟩,?_,?_,?_,?_⟩<;>try dsimp only
   ·exact ⟨rfl,rfl,rfl,rfl,by rw [V];rfl,trivial⟩
   ·exact Mem.Less.refl _
   ·exact ⟨br_s (by rw [zaX,<- zcZ] at J;exact J),hi,ad,by rw [es,zuv (λz Z' e=>by rw [ez] at e;rw [<- (List.cons.inj e).1];exact hah)] at he;rw [List.append_assoc];exact he⟩
   (rw [List.length_append];show tot-(out.length+1)<tot-out.length;omega)
  obtain ⟨V,ez⟩:=zux (w:=5) (b:=b) hk;rw [V];refine r11_ ?_;refine cT_ ?_;refine r24_ ?_;refine kw_ [3,9,11,12,14,58,16,69] ?_;refine cT_ ?_;refine r10_ ?_;have Q:=zdT [] J hS (by decide) (by decide) vd vd (by show H.length+2<=7;omega);refine ca_ rfl (Q) ?_;rintro _ T5 ⟨a',k',y',rfl,J⟩;clear Q;refine r10_ ?_;refine vk (zab rfl) zaq rfl rfl ?_;intro aj Y;have Q:=zbT [_,_] [s1] tot J Y rfl rfl (λz hz=>by rw [List.mem_singleton.1 hz];exact st) (by decide) (by decide) rfl (by rw [zag];omega) vd vd (by show H.length+2<=7;omega);refine ca_ rfl (Q) ?_;rintro _ T6 ⟨rfl,J⟩;clear Q;refine cp_ rfl (zaj _ _) ?_;refine r6_ ?_;refine rC (vh rfl rfl Er.neNil) ?_;refine r2_ ?_;refine cF_ ?_;refine r3_ ?_;refine ⟨⟨T6,i+1,k,a',b,y',z,out ++ [s1]⟩,?_,?_,?_,?_⟩<;>try dsimp only
  ·exact ⟨rfl,rfl,rfl,rfl,by rw [V];rfl,trivial⟩
  ·exact Mem.Less.refl _
  ·exact ⟨br_s (by rw [zaX,<- zcZ] at J;exact J),hi,ad,by rw [es,zuv (λz Z' e=>by rw [ez] at e;cases e)] at he;rw [List.append_assoc];exact he⟩
  (rw [List.length_append];show tot-(out.length+1)<tot-out.length;omega)
 obtain ⟨ac,es⟩:=zux (w:=6) (b:=a) hi;rw [ac];by_cases hk:k<Z.length
 ·obtain ⟨z0,z1,z2,z3,z4,ez,zt,V,oz⟩:=at5 an hZ hk;rw [V];refine r11_ ?_;refine kw_ [3,9,11,12,14,58] ?_;refine cT_ ?_;refine r24_ ?_;refine cF_ ?_;refine r10_ ?_;have Q:=zdT [_] J hZ (by decide) (by decide) vd vd (by show H.length+2<=7;omega);refine ca_ rfl (Q) ?_;rintro _ T5 ⟨b',k',z',rfl,J⟩;clear Q;refine r10_ ?_;refine vk (zab rfl) zaq rfl rfl ?_;intro aj Y;have Q:=zbT [_,_] [z2] tot J Y rfl rfl (λz hz=>by rw [List.mem_singleton.1 hz];exact zt) (by decide) (by decide) rfl (by rw [zag];omega) vd vd (by show H.length+2<=7;omega);refine ca_ rfl (Q) ?_;rintro _ T6 ⟨rfl,J⟩;clear Q;refine cp_ rfl (zaj _ _) ?_;refine r6_ ?_;refine rC (vh rfl rfl Er.neNil) ?_;refine r2_ ?_;refine kw_ [3,9,11,12,14,58,16,69,17,92] ?_;refine cF_ ?_;refine r3_ ?_;refine ⟨⟨T6,i,k+1,a,b',y,z',out ++ [z2]⟩,?_,?_,?_,?_⟩<;>try dsimp only
  ·exact ⟨rfl,rfl,rfl,by rw [ac];rfl,rfl,trivial⟩
  ·exact Mem.Less.refl _
  ·exact ⟨br_z (by rw [zaX,<- zcZ] at J;exact J),ae,hk,by rw [ez,zuw (λs S' e=>by rw [es] at e;cases e)] at he;rw [List.append_assoc];exact he⟩
  (rw [List.length_append];show tot-(out.length+1)<tot-out.length;omega)
 obtain ⟨V,ez⟩:=zux (w:=5) (b:=b) hk;rw [V];rw [es,ez,brd,List.append_nil] at he;subst he;refine r11_ ?_;refine cF_ ?_;refine r8_ ?_;have Q:=zbd [] J;refine ca_ rfl (Q) ?_;rintro _ T5 ⟨rfl,f5,J⟩;clear Q;refine r5_ ?_;have Q:=zbd [] J;refine ca_ rfl (Q) ?_;rintro _ T6 ⟨rfl,f6,J⟩;clear Q;have oq:=J.o.1;have op:=J.o.2.1
 (unfold rdB at op oq;dsimp only at op oq)
 refine r4_ ?_;refine dr_ [i0_,i1_,i2_,i3_,i4_,i5_,i6_,i7_,o8_,o9_,o10_,i11_] [] ?_;refine r8_ ?_;refine zac rfl ?_;refine vD (cs:=[_,_]) (zab rfl) znE rfl rfl rfl rfl ?_;intro aG ai;have U:=ai
 repeat ((with_reducible replace U:=zaa U);obtain ⟨U,_⟩:=U)
 have:=U.ne op;have:=U.ne' op
 have:=U.ne oq;have:=U.ne' oq
 refine zad ⟨ny_,?_⟩;refine zac rfl ?_;refine cp_ rfl (zwi _ _ (vf _ _ _)) ?_;refine zad ⟨ny_,?_⟩;refine zac rfl ?_;refine cp_ rfl (zaj _ _) ?_;refine zad ⟨ny_,?_⟩;refine r6_ ?_;refine rC (vh rfl rfl Er.neNil) ?_;refine r2_ ?_;refine kw_ [3,9,11,12,14,58,18,110] ?_;refine cF_ ?_;have J:=J.new ai ⟨27,[.int .i64 0,.int .i64 0],2⟩;refine r5_ ?_;have Q:=zbK [] J (c':=tot) (by rw [if_neg (by decide),zag,zdF,ah]) (by decide) rfl vd vd;refine ca_ rfl (Q) ?_;rintro _ T7 ⟨rfl,J⟩;clear Q;refine cp_ rfl (zaj _ _) ?_;refine r4_ ?_;refine ⟨_,T7,⟨_,_,rfl,rfl,rfl⟩,zae,?_⟩;exact ⟨rfl,by unfold flR;rw [zag,zdF,ah];exact J.sub (((List.sublist_append_right _ _).trans (List.sublist_append_right _ _)).trans ((List.sublist_cons_self _ _).trans ((List.sublist_cons_self _ _).trans (List.sublist_cons_self _ _))))⟩
end
end Sto
end
section
open Go.RowKit Go.Shelf
open Mv Disk Num
namespace Sto
theorem zrV (S:Mem) (a p b c wk:Nat) (u:W5) (X:tu) (x:Pl) (s:tt) (n ct:Nat) (T:Mem) (h:ArS S a p b c x T) (hw:S.own wk=some (wkB a u X)) (hp:Ps x n) (hh:Rec.headD x.d s=(0,ct,0)) (hs:s.size<=1024) :
  ACall prog 46 #[self wk,.string s] T λv T'=>∃ q y,v = .tuple #[self q,.nilIface]/\Fresh S q/\ArS (S.set q (rdB a ⟨s,0,ct,0,0,0⟩)) a p b c y T'/\y.d=x.d/\y.fr=x.fr:=by
 have Q:=zam h hw;unfold wkB at Q;have I:=zoV S a p b c x s n 0 ct T h hp hh;refine k_E2 41 func46 ?_;refine r13_ ?_;refine ca_ rfl (I) ?_;rintro _ S1 ⟨q,rfl,U,V⟩;rw [V];clear V S1;obtain ⟨k1,J⟩:=zi_ h U (rdB a ⟨s,0,ct,0,0,0⟩);have o1:=(vg T (rdB a ⟨s,0,ct,0,0,0⟩) (U.ne Q)).trans Q;obtain ⟨i,Y⟩:=zdb J;unfold arB at Y;have oq:=vf T q (rdB a ⟨s,0,ct,0,0,0⟩);have ah:=ztQ J (vf S q (rdB a ⟨s,0,ct,0,0,0⟩));generalize T.set q (rdB a ⟨s,0,ct,0,0,0⟩)=T1 at *;unfold rdB at oq;refine r22_ ?_;have k3:=zoP J (x':={ x with reads:=up1 x.reads }) rfl rfl i;refine r14_ ?_;refine cF_ ?_;refine r6_ ?_;refine rC (vh rfl rfl (zbh (by show 5+s.size<=_;omega))) ?_;refine s1_ ?_;refine cp_ rfl (zaj _ _) ?_;refine r5_ ?_;refine ⟨_,_,⟨_,_,rfl,⟨_,_,rfl,rfl,rfl⟩,rfl⟩,Mem.Less.refl _,?_⟩;exact ⟨q,{ x with reads:=up1 x.reads },rfl,k1,k3,rfl,rfl⟩
section
variable {g:Cx} {B B0:List (Nat × Blk)} {F:List Fl} {H:List Sh} {T:Mem} {n p k:Nat} {s fn:tt} {L:List UInt8} {z:Bool} {f:tA} {caps:List tu}
def flT (s:tt) (L:List UInt8):Fl:=⟨s,0,L.length,L⟩
theorem zii (I:Op g B F H 0 T) (hm:flT fn L ∈ F) (hc:L.length<=65536) (X:∀ h ∈ H,h.isW=true\/h.nm≠fn) :
  ACall prog 46 #[self g.k,.string fn] T λv T'=>∃ q,v = .tuple #[self q,.nilIface]/\Op g B F (.rd q fn 0 L.length 0 L true :: H) 0 T':=by
 obtain ⟨fr,S,x,o,ts,I⟩:=I;have J:=I.fs _ hm;exact (zrV S g.a g.p g.b g.c g.k g.u _ x fn 0 L.length T I.ar I.wo.own I.ps ((Rec.zfc (Rec.zi4 (zgu I.ps (I.cl rfl) J)) fn).symm.trans (Rec.zgi (by decide) hc (zgu I.ps (I.cl rfl) J))) (Nat.le_trans (zue I.ps.d J.pos) (by decide))).mono λv T' ⟨q,y,Q,Y,U,hd,V⟩=>⟨q,Q,I.opened (f:=flT fn L) Y U hd V hm λh hh=>(X h hh).elim (I.wne hm hh) id⟩
theorem zpx (A:List Sh) {C:List Sh} (I:Op g B F (A ++ .rd p fn 0 L.length k L z :: C) n T) (hk:k<L.length) (hc:L.length<=60) (V:n+1<=16384) (hl:(A ++ C).length<=7) :
  ACall prog 48 #[self p] T λv T'=>v = .tuple #[.int .u8 (L[k].toNat:Nat),.bool true]/\Op g B F (A ++ .rd p fn 0 L.length (k+1) L false :: C) (n+1) T':=by
 have J:=zo4 A I (by decide) vd vd;rw [decide_eq_true (show k<Rec.eachN 0*L.length by unfold Rec.eachN;rw [if_pos rfl];omega)] at J;refine k_E1 19 func48 ?_;refine r10_ ?_;refine cp_ rfl (J) ?_;refine r3_ ?_;refine cF_ ?_;refine r5_ ?_;have Q:=zuf A I hk vd V hl;refine ca_ rfl (Q) ?_;rintro _ X ⟨b,c',rfl,I⟩;clear Q;have U:=I.o.1;refine r14_ ?_;refine cF_ ?_;refine r6_ ?_;refine rC (Calm.load ze0 rfl (v:=.int .u8 (L[k].toNat:Nat)) (zbP U rfl)) ?_;refine r5_ ?_;refine ⟨_,X,⟨_,_,rfl,⟨_,_,rfl,rfl,rfl⟩,rfl⟩,zae,?_⟩;exact ⟨rfl,I.tl⟩
theorem zuy (L:List UInt8) {k:Nat} (h:k<L.length):oneL (upL (L.take (k+1)))=oneL (upL (L.take k)) ++ [[L[k].toNat+1]]:=by
 show oneL (List.map _ (L.take (k+1)))=_;rw [List.take_succ_eq_append_getElem h,List.map_append];exact zcZ _ _
structure BwX where
  M:Mem
  k:Nat
theorem zgJ (I:Op g B F H 0 T) (hi:Idle H) (hm:flT fn L ∈ F) (Y:Opn g B0 f caps s) (ah:∀ y ∈ B0,y ∈ B) (ai:s ∉ nms F H) (hc:L.length<=60) (ak:F.length+H.length<=20) (hH:H.length<=4) :
  ACall prog 17 #[self g.k,.string fn,.func (.func f) #[] caps.toArray] T λv T'=>v = .nilIface/\Op g B (flR s 1 (oneL (upL L)) :: F) H 0 T':=by
 refine k_E3 67 func17 ?_;refine r9_ ?_;have Q:=zii I hm vd (λh hh=>.inl (hi.w h hh));refine ca_ rfl (Q) ?_;rintro _ T1 ⟨p,rfl,I⟩;clear Q;refine r11_ ?_;refine rC (vh rfl rfl Er.neNil) ?_;refine r2_ ?_;refine cF_ ?_;obtain ⟨f0,h0,oq⟩:=Op.rq [] I
 (unfold rdB at oq;dsimp only at oq)
 obtain ⟨ae,Y⟩:=Y (F:=F) (H:=.rd p fn 0 L.length 0 L true :: H) (w:=1) (c:=L.length) ai (by decide) vd (zdD (by decide) (by decide) hc) (by simp only [List.length_cons];omega);refine r9_ ?_;refine vn (zab rfl) ae rfl rfl (Y ah I) ?_;rintro _ T2 ⟨q,rfl,I⟩;refine r11_ ?_;refine rC (vh rfl rfl Er.neNil) ?_;refine r2_ ?_;refine cF_ ?_;refine r4_ ?_;refine AWP.loop (X:=BwX) (λX=>[(7,self p),(9,self q)]) (λX=>X.M) (λX=>(∃ z,Op g B F (wtR q s 1 (oneL (upL (L.take X.k))) (Rec.needN 1 L.length) :: .rd p fn 0 L.length X.k L z :: H) (6*X.k) X.M)/\X.k<=L.length) (λX=>L.length-X.k) (⟨T2,0⟩) ⟨rfl,rfl,trivial⟩ (Mem.Less.refl _) (⟨⟨_,I⟩,Nat.zero_le _⟩) ?_;rintro ⟨M,k⟩ ⟨⟨z,J⟩,hk⟩;(try dsimp only at *);replace J:Op g B F (wtR q s 1 (oneL (upL (L.take k))) (Rec.needN 1 L.length) :: .rd p fn 0 L.length k L z :: H) (6*k) M:=J;replace hk:k<=L.length:=hk;have V:=zo4 [_] J (by decide) vd vd;have U:(oneL (upL (L.take k))).length=k:=by rw [zag,zh6,List.length_take];omega
 by_cases q1:k<L.length
 ·rw [decide_eq_true (show k<Rec.eachN 0*L.length by unfold Rec.eachN;rw [if_pos rfl];omega)] at V;have ad:=zuy L q1;have aj:=(zo9 L) (L[k].toNat+1) (List.mem_map.2 ⟨L[k],List.getElem_mem q1,rfl⟩);refine r4_ ?_;refine cp_ rfl (V) ?_;refine r2_ ?_;refine kw_ [7,9,36] ?_;refine cT_ ?_;refine r6_ ?_;have Q:=zpx [_] J q1 hc vd (by simp only [List.append_eq,List.length_append,List.length_cons,List.length_nil];omega);refine ca_ rfl (Q) ?_;rintro _ M2 ⟨rfl,J⟩;clear Q;have ao:L[k].toNat<256:=L[k].toNat_lt;generalize L[k].toNat=c at *;refine r14_ ?_;refine cF_ ?_;refine r8_ ?_;refine vk (zab rfl) zaq rfl rfl ?_;intro aq ag;have Q:=zbT [] [c+1] L.length J ag rfl rfl (λy hy=>by rw [List.mem_singleton.1 hy];exact aj.2) (by decide) (by decide) rfl (by rw [U];exact q1) vd vd (by simp only [List.append_eq,List.length_append,List.length_cons,List.length_nil];omega);refine ca_ rfl (Q) ?_;rintro _ M3 ⟨rfl,J⟩;clear Q;refine cp_ rfl (zaj _ _) ?_;refine r6_ ?_;refine rC (vh rfl rfl Er.neNil) ?_;refine r2_ ?_;refine cF_ ?_;refine r3_ ?_;refine ⟨⟨M3,k+1⟩,?_,?_,?_,?_⟩<;>try dsimp only
  ·exact ⟨rfl,rfl,trivial⟩
  ·exact Mem.Less.refl _
  ·exact ⟨⟨_,by rw [ad,<- zaX];exact J.mono vd⟩,q1⟩
  (show L.length-(k+1)<L.length-k;omega)
 obtain rfl:k=L.length:=by omega
 rw [decide_eq_false (show ¬ L.length<Rec.eachN 0*L.length by unfold Rec.eachN;rw [if_pos rfl];omega)] at V;rw [List.take_length] at J U;refine r4_ ?_;refine cp_ rfl (V) ?_;refine r2_ ?_;refine kw_ [7,9,36] ?_;refine cF_ ?_;refine r8_ ?_;have Q:=zbd [_] J;refine ca_ rfl (Q) ?_;rintro _ M2 ⟨rfl,f0,J⟩;clear Q;have oq:=J.o.1
 (unfold rdB at oq;dsimp only at oq)
 refine r9_ ?_;refine cp_ rfl (zaj _ _) ?_;refine r6_ ?_;refine rC (vh rfl rfl Er.neNil) ?_;refine r2_ ?_;refine cF_ ?_;refine r5_ ?_;have Q:=zbK [] J (c':=L.length) (by rw [if_neg (by decide)];exact U.symm) (by decide) rfl vd vd;refine ca_ rfl (Q) ?_;rintro _ M3 ⟨rfl,J⟩;clear Q;refine cp_ rfl (zaj _ _) ?_;refine r4_ ?_;refine ⟨_,M3,⟨_,_,rfl,rfl,rfl⟩,zae,?_⟩;exact ⟨rfl,by unfold flR;rw [U];exact J.tl⟩
end
end Sto
end
section
open Go.RowKit Go.Shelf
open Mv Disk Num
namespace Sto
section
variable {g:Cx} {B:List (Nat × Blk)} {F:List Fl} {H:List Sh} {T S:Mem} {n m bw bt:Nat} {s fn:tt} {L:List UInt8} {d:D} {v:tu}
theorem zwQ (hs:nm s) (X:tld s=false):Opn g [(bw,wpB g.k),(bt,nmB s)] 18 [.pointer (some ⟨bw,0,none⟩),.pointer (some ⟨bt,0,none⟩)] s:=λ{F H w c} Y U hc hk hl=>by
 refine ⟨rfl,λ{B n T} Q I=>?_⟩;have o1:=I.o.mem _ (Q _ (List.mem_cons_self ..));have o2:=I.o.mem _ (Q (bt,nmB s) (by simp));unfold wpB at o1;unfold nmB at o2;refine k_E4 15 func18 ?_;refine r12_ ?_;have J:=zrz I hs X Y U hc hk hl;refine ca_ rfl (J) ?_;rintro _ V ⟨q,rfl,I,_⟩;clear J;refine r7_ ?_;refine ⟨_,V,⟨_,_,rfl,⟨_,_,rfl,rfl,rfl⟩,rfl⟩,zae,?_⟩;exact ⟨q,rfl,I⟩
def zD:Blk:=⟨26,[.int .i64 0,.slice none 0 0,.slice none 0 0,.int .i64 0,.bool false],5⟩
def zC:Blk:=⟨33,[.int .u64 0,.int .u64 0,.int .i64 0],3⟩
theorem zfS {M:Mem} {I J:Nat} {A C D E:Blk} (Q:Fresh M I) (U:Fresh (M.set I A) J):M.Less ((((M.set I A).set J C).set I D).set J E) :=
 zbs (zbs (zbs (zbs (Mem.Less.refl _) Q.1) (zaa U).1.1) Q.1) (zaa U).1.1
theorem zuz (ag:DkR S v d) (hd:DkF d F) (aH:24<=m) (aA:m<=256) (ht:∀ f ∈ F,tld f.n=false) (hF:flT fn L ∈ F) (hs:nm s) (ax:tld s=false) (ah:s ∉ F.map (·.n)) (hc:L.length<=60) (hl:F.length<=10) :
  ACall prog 7 #[v,.int .i64 (m:Nat),.string fn,.string s] S λr T=>∃ dv c1 c2 c3 d',r = .tuple #[dv,.agg #[.int .u64 c1,.int .u64 c2,.int .i64 c3],.int .i64 0]/\DkR T dv d'/\DkF d' (flR s 1 (oneL (upL L)) :: F)/\T.ro=S.ro:=by
 have hb:=λ{M:Mem} {B:List (Nat × Blk)} (h:S.Less M)=>zfO (B:=B) (ag.less h) hd aH aA ht;obtain ⟨pe,ce,pw,cw,rfl,_,_⟩:=id ag;rw [<- zdh] at ah;refine k_E4 31 func7 ?_;refine r2_ ?_;refine k_b5 rfl ?_;intro b4 f4;have g4:=f4
 repeat ((with_reducible replace g4:=zaa g4);obtain ⟨g4,_⟩:=g4)
 refine nl_ ?_;refine vo (zab rfl) rfl rfl ?_;intro b7 f7;have g7:=f7
 repeat ((with_reducible replace g7:=zaa g7);obtain ⟨g7,_⟩:=g7)
 refine nl_ ?_;refine ARun.alloc (zab rfl) zas ?_;intro b8 f8;have g8:=f8
 repeat ((with_reducible replace g8:=zaa g8);obtain ⟨g8,_⟩:=g8)
 refine nl_ ?_;refine ARun.alloc (zab rfl) zaR ?_;intro b9 f9;have X:=f9
 repeat ((with_reducible replace X:=zaa X);obtain ⟨X,_⟩:=X)
 refine nl_ ?_;refine r3_ ?_;have aB:S.Less ((((S.set b4 ⟨26,[.int .i64 d.size,.slice pe d.ext.length ce,.slice pw d.waits.length cw,.int .i64 d.fuse,.bool d.down],5⟩).set b7 (nmB s)).set b8 zD).set b9 zC):=(((vi _ _ _ f4.1).trans (vi _ _ _ f7.1)).trans (vi _ _ _ f8.1)).trans (vi _ _ _ f9.1);have Q:=(zaa f9).2;have ad:=(zaa (zaa f9).1).2;have af:=(zaa f8).2;refine r4_ ?_;have J:=hb (B:=[(b9,zC),(b8,zD),(b7,nmB s)]) aB (by simp only [List.mem_cons,List.not_mem_nil,or_false];rintro y (rfl | rfl | rfl);exact vf _ _ _;exact (vg _ _ (Ne.symm Q)).trans (vf _ _ _);exact (vg _ _ (Ne.symm ad)).trans ((vg _ _ (Ne.symm af)).trans (vf _ _ _))) (by simp [Q,ad,af]);refine ca_ rfl (J) ?_;rintro _ T1 ⟨g,rfl,U,hg,I⟩;clear J;have U:g.ro=S.ro:=U;have ay:offR g b8:=λa v h=>f8.2 a v (by rw [U] at h;exact h);have aF:offR g b9:=λa v h=>f9.2 a v (by rw [U] at h;exact h);refine r3_ ?_;refine ARun.alloc (zab rfl) zdK ?_;intro b11 ai;have V:=ai
 repeat ((with_reducible replace V:=zaa V);obtain ⟨V,_⟩:=V)
 refine nl_ ?_;refine r4_ ?_;obtain ⟨T2,l2,I⟩:=(I.new ai (wpB g.k)).vl;refine AWP.less T2 l2 ?_;refine r4_ ?_;refine rC (vh rfl rfl Er.eqNil) ?_;refine r2_ ?_;refine cT_ ?_;have Y:=I.o.1;unfold wpB at Y;refine r4_ ?_;have J:=zgJ (f:=18) (caps:=[.pointer (some ⟨b11,0,none⟩),.pointer (some ⟨b7,0,none⟩)]) (B0:=[(b11,wpB g.k),(b7,nmB s)]) (s:=s) (fn:=fn) (L:=L) I Idle.nil hF (zwQ hs ax) (by simp) ah hc (by show F.length+0<=20;omega) (by decide);refine ca_ rfl (J) ?_;rintro _ T3 ⟨rfl,I⟩;clear J;have Y:=I.o.1;unfold wpB at Y;have I2:=I.perm (B':=(b9,zC) :: (b8,zD) :: [(b11,wpB g.k),(b7,nmB s)]) ((List.Perm.swap ..).trans ((List.Perm.swap ..).cons _)) (.refl _) (.refl _);refine r7_ ?_;have J:=zjm I2 aF ay zo8;refine ca_ rfl (J) ?_;rintro _ T4 ⟨M,⟨dv,c1,c2,c3,d',rfl,ac,aD,hM⟩,g8,X,aE⟩;clear J;obtain ⟨az,aw,av,aG,rfl,_,_⟩:=id ac;subst aE;have Q:=(zaa X).2;refine r3_ ?_;refine vF (cs:=[.int .i64 d'.size,.slice az d'.ext.length aw,.slice av d'.waits.length aG,.int .i64 d'.fuse,.bool d'.down]) rfl rfl zal ((vg _ _ (Ne.symm Q)).trans (vf _ _ _)) rfl rfl ?_;refine nm_ ?_;refine vF (cs:=[.int .u64 c1,.int .u64 c2,.int .i64 c3]) rfl rfl zaY ((vg _ _ Q).trans (vf _ _ _)) rfl rfl ?_;refine nm_ ?_;refine r4_ ?_;refine ⟨_,M,⟨_,_,_,rfl,.inr ⟨zat,[_,_,_,_,_],zal,rds_,rfl⟩,⟨_,_,_,rfl,.inr ⟨zcq,[_,_,_],zaY,rds_,rfl⟩,⟨_,_,rfl,rfl,rfl⟩,rfl⟩,rfl⟩,zfS g8 X,?_⟩;exact ⟨_,c1,c2,c3,d',rfl,ac,aD,hM.trans U⟩
end
end Sto
end
section
open Go.RowKit Go.Shelf
open Mv Disk Num
namespace Sto
theorem zuA (x:Nat) (S:Mem):ACall prog 155 #[.bool (decide ((0:Int)<(x:Int)))] S λv S'=>v = .int .u64 ((min x 1:Nat):Int)/\S'=S:=by
 by_cases q:0<x
 ·rw [decide_eq_true vd,Nat.min_eq_right q];refine k_E1 4 func155 ?_;refine r11_ ?_;refine cT_ ?_;refine r7_ ?_;refine ⟨_,S,⟨_,_,rfl,rfl,rfl⟩,zae,?_⟩;exact ⟨rfl,rfl⟩
 rw [decide_eq_false vd,Nat.min_eq_left vd,Nat.eq_zero_of_not_pos q];refine k_E1 4 func155 ?_;refine r11_ ?_;refine cF_ ?_;refine r8_ ?_;refine ⟨_,S,⟨_,_,rfl,rfl,rfl⟩,zae,?_⟩;exact ⟨rfl,rfl⟩
theorem zpy {z:Nat} (h:0<z):Value.int .u64 ((z:Int)-1)=nU (z-1):=congrArg (Value.int .u64) vd
section
variable {g:Cx} {B:List (Nat × Blk)} {F:List Fl} {H:List Sh} {T:Mem} {n:Nat} {en:tt} {e:List Nat}
theorem zrW (I:Op g B F H 0 T) (hi:Idle H) (hg:g.ll = []/\g.lc=0) (hE:errK g) (hf:flR en 1 (oneL e) ∈ F) (hn:n<=60) (he:e.Perm (List.range n)) (bm:F.length+H.length<=18) (hH:H.length<=3) :
  ACall prog 103 #[self g.k,.string en,.int .u64 (n:Nat)] T λv T'=>∃ s out,v = .tuple #[.string s,.int .u64 (priA e n:Nat),.nilIface]/\nm s/\tld s=true/\s ∉ nms F H/\out.Perm (rowsA n e n)/\SortedR out/\Op g B (flR s 2 out :: F) H 0 T':=by
 have a5:=I.gm;have av:e.length=n:=by rw [he.length_eq,List.length_range]
 have aR:=zfP hn he n (Nat.le_refl _);have aK:=zeM he;refine vI (args:=[self g.k,.string en,.int .u64 (n:Nat)]) (rs:=[.cell 6 9,.cell 7 31,.cell 8 52]) 120 [(0,self g.k),(1,.string en),(2,.int .u64 (n:Nat))] func103 rfl rfl (Nat.le_of_ble_eq_true rfl) rfl ⟨rfl,rfl,rfl,trivial⟩ ?_;refine vj (rs:=[.cell 6 9,.cell 7 31,.cell 8 52]) rfl ?_;refine s1_ ?_;refine vo (zab rfl) rfl rfl ?_;intro b5 f5;refine nl_ ?_;refine ARun.alloc (zab rfl) za7 ?_;intro b6 f6;refine nl_ ?_;refine ARun.alloc (zab rfl) zbn ?_;intro b7 f7;refine nl_ ?_;refine ARun.alloc (zab rfl) za_ ?_;intro b8 f8;refine nl_ ?_;refine r2_ ?_;obtain ⟨T0,l0,I⟩:=((((I.new f5 (cnB n)).new f6 (nmB ByteArray.empty)).new f7 (cnB 0)).new f8 bxE).vl;refine AWPM.less T0 l0 ?_;refine vj (rs:=[.cell 6 9,.cell 7 31,.cell 8 52]) rfl ?_;refine r3_ ?_;have U:=zdf I hf rfl (by show (oneL e).length<=_;rw [zag];omega) (λh hh=>.inl (hi.w h hh));refine ca_ rfl (U) ?_;rintro _ T1 ⟨p,rfl,I⟩;clear U;refine r3_ ?_;refine ARun.alloc (zab rfl) za_ ?_;intro Q aW;refine nl_ ?_;refine r4_ ?_;refine kM_ [0,1,2,5,6,7,8,10,9] ?_;obtain ⟨T2,l2,I⟩:=(I.new aW bxE).vl;refine AWPM.less T2 l2 ?_;have aa:=I.o.1;have o5:=I.o.mem (b5,cnB n) (by simp)
 (unfold bxE at aa;unfold cnB at o5)
 refine vj (rs:=[.cell 6 9,.cell 7 31,.cell 8 52]) rfl ?_;refine r3_ ?_;refine rC (vh rfl rfl Er.neNil) ?_;refine r2_ ?_;refine cF_ ?_;obtain ⟨s,a1,a2,a3,aY⟩:=zb4 I (by simp only [List.length_cons];omega);refine r2_ ?_;refine vj (rs:=[.cell 6 9,.cell 7 31,.cell 8 52]) rfl ?_;refine r2_ ?_;refine cp_ rfl (aY) ?_;refine r3_ ?_;refine kM_ [0,1,2,5,6,7,8,10,9,24,11] ?_;refine vj (rs:=[.cell 6 9,.cell 7 31,.cell 8 52]) rfl ?_;refine r4_ ?_;have U:=zde (s:=s) (w:=2) (c:=n) I a1 a2 a3 (by decide) vd (zdD (by decide) (by decide) hn) (by simp only [List.length_cons];omega);refine ca_ rfl (U) ?_;rintro _ T3 ⟨q,rfl,I,_⟩;clear U;have aa:=I.o.1;unfold bxE at aa;refine r3_ ?_;refine ARun.alloc (zab rfl) zbo ?_;intro b12 aI;refine nl_ ?_;refine vm rfl rfl zgT rfl (vf _ _ _) (show 0<1 by decide) rfl ?_;refine nm_ ?_;refine st_ ((vg _ _ (aI.ne aa)).trans aa) ?_;refine r2_ ?_;refine kM_ [0,1,2,5,6,7,8,10,9,24,11,12] ?_;obtain ⟨T4,l4,I⟩:=((I.new aI (bxB q)).put [_] bxE).vl;refine AWPM.less T4 l4 ?_;clear aa;have aa:=I.o.2.1;unfold bxE at aa;refine vj (rs:=[.cell 6 9,.cell 7 31,.cell 8 52]) rfl ?_;refine r3_ ?_;refine rC (vh rfl rfl Er.neNil) ?_;refine r2_ ?_;refine cF_ ?_;refine r2_ ?_;refine vj (rs:=[.cell 6 9,.cell 7 31,.cell 8 52]) rfl ?_;refine s1_ ?_;refine ARun.alloc (zab rfl) zbn ?_;intro am aX;refine nl_ ?_;refine ARun.alloc (zab rfl) zbn ?_;intro Y aB;refine nl_ ?_;have:=(zaa aB).2;refine r4_ ?_;obtain ⟨T5,l5,I⟩:=((((I.new aX (cnB 0)).new aB (cnB 0)).put [_] (cnB 0)).put [] (cnB 0)).vl;refine AWPM.less T5 l5 ?_;have o5:=I.o.mem (b5,cnB n) (by simp);have af:=I.o.mem (b12,bxB q) (by simp);have aa:=I.o.mem (Q,bxE) (by simp)
 (unfold cnB at o5;unfold bxB at af;unfold bxE at aa)
 refine vj (rs:=[.cell 6 9,.cell 7 31,.cell 8 52]) rfl ?_;refine r6_ ?_;refine AWP.join (X:=Mem) (λ_=>[(0,self g.k),(5,.pointer (some ⟨b5,0,none⟩)),(6,.pointer (some ⟨b6,0,none⟩)),(7,.pointer (some ⟨b7,0,none⟩)),(8,.pointer (some ⟨b8,0,none⟩)),(9,self p),(10,.pointer (some ⟨Q,0,none⟩)),(11,.string s),(12,.pointer (some ⟨b12,0,none⟩)),(13,.pointer (some ⟨am,0,none⟩)),(14,.pointer (some ⟨Y,0,none⟩))]) (λX=>X) (λX=>Op g ((Y,cnB 0) :: (am,cnB 0) :: (b12,bxB q) :: (Q,bxE) :: (b8,bxE) :: (b7,cnB 0) :: (b6,nmB ByteArray.empty) :: (b5,cnB n) :: B) F (rdR p en 1 (oneL e) 0 true :: wtR q s 2 (rowsA n e 0) (Rec.needN 2 n) :: H) 10 X) ?_ ?_
 ·by_cases q0:0<n
  ·refine cT_ ?_;refine r4_ ?_;refine vD (cs:=[_,_]) (zab rfl) zaq rfl rfl rfl rfl ?_;intro bz aH;have ac:=aH
   repeat ((with_reducible replace ac:=zaa ac);obtain ⟨ac,_⟩:=ac)
   have:=ac.ne o5;have:=ac.ne' o5
   have:=ac.ne af;have:=ac.ne' af
   have U:=zbT (cs:=[.int .u64 ((n:Int)-1),.int .u64 0]) [] [n-1,0] n I aH (by rw [zpy q0];rfl) rfl (λy hy=>by simp only [List.mem_cons,List.not_mem_nil,or_false] at hy;exact Nat.lt_of_lt_of_le (show y<1000 by omega) (by decide)) (by decide) (by decide) rfl q0 vd (by decide) (by simp only [List.append_eq,List.length_append,List.length_cons,List.length_nil];omega);refine ca_ rfl (U) ?_;rintro _ M2 ⟨rfl,I⟩;clear U;refine cp_ rfl (zaj _ _) ?_;have ah:=I.o.mem (Q,bxE) (by simp);unfold bxE at ah;refine st_ ah ?_;refine s1_ ?_;refine ⟨M2,?_,?_,?_⟩<;>try dsimp only
   ·(unfold rowsA;rw [if_neg vd];exact I.perm (.refl _) (.refl _) (List.Perm.swap ..))
   ·exact ⟨rfl,rfl,rfl,rfl,rfl,rfl,rfl,rfl,rfl,rfl,rfl,trivial⟩
   (rw [vB _ _ _ ah];exact Mem.Less.refl _)
  refine cF_ ?_;obtain rfl:n=0:=by omega
  refine s1_ ?_;refine ⟨T5,?_,?_,?_⟩<;>try dsimp only
  ·exact (I.perm (.refl _) (.refl _) (List.Perm.swap ..)).mono (by decide)
  ·exact ⟨rfl,rfl,rfl,rfl,rfl,rfl,rfl,rfl,rfl,rfl,rfl,trivial⟩
  exact Mem.Less.refl _
 rintro T6 J;intro _ _ aC aD;(try dsimp only at *);refine zbO ?_;refine AWPM.sub _ aC (AWPM.less _ aD ?_);clear aC aD;replace J:Op g ((Y,cnB 0) :: (am,cnB 0) :: (b12,bxB q) :: (Q,bxE) :: (b8,bxE) :: (b7,cnB 0) :: (b6,nmB ByteArray.empty) :: (b5,cnB n) :: B) F (rdR p en 1 (oneL e) 0 true :: wtR q s 2 (rowsA n e 0) (Rec.needN 2 n) :: H) 10 T6:=J;clear I aa;refine vO ?_;refine AWPM.seq ?_;refine r2_ ?_;refine ca_ rfl (zgx _ p) ?_;rintro _ S9 ⟨bq,rfl,fq,h9⟩;rw [h9];clear h9 S9;intro S0 w0 e' w1 bb a9;refine wpIn_block ?_;refine zdg (N:=120) (p1:=48) bq 10 15 (λk=>wtR q s 2 (rowsA n e k) (Rec.needN 2 n) :: H) (λk B'=>B'=(Y,cnB (priA e k)) :: (am,cnB k) :: (bq,rpB p) :: (b12,bxB q) :: (Q,bxE) :: (b8,bxE) :: (b7,cnB 0) :: (b6,nmB ByteArray.empty) :: (b5,cnB n) :: B) [(0,_),(5,_),(6,_),(7,_),(8,_),(9,_),(10,_),(11,_),(12,_),(13,_),(14,_),(47,_)] [(0,_),(6,_),(7,_),(8,_),(9,_),(10,_),(11,_),(12,_),(14,_)] (a9.sub ⟨rfl,rfl,rfl,rfl,rfl,rfl,rfl,rfl,rfl,rfl,rfl,rfl,trivial⟩) rfl (zab rfl) (by decide) (by decide) (rows:=oneL e) (by rw [zag];omega) (zgF λz hz=>Nat.lt_of_lt_of_le (show z<1000 from by have:=List.mem_range.1 (he.mem_iff.1 hz);omega) (by decide)) (by decide) (λ_=>by show H.length+1<=7;omega) (λ_ _ e=>by rw [e];simp) ⟨true,_,rfl,(J.new fq (rpB p)).perm ((List.Perm.swap ..).trans ((List.Perm.swap ..).cons _)) (.refl _) (.refl _)⟩ bb ⟨rfl,rfl,rfl,rfl,rfl,rfl,rfl,rfl,rfl,trivial⟩ (rs:=[.cell 6 9,.cell 7 31,.cell 8 52]) (λ_ _ h=>h) rfl ?round ?done
 case round =>
  rintro l k gb _ M hk rfl J;rw [zag,av] at hk;have aF:(oneL e)[k]'(by rw [zag,av];exact hk) = [e.getD k 0]:=by rw [zgE e vd,gd vd]
  rw [aF] at J;have hz:=zsK he hk;have aM:=zcU n e k;have aN:priA e (k+1)=if e.getD k 0=0 then k+1 else priA e k:=rfl
  have ai:=zm0 he hk;have aq:=zuj he hk;have ag:=zrB he hk;have bK:=zo_ e k;generalize e.getD k 0=z at *;have pg:=J.o.1;have aV:=J.o.2.1;have aZ:=J.o.2.2.1;have aT:=J.o.mem (b12,bxB q) (by simp);have ah:=J.o.mem (Q,bxE) (by simp);have p5:=J.o.mem (b5,cnB n) (by simp);have pg:M.own gb=some ⟨31,[nU z],1⟩:=pg;unfold cnB at aV aZ p5;unfold bxB at aT;unfold bxE at ah;unfold nU at pg;obtain ⟨M1,l1,J⟩:=(J.put [_,_] (cnB (k+1))).vl;have qg:=J.o.1;have ae:=J.o.2.1;have ay:=J.o.2.2.1;have aw:=J.o.mem (b12,bxB q) (by simp);have az:=J.o.mem (Q,bxE) (by simp);have q5:=J.o.mem (b5,cnB n) (by simp);(try dsimp only [List.map_cons,List.map_nil] at qg)
  (unfold cnB at ae ay q5;unfold bxB at aw;unfold bxE at az;unfold nU at qg)
  refine GWP.region ?_;refine r3_ ?_;refine kG_ [48,0,5,6,7,8,9,10,11,12,13,14,15] ?_;refine GWP.block ?_;refine GWP.seq ?_;refine GWP.region ?_;refine r5_ ?_;refine kG_ [48,0,5,6,7,8,9,10,11,12,13,14,15] ?_;refine GWP.less M1 l1 ?_;refine GWP.block ?_;refine GWP.seq ?_;refine GWP.region ?_;refine s1_ ?_;refine rC (vh rfl rfl Er.neNil) ?_;refine r3_ ?_;refine kG_ [48,0,5,6,7,8,9,10,11,12,13,14,15,60] ?_;refine GWP.condF rfl (by first|rfl|(simp;done)|(simp;omega)) ?_;refine GWP.seq ?_;refine GWP.seq ?_;refine GWP.draw [i0_,i1_,i2_,i3_,i4_,i5_] [] mixed (by kernel_rfl) ?_;refine r8_ ?_;refine kG_ [48,0,5,6,7,8,9,10,11,12,13,14,15,60,64] ?_;refine GWP.condF rfl (by first|rfl|(simp;done)|(simp;omega)) ?_;by_cases q1:z=0
  ·have aL:=aq q1;rw [aL] at ae;subst q1;refine GWP.region ?_;refine r11_ ?_;refine kG_ [48,0,5,6,7,8,9,10,11,12,13,14,15,60,64] ?_;refine GWP.condF rfl (by first|rfl|(simp;done)|(simp;omega)) ?_;refine GWP.seq ?_;refine GWP.region ?_;refine r7_ ?_;refine kG_ [48,0,5,6,7,8,9,10,11,12,13,14,15,60,64,79] ?_;refine GWP.condT rfl (by first|rfl|(simp;done)|(simp;omega)) ?_;refine GWP.region ?_;refine s1_ ?_;refine st_ ae ?_;refine r3_ ?_;exact ⟨rfl,false,_,rfl,by rw [aM,aN,if_pos rfl,if_pos rfl];exact (J.put [_] (cnB (k+1))).tl.mono vd⟩
  have a0:=ai q1;have aG:k+1-min (priA e k) 1<n:=by
   by_cases q2:priA e k=0
   ·have:=ag q1 q2;omega
   omega
  clear ai aq ag;refine GWP.region ?_;refine r11_ ?_;refine kG_ [48,0,5,6,7,8,9,10,11,12,13,14,15,60,64] ?_;refine GWP.condF rfl (by first|rfl|(simp;done)|(simp;omega)) ?_;refine GWP.seq ?_;refine GWP.region ?_;refine r7_ ?_;refine kG_ [48,0,5,6,7,8,9,10,11,12,13,14,15,60,64,79] ?_;refine GWP.condF rfl (by first|rfl|(simp;done)|(simp;omega)) ?_;refine GWP.seq ?_;refine GWP.draw [i0_,i1_,i2_,i5_,o3_,i4_,i6_,i7_] [] mixed (by kernel_rfl) ?_;refine r4_ ?_;refine zac rfl ?_;refine cp_ rfl (zuA _ _) ?_;refine zad ⟨ny_,?_⟩;refine r5_ ?_;refine kG_ [48,0,5,6,7,8,9,10,11,12,13,14,15,60,64,79,85] ?_;refine GWP.condF rfl (by first|rfl|(simp;done)|(simp;omega)) ?_;refine GWP.draw [i0_,i1_,i2_,i3_,i4_,i5_,o6_,o7_,o8_,o9_] [7,8,9] mixed (by kernel_rfl) ?_;refine r6_ ?_;refine zac rfl ?_;refine vD (cs:=[_,_]) (zab rfl) zaq rfl rfl rfl rfl ?_;intro br aJ;have V:=aJ
  repeat ((with_reducible replace V:=zaa V);obtain ⟨V,_⟩:=V)
  have:=V.ne qg;have:=V.ne' qg
  have:=V.ne ae;have:=V.ne' ae
  have:=V.ne ay;have:=V.ne' ay
  have:=V.ne aw;have:=V.ne' aw
  have:=V.ne az;have:=V.ne' az
  have:=V.ne q5;have:=V.ne' q5
  refine zad ⟨ny_,?_⟩;refine zac rfl ?_;have U:=zbT (cs:=[.int .u64 ((z:Int)-1),.int .u64 ((k+1:Nat):Int)]) [_] [z-1,k+1] n J aJ (by rw [zpy vd];rfl) rfl (λy hy=>by simp only [List.mem_cons,List.not_mem_nil,or_false] at hy;exact Nat.lt_of_lt_of_le (show y<1000 by omega) (by decide)) (by decide) (by decide) rfl a0 vd vd (by show H.length+1<=7;omega);refine ca_ rfl (U) ?_;rintro _ M2 ⟨rfl,J⟩;clear U;have ad:=J.o.mem (Q,bxE) (by simp);unfold bxE at ad;refine zad ⟨nz_,?_⟩;refine zac rfl ?_;refine cp_ rfl (zaj _ _) ?_;refine zad ⟨nz_,?_⟩;refine zac rfl ?_;refine st_ ad ?_;refine zad ⟨nz_,?_⟩;refine r3_ ?_;exact ⟨rfl,false,_,rfl,by rw [aM,aN,if_neg q1,if_neg q1,<- zaX];exact (J.put [_,_,_,_,_] bxE).tl.mono vd⟩
 case done =>
  rintro D z0 _ M rfl J;rw [zag,av] at J;refine GWP.seq ?_;refine GWP.region ?_;refine s1_ ?_;have U:=zbd [] J;refine ca_ rfl (U) ?_;rintro _ M2 ⟨rfl,f,J⟩;clear U;have oq:=J.o.1;have aa:=J.o.mem (Q,bxE) (by simp);have af:=J.o.mem (b12,bxB q) (by simp)
  (unfold rdB at oq;dsimp only at oq;unfold bxB at af;unfold bxE at aa)
  refine r2_ ?_;refine kG_ [0,6,7,8,9,10,11,12,14] ?_;refine GWP.seq ?_;refine GWP.seq ?_;refine GWP.region ?_;refine s1_ ?_;refine rC (vh rfl rfl Er.eqNil) ?_;refine r2_ ?_;refine kG_ [0,6,7,8,9,10,11,12,14,97] ?_;refine GWP.condT rfl (by first|rfl|(simp;done)|(simp;omega)) ?_;refine GWP.region ?_;refine r4_ ?_;refine cp_ rfl (zaj _ _) ?_;refine st_ aa ?_;refine r2_ ?_;refine kG_ [0,6,7,8,9,10,11,12,14,97] ?_;refine GWP.less M2 (zbm aa) ?_;refine GWP.seq ?_;refine GWP.seq ?_;refine GWP.region ?_;refine s1_ ?_;refine rC (vh rfl rfl Er.eqNil) ?_;refine r2_ ?_;refine kG_ [0,6,7,8,9,10,11,12,14,97,104] ?_;refine GWP.condT rfl (by first|rfl|(simp;done)|(simp;omega)) ?_;refine GWP.region ?_;refine s1_ ?_;have U:=zbK [] J (c':=n) (by rw [if_neg (by decide),aK]) (by decide) rfl vd vd;refine ca_ rfl (U) ?_;rintro _ M3 ⟨rfl,J⟩;clear U;have ad:=J.o.mem (Q,bxE) (by simp);unfold bxE at ad;refine cp_ rfl (zaj _ _) ?_;refine st_ ad ?_;refine r2_ ?_;refine kG_ [0,6,7,8,9,10,11,12,14,97,104] ?_;refine GWP.less M3 (zbm ad) ?_;refine GWP.seq ?_;refine GWP.seq ?_;refine GWP.region ?_;refine s1_ ?_;refine rC (vh rfl rfl Er.neNil) ?_;refine r2_ ?_;refine kG_ [0,6,7,8,9,10,11,12,14,97,104,109] ?_;refine GWP.condF rfl (by first|rfl|(simp;done)|(simp;omega)) ?_;have aG:(⟨s,2,n,(rowsA n e n).flatMap recB⟩ : Fl)=flR s 2 (rowsA n e n):=by unfold flR;rw [aK]
  rw [aG] at J;obtain ⟨s2,c1,c2,c3,a7⟩:=zeo [] J hi hg hE a2 aR (by decide) (by decide) vd (zdi a5.1 (by decide) (by decide) vd) (by simp only [List.append_eq,List.nil_append,List.length_cons] at *;omega) hH;refine GWP.skip ?_;refine s1_ ?_;refine GWP.seq ?_;refine GWP.region ?_;refine r2_ ?_;refine ca_ rfl (a7) ?_;rintro _ M4 ⟨rfl,out,o1,o2,J⟩;have al:=J.o.mem (Q,bxE) (by simp);unfold bxE at al;refine r4_ ?_;refine st_ al ?_;refine r2_ ?_;refine kG_ [0,6,7,8,9,10,11,12,14,97,104,109,16] ?_;refine GWP.less M4 (zbm al) ?_;have m1:b6≠Y:=J.ne (i:=8) (j:=1) rfl rfl (by decide);have m2:b6≠Q:=J.ne (i:=8) (j:=5) rfl rfl (by decide);have m3:b7≠Y:=J.ne (i:=7) (j:=1) rfl rfl (by decide);have m4:b7≠Q:=J.ne (i:=7) (j:=5) rfl rfl (by decide);have m5:b8≠Y:=J.ne (i:=6) (j:=1) rfl rfl (by decide);have m6:b8≠Q:=J.ne (i:=6) (j:=5) rfl rfl (by decide);have m7:b7≠b6:=J.ne (i:=7) (j:=8) rfl rfl (by decide);have m8:b8≠b6:=J.ne (i:=6) (j:=8) rfl rfl (by decide);have m9:b8≠b7:=J.ne (i:=6) (j:=7) rfl rfl (by decide);have ax:∀ b,b≠Y->b≠Q->(pickM M4 [Y,Q]).own b=none:=λb h1 h2=>zig (by simp only [List.mem_cons,List.not_mem_nil,or_false,not_or];exact ⟨h1,h2⟩);have cb:=ax b6 m1 m2;have cf:=ax b7 m3 m4;have bX:=ax b8 m5 m6;have a6:(pickM M4 [Y,Q]).own Y=_:=(zaW (by simp)).trans (J.o.mem (Y,cnB (priA e n)) (by simp));have ci:(pickM M4 [Y,Q]).own Q=_:=(zaW (by simp)).trans al;unfold cnB at a6;have bG:(pickM M4 [Y,Q]).Less M4:=J.pick J [(Y,cnB (priA e n)),(Q,bxE)] (by simp);refine GWP.seq ?_;have p6:=J.o.mem (b6,nmB ByteArray.empty) (by simp);have p7:=J.o.mem (b7,cnB 0) (by simp);have p8:=J.o.mem (b8,bxE) (by simp)
  (unfold nmB at p6;unfold cnB at p7;unfold bxE at p8)
  refine GWP.drawS (pickM M4 [Y,Q]) zae [i0_,i1_,i2_,o3_,o4_,o5_] [] mixed (by kernel_rfl) ?_;refine r3_ ?_;refine zac rfl ?_;refine st_ p6 ?_;refine zad ⟨ny_,?_⟩;refine zac rfl ?_;refine st_ ((vg _ _ m7).trans p7) ?_;refine zad ⟨ny_,?_⟩;refine zac rfl ?_;refine st_ ((vg _ _ m9).trans ((vg _ _ m8).trans p8)) ?_;refine zad ⟨ny_,?_⟩;refine r2_ ?_;refine kG_ [0,6,7,8,9,10,11,12,14,97,104,109,16] ?_;refine GWP.ret ?_;refine ⟨_,(M4.set b6 (nmB s2)).set b7 (cnB (priA e n)),⟨_,_,_,rfl,.inl ⟨zaQ,rd_⟩,⟨_,_,_,rfl,.inl ⟨zbE,rd_⟩,⟨_,_,_,rfl,.inl ⟨zaV,rd_⟩,rfl,rfl⟩,rfl⟩,rfl⟩,zbm ((vg _ _ m9).trans ((vg _ _ m8).trans p8)),?_⟩;exact ⟨s2,out,rfl,c1,c2,λhm=>c3 (List.mem_cons_of_mem _ hm),o1,o2,((J.put [_,_,_,_,_,_,_,_] (nmB s2)).put [_,_,_,_,_,_,_] (cnB (priA e n))).tl.tl.tl.tl.tl.tl.tl.tl.tl.tl⟩
end
end Sto
end
section
open Go.RowKit Go.Shelf
open Mv Disk Num
namespace Sto
def rpC (q:Nat):Blk:=⟨97,[self q],1⟩
section
variable {g:Cx} {B:List (Nat × Blk)} {F:List Fl} {H:List Sh} {T:Mem} {n q:Nat} {fn ps s:tt} {L:List UInt8} {P:List (List Nat)}
theorem zrX (I:Op g B (flR ps 2 P :: F) H 0 T) (hi:Idle H) (hg:g.ll = []/\g.lc=0) (hE:errK g) (hf:flT fn L ∈ F) (aG:tld ps=true) (hn:L.length<=60) (ai:P.length=L.length) (ac:RowsOK 2 P) (aD:∀ k (h:k<P.length),P[k].getD 0 0=k) (ax:fn≠ps) (a7:F.length+H.length<=16) (hH:H.length<=3) :
  ACall prog 104 #[self g.k,.string fn,.string ps] T λv T'=>∃ s out,v = .tuple #[.string s,.nilIface]/\nm s/\tld s=true/\s ∉ nms F H/\out.Perm (rowsM L P L.length)/\SortedR out/\Op g B (flR s 2 out :: F) H 0 T':=by
 have aM:=I.gm;have aA:=zlL (L:=L) ac L.length vd;refine vI (args:=[self g.k,.string fn,.string ps]) (rs:=[.cell 6 9,.cell 7 52]) 120 [(0,self g.k),(1,.string fn),(2,.string ps)] func104 rfl rfl (Nat.le_of_ble_eq_true rfl) rfl ⟨rfl,rfl,rfl,trivial⟩ ?_;refine vj (rs:=[.cell 6 9,.cell 7 52]) rfl ?_;refine s1_ ?_;refine ARun.alloc (zab rfl) za7 ?_;intro b6 f6;have g6:=f6
 repeat ((with_reducible replace g6:=zaa g6);obtain ⟨g6,_⟩:=g6)
 refine nl_ ?_;refine ARun.alloc (zab rfl) za_ ?_;intro b7 f7;have g7:=f7
 repeat ((with_reducible replace g7:=zaa g7);obtain ⟨g7,_⟩:=g7)
 refine nl_ ?_;refine r2_ ?_;obtain ⟨T0,l0,I⟩:=((I.new f6 (nmB ByteArray.empty)).new f7 bxE).vl;refine AWPM.less T0 l0 ?_;refine vj (rs:=[.cell 6 9,.cell 7 52]) rfl ?_;refine r3_ ?_;have Q:=zii I (List.mem_cons_of_mem _ hf) vd (λh hh=>.inl (hi.w h hh));refine ca_ rfl (Q) ?_;rintro _ T1 ⟨r,rfl,I⟩;clear Q;refine r3_ ?_;refine ARun.alloc (zab rfl) zgU ?_;intro b8 f8;have g8:=f8
 repeat ((with_reducible replace g8:=zaa g8);obtain ⟨g8,_⟩:=g8)
 refine nl_ ?_;refine r4_ ?_;refine kM_ [0,1,2,6,7,8,9] ?_;obtain ⟨T2,l2,I⟩:=(I.new f8 (rpC r)).vl;refine AWPM.less T2 l2 ?_;refine vj (rs:=[.cell 6 9,.cell 7 52]) rfl ?_;refine r3_ ?_;refine rC (vh rfl rfl Er.neNil) ?_;refine r2_ ?_;refine cF_ ?_;refine r2_ ?_;refine vj (rs:=[.cell 6 9,.cell 7 52]) rfl ?_;refine r3_ ?_;have Q:=zcI (f:=flR ps 2 P) I (List.mem_cons_self ..) (show 1<=2 by decide) (show 2<=8 by decide) (by show P.length<=_;omega) (List.forall_mem_cons.2 ⟨.inr ax,λh hh=>.inl (hi.w h hh)⟩);refine ca_ rfl (Q) ?_;rintro _ T3 ⟨p,rfl,I⟩;clear Q;refine r7_ ?_;refine kM_ [0,1,2,6,7,8,9,29,10] ?_;refine vj (rs:=[.cell 6 9,.cell 7 52]) rfl ?_;refine r3_ ?_;refine rC (vh rfl rfl Er.neNil) ?_;refine r2_ ?_;refine cF_ ?_;obtain ⟨s,a1,a2,a3,aJ⟩:=zb4 I (by simp only [List.length_cons];omega);refine r2_ ?_;refine vj (rs:=[.cell 6 9,.cell 7 52]) rfl ?_;refine r2_ ?_;refine cp_ rfl (aJ) ?_;obtain ⟨f0,h0,oq⟩:=Op.rq [] I
 (unfold rdB at oq;dsimp only [flR] at oq;rw [ai] at oq)
 refine r3_ ?_;refine kM_ [0,1,2,6,7,8,9,29,10,38,11] ?_;refine vj (rs:=[.cell 6 9,.cell 7 52]) rfl ?_;refine r7_ ?_;have Q:=zde (s:=s) (w:=2) (c:=L.length) I a1 a2 a3 (by decide) vd (zdD (by decide) (by decide) hn) (by simp only [List.length_cons];omega);refine ca_ rfl (Q) ?_;rintro _ T4 ⟨q,rfl,I,_⟩;clear Q;refine r3_ ?_;refine ARun.alloc (zab rfl) zbo ?_;intro b12 ak;have X:=ak
 repeat ((with_reducible replace X:=zaa X);obtain ⟨X,_⟩:=X)
 refine nl_ ?_;refine r4_ ?_;refine kM_ [0,1,2,6,7,8,9,29,10,38,11,12] ?_;obtain ⟨T5,l5,I⟩:=(I.new ak (bxB q)).vl;refine AWPM.less T5 l5 ?_;refine vj (rs:=[.cell 6 9,.cell 7 52]) rfl ?_;refine r3_ ?_;refine rC (vh rfl rfl Er.neNil) ?_;refine r2_ ?_;refine cF_ ?_;refine r2_ ?_;refine vj (rs:=[.cell 6 9,.cell 7 52]) rfl ?_;refine s1_ ?_;refine ARun.alloc (zab rfl) zbn ?_;intro aV aj;have V:=aj
 repeat ((with_reducible replace V:=zaa V);obtain ⟨V,_⟩:=V)
 refine nl_ ?_;refine r3_ ?_;obtain ⟨T6,l6,I⟩:=(I.new aj (cnB 0)).vl;refine AWPM.less T6 l6 ?_;refine vO ?_;refine AWPM.seq ?_;refine r2_ ?_;refine ca_ rfl (zgx _ p) ?_;rintro _ S9 ⟨bq,rfl,fq,h9⟩;rw [h9];clear h9 S9;intro S0 w0 e' w1 aU aQ;refine wpIn_block ?_;refine zdg (N:=120) (p1:=57) bq 0 21 (λk=>wtR q s 2 (rowsM L P k) (Rec.needN 2 L.length) :: .rd r fn 0 L.length k L (decide (k=0)) :: H) (λk B'=>B'=(aV,cnB k) :: (bq,rpB p) :: (b12,bxB q) :: (b8,rpC r) :: (b7,bxE) :: (b6,nmB ByteArray.empty) :: B) [(0,_),(2,_),(6,_),(7,_),(8,_),(10,_),(11,_),(12,_),(13,_),(56,_)] [(0,_),(2,_),(6,_),(7,_),(8,_),(10,_),(11,_),(12,_)] (aQ.sub ⟨rfl,rfl,rfl,rfl,rfl,rfl,rfl,rfl,rfl,rfl,trivial⟩) rfl (zab rfl) (by decide) (by decide) (rows:=P) vd ac (by decide) (λ_=>by show H.length+2<=7;omega) (λ_ _ e=>by rw [e];simp) ⟨true,_,rfl,(I.new fq (rpB p)).perm (List.Perm.swap ..) (.refl _) (List.Perm.swap ..)⟩ aU ⟨rfl,rfl,rfl,rfl,rfl,rfl,rfl,rfl,trivial⟩ (rs:=[.cell 6 9,.cell 7 52]) (λ_ _ h=>h) rfl ?round ?done
 case round =>
  rintro l k gb _ M hk rfl J;have ad:k<L.length:=by omega
  obtain ⟨ay,aH⟩:=ac _ (List.getElem_mem hk);have al:=aD k hk;have am:=zm1 L P k;rw [gd hk,gd ad] at am;have aN:=zct L P k;generalize P[k]=ah at *;obtain ⟨x,y,rfl⟩ : ∃ x y,ah = [x,y]:=by
   rcases ah with _ | ⟨x,_ | ⟨y,_ | ⟨z,t⟩⟩⟩ <;> simp at ay
   exact ⟨x,y,rfl⟩
  have aI:k=x:=Eq.symm al;clear al;subst aI;have aR:y<Num.top:=aH y (by simp);have pg:M.own gb=some ⟨31,[nU k,nU y],2⟩:=J.o.1;have aK:=J.o.2.1;have aC:=J.o.mem (b12,bxB q) (by simp);have p8:=J.o.mem (b8,rpC r) (by simp);unfold cnB at aK;unfold bxB at aC;unfold rpC at p8;unfold nU at pg;refine GWP.region ?_;refine r3_ ?_;refine kG_ [57,0,2,6,7,8,10,11,12,13,14] ?_;refine GWP.block ?_;refine GWP.seq ?_;refine GWP.seq ?_;refine GWP.draw [i0_,i1_,i2_,i3_,i4_] [] mixed (by kernel_rfl) ?_;refine r7_ ?_;refine kG_ [57,0,2,6,7,8,10,11,12,13,14,62] ?_;refine GWP.condF rfl (by first|rfl|(simp;done)|(simp;omega)) ?_;refine GWP.skip ?_;refine s1_ ?_;refine GWP.seq ?_;refine GWP.region ?_;refine s1_ ?_;have Q:=zpx [_,_] J ad hn vd (by show H.length+2<=7;omega);refine ca_ rfl (Q) ?_;rintro _ M1 ⟨rfl,J⟩;clear Q;have az:L[k].toNat<256:=L[k].toNat_lt;generalize L[k].toNat=c at *;have qg:M1.own gb=some ⟨31,[nU k,nU y],2⟩:=J.o.1;have aa:=J.o.2.1;have Y:=J.o.mem (b12,bxB q) (by simp)
  (unfold cnB at aa;unfold bxB at Y;unfold nU at qg)
  refine r7_ ?_;refine kG_ [57,0,2,6,7,8,10,11,12,13,14,62,15] ?_;refine GWP.seq ?_;refine GWP.seq ?_;refine GWP.draw [i0_,i1_,i2_,i3_,i4_,i5_,o6_,o7_,o8_,i9_] [7,8] mixed (by kernel_rfl) ?_;refine r6_ ?_;refine zac rfl ?_;refine vD (cs:=[_,_]) (zab rfl) zaq rfl rfl rfl rfl ?_;intro bf an;have U:=an
  repeat ((with_reducible replace U:=zaa U);obtain ⟨U,_⟩:=U)
  have:=U.ne qg;have:=U.ne' qg
  have:=U.ne aa;have:=U.ne' aa
  have:=U.ne Y;have:=U.ne' Y
  refine zad ⟨ny_,?_⟩;refine zac rfl ?_;have Q:=zbT [_] [y,c] L.length J an rfl rfl (λz hz=>by simp only [List.mem_cons,List.not_mem_nil,or_false] at hz;rcases hz with rfl | rfl;exact aR;exact Nat.lt_of_lt_of_le az (by decide)) (by decide) (by decide) rfl (by rw [aN];exact ad) vd vd (by show H.length+2<=7;omega);refine ca_ rfl (Q) ?_;rintro _ M2 ⟨rfl,J⟩;clear Q;refine zad ⟨nz_,?_⟩;refine zac rfl ?_;refine cp_ rfl (zaj _ _) ?_;have ag:=J.o.2.1;unfold cnB at ag;refine zad ⟨nz_,?_⟩;refine r3_ ?_;refine kG_ [57,0,2,6,7,8,10,11,12,13,14,62,15,17] ?_;refine GWP.seq ?_;refine GWP.region ?_;refine s1_ ?_;refine rC (vh rfl rfl Er.neNil) ?_;refine r2_ ?_;refine kG_ [57,0,2,6,7,8,10,11,12,13,14,62,15,17,79] ?_;refine GWP.condF rfl (by first|rfl|(simp;done)|(simp;omega)) ?_;refine GWP.skip ?_;refine s1_ ?_;refine GWP.region ?_;refine r2_ ?_;refine st_ ag ?_;refine r2_ ?_;exact ⟨rfl,false,_,rfl,by rw [am,<- zaX,decide_eq_false (Nat.succ_ne_zero k)];exact (J.put [_] (cnB (k+1))).tl.mono vd⟩
 case done =>
  rintro D z0 _ M rfl J;rw [ai] at J;refine GWP.seq ?_;refine GWP.region ?_;refine s1_ ?_;have Q:=zbd [] J;refine ca_ rfl (Q) ?_;rintro _ M2 ⟨rfl,f,J⟩;clear Q;have o8:=J.o.mem (b8,rpC r) (by simp);unfold rpC at o8;refine r2_ ?_;refine kG_ [0,2,6,7,8,10,11,12] ?_;refine GWP.seq ?_;refine GWP.region ?_;refine s1_ ?_;have Q:=zbd [_] J;refine ca_ rfl (Q) ?_;rintro _ M3 ⟨rfl,f2,J⟩;clear Q;have oq:=J.o.2.1;have or:=J.o.1;have o8:=J.o.mem (b8,rpC r) (by simp);have aB:=J.o.mem (b12,bxB q) (by simp)
  (unfold rdB at oq or;dsimp only at oq or;unfold rpC at o8;unfold bxB at aB)
  refine r2_ ?_;refine kG_ [0,2,6,7,8,10,11,12] ?_;refine GWP.seq ?_;refine GWP.seq ?_;refine GWP.region ?_;refine r4_ ?_;refine cp_ rfl (zaj _ _) ?_;refine r3_ ?_;refine kG_ [0,2,6,7,8,10,11,12,18] ?_;refine GWP.seq ?_;refine GWP.region ?_;refine s1_ ?_;refine rC (vh rfl rfl Er.neNil) ?_;refine r2_ ?_;refine kG_ [0,2,6,7,8,10,11,12,18,93] ?_;refine GWP.condF rfl (by first|rfl|(simp;done)|(simp;omega)) ?_;refine GWP.skip ?_;refine s1_ ?_;refine GWP.seq ?_;refine GWP.seq ?_;refine GWP.region ?_;refine r4_ ?_;refine cp_ rfl (zaj _ _) ?_;refine r3_ ?_;refine kG_ [0,2,6,7,8,10,11,12,18,93,19] ?_;refine GWP.seq ?_;refine GWP.region ?_;refine s1_ ?_;refine rC (vh rfl rfl Er.neNil) ?_;refine r2_ ?_;refine kG_ [0,2,6,7,8,10,11,12,18,93,19,101] ?_;refine GWP.condF rfl (by first|rfl|(simp;done)|(simp;omega)) ?_;refine GWP.skip ?_;refine s1_ ?_;refine GWP.seq ?_;refine GWP.seq ?_;refine GWP.region ?_;refine s1_ ?_;have Q:=zbK [] J (c':=L.length) (by rw [if_neg (by decide),zct]) (by decide) rfl vd vd;refine ca_ rfl (Q) ?_;rintro _ M4 ⟨rfl,J⟩;clear Q;refine cp_ rfl (zaj _ _) ?_;refine r3_ ?_;refine kG_ [0,2,6,7,8,10,11,12,18,93,19,101,20] ?_;refine GWP.seq ?_;refine GWP.region ?_;refine s1_ ?_;refine rC (vh rfl rfl Er.neNil) ?_;refine r2_ ?_;refine kG_ [0,2,6,7,8,10,11,12,18,93,19,101,20,107] ?_;refine GWP.condF rfl (by first|rfl|(simp;done)|(simp;omega)) ?_;have aF:(⟨s,2,L.length,(rowsM L P L.length).flatMap recB⟩ : Fl)=flR s 2 (rowsM L P L.length):=by unfold flR;rw [zct]
  rw [aF] at J;refine GWP.skip ?_;refine s1_ ?_;refine GWP.seq ?_;refine GWP.seq ?_;refine GWP.region ?_;refine r2_ ?_;have Q:=zbL [_] J aG hi.w (by simp only [List.append_eq,List.nil_append,List.length_append,List.length_cons,List.length_nil];omega);refine ca_ rfl (Q) ?_;rintro _ M5 ⟨rfl,J⟩;clear Q;refine r3_ ?_;refine kG_ [0,2,6,7,8,10,11,12,18,93,19,101,20,107,21] ?_;refine GWP.seq ?_;refine GWP.region ?_;refine s1_ ?_;refine rC (vh rfl rfl Er.neNil) ?_;refine r2_ ?_;refine kG_ [0,2,6,7,8,10,11,12,18,93,19,101,20,107,21,113] ?_;refine GWP.condF rfl (by first|rfl|(simp;done)|(simp;omega)) ?_;obtain ⟨s2,c1,c2,c3,aO⟩:=zeo [] J hi hg hE a2 aA (by decide) (by decide) (by rw [zct];omega) (zdi aM.1 (by decide) (by decide) (by rw [zct];omega)) (by simp only [List.append_eq,List.nil_append,List.length_cons] at *;omega) hH;refine GWP.skip ?_;refine s1_ ?_;refine GWP.seq ?_;refine GWP.region ?_;refine r2_ ?_;refine ca_ rfl (aO) ?_;rintro _ M6 ⟨rfl,out,o1,o2,J⟩;have p6:=J.o.mem (b6,nmB ByteArray.empty) (by simp);have p7:=J.o.mem (b7,bxE) (by simp);have af:=zlE p7 p6 (by show ¬ 52=9;decide)
  (unfold nmB at p6;unfold bxE at p7)
  refine r2_ ?_;refine st_ p6 ?_;refine st_ ((vg _ _ af).trans p7) ?_;refine r2_ ?_;refine kG_ [0,2,6,7,8,10,11,12,18,93,19,101,20,107,21,113] ?_;refine GWP.ret ?_;refine ⟨_,M6.set b6 (nmB s2),⟨_,_,_,rfl,.inl ⟨zaQ,rd_⟩,⟨_,_,_,rfl,.inl ⟨zaV,rd_⟩,rfl,rfl⟩,rfl⟩,zbm ((vg _ _ af).trans p7),?_⟩;exact ⟨s2,out,rfl,c1,c2,λhm=>c3 (List.mem_cons_of_mem _ hm),o1,o2,(J.put [_,_,_,_,_,_,_] (nmB s2)).tl.tl.tl.tl.tl.tl.tl.tl⟩
theorem zkJ (I:Op g B (flR ps 2 P :: F) (.wt q s 0 0 [] (Rec.needN 0 P.length) :: H) 0 T) (hi:Idle H) (ak:tld ps=true) (hn:P.length<=60) (aa:RowsOK 2 P) (au:F.length+H.length<=16) (hH:H.length<=4) :
  ACall prog 105 #[self g.k,.string ps,self q] T λv T'=>v = .nilIface/\Op g B (flT s (byL P) :: F) H 0 T':=by
 have ac:(byL P).length=P.length:=List.length_map ..;refine vI (args:=[self g.k,.string ps,self q]) (rs:=[.cell 6 52]) 55 [(0,self g.k),(1,.string ps),(2,self q)] func105 rfl rfl (Nat.le_of_ble_eq_true rfl) rfl ⟨rfl,rfl,rfl,trivial⟩ ?_;refine vj (rs:=[.cell 6 52]) rfl ?_;refine s1_ ?_;refine vo (zab rfl) rfl rfl ?_;intro b5 f5;have g5:=f5
 repeat ((with_reducible replace g5:=zaa g5);obtain ⟨g5,_⟩:=g5)
 refine nl_ ?_;refine ARun.alloc (zab rfl) za_ ?_;intro b6 f6;have g6:=f6
 repeat ((with_reducible replace g6:=zaa g6);obtain ⟨g6,_⟩:=g6)
 refine nl_ ?_;refine r2_ ?_;obtain ⟨T0,l0,I⟩:=((I.new f5 (bxB q)).new f6 bxE).vl;refine AWPM.less T0 l0 ?_;refine vj (rs:=[.cell 6 52]) rfl ?_;refine r3_ ?_;have Q:=zcI (f:=flR ps 2 P) I (List.mem_cons_self ..) (show 1<=2 by decide) (show 2<=8 by decide) (by show P.length<=_;omega) (List.forall_mem_cons.2 ⟨.inl rfl,λh hh=>.inl (hi.w h hh)⟩);refine ca_ rfl (Q) ?_;rintro _ T1 ⟨p,rfl,I⟩;clear Q;refine r7_ ?_;refine kM_ [0,1,2,5,6,7,8] ?_;refine vj (rs:=[.cell 6 52]) rfl ?_;refine r3_ ?_;refine rC (vh rfl rfl Er.neNil) ?_;refine r2_ ?_;refine cF_ ?_;refine r2_ ?_;refine vO ?_;refine AWPM.seq ?_;refine r2_ ?_;refine ca_ rfl (zgx _ p) ?_;rintro _ S9 ⟨bq,rfl,fq,h9⟩;rw [h9];clear h9 S9;intro S0 w0 e' w1 al af;refine wpIn_block ?_;refine zdg (N:=55) (p1:=24) bq 0 11 (λk=>.wt q s 0 0 (byL (P.take k)) (Rec.needN 0 P.length) :: H) (λk B'=>B'=(bq,rpB p) :: (b6,bxE) :: (b5,bxB q) :: B) [(0,_),(1,_),(5,_),(6,_),(7,_),(23,_)] [(0,_),(1,_),(5,_),(6,_),(7,_)] (af.sub ⟨rfl,rfl,rfl,rfl,rfl,rfl,trivial⟩) rfl (zab rfl) (by decide) (by decide) (rows:=P) vd aa (by decide) (λ_=>by show H.length+1<=7;omega) (λ_ _ e=>by rw [e];simp) ⟨true,_,rfl,I.new fq (rpB p)⟩ al ⟨rfl,rfl,rfl,rfl,rfl,trivial⟩ (rs:=[.cell 6 52]) (λ_ _ h=>h) rfl ?round ?done
 case round =>
  rintro l k gb _ M hk rfl J;obtain ⟨ah,aB⟩:=aa _ (List.getElem_mem hk);have V:byL (P.take (k+1))=byL (P.take k) ++ [UInt8.ofNat (P[k].getD 1 0)]:=by unfold byL;rw [List.take_succ_eq_append_getElem hk,List.map_append];rfl
  have aj:(byL (P.take k)).length=k:=by unfold byL;rw [List.length_map,List.length_take];omega
  generalize P[k]=X at *;obtain ⟨x,y,rfl⟩ : ∃ x y,X = [x,y]:=by
   rcases X with _ | ⟨x,_ | ⟨y,_ | ⟨z,t⟩⟩⟩ <;> simp at ah
   exact ⟨x,y,rfl⟩
  replace V:byL (P.take (k+1))=byL (P.take k) ++ [UInt8.ofNat y]:=V;have pg:M.own gb=some ⟨31,[nU x,nU y],2⟩:=J.o.1;have p5:=J.o.mem (b5,bxB q) (by simp);unfold bxB at p5;unfold nU at pg;refine GWP.region ?_;refine r3_ ?_;refine kG_ [24,0,1,5,6,7,9] ?_;refine GWP.block ?_;refine GWP.seq ?_;refine GWP.draw [i0_,i1_,i2_,i3_,i4_,o5_,o6_,o7_,i8_] [6,7] mixed (by kernel_rfl) ?_;refine r4_ ?_;refine dC (hc:=Calm.conv rfl (zbx underlying31 underlying5 (zof y))) (h:=?_);refine zac rfl ?_;refine vk (zab rfl) zbp rfl rfl ?_;intro aD Y;have U:=Y
  repeat ((with_reducible replace U:=zaa U);obtain ⟨U,_⟩:=U)
  have:=U.ne pg;have:=U.ne' pg
  have:=U.ne p5;have:=U.ne' p5
  refine zad ⟨ny_,?_⟩;refine zac rfl ?_;have Q:=zv9 [_] (z:=UInt8.ofNat y) J Y P.length rfl (by rw [aj];exact hk) vd vd (by show H.length+1<=7;omega);refine ca_ rfl (Q) ?_;rintro _ M1 ⟨rfl,J⟩;clear Q;refine zad ⟨nz_,?_⟩;refine zac rfl ?_;refine cp_ rfl (zaj _ _) ?_;refine zad ⟨nz_,?_⟩;refine r3_ ?_;refine kG_ [24,0,1,5,6,7,9,10] ?_;refine GWP.seq ?_;refine GWP.region ?_;refine s1_ ?_;refine rC (vh rfl rfl Er.neNil) ?_;refine r2_ ?_;refine kG_ [24,0,1,5,6,7,9,10,34] ?_;refine GWP.condF rfl (by first|rfl|(simp;done)|(simp;omega)) ?_;refine GWP.skip ?_;refine s1_ ?_;exact ⟨rfl,false,_,rfl,by rw [V];exact J.tl.mono vd⟩
 case done =>
  rintro D z0 _ M rfl J;rw [List.take_length] at J;refine GWP.seq ?_;refine GWP.region ?_;refine s1_ ?_;have Q:=zbd [] J;refine ca_ rfl (Q) ?_;rintro _ M2 ⟨rfl,f,J⟩;clear Q;have oq:=J.o.1;have o5:=J.o.mem (b5,bxB q) (by simp)
  (unfold rdB at oq;dsimp only at oq;unfold bxB at o5)
  refine r2_ ?_;refine kG_ [0,1,5,6,7] ?_;refine GWP.seq ?_;refine GWP.seq ?_;refine GWP.region ?_;refine r4_ ?_;refine cp_ rfl (zaj _ _) ?_;refine r3_ ?_;refine kG_ [0,1,5,6,7,11] ?_;refine GWP.seq ?_;refine GWP.region ?_;refine s1_ ?_;refine rC (vh rfl rfl Er.neNil) ?_;refine r2_ ?_;refine kG_ [0,1,5,6,7,11,44] ?_;refine GWP.condF rfl (by first|rfl|(simp;done)|(simp;omega)) ?_;refine GWP.skip ?_;refine s1_ ?_;refine GWP.seq ?_;refine GWP.seq ?_;refine GWP.region ?_;refine s1_ ?_;have Q:=zbK [] J (c':=P.length) (by rw [if_pos rfl];exact ac.symm) (by decide) rfl vd vd;refine ca_ rfl (Q) ?_;rintro _ M3 ⟨rfl,J⟩;clear Q;refine cp_ rfl (zaj _ _) ?_;refine r3_ ?_;refine kG_ [0,1,5,6,7,11,44,12] ?_;refine GWP.seq ?_;refine GWP.region ?_;refine s1_ ?_;refine rC (vh rfl rfl Er.neNil) ?_;refine r2_ ?_;refine kG_ [0,1,5,6,7,11,44,12,50] ?_;refine GWP.condF rfl (by first|rfl|(simp;done)|(simp;omega)) ?_;refine GWP.skip ?_;refine s1_ ?_;refine GWP.seq ?_;refine GWP.region ?_;refine r2_ ?_;have Q:=zbL [_] J ak hi.w (by simp only [List.length_append,List.length_cons,List.length_nil];omega);refine ca_ rfl (Q) ?_;rintro _ M4 ⟨rfl,J⟩;clear Q;have p6:=J.o.mem (b6,bxE) (by simp);unfold bxE at p6;refine st_ p6 ?_;refine r2_ ?_;refine kG_ [0,1,5,6,7,11,44,12,50] ?_;refine GWP.ret ?_;refine ⟨_,M4,⟨_,_,_,rfl,.inl ⟨zaV,rd_⟩,rfl,rfl⟩,(by rw [vB _ _ _ p6];exact Mem.Less.refl _),?_⟩;exact ⟨rfl,by unfold flT;rw [ac];exact J.tl.tl.tl.tl⟩
end
end Sto
end
section
open Go.RowKit Go.Shelf
open Mv Disk Num
namespace Sto
section
variable {g:Cx} {B B0:List (Nat × Blk)} {F:List Fl} {H:List Sh} {T S:Mem} {q m bw bt:Nat} {fn en s:tt} {L:List UInt8} {e:List Nat} {f:tA} {caps:List tu} {d:D} {v:tu}
theorem zpz (I:Op g B F (.wt q s 0 0 [] (Rec.needN 0 L.length) :: H) 0 T) (hi:Idle H) (hg:g.ll = []/\g.lc=0) (hE:errK g) (hf:flT fn L ∈ F) (aa:flR en 1 (oneL e) ∈ F) (Y:L.length<=60) (V:e.Perm (List.range L.length)) (ah:F.length+H.length<=14) (hH:H.length<=2) :
  ACall prog 57 #[self g.k,.string fn,.string en,.int .u64 (L.length:Nat),self q] T λv T'=>∃ (pr:Nat) (Q:List UInt8),v = .tuple #[.int .u64 pr,.nilIface]/\TurnR L e pr Q/\Op g B (flT s Q :: F) H 0 T':=by
 refine k_E5 42 func57 ?_;refine r11_ ?_;have J:=zrW I (Idle.cons hi) hg hE aa Y V (by simp only [List.length_cons];omega) (show H.length+1<=3 by omega);refine ca_ rfl (J) ?_;rintro _ T1 ⟨s1,P,rfl,a1,a2,a3,U,X,I⟩;clear J;have af:P.length=L.length:=by rw [U.length_eq,zeM V]
 have ac:fn≠s1:=λq=>a3 (by rw [<- q];exact List.mem_append_left _ (List.mem_map_of_mem (f:=Fl.n) hf));refine r13_ ?_;refine rC (vh rfl rfl Er.neNil) ?_;refine r2_ ?_;refine cF_ ?_;refine r7_ ?_;have J:=zrX I (Idle.cons hi) hg hE hf a2 Y af (zdE U (zfP Y V _ (Nat.le_refl _))) (λk h=>zhR V U X h) ac (by simp only [List.length_cons];omega) (show H.length+1<=3 by omega);refine ca_ rfl (J) ?_;rintro _ T2 ⟨s2,M,rfl,b1,b2,b3,hM,ae,I⟩;clear J;have ad:M.length=L.length:=by rw [hM.length_eq,zct]
 refine r11_ ?_;refine rC (vh rfl rfl Er.neNil) ?_;refine r2_ ?_;refine cF_ ?_;rw [<- ad] at I;refine r8_ ?_;have J:=zkJ I hi b2 vd (zdE hM (zlL (zdE U (zfP Y V _ (Nat.le_refl _))) _ vd)) vd vd;refine ca_ rfl (J) ?_;rintro _ T3 ⟨rfl,I⟩;clear J;refine r4_ ?_;refine kw_ [0,1,2,3,4,10,11,12,13,14,25,15,35] ?_;refine s1_ ?_;refine ⟨_,T3,⟨_,_,rfl,⟨_,_,rfl,rfl,rfl⟩,rfl⟩,zae,?_⟩;exact ⟨_,_,rfl,⟨P,M,U,X,hM,ae,rfl,rfl⟩,I⟩
theorem zpA {c:Nat} (hc:c<=60):Rec.needN 0 c<=40:=by unfold Rec.needN Rec.eachN;rw [if_pos rfl];omega
theorem zkK (I:Op g B F [] 0 T) (hg:g.ll = []/\g.lc=0) (hE:errK g) (hf:flT fn L ∈ F) (V:flR en 1 (oneL e) ∈ F) (aa:fn≠en) (U:Opn g B0 f caps s) (af:∀ y ∈ B0,y ∈ B) (ag:s ∉ nms F []) (hn:L.length<=60) (he:e.Perm (List.range L.length)) (X:F.length<=14) :
  ACall prog 23 #[self g.k,.string fn,.string en,.func (.func f) #[] caps.toArray] T λv T'=>∃ (Y:Nat) (Q:List UInt8),v = .tuple #[.int .u64 Y,.nilIface]/\TurnR L e Y Q/\Op g B (flT s Q :: F) [] 0 T':=by
 have ac:e.length=L.length:=by rw [he.length_eq,List.length_range]
 refine k_E4 65 func23 ?_;refine r10_ ?_;have J:=zii I hf vd (λh hh=>(by cases hh));refine ca_ rfl (J) ?_;rintro _ T1 ⟨r,rfl,I⟩;clear J;refine r11_ ?_;refine rC (vh rfl rfl Er.neNil) ?_;refine r2_ ?_;refine cF_ ?_;refine r6_ ?_;have J:=zdf I V rfl (by show (oneL e).length<=_;rw [zag];omega) (λh hh=>by rw [List.mem_singleton.1 hh];exact .inr aa);refine ca_ rfl (J) ?_;rintro _ T2 ⟨p,rfl,I⟩;clear J;refine r11_ ?_;refine rC (vh rfl rfl Er.neNil) ?_;refine r2_ ?_;refine cF_ ?_;obtain ⟨f0,h0,oq⟩:=Op.rq [_] I
 (unfold rdB at oq;dsimp only at oq)
 obtain ⟨ae,U⟩:=U (F:=F) (H:=[.rd p en 1 (oneL e).length 0 ((oneL e).flatMap recB) true,.rd r fn 0 L.length 0 L true]) (w:=0) (c:=L.length) ag (by decide) vd (zpA hn) (by simp only [List.length_cons,List.length_nil];omega);refine r9_ ?_;refine vn (zab rfl) ae rfl rfl (U af I) ?_;rintro _ T3 ⟨q,rfl,I⟩;refine r7_ ?_;refine kw_ [0,1,2,3,8,9,10,11,21,12,30,13] ?_;refine r4_ ?_;refine rC (vh rfl rfl Er.neNil) ?_;refine r2_ ?_;refine cF_ ?_;obtain ⟨f1,I⟩:=zdx [_] I;obtain ⟨f2,I⟩:=zdx [_] I;have o1:=I.o.1;have o2:=I.o.2.1
 (unfold rdB at o1 o2;dsimp only at o1 o2;rw [zag,ac] at o2)
 refine r4_ ?_;refine dr_ [i0_,i1_,i2_,i3_,i4_,i5_,i6_,i7_,i8_] [] ?_;refine r11_ ?_;refine cF_ ?_;refine r12_ ?_;have J:=zpz (H:=[]) I Idle.nil hg hE hf V hn he (by simpa using X) (by decide);refine ca_ rfl (J) ?_;rintro _ T4 ⟨Y,Q,rfl,ht,I⟩;clear J;refine r7_ ?_;refine ⟨_,T4,⟨_,_,rfl,⟨_,_,rfl,rfl,rfl⟩,rfl⟩,zae,?_⟩;exact ⟨Y,Q,rfl,ht,I.tl.tl⟩
theorem zpB (n:Nat) (I:Op g B F [] 0 T) :
  ACall prog 25 #[self g.k,.int .u64 n,.nilIface] T λr T'=>∃ dv c1 c2 c3 d,r = .tuple #[dv,.int .u64 n,.agg #[.int .u64 c1,.int .u64 c2,.int .i64 c3],.int .i64 0]/\DkR T' dv d/\DkF d F/\T'.ro=g.ro:=by
 refine k_E3 26 func25 ?_;refine r2_ ?_;refine ARun.alloc (zab rfl) zas ?_;intro b6 f6;have V:=f6
 repeat ((with_reducible replace V:=zaa V);obtain ⟨V,_⟩:=V)
 refine nl_ ?_;refine s1_ ?_;refine ARun.alloc (zab rfl) zaR ?_;intro b8 f8;have U:=f8
 repeat ((with_reducible replace U:=zaa U);obtain ⟨U,_⟩:=U)
 refine nl_ ?_;refine r3_ ?_;have af:=I.off f6;have ah:=(I.new f6 zD).off f8;refine r4_ ?_;have X:=zjm ((I.new f6 zD).new f8 zC) ah af zo8;refine ca_ rfl (X) ?_;rintro _ T1 ⟨M,⟨dv,c1,c2,c3,d,rfl,Y,aj,hM⟩,V,U,hT⟩;clear X;obtain ⟨pe,ce,pw,cw,rfl,_,_⟩:=id Y;subst hT;obtain ⟨q8,au⟩:=zaa U;have ay:M.Less ((M.set b6 zD).set b8 zC):=(vi _ _ _ V.1).trans (vi _ _ _ U.1);refine r4_ ?_;refine ARun.alloc (zab rfl) zas ?_;intro ak ag;have J:=ag
 repeat ((with_reducible replace J:=zaa J);obtain ⟨J,_⟩:=J)
 refine nl_ ?_;refine ARun.alloc (zab rfl) zaR ?_;intro b11 al;have Q:=al
 repeat ((with_reducible replace Q:=zaa Q);obtain ⟨Q,_⟩:=Q)
 refine nl_ ?_;refine r12_ ?_;refine cF_ ?_;refine r3_ ?_;refine AWP.drawS ((M.set ak ⟨26,[.int .i64 d.size,.slice pe d.ext.length ce,.slice pw d.waits.length cw,.int .i64 d.fuse,.bool d.down],5⟩).set b11 ⟨33,[.int .u64 c1,.int .u64 c2,.int .i64 c3],3⟩) zae [i0_,i1_,i2_,i3_,o4_,i5_,o6_,i7_] [] mixed (by kernel_rfl) ?_;refine r4_ ?_;refine zac rfl ?_;refine s1_ ?_;refine zad ⟨ny_,?_⟩;refine s1_ ?_;refine zac rfl ?_;refine s1_ ?_;refine zad ⟨ny_,?_⟩;refine r4_ ?_;refine ⟨_,_,⟨_,_,_,rfl,.inr ⟨zat,[_,_,_,_,_],zal,rds_,rfl⟩,⟨_,_,rfl,⟨_,_,_,rfl,.inr ⟨zcq,[_,_,_],zaY,rds_,rfl⟩,⟨_,_,rfl,rfl,rfl⟩,rfl⟩,rfl⟩,rfl⟩,Mem.Less.refl _,?_⟩;exact ⟨_,c1,c2,c3,d,rfl,Y.less zae,aj,hM⟩
theorem zwR (hs:nm s) (X:tld s=false):Opn g [(bw,wpB g.k),(bt,nmB s)] 24 [.pointer (some ⟨bw,0,none⟩),.pointer (some ⟨bt,0,none⟩)] s:=λ{F H w c} Y U hc hk hl=>by
 refine ⟨rfl,λ{B n T} Q I=>?_⟩;have o1:=I.o.mem _ (Q _ (List.mem_cons_self ..));have o2:=I.o.mem _ (Q (bt,nmB s) (by simp));unfold wpB at o1;unfold nmB at o2;refine k_E4 15 func24 ?_;refine r12_ ?_;have J:=zrz I hs X Y U hc hk hl;refine ca_ rfl (J) ?_;rintro _ V ⟨q,rfl,I,_⟩;clear J;refine r7_ ?_;refine ⟨_,V,⟨_,_,rfl,⟨_,_,rfl,rfl,rfl⟩,rfl⟩,zae,?_⟩;exact ⟨q,rfl,I⟩
theorem zuB (an:DkR S v d) (hE:∃ eu ev,(memR S.ro).Knows ⟨2,0,none⟩ [.iface eu ev]) (hd:DkF d F) (aG:24<=m) (aE:m<=256) (ht:∀ f ∈ F,tld f.n=false) (hf:flT fn L ∈ F) (ax:flR en 1 (oneL e) ∈ F) (az:fn≠en) (hs:nm s) (aC:tld s=false) (ao:s ∉ F.map (·.n)) (hn:L.length<=60) (he:e.Perm (List.range L.length)) (ak:F.length<=14) :
  ACall prog 9 #[v,.int .i64 (m:Nat),.string fn,.string en,.string s] S λr T=>∃ dv,∃ pr:Nat,∃ c1 c2 c3 d' V,r = .tuple #[dv,.int .u64 pr,.agg #[.int .u64 c1,.int .u64 c2,.int .i64 c3],.int .i64 0]/\TurnR L e pr V/\DkR T dv d'/\DkF d' (flT s V :: F)/\T.ro=S.ro:=by
 have hb:=λ{M:Mem} {B:List (Nat × Blk)} (h:S.Less M)=>zfO (B:=B) (an.less h) hd aG aE ht;obtain ⟨pe,ce,pw,cw,rfl,_,_⟩:=id an;rw [<- zdh] at ao;refine k_E5 41 func9 ?_;refine r2_ ?_;refine k_b5 rfl ?_;intro b5 f5;have g5:=f5
 repeat ((with_reducible replace g5:=zaa g5);obtain ⟨g5,_⟩:=g5)
 refine nl_ ?_;refine vo (zab rfl) rfl rfl ?_;intro b9 f9;have g9:=f9
 repeat ((with_reducible replace g9:=zaa g9);obtain ⟨g9,_⟩:=g9)
 refine nl_ ?_;refine ARun.alloc (zab rfl) zas ?_;intro ad Y;have aa:=Y
 repeat ((with_reducible replace aa:=zaa aa);obtain ⟨aa,_⟩:=aa)
 refine nl_ ?_;refine s1_ ?_;refine ARun.alloc (zab rfl) zaR ?_;intro b12 U;have X:=U
 repeat ((with_reducible replace X:=zaa X);obtain ⟨X,_⟩:=X)
 refine nl_ ?_;refine r3_ ?_;have aF:S.Less ((((S.set b5 ⟨26,[.int .i64 d.size,.slice pe d.ext.length ce,.slice pw d.waits.length cw,.int .i64 d.fuse,.bool d.down],5⟩).set b9 (nmB s)).set ad zD).set b12 zC):=(((vi _ _ _ f5.1).trans (vi _ _ _ f9.1)).trans (vi _ _ _ Y.1)).trans (vi _ _ _ U.1);have n1:=(zaa U).2;have n2:=(zaa (zaa U).1).2;have n3:=(zaa Y).2;refine r4_ ?_;have J:=hb (B:=[(b12,zC),(ad,zD),(b9,nmB s)]) aF (by simp only [List.mem_cons,List.not_mem_nil,or_false];rintro y (rfl | rfl | rfl);exact vf _ _ _;exact (vg _ _ (Ne.symm n1)).trans (vf _ _ _);exact (vg _ _ (Ne.symm n2)).trans ((vg _ _ (Ne.symm n3)).trans (vf _ _ _))) (by simp [n1,n2,n3]);refine ca_ rfl (J) ?_;rintro _ T1 ⟨g,rfl,Q,hg,I⟩;clear J;have Q:g.ro=S.ro:=Q;have ay:offR g ad:=λa v h=>Y.2 a v (by rw [Q] at h;exact h);have aL:offR g b12:=λa v h=>U.2 a v (by rw [Q] at h;exact h);refine r3_ ?_;refine ARun.alloc (zab rfl) zdK ?_;intro ag ah;have ac:=ah
 repeat ((with_reducible replace ac:=zaa ac);obtain ⟨ac,_⟩:=ac)
 refine nl_ ?_;refine r4_ ?_;obtain ⟨T2,l2,I⟩:=(I.new ah (wpB g.k)).vl;refine AWP.less T2 l2 ?_;refine r9_ ?_;refine rC (vh rfl rfl Er.eqNil) ?_;refine r2_ ?_;refine cT_ ?_;have ae:=I.o.1;unfold wpB at ae;refine r5_ ?_;have J:=zkK (f:=24) (caps:=[.pointer (some ⟨ag,0,none⟩),.pointer (some ⟨b9,0,none⟩)]) (B0:=[(ag,wpB g.k),(b9,nmB s)]) (s:=s) (fn:=fn) (en:=en) (L:=L) (e:=e) I hg (by unfold errK;rw [Q];exact hE) hf ax az (zwR hs aC) (by simp) ao hn he ak;refine ca_ rfl (J) ?_;rintro _ T3 ⟨pr,V,rfl,aM,I⟩;clear J;have ae:=I.o.1;unfold wpB at ae;have I2:=I.perm (B':=(b12,zC) :: (ad,zD) :: [(ag,wpB g.k),(b9,nmB s)]) ((List.Perm.swap ..).trans ((List.Perm.swap ..).cons _)) (.refl _) (.refl _);refine r12_ ?_;have J:=zjm I2 aL ay (zpB pr);refine ca_ rfl (J) ?_;rintro _ T4 ⟨M,⟨dv,c1,c2,c3,d',rfl,aj,aI,hM⟩,g8,g9,aJ⟩;clear J;obtain ⟨aD,aB,aA,aK,rfl,_,_⟩:=id aj;subst aJ;have ai:=(zaa g9).2;refine r4_ ?_;refine vF (cs:=[.int .i64 d'.size,.slice aD d'.ext.length aB,.slice aA d'.waits.length aK,.int .i64 d'.fuse,.bool d'.down]) rfl rfl zal ((vg _ _ (Ne.symm ai)).trans (vf _ _ _)) rfl rfl ?_;refine nm_ ?_;refine s1_ ?_;refine vF (cs:=[.int .u64 c1,.int .u64 c2,.int .i64 c3]) rfl rfl zaY ((vg _ _ ai).trans (vf _ _ _)) rfl rfl ?_;refine nm_ ?_;refine r4_ ?_;refine ⟨_,M,⟨_,_,_,rfl,.inr ⟨zat,[_,_,_,_,_],zal,rds_,rfl⟩,⟨_,_,rfl,⟨_,_,_,rfl,.inr ⟨zcq,[_,_,_],zaY,rds_,rfl⟩,⟨_,_,rfl,rfl,rfl⟩,rfl⟩,rfl⟩,rfl⟩,zfS g8 g9,?_⟩;exact ⟨_,pr,c1,c2,c3,d',V,rfl,aM,aj,aI,hM.trans Q⟩
end
end Sto
end
section
open Go.RowKit
open Mv Disk Num
namespace Top
open Rec Sto Run
def nL:tt:=⟨#[108]⟩
def nE:tt:=⟨#[101]⟩
def nC:tt:=⟨#[99]⟩
def nF:tt:=⟨#[102]⟩
theorem zuC {text:tt} (h:text.size<=60):∃ z,writeTextP (freshD 1500) nA text=(z,0)/\DkF z [flT nA text.data.toList]:=by
 have hd:Dw (freshD 1500) 0:=⟨zeg (by decide) (by decide),rfl,rfl,Nat.le_refl _⟩;have hn:=zpA h;have I:text.size=eachN 0*text.size:=by unfold eachN;rw [if_pos rfl,Nat.one_mul]
 obtain ⟨z,z1,z2,Y,z4,Q⟩:=zv5 (s:=nA) (w:=0) (c:=text.size) (body:=text) hd (by decide) rfl (by show ((0:Nat):Int)+_<=(1500:Int);omega) I vd;have J:writeTextP (freshD 1500) nA text=(z,0):=by
  unfold writeTextP;rw [if_neg vd,zdt (zeg (by decide) (by decide)) rfl,z1]
 obtain ⟨X,U,_,_,_,_,_,V,_⟩:=zqR (d:=freshD 1500) (s:=nA) (text:=text) (by show (-1:Int)<=_;decide) (by rw [J]);rw [J] at U;obtain rfl:z=X:=congrArg Prod.fst U;have hl:text.data.toList.length=text.size:=Array.length_toList;refine ⟨z,J,z2,Y,λs=>?_,λf hf=>?_,by simp,λs=>?_⟩
 ·rw [Q];split
  ·exact hn
  exact Nat.zero_le _
 ·rw [List.mem_singleton.1 hf];refine ⟨?_,by show text.data.toList.length=eachN 0*text.data.toList.length;unfold eachN;rw [if_pos rfl,Nat.one_mul]⟩;show FileR z nA 0 text.data.toList.length (bs text.data.toList);rw [bs_of,hl];exact V
 rw [Q];show _ <-> s ∈ [nA];rw [List.mem_singleton];by_cases e:nA=s
 ·rw [if_pos e];exact ⟨λ_=>e.symm,λ_=>zbl _ _⟩
 rw [if_neg e];exact ⟨λh=>absurd h (Nat.lt_irrefl 0),λh=>absurd h.symm e⟩
theorem zwj {d:D} {F:List Fl} {s:tt} {L:List UInt8} (h:DkF d F) (hm:flT s L ∈ F) (hl:L.length<=60):readTP d s=(bs L,0):=by
 have I:=(h.fs _ hm).1;refine zox (by rw [bs_size];omega) ?_;rw [bs_size];exact I
end Top
end
section
open Go.RowKit Go.Shelf
open Mv Disk Num
namespace Sto
open Skew (numP plc)
theorem zhw {n:Nat} {e:List Nat} {R:List (List Nat)} (V:e.Perm (List.range (numP n))) (U:R.Perm (rowsP n e e.length)) (hs:SortedR R):AscR R:=by
 have hl:e.length=numP n:=by rw [V.length_eq,List.length_range]
 have X:(R.map λr=>r.getD 0 0).Nodup:=by
  refine (U.map _).nodup_iff.2 ?_;unfold rowsP;rw [List.map_map,List.nodup_iff_pairwise_ne,List.pairwise_map,List.pairwise_iff_getElem];intro i j hi Q aa h;simp only [List.getElem_range] at h;rw [List.length_range] at hi Q;have J:∀ {k:Nat},k<e.length->e.getD k 0<numP n:=λ{k} hk=>by
   rw [List.getD_eq_getElem?_getD,List.getElem?_eq_getElem hk];exact List.mem_range.1 (V.mem_iff.1 (List.getElem_mem hk))
  have I:=Skew.zh9 n _ _ (J hi) (J Q) h;rw [List.getD_eq_getElem?_getD,List.getD_eq_getElem?_getD,List.getElem?_eq_getElem hi,List.getElem?_eq_getElem Q] at I;have:=(List.getElem_inj (V.nodup_iff.2 List.nodup_range)).1 I;omega
 rw [List.nodup_iff_pairwise_ne,List.pairwise_map] at X;refine (X.and hs).imp_of_mem λ{x y} J hy ⟨I,Y⟩=>?_;obtain ⟨i,_,rfl⟩:=List.mem_map.1 (U.mem_iff.1 J);obtain ⟨j,_,rfl⟩:=List.mem_map.1 (U.mem_iff.1 hy);replace I:plc n (e.getD i 0)≠plc n (e.getD j 0):=I;show plc n (e.getD i 0)<plc n (e.getD j 0);simp only [lessB,Bool.or_eq_false_iff,decide_eq_false_iff_not] at Y;omega
theorem zrY {l:List Nat} {R:List (List Nat)} (hl:∀ z ∈ l,z<Num.top) (J:RowsOK 2 R) {k:Nat} (hk:k<=1000):RowsOK 6 (rowsS l R k)/\RowsOK 5 (rowsZ l R k):=by
 constructor
 ·intro r I;obtain ⟨i,hi,rfl⟩:=List.mem_map.1 I;have:=List.mem_range.1 (List.mem_filter.1 hi).1;exact ⟨rfl,(zkI hl J vd).2⟩
 intro r I;obtain ⟨i,hi,rfl⟩:=List.mem_map.1 I;have:=List.mem_range.1 (List.mem_filter.1 hi).1;exact ⟨rfl,(zkI hl J vd).1⟩
def Expd (l e:List Nat) (n:Nat) (o:List Nat):Prop:=∃ R S Z,R.Perm (rowsP n e e.length)/\SortedR R/\S.Perm (rowsS l R n)/\SortedR S/\Z.Perm (rowsZ l R n)/\SortedR Z/\o=brd S Z
section
variable {g:Cx} {B:List (Nat × Blk)} {F:List Fl} {H:List Sh} {qo n lw:Nat} {fn en so:tt} {l e:List Nat} {T:Mem}
theorem zjw (I:Op g B F (wtR qo so 1 [] (Rec.needN 1 n) :: H) 0 T) (hi:Idle H) (hg:g.ll = []/\g.lc=0) (hE:errK g) (U:(lw,lwB g.k) ∈ B) (hf:flR fn 1 (oneL l) ∈ F) (aq:flR en 1 (oneL e) ∈ F) (hn:l.length=n) (hl:∀ z ∈ l,1<=z/\z<Num.top) (he:e.Perm (List.range (numP n))) (V:n<=60) (aF:F.length+H.length<=14) (hH:H.length<=2) :
  ACall prog 101 #[self lw,.string fn,.string en,.int .u64 (n:Nat),self qo] T λv T'=>v = .nilIface /\ ∃ o,Expd l e n o/\Op g B (flR so 1 (oneL o) :: F) H 0 T':=by
 have Q:Idle (wtR qo so 1 [] (Rec.needN 1 n) :: H):=Idle.cons hi;have af:=I.gm;have aQ:(wtR qo so 1 [] (Rec.needN 1 n) :: H).length=H.length+1:=rfl;generalize ai:wtR qo so 1 [] (Rec.needN 1 n) :: H=H0 at *;have aC:∀ z ∈ l,z<Num.top:=λz hz=>(hl z hz).2;have am:∀ w k,1<=w->w<=6->k<=60->Rec.needN w k<=40:=λw k h1 h2 h3=>zdD h1 h2 h3;refine k_E5 114 func101 ?_;refine r10_ ?_;have J:=zpv I Q hg hE U aq V he vd vd;refine ca_ rfl (J) ?_;rintro _ T1 ⟨s1,R,rfl,a1,a2,a3,X,ah,I⟩;clear J;have ay:R.length<=60:=by
  rw [X.length_eq,zcY,he.length_eq,List.length_range,<- Skew.zbD];unfold Skew.needS Skew.firstsN;split <;> omega
 have aj:RowsOK 2 R:=zdE X (zl5 V he);have av:=zhw he X ah;obtain ⟨ae,ak⟩:=zrY (k:=n) aC aj vd;obtain ⟨aA,aw⟩:=zgI l R n;have al:fn≠s1:=λq=>a3 (by rw [<- q];exact List.mem_append_left _ (List.mem_map_of_mem (f:=Fl.n) hf));refine r11_ ?_;refine rC (vh rfl rfl Er.neNil) ?_;refine r2_ ?_;refine cF_ ?_;obtain ⟨s2,b1,b2,b3,an⟩:=zih (w:=6) (c:=n-(n+2) / 3) (lw:=lw) I U (by decide) vd (am _ _ (by decide) (by decide) vd) (by simp only [List.length_cons];omega);rw [show ((n-(n+2) / 3:Nat):Int)=(n:Int)-((n:Int)+2) / 3 from by omega] at an;refine r16_ ?_;refine ca_ rfl (an) ?_;rintro _ T2 ⟨q2,rfl,I⟩;refine r13_ ?_;refine rC (vh rfl rfl Er.neNil) ?_;refine r2_ ?_;refine kw_ [0,1,2,3,4,10,11,12,26,13,14,15,41] ?_;refine cF_ ?_;obtain ⟨s3,c1,c2,c3,ag⟩:=zih (w:=5) (c:=(n+2) / 3) (lw:=lw) I U (by decide) vd (am _ _ (by decide) (by decide) vd) (by simp only [List.length_cons];omega);refine r6_ ?_;refine ca_ rfl (ag) ?_;rintro _ T3 ⟨q3,rfl,I⟩;replace I:Op g B (flR s1 2 R :: F) (wtR q2 s2 6 [] (Rec.needN 6 (n-(n+2) / 3)) :: wtR q3 s3 5 [] (Rec.needN 5 ((n+2) / 3)) :: H0) 0 T3:=I.perm (.refl _) (.refl _) (List.Perm.swap ..);refine r13_ ?_;refine rC (vh rfl rfl Er.neNil) ?_;refine r2_ ?_;refine cF_ ?_;refine r11_ ?_;have J:=zrT I U (List.mem_cons_of_mem _ hf) (List.mem_cons_self ..) al Q.w hn hl aj av V ay vd;refine ca_ rfl (J) ?_;rintro _ T4 ⟨rfl,I⟩;clear J;have ow:=I.o.mem _ U;unfold lwB at ow;refine r6_ ?_;refine rC (vh rfl rfl Er.eqNil) ?_;refine r2_ ?_;refine cT_ ?_;refine r6_ ?_;have J:=zbL [_,_] I a2 Q.w (by simp only [List.length_append,List.length_cons,List.length_nil];omega);refine ca_ rfl (J) ?_;rintro _ T5 ⟨rfl,I⟩;clear J;have ow:=I.o.mem _ U;unfold lwB at ow;obtain ⟨s4,d1,d2,d3,aB⟩:=zeo [_] I Q hg hE b2 ae (by decide) (by decide) vd (zdi af.1 (by decide) (by decide) vd) (by simp only [List.append_eq,List.length_append,List.length_cons,List.length_nil];omega) vd;refine r3_ ?_;refine kw_ [0,1,2,3,4,10,11,12,26,13,14,15,41,16,17,51,61] ?_;refine r4_ ?_;refine rC (vh rfl rfl Er.eqNil) ?_;refine r2_ ?_;refine cT_ ?_;refine r6_ ?_;refine ca_ rfl (aB) ?_;rintro _ T6 ⟨rfl,S,aa,aD,I⟩;have ow:=I.o.mem _ U;unfold lwB at ow;obtain ⟨s5,e1,e2,e3,ad⟩:=zeo [_] I Q hg hE c2 ak (by decide) (by decide) vd (zdi af.1 (by decide) (by decide) vd) (by simp only [List.append_eq,List.length_append,List.length_cons,List.length_nil,List.nil_append];omega) vd;refine r11_ ?_;refine rC (vh rfl rfl Er.eqNil) ?_;refine r2_ ?_;refine cT_ ?_;refine r6_ ?_;refine ca_ rfl (ad) ?_;rintro _ T7 ⟨rfl,Z,Y,au,I⟩;have ac:s4≠s5:=λq=>e3 (by rw [<- q];exact List.mem_append_left _ (List.mem_map_of_mem (f:=Fl.n) (List.mem_cons_self ..)));rw [<- ai] at I;refine r11_ ?_;refine rC (vh rfl rfl Er.eqNil) ?_;refine r2_ ?_;refine kw_ [0,1,2,3,4,10,11,12,26,13,14,15,41,16,17,51,61,69,80,91] ?_;refine cT_ ?_;refine r5_ ?_;have J:=zrU (tot:=n) I U (List.mem_cons_of_mem _ (List.mem_cons_self ..)) (List.mem_cons_self ..) ac hi.w (zdE aa ae) (zdE Y ak) (by rw [aa.length_eq,Y.length_eq,aA,aw];omega) V vd;refine ca_ rfl (J) ?_;rintro _ T8 ⟨rfl,I⟩;clear J;have ow:=I.o.mem _ U;unfold lwB at ow;refine r7_ ?_;refine rC (vh rfl rfl Er.eqNil) ?_;refine r2_ ?_;refine cT_ ?_;refine r6_ ?_;have J:=zbL [_,_] I d2 hi.w (by simp only [List.append_eq,List.length_append,List.length_cons,List.length_nil,List.nil_append];omega);refine ca_ rfl (J) ?_;rintro _ T9 ⟨rfl,I⟩;clear J;have ow:=I.o.mem _ U;unfold lwB at ow;refine r7_ ?_;refine rC (vh rfl rfl Er.neNil) ?_;refine r2_ ?_;refine cF_ ?_;refine r9_ ?_;have J:=zbL [_] I e2 hi.w (by simp only [List.append_eq,List.length_append,List.length_cons,List.length_nil,List.nil_append];omega);refine ca_ rfl (J) ?_;rintro _ ax ⟨rfl,I⟩;clear J;refine r3_ ?_;refine kw_ [0,1,2,3,4,10,11,12,26,13,14,15,41,16,17,51,61,69,80,91,98,106] ?_;refine s1_ ?_;refine ⟨_,ax,⟨_,_,rfl,rfl,rfl⟩,zae,?_⟩;exact ⟨rfl,_,⟨R,S,Z,X,ah,aa,aD,Y,au,rfl⟩,I⟩
end
end Sto
end
section
open Go.RowKit Go.Shelf
open Mv Disk Num
namespace Sto
structure OpK (g:Cx) (D B:List (Nat × Blk)) (F:List Fl) (H:List Sh) (n:Nat) (E T W:Mem):Prop where
  op:Op g B F H n T
  tl:T.Less W
  el:E.Less W
  db:∀ y ∈ D,y ∈ B
  ap:∀ k r,E.own k=some r->T.own k=none\/(k,r) ∈ D
section
variable {g g':Cx} {B D:List (Nat × Blk)} {F F':List Fl} {H H':List Sh} {n n':Nat} {T E W:Mem}
theorem OpK.own {y:Nat × Blk} (K:OpK g D B F H n E T W) (I:y ∈ B):W.own y.1=some y.2:=K.tl.own (K.op.o.mem _ I)
theorem OpK.start (I:Op g B F H n T) {S0:Mem} {D:List (Nat × Blk)} (hD:∀ y ∈ D,y ∈ B) (Q:S0=pickM T (D.map (·.1))) (X:S0.Less E) (V:E.Less W) (Y:∀ k r,S0.own k=none->T.own k=some r->W.own k=some r/\E.own k=none):OpK g D B F H n E T W:=by
 have U:∀ y ∈ D,S0.own y.1=some y.2:=λy J=>by rw [Q];exact (zaW (List.mem_map_of_mem J)).trans (I.o.mem _ (hD y J))
 refine ⟨I,⟨λk r hk=>?_,?_⟩,V,hD,λk r hk=>?_⟩
 ·cases e:S0.own k with
  | none=>exact (Y k r e hk).1
  | some r0 =>
   have h1:T.own k=some r0:=by
    rw [Q] at e;unfold pickM at e;dsimp only at e;split at e
    ·exact e
    cases e
   rw [h1] at hk;cases hk;exact V.own (X.own e)
 ·rw [<- V.2,<- X.2,Q];rfl
 cases e:T.own k with
 | none=>exact .inl rfl
 | some r1 =>
  right;cases e0:S0.own k with
  | none=>rw [(Y k r1 e0 e).2] at hk;cases hk
  | some r0 =>
   rw [X.own e0] at hk;cases hk;have hk:k ∈ D.map (·.1):=by
    rw [Q] at e0;unfold pickM at e0;dsimp only at e0;split at e0
    ·assumption
    cases e0
   obtain ⟨y,J,rfl⟩:=List.mem_map.1 hk;rw [U y J] at e0;cases e0;exact J
theorem OpK.call {f:tA} {args:Array tu} {X:Type} {ψ : X->tu->Prop} {H':X->List Sh} (K:OpK g D B F H n E T W) (h:ACall prog f args T λv T'=>∃ x,ψ x v/\Op g' B F' (H' x) n' T') (Y:g'.ro=g.ro):ACall prog f args W λv Q=>∃ x,ψ x v /\ ∃ T',OpK g' D B F' (H' x) n' E T' Q:=by
 refine (h.over K.tl).mono λv Q ⟨T',⟨x,V,J⟩,I,U⟩=>⟨x,V,T',J,I,⟨λk r hk=>?_,?_⟩,K.db,λk r hk=>?_⟩
 ·rcases K.ap k r hk with h | h
  ·exact (U k r h (K.el.own hk)).1
  exact I.own (J.o.mem _ (K.db _ h))
 ·rw [<- I.2,J.ro,Y,<- K.op.ro,K.tl.2,K.el.2]
 rcases K.ap k r hk with h | h
 ·exact .inl (U k r h (K.el.own hk)).2
 exact .inr h
theorem OpK.new {b:Nat} (K:OpK g D B F H n E T W) (hb:Fresh W b) (k:Blk):OpK g D ((b,k) :: B) F H n E (T.set b k) (W.set b k) :=
 ⟨K.op.new (hb.less K.tl) k,Mv.Less.set K.tl b k,K.el.trans (vi _ _ _ hb.1),λy Q=>List.mem_cons_of_mem _ (K.db y Q),λj r J=>by
  have I:j≠b:=λe=>by have:=K.el.own J;rw [e,hb.1] at this;cases this
  rw [vg _ _ I];exact K.ap j r J⟩
theorem OpK.unl {lc:Nat} (K:OpK (g.ls [] lc) D B F H n E T W) (hi:∀ h ∈ H,h.new) (I:g.ll = []/\g.lc=0):OpK g D B F H n E T W:=⟨K.op.unl hi I,K.tl,K.el,K.db,K.ap⟩
theorem OpK.sub {B':List (Nat × Blk)} (K:OpK g D B F H n E T W) (hs:B'.Sublist B) (I:∀ y ∈ D,y ∈ B'):OpK g D B' F H n E T W:=⟨K.op.sub hs,K.tl,K.el,I,K.ap⟩
end
end Sto
end
section
open Go.RowKit
open Mv Num
def i64n (k:Nat):List tu:=[.int .i64 (k:Int)]
abbrev IdxR (S:Mem) (v:tu) (l:List Nat):Prop:=Sl 1 i64n S v l
theorem zjx (S S':Mem) (v:tu) (l:List Nat) (h:IdxR S v l) (hl:S.Less S'):IdxR S' v l:=h.less hl
theorem zeP (x y:Nat) (S:Mem):ACall prog 240 #[.int .u64 x,.int .u64 y] S λr S'=>r = .int .i64 (if x<y then -1 else if y<x then 1 else 0)/\S'=S:=zqP x y S
theorem zsS (x:Int) (S:Mem):ACall prog 273 #[.int .i64 x] S λr S'=>r = .bool false/\S'=S:=by
 refine k_E1 6 func273 ?_;refine r14_ ?_;refine ⟨_,S,⟨_,_,rfl,rfl,rfl⟩,zae,?_⟩;exact ⟨rfl,rfl⟩
def cmpZ (x y:Int):Int:=if x<y then -1 else if y<x then 1 else 0
theorem zl7 (x y:Int):cmpZ x y<0 <-> x<y:=by unfold cmpZ;split <;> (try split) <;> omega
theorem zjy (x y:Int):cmpZ x y=0 <-> x=y:=by unfold cmpZ;split <;> (try split) <;> omega
theorem zpC (x y:Int) (S:Mem):ACall prog 249 #[.int .i64 x,.int .i64 y] S λr S'=>r = .int .i64 (cmpZ x y)/\S'=S:=by
 unfold cmpZ;refine k_E2 20 func249 ?_;refine r8_ ?_;refine cp_ rfl (zsS x S) ?_;refine r6_ ?_;refine cp_ rfl (zsS y S) ?_;refine r9_ ?_;refine cF_ ?_;refine r8_ ?_;refine cF_ ?_;by_cases I:x<y
 ·refine r10_ ?_;refine cT_ ?_;refine r7_ ?_;refine ⟨_,S,⟨_,_,rfl,rfl,rfl⟩,zae,?_⟩;exact ⟨by rw [if_pos I];rfl,rfl⟩
 refine r10_ ?_;refine cF_ ?_;by_cases J:y<x
 ·refine r10_ ?_;refine kw_ [0,1,4,5,6,11,13,16,19] ?_;refine cT_ ?_;refine r7_ ?_;refine ⟨_,S,⟨_,_,rfl,rfl,rfl⟩,zae,?_⟩;exact ⟨by rw [if_neg I,if_pos J];rfl,rfl⟩
 refine r10_ ?_;refine cF_ ?_;refine r8_ ?_;refine ⟨_,S,⟨_,_,rfl,rfl,rfl⟩,zae,?_⟩;exact ⟨by rw [if_neg I,if_neg J];rfl,rfl⟩
def orL:List Int->Int
  | []=>0
  | x :: l=>if x=0 then orL l else x
theorem zuD (v:tu) (l:List Int) (S:Mem) (h:Sl 1 i64s S v l):ACall prog 239 #[v] S λr S'=>r = .int .i64 (orL l)/\S'=S:=by
 obtain ⟨a,cap,rfl,V,Y,Q⟩:=id h;refine k_E1 18 func239 ?_;refine r19_ ?_;refine AWP.loop (X:=Nat) (λx=>[(0,.slice a l.length cap),(3,.int .i64 0),(6,.slice a l.length cap),(7,.int .i64 l.length),(8,.int .i64 x)]) (λx=>S) (λx=>x<=l.length/\orL (l.drop x)=orL l) (λx=>l.length-x) (0) ⟨rfl,rfl,rfl,rfl,rfl,trivial⟩ (Mem.Less.refl _) (⟨Nat.zero_le _,rfl⟩) ?_;rintro i ⟨hi,I⟩;(try dsimp only at *);refine r6_ ?_;refine vu rfl (λhc=>?_) (λhc=>?_)
 ·have hc:i<l.length:=by have:=of_decide_eq_true hc;omega
  obtain ⟨b,off,rfl,hk⟩:=Q.resolve_left (λe=>by subst e;simp at hc);have U:=hk i hc;rw [List.drop_eq_getElem_cons hc,orL] at I;by_cases J:l[i]=0
  ·refine r11_ ?_;refine r7_ ?_;refine cF_ ?_;refine r8_ ?_;refine ⟨i+1,?_,?_,?_,?_⟩<;>try dsimp only
   ·exact ⟨rfl,rfl,rfl,rfl,rfl,trivial⟩
   ·exact zae
   ·exact ⟨hc,by rw [if_pos J] at I;exact I⟩
   omega
  refine r11_ ?_;refine r7_ ?_;refine cT_ ?_;refine r6_ ?_;refine kw_ [0,3,6,7,8,9,5,14,2] ?_;refine r6_ ?_;refine ⟨_,S,⟨_,_,rfl,rfl,rfl⟩,zae,?_⟩;exact ⟨by rw [<- I,if_neg J];rfl,rfl⟩
 have hc:i=l.length:=by have:=of_decide_eq_false hc;omega
 refine r12_ ?_;refine ⟨_,S,⟨_,_,rfl,rfl,rfl⟩,zae,?_⟩;exact ⟨by rw [<- I,List.drop_eq_nil_of_le vd];rfl,rfl⟩
def gI (k:Nat):tu:=.int .i64 (k:Int)
def gU (k:Nat):tu:=.int .u64 (k:Int)
def gZ (x:Int):tu:=.int .i64 x
theorem zaG {α : Type} (l:List α) (i:Nat) (z : α) (h:i<l.length):l.getD i z=l[i]:=by rw [List.getD_eq_getElem?_getD,List.getElem?_eq_getElem h];rfl
def cmpU (x y:Nat):Int:=if x<y then -1 else if y<x then 1 else 0
theorem zij (x y:Nat):cmpU x y<0 <-> x<y:=by unfold cmpU;split <;> (try split) <;> omega
theorem zgK (x y:Nat):cmpU x y=0 <-> x=y:=by unfold cmpU;split <;> (try split) <;> omega
theorem zpD {S:Mem} {b:Nat} {T:tx} {x y:Int} (h:S.own b=some ⟨T,[.int .i64 x,.int .i64 y],2⟩):Sl 1 i64s S (.slice (some ⟨b,0,none⟩) 2 2) [x,y]:=vL (g:=gZ) (l:=[x,y]) h List.prefix_rfl rfl (Nat.le_refl _) (by decide)
theorem zuE {S:Mem} {b:Nat} {T:tx} {x y z:Int} (h:S.own b=some ⟨T,[.int .i64 x,.int .i64 y,.int .i64 z],3⟩):Sl 1 i64s S (.slice (some ⟨b,0,none⟩) 3 3) [x,y,z]:=vL (g:=gZ) (l:=[x,y,z]) h List.prefix_rfl rfl (Nat.le_refl _) (by decide)
/-! ### Where each number is -/
theorem zl8 (S:Mem) (o:Option (Nat × Nat)) (e:tx) (cs:List tu):outN 1 S o e cs=outM S o e cs:=by
 cases o with
 | none=>rfl
 | some q=>show S.set q.1 ⟨e,cs,q.2*1⟩=S.set q.1 ⟨e,cs,q.2⟩;rw [Nat.mul_one]
theorem zwS {S:Mem} {o:Option (Nat × Nat)} {k:Nat} {e:tx} {cs:List tu} (h:OkO S o k) (I:cs.length=k):AppN 1 (outM S o e cs) S o e cs:=by
 rw [<- zl8];exact zb6 h (by rw [I,Nat.mul_one])
theorem zrZ {α : Type} (g : α->tu) (L:List α):L.flatMap (λx=>[g x])=L.map g:=by
 induction L with
 | nil=>rfl
 | cons x l I=>rw [List.flatMap_cons,List.map_cons,I];rfl
theorem zwk {α : Type} {g : α->tu} {S:Mem} {v:tu} {L:List α} (h:Sl 1 (λx=>[g x]) S v L):Src S v L.length (L.map g):=by
 have:=Sl.src (n:=1) (λ_=>rfl) h;rw [zrZ] at this;exact this
end
section
open Go.RowKit
open Mv Num Loser Skew


namespace Skew
theorem zhx (r i:Nat) (h:i % 3=r):restP r (i+3)=restP r i ++ [i]:=by
 rw [zbt,zbt,zbt,if_pos h,if_neg vd,if_neg vd,List.append_nil,List.append_nil]
theorem zhy (r E:Nat) (J:r<3):∀ (i:Nat),E<=i->i<E+3->i % 3=r->restP r i=restP r E:=by
 intro i I U Q;rcases (by omega:i=E\/i=E+1\/i=E+2) with h | h | h
 ·rw [h]
 ·rw [h,zbt,if_neg vd,List.append_nil]
 rw [h,zbt,zbt,if_neg vd,if_neg vd,List.append_nil,List.append_nil]
theorem zkL (r:Nat) (J:r<3):restP r r = []:=by
 have:∀ m,m<=r->restP r m = []:=by
  intro m
  induction m with
  | zero=>intro _;rfl
  | succ m I=>intro h;rw [zbt,I vd,if_neg vd];rfl
 exact this r (Nat.le_refl _)
def accP (E:Nat):Nat->List Nat
  | 0=>[]
  | 1=>[]
  | 2=>restP 1 E
  | _=>restP 1 E ++ restP 2 E
theorem zr0 (E r:Nat) (I:1<=r) (J:r<3):accP E r ++ restP r E=accP E (r+1):=by
 rcases (by omega:r=1\/r=2) with rfl | rfl
 ·rfl
 rfl
theorem zuF (E r:Nat) (J:E<=1048577) (I:r<3):(accP E r).length<=r+1048577:=by
 rcases (by omega:r=0\/r=1\/r=2) with rfl | rfl | rfl
 ·show 0<=_;omega
 ·show 0<=_;omega
 show (restP 1 E).length<=_;rw [zaL 1 vd];omega
theorem zr1 (E:Nat) (I:E<=1048577):(accP E 3).length<=9223372036854775807:=by
 show (restP 1 E ++ restP 2 E).length<=_;rw [List.length_append,zaL 1 vd,zaL 2 vd];omega
end Skew
theorem zwl (l:List Nat) (i:Nat) (h:i<l.length):at0 l i=l[i]:=by unfold at0;rw [List.getD_eq_getElem?_getD,List.getElem?_eq_getElem h];rfl
theorem zuG (l:List Nat) (i:Nat) (h : ¬ i<l.length):at0 l i=0:=by unfold at0;rw [List.getD_eq_getElem?_getD,List.getElem?_eq_none vd];rfl
theorem zgL (v:tu) (l:List Nat) (J:Int) (i:Nat) (Q:J=i) (S:Mem) (hl:RowR S v l) :
  ACall prog 245 #[v,.int .i64 J] S λr S'=>r=gU (at0 l i)/\S'=S:=by
 subst Q;unfold gU;obtain ⟨a,cap,rfl,V,X,U⟩:=id hl;by_cases hc:i<l.length
 ·rw [zwl l i hc];obtain ⟨b,off,rfl,hk⟩:=U.resolve_left (λe=>by subst e;simp at hc);have I:=hk i hc;unfold u64s at I;refine k_E2 13 func245 ?_;refine r14_ ?_;refine cT_ ?_;refine r11_ ?_;refine ⟨_,S,⟨_,_,rfl,rfl,rfl⟩,zae,?_⟩;exact ⟨rfl,rfl⟩
 rw [zuG l i hc];refine k_E2 13 func245 ?_;refine r14_ ?_;refine cF_ ?_;refine r8_ ?_;refine ⟨_,S,⟨_,_,rfl,rfl,rfl⟩,zae,?_⟩;exact ⟨rfl,rfl⟩
def triV (l:List Nat) (i:Nat):tu:=.agg #[gU (at0 l i),gU (at0 l (i+1)),gU (at0 l (i+2))]
theorem zeQ (v:tu) (l:List Nat) (J:Int) (i:Nat) (Q:J=i) (S:Mem) (hl:RowR S v l) (hi:i<=1048576) :
  ACall prog 218 #[v,.int .i64 J] S λr S'=>r=triV l i/\S'=S:=by
 subst Q;refine k_E2 17 func218 ?_;refine r2_ ?_;refine ARun.alloc (zab rfl) zbY ?_;intro V U;have I:=U
 repeat ((with_reducible replace I:=zaa I);obtain ⟨I,_⟩:=I)
 refine nl_ ?_;refine r6_ ?_;refine ca_ rfl (zgL v l _ i om_ _ (hl.less zae)) ?_;rintro _ _ ⟨rfl,rfl⟩;refine r3_ ?_;refine ca_ rfl (zgL v l _ (i+1) om_ _ (hl.less zae)) ?_;rintro _ _ ⟨rfl,rfl⟩;refine r3_ ?_;refine ca_ rfl (zgL v l _ (i+2) om_ _ (hl.less zae)) ?_;rintro _ _ ⟨rfl,rfl⟩;refine rC (uk (cs:=[_,_,_]) zmo rfl rfl) ?_;refine r4_ ?_;refine ⟨_,S,⟨_,_,_,rfl,.inr ⟨ze7,[_,_,_],zd8,rds_,rfl⟩,rfl,rfl⟩,zae,?_⟩;exact ⟨rfl,rfl⟩
theorem zpE (ii:Int) (n:Nat) (ei:ii=n) (hn:n<=1048576) (S:Mem) :
  ACall prog 189 #[.int .i64 ii] S (RdL gI (places n) S):=by
 subst ei;have hE:=zen n;have hp:places n=accP (endP n) 3:=rfl;rw [hp];generalize endP n=E at *;refine k_E1 28 func189 ?_;refine r19_ ?_;refine AWP.join (X:=Unit) (λ_=>[(3,.int .i64 (E:Int))]) (λ_=>S) (λ_=>E<=n+1) ?_ ?_
 ·by_cases h1:n % 3=1
  ·refine cT_ ?_;refine r5_ ?_;refine ⟨(),?_,?_,?_⟩<;>try dsimp only
   ·omega
   ·exact ⟨sq_,trivial⟩
   exact Mem.Less.refl _
  refine cF_ ?_;refine s1_ ?_;refine ⟨(),?_,?_,?_⟩<;>try dsimp only
  ·omega
  ·exact ⟨sq_,trivial⟩
  exact Mem.Less.refl _
 rintro _ _;intro _ _ Q U;(try dsimp only at *);refine zbO ?_;refine AWP.sub _ Q (AWP.less _ U ?_);clear Q U;refine r12_ ?_;refine AWP.loop (X:=Nat × List Nat × Option (Nat × Nat)) (λx=>[(3,.int .i64 (E:Int)),(4,outV x.2.2 x.2.1.length),(5,.int .i64 x.1)]) (λx=>outM S x.2.2 3 (x.2.1.map gI)) (λx=>1<=x.1/\x.1<=3/\x.2.1=accP E x.1/\OkO S x.2.2 x.2.1.length) (λx=>3-x.1) ((1,[],none)) ⟨rfl,rfl,rfl,trivial⟩ (Mem.Less.refl _) (⟨Nat.le_refl _,by dsimp only;omega,rfl,zcb _⟩) ?_;rintro ⟨r,L,o⟩ ⟨h1,h2,Y,ho⟩;(try dsimp only at *);by_cases V:r<3
 ·refine r7_ ?_;refine cT_ ?_;refine r11_ ?_;refine AWP.loop (X:=Nat × List Nat × Option (Nat × Nat)) (λx=>[(3,.int .i64 (E:Int)),(4,outV x.2.2 x.2.1.length),(5,.int .i64 r),(6,.int .i64 x.1)]) (λx=>outM S x.2.2 3 (x.2.1.map gI)) (λx=>x.1 % 3=r % 3/\x.1<E+3/\x.2.1=accP E r ++ restP r x.1/\x.2.1.length<=x.1+1048577/\OkO S x.2.2 x.2.1.length) (λx=>E+3-x.1) ((r,L,o)) ⟨rfl,rfl,rfl,rfl,trivial⟩ (Mem.Less.refl _) (⟨rfl,by dsimp only;omega,by dsimp only;rw [Y,zkL r V,List.append_nil],by dsimp only;rw [Y];exact zuF E r vd V,ho⟩) ?_;rintro ⟨i,L2,o2⟩ ⟨k1,k2,k3,k5,k4⟩;(try dsimp only at *);by_cases hi:i<E
  ·refine r8_ ?_;refine kw_ [3,4,5,6,20] ?_;refine cT_ ?_;refine r7_ ?_;refine vk (zab rfl) zau rfl rfl ?_;intro am J;have I:=J
   repeat ((with_reducible replace I:=zaa I);obtain ⟨I,_⟩:=I)
   refine vJ (zab rfl) zau rfl zc_ (zc3 k4 zc_ J) rfl (news:=[_]) rds_ rfl vd (by simp [Value.oneCell']) vd vd ?_;intro ae aa ac;refine r10_ ?_;refine ⟨(i+3,L2 ++ [i],some (ae,aa)),?_,?_,?_,?_⟩<;>try dsimp only
   ·exact ⟨sq_,sq_,sq_,sq_,trivial⟩
   ·exact zds rfl
   ·exact ⟨by omega,by omega,by rw [k3,zhx r i vd,List.append_assoc],by rw [List.length_append];show L2.length+1<=_;omega,zgc ac rfl⟩
   omega
  refine r8_ ?_;refine cF_ ?_;refine r12_ ?_;refine ⟨(r+1,L2,o2),?_,?_,?_,?_⟩<;>try dsimp only
  ·exact ⟨sq_,sq_,sq_,trivial⟩
  ·exact Mem.Less.refl _
  ·exact ⟨by omega,by omega,by rw [k3,zhy r E V i vd k2 vd,zr0 E r h1 V],k4⟩
  omega
 obtain rfl:r=3:=by omega
 refine r7_ ?_;refine cF_ ?_;rw [<- Y];refine r12_ ?_;refine ⟨_,_,⟨_,_,rfl,rfl,rfl⟩,Mem.Less.refl _,?_⟩;exact u0 ho rfl (by rw [Y];exact zr1 E vd)
end
section
open Go.RowKit
open Mv Num Loser Skew
namespace Skew
theorem zeR (n:Nat) (I:n<=4096):(places n).length<=3000:=by have:=zhs n;omega
end Skew
end
section
namespace Drw
theorem ask {α : Type}:∀ (a:Ask α) (w:tv),w.drawn<=(w.ask a).2.drawn
 | .done a,w=>Nat.le_refl _
 | .ask q r k,w=>by
  unfold World.ask;dsimp only;split
  ·exact ask (k 0) w
  exact Nat.le_trans (Nat.le_succ _) (ask (k _) { w with drawn:=w.drawn+1 })
theorem sys (w:tv) (c:Sys):w.drawn<=(w.sys c).2.drawn:=by
 have h:=ask (Kernel.perform c w.os) w;unfold World.sys;split
 ·exact Nat.le_refl _
 rename_i e;rw [e] at h;exact h
def rw_ {α : Type}:Result α->tv
  | .ok _ w=>w
  | .halt _ w=>w
theorem far {p:tz} {w w':tv} {a:Addr} {v:tu} {b:Bool} {l:List Addr} (h:w.farStore p a v b = .ok (w',l)):w'.drawn=w.drawn:=by
 unfold World.farStore at h;split at h
 ·split at h
  ·rename_i e;cases h;unfold World.viewStore at e;simp only [bind,Except.bind,pure,Except.pure,throw,throwThe,MonadExceptOf.throw] at e
   repeat' split at e
   all_goals first | (cases e;done) | (cases e;rfl)
  cases h
 cases h
theorem run {α : Type} (p:tz):∀ (s:Sem α) (w:tv),w.drawn<=(rw_ (s.run p w)).drawn
 | .pure a,w=>Nat.le_refl _
 | .load m a k,w=>by
  unfold Sem.run;split
  ·exact run p _ w
  split
  ·exact run p _ w
  exact Nat.le_refl _
 | .store m a v k,w=>by
  have h:v.oneCell'=false\/(Sem.store m a v k).run p w=(match w.cell? a with
   | some _ => if w.frozen? a then .halt (.unsupported (.unsafePointer "a write to bytes that a string shares")) w else k.run p (w.setCell a v)
   | none=>match w.farStore p a v (m == .atomic) with
    | .ok (w,_)=>k.run p w
    | .error h=>.halt h w):=by cases v <;> first | exact .inr rfl | exact .inl rfl
  rcases h with h | h
  ·cases v <;> first | exact Nat.le_refl _ | cases h
  rw [h];split
  ·split
   ·exact Nat.le_refl _
   exact run p k (w.setCell a v)
  split
  ·rename_i e;rw [<- far e];exact run p k _
  exact Nat.le_refl _
 | .new o k,w=>by unfold Sem.run;exact run p (k w.heap.size) { w with heap:=w.heap.push o }
 | .shape r k,w=>by unfold Sem.run;exact run p _ _
 | .freeze a n k,w=>by
  unfold Sem.run;refine Nat.le_trans (Nat.le_of_eq ?_) (run p k _);unfold World.freeze;split <;> rfl
 | .frozen a k,w=>by unfold Sem.run;exact run p _ _
 | .getObj r k,w=>by
  unfold Sem.run;split <;> first | exact Nat.le_refl _ | exact run p _ _
 | .setObj r o k,w=>by
  unfold Sem.run;split <;> first | exact Nat.le_refl _ | exact run p k { w with heap:=w.heap.setIfInBounds r o }
 | .choose q k,w=>by
  unfold Sem.run;split
  ·exact run p _ _
  exact Nat.le_trans (Nat.le_succ _) (run p (k _) { w with drawn:=w.drawn+1 })
 | .sys c k,w=>by unfold Sem.run;exact Nat.le_trans (sys w c) (run p _ _)
 | .program k,w=>by unfold Sem.run;exact run p _ _
 | .mark m k,w=>by unfold Sem.run;exact run p _ _
 | .halt h,w=>Nat.le_refl _
theorem ok_ {α : Type} {p:tz} {s:Sem α} {w w':tv} {v : α} (e:s.run p w = .ok v w'):w.drawn<=w'.drawn:=by have:=run p s w;rw [e] at this;exact this
theorem ha_ {α : Type} {p:tz} {s:Sem α} {w w':tv} {v:Halt} (e:s.run p w = .halt v w'):w.drawn<=w'.drawn:=by have:=run p s w;rw [e] at this;exact this
def G (n:Nat):GStep->Prop
  | .go _ w _ | .comm _ _ _ _ w _ | .spawn _ _ w _ | .count _ w _ | .timer _ _ w _ | .alone _ _ w _ | .newcoro _ _ _ w _ | .coroswitch _ _ _ w _ | .collect _ w _ | .watch _ w _=>n<=w.drawn
  | .ended ..=>True
theorem G.after {n:Nat} {I:Array Event} {s:GStep}:G n (GStep.after I s)=G n s:=by cases s <;> rfl
theorem gElim {α : Type} {n:Nat} {o:Option α} {a:GStep} {f : α->GStep} (I:G n a) (J:∀ x,G n (f x)):G n (o.elim a f):=by cases o with
 | none=>exact I
 | some x=>exact J x
section
variable {p:tz} {n:Nat} {w:tv} (h:n<=w.drawn)
include h
theorem gThrow (fr:Frame) (m:String):G n (endThrow fr m w):=h
theorem gWith (I:Nat) (t:tt) (o:Outcome):G n (endWith w I t o):=by
 unfold endWith;dsimp only
 repeat' first | trivial | split
theorem gPrinting (fr:Frame) (v:tu):G n (endPrinting p fr v w):=by
 unfold endPrinting;dsimp only
 repeat' first | exact gThrow h _ _ | trivial | split
theorem gFatal (fr:Frame) (cs:List Frame) (d:Option Dying) (m:String):G n (endFatal p fr cs d m w):=by
 unfold endFatal;dsimp only
 repeat' first | exact Nat.le_trans h (ok_ (by assumption)) | trivial | split
theorem gWrite (fr:Frame) (d:Dying) (f:Fatal):G n (writeOn p fr d f w):=by
 unfold writeOn;simp only [Sem.runT_eq];split
 ·trivial
 generalize hs:(if (!(f.whole && f.begun))=true then _ else _:Sem Unit)=s;clear hs
 repeat' first | exact Nat.le_trans h (ok_ (Prod.mk.inj (by assumption)).1) | exact Nat.le_trans h (ha_ (Prod.mk.inj (by assumption)).1) | trivial | split
theorem gDie (fr:Frame) (d:Dying):G n (die p fr d w):=by
 unfold die;simp only [Sem.runT_eq]
 repeat' first | exact h | exact gWrite h _ _ _ | exact gWith h _ _ _ | exact Nat.le_trans h (ok_ (by assumption)) | exact gPrinting (Nat.le_trans h (ha_ (by assumption))) _ _ | trivial | rw [G.after] | split
theorem gEarly (fr:Frame) (cs:List Frame) (d:Option Dying) (g:Nat):G n (early p fr cs d g w):=by
 unfold early;dsimp only
 repeat' first | exact h | exact Nat.le_trans h (ok_ (by assumption)) | trivial | split | (simp only [G];exact Nat.le_trans h (ok_ (by assumption)))
theorem gReturn (I:Bool) (fr:Frame) (cs:List Frame) (d:Option Dying) (v:tu):G n (doReturn p I fr cs d v w):=by
 unfold doReturn
 repeat' first | exact h | trivial | split
theorem gDeferred (fr:Frame) (cs:List Frame) (d:Option Dying) (e:Deferred):G n (callDeferred p fr cs d e w):=by
 unfold callDeferred;simp only [Sem.runT_eq]
 repeat' first | exact h | exact Nat.le_trans h (ok_ (by assumption)) | exact Nat.le_trans h (ha_ (by assumption)) | exact gFatal (Nat.le_trans h (ha_ (by assumption))) _ _ _ _ | exact gThrow (Nat.le_trans h (ha_ (by assumption))) _ _ | trivial | rw [G.after] | split
theorem gUnwind (I:Bool) (fr:Frame) (cs:List Frame) (d:Option Dying):G n (unwind p I fr cs d w):=by
 unfold unwind;simp only [Sem.runT_eq]
 repeat' first | exact h | exact gDeferred h _ _ _ _ | exact gReturn h _ _ _ _ _ | exact gPrinting h _ _ | exact Nat.le_trans h (ok_ (by assumption)) | exact gReturn (Nat.le_trans h (ok_ (by assumption))) _ _ _ _ _ | trivial | rw [G.after] | split
theorem gApply (fr:Frame) (cs:List Frame) (d:Option Dying) (s:Sem Next) (b:Bool):G n (stepG.apply p b fr cs d s w):=by
 unfold stepG.apply;simp only [Sem.runT_eq];generalize hs:(if b=true then (Sem.run p s w,_) else (Sem.run p s w,_):Result Next × Array Event)=r;have I:r.1=Sem.run p s w:=by rw [<- hs];split <;> rfl
 rw [I]
 repeat' first | exact h | exact Nat.le_trans h (ok_ (by assumption)) | exact Nat.le_trans h (ha_ (by assumption)) | exact gFatal (Nat.le_trans h (ha_ (by assumption))) _ _ _ _ | exact gThrow (Nat.le_trans h (ha_ (by assumption))) _ _ | exact gThrow (Nat.le_trans h (ok_ (by assumption))) _ _ | exact gEarly (Nat.le_trans h (ha_ (by assumption))) _ _ _ _ | trivial | rw [G.after] | split
theorem gStep (I:Bool) (g:Goroutine) (b:Bool):G n (stepG p I g w b):=by
 obtain ⟨fr,cs,st,d,o⟩:=g;simp only [stepG];split
 ·exact gDie h _ _
 ·unfold stepG.exec;simp only [Sem.runT_eq]
  repeat' first | exact h | exact gApply h _ _ _ _ _ | exact gApply (Nat.le_trans h (ok_ (by assumption))) _ _ _ _ _ | exact gReturn (Nat.le_trans h (ok_ (by assumption))) _ _ _ _ _ | exact Nat.le_trans h (ok_ (by assumption)) | exact Nat.le_trans h (ha_ (by assumption)) | trivial | rw [G.after] | refine gElim ?_ λ_=>?_ | split | (unfold stepG.oper;split)
 exact gUnwind h _ _ _ _
end
def O (n:Nat):Stepped->Prop
  | .next m=>n<=m.world.drawn
  | .ended ..=>True
theorem waiting {I:Rest} {cases:Array CommCase} {w w':tv} (h:waitingAt I cases w=some w'):w'.drawn=w.drawn:=by
 unfold waitingAt at h
 repeat' split at h
 all_goals first | (cases h;done) | (cases h;rfl)
theorem comm {p:tz} {n:Nat} {w:tv} (h:n<=w.drawn) (I:Rest) (gs:Array Goroutine) (i:Nat) (g:Goroutine) (cases:Array CommCase) (b:Bool) (J:CommShape):O n (communicate p I gs i g cases b J w).1:=by
 unfold communicate;dsimp only
 repeat' first | exact h | trivial | split
 all_goals first | (simp only [O];done) | simp only [O]
 all_goals first | (rw [waiting (by assumption)];exact h) | exact Nat.le_trans h (ok_ (by assumption)) | exact Nat.le_trans h (Nat.le_trans (ok_ (by assumption)) (ok_ (by assumption))) | exact Nat.le_trans h (Nat.le_trans (ok_ (by assumption)) (ha_ (by assumption)))
theorem lookO {p:tz} {n:Nat} {w:tv} (h:n<=w.drawn) (gs:Array Goroutine) (I:Rest):O n (look p gs I w):=by
 unfold look;dsimp only
 repeat' first | exact h | trivial | (simp only [O];exact Nat.le_trans h (ok_ (by assumption))) | split
theorem opened {m m':Machine} {I:Addr} (h:timerOp.opened m I=some m'):m'.world.drawn=m.world.drawn:=by
 unfold timerOp.opened at h
 repeat' split at h
 all_goals first | (cases h;done) | (cases h;rfl)
theorem timer {m m':Machine} {op:TimerOp} {v:tu} (h:timerOp m op = .ok (v,m')):m'.world.drawn=m.world.drawn:=by
 cases op <;> simp only [timerOp,timerOp.named,retime,drain] at h
 all_goals repeat' split at h
 all_goals first | (cases h;done) | (cases h;rfl) | (cases h;dsimp only [Machine.withTimers];exact opened (by assumption))
theorem runO {p:tz} {n:Nat} {m:Machine} (h:n<=m.world.drawn) (i:Nat) (b:Bool):O n (Go.runT p m i b).1:=by
 simp only [Go.runT];generalize m.gs.swapAt! _ _=J;have I:=gStep (p:=p) h (i == 0) J.1 b;generalize stepG p (i == 0) J.1 m.world b=s at *;cases s <;> dsimp only
 case comm=>exact comm I _ _ _ _ _ _ _
 case collect=>exact lookO I _ _
 case timer =>
  split
  ·rename_i e;exact Nat.le_trans I (Nat.le_of_eq (timer e).symm)
  all_goals first | trivial | exact I
 all_goals repeat' first | exact I | trivial | split
theorem serveO {p:tz} {n:Nat} {m:Machine} (h:n<=m.world.drawn) (k:Nat):O n (serve p m k):=by
 unfold serve;dsimp only
 repeat' first | exact h | trivial | split
def M (n:Nat):Move->Prop
  | .goroutine m _=>n<=m.world.drawn
  | .machine s _=>O n s
theorem askOnM {p:tz} {n:Nat} {m:Machine} (h:n<=m.world.drawn):M n (askOn p m):=by
 unfold askOn;dsimp only
 repeat' first | exact h | trivial | exact serveO (Nat.le_trans h (ok_ (by assumption))) _ | split
 all_goals repeat first | exact h | refine Nat.le_trans ?_ (ok_ (by assumption)) | simp only [M,O,Machine.advanceTo]
theorem moveM {p:tz} {n:Nat} {m:Machine} (h:n<=m.world.drawn):M n (move p m):=by
 have I:∀ m:Machine,n<=m.world.drawn->M n (Go.ask p m):=λm h=>by
  unfold Go.ask;split
  ·split
   ·trivial
   ·have hl:=lookO (p:=p) (Nat.le_trans h (ok_ (by assumption))) m.gs m.rest;split
    ·rename_i e;rw [e] at hl;exact askOnM hl
    exact hl
   exact askOnM (Nat.le_trans h (ok_ (by assumption)))
  exact askOnM h
 unfold move
 repeat' first | exact h | trivial | exact I _ h | split
theorem stepO {p:tz} {n:Nat} {m:Machine} (h:n<=m.world.drawn):O n (step p m):=by
 have hm:=moveM (p:=p) h;unfold step stepT;split
 ·rename_i e;rw [e] at hm;exact runO hm _ _
 rename_i e;rw [e] at hm;exact hm
theorem runN {p:tz} {n:Nat}:∀ (k:Nat) (m:Machine),n<=m.world.drawn->O n (Go.runN p k m)
 | 0,m,h=>h
 | k+1,m,h=>by
  have hs:=stepO (p:=p) h;unfold Go.runN;split
  ·rename_i e;rw [e] at hs;exact runN k _ hs
  exact hs
theorem calls {P:tz} {f:tA} {args:Array tu} {w:tv} {v:tu} {R:tv->Prop} (h:Calls P f args w λe w'=>e = .returned v/\R w'):Calls P f args w λe w'=>e = .returned v/\R w'/\w.drawn<=w'.drawn:=λcs=>by
 obtain ⟨e,w',fr,⟨rfl,I⟩,hc,hl⟩:=h cs;refine ⟨_,w',fr,⟨rfl,I,?_⟩,hc,hl⟩;obtain ⟨k,hk⟩:=hc;have:=runN (p:=P) k (lone (Frame.enter P f args .normal) cs w) (Nat.le_refl w.drawn);rw [hk] at this;exact this
end Drw
end
section
open Go.RowKit
open Mv
namespace Srt
theorem rw_ {p:Prop} (h:p:=by first | omega | (simp only [Array.size_setIfInBounds];omega)):p:=h
theorem sb_ {p:Prop} (h:p:=by first | rfl | (refine zah ?_;first | omega | (dsimp only;omega))):p:=h
section
variable {P:tz} {N:Nat} {ops:Array Oper} {E:Env} {S:Mem} {K:Env->Mem->Prop} {ty:tx} {pos:String} {aft:Array Edge}
end
variable {α : Type} [Inhabited α]
/-! ### The plain sort's steps -/
section
variable (lt : α -> α->Bool)
end
end Srt
end
section
open Go.RowKit
open Mv
namespace Srt
open Go.Sort (swp scanUp scanDown partLoop partition partEqLoop partitionEqual)
theorem nt_ {p:Bool} (h:(!p)=true):p=false:=by cases p <;> simp_all
theorem nf_ {p:Bool} (h:(!p)=false):p=true:=by cases p <;> simp_all
section
variable {α : Type} [Inhabited α] (lt : α -> α->Bool)
end
end Srt
end
section
open Go.RowKit
open Mv Srt
theorem zkM (x:Nat) (h:x<2 ^ 64):Lib.bitLen x=Go.Sort.bitsLen x:=by
 induction x using Nat.strongRecOn with
 | _ x J =>
  by_cases I:x=0
  ·subst I;rfl
  rw [Lib.bitLen_half x I h,J (x / 2) vd vd];unfold Go.Sort.bitsLen;rw [if_neg I,Nat.log2_def x];by_cases Q:2<=x
  ·rw [if_pos Q,if_neg vd];omega
  obtain rfl:x=1:=by omega
  simp
theorem zwm (x:Nat) (I:x<9223372036854775808) (S:Mem):ACall prog 247 #[.int .u64 (x:Int)] S λr S'=>r = .int .i64 (Go.Sort.bitsLen x:Nat)/\S'=S:=by
 refine uI λw=>?_;have h:=Tryz.bits_Len (x:Int) w vd vd;rw [Int.toNat_natCast,zkM x vd] at h;exact h
theorem Mv.Mem.Knows.ro {S:Mem} {a:Addr} {cs:List tu} {w:tv} (h:S.Knows a cs) (I:View S w):(roM w).Knows a cs:=zit (h w I)
theorem Mv.Sl.ro {α : Type} {n:Nat} {f : α->List tu} {S:Mem} {v:tu} {l:List α} {w:tv} (h:Sl n f S v l) (U:View S w):Sl n f (roM w) v l:=by
 obtain ⟨a,c,e,I,J,Q⟩:=h;exact ⟨a,c,e,I,J,Q.imp_right λ⟨b,o,e,k⟩=>⟨b,o,e,λi hi=>(k i hi).ro U⟩⟩
theorem lays {P:tz} {f:tA} {args:Array tu} {v:tu} {w:tv} (h:ACall P f args (roM w) λv' S'=>v'=v):Calls P f args w λe w'=>e = .returned v /\ ∃ q os,w'=Go.Sort.grow (w.drewN q) os :=
 (Drw.calls h.callsW).mono λe w' ⟨I,hb,hd⟩=>⟨I,by
  obtain ⟨p,rfl⟩:=regrown_of_below hb;refine ⟨p.d-w.drawn,p.os,?_⟩;have hd:w.drawn<=p.d:=hd;unfold redrawn World.drewN;rw [Nat.add_sub_cancel' hd]⟩
theorem zr2 (q:Option Addr) (cap:Nat) (I:tu) (S:Mem):ACall prog 264 #[.slice q 0 cap,.int .i64 0,.int .i64 0,I] S λr S'=>S'=S:=by
 refine k_E4 53 func264 ?_;refine r8_ ?_;refine AWP.loop (X:=Unit) (λ_=>[(0,.slice q 0 cap),(2,.int .i64 0),(8,.int .i64 1)]) (λ_=>S) (λ_=>True) (λ_=>0) (()) ⟨sb_,sb_,sb_,trivial⟩ (Mem.Less.refl _) (trivial) ?_;rintro _ _;(try dsimp only at *);refine r8_ ?_;refine cF_ ?_;refine r4_ ?_;refine ⟨_,S,rfl,Mem.Less.refl _,?_⟩;exact rfl
theorem zr3 (q:Option Addr) (cap:Nat) (I:tu) (S:Mem):ACall prog 246 #[.slice q 0 cap,.int .i64 0,.int .i64 0,.int .i64 0,I] S λr S'=>S'=S:=by
 refine k_E5 148 func246 ?_;refine r11_ ?_;refine AWP.loop (X:=Unit) (λ_=>[(0,.slice q 0 cap),(1,.int .i64 0),(2,.int .i64 0),(4,I)]) (λ_=>S) (λ_=>True) (λ_=>0) (()) ⟨rfl,rfl,rfl,rfl,trivial⟩ (Mem.Less.refl _) (trivial) ?_;rintro _ _;(try dsimp only at *);refine r16_ ?_;refine cT_ ?_;refine r6_ ?_;refine ca_ rfl (zr2 q cap I S) ?_;rintro _ Q J;rw [J];clear J Q;refine r7_ ?_;refine ⟨_,S,rfl,Mem.Less.refl _,?_⟩;exact rfl
theorem zjz (q:Option Addr) (cap:Nat) (J:tu) (S:Mem):ACall prog 219 #[.slice q 0 cap,J] S λr S'=>r = .tuple #[]/\S'=S:=by
 refine k_E2 14 func219 ?_;refine r12_ ?_;refine cp_ rfl (zwm 0 vd _) ?_;refine s1_ ?_;refine ca_ rfl (zr3 q cap J S) ?_;rintro _ Q I;rw [I];clear I Q;refine s1_ ?_;refine ⟨_,S,rfl,Mem.Less.refl _,?_⟩;exact ⟨rfl,rfl⟩
theorem zl9 {S:Mem} {b n cap room m:Nat} {g:tA} {cb:Array tu} {cf:Nat->Nat->Int} (e:List Nat) (hn:e.length=n) (hm:∀ x ∈ e,x<m) (ai:n<=8192) (hb:Fresh S b) (I:∀ args w,(callFunc g args).run prog w = .ok (.enter g args) w) (Q:Go.Sort.SWO λx y=>decide (cf x y<0)) (hc:∀ w,View S w -> ∀ x y,x<m->y<m->ACall prog g (#[gI x,gI y] ++ cb) (roM w) λv _=>v = .int .i64 (cf x y)) :
  ACall prog 219 #[.slice (some ⟨b,0,none⟩) n cap,.func (.func g) #[] cb] (S.set b ⟨3,e.map gI,room⟩) λv S'=>v = .tuple #[] /\ ∃ X:List Nat,X.Perm e/\(X.Pairwise λx y=>¬ cf y x<0)/\S'=S.set b ⟨3,X.map gI,room⟩:=by
 cases e with
 | nil =>
  subst hn;exact (zjz _ _ _ _).mono λv S' ⟨U,Y⟩=>⟨U,[],.nil,.nil,Y⟩
 | cons J es =>
 have:Inhabited {a:Nat // a<m}:=⟨⟨J,hm J (List.mem_cons_self ..)⟩⟩;generalize J :: es=e at *;obtain ⟨L,V⟩ : ∃ L:List {a:Nat // a<m},L.map (·.1)=e:=⟨e.attachWith _ hm,by simp⟩;have hl:L.length=n:=by rw [<- List.length_map (f:=(·.1)),V,hn]
 have hs:=zsB (T:=3) (cap:=cap) (room:=room) (enc:=λx : {a:Nat // a<m}=>gI x.1) (cf:=λx y=>cf x.1 y.1) L hl vd hb (λw hw x y=>lays (hc w hw x.1 y.1 x.2 y.2)) λd w U Y h3 h4=>Tryz.slices_SortFunc_f219 (λx : {a:Nat // a<m}=>gI x.1) (λ_=>rfl) (λx y=>cf x.1 y.1) ⟨λx=>Q.irrefl x.1,λx y z=>Q.trans x.1 y.1 z.1,λx y z=>Q.ntrans x.1 y.1 z.1⟩ g cb b 0 cap d w I U Y h3 h4;have e1:∀ L:List {a:Nat // a<m},L.map (λx=>gI x.1)=(L.map (·.1)).map gI:=λL=>by rw [List.map_map];rfl
 rw [e1,V] at hs;refine hs.mono λv S' ⟨hv,L',p1,p2,p3⟩=>⟨hv,L'.map (·.1),V ▸ p1.map _,?_,by rw [p3,e1]⟩;rw [List.pairwise_map];exact p2
end
section
open Go.RowKit
open Mv Num Loser Skew
def LvR (S:Mem) (p:Nat) (l:List Nat):Prop:=∃ vt vs,S.Knows ⟨p,0,none⟩ [vt]/\S.Knows ⟨p,1,none⟩ [vs]/\RowR S vt l/\IdxR S vs (places l.length)
theorem LvR.less {S S':Mem} {p:Nat} {l:List Nat} (h:LvR S p l) (hl:S.Less S'):LvR S' p l:=by
 obtain ⟨U,vs,J,V,I,Q⟩:=h;exact ⟨U,vs,J.less hl,V.less hl,I.less hl,Q.less hl⟩
theorem LvR.ro {S:Mem} {p:Nat} {l:List Nat} {w:tv} (h:LvR S p l) (I:View S w):LvR (roM w) p l:=by
 obtain ⟨V,vs,Q,X,J,U⟩:=h;exact ⟨V,vs,Q.ro I,X.ro I,J.ro I,U.ro I⟩
theorem zcu {n k:Nat} (hk:k<numP n):plc n k=(places n)[k]'hk:=by
 unfold plc;rw [List.getD_eq_getElem?_getD,List.getElem?_eq_getElem hk];rfl
theorem zsT (U:Int) (k c p:Nat) (l:List Nat) (Y:U=k) (S:Mem) (hc:S.Knows ⟨c,0,none⟩ [.pointer (some ⟨p,0,none⟩)]) (hv:LvR S p l) (hk:k<numP l.length) (hl:l.length<=4096) :
  ACall prog 217 #[.int .i64 U,.pointer (some ⟨c,0,none⟩)] S λr S'=>S.Less S'/\RowR S' r (tkey l k):=by
 subst Y;obtain ⟨X,vs,h1,h2,V,h4⟩:=hv;obtain ⟨ps,pc,rfl,p1,p2,p3⟩:=id h4;obtain ⟨pb,po,rfl,Q⟩:=p3.resolve_left (λe=>by unfold numP at hk;rw [e] at hk;exact absurd hk (Nat.not_lt_zero _));have aj:S.Knows ⟨pb,po+k*1,none⟩ [.int .i64 (plc l.length k:Int)]:=by rw [zcu hk];exact Q k hk
 have ad:(k:Int)<((places l.length).length:Nat):=by unfold numP at hk;omega
 have ag:=(zcW l.length k hk).2.2;unfold tkey;refine k_E2 18 func217 ?_;refine r6_ ?_;refine u9 [13] mixed ?_;refine dgl 0 rfl rfl (ld_ zdp rfl) ?_;refine dgp 1 rfl rfl (λ_=>Calm.nilCheck rfl) ?_;refine dgp 2 rfl rfl (λ_=>Calm.fieldAddr zdW rfl) ?_;refine dgl 3 rfl rfl (ld_ zfs rfl) ?_;refine dgl 4 rfl rfl (ld_ zdp rfl) ?_;refine dgp 5 rfl rfl (λ_=>Calm.nilCheck rfl) ?_;refine dgp 6 rfl rfl (λ_=>Calm.fieldAddr zdX rfl) ?_;refine dgl 7 rfl rfl (ld_ zfr rfl) ?_;refine dgp 8 rfl rfl (λ_=>Calm.move rfl) ?_;refine dgp 9 rfl rfl (λ_=>vP underlying242 zcn rfl rfl vd vd) ?_;refine dgl 10 rfl rfl (ld_ zbM rfl) ?_;refine DG.two 11 12 (by kernel_rfl) rfl ?_ rfl ?_
 ·refine cp_ rfl (zeQ X l _ (plc l.length k) rfl _ (V.less zae) vd) ?_;unfold triV;refine zad ⟨ny_,?_⟩;refine DG.only 12 (by kernel_rfl) rfl ?_;refine ARun.alloc (zab rfl) zbY ?_;intro b4 J;have I:=J
  repeat ((with_reducible replace I:=zaa I);obtain ⟨I,_⟩:=I)
  refine nl_ ?_;refine zad ⟨ny_,?_⟩;refine DG.only 13 (by kernel_rfl) rfl ?_;refine s1_ ?_;refine zad ⟨nz_,?_⟩;refine uf (by kernel_rfl) ?_;refine r8_ ?_;refine ⟨_,_,⟨_,_,rfl,rfl,rfl⟩,Mem.Less.refl _,?_⟩;exact ⟨zae,vL (g:=gU) (l:=tri l (plc l.length k)) (vf _ _ _) List.prefix_rfl rfl (Nat.le_refl _) (by decide)⟩
 refine ARun.alloc (zab rfl) zbY ?_;intro b4 J;have I:=J
 repeat ((with_reducible replace I:=zaa I);obtain ⟨I,_⟩:=I)
 refine nl_ ?_;refine zad ⟨ny_,?_⟩;refine DG.only 11 (by kernel_rfl) rfl ?_;refine ca_ rfl (zeQ X l _ (plc l.length k) rfl _ (V.less zae) vd) ?_;rintro _ _ ⟨rfl,rfl⟩;unfold triV;refine zad ⟨ny_,?_⟩;refine DG.only 13 (by kernel_rfl) rfl ?_;refine s1_ ?_;refine zad ⟨nz_,?_⟩;refine uf (by kernel_rfl) ?_;refine r8_ ?_;refine ⟨_,_,⟨_,_,rfl,rfl,rfl⟩,Mem.Less.refl _,?_⟩;exact ⟨zae,vL (g:=gU) (l:=tri l (plc l.length k)) (vf _ _ _) List.prefix_rfl rfl (Nat.le_refl _) (by decide)⟩
def keyF (c:Nat):tu:=.func (.func 217) #[] #[.pointer (some ⟨c,0,none⟩)]
theorem zuH (a b Y c p:Nat) (l:List Nat) (S:Mem) (h6:S.Knows ⟨Y,0,none⟩ [keyF c]) (hc:S.Knows ⟨c,0,none⟩ [.pointer (some ⟨p,0,none⟩)]) (X:LvR S p l) (ha:a<numP l.length) (hb:b<numP l.length) (hl:l.length<=4096) :
  ACall prog 220 #[gI a,gI b,.pointer (some ⟨Y,0,none⟩)] S λr S'=>r = .int .i64 (cmpB (tkey l a) (tkey l b))/\S'=S:=by
 unfold gI keyF at *;refine k_E3 13 func220 ?_;refine r6_ ?_;refine dr_ [i0_,i1_,i3_,i4_,o2_,o5_,o6_,i7_] [] ?_;refine r4_ ?_;refine zac rfl ?_;refine vn (zab rfl) zsn rfl rfl (zsT _ a c p l rfl _ hc X ha hl) ?_;rintro va S1 ⟨J,V⟩;refine zad ⟨ny_,?_⟩;refine zac rfl ?_;refine vn (zab rfl) zsn rfl rfl (zsT _ b c p l rfl _ (hc.less J) (X.less J) hb hl) ?_;rintro vb S2 ⟨I,U⟩;have Q:=J.trans I;refine zad ⟨ny_,?_⟩;refine zac rfl ?_;refine cp_ rfl (zcy _ _ va vb _ (V.less I) U) ?_;refine zad ⟨ny_,?_⟩;refine r4_ ?_;refine ⟨_,S,⟨_,_,rfl,rfl,rfl⟩,Q,?_⟩;exact ⟨rfl,rfl⟩
end
section
open Go.RowKit
open Mv Num Loser Skew Srt
theorem zr4 {P:tz} {t e:tx} {x y:tw} (ht:P.underlying t=some (.array 3 e)) (he:sizeT P e=some 1) (hi:P.underlying e=some (.int .u64)) (hg:P.eqGuardType P.depth t=false) (X Y U V b1 b2:Nat) :
  Bin P .neq t x y (.agg #[gU X,gU Y,gU U]) (.agg #[gU V,gU b1,gU b2]) (.bool (!decide ([X,Y,U] = [V,b1,b2]))):=λw=>by
 have hs:=zaM he w;have h1:∀ d a b,(Op.equalIn (d+1) e (gU a) (gU b)).run P w = .ok (decide (a=b)) w:=λd a b=>by
  unfold gU;rw [run_equalIn_int w d e .u64 .u64 _ _ hi];congr 1;rw [Bool.eq_iff_iff];simp only [beq_iff_eq,decide_eq_true_eq];omega
 simp only [Sem.run_bind,run_eqGuard_agg w .neq t x y _ _ hg,Result.andThen_ok,run_neq_struct];have hE:∀ d,(Op.equalIn (d+1+1) t (.agg #[gU X,gU Y,gU U]) (.agg #[gU V,gU b1,gU b2])).run P w = .ok (decide ([X,Y,U] = [V,b1,b2])) w:=λd=>by
  have hp:∀ (cs:Array tu) (k:Nat) (v:tu),cs[k]?=some v->(part e cs k).run P w = .ok v w:=λcs k v hv=>by
   have ad:plainT P e=true:=(by unfold plainT;rw [hi]);simp only [part,Sem.run_bind,zc0 ad,Result.andThen_ok,Bool.false_eq_true,if_false,hv,Sem.run_pure]
  rw [Op.equalIn];simp only [Sem.run_bind,run_underlying ht,Result.andThen_ok,hs,Std.Legacy.Range.forIn_eq_forIn_range',Std.Legacy.Range.size,Nat.sub_zero,Nat.add_sub_cancel,Nat.div_one,List.range'_succ,List.range'_zero,List.forIn_cons,List.forIn_nil];have p0:∀ J I Q:tu,(part e #[J,I,Q] 0).run P w = .ok J w:=λJ I Q=>hp _ 0 _ rfl;have p1:∀ J I Q:tu,(part e #[J,I,Q] 1).run P w = .ok I w:=λJ I Q=>hp _ 1 _ rfl;have p2:∀ J I Q:tu,(part e #[J,I,Q] 2).run P w = .ok Q w:=λJ I Q=>hp _ 2 _ rfl;by_cases c0:X=V <;> by_cases c1:Y=b1 <;> by_cases c2:U=b2 <;> simp [c0,c1,c2,p0,p1,p2,h1]
 rw [hE 9998];rfl
def redM (S:Mem) (b1 b6 p:Nat):Mem:=(S.set b1 ⟨289,[.pointer (some ⟨p,0,none⟩)],1⟩).set b6 ⟨323,[keyF b1],1⟩
theorem swoK (l:List Nat):Go.Sort.SWO λx y=>decide (cmpB (tkey l x) (tkey l y)<0):=by
 have e:∀ a b,decide (cmpB (tkey l a) (tkey l b)<0)=lessB (tkey l a) (tkey l b):=λa b=>zgd _ _;exact ⟨λa=>by rw [e];exact zap _,λa b c=>by rw [e,e,e];exact za4 _ _ _,λa b c=>by rw [e,e,e];exact Ord.zgz _ _ _⟩
theorem zkN {l e:List Nat} (hs:e.Pairwise λx y=>¬ cmpB (tkey l y) (tkey l x)<0):∀ i j,i<j->j<e.length->lessB (tkey l (e.getD j 0)) (tkey l (e.getD i 0))=false:=λi j I J=>by
 have:=List.pairwise_iff_getElem.1 hs i j vd J I;rw [zaG _ _ _ J,zaG _ _ _ vd,<- zgd];exact decide_eq_false this
theorem zpF (l e o:List Nat) (X:e.Perm (List.range (numP l.length))) (hs:∀ i j,i<j->j<e.length->lessB (tkey l (e.getD j 0)) (tkey l (e.getD i 0))=false) (U:o.length=numP l.length)
  (Q:∀ j,j<e.length->o.getD (e.getD j 0) 0=1+Ord.ups (λa b=>lessB (tkey l a) (tkey l b)) e j):o=red l:=by
 have Y:=zdy (tkey l) _ e X hs;refine List.ext_getElem (by rw [U,zan]) λk V h2=>?_;obtain ⟨j,I,e1⟩:=List.getElem_of_mem (X.mem_iff.2 (List.mem_range.2 (by rw [<- U];exact V)));have J:e.getD j 0=k:=by rw [zaG _ _ _ I];exact e1
 have:=Q j I;rw [Y j I,J,zaG _ _ _ V] at this;rw [this,zd1];rfl
theorem zm9 (l e:List Nat) (i:Nat) (hs:∀ i j,i<j->j<e.length->lessB (tkey l (e.getD j 0)) (tkey l (e.getD i 0))=false) (hi:i<e.length) :
  (if (decide (i=0) || !decide (tkey l (e.getD (i-1) 0)=tkey l (e.getD i 0)))=true then (if i=0 then 0 else 1+Ord.ups (λa b=>lessB (tkey l a) (tkey l b)) e (i-1))+1 else (if i=0 then 0 else 1+Ord.ups (λa b=>lessB (tkey l a) (tkey l b)) e (i-1)))=1+Ord.ups (λa b=>lessB (tkey l a) (tkey l b)) e i:=by
 cases i with
 | zero=>rfl
 | succ i =>
  rw [if_neg (Nat.succ_ne_zero i),Nat.add_sub_cancel,Ord.ups];have I:=hs i (i+1) vd hi;by_cases hk:tkey l (e.getD i 0)=tkey l (e.getD (i+1) 0)
  ·rw [decide_eq_false (Nat.succ_ne_zero i),Bool.false_or,decide_eq_true hk,hk,zap];rfl
  have J:lessB (tkey l (e.getD i 0)) (tkey l (e.getD (i+1) 0))=true:=by
   cases hc:lessB (tkey l (e.getD i 0)) (tkey l (e.getD (i+1) 0)) with
   | true=>rfl
   | false=>exact absurd (zaI _ _ hc I) hk
  rw [decide_eq_false (Nat.succ_ne_zero i),Bool.false_or,decide_eq_false hk,J,if_pos rfl];show 1+_+1=_;omega
theorem zpG (l e o:List Nat) {m i k X:Nat} (Y:e.Perm (List.range m)) (ho:o.length=m) (hi:i<e.length) (q4:∀ j,j<i->o.getD (e.getD j 0) 0=1+Ord.ups (λa b=>lessB (tkey l a) (tkey l b)) e j) (I:e.getD i 0=k) (V:X=1+Ord.ups (λa b=>lessB (tkey l a) (tkey l b)) e i) :
  ∀ j,j<i+1->(o.set k X).getD (e.getD j 0) 0=1+Ord.ups (λa b=>lessB (tkey l a) (tkey l b)) e j:=by
 intro j hj;have Q:∀ q,q<e.length->e.getD q 0<m:=λq hq=>by rw [zaG e q 0 hq];exact List.mem_range.1 (Y.mem_iff.1 (List.getElem_mem hq))
 have hk:=Q i hi;rcases Nat.lt_or_ge j i with h | h
 ·have U:k≠e.getD j 0:=λh'=>by
   have J:e.Nodup:=Y.nodup_iff.2 List.nodup_range;rw [<- I,zaG e i 0 hi,zaG e j 0 vd] at h';exact absurd h'.symm (List.pairwise_iff_getElem.1 J j i vd hi h)
  rw [List.getD_eq_getElem?_getD,List.getElem?_set_ne U,<- List.getD_eq_getElem?_getD,q4 j h]
 obtain rfl:j=i:=by omega
 rw [I,List.getD_eq_getElem?_getD,List.getElem?_set_self vd,V];rfl
theorem zpH (l:List Nat) (h:numP l.length=0):many l=0:=zgB l 0 (λy I=>by have:=zdB l y I;omega) (.inr rfl)
theorem zm_ (p:Nat) (l:List Nat) (S:Mem) (hv:LvR S p l) (hl:l.length<=4096) :
  ACall prog 190 #[.pointer (some ⟨p,0,none⟩)] S λr S'=>∃ u,r = .tuple #[u,.int .i64 (many l:Nat)]/\RdL gU (red l) S u S':=by
 have aK:=hv;obtain ⟨vt,vs,h1,h2,h3,h4⟩:=hv;obtain ⟨ps,pc,rfl,p1,p2,p3⟩:=id h4;have aM:=zeR l.length hl;obtain ⟨m,ad⟩ : ∃ m,m=(places l.length).length:=⟨_,rfl⟩;have am:numP l.length=m:=ad.symm;rw [<- ad] at h2 p1 p2 aM;refine k_E1 84 func190 ?_;refine r2_ ?_;refine vo (zab rfl) rfl rfl ?_;intro U f1;have g1:=f1
 repeat ((with_reducible replace g1:=zaa g1);obtain ⟨g1,_⟩:=g1)
 refine nl_ ?_;refine r11_ ?_;refine ARun.makeSlice (zab rfl) zau rfl rfl vd vd vd vd ?_;intro J ay;have V:=ay
 repeat ((with_reducible replace V:=zaa V);obtain ⟨V,_⟩:=V)
 refine r3_ ?_;simp only [Nat.mul_one,zbw,Int.toNat_natCast];refine r9_ ?_;refine AWP.loop (X:=Nat) (λx=>[(1,.pointer (some ⟨U,0,none⟩)),(4,.slice (some ⟨J,0,none⟩) m m),(18,.int .i64 m),(19,.int .i64 x)]) (λx=>(S.set U ⟨289,[.pointer (some ⟨p,0,none⟩)],1⟩).set J ⟨3,(List.range x).map gI ++ List.replicate (m-x) (gI 0),m⟩) (λx=>x<=m) (λx=>m-x) (0) ⟨rfl,rfl,rfl,rfl,trivial⟩ (Mem.Less.refl _) (Nat.zero_le _) ?_;rintro i hi;(try dsimp only at *);by_cases hc:i<m
 ·refine r6_ ?_;refine cT_ ?_;have a7:((List.range i).map gI ++ List.replicate (m-i) (gI 0)).length=m:=by simp;omega
  refine r19_ ?_;simp only [Nat.zero_add,Nat.mul_one,Int.toNat_natCast];rw [show (Value.int .i64 (i:Int))=gI i from rfl,zqt gI (List.range i) 0 m i i (by simp) hc,<- List.range_succ,show gI i=Value.int .i64 (i:Int) from rfl];refine r5_ ?_;refine ⟨i+1,?_,?_,?_,?_⟩<;>try dsimp only
  ·exact ⟨sq_,sq_,sq_,sq_,trivial⟩
  ·exact Mem.Less.refl _
  ·exact hc
  omega
 obtain rfl:m=i:=by omega
 refine r6_ ?_;refine cF_ ?_;rw [Nat.sub_self,List.replicate_zero,List.append_nil];refine r8_ ?_;refine ARun.alloc (zab rfl) zjT ?_;intro b6 f6;have g6:=f6
 repeat ((with_reducible replace g6:=zaa g6);obtain ⟨g6,_⟩:=g6)
 refine nl_ ?_;refine r3_ ?_;refine kw_ [1,4,18,19,20,6] ?_;refine AWP.less ((redM S U b6 p).set J ⟨3,(List.range m).map gI,m⟩) (by unfold redM keyF;exact zae) ?_;have af:Fresh (redM S U b6 p) J:=zai (zai V ne_) ne_;have o1:(redM S U b6 p).own U=some ⟨289,[.pointer (some ⟨p,0,none⟩)],1⟩:=by unfold redM;exact own_
 have o6:(redM S U b6 p).own b6=some ⟨323,[keyF U],1⟩:=by unfold redM;exact own_
 have I:S.Less (redM S U b6 p):=by unfold redM;exact zae
 obtain ⟨S0,au⟩ : ∃ S0,S0=redM S U b6 p:=⟨_,rfl⟩;rw [<- au] at af o1 o6 I ⊢;refine r4_ ?_;refine ca_ rfl (zl9 (room:=m) (m:=m) (List.range m) (by simp) (λx hx=>List.mem_range.1 hx) vd af (λ_ _=>zbe (by kernel_rfl) _ _) (swoK l) (λw hw x y hx hy=>(zuH x y b6 U p l (roM w) ((vq o6 0 _ (λj v hj=>by rw [Nat.zero_add];exact hj)).ro hw) ((vq o1 0 _ (λj v hj=>by rw [Nat.zero_add];exact hj)).ro hw) ((aK.less I).ro hw) vd vd hl).mono λv _ h=>h.1)) ?_;rintro _ S9 ⟨rfl,e,hp,hs,h9⟩;rw [h9];clear h9 S9;replace hs:=zkN hs;have aq:e.length=m:=by rw [hp.length_eq,List.length_range]
 obtain ⟨T,hT⟩ : ∃ T,T=S0.set J ⟨3,e.map gI,m⟩:=⟨_,rfl⟩;have ak:S0.Less T:=by rw [hT];exact vi _ _ _ af.1
 have oe:T.own J=some ⟨3,e.map gI,m⟩:=by rw [hT];exact vf _ _ _
 rw [<- hT];replace o1:=ak.own o1;replace I:=I.trans ak;clear af o6 ak au hT f6 g6 ay;refine r6_ ?_;refine ARun.makeSlice (zab rfl) zaq rfl rfl vd vd vd vd ?_;intro Q ah;have ae:=ah
 repeat ((with_reducible replace ae:=zaa ae);obtain ⟨ae,_⟩:=ae)
 refine r3_ ?_;simp only [Nat.mul_one,zbw,Int.toNat_natCast];refine r14_ ?_;refine AWP.loop (X:=Nat × List Nat × Nat) (λx=>[(1,.pointer (some ⟨U,0,none⟩)),(4,.slice (some ⟨J,0,none⟩) m m),(7,.slice (some ⟨Q,0,none⟩) m m),(8,.int .i64 x.2.2),(34,.slice (some ⟨J,0,none⟩) m m),(35,.int .i64 m),(36,.int .i64 x.1)]) (λx=>T.set Q ⟨31,x.2.1.map gU,m⟩) (λx=>x.1<=m/\x.2.1.length=m/\x.2.2=(if x.1=0 then 0 else 1+Ord.ups (λa b=>lessB (tkey l a) (tkey l b)) e (x.1-1)) /\ ∀ j,j<x.1->x.2.1.getD (e.getD j 0) 0=1+Ord.ups (λa b=>lessB (tkey l a) (tkey l b)) e j) (λx=>m-x.1) ((0,List.replicate m 0,0)) ⟨sq_,sq_,sq_,sq_,sq_,sq_,sq_,trivial⟩ (by dsimp only;rw [List.map_replicate];exact Mem.Less.refl _) (⟨Nat.zero_le _,by simp,rfl,λj h=>absurd h (Nat.not_lt_zero _)⟩) ?_;rintro ⟨i,o,nm⟩ ⟨q1,q2,q3,q4⟩;(try dsimp only at *);by_cases hc:i<m
 ·refine r6_ ?_;refine cT_ ?_;have Y:T.Less (T.set Q ⟨31,o.map gU,m⟩):=vi _ _ _ ah.1;have ao:=Y.own oe;have a5:=I.trans Y;have a6:=Y.own o1;have aH:e[i]'vd<m:=List.mem_range.1 (hp.mem_iff.1 (List.getElem_mem _));refine r8_ ?_;refine rC (Calm.load zbM rfl (zbZ (g:=gI) i vd ao rw_)) ?_;refine r4_ ?_;obtain ⟨k,hk⟩ : ∃ k,k=e[i]'vd:=⟨_,rfl⟩;rw [<- hk] at aH ⊢;unfold gI;refine r2_ ?_;refine AWP.join (X:=Bool) (λx=>[(1,.pointer (some ⟨U,0,none⟩)),(4,.slice (some ⟨J,0,none⟩) m m),(7,.slice (some ⟨Q,0,none⟩) m m),(8,.int .i64 nm),(9,.int .i64 i),(10,.int .i64 k),(34,.slice (some ⟨J,0,none⟩) m m),(35,.int .i64 m),(36,.int .i64 i),(73,.bool x)]) (λ_=>T.set Q ⟨31,o.map gU,m⟩) (λx=>x=(decide (i=0) || !decide (tkey l (e.getD (i-1) 0)=tkey l k))) ?_ ?_
  ·by_cases h0:i=0
   ·refine dr_ [i0_,i1_,i2_,i3_,i4_,i5_,i6_,i7_,i8_,i9_,i10_,i11_,i12_,i13_,i14_,i15_,i16_,i17_,i19_,i20_,i21_,i22_,i23_,i24_,i25_,i26_,i27_,i28_,i29_,o18_,o30_,i31_,i32_] [] ?_;refine r29_ ?_;refine zac rfl ?_;refine s1_ ?_;refine zad ⟨ny_,?_⟩;refine zac rfl ?_;refine s1_ ?_;refine zad ⟨ny_,?_⟩;refine r3_ ?_;refine ⟨true,?_,?_,?_⟩<;>try dsimp only
    ·rw [decide_eq_true h0];rfl
    ·exact ⟨sq_,sq_,sq_,sq_,sq_,sq_,sq_,sq_,sq_,sq_,trivial⟩
    exact Mem.Less.refl _
   obtain ⟨j,rfl⟩ : ∃ q,i=q+1:=⟨i-1,by omega⟩;obtain ⟨pb,po,rfl,aw⟩:=p3.resolve_left (λe=>by rw [e] at ad;simp at ad;omega);have aE:e[j]'vd<m:=List.mem_range.1 (hp.mem_iff.1 (List.getElem_mem _));obtain ⟨k',al⟩ : ∃ k',k'=e[j]'vd:=⟨_,rfl⟩;rw [<- al] at aE;have k1:T.Knows ⟨pb,po+k*1,none⟩ [.int .i64 (plc l.length k:Int)]:=(by rw [zcu vd];exact (aw k vd).less I);have k2:T.Knows ⟨pb,po+k'*1,none⟩ [.int .i64 (plc l.length k':Int)]:=(by rw [zcu vd];exact (aw k' vd).less I);have a3:=(zcW l.length k vd).2.2;have a9:=(zcW l.length k' vd).2.2;refine dr_ [i0_,i1_,i2_,i3_,i4_,i5_,i6_,i7_,i8_,i9_,i10_,i11_,i12_,i13_,i14_,i15_,i16_,i17_,i19_,i20_,i21_,i22_,i23_,i24_,i25_,i26_,i27_,i28_,i29_,o18_,o30_,i31_,i32_] [] ?_;refine r15_ ?_
   first|refine k_d ?_|refine dL (hc:=Calm.as (show gI (e[j]'vd) = .int .i64 (k':Int) by rw [<- al];rfl) (Calm.load zbM rfl (zbZ (g:=gI) j vd ao rw_))) (h:=?_)
   refine r13_ ?_;refine zac rfl ?_;refine vC 2 false 43 rfl (zab rfl) rfl (zab rfl) zso rfl (zeQ vt l _ (plc l.length k') rfl _ (h3.less (I.trans Y)) vd) ?_;rintro _ _ ⟨rfl,rfl⟩;refine zad ⟨ny_,?_⟩;refine zac rfl ?_;refine vC 2 false 43 rfl (zab rfl) rfl (zab rfl) zso rfl (zeQ vt l _ (plc l.length k) rfl _ (h3.less (I.trans Y)) vd) ?_;rintro _ _ ⟨rfl,rfl⟩;refine zad ⟨ny_,?_⟩
   first|refine k_d ?_|refine dG (hc:=λ_=>vh rfl rfl (zr4 underlying306 zaw underlying31 (by kernel_rfl) _ _ _ _ _ _)) (h:=?_)
   refine r2_ ?_;refine ⟨(!decide (tkey l k'=tkey l k)),?_,?_,?_⟩<;>try dsimp only
   ·rw [decide_eq_false h0,Nat.add_sub_cancel,zaG e j 0 vd,<- al];rfl
   ·exact ⟨sq_,sq_,sq_,sq_,sq_,sq_,sq_,sq_,sq_,sq_,trivial⟩
   exact Mem.Less.refl _
  rintro x hx;intro _ _ aa ac;(try dsimp only at *);refine zbO ?_;refine AWP.sub _ aa (AWP.less _ ac ?_);clear aa ac;have ai:(if x=true then nm+1 else nm)=1+Ord.ups (λa b=>lessB (tkey l a) (tkey l b)) e i:=by rw [hx,q3,hk,<- zaG e i 0 vd];exact zm9 l e i hs vd
  have aJ:e.getD i 0=k:=by rw [zaG e i 0 vd];exact hk.symm
  have a1:=zpd (λa b=>lessB (tkey l a) (tkey l b)) e i;refine AWP.join (X:=Unit) (λ_=>[(1,.pointer (some ⟨U,0,none⟩)),(4,.slice (some ⟨J,0,none⟩) m m),(7,.slice (some ⟨Q,0,none⟩) m m),(8,.int .i64 ((1+Ord.ups (λa b=>lessB (tkey l a) (tkey l b)) e i:Nat):Int)),(10,.int .i64 k),(34,.slice (some ⟨J,0,none⟩) m m),(35,.int .i64 m),(36,.int .i64 i)]) (λ_=>T.set Q ⟨31,o.map gU,m⟩) (λ_=>i<m) ?_ ?_
  ·cases x
   ·simp only [Bool.false_eq_true,if_false] at ai;refine cF_ ?_;refine s1_ ?_;refine ⟨(),?_,?_,?_⟩<;>try dsimp only
    ·exact hc
    ·exact ⟨sq_,sq_,sq_,sq_,sq_,sq_,sq_,sq_,trivial⟩
    exact Mem.Less.refl _
   simp only [if_true] at ai;refine cT_ ?_;refine r5_ ?_;refine ⟨(),?_,?_,?_⟩<;>try dsimp only
   ·exact hc
   ·exact ⟨sq_,sq_,sq_,sq_,sq_,sq_,sq_,sq_,trivial⟩
   exact Mem.Less.refl _
  rintro _ _;intro _ _ aa ac;(try dsimp only at *);refine zbO ?_;refine AWP.sub _ aa (AWP.less _ ac ?_);clear aa ac;obtain ⟨nx,aj⟩ : ∃ nx,nx=1+Ord.ups (λa b=>lessB (tkey l a) (tkey l b)) e i:=⟨_,rfl⟩;rw [<- aj] at ai ⊢;refine r10_ ?_;simp only [Nat.zero_add,Nat.mul_one,Int.toNat_natCast];refine r5_ ?_;refine ⟨(i+1,o.set k nx,nx),?_,?_,?_,?_⟩<;>try dsimp only
  ·exact ⟨sq_,sq_,sq_,sq_,sq_,sq_,sq_,trivial⟩
  ·rw [List.map_set];exact Mem.Less.refl _
  ·exact ⟨hc,by rw [List.length_set];exact q2,by rw [if_neg vd,Nat.add_sub_cancel];exact aj,λj hj=>zpG l e o hp vd vd q4 aJ aj j hj⟩
  omega
 obtain rfl:i=m:=by omega
 refine r6_ ?_;refine cF_ ?_;have aI:=zpF l e o (by rw [am];exact hp) hs vd (by rw [aq];exact q4);have aF:nm=many l:=by rw [q3];split;(exact (zpH l vd).symm);(rw [zib l e (by rw [am];exact hp) hs vd,aq])
 rw [aI,aF];refine r13_ ?_;refine kw_ [1,4,7,8,34,35,36,37,2,3] ?_;refine s1_ ?_;refine ⟨_,_,⟨_,_,rfl,⟨_,_,rfl,rfl,rfl⟩,rfl⟩,Mem.Less.refl _,?_⟩;exact ⟨_,rfl,(I.trans (vi _ _ _ ah.1)),vL (g:=gU) (l:=red l) (vf _ _ _) List.prefix_rfl (by rw [zan,am]) (Nat.le_refl _) vd⟩
theorem zuI {S:Mem} {b:Nat} {T:tx} {J vs:tu} {l:List Nat} {room:Nat} (hb:S.own b=some ⟨T,[J,vs],room⟩) (Q:RowR S J l) (U:IdxR S vs (places l.length)):LvR S b l :=
 ⟨J,vs,vq hb 0 _ (λj v I=>by cases j with | zero=>exact I | succ j=>simp at I),vq hb 1 _ (λj v I=>by cases j with | zero=>exact I | succ j=>simp at I),Q,U⟩

theorem zr5 (p:Nat) (ve:tu) (l e:List Nat) (S:Mem) (hv:LvR S p l) (he:IdxR S ve e) (hp:e.Perm (List.range (numP l.length))) (hl:l.length<=4096) :
  ACall prog 223 #[.pointer (some ⟨p,0,none⟩),ve] S λr S'=>∃ x,Rk l e x/\RdL gZ x S r S':=by
 obtain ⟨vt,vs,h1,h2,h3,h4⟩:=hv;obtain ⟨ta,tc,rfl,_⟩:=id h3;obtain ⟨ea,ec,rfl,e1,e2,e3⟩:=id he;obtain ⟨pa,pc,rfl,p1,p2,p3⟩:=id h4;have ak:e.length=numP l.length:=by rw [hp.length_eq,List.length_range]
 have az:numP l.length<=3000:=zeR l.length hl;have U:(places l.length).length=numP l.length:=rfl;rw [U] at p1 p2 h2;refine k_E2 35 func223 ?_;refine r13_ ?_;refine ARun.makeSlice (zab rfl) zau rfl rfl vd vd vd vd ?_;intro Y Q;have J:=Q
 repeat ((with_reducible replace J:=zaa J);obtain ⟨J,_⟩:=J)
 refine r3_ ?_;have hz:List.replicate (l.length+3) (Value.int .i64 0)=(List.replicate (l.length+3) (0:Int)).map gZ:=by rw [List.map_replicate];rfl
 rw [show ((l.length:Int)+3).toNat=l.length+3 by omega,Nat.mul_one,zbw,hz];refine r9_ ?_;refine AWP.loop (X:=Nat × List Int) (λx=>[(0,.pointer (some ⟨p,0,none⟩)),(5,.slice (some ⟨Y,0,none⟩) (l.length+3) (l.length+3)),(15,.slice ea e.length ec),(16,.int .i64 e.length),(17,.int .i64 x.1)]) (λx=>S.set Y ⟨3,x.2.map gZ,l.length+3⟩) (λx=>x.1<=e.length/\RkI l.length e x.1 x.2) (λx=>e.length-x.1) ((0,List.replicate (l.length+3) 0)) ⟨rfl,rfl,rfl,rfl,rfl,trivial⟩ (Mem.Less.refl _) (⟨Nat.zero_le _,RkI.start _ _⟩) ?_;rintro ⟨i,x⟩ ⟨hi,hr⟩;(try dsimp only at *);by_cases hc:i<e.length
 ·refine r6_ ?_;refine cT_ ?_;have ao:=hr.len;obtain ⟨eb,eo,rfl,ac⟩:=e3.resolve_left (λh=>by rw [h] at hc;exact absurd hc (Nat.not_lt_zero _));have I:e[i]<numP l.length:=List.mem_range.1 (hp.mem_iff.1 (List.getElem_mem hc));obtain ⟨pb,po,rfl,ad⟩:=p3.resolve_left (λh=>by rw [<- U,h] at I;exact absurd I (Nat.not_lt_zero _));have k0:S.Knows ⟨eb,eo+i*1,none⟩ [.int .i64 (e[i] : Int)]:=ac i hc;have k1:S.Knows ⟨pb,po+e[i]*1,none⟩ [.int .i64 (plc l.length e[i] : Int)]:=by rw [zcu I];exact ad e[i] I
  have hb:=(zcW l.length e[i] I).2.2;have V:=hr.step hp hc;rw [zaG e i 0 hc] at V;refine r29_ ?_;simp only [Nat.zero_add,Nat.mul_one,Int.toNat_natCast];refine r5_ ?_;refine ⟨(i+1,x.set (plc l.length e[i]) ((i+1:Nat):Int)),?_,?_,?_,?_⟩<;>try dsimp only
  ·exact ⟨sq_,sq_,sq_,sq_,sq_,trivial⟩
  ·rw [List.map_set];exact Mem.Less.refl _
  ·exact ⟨hc,V⟩
  omega
 obtain rfl:i=e.length:=by omega
 refine r6_ ?_;refine cF_ ?_;refine r12_ ?_;refine ⟨_,_,⟨_,_,rfl,rfl,rfl⟩,Mem.Less.refl _,?_⟩;exact ⟨x,hr,vi _ _ _ Q.1,vL (g:=gZ) (l:=x) (vf _ _ _) List.prefix_rfl hr.len (Nat.le_refl _) vd⟩
def cf2 (l:List Nat) (x:List Int) (a b:Nat):Int:=orL [cmpU (at0 l a) (at0 l b),cmpZ (x.getD (a+1) 0) (x.getD (b+1) 0)]
def cf3 (l:List Nat) (x:List Int) (a b:Nat):Int:=orL [cmpU (at0 l a) (at0 l b),cmpU (at0 l (a+1)) (at0 l (b+1)),cmpZ (x.getD (a+2) 0) (x.getD (b+2) 0)]
theorem zkO (l:List Nat) (x:List Int) (a b:Nat):cf2 l x a b<0 <-> at0 l a<at0 l b\/at0 l a=at0 l b/\x.getD (a+1) 0<x.getD (b+1) 0:=by
 unfold cf2 orL orL orL;have I:=zij (at0 l a) (at0 l b);have Q:=zgK (at0 l a) (at0 l b);have J:=zl7 (x.getD (a+1) 0) (x.getD (b+1) 0);have U:=zjy (x.getD (a+1) 0) (x.getD (b+1) 0);split
 ·split <;> omega
 omega
theorem zuJ (l:List Nat) (x:List Int) (a b:Nat):cf3 l x a b<0 <-> at0 l a<at0 l b\/at0 l a=at0 l b/\(at0 l (a+1)<at0 l (b+1)\/at0 l (a+1)=at0 l (b+1)/\x.getD (a+2) 0<x.getD (b+2) 0):=by
 unfold cf3 orL orL orL orL;have Q:=zij (at0 l a) (at0 l b);have X:=zgK (at0 l a) (at0 l b);have J:=zij (at0 l (a+1)) (at0 l (b+1));have U:=zgK (at0 l (a+1)) (at0 l (b+1));have I:=zl7 (x.getD (a+2) 0) (x.getD (b+2) 0);have V:=zjy (x.getD (a+2) 0) (x.getD (b+2) 0);split
 ·split
  ·split <;> omega
  omega
 omega
theorem zuK (a b c2 X p:Nat) (Y:tu) (l:List Nat) (x:List Int) (S:Mem) (h2:S.Knows ⟨c2,0,none⟩ [.pointer (some ⟨p,0,none⟩)]) (h3:S.Knows ⟨X,0,none⟩ [Y]) (hv:LvR S p l) (hx:Sl 1 i64s S Y x) (Q:x.length=l.length+3) (ha:a<l.length) (hb:b<l.length) (hl:l.length<=4096) :
  ACall prog 248 #[gI a,gI b,.pointer (some ⟨c2,0,none⟩),.pointer (some ⟨X,0,none⟩)] S λr S'=>r = .int .i64 (cf2 l x a b)/\S'=S:=by
 unfold gI at *;obtain ⟨vt,vs,v1,v2,v3,v4⟩:=hv;obtain ⟨xa,xc,rfl,x1,x2,x3⟩:=id hx;obtain ⟨V,xo,rfl,J⟩:=x3.resolve_left (λh=>by rw [h] at Q;simp at Q);have k1:S.Knows ⟨V,xo+(a+1)*1,none⟩ [.int .i64 (x.getD (a+1) 0)]:=by rw [zaG x (a+1) 0 vd];exact J (a+1) vd
 have k2:S.Knows ⟨V,xo+(b+1)*1,none⟩ [.int .i64 (x.getD (b+1) 0)]:=by rw [zaG x (b+1) 0 vd];exact J (b+1) vd
 refine k_E4 33 func248 ?_;refine r6_ ?_;refine dr_ [i0_,i1_,i2_,i3_,i4_,i6_,i7_,i8_,i9_,i10_,i13_,i14_,i15_,i16_,i17_,i18_,i19_,i20_,i21_,i22_,o5_,o11_,o12_,o23_,o24_,o25_,i26_] [] ?_;refine r20_ ?_;refine zac rfl ?_;refine cp_ rfl (zgL vt l _ a rfl _ v3) ?_;refine zad ⟨ny_,?_⟩;refine zac rfl ?_;refine cp_ rfl (zgL vt l _ b rfl _ v3) ?_;refine zad ⟨ny_,?_⟩;refine zac rfl ?_;refine cp_ rfl (zeP (at0 l a) (at0 l b) _) ?_;refine zad ⟨ny_,?_⟩;refine zac rfl ?_;refine cp_ rfl (zpC (x.getD (a+1) 0) (x.getD (b+1) 0) _) ?_;refine zad ⟨ny_,?_⟩;refine zac rfl ?_;refine vD (cs:=[_,_]) (zab rfl) zau rfl rfl rfl rfl ?_;intro ae U;have I:=U
 repeat ((with_reducible replace I:=zaa I);obtain ⟨I,_⟩:=I)
 refine zad ⟨ny_,?_⟩;refine zac rfl ?_;refine ca_ rfl (zuD _ _ _ (zpD own_)) ?_;rintro _ _ ⟨rfl,rfl⟩;refine zad ⟨ny_,?_⟩;refine r4_ ?_;refine ⟨_,S,⟨_,_,rfl,rfl,rfl⟩,zae,?_⟩;exact ⟨rfl,rfl⟩
theorem zr6 (p s z:Nat) (iS iz:Int) (es:iS=s) (ez:iz=z) (vx:tu) (l e:List Nat) (x:List Int) (S:Mem) (hv:LvR S p l) (hx:Sl 1 i64s S vx x) (h1:∀ y ∈ l,1<=y) (he:Ord.SortedE (red l) e) (hr:Rk l e x) (hs:s<l.length) (hz:z<l.length) (an:s % 3≠0) (ak:z % 3=0) (hl:l.length<=4096) :
  ACall prog 225 #[.pointer (some ⟨p,0,none⟩),vx,.int .i64 iS,.int .i64 iz] S λr S'=>r = .bool (Ord.sl l s z)/\S'=S:=by
 subst es ez;have X:=hr.len;obtain ⟨U,vs,v1,v2,v3,v4⟩:=hv;obtain ⟨xa,xc,rfl,x1,x2,x3⟩:=id hx;obtain ⟨xb,xo,rfl,V⟩:=x3.resolve_left (λh=>by rw [h] at X;simp at X);have Y:∀ k,k<x.length->S.Knows ⟨xb,xo+k*1,none⟩ [.int .i64 (x.getD k 0)]:=λk hk=>by rw [zaG x k 0 hk];exact V k hk
 have k1:=Y (s+1) vd;have k2:=Y (z+1) vd;have k3:=Y (s+2) vd;have k4:=Y (z+2) vd;clear Y V;by_cases h3:s % 3=1
 ·have I:decide (cf2 l x s z<0)=Ord.sl l s z:=by rw [Bool.eq_iff_iff,decide_eq_true_eq,zkO,zlU l e x h1 he hr s z hs hz vd vd vd]
  refine k_E4 81 func225 ?_;refine r13_ ?_;refine cT_ ?_;refine s1_ ?_;refine dr_ [i0_,i1_,i2_,i3_,i4_,i6_,i7_,i8_,i9_,i10_,i13_,i14_,i15_,i16_,i17_,i18_,i19_,i20_,i21_,i22_,o5_,o11_,o12_,o23_,o24_,o25_,i26_,i27_] [] ?_;refine r20_ ?_;refine zac rfl ?_;refine cp_ rfl (zgL U l _ s rfl _ v3) ?_;refine zad ⟨ny_,?_⟩;refine zac rfl ?_;refine cp_ rfl (zgL U l _ z rfl _ v3) ?_;refine zad ⟨ny_,?_⟩;refine zac rfl ?_;refine cp_ rfl (zeP (at0 l s) (at0 l z) _) ?_;refine zad ⟨ny_,?_⟩;refine zac rfl ?_;refine cp_ rfl (zpC (x.getD (s+1) 0) (x.getD (z+1) 0) _) ?_;refine zad ⟨ny_,?_⟩;refine zac rfl ?_;refine vD (cs:=[_,_]) (zab rfl) zau rfl rfl rfl rfl ?_;intro ax ad;have Q:=ad
  repeat ((with_reducible replace Q:=zaa Q);obtain ⟨Q,_⟩:=Q)
  refine zad ⟨ny_,?_⟩;refine zac rfl ?_;refine ca_ rfl (zuD _ _ _ (zpD own_)) ?_;rintro _ _ ⟨rfl,rfl⟩;refine zad ⟨ny_,?_⟩;refine dP (hc:=λ_=>vh rfl rfl (zaf (zaA _ _) I)) (h:=?_);refine r5_ ?_;refine ⟨_,S,⟨_,_,rfl,rfl,rfl⟩,zae,?_⟩;exact ⟨rfl,rfl⟩
 have I:decide (cf3 l x s z<0)=Ord.sl l s z:=by rw [Bool.eq_iff_iff,decide_eq_true_eq,zuJ,zsL l e x h1 he hr s z hs hz vd vd vd]
 refine k_E4 81 func225 ?_;refine r13_ ?_;refine cF_ ?_;refine r3_ ?_;refine dr_ [i0_,i1_,i2_,i3_,i4_,i6_,i7_,i8_,i9_,i10_,i13_,i14_,i15_,i16_,i17_,i18_,i20_,i21_,i22_,i23_,i24_,i25_,i28_,i29_,i30_,i31_,i32_,i33_,i34_,i35_,i36_,i37_,o5_,o11_,o12_,o19_,o26_,o27_,o38_,o39_,o40_,i41_,i42_] [] ?_;refine r32_ ?_;refine zac rfl ?_;refine cp_ rfl (zgL U l _ s rfl _ v3) ?_;refine zad ⟨ny_,?_⟩;refine zac rfl ?_;refine cp_ rfl (zgL U l _ z rfl _ v3) ?_;refine zad ⟨ny_,?_⟩;refine zac rfl ?_;refine cp_ rfl (zeP (at0 l s) (at0 l z) _) ?_;refine zad ⟨ny_,?_⟩;refine zac rfl ?_;refine cp_ rfl (zgL U l _ (s+1) om_ _ v3) ?_;refine zad ⟨ny_,?_⟩;refine zac rfl ?_;refine cp_ rfl (zgL U l _ (z+1) om_ _ v3) ?_;refine zad ⟨ny_,?_⟩;refine zac rfl ?_;refine cp_ rfl (zeP (at0 l (s+1)) (at0 l (z+1)) _) ?_;refine zad ⟨ny_,?_⟩;refine zac rfl ?_;refine cp_ rfl (zpC (x.getD (s+2) 0) (x.getD (z+2) 0) _) ?_;refine zad ⟨ny_,?_⟩;refine zac rfl ?_;refine vD (cs:=[_,_,_]) (zab rfl) zau rfl rfl rfl rfl ?_;intro ao ac;have J:=ac
 repeat ((with_reducible replace J:=zaa J);obtain ⟨J,_⟩:=J)
 refine zad ⟨ny_,?_⟩;refine zac rfl ?_;refine ca_ rfl (zuD _ _ _ (zuE own_)) ?_;rintro _ _ ⟨rfl,rfl⟩;refine zad ⟨ny_,?_⟩;refine dP (hc:=λ_=>vh rfl rfl (zaf (zaA _ _) I)) (h:=?_);refine r4_ ?_;refine ⟨_,S,⟨_,_,rfl,rfl,rfl⟩,zae,?_⟩;exact ⟨rfl,rfl⟩
theorem swo2 (l:List Nat) (x:List Int):Go.Sort.SWO λa b=>decide (cf2 l x a b<0):=by
 have e:∀ a b,decide (cf2 l x a b<0)=true <-> at0 l a<at0 l b\/at0 l a=at0 l b/\x.getD (a+1) 0<x.getD (b+1) 0:=λa b=>by rw [decide_eq_true_eq,zkO]
 have e0:∀ a b,decide (cf2 l x a b<0)=false <-> ¬ (at0 l a<at0 l b\/at0 l a=at0 l b/\x.getD (a+1) 0<x.getD (b+1) 0):=λa b=>by rw [<- e];simp
 exact ⟨λa=>by rw [e0];omega,λa b c I J=>by rw [e] at *;omega,λa b c I J=>by rw [e0] at *;omega⟩
theorem zkP (l e:List Nat) (x:List Int) (Q:∀ y ∈ l,1<=y) (U:Ord.SortedE (red l) e) (V:Rk l e x) (z:List Nat) (X:z.Perm (restP 0 l.length)) (hs:z.Pairwise λa b=>¬ cf2 l x b a<0):z.Pairwise (λa b=>Ord.sl l a b=true) :=
 zkE l e x Q U V _ X λi j I J=>by
  have:=List.pairwise_iff_getElem.1 hs i j vd J I;rw [zkO] at this;rw [zaG _ _ _ J,zaG _ _ _ vd];exact this
theorem zuL (p:Nat) (vx:tu) (l e:List Nat) (x:List Int) (S:Mem) (hv:LvR S p l) (hx:Sl 1 i64s S vx x) (h1:∀ y ∈ l,1<=y) (he:Ord.SortedE (red l) e) (hr:Rk l e x) (hl:l.length<=4096) :
  ACall prog 224 #[.pointer (some ⟨p,0,none⟩),vx] S λr S'=>∃ zs,zs.Perm (restP 0 l.length)/\zs.Pairwise (λa b=>Ord.sl l a b=true)/\RdL gI zs S r S':=by
 have al:=hv;obtain ⟨vt,vs,v1,v2,v3,v4⟩:=hv;obtain ⟨ta,tc,rfl,_⟩:=id v3;obtain ⟨xa,xc,rfl,_⟩:=id hx;refine k_E2 24 func224 ?_;refine r2_ ?_;refine vo (zab rfl) rfl rfl ?_;intro b2 f2;have Q:=f2
 repeat ((with_reducible replace Q:=zaa Q);obtain ⟨Q,_⟩:=Q)
 refine nl_ ?_;refine vo (zab rfl) rfl rfl ?_;intro b3 f3;have g3:=f3
 repeat ((with_reducible replace g3:=zaa g3);obtain ⟨g3,_⟩:=g3)
 refine nl_ ?_;refine r3_ ?_;obtain ⟨B,V⟩ : ∃ B,B=(S.set b2 ⟨289,[.pointer (some ⟨p,0,none⟩)],1⟩).set b3 ⟨242,[.slice xa x.length xc],1⟩:=⟨_,rfl⟩;have I:S.Less B:=by rw [V];exact zae
 have o2:B.own b2=some ⟨289,[.pointer (some ⟨p,0,none⟩)],1⟩:=by rw [V];exact own_
 have o3:B.own b3=some ⟨242,[.slice xa x.length xc],1⟩:=by rw [V];exact own_
 rw [<- V];clear V f2 f3 Q g3;refine r12_ ?_;refine AWP.loop (X:=Nat × List Nat × Option (Nat × Nat)) (λx=>[(2,.pointer (some ⟨b2,0,none⟩)),(3,.pointer (some ⟨b3,0,none⟩)),(5,outV x.2.2 x.2.1.length),(6,.int .i64 x.1)]) (λx=>outM B x.2.2 3 (x.2.1.map gI)) (λx=>x.1 % 3=0/\x.1<l.length+3/\x.2.1=restP 0 x.1/\OkO B x.2.2 x.2.1.length) (λx=>l.length+3-x.1) ((0,[],none)) ⟨rfl,rfl,rfl,rfl,trivial⟩ (Mem.Less.refl _) (⟨rfl,by dsimp only;omega,rfl,zcb _⟩) ?_;rintro ⟨i,L,o⟩ ⟨k1,k2,k3,Y⟩;(try dsimp only at *);have q2:=zkX (e:=3) (cs:=L.map gI) Y o2;have aH:S.Less (outM B o 3 (L.map gI)):=I.trans (zbg Y);have aL:L.length<=l.length+3:=by rw [k3,zaL 0 vd];omega
 by_cases hi:i<l.length
 ·refine r12_ ?_;refine cT_ ?_;refine r7_ ?_;refine vk (zab rfl) zau rfl rfl ?_;intro aM U;have J:=U
  repeat ((with_reducible replace J:=zaa J);obtain ⟨J,_⟩:=J)
  refine vJ (zab rfl) zau rfl zc_ (zc3 Y zc_ U) rfl (news:=[_]) rds_ rfl vd (by simp [Value.oneCell']) vd vd ?_;intro ah aq ai;refine r10_ ?_;refine ⟨(i+3,L ++ [i],some (ah,aq)),?_,?_,?_,?_⟩<;>try dsimp only
  ·exact ⟨sq_,sq_,sq_,sq_,trivial⟩
  ·exact zds rfl
  ·exact ⟨by omega,by omega,by rw [k3,zhx 0 i k1],zgc ai rfl⟩
  omega
 refine r12_ ?_;refine cF_ ?_;have hL:L=restP 0 l.length:=by rw [k3,zhy 0 l.length vd i vd k2 k1]
 have ao:∀ k ∈ L,k<l.length:=λk hk=>by rw [hL] at hk;unfold restP at hk;simp at hk;exact hk.1
 cases o
 ·have hn:L = []:=List.length_eq_zero_iff.1 (Y.nil rfl);rw [hn];refine r9_ ?_;refine cp_ rfl (zjz _ _ _ _) ?_;refine r8_ ?_;refine kw_ [2,3,5,6,13,4] ?_;refine s1_ ?_;refine ⟨_,_,⟨_,_,rfl,rfl,rfl⟩,Mem.Less.refl _,?_⟩;exact ⟨[],by rw [<- hL,hn],List.Pairwise.nil,I,Sl.nil _ _ _⟩
 rename_i q;obtain ⟨b,c⟩:=q;obtain ⟨fb,aj⟩:=Y.own b c rfl;refine r9_ ?_;refine ca_ rfl (zl9 (cap:=c) (room:=c) (m:=l.length) L rfl ao vd fb (λ_ _=>zbe (by kernel_rfl) _ _) (swo2 l x) (λw hw a b' ha hb=>(zuK a b' b2 b3 p _ l x (roM w) ((vq o2 0 _ (λj v hj=>by rw [Nat.zero_add];exact hj)).ro hw) ((vq o3 0 _ (λj v hj=>by rw [Nat.zero_add];exact hj)).ro hw) ((al.less I).ro hw) ((hx.less I).ro hw) hr.len ha hb hl).mono λv _ h=>h.1)) ?_;rintro _ S9 ⟨rfl,d',hp,hs,h9⟩;rw [h9];clear h9 S9;rw [hL] at hp;have an:d'.length=L.length:=by rw [hp.length_eq,<- hL]
 refine r9_ ?_;refine ⟨_,_,⟨_,_,rfl,rfl,rfl⟩,Mem.Less.refl _,?_⟩;exact ⟨d',hp,zkP l e x h1 he hr d' hp hs,I.trans (vi _ _ _ fb.1),vL (g:=gI) (l:=d') (vf _ _ _) List.prefix_rfl an aj vd⟩
theorem zuM (l:List Nat) (s z:Nat) (zs:List Nat) (h:Ord.sl l s z=false):(z :: zs).takeWhile (λz=>!Ord.sl l s z)=z :: zs.takeWhile (λz=>!Ord.sl l s z)/\(z :: zs).dropWhile (λz=>!Ord.sl l s z)=zs.dropWhile (λz=>!Ord.sl l s z):=by
 constructor
 ·rw [List.takeWhile_cons_of_pos (by simp [h])]
 rw [List.dropWhile_cons_of_pos (by simp [h])]
theorem zuN (l:List Nat) (s z:Nat) (zs:List Nat) (h:Ord.sl l s z=true):(z :: zs).takeWhile (λz=>!Ord.sl l s z) = []/\(z :: zs).dropWhile (λz=>!Ord.sl l s z)=z :: zs:=by
 constructor
 ·rw [List.takeWhile_cons_of_neg (by simp [h])]
 rw [List.dropWhile_cons_of_neg (by simp [h])]
def mgS (l:List Nat) (s:Nat) (ks zs:List Nat):List Nat:=zs.takeWhile (λz=>!Ord.sl l s z) ++ s :: mg l ks (zs.dropWhile (λz=>!Ord.sl l s z))
theorem src1 {S:Mem} {v:tu} {L:List Nat} (h:IdxR S v L):Src S v L.length (L.map gI):=zwk h
theorem zkQ (p:Nat) (ve:tu) (l e:List Nat) (S:Mem) (hv:LvR S p l) (aG:IdxR S ve e) (h1:∀ y ∈ l,1<=y) (he:Ord.SortedE (red l) e) (hl:l.length<=4096) :
  ACall prog 192 #[.pointer (some ⟨p,0,none⟩),ve] S (RdL gI (Ord.endsR l l.length) S):=by
 have al:=hv;obtain ⟨vt,vs,v1,v2,v3,v4⟩:=hv;obtain ⟨ta,tc,rfl,_⟩:=id v3;obtain ⟨ea,ec,rfl,e1,e2,e3⟩:=id aG;obtain ⟨pa,pc,rfl,p1,p2,p3⟩:=id v4;have Q:e.Perm (List.range (numP l.length)):=by have:=he.1;rw [zan] at this;exact this
 have bg:e.length=numP l.length:=by rw [Q.length_eq,List.length_range]
 have bi:numP l.length<=3000:=zeR l.length hl;have az:(places l.length).length=numP l.length:=rfl;rw [az] at p1 p2 v2;refine k_E2 72 func192 ?_;refine r9_ ?_;refine ca_ rfl (zr5 p _ l e S al aG Q hl) ?_;rintro vx S1 ⟨x,hr,au,hx⟩;refine r7_ ?_;refine ca_ rfl (zuL p vx l e x S1 (al.less au) hx h1 he hr hl) ?_;rintro vz I ⟨zs,ah,aD,V,hz⟩;have aJ:=Ord.zem (zwN l e zs h1 he ah aD) (Ord.zbC l);have a0:∀ z ∈ zs,z<l.length/\z % 3=0:=λz hz=>by have:=ah.mem_iff.1 hz;unfold restP at this;simpa using this
 have br:zs.length<=l.length+3:=by rw [ah.length_eq,zaL 0 vd];omega
 have ak:=au.trans V;replace hx:=hx.less V;clear V ah aD;refine r10_ ?_;refine vY (zab rfl) zau rfl rfl vd vd vd vd ?_;intro aB aF;have ag:=aF
 repeat ((with_reducible replace ag:=zaa ag);obtain ⟨ag,_⟩:=ag)
 refine r12_ ?_;refine AWP.loop (X:=Nat × List Nat × Option (Nat × Nat) × List Nat × tu) (λy=>[(0,.pointer (some ⟨p,0,none⟩)),(5,vx),(6,y.2.2.2.2),(7,outV y.2.2.1 y.2.1.length),(23,.slice ea e.length ec),(24,.int .i64 e.length),(25,.int .i64 y.1)]) (λy=>outM I y.2.2.1 3 (y.2.1.map gI)) (λy=>y.1<=e.length/\y.2.1.length+y.2.2.2.1.length<=l.length+3+y.1/\(∀ z ∈ y.2.2.2.1,z<l.length/\z % 3=0)/\IdxR I y.2.2.2.2 y.2.2.2.1/\OkO I y.2.2.1 y.2.1.length/\y.2.1 ++ mg l (e.drop y.1) y.2.2.2.1=Ord.endsR l l.length) (λy=>e.length-y.1) ((0,[],some (aB,l.length),zs,vz)) ⟨rfl,rfl,rfl,rfl,rfl,rfl,rfl,trivial⟩ (by show (I.set aB _).Less _;simp only [List.map_nil];rw [show ((l.length:Int)).toNat*1=l.length by omega,show madeL [Value.int .i64 0] (Int.toNat 0*1) = [] from List.length_eq_zero_iff.1 (zbf _ _)];exact Mem.Less.refl _) (⟨Nat.zero_le _,by show 0+zs.length<=_;omega,a0,hz,zcA aF (Nat.zero_le _),aJ⟩) ?_;rintro ⟨i,L,o,Z,uz⟩ ⟨q1,q2,q3,q4,q5,q6⟩;(try dsimp only at *);have aK:I.Less (outM I o 3 (L.map gI)):=zbg q5;have bl:S.Less (outM I o 3 (L.map gI)):=ak.trans aK;by_cases hc:i<e.length
 ·refine r6_ ?_;refine cT_ ?_;obtain ⟨eb,eo,rfl,a2⟩:=e3.resolve_left (λh=>by rw [h] at hc;exact absurd hc (Nat.not_lt_zero _));have U:e[i]<numP l.length:=List.mem_range.1 (Q.mem_iff.1 (List.getElem_mem hc));obtain ⟨pb,po,rfl,a8⟩:=p3.resolve_left (λh=>by rw [<- az,h] at U;exact absurd U (Nat.not_lt_zero _));have k0:S.Knows ⟨eb,eo+i*1,none⟩ [.int .i64 (e[i] : Int)]:=a2 i hc;have k1:S.Knows ⟨pb,po+e[i]*1,none⟩ [.int .i64 (plc l.length e[i] : Int)]:=by rw [zcu U];exact a8 e[i] U
  have hb:=zcW l.length e[i] U;rw [List.drop_eq_getElem_cons hc,mg] at q6;obtain ⟨s,hs⟩ : ∃ s,s=plc l.length e[i]:=⟨_,rfl⟩;rw [<- hs] at k1 hb q6;by_cases aI:l.length<=s
  ·refine r11_ ?_;refine r12_ ?_;refine kw_ [0,5,6,7,23,24,25,26,9,10] ?_;refine r12_ ?_;refine cT_ ?_;rw [if_pos aI] at q6;refine r9_ ?_;refine ⟨(i+1,L,o,Z,uz),?_,?_,?_,?_⟩<;>try dsimp only
   ·exact ⟨sq_,sq_,sq_,sq_,sq_,sq_,sq_,trivial⟩
   ·exact Mem.Less.refl _
   ·exact ⟨hc,by omega,q3,q4,q5,q6⟩
   omega
  refine r11_ ?_;refine r24_ ?_;refine cF_ ?_;rw [if_neg aI] at q6;refine r3_ ?_;refine AWP.join (X:=List Nat × Option (Nat × Nat) × List Nat × tu) (λy=>[(0,.pointer (some ⟨p,0,none⟩)),(5,vx),(6,y.2.2.2),(7,outV y.2.1 y.1.length),(10,.int .i64 s),(23,.slice (some ⟨eb,eo,none⟩) e.length ec),(24,.int .i64 e.length),(25,.int .i64 i)]) (λy=>outM I y.2.1 3 (y.1.map gI)) (λy=>y.1.length+y.2.2.1.length<=l.length+3+i/\(∀ z ∈ y.2.2.1,z<l.length/\z % 3=0)/\IdxR I y.2.2.2 y.2.2.1/\OkO I y.2.1 y.1.length/\y.1 ++ s :: mg l (e.drop (i+1)) y.2.2.1=Ord.endsR l l.length) ?_ ?_
  ·refine s1_ ?_;refine AWP.loop (X:=List Nat × Option (Nat × Nat) × List Nat × tu) (λy=>[(0,.pointer (some ⟨p,0,none⟩)),(5,vx),(6,y.2.2.2),(7,outV y.2.1 y.1.length),(10,.int .i64 s),(23,.slice (some ⟨eb,eo,none⟩) e.length ec),(24,.int .i64 e.length),(25,.int .i64 i)]) (λy=>outM I y.2.1 3 (y.1.map gI)) (λy=>y.1.length+y.2.2.1.length<=l.length+3+i/\(∀ z ∈ y.2.2.1,z<l.length/\z % 3=0)/\IdxR I y.2.2.2 y.2.2.1/\OkO I y.2.1 y.1.length/\y.1 ++ mgS l s (e.drop (i+1)) y.2.2.1=Ord.endsR l l.length) (λy=>y.2.2.1.length) ((L,o,Z,uz)) ⟨rfl,rfl,rfl,rfl,rfl,rfl,rfl,rfl,trivial⟩ (Mem.Less.refl _) (⟨q2,q3,q4,q5,q6⟩) ?_;rintro ⟨L2,o2,Z2,aH⟩ ⟨r2,r3,r4,r5,r6⟩;(try dsimp only at *);unfold mgS at r6;cases Z2
   ·obtain ⟨za,zc,rfl,_⟩:=id r4;refine r18_ ?_;refine kw_ [0,5,6,7,10,23,24,25,55] ?_;refine cF_ ?_;refine r4_ ?_;refine ⟨(L2,o2,[],.slice za 0 zc),?_,?_,?_⟩<;>try dsimp only
    ·exact ⟨r2,r3,r4,r5,r6⟩
    ·exact ⟨sq_,sq_,sq_,sq_,sq_,sq_,sq_,sq_,trivial⟩
    exact Mem.Less.refl _
   rename_i z Z2;obtain ⟨zb,zo,zc,rfl,bD,_⟩:=uP r4;have aZ:=(th r4).1;have Y:I.Less (outM I o2 3 (L2.map gI)):=zbg r5;have kz:Mem.Knows (outM I o2 3 (L2.map gI)) ⟨zb,zo+0*1,none⟩ [.int .i64 (z:Int)]:=aZ.less Y;obtain ⟨a6,a5⟩:=r3 z (List.mem_cons_self ..);refine r13_ ?_;refine vC 3 true 46 rfl (zab rfl) rfl (zab rfl) zvo rfl (zr6 p s z _ _ rfl rfl vx l e x _ (al.less (ak.trans Y)) (hx.less Y) h1 he hr vd a6 hb.2.1 a5 hl) ?_;rintro _ _ ⟨rfl,rfl⟩;refine r4_ ?_;refine vu rfl (λJ=>?_) (λJ=>?_)
   ·have J:Ord.sl l s z=false:=nt_ J;obtain ⟨w1,w2⟩:=zuM l s z Z2 J;rw [w1,w2] at r6;have bv:(L2.map gI).length=L2.length:=List.length_map ..;refine r3_ ?_;refine dr_ [i0_,i1_,i2_,i3_,i6_,i7_,o4_,o5_,i8_,i9_] [5] ?_;refine r6_ ?_;refine zac rfl ?_;refine vk (zab rfl) zau rfl rfl ?_;intro bB aE;have ae:=aE
    repeat ((with_reducible replace ae:=zaa ae);obtain ⟨ae,_⟩:=ae)
    refine zad ⟨ny_,?_⟩;refine zac rfl ?_;refine vJ (zab rfl) zau rfl zc_ (zc3 r5 zc_ aE) rfl (news:=[_]) rds_ rfl vd (by simp [Value.oneCell']) (by simp at r2;omega) (by simp at r2;omega) ?_;intro a4 aT am;refine zad ⟨nz_,?_⟩;refine r5_ ?_;refine ⟨(L2 ++ [z],some (a4,aT),Z2,.slice (some ⟨zb,if zc=1 then zo else zo+1*1,none⟩) (Z2.length+1-1) (zc-1)),?_,?_,?_,?_⟩<;>try dsimp only
    ·exact ⟨sq_,sq_,sq_,sq_,sq_,sq_,sq_,sq_,trivial⟩
    ·exact zds rfl
    ·exact ⟨by simp at r2 ⊢;omega,λy hy=>r3 y (List.mem_cons_of_mem _ hy),tk r4,zgc am rfl,by unfold mgS;rw [List.append_assoc];exact r6⟩
    simp
   have J:Ord.sl l s z=true:=nf_ J;obtain ⟨w1,w2⟩:=zuN l s z Z2 J;rw [w1,w2] at r6;refine r4_ ?_;refine ⟨(L2,o2,z :: Z2,.slice (some ⟨zb,zo,none⟩) (Z2.length+1) zc),?_,?_,?_⟩<;>try dsimp only
   ·exact ⟨r2,r3,r4,r5,r6⟩
   ·exact ⟨sq_,sq_,sq_,sq_,sq_,sq_,sq_,sq_,trivial⟩
   exact Mem.Less.refl _
  rintro ⟨L2,o2,Z2,aH⟩ ⟨r2,r3,r4,r5,r6⟩;intro _ _ aw ax;(try dsimp only at *);refine zbO ?_;refine AWP.sub _ aw (AWP.less _ ax ?_);clear aw ax;refine r3_ ?_;refine vk (zab rfl) zau rfl rfl ?_;intro bk aA;have af:=aA
  repeat ((with_reducible replace af:=zaa af);obtain ⟨af,_⟩:=af)
  refine vJ (zab rfl) zau rfl zc_ (zc3 r5 zc_ aA) rfl (news:=[_]) rds_ rfl vd (by simp [Value.oneCell']) vd vd ?_;intro a9 aV am;refine r9_ ?_;refine ⟨(i+1,L2 ++ [s],some (a9,aV),Z2,aH),?_,?_,?_,?_⟩<;>try dsimp only
  ·exact ⟨sq_,sq_,sq_,sq_,sq_,sq_,sq_,trivial⟩
  ·exact zds rfl
  ·exact ⟨hc,by rw [List.length_append];show L2.length+1+_<=_;omega,r3,r4,zgc am rfl,by rw [List.append_assoc];exact r6⟩
  omega
 obtain rfl:i=e.length:=by omega
 refine r6_ ?_;refine cF_ ?_;rw [List.drop_eq_nil_of_le (Nat.le_refl _),mg] at q6;have aM:L.length+Z.length=l.length:=by have:=congrArg List.length q6;rw [List.length_append,(Ord.zbC l).len] at this;exact this
 refine r9_ ?_;refine vH (n:=1) (o:=o) (k:=L.length) (m:=Z.length) (cs:=L.map gI) (news:=Z.map gI) (zab rfl) zau rfl rfl (by rw [List.length_map,Nat.mul_one]) q5 (zwS q5 zc_) rfl ((src1 q4).less aK) (by rw [List.length_map,Nat.mul_one]) (λv hv=>by obtain ⟨y,_,rfl⟩:=List.mem_map.1 hv;rfl) vd vd ?_;intro o' ay;rw [zl8,<- List.map_append,q6];refine r4_ ?_;refine ⟨_,_,⟨_,_,rfl,rfl,rfl⟩,Mem.Less.refl _,?_⟩;exact ⟨ak.trans (zbg ay),zns ay (by rw [(Ord.zbC l).len,aM]) vd⟩
namespace Skew
def Mi (l:List Nat):Nat->List Nat
  | 0=>l
  | n+1=>red (Mi l n)
theorem zsU (l:List Nat) (h:∀ x ∈ l,1<=x):∀ n,∀ x ∈ Mi l n,1<=x
 | 0=>h
 | _+1=>zdA _
theorem zhz (l:List Nat):∃ e:List Nat,e.Perm (List.range (numP l.length)) /\ ∀ i j,i<j->j<e.length->lessB (tkey l (e.getD j 0)) (tkey l (e.getD i 0))=false:=by
 refine ⟨(List.range (numP l.length)).mergeSort λa b=>!lessB (tkey l b) (tkey l a),List.mergeSort_perm _ _,λi j I Q=>?_⟩;have h:=List.pairwise_mergeSort (le:=λa b=>!lessB (tkey l b) (tkey l a)) (λa b c J U=>by
  rw [Bool.not_eq_true'] at *;exact Ord.zgz _ _ _ U J) (λa b=>by
  cases J:lessB (tkey l b) (tkey l a) with
  | true=>rw [zge _ _ J];rfl
  | false=>rfl) (List.range (numP l.length))
 have:=List.pairwise_iff_getElem.1 h i j vd Q I;rw [zaG _ _ _ Q,zaG _ _ _ vd];simpa using this
theorem zuO (l:List Nat) (hm:many l=numP l.length) (j k:Nat) (X:j<numP l.length) (hk:k<numP l.length) (h:(red l).getD j 0=(red l).getD k 0):j=k:=by
 obtain ⟨e,Q,hs⟩:=zhz l;have ac:e.length=numP l.length:=by rw [Q.length_eq,List.length_range]
 have hn:=zdy (tkey l) _ e Q hs;have I:∀ i,i<e.length->nameOf (tkey l) (numP l.length) (e.getD i 0)=i+1:=by
  intro i hi;have ae:=zib l e Q hs vd;have:=zkD (λa b=>lessB (tkey l a) (tkey l b)) e (e.length-1) vd i vd;unfold nameOf;rw [<- hn i hi,this];omega
 have J:∀ a,a<numP l.length -> ∃ i,i<e.length/\e.getD i 0=a:=by
  intro a U;obtain ⟨i,hi,rfl⟩:=List.getElem_of_mem (Q.mem_iff.2 (List.mem_range.2 U));exact ⟨i,hi,by rw [List.getD_eq_getElem?_getD,List.getElem?_eq_getElem hi];rfl⟩
 have Y:∀ a,a<numP l.length->(red l).getD a 0=nameOf (tkey l) (numP l.length) a:=λa U=>by
  rw [List.getD_eq_getElem?_getD,List.getElem?_eq_getElem (by rw [zan];exact U),Option.getD_some,zd1]
 obtain ⟨i,hi,rfl⟩:=J j X;obtain ⟨i',V,rfl⟩:=J k hk;rw [Y _ X,Y _ hk,I i hi,I i' V] at h;have:i=i':=by omega
 rw [this]
theorem zr7 (l o:List Nat) (m i x:Nat) (hm:many l=numP l.length) (Q:numP l.length=m) (Y:o.length=m) (hi:i<m) (U:x=(red l).getD i 0) (h:∀ j,j<i->o.getD ((red l).getD j 0-1) 0=j):∀ j,j<i+1->(o.set (x-1) i).getD ((red l).getD j 0-1) 0=j:=by
 intro j V;have hb:∀ k,k<m->1<=(red l).getD k 0/\(red l).getD k 0<=m:=λk hk=>by
  have I:k<(red l).length:=by rw [zan];omega
  rw [List.getD_eq_getElem?_getD,List.getElem?_eq_getElem I,Option.getD_some];exact ⟨zdA l _ (List.getElem_mem I),by rw [<- Q];exact zdB l _ (List.getElem_mem I)⟩
 have X:=hb i hi;have b2:=hb j vd;rcases Nat.lt_or_ge j i with h' | h'
 ·have J:x-1≠(red l).getD j 0-1:=λe=>by
   have:=zuO l hm i j vd vd vd;omega
  rw [List.getD_eq_getElem?_getD,List.getElem?_set_ne J,<- List.getD_eq_getElem?_getD,h j h']
 obtain rfl:j=i:=by omega
 rw [<- U,List.getD_eq_getElem?_getD,List.getElem?_set_self vd];rfl
theorem zr8 (l o:List Nat) (hm:many l=numP l.length) (J:o.length=numP l.length) (h:∀ j,j<numP l.length->o.getD ((red l).getD j 0-1) 0=j):Ord.SortedE (red l) o:=by
 obtain ⟨e,I,hs⟩:=zhz l;exact bottom l e o I hs hm J h
end Skew
end
section
open Go.RowKit Go.Shelf
open Mv
attribute [local go_sem] Oper.semAt_some
def pV (p:Nat):tu:=.pointer (some ⟨p,0,none⟩)
set_option maxRecDepth 100000 in
theorem zuP (l Bs b off cap n:Nat) (X:Nat->Nat) (Q:n<=16384) (J:Nat->tv->Prop) (W:tv)
  (V:∀ k W,J k W->W.cell? ⟨Bs,0,none⟩=some (.slice (some ⟨b,off,none⟩) n cap) /\ ∀ j,j<n->W.cell? ⟨b,off+j,none⟩=some (pV (X j)))
  (hY:∀ k W,k<n->J k W->YieldAt Fence.wide 4 prog l #[.int .i64 ((n-1-k:Nat):Int),pV (X (n-1-k))] W λe W'=>e = .returned (.bool true)/\J (k+1) W') (h0:J 0 W) :
  CallsIn Fence.wide 5 prog 222 #[.func (.yield l) #[] #[],.pointer (some ⟨Bs,0,none⟩)] W λe W'=>(∃ v,e = .returned v)/\J n W':=by
 refine callsIn_of_wp func222 rfl trivial ?_ rfl;simp only [ntmps222,List.size_toArray,List.length_cons,List.length_nil,Nat.reduceAdd,Nat.reduceSub,Array.replicate_succ,Array.replicate_zero,List.push_toArray,List.append_toArray,List.nil_append,List.cons_append];have ak:=(V 0 W h0).1
 gi_wp2
 gi_loopw [3] (λi wr=>∃ k:Nat,k<=n/\i = .int .i64 ((n:Int)-1-k)/\J k wr)
  (λi _=>(intOf i+1).toNat)
 case atStart=>exact ⟨0,Nat.zero_le _,by simp,h0⟩
 case round =>
  obtain ⟨k,hk,rfl,I⟩:=hrel;by_cases U:k<n
  ·obtain ⟨m,hm⟩ : ∃ m,n-1-k=m:=⟨_,rfl⟩;have ac:(n:Int)-1-k=m:=(by omega);have ad:m<n:=(by omega);obtain ⟨fn,tmps,assign,body,hy,hR⟩:=hY k wr U I;rw [hm] at hy;dsimp only [pV] at hy;rw [ac];have aj:wr.cell? ⟨b,off+m,none⟩=some (.pointer (some ⟨X m,0,none⟩)):=(V k wr I).2 m ad;have ae:=(V k wr I).1
   gi_wp2
   refine hR.mono ?_;rintro e W3 ⟨rfl,Y⟩
   gi_wp2
   go_roundw
   case rel=>exact ⟨k+1,by omega,by simp;omega,Y⟩
   case measure=>simp [intOf]
  obtain rfl:k=n:=by omega
  have e1:(k:Int)-1-k = -1:=by omega
  rw [e1]
  gi_wp2
  go_end0
  exact ⟨⟨_,rfl⟩,I⟩
theorem zkR (a:Option Addr) (n c:Nat) (S:Mem):ACall prog 191 #[.slice a n c] S λr S'=>∃ b,Fresh S b/\r = .func (.func 222) #[] #[.pointer (some ⟨b,0,none⟩)]/\S'=S.set b ⟨288,[.slice a n c],1⟩:=by
 refine k_E1 4 func191 ?_;refine r2_ ?_;refine vo (zab rfl) rfl rfl ?_;intro J f1;have I:=f1
 repeat ((with_reducible replace I:=zaa I);obtain ⟨I,_⟩:=I)
 refine nl_ ?_;refine r10_ ?_;refine ⟨_,_,⟨_,_,rfl,rfl,rfl⟩,Mem.Less.refl _,?_⟩;exact ⟨J,f1,rfl,rfl⟩
theorem zwn (t:Array tu) (h:t.size=56):∃ (x0:tu) (x1:tu) (x2:tu) (x3:tu) (x4:tu) (x5:tu) (x6:tu) (x7:tu) (x8:tu) (x9:tu) (U:tu) (aG:tu) (aR:tu) (ad:tu) (J:tu) (aD:tu) (aB:tu) (ao:tu) (aa:tu) (au:tu) (am:tu) (aw:tu) (ai:tu) (av:tu) (I:tu) (aq:tu) (aC:tu) (aM:tu) (ae:tu) (aL:tu) (ax:tu) (aE:tu) (aQ:tu) (ay:tu) (aF:tu) (aA:tu) (Y:tu) (aP:tu) (aj:tu) (aO:tu) (aJ:tu) (az:tu) (ag:tu) (V:tu) (al:tu) (an:tu) (af:tu) (ah:tu) (aN:tu) (X:tu) (ac:tu) (aK:tu) (Q:tu) (ak:tu) (aH:tu) (aI:tu),t = #[x0,x1,x2,x3,x4,x5,x6,x7,x8,x9,U,aG,aR,ad,J,aD,aB,ao,aa,au,am,aw,ai,av,I,aq,aC,aM,ae,aL,ax,aE,aQ,ay,aF,aA,Y,aP,aj,aO,aJ,az,ag,V,al,an,af,ah,aN,X,ac,aK,Q,ak,aH,aI]:=by
 have:=zqu t 56 h;simp only [List.range,List.range.loop,List.map_cons,List.map_nil] at this;exact ⟨_,_,_,_,_,_,_,_,_,_,_,_,_,_,_,_,_,_,_,_,_,_,_,_,_,_,_,_,_,_,_,_,_,_,_,_,_,_,_,_,_,_,_,_,_,_,_,_,_,_,_,_,_,_,_,_,this⟩
end
end Go.Proofs.YtbgjkpkakoggbaaGreatDoor
