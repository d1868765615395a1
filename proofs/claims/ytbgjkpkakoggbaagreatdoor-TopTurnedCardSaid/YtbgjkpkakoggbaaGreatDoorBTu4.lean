/-
  Texts that belong together: Rec6, Rec7, RecMath3, RecMath4, TlMath, Sto1, Pool1, Pool3, Pool4, Pool5, Pool6, Pool7, Sto2, Sto3, Sto4, Sto5, Pool8, Pool9, Pool10, Pool11, Pool12, Pool13, Pool14, Arn, Rdr1, Gro, Rdr2, Wtr1, Wtr2, Wtr3, Wtr4.
-/
import Derived.Test.YtbgjkpkakoggbaaGreatDoorBTu3
set_option maxHeartbeats 8000000
set_option maxRecDepth 100000
set_option linter.unusedVariables false
set_option linter.unusedSimpArgs false
set_option linter.unusedSectionVars false
namespace Go.Proofs.YtbgjkpkakoggbaaGreatDoor
open _root_.Go.Proofs.Tryz
section
open Go.RowKit
open Mv Disk Num
namespace Rec
theorem ztw {d:D} {s:tt} (X:Right d) {w c:Nat} (h:headD d s=(w,c,0)) :
  has d.ext s=true/\w<=8/\c<=65536/\sec (exOf d.ext s)=needN w c:=by
 unfold headD at h;by_cases J:(readD d s 0).2=0
 ·rw [if_neg vd] at h;obtain ⟨U,I⟩:=zfa X J;by_cases V:(formP (readD d s 0).1).2.2=0
  ·rw [if_neg vd] at h;obtain ⟨f1,f2,Q⟩:=zot I;split at h
   ·cases h
   rename_i C;rw [h] at C Q;obtain ⟨n1,Y⟩:=zfI (c:=c) (Q rfl);refine ⟨(zeB U).1,Q rfl,?_,?_⟩
   ·rcases Nat.lt_or_ge 65536 c with hc | hc
    ·exact absurd (.inl (n1.2 hc)) C
    exact hc
   have C:=not_or.1 C;have Z:((sec (exOf d.ext s):Nat):Int)=((needN w c:Nat):Int):=by
    by_cases q:((sec (exOf d.ext s):Nat):Int)=((needN w c:Nat):Int)
    ·exact q
    exact absurd q C.2
   omega
  rw [if_pos V] at h;have:=congrArg (λp=>p.2.2) h;exact absurd this V
 rw [if_pos J] at h;have:=congrArg (λp=>p.2.2) h;exact absurd this J
theorem zlk {d:D} {s:tt} (I:Right d) {n:Nat} (J:has d.ext s=true) (U:sec (exOf d.ext s)=n) {i:Nat} (hi:i<n):(readD d s (i:Int)).2=0/\(readD d s (i:Int)).1.size=64:=by
 have Q:(placeD d s (i:Int)).2=0:=by unfold placeD;rw [if_pos J,if_neg (by rw [U];omega)]
 have C:(readD d s (i:Int)).2=0:=by rw [zcL,if_neg (by simpa using Q)]
 exact ⟨C,(zfa I C).2⟩
theorem zi3 {d:D} {s:tt} (I:Right d) (J:(openD d).2=0) {n:Nat} (C:has d.ext s=true) (Q:sec (exOf d.ext s)=n):∀ k,k+1<=n->(bodyL d s k).length=64*k
 | 0,_=>rfl
 | k+1,h=>by
  unfold bodyL;rw [List.length_append,zi3 I J C Q k vd,zfb J,St.zbc,(zlk I C Q (i:=k+1) vd).2];omega
def bodyV (p:Nat × tt × Int):tu:=.tuple #[.int .i64 (p.1:Nat),.string p.2.1,.int .i64 p.2.2]
theorem zqQ (v:tu) (d:D) (s:tt) (text:Bool) (S:Mem) (hd:DkR S v d) (hz:Dz d) :
  ACall prog 28 #[v,.string s,.bool text] S λr S'=>r=bodyV (bodyP d s text)/\S'=S:=by
 have C:=zew v d S hd hz;obtain ⟨pe,ce,pw,cw,rfl,hE,hW⟩:=id hd;unfold bodyP;have al:=zmN (d:=d) (s:=s);have ay:=zfc (d:=d) (s:=s);have ax:=λh=>@zi3 d s h;have az:=@zfb d;rcases zdN d with ⟨ho,hR⟩ | ⟨ho,hR,aO⟩ | ⟨ho,hR,aO⟩ <;> rw [ho] at C al ay ax az
 ·rw [al (by simp),if_pos (by simp)];refine k_E3 78 func28 ?_;refine r2_ ?_;refine k_b5 rfl ?_;intro b3 Z;have J:=Z
  repeat ((with_reducible replace J:=zaa J);obtain ⟨J,_⟩:=J)
  refine nl_ ?_;refine r8_ ?_;refine ca_ rfl (C.frame Z) ?_;rintro _ S1 ⟨M,⟨p,oE,oW,I,rfl,hM⟩,ae,Y⟩;rw [Y];clear Y S1;have ah:S.Less M:=by rw [hM];exact I.less
  refine r14_ ?_;refine cT_ ?_;refine r10_ ?_;refine ⟨_,S,⟨_,_,rfl,⟨_,_,rfl,⟨_,_,rfl,rfl,rfl⟩,rfl⟩,rfl⟩,zae,?_⟩;exact ⟨rfl,rfl⟩
 ·rw [al (by simp),if_pos (by simp)];refine k_E3 78 func28 ?_;refine r2_ ?_;refine k_b5 rfl ?_;intro b3 Z;have J:=Z
  repeat ((with_reducible replace J:=zaa J);obtain ⟨J,_⟩:=J)
  refine nl_ ?_;refine r8_ ?_;refine ca_ rfl (C.frame Z) ?_;rintro _ S1 ⟨M,⟨p,oE,oW,I,rfl,hM⟩,ae,Y⟩;rw [Y];clear Y S1;have ah:S.Less M:=by rw [hM];exact I.less
  refine r14_ ?_;refine kw_ [0,1,2,3,6,7,8,9,10,26] ?_;refine cT_ ?_;refine r10_ ?_;refine ⟨_,S,⟨_,_,rfl,⟨_,_,rfl,⟨_,_,rfl,rfl,rfl⟩,rfl⟩,rfl⟩,zae,?_⟩;exact ⟨rfl,rfl⟩
 rw [ay rfl];have Q:=λp M h=>zhe p d s M h hR;have aQ:=@ztw d s hR;rcases hw:headD d s with ⟨w,c,e⟩
 rw [hw] at Q;simp only [formV] at Q;by_cases he:e=0
 ·subst he;rw [if_neg (by simp)];obtain ⟨k1,k2,k3,k4⟩:=aQ hw;have aD:=λi=>@zlk d s hR (needN w c) k1 k4 i;have aE:=ax hR rfl k1 k4;have V:=λM=>zfH (w:Int) c M;rw [(zfI k2).2 k3] at V;simp only [needV] at V;have an:=λM=>zfG w M k2;obtain ⟨m1,m2,m3⟩:=zef k2 k3;have a3:=zbl w c;have a7:=zhP k2 k3;have a4:eachN w*c<=64*(needN w c-1):=by unfold needN;omega
  have aP:∀ k,bodyL d s (k+1)=bodyL d s k ++ (readD d s ((k+1:Nat):Int)).1.data.toList:=λk=>by rw [bodyL,az rfl]
  have aN:bodyL d s 0 = []:=rfl;generalize needN w c=n at *;generalize bodyL d s=bL at *;generalize eachN w=ew at *;have a0:(decide (w=0))=true <-> w=0:=by simp
  by_cases ht:text≠decide (w=0)
  ·rw [if_pos ht];have hb:(!(text == decide (w=0)))=true:=(by decide:∀ a b:Bool,a≠b->(!(a == b))=true) _ _ ht;refine k_E3 78 func28 ?_;refine r2_ ?_;refine k_b5 rfl ?_;intro b3 Z;have J:=Z
   repeat ((with_reducible replace J:=zaa J);obtain ⟨J,_⟩:=J)
   refine nl_ ?_;refine r8_ ?_;refine ca_ rfl (C.frame Z) ?_;rintro _ S1 ⟨M,⟨p,oE,oW,I,rfl,hM⟩,ae,Y⟩;rw [Y];clear Y S1;have ah:S.Less M:=(by rw [hM];exact I.less);have aa:RdV M p d:=(by rw [hM];exact I.rd (zaB hR).1 (zaB hR).2);refine r14_ ?_;refine cF_ ?_;refine r6_ ?_;refine cp_ rfl (Q p _ (aa.less zae)) ?_;refine r18_ ?_;refine kw_ [0,1,2,3,6,7,8,9,10,26,11,12,35] ?_;refine cF_ ?_;refine r4_ ?_;refine rC (vh rfl rfl (zaf (zaJ _ _) (show decide ((w:Int)=0)=decide (w=0) from by rw [decide_eq_decide];omega))) ?_;refine rC (vh rfl rfl (zaf (zdl _ _ underlying4) hb)) ?_;refine r3_ ?_;refine cT_ ?_;refine r10_ ?_;refine ⟨_,S,⟨_,_,rfl,⟨_,_,rfl,⟨_,_,rfl,rfl,rfl⟩,rfl⟩,rfl⟩,zae,?_⟩;exact ⟨rfl,rfl⟩
  rw [if_neg ht];have hb:(!(text == decide (w=0)))=false:=(by decide:∀ a b:Bool,¬ a≠b->(!(a == b))=false) _ _ ht;have ao:∀ l:List UInt8,l.length=64*(n-1)->((bs l).extract (((ew*c:Nat):Int)).toNat (bs l).size).data.toList=l.drop (ew*c):=λl hl=>by
   rw [Lib.extract_data,bs_data,za2,Int.toNat_natCast,List.take_of_length_le (by rw [List.length_drop];omega)]
  have aq:∀ l:List UInt8,(bs l).extract 0 (((ew*c:Nat):Int)).toNat=bs (l.take (ew*c)):=λl=>by
   apply zbQ;rw [Lib.extract_data,bs_data,bs_data,Int.toNat_natCast];simp
  refine k_E3 78 func28 ?_;refine r2_ ?_;refine k_b5 rfl ?_;intro b3 Z;have J:=Z
  repeat ((with_reducible replace J:=zaa J);obtain ⟨J,_⟩:=J)
  refine nl_ ?_;refine r8_ ?_;refine ca_ rfl (C.frame Z) ?_;rintro _ S1 ⟨M,⟨p,oE,oW,I,rfl,hM⟩,ae,Y⟩;rw [Y];clear Y S1;have ah:S.Less M:=by rw [hM];exact I.less
  have aa:RdV M p d:=by rw [hM];exact I.rd (zaB hR).1 (zaB hR).2
  refine r14_ ?_;refine cF_ ?_;refine r6_ ?_;refine cp_ rfl (Q p _ (aa.less zae)) ?_;refine r18_ ?_;refine kw_ [0,1,2,3,6,7,8,9,10,26,11,12,35] ?_;refine cF_ ?_;refine r4_ ?_;refine rC (vh rfl rfl (zaf (zaJ _ _) (show decide ((w:Int)=0)=decide (w=0) from by rw [decide_eq_decide];omega))) ?_;refine rC (vh rfl rfl (zaf (zdl _ _ underlying4) hb)) ?_;refine r3_ ?_;refine cF_ ?_;refine r7_ ?_;refine cp_ rfl (V _) ?_;refine r9_ ?_;refine ARun.alloc (zab rfl) zjP ?_;intro U ai;have aj:=ai
  repeat ((with_reducible replace aj:=zaa aj);obtain ⟨aj,_⟩:=aj)
  refine nl_ ?_;refine r2_ ?_;have av:M.Less (M.set b3 (bx d pe ce pw cw)):=vi _ _ _ ae.1;have au:=Bl.R.new (M.set b3 (bx d pe ce pw cw)) U;refine r6_ ?_;generalize hB:(M.set b3 (bx d pe ce pw cw))=B at *;refine s1_ ?_;refine AWP.loop (X:=Nat × Mem) (λx=>[(1,.string s),(9,.pointer (some ⟨p,0,none⟩)),(11,.int .i64 (w:Int)),(12,.int .u64 (c:Int)),(13,.int .i64 (n:Int)),(15,.pointer (some ⟨U,0,none⟩)),(16,.int .i64 ((x.1+1:Nat):Int))]) (λx=>x.2) (λx=>x.1+1<=n/\Bl.R B U (bL x.1) x.2) (λx=>n-x.1) ((0,B.set U (Bl.blk (.pointer none) (.slice none 0 0)))) ⟨rfl,rfl,rfl,rfl,rfl,rfl,rfl,trivial⟩ (Mem.Less.refl _) (⟨by show 0+1<=n;omega,by rw [aN];exact au⟩) ?_;rintro ⟨i,T⟩ ⟨hi,hT⟩;(try dsimp only at *);have aJ:=hT.less ai;by_cases aC:i+1<n
  ·refine r8_ ?_;refine cT_ ?_;obtain ⟨r1,r2⟩:=aD (i+1) aC;have af:=aE i vd;have aF:=zhK p d s ((i+1:Nat):Int) T (aa.less (av.trans aJ)) hR;rw [show readD d s ((i+1:Nat):Int)=((readD d s ((i+1:Nat):Int)).1,0) from Prod.ext rfl r1] at aF;refine r9_ ?_;refine cp_ rfl (aF) ?_;refine r9_ ?_;refine ca_ rfl (Bl.WriteString _ U _ T (readD d s ((i+1:Nat):Int)).1 ai hT vd) ?_;rintro _ T2 ⟨rfl,ag⟩;rw [<- aP i] at ag;refine r3_ ?_;refine kw_ [1,9,11,12,13,15,16,52,17] ?_;refine r6_ ?_;refine ⟨(i+1,T2),?_,?_,?_,?_⟩<;>try dsimp only
   ·exact ⟨rfl,rfl,rfl,rfl,rfl,rfl,zah vd,trivial⟩
   ·exact Mem.Less.refl _
   ·exact ⟨aC,ag⟩
   omega
  refine r8_ ?_;refine cF_ ?_;obtain rfl:i=n-1:=by omega
  have af:=aE (n-1) vd;have aZ:(bs (bL (n-1))).size=64*(n-1):=by rw [za2,af]
  refine r8_ ?_;refine cp_ rfl (an _) ?_;refine r6_ ?_;rw [m3];refine r3_ ?_;refine ca_ rfl (Bl.String _ U _ T ai hT vd) ?_;rintro _ T2 ⟨rfl,ag⟩;have aA:=ziY ((bs (bL (n-1))).extract (((ew*c:Nat):Int)).toNat (bs (bL (n-1))).size) T2 (by rw [ByteArray.size_extract];omega);rw [ao _ af] at aA;have aB:S.Lo T2:=(ah.trans av).lo.trans (ag.lo ai);refine r2_ ?_;refine cp_ rfl (aA) ?_;refine r3_ ?_;cases a2:zeroL ((bL (n-1)).drop (ew*c))
  ·rw [if_pos rfl];refine cT_ ?_;refine AWP.lo S aB ?_;refine r9_ ?_;refine ⟨_,S,⟨_,_,rfl,⟨_,_,rfl,⟨_,_,rfl,rfl,rfl⟩,rfl⟩,rfl⟩,(Mem.Less.refl _),?_⟩;exact ⟨rfl,rfl⟩
  rw [if_neg (by simp)];refine cF_ ?_;refine r3_ ?_;refine dr_ [i0_,i2_,o1_,i3_,i4_,i5_,i6_] [] ?_;refine r2_ ?_;refine zac rfl ?_;refine cp_ rfl (Bl.StringF _ U _ T2 ag vd) ?_;refine zad ⟨ny_,?_⟩;refine r6_ ?_;refine AWP.lo S aB ?_;refine s1_ ?_;refine ⟨_,S,⟨_,_,rfl,⟨_,_,rfl,⟨_,_,rfl,rfl,rfl⟩,rfl⟩,rfl⟩,(Mem.Less.refl _),?_⟩;exact ⟨by unfold bodyV;rw [<- aq];rfl,rfl⟩
 rw [if_pos he];refine k_E3 78 func28 ?_;refine r2_ ?_;refine k_b5 rfl ?_;intro b3 Z;have J:=Z
 repeat ((with_reducible replace J:=zaa J);obtain ⟨J,_⟩:=J)
 refine nl_ ?_;refine r8_ ?_;refine ca_ rfl (C.frame Z) ?_;rintro _ S1 ⟨M,⟨p,oE,oW,I,rfl,hM⟩,ae,Y⟩;rw [Y];clear Y S1;have ah:S.Less M:=by rw [hM];exact I.less
 have aa:RdV M p d:=by rw [hM];exact I.rd (zaB hR).1 (zaB hR).2
 refine r7_ ?_;refine kw_ [0,1,2,3,6,7,8,9,10] ?_;refine r7_ ?_;refine cF_ ?_;refine r6_ ?_;refine cp_ rfl (Q p _ (aa.less zae)) ?_;refine r18_ ?_;refine cT_ ?_;refine r11_ ?_;refine ⟨_,S,⟨_,_,rfl,⟨_,_,rfl,⟨_,_,rfl,rfl,rfl⟩,rfl⟩,rfl⟩,zae,?_⟩;exact ⟨rfl,rfl⟩
end Rec
end
section
open Go.RowKit
open Mv Disk Num
namespace Rec
noncomputable def readTP (d:D) (s:tt):tt × Int:=((bodyP d s true).2.1,(bodyP d s true).2.2)
theorem zfu (v:tu) (d:D) (s:tt) (S:Mem) (hd:DkR S v d) (J:Dz d) :
  ACall prog 11 #[v,.string s] S λr S'=>r = .tuple #[.string (readTP d s).1,.int .i64 (readTP d s).2]/\S'=S:=by
 have hb:=λM h=>zqQ v d s true M h J;unfold readTP;generalize bodyP d s true=q at *;simp only [bodyV] at hb;obtain ⟨Q,ce,Y,Z,rfl,V,U⟩:=id hd;refine k_E2 18 func11 ?_;refine r2_ ?_;refine k_b5 rfl ?_;intro X I;have C:=I
 repeat ((with_reducible replace C:=zaa C);obtain ⟨C,_⟩:=C)
 refine nl_ ?_;refine r8_ ?_;refine cp_ rfl (hb _ (hd.less zae)) ?_;refine r18_ ?_;refine ⟨_,S,⟨_,_,rfl,⟨_,_,rfl,rfl,rfl⟩,rfl⟩,zae,?_⟩;exact ⟨rfl,rfl⟩
end Rec
end
section
open Go.RowKit
open Mv Disk Num
namespace Rec
theorem zou {d:D} {s:tt} {w c:Nat} {body:tt} (h:(putP d s w c body).2=0) :
  (newD d s (needN w c:Nat)).2=0/\(putTo (newD d s (needN w c:Nat)).1 s (padS body) (needN w c-1)).2=0/\putP d s w c body=sealD (putTo (newD d s (needN w c:Nat)).1 s (padS body) (needN w c-1)).1 s (headS w c):=by
 unfold putP at h ⊢;by_cases I:(newD d s (needN w c:Nat)).2=0
 ·rw [if_neg vd] at h ⊢;by_cases C:(putTo (newD d s (needN w c:Nat)).1 s (padS body) (needN w c-1)).2=0
  ·rw [if_neg vd];exact ⟨I,C,rfl⟩
  rw [if_pos C] at h;exact absurd h C
 rw [if_pos I] at h;exact absurd h I
theorem ztx {d:D} {s:tt} {w c:Nat} {body:tt} (I:Right d) (Q:d.down=false) (hf:d.fuse<=9223372036854775807) (hk:w<=8) (hc:c<=65536) (hb:body.size=eachN w*c) (h:(putP d s w c body).2=0) :
  ∃ z,putP d s w c body=(z,0)/\Right z/\z.down=false/\z.fuse<=9223372036854775807/\z.waits = []/\FileR z s w c body /\ ∀ o k,o≠s->readO z o k=readO d o k:=by
 obtain ⟨J,q2,q3⟩:=zou h;rw [q3] at h ⊢;have ai:=zbl w c;obtain ⟨Y,Z,U,_⟩:=(zka (s:=s) (n:=((needN w c:Nat):Int)) I Q).2 J;have U:(newD d s (needN w c:Nat)).1.fuse<=9223372036854775807:=by rw [U];exact hf
 obtain ⟨kR,kf,V⟩:=zcN Y Z U s (padS body) (needN w c-1);have V:=V q2;obtain ⟨f,f0,f1,e⟩:=zoj (s:=s) (all:=padS body) I Q hf J _ q2;rw [e] at kR kf V h ⊢;obtain ⟨x1,x2⟩:=zqK I J;obtain ⟨z,z1,z2,z3,z4,z5,z6,z7⟩:=sealed (w:=w) (c:=c) (body:=body) kR V kf (show has (newD d s (needN w c:Nat)).1.ext s=true from x2) (by
  show sec (exOf (newD d s (needN w c:Nat)).1.ext s)=_;rw [x1];unfold sec;simp only;rw [ze9,Int.toNat_natCast];omega) (λi hi=>by
  rw [zli I J,if_pos ⟨rfl,by omega,by omega⟩];rw [show (((i+1:Nat):Int)).toNat-1=i from by omega]) h
 refine ⟨z,z1,z2,z3,z4,z5,z6,λo k X=>(z7 o k X).trans ?_⟩;rw [zda kR V,zda I Q];have hp:(placeD (putE' d s (padS body) (needN w c:Nat) (needN w c-1) f) o k).2=(placeD d o k).2:=zkf I J X k;rw [hp];by_cases C:(placeD d o k).2=0
 ·rw [if_neg (by simpa using C),if_neg (by simpa using C),zli I J,if_neg (λh=>X h.1),zmI I J X C]
 rw [if_pos C,if_pos C]
theorem zgh (s:tt):(padS s).data.toList=s.data.toList ++ List.replicate ((64-s.size % 64) % 64) 0:=bs_data _
theorem zfd (w c:Nat):(headS w c).data.toList=(preS w c ++ Crc.tailS (sumOf (preS w c))).data.toList ++ List.replicate 52 0:=by
 unfold headS;have C:(preS w c).size=8:=by unfold preS;rw [za2];rfl
 rw [zgh,ByteArray.size_append,C,Crc.zb1]
theorem zmO (w c:Nat):(headS w c).extract 0 12=preS w c ++ Crc.tailS (sumOf (preS w c)):=by
 have C:(preS w c).size=8:=by unfold preS;rw [za2];rfl
 apply zbQ;rw [Lib.extract_data,zfd];have hl:(preS w c ++ Crc.tailS (sumOf (preS w c))).data.toList.length=12:=by rw [St.zbc,ByteArray.size_append,C,Crc.zb1]
 rw [List.drop_zero,List.take_append_of_le_length vd,List.take_of_length_le vd]
theorem zov {w c:Nat} (hk:w<=8) (hc:c<=65536):formP (headS w c)=(w,c,0):=by
 have hl:(headS w c).data.toList = [87,82,UInt8.ofNat w] ++ five c ++ (Crc.tailS (sumOf (preS w c))).data.toList ++ List.replicate 52 0:=by
  rw [zfd];have:(preS w c ++ Crc.tailS (sumOf (preS w c))).data.toList=(preS w c).data.toList ++ (Crc.tailS (sumOf (preS w c))).data.toList:=by simp
  rw [this];unfold preS;rw [bs_data]
 have C:(five c).length=5:=rfl;have J:(Crc.tailS (sumOf (preS w c))).data.toList.length=4:=by rw [St.zbc,Crc.zb1]
 have Q:(UInt8.ofNat w).toNat=w:=by rw [UInt8.toNat_ofNat'];omega
 have I:openS ((headS w c).extract 0 12)=(preS w c,0):=by
  rw [zmO];exact Crc.zd_ (preS w c) (by unfold preS;rw [za2];show 8<=65536;decide)
 have U:(headS w c).data.toList.drop 12=List.replicate 52 0:=by
  rw [hl,List.drop_append,List.drop_of_length_le (by simp only [List.length_append,J,C,List.length_cons,List.length_nil];omega)];simp only [List.length_append,J,C,List.length_cons,List.length_nil];rfl
 unfold formP;rw [if_neg,I,if_neg (by simp)]
 ·refine Prod.ext ?_ (Prod.ext ?_ rfl)
  ·show ((headS w c).data.toList.getD 2 0).toNat=w;rw [hl];exact Q
  show ofB (((headS w c).data.toList.drop 3).take 5)=c;rw [hl];show ofB ((five c ++ (Crc.tailS (sumOf (preS w c))).data.toList ++ List.replicate 52 0).take 5)=c;rw [List.append_assoc,List.take_append_of_le_length (by rw [C];omega),List.take_of_length_le (by rw [C];omega)];exact zlf c (by unfold top;omega)
 rintro (h | h | h)
 ·exact h (by rw [hl];rfl)
 ·rw [hl] at h;have h:8<(UInt8.ofNat w).toNat:=h;omega
 rw [U] at h;revert h;decide
theorem zi4 {z:D} {s:tt} {w c:Nat} {body:tt} (h:FileR z s w c body):(openD z).2=0:=by
 have h:=h.head;unfold readO at h;by_cases q:(openD z).2=0
 ·exact q
 rw [if_pos q] at h;exact absurd (congrArg Prod.snd h) q
theorem zgi {z:D} {s:tt} {w c:Nat} {body:tt} (hk:w<=8) (hc:c<=65536) (h:FileR z s w c body):headP z s=(w,c,0):=by
 unfold headP;rw [h.head,if_neg (by simp),zov hk hc,if_neg (by simp),h.size,(zfI hk).2 hc,if_neg (by simp)]
theorem zhf {z:D} {s:tt} {w c:Nat} {body:tt} (hb:body.size=eachN w*c) (h:FileR z s w c body):∀ k,k<=needN w c-1->bodyL z s k=(padS body).data.toList.take (64*k)
 | 0,_=>rfl
 | k+1,hk=>by
  have C:(padS body).size=64*(needN w c-1):=by rw [zdv,hb];unfold needN;omega
  rw [bodyL,zhf hb h k vd,h.secs k vd];unfold secAt;show _ ++ ((padS body).extract (64*k) (64*k+64)).data.toList=_;rw [Lib.extract_data,show 64*(k+1)=64*k+64 from by omega,show 64*k+64-64*k=64 from by omega,List.take_add]
theorem zow {z:D} {s:tt} {w c:Nat} {body:tt} (hk:w<=8) (hc:c<=65536) (hb:body.size=eachN w*c) (h:FileR z s w c body):bodyP z s (decide (w=0))=(w,body,0):=by
 have C:(padS body).size=64*(needN w c-1):=by rw [zdv,hb];unfold needN;omega
 have hl:=zhf hb h (needN w c-1) (Nat.le_refl _);rw [List.take_of_length_le (by rw [St.zbc,C];exact Nat.le_refl _),zgh] at hl;have I:body.data.toList.length=eachN w*c:=by rw [St.zbc,hb]
 unfold bodyP;rw [zgi hk hc h];simp only [hl,<- I,List.drop_left,List.take_left];rw [if_neg (by simp),if_neg (by simp),if_neg]
 ·rw [bs_of]
 unfold zeroL;simp
end Rec
end
section
open Go.RowKit
open Mv Disk Num
namespace Rec
theorem zox {z:D} {s text:tt} (hc:text.size<=65536) (h:FileR z s 0 text.size text):readTP z s=(text,0):=by
 have:=zow (Nat.zero_le 8) hc (by unfold eachN;simp) h;rw [decide_eq_true rfl] at this;unfold readTP;rw [this]
theorem zqR {d:D} {s text:tt} (Z:d.fuse<=9223372036854775807) (h:(writeTextP d s text).2=0) :
  ∃ z,writeTextP d s text=(z,0)/\Right z/\z.down=false/\z.fuse<=9223372036854775807/\z.waits = []/\text.size<=65536/\FileR z s 0 text.size text /\ ∀ o k,o≠s->readO z o k=readO d o k:=by
 unfold writeTextP at h ⊢;by_cases Q:65536<text.size
 ·rw [if_pos Q] at h;exact absurd h (by unfold refD;simp)
 rw [if_neg Q] at h ⊢;unfold opened at h ⊢;rcases zdN d with ⟨J,I⟩ | ⟨J,I,C⟩ | ⟨J,I,C⟩ <;> rw [J] at h ⊢
 ·simp at h
 ·simp at h
 rw [if_pos rfl] at h ⊢;obtain ⟨z,V,Y,X,z4,U,z6,z7⟩:=ztx I C Z (Nat.zero_le 8) vd (by unfold eachN;simp) h;exact ⟨z,V,Y,X,z4,U,by omega,z6,z7⟩
/-! ### What the power leaves -/
end Rec
end
section
open Go.RowKit
open Mv Disk Num
namespace Top
open Rec
theorem zmP {d:D} {s y:tt} {k:Int} (J:d.fuse = -1) (C:(placeD d s k).2=0) (I:y.size=64) (Q:d.waits.length<16384):writeD d s k y=(addW d (s,k,y),0):=by
 unfold writeD;rw [if_neg (by simpa using C),if_neg (by simpa using I),if_neg vd];unfold fuseD;rw [if_neg (show ¬ (addW d (s,k,y)).fuse=0 from by show ¬ d.fuse=0;omega),if_neg (show ¬ 0<(addW d (s,k,y)).fuse from by show ¬ 0<d.fuse;omega)]
theorem zhR {d:D} {s:tt} {k:Int} (hh:has d.ext s=true) (I:0<=k) (C:k<sec (exOf d.ext s)):(placeD d s k).2=0:=by
 unfold placeD;rw [if_pos hh,if_neg vd]
theorem zhg {e:D} {s all:tt} {n:Nat} (C:e.fuse = -1) (I:e.waits = []) (hh:has e.ext s=true) (hs:sec (exOf e.ext s)=n) (U:n<=16384) (J:all.size=64*(n-1)) :
  ∀ k,k+1<=n->putTo e s all k=({ e with waits:=secsW s all k },0)
 | 0,_=>by
  obtain ⟨z,x,w,f,b⟩:=e;obtain rfl:w = []:=I;rfl
 | k+1,h=>by
  have V:=zhg C I hh hs U J k vd;rw [putTo,V,if_pos rfl];have hl:(secsW s all k).length=k:=by unfold secsW;simp
  have Q:(placeD { e with waits:=secsW s all k } s ((k+1:Nat):Int)).2=0:=zhR (d:={ e with waits:=secsW s all k }) hh vd (by rw [show exOf ({ e with waits:=secsW s all k }:D).ext s=exOf e.ext s from rfl,hs];omega);have X:=zmP (d:={ e with waits:=secsW s all k }) (s:=s) (k:=((k+1:Nat):Int)) (y:=secAt all k) C Q (zg9 vd) (by show (secsW s all k).length<16384;omega);rw [X];unfold addW;simp only;rw [ze_]
theorem zi5 (w c:Nat):(headS w c).size=64:=by
 rw [<- St.zbc,zfd,List.length_append,List.length_replicate,St.zbc,ByteArray.size_append,Crc.zb1];unfold preS;rw [za2];simp only [List.length_append,zea,List.length_cons,List.length_nil]
def freshD (n:Int):D:=⟨n,[],[],-1,false⟩
theorem zeg {n:Int} (I:0<=n) (C:n<=16384):Right (freshD n):=⟨I,C,by show 0<=16384;decide,by show (-1:Int) <= -1;decide,⟨λx h=>(by cases h),List.Pairwise.nil,by show ((0:Nat):Int)<=n;omega⟩,λw h=>(by cases h)⟩
theorem zmQ {n:Int} (I:0<=n) (C:n<=16384):makeD n=(freshD n,0):=by
 unfold makeD;rw [if_neg vd];rfl
/-! ### Records of a list -/
end Top
end
section
open Go.RowKit
open Mv Disk
namespace Sto
def ns (d:D) (s:tt):Nat:=if has d.ext s=true then sec (exOf d.ext s) else 0
structure Dw (d:D) (n:Nat):Prop where
  r:Right d
  f:d.fuse = -1
  u:d.down=false
  w:d.waits.length<=n
theorem Dw.mono {d:D} {n m:Nat} (h:Dw d n) (k:n<=m):Dw d m:=⟨h.r,h.f,h.u,Nat.le_trans h.w k⟩
theorem zcO {d:D} {n:Nat} (h:Dw d n) (s:tt):has d.ext s=true <-> 0<ns d s:=by
 unfold ns;by_cases q:has d.ext s=true
 ·rw [if_pos q];have:=(zdn (h.r.ex.ok _ (zbr h.r.ex.asc q).1)).1;exact ⟨λ_=>by omega,λ_=>q⟩
 rw [if_neg q];exact ⟨λe=>absurd e q,λe=>by omega⟩
theorem zcP {d:D} {s:tt} {k:Nat} (h:k<ns d s):(placeD d s (k:Int)).2=0:=by
 unfold ns at h;unfold placeD;by_cases q:has d.ext s=true
 ·rw [if_pos q] at h;rw [if_pos q,if_neg vd]
 rw [if_neg q] at h;omega
theorem zqS {d:D} {s:tt} {k:Nat} (h:k<ns d s):readD d s (k:Int)=(seen d s (k:Int),0):=by
 rw [zcL,if_neg (by rw [zcP h];simp)]
theorem zi6 {d:D} {n:Nat} (hd:Dw d n) {s:tt} {k:Nat} (h:k<ns d s):(seen d s (k:Int)).size=64:=by
 have J:=zcP h;obtain ⟨hh,_,U⟩:=zeB J;obtain ⟨hm,V⟩:=zbr hd.r.ex.asc hh;have hs:=(zdn (hd.r.ex.ok _ hm)).2;unfold seen;have key:∀ m,m<=d.waits.length->(seeW allK d.waits s (k:Int) ((exOf d.ext s).2.extract (64*(k:Int).toNat) (64*(k:Int).toNat+64)) m).size=64:=by
  intro m
  induction m with
  | zero=>intro _;show (ByteArray.extract _ _ _).size=64;rw [ByteArray.size_extract,Int.toNat_natCast];omega
  | succ m C =>
   intro I;rw [zb7 _ _ _ _ _ vd];split
   ·rename_i q;obtain ⟨x,Q,e,_,_,e3⟩:=hd.r.wr _ (List.getElem_mem (show m<d.waits.length by omega));exact e3
   exact C vd
 exact key _ (Nat.le_refl _)
theorem zgj {d:D} {n:Nat} (hd:Dw d n) (Q:n<16384) {s data:tt} {k:Nat} (h:k<ns d s) (hs:data.size=64) :
  ∃ d',writeD d s (k:Int) data=(d',0)/\Dw d' (n+1)/\d'.size=d.size/\d'.ext=d.ext/\(∀ o,ns d' o=ns d o) /\ ∀ o j,seen d' o j=if s=o/\(k:Int)=j then data else seen d o j:=by
 have J:=hd.w;have C:=zcP h;refine ⟨addW d (s,(k:Int),data),?_,⟨zeC hd.r C hs vd,hd.f,hd.u,by rw [zf8];omega⟩,rfl,rfl,λo=>rfl,λo j=>zhJ _ _ _ _ _ _⟩;unfold writeD fuseD;have I:(addW d (s,(k:Int),data)).fuse = -1:=hd.f;rw [if_neg (by rw [C];simp),if_neg (by rw [hs];simp),if_neg vd,I,if_neg (by decide),if_neg (by decide)]
theorem zgk {d:D} {n:Nat} (hd:Dw d n):Dw (settleD d λ_=>true) 0/\(settleD d λ_=>true).size=d.size/\used (settleD d λ_=>true).ext=used d.ext/\(∀ o,ns (settleD d λ_=>true) o=ns d o) /\ ∀ o (j:Nat),j<ns d o->seen (settleD d λ_=>true) o (j:Int)=seen d o (j:Int):=by
 have C:(settleD d λ_=>true).ext=d.ext.map (doneX (λ_=>true) d.waits):=rfl;refine ⟨⟨zcw hd.r _,hd.f,hd.u,Nat.le_refl _⟩,rfl,?_,λo=>?_,λo j h=>?_⟩
 ·rw [C];have:∀ l:List Ext,(∀ x ∈ l,x ∈ d.ext)->used (l.map (doneX (λ_=>true) d.waits))=used l:=by
   intro l
   induction l with
   | nil=>intro _;rfl
   | cons x l J =>
    intro hl;simp only [List.map_cons,used];rw [J λy I=>hl y (List.mem_cons_of_mem _ I)];congr 1;unfold sec;rw [zb8 hd.r _ (hl x (List.mem_cons_self ..))]
  exact this _ λ_ h=>h
 ·unfold ns;rw [C,zhH (f:=doneX (λ_=>true) d.waits) (λ_=>rfl)];by_cases q:has d.ext o=true
  ·rw [if_pos q,if_pos q,zeA (f:=doneX (λ_=>true) d.waits) (λ_=>rfl) hd.r.ex.asc q];unfold sec;rw [zb8 hd.r _ (zbr hd.r.ex.asc q).1]
  rw [if_neg q,if_neg q]
 rw [zd9 hd.r (zcP h) (λ_=>true)];rfl
def zs:tt:=bs (List.replicate 64 0)
theorem zi7 {kp:Nat->Bool} {l:List Wr} {s:tt} {k:Int} {b:tt} (h:∀ w ∈ l,w.1≠s):∀ m,m<=l.length->seeW kp l s k b m=b
 | 0,_=>rfl
 | m+1,hm=>by
  rw [zb7 _ _ _ _ _ vd,if_neg (λq=>h _ (List.getElem_mem _) q.1)];exact zi7 h m vd
theorem zsC {d:D} {n:Nat} (hd:Dw d n) {s:tt} {m:Nat} (hs:nm s) (h0:ns d s=0) (h1:1<=m) (hr:(used d.ext:Int)+m<=d.size) :
  ∃ d',newD d s (m:Int)=(d',0)/\Dw d' n/\d'.size=d.size/\used d'.ext=used d.ext+m/\(∀ o,ns d' o=if s=o then m else ns d o)/\(∀ j:Nat,j<m->seen d' s (j:Int)=zs) /\ ∀ o j,s≠o->has d.ext o=true->seen d' o j=seen d o j:=by
 have U:has d.ext s=false:=by
  cases e:has d.ext s with
  | false=>rfl
  | true=>have:=(zcO hd s).1 e;omega
 have hz:=ze9 m;have I:sec (s,zeros m)=m:=by unfold sec;simp only;rw [hz];omega
 have Y:ERight (insAt d.ext (pos d.ext s) (s,zeros m)) d.size:=zg7 (size':=d.size) hd.r.ex U hs (by rw [hz];omega) (by rw [hz];omega) (by rw [I];omega);have V:Right { d with ext:=insAt d.ext (pos d.ext s) (s,zeros m) }:=⟨hd.r.s0,hd.r.s1,hd.r.wl,hd.r.fu,Y,λw Z=>by
  obtain ⟨x,hx,h⟩:=hd.r.wr w Z;exact ⟨x,zb0.2 (.inr hx),h⟩⟩
 have C:∀ o,has (insAt d.ext (pos d.ext s) (s,zeros m)) o=true <-> s=o\/has d.ext o=true:=λo=>by
  rw [zaO,zaO];constructor
  ·rintro ⟨x,hx,rfl⟩;rcases zb0.1 hx with rfl | hx
   ·exact .inl rfl
   exact .inr ⟨x,hx,rfl⟩
  rintro (rfl | ⟨x,hx,rfl⟩)
  ·exact ⟨_,zb0.2 (.inl rfl),rfl⟩
  exact ⟨x,zb0.2 (.inr hx),rfl⟩
 have Q:exOf (insAt d.ext (pos d.ext s) (s,zeros m)) s=(s,zeros m):=zbB Y.asc (x:=(s,zeros m)) (zb0.2 (.inl rfl));have J:∀ o,has d.ext o=true->exOf (insAt d.ext (pos d.ext s) (s,zeros m)) o=exOf d.ext o:=λo X=>by
  obtain ⟨hm,hn⟩:=zbr hd.r.ex.asc X;have:=zbB Y.asc (zb0.2 (.inr hm):exOf d.ext o ∈ insAt d.ext (pos d.ext s) (s,zeros m));rwa [hn] at this
 refine ⟨{ d with ext:=insAt d.ext (pos d.ext s) (s,zeros m) },?_,⟨V,hd.f,hd.u,hd.w⟩,rfl,?_,λo=>?_,λj hj=>?_,λo j ac X=>?_⟩
 ·unfold newD;rw [if_neg (λh=>by rcases h with h | h;exact h hs;omega),if_neg (by rw [U];simp),if_neg vd,Int.toNat_natCast]
 ·show used (insAt _ _ _)=_;rw [zhM,I]
 ·unfold ns;by_cases e:s=o
  ·subst e;rw [if_pos rfl,if_pos ((C s).2 (.inl rfl))];show sec (exOf (insAt _ _ _) s)=m;rw [Q,I]
  rw [if_neg e];by_cases q:has d.ext o=true
  ·rw [if_pos q,if_pos ((C o).2 (.inr q))];show sec (exOf (insAt _ _ _) o)=_;rw [J o q]
  rw [if_neg q,if_neg (λh=>by rcases (C o).1 h with h | h;exact e h;exact q h)]
 ·unfold seen;show seeW allK d.waits s (j:Int) ((exOf (insAt _ _ _) s).2.extract _ _) d.waits.length=zs;rw [zi7 (λw Z e=>by
   obtain ⟨x,hx,h,_⟩:=hd.r.wr w Z;have:has d.ext s=true:=zaO.2 ⟨x,hx,h.trans e⟩;rw [U] at this;cases this) _ (Nat.le_refl _),Q,Int.toNat_natCast]
  apply zbQ;show ((bs (List.replicate (64*m) 0)).extract (64*j) (64*j+64)).data.toList=(bs (List.replicate 64 0)).data.toList;rw [Lib.extract_data,bs_data,bs_data,List.drop_replicate,List.take_replicate];congr 1;omega
 unfold seen;show seeW allK d.waits o j ((exOf (insAt _ _ _) o).2.extract _ _) d.waits.length=_;rw [J o X]
end Sto
end
section
open Go.RowKit
open Mv Disk
structure Fr where
  name:tt
  sector:Int
  data:tt
  pins:Int
  dirty:Bool
  tick:Int
  leased:Bool
def frF (x:Fr):List tu:=[.string x.name,.int .i64 x.sector,.string x.data,.int .i64 x.pins,.bool x.dirty,.int .u64 x.tick,.bool x.leased]
def frV (x:Fr):tu:=.agg #[.string x.name,.int .i64 x.sector,.string x.data,.int .i64 x.pins,.bool x.dirty,.int .u64 x.tick,.bool x.leased]
def F0:Fr:=⟨ByteArray.empty,0,ByteArray.empty,0,false,0,false⟩
def F1:Fr:=⟨ByteArray.empty,0,ByteArray.empty,0,false,0,true⟩
def Fr.holds (x:Fr):Prop:=x.name.size≠0
instance (x:Fr):Decidable x.holds:=by unfold Fr.holds;infer_instance
theorem zll (x y:Fr):x=y <-> x.name=y.name/\x.sector=y.sector/\x.data=y.data/\x.pins=y.pins/\x.dirty=y.dirty/\x.tick=y.tick/\x.leased=y.leased:=by
 cases x;cases y;simp
instance : DecidableEq Fr := λx y => decidable_of_iff _ (zll x y).symm
theorem zfJ (x:Fr) (S:Mem):ACall prog 137 #[frV x] S λr S'=>r = .bool (decide x.holds)/\S'=S:=by
 have e:(!decide (x.name=ByteArray.empty))=decide x.holds:=by
  by_cases h:x.name=ByteArray.empty
  ·rw [decide_eq_true h,decide_eq_false (show ¬ x.holds from λq=>q ((zjU _).1 h))];rfl
  rw [decide_eq_false h,decide_eq_true (show x.holds from λq=>h ((zjU _).2 q))];rfl
 unfold frV;refine k_E1 6 func137 ?_;refine r2_ ?_;refine k_b7 rfl ?_;intro I f1;have C:=f1
 repeat ((with_reducible replace C:=zaa C);obtain ⟨C,_⟩:=C)
 refine nl_ ?_;refine r7_ ?_;refine rC (vh rfl rfl (zaf (zaT _ _) e)) ?_;refine r4_ ?_;refine ⟨_,S,⟨_,_,rfl,rfl,rfl⟩,zae,?_⟩;exact ⟨rfl,rfl⟩
theorem zoy (x y:Fr) (w:tv):(binOp .eql 219 (frV x) (frV y)).run prog w = .ok (.bool (decide (x=y))) w:=by
 have e:decide (x=y)=((x.name.toList == y.name.toList) && (x.sector == y.sector) && (x.data.toList == y.data.toList) && (x.pins == y.pins) && (x.dirty == y.dirty) && (x.tick == y.tick) && (x.leased == y.leased)):=by
  rw [Bool.eq_iff_iff,decide_eq_true_eq,zll];simp [zj7,and_assoc]
 rw [e];unfold frV
 go_simp
 cases Q:(x.name.toList == y.name.toList) <;> cases X:(x.sector == y.sector) <;> cases C:(x.data.toList == y.data.toList) <;> cases V:(x.pins == y.pins) <;> cases I:(x.dirty == y.dirty) <;> cases U:(x.tick == y.tick) <;> cases J:(x.leased == y.leased) <;> simp_all
theorem zhS {p q:tw} (x y:Fr):Bin prog .eql 219 p q (frV x) (frV y) (.bool (decide (x=y))):=λw=>by
 unfold frV;rw [Sem.run_bind,run_eqGuard_agg w .eql 219 p q _ _ (by kernel_rfl)];exact zoy x y w
theorem zfe (x:Fr) (S:Mem):ACall prog 213 #[frV x] S λr S'=>r = .bool (decide (x=F0))/\S'=S:=by
 unfold frV;refine k_E1 6 func213 ?_;refine r2_ ?_;refine k_b7 rfl ?_;intro I f1;have C:=f1
 repeat ((with_reducible replace C:=zaa C);obtain ⟨C,_⟩:=C)
 refine nl_ ?_;refine r7_ ?_;refine rC (vh rfl rfl (zhS x F0)) ?_;refine r4_ ?_;refine ⟨_,S,⟨_,_,rfl,rfl,rfl⟩,zae,?_⟩;exact ⟨rfl,rfl⟩
def Fr.idle (x:Fr):Prop:=x=F0\/x.holds/\x.pins=0
instance (x:Fr):Decidable x.idle:=by unfold Fr.idle;infer_instance
theorem zhT (x:Fr) (S:Mem):ACall prog 215 #[frV x] S λr S'=>r = .bool (decide x.idle)/\S'=S:=by
 have cf:=λS=>zfe x S;have Q:=λS=>zfJ x S;unfold frV at *;by_cases I:x=F0
 ·rw [decide_eq_true I] at cf;rw [decide_eq_true (show x.idle from .inl I)];refine k_E1 14 func215 ?_;refine r2_ ?_;refine k_b7 rfl ?_;intro X f1;have C:=f1
  repeat ((with_reducible replace C:=zaa C);obtain ⟨C,_⟩:=C)
  refine nl_ ?_;refine r6_ ?_;refine cp_ rfl (cf _) ?_;refine r13_ ?_;refine ⟨_,S,⟨_,_,rfl,rfl,rfl⟩,zae,?_⟩;exact ⟨rfl,rfl⟩
 rw [decide_eq_false I] at cf;by_cases U:x.holds
 ·rw [decide_eq_true U] at Q;have e:decide x.idle=decide (x.pins=0):=by unfold Fr.idle;simp [I,U]
  rw [e];refine k_E1 14 func215 ?_;refine r2_ ?_;refine k_b7 rfl ?_;intro X f1;have C:=f1
  repeat ((with_reducible replace C:=zaa C);obtain ⟨C,_⟩:=C)
  refine nl_ ?_;refine r6_ ?_;refine cp_ rfl (cf _) ?_;refine r2_ ?_;refine vC 2 false 5 rfl (zab rfl) rfl (zab rfl) zsj rfl (Q _) ?_;rintro _ V ⟨rfl,J⟩;rw [J];clear J V;refine r10_ ?_;refine ⟨_,S,⟨_,_,rfl,rfl,rfl⟩,zae,?_⟩;exact ⟨rfl,rfl⟩
 rw [decide_eq_false U] at Q;rw [decide_eq_false (show ¬ x.idle from λh=>h.elim I (λh=>U h.1))];refine k_E1 14 func215 ?_;refine r2_ ?_;refine k_b7 rfl ?_;intro X f1;have C:=f1
 repeat ((with_reducible replace C:=zaa C);obtain ⟨C,_⟩:=C)
 refine nl_ ?_;refine r6_ ?_;refine cp_ rfl (cf _) ?_;refine r2_ ?_;refine vC 2 false 5 rfl (zab rfl) rfl (zab rfl) zsj rfl (Q _) ?_;rintro _ V ⟨rfl,J⟩;rw [J];clear J V;refine r10_ ?_;refine ⟨_,S,⟨_,_,rfl,rfl,rfl⟩,zae,?_⟩;exact ⟨rfl,rfl⟩
def like (x y:Fr):Prop:=x.holds/\y.holds/\(x.tick=y.tick\/x.name=y.name/\x.sector=y.sector)
instance (x y:Fr):Decidable (like x y):=by unfold like;infer_instance
theorem zgl (x:Fr):(frF x).length=7:=rfl
structure Pl where
  d:D
  fr:List Fr
  tick:Int
  reads:Int
  writes:Int
theorem zhh {q:Fr->Bool} {l:List Fr} {i:Nat} (h:i<l.length):(l.take (i+1)).countP q=(l.take i).countP q+if q l[i]=true then 1 else 0:=by
 rw [zb3 h,List.countP_append,List.countP_singleton]
theorem zlm {q:Fr->Bool} (l:List Fr) (i:Nat):(l.take i).countP q<=l.length:=Nat.le_trans List.countP_le_length (by simp;omega)
abbrev frT:tx:=219
def up1 (x:Int):Int:=IntKind.u64.wrap (x+1)
def setP (p:Pl) (i:Nat) (x:Fr):Pl:={ p with fr:=p.fr.set i x }
def atF (p:Pl) (i:Nat):Fr:=p.fr.getD i F0
def wrP (p:Pl) (i:Nat):Pl × Int :=
  ({ p with d:=(writeD p.d (atF p i).name (atF p i).sector (atF p i).data).1,writes:=up1 p.writes,fr:=if (writeD p.d (atF p i).name (atF p i).sector (atF p i).data).2=0 then p.fr.set i { atF p i with dirty:=false } else p.fr },(writeD p.d (atF p i).name (atF p i).sector (atF p i).data).2)
def bestF (fr:List Fr):Nat->Int
  | 0=>-1
  | i+1=>if (fr.getD i F0).idle/\(bestF fr i<0\/(fr.getD i F0).tick<(fr.getD (bestF fr i).toNat F0).tick) then (i:Nat) else bestF fr i
theorem zeE (fr:List Fr):∀ i,-1<=bestF fr i/\bestF fr i<i
 | 0=>⟨by unfold bestF;omega,by unfold bestF;omega⟩
 | i+1=>by
  have:=zeE fr i;unfold bestF;split <;> omega
def takeP (p:Pl):Pl × Nat × Int :=
  if p.fr.findIdx (λx=>decide (x=F0))<p.fr.length then (p,p.fr.findIdx (λx=>decide (x=F0)),0)
  else if bestF p.fr p.fr.length<0 then (p,0,9)
  else if (atF p (bestF p.fr p.fr.length).toNat).dirty=true then
    (if (wrP p (bestF p.fr p.fr.length).toNat).2=0 then (setP (wrP p (bestF p.fr p.fr.length).toNat).1 (bestF p.fr p.fr.length).toNat F0,(bestF p.fr p.fr.length).toNat,0)
     else ((wrP p (bestF p.fr p.fr.length).toNat).1,0,(wrP p (bestF p.fr p.fr.length).toNat).2))
  else (setP p (bestF p.fr p.fr.length).toNat F0,(bestF p.fr p.fr.length).toNat,0)
def isF (s:tt) (k:Int) (x:Fr):Bool:=decide (x.holds/\x.sector=k/\x.name=s)
def pin1 (p:Pl) (i:Nat):Pl:={ p with tick:=up1 p.tick,fr:=p.fr.set i { atF p i with tick:=up1 p.tick,pins:=(atF p i).pins+1 } }
def newF (s:tt) (k:Int) (data:tt):Fr:=⟨s,k,data,0,false,0,false⟩
def pinP (p:Pl) (s:tt) (k:Int):Pl × Nat × Int :=
  if p.fr.findIdx (isF s k)<p.fr.length then
    (if (atF p (p.fr.findIdx (isF s k))).pins=256 then (p,0,11) else (pin1 p (p.fr.findIdx (isF s k)),p.fr.findIdx (isF s k),0))
  else if (readD p.d s k).2≠0 then (p,0,(readD p.d s k).2)
  else if (takeP p).2.2≠0 then ((takeP p).1,0,(takeP p).2.2)
  else (pin1 { setP (takeP p).1 (takeP p).2.1 (newF s k (readD p.d s k).1) with reads:=up1 (takeP p).1.reads } (takeP p).2.1,(takeP p).2.1,0)
def zhi (p:Pl) (i:Int):Pl × Int :=
  if i<0\/(p.fr.length:Int)<=i then (p,1) else if (atF p i.toNat).pins=0 then (p,11) else (setP p i.toNat { atF p i.toNat with pins:=(atF p i.toNat).pins-1 },0)
def ret1 (p:Pl) (i:Int):Pl × Int :=
  if i<0\/(p.fr.length:Int)<=i then (p,1) else if (atF p i.toNat).leased=false then (p,11) else (setP p i.toNat F0,0)
def pinnedP (p:Pl) (i a n:Int):Int:=if i<0\/(p.fr.length:Int)<=i\/a<0\/64<a\/64-a<n then 1 else if (atF p i.toNat).pins=0 then 11 else 0
def fillS (t:tt) (a:Int) (s:tt):tt:=t.extract 0 a.toNat ++ s ++ t.extract (a.toNat+s.size) t.size
def fillP (p:Pl) (i a:Int) (s:tt):Pl × Int:=if pinnedP p i a s.size=0 then (setP p i.toNat { atF p i.toNat with data:=fillS (atF p i.toNat).data a s,dirty:=true },0) else (p,pinnedP p i a s.size)
def leaseN:Nat->Pl->List Int->Pl × List Int × Int
  | 0,p,l=>(p,l,0)
  | n+1,p,l=>if (takeP p).2.2=0 then leaseN n (setP (takeP p).1 (takeP p).2.1 F1) (l ++ [((takeP p).2.1:Int)]) else ((takeP p).1,[],(takeP p).2.2)
def idlesP (p:Pl):Nat:=p.fr.countP λx=>decide x.idle
def leaseP (p:Pl) (n:Int):Pl × List Int × Int:=if n<0 then (p,[],1) else if (idlesP p:Int)<n then (p,[],9) else leaseN n.toNat p []
def ofN (s:tt) (x:Fr):Bool:=decide (x.holds/\x.name=s)
def dropP (p:Pl) (s:tt):Pl × Int:=if p.fr.any (λx=>ofN s x && decide (0<x.pins))=true then (p,11) else ({ p with fr:=p.fr.map λx=>if ofN s x=true then F0 else x },0)
def flushN (p:Pl) (i:Nat):Nat->Pl × Int
  | 0=>(p,0)
  | n+1=>if (atF p i).dirty=true then (if (wrP p i).2=0 then flushN (wrP p i).1 (i+1) n else wrP p i) else flushN p (i+1) n
def flushP (p:Pl):Pl × Int:=if (flushN p 0 p.fr.length).2=0 then ({ (flushN p 0 p.fr.length).1 with d:=settleD (flushN p 0 p.fr.length).1.d λ_=>true },0) else flushN p 0 p.fr.length
/-! ### What holds of a pool at work -/
structure PW (p:Pl):Prop where
  dr:Right p.d
  fu:p.d.fuse<=9223372036854775807
  nd:p.d.down=false
  l1:1<=p.fr.length
  l2:p.fr.length<=256
  pn:∀ x ∈ p.fr,0<=x.pins/\x.pins<=256
theorem zaK {p:Pl} {i:Nat} (h:i<p.fr.length):atF p i=p.fr[i]:=by unfold atF;simp [List.getD,List.getElem?_eq_getElem h]
theorem zkk {p:Pl} {i:Nat} (h:i<p.fr.length):atF p i ∈ p.fr:=by rw [zaK h];exact List.getElem_mem h
abbrev arT:tx:=112
def frB (fr:List Fr) (c:Nat):Blk:=⟨frT,fr.flatMap frF,c*7⟩
def arB (p b c:Nat) (x:Pl) (k:Int):Blk:=⟨arT,[.pointer (some ⟨p,0,none⟩),.slice (some ⟨b,0,none⟩) x.fr.length c,.int .u64 x.tick,.int .u64 x.reads,.int .u64 x.writes,.int .i64 k],6⟩
def arM (M:Mem) (a p b c:Nat) (x:Pl) (k:Int):Mem:=(M.set b (frB x.fr c)).set a (arB p b c x k)
structure OkA (S:Mem) (a p b c:Nat) (x:Pl) (oE oW:Option (Nat × Nat)):Prop where
  v:OkV S p x.d oE oW
  fb:Fresh (devM S p x.d oE oW) b
  fa:Fresh (devM S p x.d oE oW) a
  ab:a≠b
  l:x.fr.length<=c
def ArS (S:Mem) (a p b c:Nat) (x:Pl) (S':Mem):Prop:=∃ k oE oW,OkA S a p b c x oE oW/\S'=arM (devM S p x.d oE oW) a p b c x k
theorem zqT {α : Type} {n:Nat} {f : α->List tu} (I:∀ x,(f x).length=n) (l:List α) (k:Nat) (y : α) (h:k<l.length):spl (l.flatMap f) (k*n) (f y)=(l.set k y).flatMap f:=by
 have e1:l=l.take k ++ l[k] :: l.drop (k+1):=by rw [<- zc8 h,List.take_append_drop]
 have e2:l.set k y=l.take k ++ y :: l.drop (k+1):=by rw [List.set_eq_take_append_cons_drop,if_pos h]
 rw [e2]
 conv=>lhs;rw [e1]
 rw [List.flatMap_append,List.flatMap_append,List.flatMap_cons,List.flatMap_cons];have hl:=zao I (l.take k);rw [List.length_take,Nat.min_eq_left (Nat.le_of_lt h)] at hl;have hk:=I l[k];have J:=I y;generalize List.flatMap f (List.take k l)=A at *;generalize List.flatMap f (List.drop (k+1) l)=B at *;generalize f l[k]=C at *;unfold spl;rw [List.take_left' hl,<- List.append_assoc A C B,List.drop_left' (by rw [List.length_append];omega),List.append_assoc]
theorem zgm {S S':Mem} (h:S=S'):S.Less S':=by rw [h];exact Mem.Less.refl _
theorem za0 {M:Mem} {a p b c:Nat} {x:Pl} {k:Int}:(arM M a p b c x k).own a=some (arB p b c x k):=vf _ _ _
theorem zdU {M:Mem} {a p b c:Nat} {x:Pl} {k:Int} (h:a≠b):(arM M a p b c x k).own b=some (frB x.fr c):=(vg _ _ (Ne.symm h)).trans (vf _ _ _)
theorem zbS {M:Mem} {a p b c:Nat} {x:Pl} {k:Int} (h:a≠b) (C:List Fr) (hl:C.length=x.fr.length):(arM M a p b c x k).set b (frB C c)=arM M a p b c { x with fr:=C } k:=by
 unfold arM;rw [<- vr _ _ _ (Ne.symm h),Mem.set_set];unfold arB;rw [hl]
theorem zff {M:Mem} {a p b c:Nat} {x x':Pl} {k k':Int} (h:x'.fr=x.fr):(arM M a p b c x k).set a (arB p b c x' k')=arM M a p b c x' k':=by
 unfold arM;rw [Mem.set_set,h]
theorem zkl {M:Mem} {a p b c:Nat} {x:Pl} {k:Int} (h:a≠b) (hl:x.fr.length<=c) (hm:x.fr.length<=256):Sl 7 frF (arM M a p b c x k) (.slice (some ⟨b,0,none⟩) x.fr.length c) x.fr :=
 Sl.own (zdU h) zgl List.prefix_rfl rfl hl (Nat.le_trans hm (by decide))
theorem zcH {M:Mem} {a p b c:Nat} {x:Pl} {k:Int} (fb:Fresh M b) (fa:Fresh M a) (h:a≠b):M.Less (arM M a p b c x k) :=
 (vi _ _ _ fb.1).trans (vi _ _ _ ((vg _ _ h).trans fa.1))
theorem OkA.less {S:Mem} {a p b c:Nat} {x:Pl} {oE oW:Option (Nat × Nat)} (h:OkA S a p b c x oE oW) (k:Int):S.Less (arM (devM S p x.d oE oW) a p b c x k) :=
 (h.v.dk.less.trans (vi _ _ _ h.v.fr.1)).trans (zcH h.fb h.fa h.ab)
theorem OkA.rd {S:Mem} {a p b c:Nat} {x:Pl} {oE oW:Option (Nat × Nat)} (h:OkA S a p b c x oE oW) (C:PW x) (k:Int):RdV (arM (devM S p x.d oE oW) a p b c x k) p x.d :=
 (h.v.rd (zaB C.dr).1 (zaB C.dr).2).less (zcH h.fb h.fa h.ab)
theorem OkA.like {S:Mem} {a p b c:Nat} {x x':Pl} {oE oW:Option (Nat × Nat)} (h:OkA S a p b c x oE oW) (hd:x'.d=x.d) (hl:x'.fr.length=x.fr.length):OkA S a p b c x' oE oW :=
 ⟨by rw [hd];exact h.v,by rw [hd];exact h.fb,by rw [hd];exact h.fa,h.ab,by rw [hl];exact h.l⟩
theorem zhU {S:Mem} {a p b c:Nat} {x:Pl} {oE oW:Option (Nat × Nat)} (h:OkA S a p b c x oE oW) (k:Int) {f:tA} {args:Array tu} {R:tu->Mem->Prop} (hc:ACall prog f args (devM S p x.d oE oW) R) :
  ACall prog f args (arM (devM S p x.d oE oW) a p b c x k) λr S'=>∃ M,R r M/\Fresh M b/\Fresh M a/\S'=arM M a p b c x k:=by
 have C:Fresh ((devM S p x.d oE oW).set b (frB x.fr c)) a:=zai h.fa h.ab;refine ((hc.frame (r:=frB x.fr c) h.fb).frame (r:=arB p b c x k) C).mono λr S' ⟨Q,⟨M,I,f1,e1⟩,J,e2⟩=>?_;subst e1;exact ⟨M,I,f1,(zaa J).1,e2⟩
section
variable {P:tz} {N:Nat} {ops:Array Oper} {E:Env} {S:Mem} {K:Env->Mem->Prop}
variable {ty:tx} {pos:String} {aft:Array Edge} {gd:Option (Nat × Bool)}
theorem Mv.ARun.storeFr {os:List Oper} {T:tx} {x y:tw} {b o c i:Nat} {l:List Fr} {u:Fr} {v:tu} (Q:ev E x=some (.pointer (some ⟨b,o,none⟩))) (C:ev E y=some v) (I:v=frV u) (J:o=i*7) (hi:i<l.length) (hs:sizeT P T=some 7) (hb:S.own b=some (frB l c))
  (h:ARun P N ops os K E (S.set b (frB (l.set i u) c))):ARun P N ops (⟨none,.store T x y,ty,pos,aft,none⟩ :: os) K E S:=by
 subst I J;have hl:=zao zgl l;have:=Nat.mul_le_mul_right 7 (show i+1<=l.length from hi);refine ARun.store Q C (by unfold frV;exact hs) hb (by unfold frB frV;show i*7+7<=(l.flatMap frF).length;omega) (by unfold frV;simp [Value.cells,Value.oneCell']) ?_;have e:spl (frB l c).cells (i*7) (frV u).cells.toList=(l.set i u).flatMap frF:=zqT zgl l i u hi;rw [e];exact h
theorem Mv.ARun.storeFr1 {os:List Oper} {T:tx} {x y:tw} {b o c i q:Nat} {l:List Fr} {u:Fr} {v:tu} (Q:ev E x=some (.pointer (some ⟨b,o,none⟩))) (V:ev E y=some v) (C:v.cells = #[v]) (I:v.oneCell'=true) (J:o=i*7+q) (X:q<7) (hi:i<l.length) (U:(frF l[i]).set q v=frF u) (hs:sizeT P T=some 1) (hb:S.own b=some (frB l c))
  (h:ARun P N ops os K E (S.set b (frB (l.set i u) c))):ARun P N ops (⟨none,.store T x y,ty,pos,aft,none⟩ :: os) K E S:=by
 subst J;have hl:=zao zgl l;have:=Nat.mul_le_mul_right 7 (show i+1<=l.length from hi);refine vm Q V hs C hb (by unfold frB;show i*7+q<(l.flatMap frF).length;omega) I ?_;have e:(frB l c).cells.set (i*7+q) v=(l.set i u).flatMap frF:=zfB zgl l i u hi q v X U;rw [e];exact h
end
end
section
open Go.RowKit
open Mv Disk
namespace Sto
structure Held (d:D) (x:Fr):Prop where
  h:x.holds
  l:x.leased=false
  p0:0<=x.pins
  p1:x.pins<=200
  z:x.data.size=64
  s0:0<=x.sector
  s1:x.sector<(ns d x.name:Int)
  c:x.dirty=false->x.data=seen d x.name x.sector
def FrOk (d:D) (x:Fr):Prop:=x=F0\/x=F1\/Held d x
def same (x y:Fr):Prop:=x.holds/\y.holds/\x.name=y.name/\x.sector=y.sector
structure Ps (p:Pl) (n:Nat):Prop where
  d:Dw p.d n
  ok:∀ i,i<p.fr.length->FrOk p.d (atF p i)
  ap:∀ i j,i<p.fr.length->j<p.fr.length->i≠j -> ¬ same (atF p i) (atF p j)
  l1:1<=p.fr.length
  l2:p.fr.length<=256
theorem n0 : ¬ F0.holds:=λh=>h rfl
theorem n1 : ¬ F1.holds:=λh=>h rfl
theorem zcc {d:D} {x:Fr} (h:FrOk d x) (hh:x.holds):Held d x:=by
 rcases h with rfl | rfl | h
 ·exact absurd hh n0
 ·exact absurd hh n1
 exact h
def vw (p:Pl) (s:tt) (k:Int):tt:=if p.fr.findIdx (isF s k)<p.fr.length then (atF p (p.fr.findIdx (isF s k))).data else seen p.d s k
theorem zak {s:tt} {k:Int} {x:Fr}:isF s k x=true <-> x.holds/\x.sector=k/\x.name=s:=by unfold isF;simp
theorem zhV {p:Pl} {s:tt} {k:Int} (h:p.fr.findIdx (isF s k)<p.fr.length):isF s k (atF p (p.fr.findIdx (isF s k)))=true:=by
 rw [zaK h];exact List.findIdx_getElem (w:=h)
theorem zty {p:Pl} {n:Nat} (J:Ps p n) {s:tt} {k:Int} {i:Nat} (hi:i<p.fr.length) (h:isF s k (atF p i)=true):p.fr.findIdx (isF s k)=i:=by
 have C:p.fr.findIdx (isF s k)<p.fr.length:=List.findIdx_lt_length_of_exists ⟨p.fr[i],List.getElem_mem hi,by rw [<- zaK hi];exact h⟩;have I:=zhV C;by_cases e:p.fr.findIdx (isF s k)=i
 ·exact e
 exfalso;rw [zak] at h I;exact J.ap _ _ C hi e ⟨I.1,h.1,I.2.2.trans h.2.2.symm,I.2.1.trans h.2.1.symm⟩
theorem zgN {p:Pl} {n:Nat} (C:Ps p n) {s:tt} {k:Int} {i:Nat} (hi:i<p.fr.length) (h:isF s k (atF p i)=true):vw p s k=(atF p i).data:=by
 unfold vw;rw [zty C hi h,if_pos hi]
theorem zgn {p:Pl} {s:tt} {k:Int} (h:∀ i,i<p.fr.length->isF s k (atF p i)=false):vw p s k=seen p.d s k:=by
 unfold vw;rw [if_neg (λq=>by have:=zhV q;rw [h _ q] at this;cases this)]
theorem ztz {p:Pl} (s:tt) (k:Int):(∃ i,i<p.fr.length/\isF s k (atF p i)=true) \/ ∀ i,i<p.fr.length->isF s k (atF p i)=false:=by
 by_cases q:p.fr.findIdx (isF s k)<p.fr.length
 ·exact .inl ⟨_,q,zhV q⟩
 refine .inr λi hi=>?_;cases e:isF s k (atF p i) with
 | false=>rfl
 | true=>exact absurd (List.findIdx_lt_length_of_exists ⟨p.fr[i],List.getElem_mem hi,by rw [<- zaK hi];exact e⟩) q
theorem zkm {p:Pl} {n:Nat} (C:Ps p n) {s:tt} {k:Nat} (h:k<ns p.d s):(vw p s (k:Int)).size=64:=by
 rcases ztz (p:=p) s (k:Int) with ⟨i,hi,e⟩ | e
 ·rw [zgN C hi e];exact (zcc (C.ok i hi) (zak.1 e).1).z
 rw [zgn e];exact zi6 C.d h
theorem zaC {p:Pl} {i j:Nat} (x:Fr) (hi:i<p.fr.length):atF (setP p i x) j=if i=j then x else atF p j:=by
 unfold atF setP;simp only [List.getD_eq_getElem?_getD,List.getElem?_set];by_cases e:i=j
 ·subst e;rw [if_pos rfl,if_pos rfl,if_pos hi];rfl
 rw [if_neg e,if_neg e]
theorem zbv {p:Pl} {i:Nat} (x:Fr):(setP p i x).fr.length=p.fr.length:=by unfold setP;simp
theorem Ps.set {p:Pl} {n:Nat} (J:Ps p n) {i:Nat} (hi:i<p.fr.length) {x:Fr} (Z:FrOk p.d x) (X:∀ j,j<p.fr.length->j≠i -> ¬ same (atF p j) x):Ps (setP p i x) n where
 d:=J.d
 ok:=λj Y=>by
  rw [zbv] at Y;rw [zaC x hi];split
  ·exact Z
  exact J.ok j Y
 ap:=λa b U V C=>by
  rw [zbv] at U V;rw [zaC x hi,zaC x hi];by_cases I:i=a
  ·rw [if_pos I,if_neg (λQ=>C (I.symm.trans Q))];exact λh=>X b V (λe=>C (by rw [<- I,e])) ⟨h.2.1,h.1,h.2.2.1.symm,h.2.2.2.symm⟩
  rw [if_neg I];by_cases Q:i=b
  ·rw [if_pos Q];exact X a U (λe=>I e.symm)
  rw [if_neg Q];exact J.ap a b U V C
 l1:=by rw [zbv];exact J.l1
 l2:=by rw [zbv];exact J.l2
theorem zgO {p q:Pl} {n m:Nat} (V:Ps p n) (J:Ps q m) (hl:q.fr.length=p.fr.length) {s:tt} {k:Int}
  (U:∀ i,i<p.fr.length->isF s k (atF p i)=true->(isF s k (atF q i)=true/\(atF q i).data=(atF p i).data)\/((∀ j,j<p.fr.length->isF s k (atF q j)=false)/\seen q.d s k=(atF p i).data))
  (X:(∀ i,i<p.fr.length->isF s k (atF p i)=false)->(∃ i,i<p.fr.length/\isF s k (atF q i)=true/\(atF q i).data=seen p.d s k)\/((∀ j,j<p.fr.length->isF s k (atF q j)=false)/\seen q.d s k=seen p.d s k)):vw q s k=vw p s k:=by
 rcases ztz (p:=p) s k with ⟨i,hi,e⟩ | e
 ·rw [zgN V hi e];rcases U i hi e with ⟨C,I⟩ | ⟨C,I⟩
  ·rw [zgN J vd C,I]
  rw [zgn (λj Q=>C j vd),I]
 rw [zgn e];rcases X e with ⟨i,hi,C,I⟩ | ⟨C,I⟩
 ·rw [zgN J vd C,I]
 rw [zgn (λj Q=>C j vd),I]
def nb (fr:List Fr):Nat:=fr.countP λx=>!decide x.idle
theorem zln {fr:List Fr} {i:Nat} (hi:i<fr.length) (x:Fr):nb (fr.set i x)+(if (fr.getD i F0).idle then 0 else 1)=nb fr+(if x.idle then 0 else 1):=by
 unfold nb;have e:fr.getD i F0=fr[i]:=by simp [List.getD,List.getElem?_eq_getElem hi]
 rw [e];have h:=List.countP_set (p:=λx:Fr=>!decide x.idle) (l:=fr) (a:=x) hi;rw [h];by_cases I:fr[i].idle
 ·by_cases C:x.idle
  ·simp [I,C]
  simp [I,C]
 have J:0<fr.countP λx=>!decide x.idle:=List.countP_pos_iff.2 ⟨fr[i],List.getElem_mem hi,by simp [I]⟩;by_cases C:x.idle
 ·simp [I,C];omega
 simp [I,C];omega
theorem zmR {fr:List Fr} (h:nb fr<fr.length):∃ i,i<fr.length/\(fr.getD i F0).idle:=by
 by_cases q:∃ i,i<fr.length/\(fr.getD i F0).idle
 ·exact q
 exfalso;have:nb fr=fr.length:=by
  unfold nb;rw [List.countP_eq_length];intro x I;obtain ⟨i,hi,rfl⟩:=List.mem_iff_getElem.1 I;have e:fr.getD i F0=fr[i]:=by simp [List.getD,List.getElem?_eq_getElem hi]
  have C : ¬ fr[i].idle:=λh=>q ⟨i,hi,by rw [e];exact h⟩;simp [C]
 omega
theorem zlo {fr:List Fr}:∀ i,(∃ j,j<i/\(fr.getD j F0).idle)->0<=bestF fr i
 | 0,⟨j,hj,_⟩=>absurd hj (Nat.not_lt_zero _)
 | i+1,⟨j,hj,h⟩=>by
  unfold bestF;split
  ·omega
  rename_i q;rcases Nat.lt_or_ge j i with hl | hl
  ·exact zlo i ⟨j,hl,h⟩
  obtain rfl:j=i:=by omega
  have:=zeE fr j;by_cases hb:bestF fr j<0
  ·exact absurd ⟨h,.inl hb⟩ q
  omega
theorem zhj (fr:List Fr):∀ i,i<=fr.length->0<=bestF fr i->(fr.getD (bestF fr i).toNat F0).idle/\(bestF fr i).toNat<fr.length
 | 0,_,h=>by unfold bestF at h;omega
 | i+1,hi,h=>by
  have C:=zhj fr i vd;unfold bestF at h ⊢;split
  ·rename_i q;rw [Int.toNat_natCast];exact ⟨q.1,by omega⟩
  rename_i q;rw [if_neg q] at h;exact C h
structure Stays (p q:Pl):Prop where
  l:q.fr.length=p.fr.length
  z:q.d.size=p.d.size
  u:used q.d.ext=used p.d.ext
  n:∀ s,ns q.d s=ns p.d s
  v:∀ s (k:Nat),k<ns p.d s->vw q s (k:Int)=vw p s (k:Int)
theorem Stays.refl (p:Pl):Stays p p:=⟨rfl,rfl,rfl,λ_=>rfl,λ_ _ _=>rfl⟩
theorem Stays.trans {p q r:Pl} (h:Stays p q) (g:Stays q r):Stays p r:=⟨g.l.trans h.l,g.z.trans h.z,g.u.trans h.u,λs=>(g.n s).trans (h.n s),λs k hk=>(g.v s k (by rw [h.n];exact hk)).trans (h.v s k hk)⟩
end Sto
end
section
open Go.RowKit
open Mv Disk
namespace Sto
theorem zbJ {s:tt} {k:Int} {x:Fr} (h : ¬ isF s k x=true):isF s k x=false:=by simpa using h
theorem zeF (s:tt) (k:Int):isF s k F0=false:=zbJ λh=>n0 (zak.1 h).1
theorem zvE (s:tt) (k:Int):isF s k F1=false:=zbJ λh=>n1 (zak.1 h).1
theorem Held.to {d d':D} {x:Fr} (h:Held d x) (C:∀ s,ns d' s=ns d s) (hc:seen d' x.name x.sector=seen d x.name x.sector):Held d' x :=
 ⟨h.h,h.l,h.p0,h.p1,h.z,h.s0,by rw [C];exact h.s1,λe=>by rw [hc];exact h.c e⟩
theorem zvF {p:Pl} {n:Nat} (Q:Ps p n) (hn:n<16384) {i:Nat} (hi:i<p.fr.length) (hh:(atF p i).holds) :
  ∃ q,wrP p i=(q,0)/\Ps q (n+1)/\Stays p q/\q.fr=p.fr.set i { atF p i with dirty:=false }/\seen q.d (atF p i).name (atF p i).sector=(atF p i).data/\(∀ s k,¬ isF s k (atF p i)=true->seen q.d s k=seen p.d s k):=by
 have C:=zcc (Q.ok i hi) hh;obtain ⟨k,hk⟩:=Int.eq_ofNat_of_zero_le C.s0;have aj:=C.s1;rw [hk] at aj;obtain ⟨d',h1,h2,h3,h4,h5,h6⟩:=zgj Q.d hn (s:=(atF p i).name) (k:=k) vd C.z;have U:∀ s j,¬ isF s j (atF p i)=true->seen d' s j=seen p.d s j:=λs j h=>by
  rw [h6,if_neg];rintro ⟨a,b⟩;exact h (zak.2 ⟨hh,by rw [hk];exact b,a⟩)
 have J:seen d' (atF p i).name (atF p i).sector=(atF p i).data:=by rw [h6,if_pos ⟨rfl,hk.symm⟩]
 have aa:wrP p i=({ p with d:=d',writes:=up1 p.writes,fr:=p.fr.set i { atF p i with dirty:=false } },0):=by
  unfold wrP;rw [hk,h1];simp
 obtain ⟨q,hq⟩ : ∃ q:Pl,q = { p with d:=d',writes:=up1 p.writes,fr:=p.fr.set i { atF p i with dirty:=false } }:=⟨_,rfl⟩;rw [<- hq] at aa;have I:q.d=d':=by rw [hq]
 have qf:q.fr=p.fr.set i { atF p i with dirty:=false }:=by rw [hq]
 have ql:q.fr.length=p.fr.length:=by rw [qf,List.length_set]
 have qa:∀ j,atF q j=if i=j then { atF p i with dirty:=false } else atF p j:=λj=>by
  have:=zaC (p:=p) (i:=i) (j:=j) { atF p i with dirty:=false } hi;unfold atF setP at this;unfold atF;rw [qf];exact this
 have am:∀ j,j<p.fr.length->i≠j->(atF p j).holds -> ¬ isF (atF p j).name (atF p j).sector (atF p i)=true:=λj Y ah al h=>by
  obtain ⟨_,b,c⟩:=zak.1 h;exact Q.ap i j hi Y ah ⟨hh,al,c,b⟩
 have ad:Ps q (n+1):=by
  refine ⟨by rw [I];exact h2,λj Y=>?_,λa b ha hb Z=>?_,by rw [ql];exact Q.l1,by rw [ql];exact Q.l2⟩
  ·rw [qa,I];by_cases e:i=j
   ·rw [if_pos e];exact .inr (.inr ⟨hh,C.l,C.p0,C.p1,C.z,C.s0,by show _<((ns d' (atF p i).name:Nat):Int);rw [h5];exact C.s1,λ_=>J.symm⟩)
   rw [if_neg e];rcases Q.ok j vd with h | h | h
   ·exact .inl h
   ·exact .inr (.inl h)
   exact .inr (.inr (h.to h5 (U _ _ (am j vd e h.h))))
  rw [qa,qa];have V:=Q.ap a b vd vd Z;by_cases ea:i=a
  ·rw [if_pos ea];by_cases X:i=b
   ·exact absurd (ea.symm.trans X) Z
   rw [if_neg X];subst ea;exact V
  rw [if_neg ea];by_cases X:i=b
  ·rw [if_pos X];subst X;exact V
  rw [if_neg X];exact V
 refine ⟨q,aa,ad,⟨ql,by rw [I,h3],by rw [I,h4],λs=>by rw [I,h5],λs j Y=>?_⟩,qf,by rw [I];exact J,λs j h=>by rw [I];exact U s j h⟩;refine zgO Q ad ql (λj Y h=>.inl ?_) (λh=>.inr ⟨λj Y=>?_,?_⟩)
 ·rw [qa];by_cases e:i=j
  ·rw [if_pos e];subst e;exact ⟨h,rfl⟩
  rw [if_neg e];exact ⟨h,rfl⟩
 ·rw [qa];by_cases e:i=j
  ·rw [if_pos e];exact h i hi
  rw [if_neg e];exact h j Y
 rw [I];exact U _ _ (by rw [h i hi];simp)
theorem zgo {p:Pl} {n:Nat} (Q:Ps p n) {i:Nat} (hi:i<p.fr.length) (hc:(atF p i).holds->seen p.d (atF p i).name (atF p i).sector=(atF p i).data):Ps (setP p i F0) n/\Stays p (setP p i F0):=by
 have C:Ps (setP p i F0) n:=Q.set hi (.inl rfl) λj Z ac h=>n0 h.2.1;refine ⟨C,⟨zbv _,rfl,rfl,λ_=>rfl,λs j Z=>?_⟩⟩;refine zgO Q C (zbv _) (λa U h=>?_) (λh=>.inr ⟨λa U=>?_,rfl⟩)
 ·by_cases e:i=a
  ·subst e;obtain ⟨X,Y,V⟩:=zak.1 h;refine .inr ⟨λb hb=>?_,?_⟩
   ·rw [zaC _ hi];by_cases I:i=b
    ·rw [if_pos I];exact zeF _ _
    rw [if_neg I];refine zbJ λJ=>?_;obtain ⟨c1,c2,c3⟩:=zak.1 J;exact Q.ap i b hi hb I ⟨X,c1,V.trans c3.symm,Y.trans c2.symm⟩
   have:=hc X;rw [Y,V] at this;exact this
  exact .inl (by rw [zaC _ hi,if_neg e];exact ⟨h,rfl⟩)
 rw [zaC _ hi];by_cases e:i=a
 ·rw [if_pos e];exact zeF _ _
 rw [if_neg e];exact h a U
theorem zoz {p:Pl} {n:Nat} (J:Ps p n) (hn:n<16384) (hb:nb p.fr<p.fr.length) :
  ∃ q i,takeP p=(q,i,0)/\i<p.fr.length/\Ps q (n+1)/\Stays p q/\(atF p i).idle/\q.fr=p.fr.set i F0/\((∀ j,j<p.fr.length->(atF p j).dirty=false)->Ps q n):=by
 obtain ⟨i0,ad,V⟩:=zmR hb;unfold takeP;by_cases U:p.fr.findIdx (λx=>decide (x=F0))<p.fr.length
 ·rw [if_pos U];have he:=List.findIdx_getElem (w:=U);simp only [decide_eq_true_eq] at he;refine ⟨p,_,rfl,U,⟨J.d.mono vd,J.ok,J.ap,J.l1,J.l2⟩,Stays.refl p,.inl (by rw [zaK U];exact he),?_⟩;have hs:=List.set_getElem_self U;rw [he] at hs;exact ⟨hs.symm,λ_=>J⟩
 rw [if_neg U];have Y:0<=bestF p.fr p.fr.length:=zlo _ ⟨i0,ad,V⟩;obtain ⟨ae,C⟩:=zhj p.fr p.fr.length (Nat.le_refl _) Y;rw [if_neg vd];generalize (bestF p.fr p.fr.length).toNat=m at *;have I:(atF p m).idle:=ae;have hh:(atF p m).holds:=by
  rcases I with h | h
  ·exfalso;exact U (List.findIdx_lt_length_of_exists ⟨p.fr[m],List.getElem_mem C,by rw [<- zaK C,h];simp⟩)
  exact h.1
 by_cases X:(atF p m).dirty=true
 ·rw [if_pos X];obtain ⟨q,h1,h2,h3,h4,h5,_⟩:=zvF J hn C hh;rw [h1,if_pos rfl];have af:m<q.fr.length:=by rw [h3.l];exact C
  have Z:atF q m = { atF p m with dirty:=false }:=by
   show q.fr.getD m F0=_;rw [h4,List.getD_eq_getElem?_getD,List.getElem?_set,if_pos rfl,if_pos C];rfl
  obtain ⟨Q,g2⟩:=zgo h2 af (λ_=>by rw [Z];exact h5);exact ⟨_,m,rfl,C,Q,h3.trans g2,I,by unfold setP;simp only [h4,List.set_set],λhc=>by rw [hc m C] at X;cases X⟩
 rw [if_neg X];obtain ⟨Q,g2⟩:=zgo J C (λ_=>((zcc (J.ok m C) hh).c (by simpa using X)).symm);exact ⟨_,m,rfl,C,⟨Q.d.mono vd,Q.ok,Q.ap,Q.l1,Q.l2⟩,g2,I,rfl,λ_=>Q⟩
theorem ztA {s:tt} {k:Int} {data:tt} (h:s.size≠0):isF s k (newF s k data)=true:=zak.2 ⟨h,rfl,rfl⟩
theorem zi8 {x:Fr} (h:x.idle):x.pins=0:=by
 rcases h with rfl | h
 ·rfl
 exact h.2
theorem ztB {x:Fr} (h:0<x.pins) : ¬ x.idle:=λe=>by have:=zi8 e;omega
theorem ztC {p:Pl} {n:Nat} (C:Ps p n) {s:tt} (h:0<ns p.d s):s.size≠0:=by
 have hh:=(zcO C.d s).2 h;obtain ⟨hm,I⟩:=zbr C.d.r.ex.asc hh;have:=(C.d.r.ex.ok _ hm).1.1;rwa [I] at this
theorem zoA {p:Pl} {n:Nat} (X:Ps p n) {i:Nat} (hi:i<p.fr.length) (hh:(atF p i).holds) (hb:(atF p i).pins<200) :
  Ps (pin1 p i) n/\Stays p (pin1 p i)/\(∀ j,atF (pin1 p i) j=if i=j then { atF p i with tick:=up1 p.tick,pins:=(atF p i).pins+1 } else atF p j):=by
 have U:=zcc (X.ok i hi) hh;obtain ⟨x,C⟩ : ∃ x:Fr,x = { atF p i with tick:=up1 p.tick,pins:=(atF p i).pins+1 }:=⟨_,rfl⟩;have ac:Held p.d x:=by
  rw [C];exact ⟨U.h,U.l,by have:=U.p0;show 0<=_+1;omega,by show _+1<=(200:Int);omega,U.z,U.s0,U.s1,U.c⟩
 have aa:∀ j,j<p.fr.length->j≠i -> ¬ same (atF p j) x:=λj V Z h=>by
  rw [C] at h;exact X.ap j i V hi Z ⟨h.1,hh,h.2.2.1,h.2.2.2⟩
 have I:=X.set hi (.inr (.inr ac)) aa;have Q:pin1 p i = { setP p i x with tick:=up1 p.tick }:=by unfold pin1 setP;rw [C]
 have Y:∀ j,atF (pin1 p i) j=if i=j then x else atF p j:=λj=>by rw [Q];exact zaC x hi
 have J:Ps (pin1 p i) n:=by rw [Q];exact ⟨I.d,I.ok,I.ap,I.l1,I.l2⟩
 have hl:(pin1 p i).fr.length=p.fr.length:=by rw [Q];exact zbv x
 refine ⟨J,⟨hl,by rw [Q];rfl,by rw [Q];rfl,λs=>by rw [Q];rfl,λs k hk=>?_⟩,λj=>by rw [Y,C]⟩;refine zgO X J hl (λj V h=>.inl ?_) (λh=>.inr ⟨λj V=>?_,by rw [Q];rfl⟩)
 ·rw [Y];by_cases e:i=j
  ·rw [if_pos e];subst e;rw [C];exact ⟨h,rfl⟩
  rw [if_neg e];exact ⟨h,rfl⟩
 rw [Y];by_cases e:i=j
 ·rw [if_pos e,C];subst e;exact h i hi
 rw [if_neg e];exact h j V
theorem zvG {p:Pl} {n:Nat} (hp:Ps p n) (hn:n<16384) (hb:nb p.fr<p.fr.length) {s:tt} {k:Nat} (hk:k<ns p.d s) (aw:∀ i,i<p.fr.length->isF s (k:Int) (atF p i)=true->(atF p i).pins<200) :
  ∃ q i,pinP p s (k:Int)=(q,i,0)/\i<p.fr.length/\Ps q (n+1)/\Stays p q/\isF s (k:Int) (atF q i)=true/\(atF q i).data=vw p s (k:Int)/\(atF q i).pins=(if isF s (k:Int) (atF p i)=true then (atF p i).pins else 0)+1/\(∀ j,j≠i->atF q j=atF p j)/\nb q.fr<=nb p.fr+1/\(isF s (k:Int) (atF p i)=true\/(atF p i).idle):=by
 have aa:=ztC hp (show 0<ns p.d s by omega);have af:∀ {fr:List Fr} {j:Nat} (U:j<fr.length) (x:Fr),nb (fr.set j x)<=nb fr+1:=λU x=>by
  have:=zln U x;split at this <;> split at this <;> omega
 unfold pinP;by_cases Y:p.fr.findIdx (isF s (k:Int))<p.fr.length
 ·rw [if_pos Y];have hf:=zhV Y;generalize p.fr.findIdx (isF s (k:Int))=i at *;have ax:=aw i Y hf;rw [if_neg vd];obtain ⟨g1,g2,g3⟩:=zoA hp Y (zak.1 hf).1 ax;refine ⟨_,i,rfl,Y,⟨g1.d.mono vd,g1.ok,g1.ap,g1.l1,g1.l2⟩,g2,by rw [g3,if_pos rfl];exact hf,by rw [g3,if_pos rfl,zgN hp Y hf],by rw [g3,if_pos rfl,if_pos hf],λj C=>by rw [g3,if_neg (λe=>C e.symm)],?_,.inl hf⟩;exact af Y _
 rw [if_neg Y,zqS hk,if_neg (by simp)];obtain ⟨q,i,h1,h2,h3,h4,h5,h6,_⟩:=zoz hp hn hb;have X:∀ j,j<p.fr.length->isF s (k:Int) (atF p j)=false:=λj U=>by
  cases e:isF s (k:Int) (atF p j) with
  | false=>rfl
  | true=>exact absurd (List.findIdx_lt_length_of_exists ⟨p.fr[j],List.getElem_mem U,by rw [<- zaK U];exact e⟩) Y
 have ag:∀ j,atF q j=if i=j then F0 else atF p j:=λj=>by
  have:=zaC (p:=p) (i:=i) (j:=j) F0 h2;unfold atF setP at this;unfold atF;rw [h6];exact this
 have ad:∀ j,j<q.fr.length->isF s (k:Int) (atF q j)=false:=λj U=>by
  rw [ag];by_cases e:i=j
  ·rw [if_pos e];exact zeF _ _
  rw [if_neg e];exact X j (by rw [h4.l] at U;exact U)
 have ae:seen q.d s (k:Int)=seen p.d s (k:Int):=by
  have:=h4.v s k hk;rwa [zgn ad,zgn X] at this
 rw [h1];simp only;rw [if_neg (by simp)];have Z:i<q.fr.length:=by rw [h4.l];exact h2
 have au:Held q.d (newF s (k:Int) (seen p.d s (k:Int))):=⟨aa,rfl,Int.le_refl _,(show (0:Int)<=200 by decide),zi6 hp.d hk,by show (0:Int)<=(k:Int);omega,by show (k:Int)<((ns q.d s:Nat):Int);rw [h4.n];omega,λ_=>ae.symm⟩;have ay:∀ j,j<q.fr.length->j≠i -> ¬ same (atF q j) (newF s (k:Int) (seen p.d s (k:Int))):=λj U C h=>by
  have:=ad j U;have h':isF s (k:Int) (atF q j)=true:=zak.2 ⟨h.1,h.2.2.2,h.2.2.1⟩;rw [h'] at this;cases this
 have J:=h3.set Z (.inr (.inr au)) ay;have Q:∀ j,atF (setP q i (newF s (k:Int) (seen p.d s (k:Int)))) j=if i=j then newF s (k:Int) (seen p.d s (k:Int)) else atF q j:=λj=>zaC _ Z
 have V:Stays q (setP q i (newF s (k:Int) (seen p.d s (k:Int)))):=by
  refine ⟨zbv _,rfl,rfl,λ_=>rfl,λo j U=>?_⟩;refine zgO h3 J (zbv _) (λa ha h=>.inl ?_) (λh=>?_)
  ·rw [Q];by_cases e:i=a
   ·exfalso;subst e;rw [ag,if_pos rfl,zeF] at h;cases h
   rw [if_neg e];exact ⟨h,rfl⟩
  by_cases e:s=o/\(k:Int)=(j:Int)
  ·obtain ⟨rfl,e2⟩:=e;refine .inl ⟨i,Z,?_,?_⟩
   ·rw [Q,if_pos rfl,<- e2];exact ztA aa
   rw [Q,if_pos rfl,<- e2,ae];rfl
  refine .inr ⟨λa ha=>?_,rfl⟩;rw [Q];by_cases e2:i=a
  ·rw [if_pos e2];exact zbJ λh=>e ⟨(zak.1 h).2.2,(zak.1 h).2.1⟩
  rw [if_neg e2];exact h a ha
 obtain ⟨r,hr⟩ : ∃ r:Pl,r = { setP q i (newF s (k:Int) (seen p.d s (k:Int))) with reads:=up1 q.reads }:=⟨_,rfl⟩;rw [<- hr];have I:∀ j,atF r j=if i=j then newF s (k:Int) (seen p.d s (k:Int)) else atF q j:=λj=>by rw [hr];exact Q j
 have az:Ps r (n+1):=by rw [hr];exact ⟨J.d,J.ok,J.ap,J.l1,J.l2⟩
 have aj:Stays q r:=by rw [hr];exact ⟨V.l,V.z,V.u,V.n,V.v⟩
 have av:i<r.fr.length:=by rw [aj.l];exact Z
 obtain ⟨g1,g2,g3⟩:=zoA az av (by rw [I,if_pos rfl];exact aa) (by rw [I,if_pos rfl];exact (show (0:Int)<200 by decide));have ao:r.fr=p.fr.set i (newF s (k:Int) (seen p.d s (k:Int))):=by rw [hr];show q.fr.set i _=_;rw [h6,List.set_set]
 refine ⟨_,i,rfl,h2,g1,(h4.trans aj).trans g2,?_,?_,?_,λj C=>?_,?_,.inr h5⟩
 ·rw [g3,if_pos rfl,I,if_pos rfl];exact zak.2 ⟨aa,rfl,rfl⟩
 ·rw [g3,if_pos rfl,I,if_pos rfl,zgn X];rfl
 ·rw [g3,if_pos rfl,I,if_pos rfl,X i h2];rfl
 ·rw [g3,if_neg (λe=>C e.symm),I,if_neg (λe=>C e.symm),ag,if_neg (λe=>C e.symm)]
 have:(pin1 r i).fr=p.fr.set i { atF r i with tick:=up1 r.tick,pins:=(atF r i).pins+1 }:=by unfold pin1;simp only [ao,List.set_set]
 rw [this];exact af h2 _
theorem zsD {p:Pl} {n:Nat} (U:Ps p n) {i:Nat} (hi:i<p.fr.length) {x:Fr} (X:Held p.d x) (hh:(atF p i).holds) (V:x.name=(atF p i).name) (hs:x.sector=(atF p i).sector) :
  Ps (setP p i x) n /\ ∀ s (k:Nat),k<ns p.d s->vw (setP p i x) s (k:Int)=if isF s (k:Int) x=true then x.data else vw p s (k:Int):=by
 have Q:∀ j,j<p.fr.length->j≠i -> ¬ same (atF p j) x:=λj J C h=>U.ap j i J hi C ⟨h.1,hh,h.2.2.1.trans V,h.2.2.2.trans hs⟩;have I:=U.set hi (.inr (.inr X)) Q;refine ⟨I,λs k hk=>?_⟩;by_cases e:isF s (k:Int) x=true
 ·rw [if_pos e,zgN I (i:=i) (by rw [zbv];exact hi) (by rw [zaC x hi,if_pos rfl];exact e),zaC x hi,if_pos rfl]
 rw [if_neg e];have C : ¬ isF s (k:Int) (atF p i)=true:=λh=>e (by
  obtain ⟨_,b,c⟩:=zak.1 h;exact zak.2 ⟨X.h,by rw [hs];exact b,by rw [V];exact c⟩)
 refine zgO U I (zbv _) (λj J h=>.inl ?_) (λh=>.inr ⟨λj J=>?_,rfl⟩)
 ·rw [zaC x hi];by_cases e2:i=j
  ·subst e2;exact absurd h C
  rw [if_neg e2];exact ⟨h,rfl⟩
 rw [zaC x hi];by_cases e2:i=j
 ·rw [if_pos e2];exact zbJ e
 rw [if_neg e2];exact h j J
end Sto
end
section
open Go.RowKit
open Mv Disk
namespace Sto
theorem zdR {x:Fr} (h:x.holds):x.idle <-> x.pins=0:=⟨zi8,λe=>.inr ⟨h,e⟩⟩
theorem zhW (p:Pl) (i:Nat):p.fr.getD i F0=atF p i:=rfl
theorem zqU {p:Pl} {n:Nat} (Z:Ps p n) {i:Nat} (hi:i<p.fr.length) {s:tt} {k:Int} (hf:isF s k (atF p i)=true) (h1:1<=(atF p i).pins) :
  ∃ q,zhi p (i:Int)=(q,0)/\Ps q n/\Stays p q/\isF s k (atF q i)=true/\(atF q i).pins=(atF p i).pins-1/\(∀ j,j≠i->atF q j=atF p j)/\nb q.fr<=nb p.fr/\((atF p i).pins=1->nb q.fr+1=nb p.fr):=by
 obtain ⟨hh,hk,hn⟩:=zak.1 hf;have J:=zcc (Z.ok i hi) hh;obtain ⟨x,C⟩ : ∃ x:Fr,x = { atF p i with pins:=(atF p i).pins-1 }:=⟨_,rfl⟩;have Q:Held p.d x:=by rw [C];exact ⟨J.h,J.l,by show 0<=_-1;omega,by have:=J.p1;show _-1<=(200:Int);omega,J.z,J.s0,J.s1,J.c⟩
 have V:isF s k x=true:=by rw [C];exact hf
 obtain ⟨g1,g2⟩:=zsD Z hi Q hh (by rw [C]) (by rw [C]);have hu:zhi p (i:Int)=(setP p i x,0):=by
  unfold zhi;rw [if_neg vd,Int.toNat_natCast,if_neg vd,C]
 have X:Stays p (setP p i x):=⟨zbv _,rfl,rfl,λ_=>rfl,λo j U=>by
  rw [g2 o j U];by_cases e:isF o (j:Int) x=true
  ·rw [if_pos e,zgN Z hi (s:=o) (k:=(j:Int)) (by rw [C] at e;exact e),C]
  rw [if_neg e]⟩
 have I:=zln hi x;rw [zhW] at I;have e1:=zdR hh;have e2:=zdR Q.h;have Y:x.pins=(atF p i).pins-1:=by rw [C]
 refine ⟨setP p i x,hu,g1,X,by rw [zaC x hi,if_pos rfl];exact V,by rw [zaC x hi,if_pos rfl,Y],λj U=>by rw [zaC x hi,if_neg (λe=>U e.symm)],?_,λae=>?_⟩
 ·show nb (p.fr.set i x)<=_;rw [if_neg (λe=>by have:=e1.1 e;omega)] at I;split at I <;> omega
 show nb (p.fr.set i x)+1=_;rw [if_neg (λe=>by have:=e1.1 e;omega),if_pos (e2.2 vd)] at I;omega
theorem zmS {t u:tt} {a:Nat} (I:t.size=64) (C:a+u.size<=64):(fillS t (a:Int) u).size=64:=by
 unfold fillS;rw [ByteArray.size_append,ByteArray.size_append,ByteArray.size_extract,ByteArray.size_extract,Int.toNat_natCast];omega
theorem ztD {p:Pl} {n:Nat} (Z:Ps p n) {i:Nat} (hi:i<p.fr.length) {s:tt} {k:Nat} (Y:isF s (k:Int) (atF p i)=true) (h1:1<=(atF p i).pins) {u:tt} {a:Nat} (ha:a+u.size<=64) :
  ∃ q,fillP p (i:Int) (a:Int) u=(q,0)/\Ps q n/\q.fr.length=p.fr.length/\q.d=p.d/\isF s (k:Int) (atF q i)=true/\(atF q i).pins=(atF p i).pins/\(∀ j,j≠i->atF q j=atF p j)/\nb q.fr=nb p.fr/\(∀ o (j:Nat),j<ns p.d o->vw q o (j:Int)=if s=o/\k=j then fillS (vw p s (k:Int)) (a:Int) u else vw p o (j:Int)):=by
 obtain ⟨hh,hk,hn⟩:=zak.1 Y;have J:=zcc (Z.ok i hi) hh;obtain ⟨x,C⟩ : ∃ x:Fr,x = { atF p i with data:=fillS (atF p i).data (a:Int) u,dirty:=true }:=⟨_,rfl⟩;have U:Held p.d x:=by rw [C];exact ⟨J.h,J.l,J.p0,J.p1,zmS J.z ha,J.s0,J.s1,λe=>by cases e⟩
 have I:isF s (k:Int) x=true:=by rw [C];exact Y
 obtain ⟨g1,g2⟩:=zsD Z hi U hh (by rw [C]) (by rw [C]);have hu:fillP p (i:Int) (a:Int) u=(setP p i x,0):=by
  have h0:pinnedP p (i:Int) (a:Int) (u.size:Int)=0:=by
   unfold pinnedP;rw [if_neg vd,Int.toNat_natCast,if_neg vd]
  unfold fillP;rw [if_pos h0,Int.toNat_natCast,C]
 have Q:=zln hi x;rw [zhW] at Q;have e1:=zdR hh;have e2:=zdR U.h;have X:x.pins=(atF p i).pins:=by rw [C]
 refine ⟨setP p i x,hu,g1,zbv _,rfl,by rw [zaC x hi,if_pos rfl];exact I,by rw [zaC x hi,if_pos rfl,X],λj V=>by rw [zaC x hi,if_neg (λe=>V e.symm)],?_,λo j V=>?_⟩
 ·show nb (p.fr.set i x)=_;rw [if_neg (λe=>by have:=e1.1 e;omega),if_neg (λe=>by have:=e2.1 e;omega)] at Q;omega
 rw [g2 o j V];by_cases e:s=o/\k=j
 ·obtain ⟨rfl,rfl⟩:=e;rw [if_pos I,if_pos ⟨rfl,rfl⟩,zgN Z hi Y,C]
 rw [if_neg e,if_neg (λh=>e ?_)];obtain ⟨_,b,c⟩:=zak.1 h;obtain ⟨_,b',c'⟩:=zak.1 I;exact ⟨c'.symm.trans c,by have:=b'.symm.trans b;omega⟩
theorem ztE {p:Pl} {i:Nat} (hi:i<p.fr.length) (C:(atF p i).idle) (x:Fr) (I : ¬ x.idle):nb (p.fr.set i x)=nb p.fr+1:=by
 have:=zln hi x;rw [zhW,if_pos C,if_neg I] at this;omega
theorem zvH : ¬ F1.idle:=λh=>by
 rcases h with h | h
 ·cases h
 exact h.1 rfl
theorem zlp:∀ (m:Nat) {p:Pl} {n:Nat} (l:List Int),Ps p n->n<16384->(∀ j,j<p.fr.length->(atF p j).dirty=false)->nb p.fr+m<=p.fr.length ->
  ∃ q Q,leaseN m p l=(q,Q,0)/\Q.length=l.length+m/\Ps q n/\Stays p q/\(∀ j,j<p.fr.length->atF q j=atF p j\/atF q j=F1/\(j:Int) ∈ Q)/\(∀ z ∈ l,z ∈ Q)/\nb q.fr=nb p.fr+m
 | 0,p,n,l,hp,_,_,_=>⟨p,l,rfl,rfl,hp,Stays.refl p,λ_ _=>.inl rfl,λ_ h=>h,rfl⟩
 | m+1,p,n,l,hp,hn,hc,hb=>by
  obtain ⟨q,i,h1,h2,_,Z,h5,h6,Y⟩:=zoz hp hn vd;have Y:=Y hc;have C:i<q.fr.length:=by rw [Z.l];exact h2
  have U:∀ j,atF q j=if i=j then F0 else atF p j:=λj=>by
   have:=zaC (p:=p) (i:=i) (j:=j) F0 h2;unfold atF setP at this;unfold atF;rw [h6];exact this
  have V:=Y.set C (x:=F1) (.inr (.inl rfl)) (λj _ _ h=>n1 h.2.1);have ac:Stays q (setP q i F1):=⟨zbv _,rfl,rfl,λ_=>rfl,λo j I=>zgO Y V (zbv _) (λa ha h=>.inl (by
   rw [zaC F1 C];by_cases e:i=a
   ·exfalso;subst e;rw [U,if_pos rfl,zeF] at h;cases h
   ·rw [if_neg e];exact ⟨h,rfl⟩)) (λh=>.inr ⟨λa ha=>by
   rw [zaC F1 C];by_cases e:i=a
   ·rw [if_pos e];exact zvE _ _
   rw [if_neg e];exact h a ha,rfl⟩)⟩
  have aa:(setP q i F1).fr=p.fr.set i F1:=by show q.fr.set i F1=_;rw [h6,List.set_set]
  have X:nb (setP q i F1).fr=nb p.fr+1:=by rw [aa];exact ztE h2 h5 _ zvH
  have J:(setP q i F1).fr.length=p.fr.length:=by rw [zbv,Z.l]
  have e1:∀ j,j<p.fr.length->atF (setP q i F1) j=if i=j then F1 else atF p j:=λj I=>by
   rw [zaC F1 C,U];split <;> rfl
  obtain ⟨r,Q,g1,g0,g2,g3,g4,g6,g5⟩:=zlp m (p:=setP q i F1) (l ++ [(i:Int)]) V hn (λj I=>by
   rw [J] at I;rw [e1 j I];split
   ·rfl
   exact hc j I) (by rw [X,J];omega)
  refine ⟨r,Q,?_,by rw [g0,List.length_append,List.length_singleton];omega,g2,(Z.trans ac).trans g3,λj I=>?_,λz hz=>g6 z (List.mem_append_left _ hz),by rw [g5,X];omega⟩
  ·unfold leaseN;rw [h1];simp only [if_pos];exact g1
  rcases g4 j (by rw [J];exact I) with e | e
  ·rw [e,e1 j I];split
   ·rename_i q;exact .inr ⟨rfl,g6 _ (List.mem_append_right _ (by rw [<- q];exact List.mem_singleton.2 rfl))⟩
   exact .inl rfl
  exact .inr e
theorem zvI {p:Pl} {n:Nat} (C:Ps p n) (i:Int):∃ q e,ret1 p i=(q,e)/\Ps q n/\Stays p q:=by
 unfold ret1;by_cases J:i<0\/(p.fr.length:Int)<=i
 ·rw [if_pos J];exact ⟨p,1,rfl,C,Stays.refl p⟩
 rw [if_neg J];obtain ⟨j,rfl⟩:=Int.eq_ofNat_of_zero_le (show 0<=i by omega);rw [Int.toNat_natCast];by_cases I:(atF p j).leased=false
 ·rw [if_pos I];exact ⟨p,11,rfl,C,Stays.refl p⟩
 rw [if_neg I];have hi:j<p.fr.length:=by omega
 obtain ⟨U,Q⟩:=zgo C hi (λhh=>absurd (zcc (C.ok j hi) hh).l I);exact ⟨_,0,rfl,U,Q⟩
end Sto
end
section
open Go.RowKit
open Mv Disk
namespace Sto
def Alike (p q:Pl):Prop:=∀ j,j<p.fr.length->(atF q j).name=(atF p j).name/\(atF q j).sector=(atF p j).sector/\(atF q j).pins=(atF p j).pins/\(atF q j).leased=(atF p j).leased/\(atF q j).data=(atF p j).data
theorem Alike.refl (p:Pl):Alike p p:=λ_ _=>⟨rfl,rfl,rfl,rfl,rfl⟩
theorem Alike.trans {p q r:Pl} (h:Alike p q) (g:Alike q r) (hl:q.fr.length=p.fr.length):Alike p r:=λj I=>by
 obtain ⟨X,a2,J,C,Q⟩:=h j I;obtain ⟨Y,Z,U,b4,V⟩:=g j vd;exact ⟨Y.trans X,Z.trans a2,U.trans J,b4.trans C,V.trans Q⟩
theorem zgp:∀ (m i:Nat) {p:Pl} {n:Nat},Ps p n->n+m<=16384->i+m=p.fr.length ->
  ∃ q,flushN p i m=(q,0)/\Ps q (n+m)/\Stays p q/\Alike p q/\(∀ j,i<=j->j<p.fr.length->(atF q j).dirty=false) /\ ∀ j,j<i->(atF q j).dirty=(atF p j).dirty
 | 0,i,p,n,hp,_,hi=>⟨p,rfl,hp,Stays.refl p,Alike.refl p,λj h1 h2=>by omega,λ_ _=>rfl⟩
 | m+1,i,p,n,hp,hn,hi=>by
  unfold flushN;by_cases J:(atF p i).dirty=true
  ·rw [if_pos J];have I:i<p.fr.length:=(by omega);have hh:(atF p i).holds:=by
    rcases hp.ok i I with h | h | h
    ·rw [h] at J;cases J
    ·rw [h] at J;cases J
    exact h.h
   obtain ⟨q,h1,h2,Y,h4,_,_⟩:=zvF hp vd I hh;rw [h1,if_pos rfl];have U:∀ j,atF q j=if i=j then { atF p i with dirty:=false } else atF p j:=λj=>by
    have:=zaC (p:=p) (i:=i) (j:=j) { atF p i with dirty:=false } I;unfold atF setP at this;unfold atF;rw [h4];exact this
   obtain ⟨r,g1,C,g3,g4,Z,V⟩:=zgp m (i+1) h2 vd (by rw [Y.l];omega);refine ⟨r,g1,by rw [show n+(m+1)=n+1+m by omega];exact C,Y.trans g3,Alike.trans (λj X=>?_) g4 Y.l,λj X Q=>?_,λj X=>?_⟩
   ·rw [U];by_cases e:i=j
    ·rw [if_pos e];subst e;exact ⟨rfl,rfl,rfl,rfl,rfl⟩
    rw [if_neg e];exact ⟨rfl,rfl,rfl,rfl,rfl⟩
   ·by_cases e:i=j
    ·rw [V j vd,U,if_pos e]
    exact Z j vd (by rw [Y.l];exact Q)
   rw [V j vd,U,if_neg vd]
  rw [if_neg J];obtain ⟨r,g1,C,g3,g4,Z,V⟩:=zgp m (i+1) (p:=p) (n:=n) hp vd vd;refine ⟨r,g1,⟨C.d.mono vd,C.ok,C.ap,C.l1,C.l2⟩,g3,g4,λj X Q=>?_,λj X=>V j vd⟩;by_cases e:i=j
  ·rw [V j vd,<- e];simpa using J
  exact Z j vd Q
theorem zoB {p:Pl} {n:Nat} (C:Ps p n):Ps { p with d:=settleD p.d λ_=>true } 0/\Stays p { p with d:=settleD p.d λ_=>true }:=by
 obtain ⟨V,Y,U,Q,J⟩:=zgk C.d;have X:∀ j,atF { p with d:=settleD p.d λ_=>true } j=atF p j:=λ_=>rfl;have I:Ps { p with d:=settleD p.d λ_=>true } 0:=⟨V,λi hi=>by
  rcases C.ok i hi with h | h | h
  ·exact .inl h
  ·exact .inr (.inl h)
  refine .inr (.inr (h.to Q ?_));obtain ⟨k,hk⟩:=Int.eq_ofNat_of_zero_le h.s0;have:=h.s1;rw [hk] at this ⊢;exact J _ k vd,C.ap,C.l1,C.l2⟩
 exact ⟨I,⟨rfl,Y,U,Q,λs k hk=>zgO C I rfl (λi hi h=>.inl ⟨h,rfl⟩) (λh=>.inr ⟨h,J s k hk⟩)⟩⟩
theorem zqV {p:Pl} {n:Nat} (Z:Ps p n) (Y:n+p.fr.length<=16384) :
  ∃ q,flushP p=(q,0)/\Ps q 0/\Stays p q/\Alike p q /\ ∀ j,j<p.fr.length->(atF q j).dirty=false:=by
 obtain ⟨q,V,h2,J,X,Q,_⟩:=zgp p.fr.length 0 Z Y (Nat.zero_add _);obtain ⟨U,C⟩:=zoB h2;refine ⟨{ q with d:=settleD q.d λ_=>true },?_,U,J.trans C,X,λj I=>Q j (Nat.zero_le _) I⟩;unfold flushP;rw [V,if_pos rfl]
theorem zqW {p q:Pl} (h:Alike p q) (hl:q.fr.length=p.fr.length) {n m:Nat} (V:Ps p n) (X:Ps q m):nb q.fr=nb p.fr:=by
 have key:∀ j,j<p.fr.length->((atF q j).idle <-> (atF p j).idle):=λj J=>by
  obtain ⟨Q,Y,U,I,_⟩:=h j J;have h1:=V.ok j J;have h2:=X.ok j vd;by_cases hh:(atF p j).holds
  ·have C:(atF q j).holds:=(by unfold Fr.holds at hh ⊢;rw [Q];exact hh);rw [zdR hh,zdR C,U]
  have C : ¬ (atF q j).holds:=by unfold Fr.holds at hh ⊢;rw [Q];exact hh
  rcases h1 with h1 | h1 | h1
  ·rcases h2 with h2 | h2 | h2
   ·rw [h1,h2]
   ·rw [h1,h2] at I;cases I
   exact absurd h2.h C
  ·rcases h2 with h2 | h2 | h2
   ·rw [h1,h2] at I;cases I
   ·rw [h1,h2]
   exact absurd h2.h C
  exact absurd h1.h hh
 unfold nb;have e1:q.fr.countP (λx=>!decide x.idle)=(List.range q.fr.length).countP (λj=>!decide (atF q j).idle):=by
  conv=>lhs;rw [show q.fr=(List.range q.fr.length).map (λj=>atF q j) from List.ext_getElem (by simp) λi h1 h2=>by simp [zaK h1]]
  rw [List.countP_map];rfl
 have e2:p.fr.countP (λx=>!decide x.idle)=(List.range p.fr.length).countP (λj=>!decide (atF p j).idle):=by
  conv=>lhs;rw [show p.fr=(List.range p.fr.length).map (λj=>atF p j) from List.ext_getElem (by simp) λi h1 h2=>by simp [zaK h1]]
  rw [List.countP_map];rfl
 rw [e1,e2,hl];refine List.countP_congr λj J=>?_;have:=key j (List.mem_range.1 J);simp [this]
theorem zqX {p:Pl} {n:Nat} (C:Ps p n) (Z:n<16384) {s u:tt} {k:Nat} (hk:k<ns p.d s) (hu:u.size=64) (U:∀ i,i<p.fr.length->isF s (k:Int) (atF p i)=false) :
  ∃ d',writeD p.d s (k:Int) u=(d',0)/\Ps { p with d:=d' } (n+1)/\d'.size=p.d.size/\used d'.ext=used p.d.ext/\(∀ o,ns d' o=ns p.d o) /\ ∀ o (j:Nat),j<ns p.d o->vw { p with d:=d' } o (j:Int)=if s=o/\k=j then u else vw p o (j:Int):=by
 obtain ⟨d',X,h2,V,Y,Q,J⟩:=zgj C.d Z hk hu;have I:Ps { p with d:=d' } (n+1):=⟨h2,λi hi=>by
  rcases C.ok i hi with h | h | h
  ·exact .inl h
  ·exact .inr (.inl h)
  refine .inr (.inr (h.to Q ?_));rw [J,if_neg];rintro ⟨a,b⟩;have g:isF s (k:Int) (atF p i)=true:=zak.2 ⟨h.h,b.symm,a.symm⟩;have:=U i hi;rw [g] at this;exact absurd this (by simp),C.ap,C.l1,C.l2⟩
 refine ⟨d',X,I,V,by rw [Y],Q,λo j hj=>?_⟩;by_cases e:s=o/\k=j
 ·obtain ⟨rfl,rfl⟩:=e;rw [if_pos ⟨rfl,rfl⟩,zgn (p:={ p with d:=d' }) U];show seen d' s (k:Int)=u;rw [J,if_pos ⟨rfl,rfl⟩]
 rw [if_neg e];refine zgO C I rfl (λi hi h=>.inl ⟨h,rfl⟩) (λh=>.inr ⟨h,?_⟩);show seen d' o (j:Int)=_;rw [J,if_neg (λh=>e ⟨h.1,by omega⟩)]
theorem zoC {p:Pl} {n:Nat} (J:Ps p n) {s:tt} (h:∀ i,i<p.fr.length->ofN s (atF p i)=true->(atF p i).pins=0/\(atF p i).dirty=false) :
  ∃ q,dropP p s=(q,0)/\Ps q n/\Stays p q/\q.d=p.d/\(∀ j,j<p.fr.length->atF q j=if ofN s (atF p j)=true then F0 else atF p j):=by
 have h0 : ¬ p.fr.any (λx=>ofN s x && decide (0<x.pins))=true:=λe=>by
  obtain ⟨x,hx,e2⟩:=List.any_eq_true.1 e;obtain ⟨i,hi,rfl⟩:=List.mem_iff_getElem.1 hx;simp only [Bool.and_eq_true,decide_eq_true_eq] at e2;have:=(h i hi (by rw [zaK hi];exact e2.1)).1;rw [zaK hi] at this;omega
 obtain ⟨q,I⟩ : ∃ q:Pl,q = { p with fr:=p.fr.map λx=>if ofN s x=true then F0 else x }:=⟨_,rfl⟩;have hl:q.fr.length=p.fr.length:=by rw [I];simp
 have Q:∀ j,j<p.fr.length->atF q j=if ofN s (atF p j)=true then F0 else atF p j:=λj C=>by
  rw [zaK (p:=q) vd,zaK C];simp only [I,List.getElem_map]
 have V:Ps q n:=by
  refine ⟨by rw [I];exact J.d,λi hi=>?_,λi j hi C X=>?_,by rw [hl];exact J.l1,by rw [hl];exact J.l2⟩
  ·rw [hl] at hi;rw [Q i hi];by_cases e:ofN s (atF p i)=true
   ·rw [if_pos e];exact .inl rfl
   rw [if_neg e,show q.d=p.d by rw [I]];exact J.ok i hi
  rw [hl] at hi C;rw [Q i hi,Q j C];split
  ·exact λg=>n0 g.1
  split
  ·exact λg=>n0 g.2.1
  exact J.ap i j hi C X
 refine ⟨q,by unfold dropP;rw [if_neg h0,I],V,⟨hl,by rw [I],by rw [I],λo=>by rw [I],λo k hk=>?_⟩,by rw [I],Q⟩;refine zgO J V hl (λi hi g=>?_) (λg=>.inr ⟨λj C=>?_,by rw [I]⟩)
 ·by_cases e:ofN s (atF p i)=true
  ·obtain ⟨b1,b2,Z⟩:=zak.1 g;refine .inr ⟨λj C=>?_,?_⟩
   ·rw [Q j C];by_cases Y:ofN s (atF p j)=true
    ·rw [if_pos Y];exact zeF _ _
    rw [if_neg Y];refine zbJ λg2=>?_;obtain ⟨c1,c2,c3⟩:=zak.1 g2;by_cases U:i=j
    ·subst U;exact Y e
    exact J.ap i j hi C U ⟨b1,c1,Z.trans c3.symm,b2.trans c2.symm⟩
   have:=(zcc (J.ok i hi) b1).c (h i hi e).2;rw [show q.d=p.d by rw [I],this,b2,Z]
  exact .inl (by rw [Q i hi,if_neg e];exact ⟨g,rfl⟩)
 rw [Q j C];split
 ·exact zeF _ _
 exact g j C
theorem zvJ {p:Pl} {n:Nat} (C:Ps p n) {s:tt} {m:Nat} (hs:nm s) (U:ns p.d s=0) (h1:1<=m) (hr:(used p.d.ext:Int)+m<=p.d.size) :
  ∃ d',newD p.d s (m:Int)=(d',0)/\Ps { p with d:=d' } n/\d'.size=p.d.size/\used d'.ext=used p.d.ext+m/\(∀ o,ns d' o=if s=o then m else ns p.d o)/\(∀ j:Nat,j<m->vw { p with d:=d' } s (j:Int)=zs) /\ ∀ o (j:Nat),j<ns p.d o->vw { p with d:=d' } o (j:Int)=vw p o (j:Int):=by
 obtain ⟨d',g1,g2,g3,g4,V,g6,X⟩:=zsC C.d hs U h1 hr;have I:∀ i,i<p.fr.length->(atF p i).holds->s≠(atF p i).name:=λi hi hh e=>by
  have Z:=zcc (C.ok i hi) hh;have a:=Z.s0;have b:=Z.s1;rw [<- e,U] at b;omega
 have J:Ps { p with d:=d' } n:=⟨g2,λi hi=>by
  rcases C.ok i hi with h | h | h
  ·exact .inl h
  ·exact .inr (.inl h)
  have Y:=I i hi h.h;have hh:has p.d.ext (atF p i).name=true:=(zcO C.d _).2 (by have a:=h.s0;have b:=h.s1;omega);exact .inr (.inr ⟨h.h,h.l,h.p0,h.p1,h.z,h.s0,by show (atF p i).sector<((ns d' (atF p i).name:Nat):Int);rw [V,if_neg Y];exact h.s1,λe=>by show (atF p i).data=seen d' (atF p i).name (atF p i).sector;rw [X _ _ Y hh];exact h.c e⟩),C.ap,C.l1,C.l2⟩
 refine ⟨d',g1,J,g3,g4,V,λj Q=>?_,λo j Q=>?_⟩
 ·rw [zgn (p:={ p with d:=d' }) (λi hi=>zbJ λh=>by
   obtain ⟨a,_,b⟩:=zak.1 h;exact I i hi a b.symm)]
  exact g6 j Q
 refine zgO C J rfl (λi hi h=>.inl ⟨h,rfl⟩) (λh=>.inr ⟨h,?_⟩);have hh:has p.d.ext o=true:=(zcO C.d _).2 vd;exact X o _ (λe=>by rw [<- e,U] at Q;omega) hh
end Sto
end
section
open Go.RowKit
open Mv Disk
theorem Mv.Calm.maxE {P:tz} {N:Nat} {E:Env} {S:Mem} {dst:Option Nat} {ty:tx} {pos:String} {aft:Array Edge} {gd:Option (Nat × Bool)} {x y:tw} {k k':IntKind} {a b c:Int} {I:Array tx} (h:c=max a b) (Q:ev E x=some (.int k a)) (J:ev E y=some (.int k' b)):ACalm P N ⟨dst,.call ⟨.builtin .max,#[x,y],I⟩,ty,pos,aft,gd⟩ E S (.int k c):=by
 by_cases C:a<=b
 ·rw [show c=b from by omega];exact uQ Q J C
 rw [show c=a from by omega];exact uN Q J vd
theorem zhX {α : Type} {n:Nat} {f : α->List tu} {S:Mem} {b:Nat} {len cap:Nat} {l:List α} (h:Sl n f S (.slice (some ⟨b,0,none⟩) len cap) l) (i:Nat) (hi:i<l.length):S.Knows ⟨b,0+i*n,none⟩ (f l[i]):=h.at1 i hi
theorem zhY {M:Mem} {a p b c:Nat} {x:Pl} {k:Int} (h:a≠b) (hl:x.fr.length<=c) (hm:x.fr.length<=256) {i:Nat} (hi:i<x.fr.length):(arM M a p b c x k).Knows ⟨b,0+i*7,none⟩ (frF (atF x i)):=by
 rw [zaK hi];exact zhX (zkl h hl hm) i hi
theorem ztF (a p b c:Nat) (x:Pl) (k:Int) (S:Mem) (I:S.own a=some (arB p b c x k)) (hF:Sl 7 frF S (.slice (some ⟨b,0,none⟩) x.fr.length c) x.fr) (V:x.fr.length<=256) :
  ACall prog 214 #[.pointer (some ⟨a,0,none⟩)] S λr S'=>(∃ n:Nat,n<=256/\r = .int .i64 n)/\S'=S:=by
 unfold arB at I;refine k_E1 22 func214 ?_;refine r22_ ?_;refine AWP.loop (X:=Nat) (λy=>[(0,.pointer (some ⟨a,0,none⟩)),(3,.int .i64 ((x.fr.take y).countP (λz=>!decide (z=F0)):Nat)),(9,.slice (some ⟨b,0,none⟩) x.fr.length c),(10,.int .i64 x.fr.length),(11,.int .i64 y)]) (λ_=>S) (λy=>y<=x.fr.length) (λy=>x.fr.length-y) (0) ⟨rfl,zah (by simp),rfl,rfl,rfl,trivial⟩ zae (Nat.zero_le _) ?_;rintro i hi;(try dsimp only at *);refine r6_ ?_;refine vu rfl (λhc=>?_) (λhc=>?_)
 ·have hc:i<x.fr.length:=by have:=of_decide_eq_true hc;omega
  have Q:=zhX hF i hc;have U:=zhh (q:=λz=>!decide (z=F0)) hc;have u1:=zlm (q:=λz=>!decide (z=F0)) x.fr (i+1);generalize x.fr[i]=y at *;have cf:=λS=>zfe y S;unfold frV at cf;unfold frF at Q;by_cases q:y=F0
  ·simp only [q,decide_true,Bool.not_true,Bool.false_eq_true,if_false,Nat.add_zero] at U;rw [decide_eq_true q] at cf;refine r8_ ?_;refine ARun.alloc (zab rfl) zay ?_;intro Y J;have C:=J
   repeat ((with_reducible replace C:=zaa C);obtain ⟨C,_⟩:=C)
   have:=C.ne I;have:=C.ne' I
   refine nl_ ?_;refine r6_ ?_;refine cp_ rfl (cf _) ?_;refine r3_ ?_;refine cF_ ?_;refine r8_ ?_;refine ⟨i+1,?_,?_,?_,?_⟩<;>try dsimp only
   ·exact ⟨rfl,zah vd,rfl,rfl,rfl,trivial⟩
   ·exact zae
   ·exact hc
   omega
  simp only [q,decide_false,Bool.not_false,if_true] at U;rw [decide_eq_false q] at cf;refine r8_ ?_;refine ARun.alloc (zab rfl) zay ?_;intro Y J;have C:=J
  repeat ((with_reducible replace C:=zaa C);obtain ⟨C,_⟩:=C)
  have:=C.ne I;have:=C.ne' I
  refine nl_ ?_;refine r6_ ?_;refine cp_ rfl (cf _) ?_;refine r3_ ?_;refine kw_ [0,3,9,10,11,12,5,17] ?_;refine cT_ ?_;refine r12_ ?_;refine ⟨i+1,?_,?_,?_,?_⟩<;>try dsimp only
  ·exact ⟨rfl,zah vd,rfl,rfl,rfl,trivial⟩
  ·exact zae
  ·exact hc
  omega
 have Z:x.fr.countP (λz=>!decide (z=F0))<=x.fr.length:=List.countP_le_length;have hc:i=x.fr.length:=by have:=of_decide_eq_false hc;omega
 subst hc;rw [List.take_length];refine r12_ ?_;refine ⟨_,S,⟨_,_,rfl,rfl,rfl⟩,zae,?_⟩;exact ⟨⟨_,by omega,rfl⟩,rfl⟩
theorem zqY (a p b c:Nat) (x:Pl) (k:Int) (S:Mem) (I:S.own a=some (arB p b c x k)) (Z:Sl 7 frF S (.slice (some ⟨b,0,none⟩) x.fr.length c) x.fr) (V:x.fr.length<=256) :
  ACall prog 186 #[.pointer (some ⟨a,0,none⟩)] S λr S'=>r = .int .i64 (idlesP x:Nat)/\S'=S:=by
 unfold arB at I;unfold idlesP;refine k_E1 21 func186 ?_;refine r22_ ?_;refine AWP.loop (X:=Nat) (λy=>[(0,.pointer (some ⟨a,0,none⟩)),(3,.int .i64 ((x.fr.take y).countP (λz=>decide z.idle):Nat)),(9,.slice (some ⟨b,0,none⟩) x.fr.length c),(10,.int .i64 x.fr.length),(11,.int .i64 y)]) (λ_=>S) (λy=>y<=x.fr.length) (λy=>x.fr.length-y) (0) ⟨rfl,zah (by simp),rfl,rfl,rfl,trivial⟩ zae (Nat.zero_le _) ?_;rintro i hi;(try dsimp only at *);refine r6_ ?_;refine vu rfl (λhc=>?_) (λhc=>?_)
 ·have hc:i<x.fr.length:=by have:=of_decide_eq_true hc;omega
  have Q:=zhX Z i hc;have U:=zhh (q:=λz=>decide z.idle) hc;have u1:=zlm (q:=λz=>decide z.idle) x.fr (i+1);generalize x.fr[i]=y at *;have cf:=λS=>zhT y S;unfold frV at cf;unfold frF at Q;by_cases q:y.idle
  ·simp only [q,decide_true,if_true] at U;rw [decide_eq_true q] at cf;refine r8_ ?_;refine ARun.alloc (zab rfl) zay ?_;intro Y J;have C:=J
   repeat ((with_reducible replace C:=zaa C);obtain ⟨C,_⟩:=C)
   have:=C.ne I;have:=C.ne' I
   refine nl_ ?_;refine r6_ ?_;refine cp_ rfl (cf _) ?_;refine r2_ ?_;refine cT_ ?_;refine r12_ ?_;refine ⟨i+1,?_,?_,?_,?_⟩<;>try dsimp only
   ·exact ⟨rfl,zah vd,rfl,rfl,rfl,trivial⟩
   ·exact zae
   ·exact hc
   omega
  simp only [q,decide_false,Bool.false_eq_true,if_false,Nat.add_zero] at U;rw [decide_eq_false q] at cf;refine r8_ ?_;refine ARun.alloc (zab rfl) zay ?_;intro Y J;have C:=J
  repeat ((with_reducible replace C:=zaa C);obtain ⟨C,_⟩:=C)
  have:=C.ne I;have:=C.ne' I
  refine nl_ ?_;refine r3_ ?_;refine kw_ [0,3,9,10,11,12,5] ?_;refine r3_ ?_;refine cp_ rfl (cf _) ?_;refine r2_ ?_;refine cF_ ?_;refine r8_ ?_;refine ⟨i+1,?_,?_,?_,?_⟩<;>try dsimp only
  ·exact ⟨rfl,zah vd,rfl,rfl,rfl,trivial⟩
  ·exact zae
  ·exact hc
  omega
 have hc:i=x.fr.length:=by have:=of_decide_eq_false hc;omega
 subst hc;rw [List.take_length];refine r12_ ?_;refine ⟨_,S,⟨_,_,rfl,rfl,rfl⟩,zae,?_⟩;exact ⟨rfl,rfl⟩
theorem zvK {M:Mem} {a p b c:Nat} {x x':Pl} {k:Int} (C:x.fr=x'.fr) (J:x.tick=x'.tick) (I:x.reads=x'.reads) (Q:x.writes=x'.writes):arM M a p b c x k=arM M a p b c x' k:=by
 unfold arM arB;rw [C,J,I,Q]
theorem zfz {S:Mem} {b o:Nat} {y:Fr} (h:S.Knows ⟨b,o,none⟩ (frF y)):S.Knows ⟨b,o+0,none⟩ [.string y.name]/\S.Knows ⟨b,o+1,none⟩ [.int .i64 y.sector]/\S.Knows ⟨b,o+2,none⟩ [.string y.data]/\S.Knows ⟨b,o+3,none⟩ [.int .i64 y.pins]/\S.Knows ⟨b,o+4,none⟩ [.bool y.dirty]/\S.Knows ⟨b,o+5,none⟩ [.int .u64 y.tick]/\S.Knows ⟨b,o+6,none⟩ [.bool y.leased] :=
 ⟨zf9 h 0 rfl,zf9 h 1 rfl,zf9 h 2 rfl,zf9 h 3 rfl,zf9 h 4 rfl,zf9 h 5 rfl,zf9 h 6 rfl⟩
theorem zkn {S:Mem} {b o:Nat} {cs:List tu} (h:S.Knows ⟨b,0+o,none⟩ cs):S.Knows ⟨b,o,none⟩ cs:=by rw [Nat.zero_add] at h;exact h
def ArR (S:Mem) (a p b c:Nat) (q:Pl × Int) (r:tu) (S':Mem):Prop:=r = .int .i64 q.2/\ArS S a p b c q.1 S'
theorem zlq (a p b c:Nat) (x:Pl) (i:Nat) (k:Int) (S:Mem) (oE oW:Option (Nat × Nat)) (C:OkA S a p b c x oE oW) (X:PW x) (hi:i<x.fr.length) :
  ACall prog 136 #[.pointer (some ⟨a,0,none⟩),.int .i64 (i:Nat)] (arM (devM S p x.d oE oW) a p b c x k) (ArR S a p b c (wrP x i)):=by
 have an:=Nat.le_trans (Nat.le_of_lt hi) X.l2;have hA:=za0 (M:=devM S p x.d oE oW) (a:=a) (p:=p) (b:=b) (c:=c) (x:=x) (k:=k);have I:OkA S a p b c { x with writes:=up1 x.writes } oE oW:=C.like rfl rfl;have V:=zhU I k (zex p x.d (atF x i).name (atF x i).sector (atF x i).data S oE oW I.v X.dr X.fu);have Y:=zff (M:=devM S p x.d oE oW) (a:=a) (p:=p) (b:=b) (c:=c) (x:=x) (x':={ x with writes:=up1 x.writes }) (k:=k) (k':=k) rfl;have aa:=za0 (M:=devM S p x.d oE oW) (a:=a) (p:=p) (b:=b) (c:=c) (x:={ x with writes:=up1 x.writes }) (k:=k);have hK:=zhY (M:=devM S p x.d oE oW) (p:=p) (x:={ x with writes:=up1 x.writes }) (k:=k) I.ab I.l X.l2 hi;obtain ⟨k0,k1,k2,k3,k4,k5,k6⟩:=zfz (zkn hK);have Z:atF { x with writes:=up1 x.writes } i=atF x i:=rfl;rw [Z] at k0 k1 k2 k3 k4 k5 k6;unfold wrP;generalize hy:atF x i=y at *;generalize hq:writeD x.d y.name y.sector y.data=q at *;generalize hT:arM (devM S p x.d oE oW) a p b c x k=T at *;generalize ae:arM (devM S p x.d oE oW) a p b c { x with writes:=up1 x.writes } k=T1 at *;unfold arB at hA aa;refine k_E2 43 func136 ?_;refine r25_ ?_;refine vm rfl rfl zaw rfl hA (show 4<6 from by decide) rfl ?_;refine nm_ ?_;refine r2_ ?_;refine AWP.less T1 (by rw [<- Y];exact Mem.Less.refl _) ?_;refine s1_ ?_;refine dr_ [i0_,i1_,i2_,i3_,i4_,i5_,i6_,i7_,i8_,i9_,i10_,i11_,i12_,i13_,i14_,i15_,o16_,i17_] [16] ?_;refine r16_ ?_;refine zac rfl ?_;refine ca_ rfl (V) ?_;rintro _ S1 ⟨M,⟨Q,J,U,rfl,hM⟩,fb,fa,h1⟩;rw [h1];clear h1 S1;rw [hM] at fb fa ⊢;refine zad ⟨nz_,?_⟩;refine r3_ ?_;by_cases e0:q.2=0
 ·refine r7_ ?_;refine cT_ ?_;refine r4_ ?_;refine ARun.storeFr1 (c:=c) (i:=i) (l:=x.fr) (q:=4) (u:={ y with dirty:=false }) rfl rfl rfl rfl vd (by decide) hi (by rw [<- hy,zaK hi];rfl) zeu (zdU C.ab) ?_;refine nm_ ?_;refine r2_ ?_;refine kw_ [0,1,4,5,6,38] ?_;rw [show ∀ u,(arM (devM S p q.1 Q J) a p b c { x with writes:=up1 x.writes } k).set b (frB (x.fr.set i u) c)=arM (devM S p q.1 Q J) a p b c { x with writes:=up1 x.writes,fr:=x.fr.set i u } k from λu=>zbS C.ab _ (by simp)];refine r7_ ?_;refine ⟨_,arM (devM S p q.1 Q J) a p b c { x with writes:=up1 x.writes,fr:=x.fr.set i { y with dirty:=false } } k,⟨_,_,rfl,rfl,rfl⟩,Mem.Less.refl _,?_⟩;exact ⟨rfl,k,Q,J,⟨U,fb,fa,C.ab,by simp only [if_pos e0,List.length_set];exact C.l⟩,by simp only [if_pos e0];exact zvK rfl rfl rfl rfl⟩
 refine r7_ ?_;refine cF_ ?_;refine r9_ ?_;refine ⟨_,arM (devM S p q.1 Q J) a p b c { x with writes:=up1 x.writes } k,⟨_,_,rfl,rfl,rfl⟩,Mem.Less.refl _,?_⟩;exact ⟨rfl,k,Q,J,⟨U,fb,fa,C.ab,by simp only [if_neg e0];exact C.l⟩,by simp only [if_neg e0];exact zvK rfl rfl rfl rfl⟩
theorem zgq (x:Pl) (i:Nat):(wrP x i).1.fr.length=x.fr.length:=by
 unfold wrP;simp only;split <;> simp
theorem zcr {l:List Fr} {i:Nat} (h:i<l.length):l.getD i F0=l[i]:=by simp [List.getD,List.getElem?_eq_getElem h]
theorem zoD {l:List Fr} {i:Nat} (h:i<l.length) (I:l[i]=F0) (J:∀ j (C:j<l.length),j<i->l[j]≠F0):l.findIdx (λx=>decide (x=F0))=i :=
 (List.findIdx_eq h).2 ⟨by simp [I],λj C=>by simp [J j vd C]⟩
theorem zoE {l:List Fr} (C:∀ j (I:j<l.length),l[j]≠F0) : ¬ l.findIdx (λx=>decide (x=F0))<l.length:=λh=>by
 have:=List.findIdx_getElem (w:=h);simp only [decide_eq_true_eq] at this;exact C _ h this
theorem zoF (a p b c:Nat) (x:Pl) (k:Int) (S:Mem) (oE oW:Option (Nat × Nat)) (I:OkA S a p b c x oE oW) (hw:PW x) :
  ACall prog 183 #[.pointer (some ⟨a,0,none⟩)] (arM (devM S p x.d oE oW) a p b c x k) λr S'=>r = .tuple #[.int .i64 ((takeP x).2.1:Nat),.int .i64 (takeP x).2.2]/\ArS S a p b c (takeP x).1 S':=by
 have aw:=hw.l2;have hA:=za0 (M:=devM S p x.d oE oW) (a:=a) (p:=p) (b:=b) (c:=c) (x:=x) (k:=k);have hB:=zdU (M:=devM S p x.d oE oW) (p:=p) (c:=c) (x:=x) (k:=k) I.ab;have hF:=zkl (M:=devM S p x.d oE oW) (p:=p) (x:=x) (k:=k) I.ab I.l hw.l2;have az:=λk'=>zff (M:=devM S p x.d oE oW) (a:=a) (p:=p) (b:=b) (c:=c) (x:=x) (x':=x) (k:=k) (k':=k') rfl;have aI:=λai h=>zbS (M:=devM S p x.d oE oW) (p:=p) (c:=c) (x:=x) (k:=k) I.ab ai h;have aC:=λm hm=>zlq a p b c x m k S oE oW I hw hm;generalize hT:arM (devM S p x.d oE oW) a p b c x k=T at *;have ac:=λS=>ztF a p b c x k S;unfold arB at hA ac;refine k_E1 79 func183 ?_;refine r23_ ?_;refine AWP.loop (X:=Nat) (λy=>[(0,.pointer (some ⟨a,0,none⟩)),(4,.int .i64 (bestF x.fr y)),(11,.slice (some ⟨b,0,none⟩) x.fr.length c),(12,.int .i64 x.fr.length),(13,.int .i64 y)]) (λ_=>T) (λy=>y<=x.fr.length /\ ∀ j (hj:j<x.fr.length),j<y->x.fr[j]≠F0) (λy=>x.fr.length-y) (0) ⟨rfl,rfl,rfl,rfl,rfl,trivial⟩ zae (⟨Nat.zero_le _,λj _ h=>absurd h (Nat.not_lt_zero _)⟩) ?_;rintro i ⟨hi,ag⟩;(try dsimp only at *);obtain ⟨aL,aN⟩:=zeE x.fr i;refine r6_ ?_;refine vu rfl (λhc=>?_) (λhc=>?_)
 ·have hc:i<x.fr.length:=by have:=of_decide_eq_true hc;omega
  have ae:=zhX hF i hc;have ah:=zcr hc;by_cases q:x.fr[i]=F0
  ·have U:takeP x=(x,i,0):=(by unfold takeP;rw [zoD hc q ag,if_pos hc]);rw [U];have cf:=λS=>zfe x.fr[i] S;rw [decide_eq_true q] at cf;generalize x.fr[i]=y at *;unfold frV at cf;unfold frF at ae;refine r9_ ?_;refine ARun.alloc (zab rfl) zay ?_;intro b6 f6;have C:=f6
   repeat ((with_reducible replace C:=zaa C);obtain ⟨C,_⟩:=C)
   have:=C.ne hA;have:=C.ne' hA
   refine nl_ ?_;refine r8_ ?_;refine cp_ rfl (cf _) ?_;refine r3_ ?_;refine cT_ ?_;refine s1_ ?_;refine dr_ [i0_,i1_,i2_,i3_,i4_,i5_,o6_,i7_,i8_,i9_,i10_,o11_] [11] ?_;refine r6_ ?_;refine zac rfl ?_;refine ca_ rfl (ac _ own_ (hF.less zae) aw) ?_;rintro _ S1 ⟨⟨n,hn,rfl⟩,h1⟩;rw [h1];clear h1 S1;refine zad ⟨ny_,?_⟩;refine s1_ ?_;refine dC (hc:=Calm.maxE rfl rfl rfl) (h:=?_);refine r2_ ?_;refine zac rfl ?_;refine vm (r:=⟨_,[_,_,_,_,_,_],6⟩) rfl rfl zcn rfl own_ (show 0+5<6 from by decide) rfl ?_;refine nm_ ?_;refine zad ⟨nz_,?_⟩;refine r9_ ?_;refine kw_ [0,4,11,12,13,14,6,5,18,2,3] ?_;refine r7_ ?_;refine ⟨_,arM (devM S p x.d oE oW) a p b c x (max k ((n:Int)+1)),⟨_,_,rfl,⟨_,_,rfl,rfl,rfl⟩,rfl⟩,(by rw [<- az];exact Less.set (vi _ _ _ C.1) _ _),?_⟩;exact ⟨rfl,max k ((n:Int)+1),oE,oW,I,rfl⟩
  have Y:∀ j (hj:j<x.fr.length),j<i+1->x.fr[j]≠F0:=λj hj h=>by rcases Nat.lt_or_ge j i with h' | h';exact ag j hj h';obtain rfl:j=i:=vd;exact q
  by_cases q2:x.fr[i].idle
  ·by_cases q3:bestF x.fr i<0
   ·have Z:bestF x.fr (i+1)=(i:Nat):=(by rw [bestF,if_pos ⟨by rw [ah];exact q2,.inl q3⟩]);have cf:=λS=>zfe x.fr[i] S;rw [decide_eq_false q] at cf;have ci:=λS=>zhT x.fr[i] S;rw [decide_eq_true q2] at ci;generalize x.fr[i]=y at *;unfold frV at cf ci;unfold frF at ae;refine r9_ ?_;refine ARun.alloc (zab rfl) zay ?_;intro b6 f6;have C:=f6
    repeat ((with_reducible replace C:=zaa C);obtain ⟨C,_⟩:=C)
    have:=C.ne hA;have:=C.ne' hA
    refine nl_ ?_;refine r8_ ?_;refine cp_ rfl (cf _) ?_;refine r3_ ?_;refine cF_ ?_;refine r3_ ?_;refine cp_ rfl (ci _) ?_;refine r4_ ?_;refine cF_ ?_;refine s1_ ?_;refine dr_ [i0_,i1_,i2_,i3_,i4_,i5_,i6_,i7_,i8_,i9_,i10_,i11_,i12_,i13_,i14_,i15_] [] ?_;refine s1_ ?_;refine dP (hc:=λ_=>vh rfl rfl (zaf (zaA _ _) (decide_eq_true q3))) (h:=?_);refine r16_ ?_;refine cT_ ?_;refine r7_ ?_;refine kw_ [0,4,11,12,13,14,6,5,18,33,37] ?_;refine r5_ ?_;refine ⟨i+1,?_,?_,?_,?_⟩<;>try dsimp only
    ·exact ⟨rfl,zah Z.symm,rfl,rfl,rfl,trivial⟩
    ·exact zae
    ·exact ⟨hc,Y⟩
    omega
   obtain ⟨m,hm⟩ : ∃ m:Nat,bestF x.fr i=(m:Int):=⟨_,(Int.toNat_of_nonneg vd).symm⟩;have J:m<x.fr.length:=(by omega);obtain ⟨_,_,_,_,_,kb,_⟩:=zfz (zhX hF m J);have Z:bestF x.fr (i+1)=if x.fr[i].tick<x.fr[m].tick then (i:Int) else (m:Int):=by rw [bestF,hm,ah,Int.toNat_natCast,zcr J];by_cases z:x.fr[i].tick<x.fr[m].tick;rw [if_pos z,if_pos ⟨q2,.inr z⟩];rw [if_neg z,if_neg (λh=>h.2.elim vd z)]
   rw [hm];have cf:=λS=>zfe x.fr[i] S;rw [decide_eq_false q] at cf;have ci:=λS=>zhT x.fr[i] S;rw [decide_eq_true q2] at ci;generalize x.fr[m]=z at *;generalize x.fr[i]=y at *;unfold frV at cf ci;unfold frF at ae;refine r9_ ?_;refine ARun.alloc (zab rfl) zay ?_;intro b6 f6;have C:=f6
   repeat ((with_reducible replace C:=zaa C);obtain ⟨C,_⟩:=C)
   have:=C.ne hA;have:=C.ne' hA
   refine nl_ ?_;refine r8_ ?_;refine cp_ rfl (cf _) ?_;refine r3_ ?_;refine cF_ ?_;refine r3_ ?_;refine cp_ rfl (ci _) ?_;refine r4_ ?_;refine cF_ ?_;refine s1_ ?_;refine dr_ [i0_,i1_,i2_,i3_,i4_,i5_,i6_,i7_,i8_,i9_,i10_,i11_,i12_,i13_,i14_,i15_] [] ?_;refine s1_ ?_;refine dP (hc:=λ_=>vh rfl rfl (zaf (zaA _ _) (decide_eq_false vd))) (h:=?_);refine r16_ ?_;refine vu rfl (λhx=>?_) (λhx=>?_)
   ·refine r7_ ?_;refine kw_ [0,4,11,12,13,14,6,5,18,33,37] ?_;refine r5_ ?_;refine ⟨i+1,?_,?_,?_,?_⟩<;>try dsimp only
    ·exact ⟨rfl,zah (by rw [Z,if_pos (of_decide_eq_true hx)]),rfl,rfl,rfl,trivial⟩
    ·exact zae
    ·exact ⟨hc,Y⟩
    omega
   refine r9_ ?_;refine ⟨i+1,?_,?_,?_,?_⟩<;>try dsimp only
   ·exact ⟨rfl,zah (by rw [Z,if_neg (of_decide_eq_false hx)]),rfl,rfl,rfl,trivial⟩
   ·exact zae
   ·exact ⟨hc,Y⟩
   omega
  have Z:bestF x.fr (i+1)=bestF x.fr i:=by rw [bestF,if_neg (λh=>q2 (by rw [<- ah];exact h.1))]
  have cf:=λS=>zfe x.fr[i] S;rw [decide_eq_false q] at cf;have ci:=λS=>zhT x.fr[i] S;rw [decide_eq_false q2] at ci;generalize x.fr[i]=y at *;unfold frV at cf ci;unfold frF at ae;refine r9_ ?_;refine ARun.alloc (zab rfl) zay ?_;intro b6 f6;have C:=f6
  repeat ((with_reducible replace C:=zaa C);obtain ⟨C,_⟩:=C)
  have:=C.ne hA;have:=C.ne' hA
  refine nl_ ?_;refine r8_ ?_;refine cp_ rfl (cf _) ?_;refine r3_ ?_;refine cF_ ?_;refine r3_ ?_;refine cp_ rfl (ci _) ?_;refine r4_ ?_;refine cT_ ?_;refine r9_ ?_;refine ⟨i+1,?_,?_,?_,?_⟩<;>try dsimp only
  ·exact ⟨rfl,zah Z.symm,rfl,rfl,rfl,trivial⟩
  ·exact zae
  ·exact ⟨hc,Y⟩
  omega
 have hc:i=x.fr.length:=by have:=of_decide_eq_false hc;omega
 subst hc;have aj:=zoE (λj hj=>ag j hj hj);by_cases q3:bestF x.fr x.fr.length<0
 ·have U:takeP x=(x,0,9):=by unfold takeP;rw [if_neg aj,if_pos q3]
  rw [U];refine r12_ ?_;refine cT_ ?_;refine r8_ ?_;refine ⟨_,T,⟨_,_,rfl,⟨_,_,rfl,rfl,rfl⟩,rfl⟩,zae,?_⟩;exact ⟨rfl,k,oE,oW,I,hT.symm⟩
 obtain ⟨m,hm⟩ : ∃ m:Nat,bestF x.fr x.fr.length=(m:Int):=⟨_,(Int.toNat_of_nonneg vd).symm⟩;have J:m<x.fr.length:=by omega
 have av:(bestF x.fr x.fr.length).toNat=m:=by rw [hm];rfl
 obtain ⟨_,_,_,_,kb,_,_⟩:=zfz (zhX hF m J);rw [hm];by_cases q4:x.fr[m].dirty=true
 ·have aA:=aC m J;refine r12_ ?_;refine kw_ [0,4,11,12,13,14,56] ?_;refine cF_ ?_;refine r12_ ?_;refine rC (Calm.as (congrArg Value.bool q4) (ld_ zbW rfl)) ?_;refine r2_ ?_;refine cT_ ?_;refine r4_ ?_;refine ca_ rfl (aA) ?_;rintro _ S1 ⟨rfl,k',V,Q,af,h1⟩;rw [h1];clear h1 S1;have ao:=za0 (M:=devM S p (wrP x m).1.d V Q) (a:=a) (p:=p) (b:=b) (c:=c) (x:=(wrP x m).1) (k:=k');have aF:=zdU (M:=devM S p (wrP x m).1.d V Q) (p:=p) (c:=c) (x:=(wrP x m).1) (k:=k') I.ab;have au:=λai h=>zbS (M:=devM S p (wrP x m).1.d V Q) (p:=p) (c:=c) (x:=(wrP x m).1) (k:=k') I.ab ai h;have aD:=zgq x m;have U:takeP x=if (wrP x m).2=0 then (setP (wrP x m).1 m F0,m,0) else ((wrP x m).1,0,(wrP x m).2):=by unfold takeP;rw [if_neg aj,if_neg q3,av,if_pos (by rw [zaK J];exact q4)]
  rw [U];generalize wrP x m=u at *;unfold arB at ao;rw [aD] at ao;refine r3_ ?_;by_cases e0:u.2=0
  ·rw [if_pos e0];refine r6_ ?_;refine cF_ ?_;refine r11_ ?_;refine ARun.storeFr (c:=c) (i:=m) (l:=u.1.fr) (u:=F0) rfl rfl rfl vd vd zbH aF ?_;refine nm_ ?_;refine r9_ ?_;refine kw_ [0,4,11,12,13,14,56,64,7,69,2,3] ?_;refine s1_ ?_;refine ⟨_,arM (devM S p u.1.d V Q) a p b c (setP u.1 m F0) k',⟨_,_,rfl,⟨_,_,rfl,rfl,rfl⟩,rfl⟩,(by rw [au _ (by simp)];exact Mem.Less.refl _),?_⟩;exact ⟨rfl,k',V,Q,af.like rfl (by unfold setP;simp),rfl⟩
  rw [if_neg e0];refine r6_ ?_;refine cT_ ?_;refine r9_ ?_;refine ⟨_,arM (devM S p u.1.d V Q) a p b c u.1 k',⟨_,_,rfl,⟨_,_,rfl,rfl,rfl⟩,rfl⟩,Mem.Less.refl _,?_⟩;exact ⟨rfl,k',V,Q,af,rfl⟩
 have aE:x.fr[m].dirty=false:=by simpa using q4
 have U:takeP x=(setP x m F0,m,0):=by unfold takeP;rw [if_neg aj,if_neg q3,av,if_neg (by rw [zaK J];exact q4)]
 rw [U];refine r12_ ?_;refine cF_ ?_;refine r12_ ?_;refine rC (Calm.as (congrArg Value.bool aE) (ld_ zbW rfl)) ?_;refine r2_ ?_;refine cF_ ?_;refine r11_ ?_;refine ARun.storeFr (c:=c) (i:=m) (l:=x.fr) (u:=F0) rfl rfl rfl vd J zbH hB ?_;refine nm_ ?_;refine r2_ ?_;refine kw_ [0,4,11,12,13,14,56,64] ?_;refine r8_ ?_;refine ⟨_,arM (devM S p x.d oE oW) a p b c (setP x m F0) k,⟨_,_,rfl,⟨_,_,rfl,rfl,rfl⟩,rfl⟩,(by rw [aI _ (by simp)];exact Mem.Less.refl _),?_⟩;exact ⟨rfl,k,oE,oW,I.like rfl (by unfold setP;simp),rfl⟩
theorem ztG (x:Fr) (s:tt) (k:Int) (kb sb:Nat) (S:Mem) (hk:S.Knows ⟨kb,0,none⟩ [.int .i64 k]) (hs:S.Knows ⟨sb,0,none⟩ [.string s]) :
  ACall prog 182 #[frV x,.pointer (some ⟨kb,0,none⟩),.pointer (some ⟨sb,0,none⟩)] S λr S'=>r = .bool (isF s k x)/\S'=S:=by
 have I:=λS=>zfJ x S;unfold frV isF at *;by_cases Q:x.holds
 ·rw [decide_eq_true Q] at I;by_cases U:x.sector=k
  ·have e:decide (x.holds/\x.sector=k/\x.name=s)=decide (x.name=s):=(by simp [Q,U]);rw [e];refine k_E3 19 func182 ?_;refine r2_ ?_;refine k_b7 rfl ?_;intro V J;have C:=J
   repeat ((with_reducible replace C:=zaa C);obtain ⟨C,_⟩:=C)
   refine nl_ ?_;refine r6_ ?_;refine cp_ rfl (I _) ?_;refine r4_ ?_
   first|refine k_q 7 ?_|refine rG 7 (vh rfl rfl (zaf (zaJ _ _) (decide_eq_true U))) ?_
   refine r5_ ?_
   first|refine k_q 13 ?_|refine rG 13 (vh rfl rfl (zaf (zar _ _) rfl)) ?_
   refine r5_ ?_;refine ⟨_,S,⟨_,_,rfl,rfl,rfl⟩,zae,?_⟩;exact ⟨rfl,rfl⟩
  rw [decide_eq_false (λh=>U h.2.1)];refine k_E3 19 func182 ?_;refine r2_ ?_;refine k_b7 rfl ?_;intro V J;have C:=J
  repeat ((with_reducible replace C:=zaa C);obtain ⟨C,_⟩:=C)
  refine nl_ ?_;refine r6_ ?_;refine cp_ rfl (I _) ?_;refine r4_ ?_
  first|refine k_q 7 ?_|refine rG 7 (vh rfl rfl (zaf (zaJ _ _) (decide_eq_false U))) ?_
  refine r11_ ?_;refine ⟨_,S,⟨_,_,rfl,rfl,rfl⟩,zae,?_⟩;exact ⟨rfl,rfl⟩
 rw [decide_eq_false Q] at I;rw [decide_eq_false (λh=>Q h.1)];refine k_E3 19 func182 ?_;refine r2_ ?_;refine k_b7 rfl ?_;intro V J;have C:=J
 repeat ((with_reducible replace C:=zaa C);obtain ⟨C,_⟩:=C)
 refine nl_ ?_;refine r6_ ?_;refine cp_ rfl (I _) ?_;refine r16_ ?_;refine ⟨_,S,⟨_,_,rfl,rfl,rfl⟩,zae,?_⟩;exact ⟨rfl,rfl⟩
theorem zoG (v:tu) (l:List Fr) (s:tt) (k:Int) (kb sb:Nat) (S:Mem) (hl:Sl 7 frF S v l) (hk:S.Knows ⟨kb,0,none⟩ [.int .i64 k]) (hs:S.Knows ⟨sb,0,none⟩ [.string s]) :
  ACall prog 181 #[v,.func (.func 182) #[] #[.pointer (some ⟨kb,0,none⟩),.pointer (some ⟨sb,0,none⟩)]] S λr S'=>r = .int .i64 (if l.findIdx (isF s k)<l.length then (l.findIdx (isF s k):Int) else -1)/\S'=S:=by
 obtain ⟨a,cap,rfl,J,Y,h3⟩:=id hl;refine k_E2 19 func181 ?_;refine r14_ ?_;refine AWP.loop (X:=Nat) (λx=>[(0,.slice a l.length cap),(1,.func (.func 182) #[] #[.pointer (some ⟨kb,0,none⟩),.pointer (some ⟨sb,0,none⟩)]),(7,.int .i64 l.length),(8,.int .i64 x)]) (λx=>S) (λi=>i<=l.length /\ ∀ j (h:j<l.length),j<i->isF s k l[j]=false) (λx=>l.length-x) (0) ⟨rfl,rfl,rfl,rfl,trivial⟩ (Mem.Less.refl _) (⟨Nat.zero_le _,λj _ h=>absurd h (Nat.not_lt_zero _)⟩) ?_;rintro i ⟨hi,C⟩;(try dsimp only at *);refine r6_ ?_;refine vu rfl (λhc=>?_) (λhc=>?_)
 ·have hc:i<l.length:=by have:=of_decide_eq_true hc;omega
  obtain ⟨b,off,rfl,Q⟩:=h3.resolve_left (λe=>by subst e;simp at hc);have V:=Q i hc;have I:isF s k l[i]=false -> ∀ j (h:j<l.length),j<i+1->isF s k l[j]=false:=λhn j h Z=>by rcases Nat.lt_or_ge j i with h' | h';exact C j h h';obtain rfl:j=i:=vd;exact hn
  have U:isF s k l[i]=true->l.findIdx (isF s k)=i:=λhy=>(List.findIdx_eq hc).2 ⟨hy,λj Z=>C j vd Z⟩;generalize l[i]=y at *;unfold frF at V;refine r17_ ?_;refine vn (zab rfl) zvn rfl rfl (ztG y s k kb sb _ hk hs) ?_;rintro _ S1 ⟨rfl,J⟩;rw [J];clear J S1;refine r2_ ?_;refine vu rfl (λhb=>?_) (λhb=>?_)
  ·refine r6_ ?_;refine r6_ ?_;refine ⟨_,S,⟨_,_,rfl,rfl,rfl⟩,zae,?_⟩;exact ⟨by rw [U hb,if_pos hc];rfl,rfl⟩
  refine r8_ ?_;refine ⟨i+1,?_,?_,?_,?_⟩<;>try dsimp only
  ·exact ⟨rfl,rfl,rfl,rfl,trivial⟩
  ·exact zae
  ·exact ⟨hc,I hb⟩
  omega
 have hc:i=l.length:=by have:=of_decide_eq_false hc;omega
 refine r11_ ?_;refine ⟨_,S,⟨_,_,rfl,rfl,rfl⟩,zae,?_⟩;exact ⟨by rw [if_neg (λh=>by have Y:=List.findIdx_getElem (w:=h);rw [C _ h vd] at Y;cases Y)];rfl,rfl⟩
theorem zlr {x:Pl} (h:(takeP x).2.2=0):(takeP x).2.1<(takeP x).1.fr.length:=by
 have hb:=zeE x.fr x.fr.length;have hl:=zgq x (bestF x.fr x.fr.length).toNat;revert h;unfold takeP
 repeat' split
 ·intro _;assumption
 ·intro h;simp at h
 ·intro _;unfold setP;simp only [List.length_set];omega
 ·intro h;rename_i e;exact absurd h e
 intro _;unfold setP;simp only [List.length_set];omega
def ArN (S:Mem) (a p b c:Nat) (q:Pl × Nat × Int) (r:tu) (S':Mem):Prop:=r = .tuple #[.int .i64 (q.2.1:Nat),.int .i64 q.2.2]/\ArS S a p b c q.1 S'
theorem zqZ (x:Pl):(takeP x).1.fr.length=x.fr.length:=by
 have hl:=zgq x (bestF x.fr x.fr.length).toNat;unfold takeP
 repeat' split
 all_goals (try unfold setP);simp only [List.length_set];try exact hl
theorem zoH (a p b c:Nat) (x:Pl) (s:tt) (n:Int) (k:Int) (S:Mem) (oE oW:Option (Nat × Nat)) (U:OkA S a p b c x oE oW) (hw:PW x) :
  ACall prog 134 #[.pointer (some ⟨a,0,none⟩),.string s,.int .i64 n] (arM (devM S p x.d oE oW) a p b c x k) (ArN S a p b c (pinP x s n)):=by
 have az:=hw.l2;have hA:=za0 (M:=devM S p x.d oE oW) (a:=a) (p:=p) (b:=b) (c:=c) (x:=x) (k:=k);have hF:=zkl (M:=devM S p x.d oE oW) (p:=p) (x:=x) (k:=k) U.ab U.l hw.l2;have aP:=U.rd hw k;have a1:=zoF a p b c x k S oE oW U hw;have al:=λS h1 h2 h3 h4 h5=>zoG (.slice (some ⟨b,0,none⟩) x.fr.length c) x.fr s n h1 h2 S h3 h4 h5;have ag:=λM h=>zhK p x.d s n M h hw.dr;unfold arB at hA;unfold pinP;by_cases q0:x.fr.findIdx (isF s n)<x.fr.length
 ·rw [if_pos q0];simp only [if_pos q0] at al;have a2:=hw.pn _ (zkk q0);generalize hI:x.fr.findIdx (isF s n)=i at *;refine k_E3 91 func134 ?_;refine r2_ ?_;refine vo (zab rfl) rfl rfl ?_;intro b4 f4;have g4:=f4
  repeat ((with_reducible replace g4:=zaa g4);obtain ⟨g4,_⟩:=g4)
  have:=g4.ne hA;have:=g4.ne' hA
  refine nl_ ?_;refine vo (zab rfl) rfl rfl ?_;intro b5 f5;have g5:=f5
  repeat ((with_reducible replace g5:=zaa g5);obtain ⟨g5,_⟩:=g5)
  have:=g5.ne hA;have:=g5.ne' hA
  refine nl_ ?_;refine r11_ ?_;refine cp_ rfl (al _ b5 b4 (hF.less zae) ((zcl (vf _ b5 _)).knows) ((zcl (r:=⟨_,[.string s],1⟩) own_).knows)) ?_;refine r10_ ?_;refine cF_ ?_;refine AWP.less (arM (devM S p x.d oE oW) a p b c x k) zae ?_;have am:=za0 (M:=devM S p x.d oE oW) (a:=a) (p:=p) (b:=b) (c:=c) (x:=x) (k:=k);have a4:=zdU (M:=devM S p x.d oE oW) (p:=p) (c:=c) (x:=x) (k:=k) U.ab;obtain ⟨_,_,_,kp,_,_,_⟩:=zfz (zhY (M:=devM S p x.d oE oW) (p:=p) (k:=k) U.ab U.l az q0);unfold arB at am;by_cases qp:(atF x i).pins=256
  ·rw [if_pos qp];refine r20_ ?_;refine rC (vh rfl rfl (zaf (zaJ _ _) (decide_eq_true qp))) ?_;refine r2_ ?_;refine cT_ ?_;refine r8_ ?_;refine ⟨_,arM (devM S p x.d oE oW) a p b c x k,⟨_,_,rfl,⟨_,_,rfl,rfl,rfl⟩,rfl⟩,Mem.Less.refl _,?_⟩;exact ⟨rfl,k,oE,oW,U,rfl⟩
  rw [if_neg qp];refine r13_ ?_;refine kw_ [0,1,2,4,5,6,7,8,19,11] ?_;refine r7_ ?_;refine rC (vh rfl rfl (zaf (zaJ _ _) (decide_eq_false qp))) ?_;refine r2_ ?_;refine cF_ ?_;refine r11_ ?_;refine vm rfl rfl zaw rfl am (show 2<6 from by decide) rfl ?_;refine nm_ ?_;refine r2_ ?_;obtain ⟨X,Y⟩ : ∃ X:Pl,X = { x with tick:=up1 x.tick }:=⟨_,rfl⟩;have ak:X.d=x.d:=by rw [Y]
  have J:X.fr=x.fr:=by rw [Y]
  have aq:X.tick=up1 x.tick:=by rw [Y]
  have ax:=za0 (M:=devM S p x.d oE oW) (a:=a) (p:=p) (b:=b) (c:=c) (x:=X) (k:=k);have ay:=zdU (M:=devM S p x.d oE oW) (p:=p) (c:=c) (x:=X) (k:=k) U.ab;refine AWP.less (arM (devM S p x.d oE oW) a p b c X k) (by rw [<- zff (x:=x) (k:=k) J];unfold arB;rw [J,aq,Y];exact Mem.Less.refl _) ?_;unfold arB at ax;rw [J] at ay ax;refine r9_ ?_;refine ARun.storeFr1 (c:=c) (i:=i) (l:=x.fr) (q:=5) (u:={ atF x i with tick:=X.tick }) rfl rfl rfl rfl vd (by decide) q0 (by rw [zaK q0];rfl) zaw ay ?_;refine nm_ ?_;refine r2_ ?_;obtain ⟨V,Z⟩ : ∃ V:Pl,V = { X with fr:=x.fr.set i { atF x i with tick:=X.tick } }:=⟨_,rfl⟩;have aT:V.d=x.d:=by rw [Z,<- ak]
  have af:V.fr.length=x.fr.length:=by rw [Z];simp
  have ad:i<V.fr.length:=by rw [af];exact q0
  have au:atF V i = { atF x i with tick:=X.tick }:=by rw [zaK ad];simp only [Z,List.getElem_set_self]
  have aH:=zdU (M:=devM S p x.d oE oW) (p:=p) (c:=c) (x:=V) (k:=k) U.ab;obtain ⟨_,_,_,an,_,_,_⟩:=zfz (zkn <| zhY (M:=devM S p x.d oE oW) (p:=p) (k:=k) U.ab (by rw [af];exact U.l) (by rw [af];exact az) ad);rw [au] at an;simp only at an;refine AWP.less (arM (devM S p x.d oE oW) a p b c V k) (by rw [Z,<- zbS (x:=X) U.ab _ (by rw [J];simp)];exact Mem.Less.refl _) ?_;refine r9_ ?_;refine ARun.storeFr1 (c:=c) (i:=i) (l:=V.fr) (q:=3) (u:={ atF V i with pins:=(atF x i).pins+1 }) rfl rfl rfl rfl vd (by decide) ad (by rw [zaK ad];rfl) zcn aH ?_;refine nm_ ?_;refine r2_ ?_;have aA : { V with fr:=V.fr.set i { atF V i with pins:=(atF x i).pins+1 } }=pin1 x i:=by unfold pin1;rw [au,aq,Z,Y];simp only [List.set_set]
  refine r7_ ?_;refine kw_ [0,1,2,4,5,6,7,8,19,11,68] ?_;refine s1_ ?_;refine ⟨_,arM (devM S p x.d oE oW) a p b c (pin1 x i) k,⟨_,_,rfl,⟨_,_,rfl,rfl,rfl⟩,rfl⟩,(by rw [<- aA,<- zbS (x:=V) U.ab _ (by simp)];exact Mem.Less.refl _),?_⟩;exact ⟨rfl,k,oE,oW,U.like rfl (by unfold pin1;simp),rfl⟩
 rw [if_neg q0];simp only [if_neg q0] at al;by_cases q1:(readD x.d s n).2=0
 ·rw [if_neg (show ¬ (readD x.d s n).2≠0 from λh=>h q1)];rw [q1] at ag;have aY:=λh=>zlr (x:=x) h;have a0:=zqZ x;generalize hD:(readD x.d s n).1=data at *;refine k_E3 91 func134 ?_;refine r2_ ?_;refine vo (zab rfl) rfl rfl ?_;intro b4 f4;have g4:=f4
  repeat ((with_reducible replace g4:=zaa g4);obtain ⟨g4,_⟩:=g4)
  have:=g4.ne hA;have:=g4.ne' hA
  refine nl_ ?_;refine vo (zab rfl) rfl rfl ?_;intro b5 f5;have g5:=f5
  repeat ((with_reducible replace g5:=zaa g5);obtain ⟨g5,_⟩:=g5)
  have:=g5.ne hA;have:=g5.ne' hA
  refine nl_ ?_;refine r11_ ?_;refine cp_ rfl (al _ b5 b4 (hF.less zae) ((zcl (vf _ b5 _)).knows) ((zcl (r:=⟨_,[.string s],1⟩) own_).knows)) ?_;refine r10_ ?_;refine cT_ ?_;refine s1_ ?_;refine dr_ [i0_,i1_,i2_,i3_,i4_,i5_,o6_,i7_,i8_,i9_,i10_,i11_] [] ?_;refine r6_ ?_;refine zac rfl ?_;refine cp_ rfl (ag _ (aP.less zae)) ?_;refine zad ⟨ny_,?_⟩;refine r14_ ?_;refine cF_ ?_;refine r6_ ?_;refine ca_ rfl ((a1.frame f4).frame f5) ?_;rintro _ S1 ⟨Sa,⟨Sb,⟨rfl,k',I,C,ah,aV⟩,fa,aI⟩,fb,h1⟩;rw [h1,aI];rw [aI] at fb;clear h1 S1 aI Sa;rw [aV] at fa fb ⊢;clear aV Sb;generalize takeP x=u at *;refine r7_ ?_;refine kw_ [0,1,2,4,5,6,7,8,19,9,10,31] ?_;by_cases q2:u.2.2=0
  ·have aQ:=aY q2;rw [if_neg (show ¬ u.2.2≠0 from λh=>h q2)];have aG:u.1.fr.length<=256:=(by rw [a0];exact az);have aO:=za0 (M:=devM S p u.1.d I C) (a:=a) (p:=p) (b:=b) (c:=c) (x:=u.1) (k:=k');have av:=zdU (M:=devM S p u.1.d I C) (p:=p) (c:=c) (x:=u.1) (k:=k') ah.ab;have aR:=av;unfold arB at aO;refine r6_ ?_;refine cF_ ?_;refine r3_ ?_;refine dr_ [i0_,i1_,i2_,i3_,i4_,i5_,i6_,i7_,i8_,i9_,o10_] [10] ?_;refine r10_ ?_;refine zac rfl ?_;refine ARun.storeFr (c:=c) (i:=u.2.1) (l:=u.1.fr) (u:=newF s n data) rfl rfl rfl vd aQ zbH ((vg _ _ ((zaa fb).1.ne av)).trans ((vg _ _ (fa.ne av)).trans av)) ?_;refine nm_ ?_;refine zad ⟨nz_,?_⟩;refine r2_ ?_;obtain ⟨y0,ae⟩ : ∃ y0:Pl,y0=setP u.1 u.2.1 (newF s n data):=⟨_,rfl⟩;have ao:y0.fr.length=u.1.fr.length:=(by rw [ae];unfold setP;simp);have aN:OkA S a p b c y0 I C:=ah.like (by rw [ae];rfl) ao;have aF:=za0 (M:=devM S p u.1.d I C) (a:=a) (p:=p) (b:=b) (c:=c) (x:=y0) (k:=k');refine AWP.less (arM (devM S p u.1.d I C) a p b c y0 k') (by rw [ae];unfold setP;rw [<- zbS (x:=u.1) ah.ab _ (by simp)];exact Less.set ((vi _ _ _ fa.1).trans (vi _ _ _ fb.1)) _ _) ?_;unfold arB at aF;refine r8_ ?_;refine vm rfl rfl zaw rfl aF (show 3<6 from by decide) rfl ?_;refine nm_ ?_;refine r2_ ?_;obtain ⟨y,hy⟩ : ∃ y:Pl,y = { y0 with reads:=up1 y0.reads }:=⟨_,rfl⟩;have ak:y.d=u.1.d:=(by rw [hy,ae];rfl);have J:y.fr=y0.fr:=(by rw [hy]);have Q:OkA S a p b c y I C:=aN.like (by rw [hy]) (by rw [J]);have aj:u.2.1<y.fr.length:=(by rw [J,ao];exact aQ);have aw:y.fr.length<=256:=(by rw [J,ao];exact aG);have a2:0<=(atF y u.2.1).pins/\(atF y u.2.1).pins<=256:=(by rw [zaK aj];simp only [J,ae,setP,List.getElem_set_self,newF];omega);have a3 : ¬ (atF y u.2.1).pins=256:=(by rw [zaK aj];simp only [J,ae,setP,List.getElem_set_self,newF];omega);have aD:(pin1 { setP u.1 u.2.1 (newF s n data) with reads:=up1 u.1.reads } u.2.1,u.2.1,(0:Int))=if (atF y u.2.1).pins=256 then (y,0,11) else (pin1 y u.2.1,u.2.1,0):=by rw [if_neg a3,hy,ae];rfl
   refine AWP.less (arM (devM S p u.1.d I C) a p b c y k') (by rw [<- zff (x:=y0) (k:=k') J];unfold arB;rw [hy];exact Mem.Less.refl _) ?_;rw [aD];rw [<- ak];clear aD aO av aR aF ak hy J;generalize u.2.1=i at *;have am:=za0 (M:=devM S p y.d I C) (a:=a) (p:=p) (b:=b) (c:=c) (x:=y) (k:=k');have a4:=zdU (M:=devM S p y.d I C) (p:=p) (c:=c) (x:=y) (k:=k') Q.ab;obtain ⟨_,_,_,kp,_,_,_⟩:=zfz (zhY (M:=devM S p y.d I C) (p:=p) (k:=k') Q.ab Q.l aw aj);unfold arB at am;by_cases qp:(atF y i).pins=256
   ·rw [if_pos qp];refine r18_ ?_;refine rC (vh rfl rfl (zaf (zaJ _ _) (decide_eq_true qp))) ?_;refine r2_ ?_;refine kw_ [0,1,2,4,5,6,7,8,19,9,10,31,39,11,68] ?_;refine cT_ ?_;refine r8_ ?_;refine ⟨_,arM (devM S p y.d I C) a p b c y k',⟨_,_,rfl,⟨_,_,rfl,rfl,rfl⟩,rfl⟩,Mem.Less.refl _,?_⟩;exact ⟨rfl,k',I,C,Q,rfl⟩
   rw [if_neg qp];refine r18_ ?_;refine rC (vh rfl rfl (zaf (zaJ _ _) (decide_eq_false qp))) ?_;refine r2_ ?_;refine cF_ ?_;refine r11_ ?_;refine vm rfl rfl zaw rfl am (show 2<6 from by decide) rfl ?_;refine nm_ ?_;refine r2_ ?_;obtain ⟨X,Y⟩ : ∃ X:Pl,X = { y with tick:=up1 y.tick }:=⟨_,rfl⟩;have ak:X.d=y.d:=(by rw [Y]);have J:X.fr=y.fr:=(by rw [Y]);have aq:X.tick=up1 y.tick:=(by rw [Y]);have ax:=za0 (M:=devM S p y.d I C) (a:=a) (p:=p) (b:=b) (c:=c) (x:=X) (k:=k');have ay:=zdU (M:=devM S p y.d I C) (p:=p) (c:=c) (x:=X) (k:=k') Q.ab;refine AWP.less (arM (devM S p y.d I C) a p b c X k') (by rw [<- zff (x:=y) (k:=k') J];unfold arB;rw [J,aq,Y];exact Mem.Less.refl _) ?_;unfold arB at ax;rw [J] at ay ax;refine r9_ ?_;refine ARun.storeFr1 (c:=c) (i:=i) (l:=y.fr) (q:=5) (u:={ atF y i with tick:=X.tick }) rfl rfl rfl rfl vd (by decide) aj (by rw [zaK aj];rfl) zaw ay ?_;refine nm_ ?_;refine r2_ ?_;obtain ⟨V,Z⟩ : ∃ V:Pl,V = { X with fr:=y.fr.set i { atF y i with tick:=X.tick } }:=⟨_,rfl⟩;have aT:V.d=y.d:=(by rw [Z,<- ak]);have af:V.fr.length=y.fr.length:=(by rw [Z];simp);have ad:i<V.fr.length:=(by rw [af];exact aj);have au:atF V i = { atF y i with tick:=X.tick }:=(by rw [zaK ad];simp only [Z,List.getElem_set_self]);have aH:=zdU (M:=devM S p y.d I C) (p:=p) (c:=c) (x:=V) (k:=k') Q.ab;obtain ⟨_,_,_,an,_,_,_⟩:=zfz (zkn <| zhY (M:=devM S p y.d I C) (p:=p) (k:=k') Q.ab (by rw [af];exact Q.l) (by rw [af];exact aw) ad);rw [au] at an;simp only at an;refine AWP.less (arM (devM S p y.d I C) a p b c V k') (by rw [Z,<- zbS (x:=X) Q.ab _ (by rw [J];simp)];exact Mem.Less.refl _) ?_;refine r9_ ?_;refine ARun.storeFr1 (c:=c) (i:=i) (l:=V.fr) (q:=3) (u:={ atF V i with pins:=(atF y i).pins+1 }) rfl rfl rfl rfl vd (by decide) ad (by rw [zaK ad];rfl) zcn aH ?_;refine nm_ ?_;refine r2_ ?_;refine kw_ [0,1,2,4,5,6,7,8,19,9,10,31,39,11,68] ?_;have aA : { V with fr:=V.fr.set i { atF V i with pins:=(atF y i).pins+1 } }=pin1 y i:=(by unfold pin1;rw [au,aq,Z,Y];simp only [List.set_set]);refine r8_ ?_;refine ⟨_,arM (devM S p y.d I C) a p b c (pin1 y i) k',⟨_,_,rfl,⟨_,_,rfl,rfl,rfl⟩,rfl⟩,(by rw [<- aA,<- zbS (x:=V) Q.ab _ (by simp)];exact Mem.Less.refl _),?_⟩;exact ⟨rfl,k',I,C,Q.like rfl (by unfold pin1;simp),rfl⟩
  rw [if_pos q2];refine r6_ ?_;refine cT_ ?_;refine r10_ ?_;refine ⟨_,arM (devM S p u.1.d I C) a p b c u.1 k',⟨_,_,rfl,⟨_,_,rfl,rfl,rfl⟩,rfl⟩,(vi _ _ _ fa.1).trans (vi _ _ _ fb.1),?_⟩;exact ⟨rfl,k',I,C,ah,rfl⟩
 rw [if_pos q1];refine k_E3 91 func134 ?_;refine r2_ ?_;refine vo (zab rfl) rfl rfl ?_;intro b4 f4;have g4:=f4
 repeat ((with_reducible replace g4:=zaa g4);obtain ⟨g4,_⟩:=g4)
 have:=g4.ne hA;have:=g4.ne' hA
 refine nl_ ?_;refine vo (zab rfl) rfl rfl ?_;intro b5 f5;have g5:=f5
 repeat ((with_reducible replace g5:=zaa g5);obtain ⟨g5,_⟩:=g5)
 have:=g5.ne hA;have:=g5.ne' hA
 refine nl_ ?_;refine r11_ ?_;refine cp_ rfl (al _ b5 b4 (hF.less zae) ((zcl (vf _ b5 _)).knows) ((zcl (r:=⟨_,[.string s],1⟩) own_).knows)) ?_;refine r10_ ?_;refine kw_ [0,1,2,4,5,6,7,8,19] ?_;refine cT_ ?_;refine s1_ ?_;refine dr_ [i0_,i1_,i2_,i3_,i4_,i5_,o6_,i7_,i8_,i9_,i10_,i11_] [] ?_;refine r6_ ?_;refine zac rfl ?_;refine cp_ rfl (ag _ (aP.less zae)) ?_;refine zad ⟨ny_,?_⟩;refine r14_ ?_;refine cT_ ?_;refine r10_ ?_;refine ⟨_,arM (devM S p x.d oE oW) a p b c x k,⟨_,_,rfl,⟨_,_,rfl,rfl,rfl⟩,rfl⟩,zae,?_⟩;exact ⟨rfl,k,oE,oW,U,rfl⟩
theorem zi9 (a p b c:Nat) (x:Pl) (i:Int) (k:Int) (S:Mem) (oE oW:Option (Nat × Nat)) (C:OkA S a p b c x oE oW) (Z:PW x) :
  ACall prog 88 #[.pointer (some ⟨a,0,none⟩),.int .i64 i] (arM (devM S p x.d oE oW) a p b c x k) (ArR S a p b c (zhi x i)):=by
 have ad:=Z.l2;have hA:=za0 (M:=devM S p x.d oE oW) (a:=a) (p:=p) (b:=b) (c:=c) (x:=x) (k:=k);have hB:=zdU (M:=devM S p x.d oE oW) (p:=p) (c:=c) (x:=x) (k:=k) C.ab;have X:=λY h=>zbS (M:=devM S p x.d oE oW) (p:=p) (c:=c) (x:=x) (k:=k) C.ab Y h;have U:=λj (I:j<x.fr.length)=>zhY (M:=devM S p x.d oE oW) (p:=p) (x:=x) (k:=k) C.ab C.l Z.l2 I;have aa:=λj (I:j<x.fr.length)=>Z.pn _ (zkk I);generalize V:arM (devM S p x.d oE oW) a p b c x k=T at *;unfold arB at hA;unfold zhi;by_cases J:i<0
 ·rw [if_pos (.inl J)];refine k_E2 38 func88 ?_;refine r10_ ?_;refine rC (vh rfl rfl (zaf (zaA _ _) (decide_eq_true J))) ?_;refine r12_ ?_;refine cT_ ?_;refine r8_ ?_;refine ⟨_,T,⟨_,_,rfl,rfl,rfl⟩,zae,?_⟩;exact ⟨rfl,k,oE,oW,C,V.symm⟩
 by_cases q2:(x.fr.length:Int)<=i
 ·rw [if_pos (.inr q2)];refine k_E2 38 func88 ?_;refine r10_ ?_;refine rC (vh rfl rfl (zaf (zaA _ _) (decide_eq_false J))) ?_;refine r12_ ?_;refine cT_ ?_;refine r8_ ?_;refine ⟨_,T,⟨_,_,rfl,rfl,rfl⟩,zae,?_⟩;exact ⟨rfl,k,oE,oW,C,V.symm⟩
 rw [if_neg (λh=>h.elim J q2)];obtain ⟨j,rfl⟩ : ∃ j:Nat,i=(j:Int):=⟨_,(Int.toNat_of_nonneg vd).symm⟩;rw [Int.toNat_natCast];have I:j<x.fr.length:=by omega
 obtain ⟨_,_,_,kp,_,_,_⟩:=zfz (U j I);have ag:=aa j I;by_cases Q:(atF x j).pins=0
 ·rw [if_pos Q];refine k_E2 38 func88 ?_;refine r10_ ?_;refine rC (vh rfl rfl (zaf (zaA _ _) (decide_eq_false J))) ?_;refine r12_ ?_;refine cF_ ?_;refine r10_ ?_;refine rC (vh rfl rfl (zaf (zaJ _ _) (decide_eq_true Q))) ?_;refine r3_ ?_;refine cT_ ?_;refine r8_ ?_;refine ⟨_,T,⟨_,_,rfl,rfl,rfl⟩,zae,?_⟩;exact ⟨rfl,k,oE,oW,C,V.symm⟩
 rw [if_neg Q];refine k_E2 38 func88 ?_;refine r10_ ?_;refine rC (vh rfl rfl (zaf (zaA _ _) (decide_eq_false J))) ?_;refine r12_ ?_;refine kw_ [0,1,4,5] ?_;refine cF_ ?_;refine r10_ ?_;refine rC (vh rfl rfl (zaf (zaJ _ _) (decide_eq_false Q))) ?_;refine r3_ ?_;refine cF_ ?_;refine r16_ ?_;refine ARun.storeFr1 (c:=c) (i:=j) (l:=x.fr) (q:=3) (u:={ atF x j with pins:=(atF x j).pins-1 }) rfl rfl rfl rfl vd (by decide) I (by rw [zaK I];rfl) zcn hB ?_;refine nm_ ?_;refine r8_ ?_;refine ⟨_,arM (devM S p x.d oE oW) a p b c (setP x j { atF x j with pins:=(atF x j).pins-1 }) k,⟨_,_,rfl,rfl,rfl⟩,(by rw [X _ (by simp)];exact Mem.Less.refl _),?_⟩;exact ⟨rfl,k,oE,oW,C.like rfl (by unfold setP;simp),rfl⟩
theorem zmT (a p b c:Nat) (x:Pl) (i:Int) (k:Int) (S:Mem) (oE oW:Option (Nat × Nat)) (C:OkA S a p b c x oE oW) (hw:PW x) :
  ACall prog 145 #[.pointer (some ⟨a,0,none⟩),.int .i64 i] (arM (devM S p x.d oE oW) a p b c x k) (ArR S a p b c (ret1 x i)):=by
 have ad:=hw.l2;have hA:=za0 (M:=devM S p x.d oE oW) (a:=a) (p:=p) (b:=b) (c:=c) (x:=x) (k:=k);have hB:=zdU (M:=devM S p x.d oE oW) (p:=p) (c:=c) (x:=x) (k:=k) C.ab;have Y:=λZ h=>zbS (M:=devM S p x.d oE oW) (p:=p) (c:=c) (x:=x) (k:=k) C.ab Z h;have U:=λj (J:j<x.fr.length)=>zhY (M:=devM S p x.d oE oW) (p:=p) (x:=x) (k:=k) C.ab C.l hw.l2 J;generalize V:arM (devM S p x.d oE oW) a p b c x k=T at *;unfold arB at hA;unfold ret1;by_cases I:i<0
 ·rw [if_pos (.inl I)];refine k_E2 34 func145 ?_;refine r10_ ?_;refine rC (vh rfl rfl (zaf (zaA _ _) (decide_eq_true I))) ?_;refine r12_ ?_;refine cT_ ?_;refine r8_ ?_;refine ⟨_,T,⟨_,_,rfl,rfl,rfl⟩,zae,?_⟩;exact ⟨rfl,k,oE,oW,C,V.symm⟩
 by_cases q2:(x.fr.length:Int)<=i
 ·rw [if_pos (.inr q2)];refine k_E2 34 func145 ?_;refine r10_ ?_;refine rC (vh rfl rfl (zaf (zaA _ _) (decide_eq_false I))) ?_;refine r12_ ?_;refine cT_ ?_;refine r8_ ?_;refine ⟨_,T,⟨_,_,rfl,rfl,rfl⟩,zae,?_⟩;exact ⟨rfl,k,oE,oW,C,V.symm⟩
 rw [if_neg (λh=>h.elim I q2)];obtain ⟨j,rfl⟩ : ∃ j:Nat,i=(j:Int):=⟨_,(Int.toNat_of_nonneg vd).symm⟩;rw [Int.toNat_natCast];have J:j<x.fr.length:=by omega
 obtain ⟨_,_,_,_,_,_,kp⟩:=zfz (U j J);by_cases Q:(atF x j).leased=false
 ·rw [if_pos Q];refine k_E2 34 func145 ?_;refine r10_ ?_;refine rC (vh rfl rfl (zaf (zaA _ _) (decide_eq_false I))) ?_;refine r12_ ?_;refine cF_ ?_;refine r9_ ?_;refine rC (Calm.as (congrArg Value.bool Q) (ld_ zbW rfl)) ?_;refine r4_ ?_;refine cT_ ?_;refine r8_ ?_;refine ⟨_,T,⟨_,_,rfl,rfl,rfl⟩,zae,?_⟩;exact ⟨rfl,k,oE,oW,C,V.symm⟩
 rw [if_neg Q];have X:(atF x j).leased=true:=by simpa using Q
 refine k_E2 34 func145 ?_;refine r10_ ?_;refine rC (vh rfl rfl (zaf (zaA _ _) (decide_eq_false I))) ?_;refine r12_ ?_;refine kw_ [0,1,4,5] ?_;refine cF_ ?_;refine r9_ ?_;refine rC (Calm.as (congrArg Value.bool X) (ld_ zbW rfl)) ?_;refine r4_ ?_;refine cF_ ?_;refine r12_ ?_;refine ARun.storeFr (c:=c) (i:=j) (l:=x.fr) (u:=F0) rfl rfl rfl vd J zbH hB ?_;refine nm_ ?_;refine r8_ ?_;refine ⟨_,arM (devM S p x.d oE oW) a p b c (setP x j F0) k,⟨_,_,rfl,rfl,rfl⟩,(by rw [Y _ (by simp)];exact Mem.Less.refl _),?_⟩;exact ⟨rfl,k,oE,oW,C.like rfl (by unfold setP;simp),rfl⟩
theorem zq0 (a p b c:Nat) (x:Pl) (j:Nat) (k:Int) (T:Mem) (J:T.own a=some (arB p b c x k)) (I:Sl 7 frF T (.slice (some ⟨b,0,none⟩) x.fr.length c) x.fr) (C:j<x.fr.length) :
  ACall prog 133 #[.pointer (some ⟨a,0,none⟩),.int .i64 (j:Nat)] T λr S'=>r = .string (atF x j).data/\S'=T:=by
 have hk:=zhX I j C;rw [<- zaK C] at hk;obtain ⟨_,_,kp,_,_,_,_⟩:=zfz hk;unfold arB at J;refine k_E2 13 func133 ?_;refine r19_ ?_;refine ⟨_,T,⟨_,_,rfl,rfl,rfl⟩,zae,?_⟩;exact ⟨rfl,rfl⟩
theorem zoI {x:Pl} (h:PW x) (i:Nat) {y:Fr} (I:0<=y.pins) (C:y.pins<=256):PW (setP x i y) :=
 ⟨h.dr,h.fu,h.nd,by unfold setP;simp only [List.length_set];exact h.l1,by unfold setP;simp only [List.length_set];exact h.l2,λz hz=>by
  unfold setP at hz;rcases List.mem_or_eq_of_mem_set hz with hz | hz
  ·exact h.pn z hz
  subst hz;exact ⟨I,C⟩⟩
theorem zvL {x:Pl} (h:PW x) {i:Nat} (hi:i<x.fr.length) (h0:(wrP x i).2=0):PW (wrP x i).1:=by
 have U:=zdt h.dr h.nd (writeD x.d (atF x i).name (atF x i).sector (atF x i).data);have Y:(opened x.d (writeD x.d (atF x i).name (atF x i).sector (atF x i).data)).2=0:=by rw [U];exact h0
 obtain ⟨X,hd,Z,hs,hl,f,I,J,V⟩:=zhL h.fu Y;rw [U] at V;have Q:=h.pn _ (zkk hi);have C:=zgq x i;unfold wrP at C ⊢;rw [V] at C ⊢;refine ⟨zdP (zeC X Z hs hl) I _,J,hd,by rw [C];exact h.l1,by rw [C];exact h.l2,λz hz=>?_⟩;simp only [if_true] at hz;rcases List.mem_or_eq_of_mem_set hz with hz | hz
 ·exact h.pn z hz
 subst hz;exact Q
theorem ztH {x:Pl} (h:PW x) (C:(takeP x).2.2=0):PW (takeP x).1:=by
 have hb:=zeE x.fr x.fr.length;have hl:=h.l1;revert C;unfold takeP
 repeat' split
 ·intro _;exact h
 ·intro h;simp at h
 ·rename_i e;intro _;exact zoI (zvL h vd e) _ (by decide) (by decide)
 ·intro h;rename_i e;exact absurd h e
 intro _;exact zoI h _ (by decide) (by decide)
theorem zq1 (a p b c:Nat) (x:Pl) (j:Nat) (g:Int) (t:tt) (k:Int) (S:Mem) (oE oW:Option (Nat × Nat)) (C:OkA S a p b c x oE oW) (X:PW x) (J:j<x.fr.length) (ad:(atF x j).data.size=64) (hg:0<=g) (af:g+t.size<=64) :
  ACall prog 135 #[.pointer (some ⟨a,0,none⟩),.int .i64 (j:Nat),.int .i64 g,.string t] (arM (devM S p x.d oE oW) a p b c x k) λr S'=>r = .tuple #[]/\ArS S a p b c (setP x j { atF x j with data:=fillS (atF x j).data g t,dirty:=true }) S':=by
 have Y:=X.l2;have Z:=za0 (M:=devM S p x.d oE oW) (a:=a) (p:=p) (b:=b) (c:=c) (x:=x) (k:=k);have hB:=zdU (M:=devM S p x.d oE oW) (p:=p) (c:=c) (x:=x) (k:=k) C.ab;obtain ⟨_,_,kd,_,_,_,_⟩:=zfz (zhY (M:=devM S p x.d oE oW) (p:=p) (k:=k) C.ab C.l X.l2 J);obtain ⟨n,rfl⟩ : ∃ n:Nat,g=(n:Int):=⟨_,(Int.toNat_of_nonneg hg).symm⟩;have I:fillS (atF x j).data (n:Int) t=(atF x j).data.extract 0 n ++ t ++ (atF x j).data.extract (n+t.size) (atF x j).data.size:=by unfold fillS;rw [Int.toNat_natCast]
 rw [I];have Q:=λU h=>zbS (M:=devM S p x.d oE oW) (p:=p) (c:=c) (x:=x) (k:=k) C.ab U h;have V:=zaK J;have hD:(atF x j).data.extract 0 ((n:Int)).toNat ++ t ++ (atF x j).data.extract ((n:Int)+(t.size:Int)).toNat (atF x j).data.size=(atF x j).data.extract 0 n ++ t ++ (atF x j).data.extract (n+t.size) (atF x j).data.size:=by
  rw [show ((n:Int)+(t.size:Int)).toNat=n+t.size from by omega];rfl
 generalize ac:(atF x j).data.extract 0 n ++ t ++ (atF x j).data.extract (n+t.size) (atF x j).data.size=dd at *;generalize hT:arM (devM S p x.d oE oW) a p b c x k=T at *;unfold arB at Z;refine k_E4 39 func135 ?_;refine r11_ ?_;refine dr_ [i0_,i1_,i2_,i3_,i4_,i5_,i6_,i7_,i8_,i9_,i10_,i11_,i12_,i13_,i14_,i15_,i16_,i17_,i18_,i19_,i20_,i21_,o22_,i23_,i24_,o25_] [22,25] ?_;refine r9_ ?_;refine dP (hc:=λ_=>vh rfl rfl (zbh (by rw [ByteArray.size_extract];omega))) (h:=?_);refine r9_ ?_;refine dP (hc:=λ_=>Calm.as (congrArg Value.string hD) (vh rfl rfl (zbh (by rw [size_append,ByteArray.size_extract,ByteArray.size_extract];omega)))) (h:=?_);refine r2_ ?_;refine zac rfl ?_;refine ARun.storeFr1 (c:=c) (i:=j) (l:=x.fr) (q:=2) (u:={ atF x j with data:=dd }) rfl rfl rfl rfl vd (by decide) J (by rw [V];rfl) zcp hB ?_;refine nm_ ?_;refine zad ⟨nz_,?_⟩;refine r2_ ?_;refine zac rfl ?_;refine ARun.storeFr1 (c:=c) (i:=j) (l:=x.fr.set j { atF x j with data:=dd }) (q:=4) (u:={ atF x j with data:=dd,dirty:=true }) rfl rfl rfl rfl vd (by decide) (by simp;exact J) (by rw [List.getElem_set_self];rfl) zeu (vf _ _ _) ?_;refine nm_ ?_;refine zad ⟨nz_,?_⟩;refine s1_ ?_;refine ⟨_,arM (devM S p x.d oE oW) a p b c (setP x j { atF x j with data:=dd,dirty:=true }) k,rfl,(by rw [List.set_set,Q _ (by simp)];exact Mem.Less.refl _),?_⟩;exact ⟨rfl,k,oE,oW,C.like rfl (by unfold setP;simp),rfl⟩
def clrF (s:tt) (x:Fr):Fr:=if ofN s x=true then F0 else x
def drF (s:tt) (l:List Fr) (i:Nat):List Fr:=(l.take i).map (clrF s) ++ l.drop i
theorem zgr (s:tt) (l:List Fr) (i:Nat):(drF s l i).length=l.length:=by unfold drF;simp;omega
theorem zsE (s:tt) (l:List Fr) {i:Nat} (h:i<l.length) (h':i<(drF s l i).length):(drF s l i)[i]=l[i]:=by
 have e:(drF s l i)[i]?=some l[i]:=by
  unfold drF;rw [List.getElem?_append_right (by simp;omega)];simp [Nat.min_eq_left (Nat.le_of_lt h)]
 rw [List.getElem?_eq_getElem h'] at e;exact Option.some.inj e
theorem zq2 (s:tt) (l:List Fr) {i:Nat} (h:i<l.length):drF s l (i+1)=(drF s l i).set i (clrF s l[i]):=by
 unfold drF;rw [zb3 h,List.set_append_right _ _ (by simp;omega),List.map_append,List.append_assoc];congr 1;rw [List.length_map,List.length_take,Nat.min_eq_left (Nat.le_of_lt h),Nat.sub_self,zc8 h];rfl
theorem ztI (s:tt) (l:List Fr):drF s l l.length=l.map (clrF s):=by unfold drF;simp
theorem zls (a p b c:Nat) (x:Pl) (s:tt) (k:Int) (S:Mem) (oE oW:Option (Nat × Nat)) (U:OkA S a p b c x oE oW) (hw:PW x) :
  ACall prog 91 #[.pointer (some ⟨a,0,none⟩),.string s] (arM (devM S p x.d oE oW) a p b c x k) (ArR S a p b c (dropP x s)):=by
 have ax:=hw.l2;have hA:=za0 (M:=devM S p x.d oE oW) (a:=a) (p:=p) (b:=b) (c:=c) (x:=x) (k:=k);have hF:=zkl (M:=devM S p x.d oE oW) (p:=p) (x:=x) (k:=k) U.ab U.l hw.l2;have af:=λi=>za0 (M:=devM S p x.d oE oW) (a:=a) (p:=p) (b:=b) (c:=c) (x:={ x with fr:=drF s x.fr i }) (k:=k);have al:=λi=>zdU (M:=devM S p x.d oE oW) (p:=p) (c:=c) (x:={ x with fr:=drF s x.fr i }) (k:=k) U.ab;have am:=λi=>zkl (M:=devM S p x.d oE oW) (p:=p) (x:={ x with fr:=drF s x.fr i }) (k:=k) U.ab (by simp only [zgr];exact U.l) (by simp only [zgr];exact hw.l2);have ai:=λi au h=>zbS (M:=devM S p x.d oE oW) (p:=p) (c:=c) (x:={ x with fr:=drF s x.fr i }) (k:=k) U.ab au h;have h0:arM (devM S p x.d oE oW) a p b c { x with fr:=drF s x.fr 0 } k=arM (devM S p x.d oE oW) a p b c x k:=rfl;unfold arB at hA af;simp only [zgr] at af am ai;unfold dropP;refine k_E2 58 func91 ?_;refine r17_ ?_;refine AWP.loop (X:=Nat) (λy=>[(0,.pointer (some ⟨a,0,none⟩)),(1,.string s),(12,.slice (some ⟨b,0,none⟩) x.fr.length c),(13,.int .i64 x.fr.length),(14,.int .i64 y)]) (λ_=>arM (devM S p x.d oE oW) a p b c x k) (λy=>y<=x.fr.length /\ ∀ j (hj:j<x.fr.length),j<y->(ofN s x.fr[j] && decide (0<x.fr[j].pins))=false) (λy=>x.fr.length-y) (0) ⟨rfl,rfl,rfl,rfl,rfl,trivial⟩ zae (⟨Nat.zero_le _,λj _ h=>absurd h (Nat.not_lt_zero _)⟩) ?_;rintro i ⟨hi,aj⟩;(try dsimp only at *);refine r6_ ?_;refine vu rfl (λhc=>?_) (λhc=>?_)
 ·have hc:i<x.fr.length:=by have:=of_decide_eq_true hc;omega
  have ad:=zhX hF i hc;have J:(ofN s x.fr[i] && decide (0<x.fr[i].pins))=false -> ∀ j (hj:j<x.fr.length),j<i+1->(ofN s x.fr[j] && decide (0<x.fr[j].pins))=false:=λhn j h hj=>by rcases Nat.lt_or_ge j i with h' | h';exact aj j h h';obtain rfl:j=i:=vd;exact hn
  have ae:(ofN s x.fr[i] && decide (0<x.fr[i].pins))=true->x.fr.any (λx=>ofN s x && decide (0<x.pins))=true:=λh=>List.any_eq_true.2 ⟨_,List.getElem_mem hc,h⟩;have V:=λS=>zfJ x.fr[i] S;generalize x.fr[i]=y at *;unfold frV at V;unfold frF at ad;by_cases Z:y.holds
  ·rw [decide_eq_true Z] at V;by_cases q2:y.name=s
   ·rw [show ofN s y=true from decide_eq_true ⟨Z,q2⟩,Bool.true_and] at J ae;refine r8_ ?_;refine ARun.alloc (zab rfl) zay ?_;intro b6 f6;have Q:=f6
    repeat ((with_reducible replace Q:=zaa Q);obtain ⟨Q,_⟩:=Q)
    have:=Q.ne hA;have:=Q.ne' hA
    refine nl_ ?_;refine r6_ ?_;refine cp_ rfl (V _) ?_;refine r4_ ?_
    first|refine k_q 20 ?_|refine rG 20 (vh rfl rfl (zaf (zar _ _) (decide_eq_true q2))) ?_
    refine r8_ ?_;refine vu rfl (λhb=>?_) (λhb=>?_)
    ·rw [if_pos (ae hb)];refine r11_ ?_;refine ⟨_,arM (devM S p x.d oE oW) a p b c x k,⟨_,_,rfl,rfl,rfl⟩,zae,?_⟩;exact ⟨rfl,k,oE,oW,U,rfl⟩
    refine r8_ ?_;refine ⟨i+1,?_,?_,?_,?_⟩<;>try dsimp only
    ·exact ⟨rfl,rfl,rfl,rfl,rfl,trivial⟩
    ·exact zae
    ·exact ⟨hc,J hb⟩
    omega
   rw [show ofN s y=false from decide_eq_false λh=>q2 h.2,Bool.false_and] at J;refine r8_ ?_;refine ARun.alloc (zab rfl) zay ?_;intro b6 f6;have Q:=f6
   repeat ((with_reducible replace Q:=zaa Q);obtain ⟨Q,_⟩:=Q)
   have:=Q.ne hA;have:=Q.ne' hA
   refine nl_ ?_;refine r6_ ?_;refine cp_ rfl (V _) ?_;refine r4_ ?_
   first|refine k_q 20 ?_|refine rG 20 (vh rfl rfl (zaf (zar _ _) (decide_eq_false q2))) ?_
   refine r8_ ?_;refine kw_ [0,1,12,13,14,15,6,30] ?_;refine cF_ ?_;refine r8_ ?_;refine ⟨i+1,?_,?_,?_,?_⟩<;>try dsimp only
   ·exact ⟨rfl,rfl,rfl,rfl,rfl,trivial⟩
   ·exact zae
   ·exact ⟨hc,J rfl⟩
   omega
  rw [decide_eq_false Z] at V;rw [show ofN s y=false from decide_eq_false λh=>Z h.1,Bool.false_and] at J;refine r8_ ?_;refine ARun.alloc (zab rfl) zay ?_;intro b6 f6;have Q:=f6
  repeat ((with_reducible replace Q:=zaa Q);obtain ⟨Q,_⟩:=Q)
  have:=Q.ne hA;have:=Q.ne' hA
  refine nl_ ?_;refine r6_ ?_;refine cp_ rfl (V _) ?_;refine r13_ ?_;refine cF_ ?_;refine r8_ ?_;refine ⟨i+1,?_,?_,?_,?_⟩<;>try dsimp only
  ·exact ⟨rfl,rfl,rfl,rfl,rfl,trivial⟩
  ·exact zae
  ·exact ⟨hc,J rfl⟩
  omega
 have hc:i=x.fr.length:=by have:=of_decide_eq_false hc;omega
 subst hc;rw [if_neg (show ¬ (x.fr.any (λx=>ofN s x && decide (0<x.pins))=true) from λh=>by obtain ⟨y,hy,hq⟩:=List.any_eq_true.1 h;obtain ⟨j,hj,rfl⟩:=List.getElem_of_mem hy;rw [aj j hj hj] at hq;cases hq)];refine r17_ ?_;refine AWP.loop (X:=Nat) (λy=>[(0,.pointer (some ⟨a,0,none⟩)),(1,.string s),(35,.slice (some ⟨b,0,none⟩) x.fr.length c),(36,.int .i64 x.fr.length),(37,.int .i64 y)]) (λy=>arM (devM S p x.d oE oW) a p b c { x with fr:=drF s x.fr y } k) (λy=>y<=x.fr.length) (λy=>x.fr.length-y) (0) ⟨rfl,rfl,rfl,rfl,rfl,trivial⟩ (zgm h0) (Nat.zero_le _) ?_;rintro i hi;(try dsimp only at *);refine r6_ ?_;refine vu rfl (λhc=>?_) (λhc=>?_)
 ·have hc:i<x.fr.length:=by have:=of_decide_eq_true hc;omega
  have ac:i<(drF s x.fr i).length:=by rw [zgr];exact hc
  have ad:=zhX (am i) i ac;rw [zsE s x.fr hc] at ad;have C:=zq2 s x.fr hc;have Y:=af i;have V:=λS=>zfJ x.fr[i] S;unfold clrF at C;have an:(drF s x.fr i).set i x.fr[i]=drF s x.fr i:=by rw [<- zsE s x.fr hc ac];exact List.set_getElem_self ac
  generalize x.fr[i]=y at *;unfold frV at V;unfold frF at ad;unfold ofN at C;by_cases Z:y.holds
  ·rw [decide_eq_true Z] at V;by_cases q2:y.name=s
   ·rw [decide_eq_true (show y.holds/\y.name=s from ⟨Z,q2⟩),if_pos rfl] at C;refine r9_ ?_;refine ARun.alloc (zab rfl) zay ?_;intro b8 f8;have I:=f8
    repeat ((with_reducible replace I:=zaa I);obtain ⟨I,_⟩:=I)
    have:=I.ne Y;have:=I.ne' Y
    refine nl_ ?_;refine r7_ ?_;refine cp_ rfl (V _) ?_;refine r4_ ?_
    first|refine k_q 44 ?_|refine rG 44 (vh rfl rfl (zaf (zar _ _) (decide_eq_true q2))) ?_
    refine r3_ ?_;refine kw_ [0,1,35,36,37,38,8,7,49] ?_;refine cT_ ?_;refine r8_ ?_;refine ARun.storeFr (c:=c) (i:=i) (l:=drF s x.fr i) (u:=F0) rfl rfl rfl vd ac zbH ((vg _ _ (f8.ne (al i))).trans (al i)) ?_;refine nm_ ?_;refine r8_ ?_;refine ⟨i+1,?_,?_,?_,?_⟩<;>try dsimp only
    ·exact ⟨rfl,rfl,rfl,rfl,rfl,trivial⟩
    ·exact (by rw [C,<- ai i _ (by simp [zgr])];exact Less.set (vi _ _ _ f8.1) _ _)
    ·exact hc
    omega
   rw [decide_eq_false (show ¬ (y.holds/\y.name=s) from λh=>q2 h.2),if_neg (by simp),an] at C;refine r9_ ?_;refine ARun.alloc (zab rfl) zay ?_;intro b8 f8;have I:=f8
   repeat ((with_reducible replace I:=zaa I);obtain ⟨I,_⟩:=I)
   have:=I.ne Y;have:=I.ne' Y
   refine nl_ ?_;refine r7_ ?_;refine cp_ rfl (V _) ?_;refine r4_ ?_
   first|refine k_q 44 ?_|refine rG 44 (vh rfl rfl (zaf (zar _ _) (decide_eq_false q2))) ?_
   refine r3_ ?_;refine cF_ ?_;refine r8_ ?_;refine ⟨i+1,?_,?_,?_,?_⟩<;>try dsimp only
   ·exact ⟨rfl,rfl,rfl,rfl,rfl,trivial⟩
   ·exact (by rw [C];exact zae)
   ·exact hc
   omega
  rw [decide_eq_false Z] at V;rw [decide_eq_false (show ¬ (y.holds/\y.name=s) from λh=>Z h.1),if_neg (by simp),an] at C;refine r9_ ?_;refine ARun.alloc (zab rfl) zay ?_;intro b8 f8;have I:=f8
  repeat ((with_reducible replace I:=zaa I);obtain ⟨I,_⟩:=I)
  have:=I.ne Y;have:=I.ne' Y
  refine nl_ ?_;refine r7_ ?_;refine cp_ rfl (V _) ?_;refine r8_ ?_;refine kw_ [0,1,35,36,37,38,8,7,49] ?_;refine cF_ ?_;refine r8_ ?_;refine ⟨i+1,?_,?_,?_,?_⟩<;>try dsimp only
  ·exact ⟨rfl,rfl,rfl,rfl,rfl,trivial⟩
  ·exact (by rw [C];exact zae)
  ·exact hc
  omega
 have hc:i=x.fr.length:=by have:=of_decide_eq_false hc;omega
 subst hc;refine r11_ ?_;refine ⟨_,arM (devM S p x.d oE oW) a p b c { x with fr:=drF s x.fr x.fr.length } k,⟨_,_,rfl,rfl,rfl⟩,Mem.Less.refl _,?_⟩;exact ⟨rfl,k,oE,oW,U.like rfl (by simp),by rw [ztI];rfl⟩
theorem zoJ (a p b c:Nat) (x:Pl) (k:Int) (S:Mem) (oE oW:Option (Nat × Nat)) (ao:OkA S a p b c x oE oW) (hw:PW x) :
  ACall prog 90 #[.pointer (some ⟨a,0,none⟩)] (arM (devM S p x.d oE oW) a p b c x k) (ArR S a p b c (flushP x)):=by
 have au:=hw.l2;have hA:=za0 (M:=devM S p x.d oE oW) (a:=a) (p:=p) (b:=b) (c:=c) (x:=x) (k:=k);unfold arB at hA;unfold flushP;refine k_E1 34 func90 ?_;refine r17_ ?_;refine AWP.loop (X:=Nat × Pl × Int × Option (Nat × Nat) × Option (Nat × Nat)) (λz=>[(0,.pointer (some ⟨a,0,none⟩)),(9,.int .i64 x.fr.length),(10,.int .i64 z.1)]) (λz=>arM (devM S p z.2.1.d z.2.2.2.1 z.2.2.2.2) a p b c z.2.1 z.2.2.1) (λz=>z.1<=x.fr.length/\PW z.2.1/\OkA S a p b c z.2.1 z.2.2.2.1 z.2.2.2.2/\z.2.1.fr.length=x.fr.length/\flushN x 0 x.fr.length=flushN z.2.1 z.1 (x.fr.length-z.1)) (λz=>x.fr.length-z.1) ((0,x,k,oE,oW)) ⟨rfl,rfl,rfl,trivial⟩ (Mem.Less.refl _) (⟨Nat.zero_le _,hw,ao,rfl,rfl⟩) ?_;rintro ⟨i,y,k',V,U⟩ ⟨hi,Z,C,ac,I⟩;(try dsimp only at *);clear hA;refine r6_ ?_;refine vu rfl (λhc=>?_) (λhc=>?_)
 ·have hc:i<x.fr.length:=by have:=of_decide_eq_true hc;omega
  have aa:i<y.fr.length:=by rw [ac];exact hc
  have hA:=za0 (M:=devM S p y.d V U) (a:=a) (p:=p) (b:=b) (c:=c) (x:=y) (k:=k');obtain ⟨_,_,_,_,kb,_,_⟩:=zfz (zhY (M:=devM S p y.d V U) (p:=p) (k:=k') C.ab C.l Z.l2 aa);have ai:=zlq a p b c y i k' S V U C Z aa;unfold arB at hA;rw [show x.fr.length-i=(x.fr.length-(i+1))+1 from by omega,flushN] at I;by_cases q1:(atF y i).dirty=true
  ·rw [if_pos q1] at I;refine r20_ ?_;refine rC (Calm.as (congrArg Value.bool q1) (ld_ zbW rfl)) ?_;refine r3_ ?_;refine cF_ ?_;refine r6_ ?_;refine ca_ rfl (ai) ?_;rintro _ S1 ⟨rfl,k2,Q,Y,J,h1⟩;rw [h1];clear h1 S1;have ah:=zvL Z aa;have aj:=zgq y i;generalize wrP y i=u at *;refine r3_ ?_;by_cases q2:u.2=0
   ·rw [if_pos q2] at I;refine r6_ ?_;refine kw_ [0,9,10,11,3,21,4,26] ?_;refine cF_ ?_;refine r8_ ?_;refine ⟨(i+1,u.1,k2,Q,Y),?_,?_,?_,?_⟩<;>try dsimp only
    ·exact ⟨rfl,rfl,rfl,trivial⟩
    ·exact Mem.Less.refl _
    ·exact ⟨hc,ah q2,J,by rw [<- ac];exact aj,I⟩
    (show x.fr.length-(i+1)<x.fr.length-i;omega)
   rw [if_neg q2] at I;refine r6_ ?_;refine cT_ ?_;refine r12_ ?_;refine ⟨_,arM (devM S p u.1.d Q Y) a p b c u.1 k2,⟨_,_,rfl,rfl,rfl⟩,Mem.Less.refl _,?_⟩;exact ⟨by rw [I,if_neg q2];rfl,k2,Q,Y,by rw [I,if_neg q2];exact J,by rw [I,if_neg q2]⟩
  have al:(atF y i).dirty=false:=by simpa using q1
  rw [if_neg q1] at I;refine r20_ ?_;refine rC (Calm.as (congrArg Value.bool al) (ld_ zbW rfl)) ?_;refine r3_ ?_;refine cT_ ?_;refine r9_ ?_;refine ⟨(i+1,y,k',V,U),?_,?_,?_,?_⟩<;>try dsimp only
  ·exact ⟨rfl,rfl,rfl,trivial⟩
  ·exact Mem.Less.refl _
  ·exact ⟨hc,Z,C,ac,I⟩
  (show x.fr.length-(i+1)<x.fr.length-i;omega)
 have hc:i=x.fr.length:=by have:=of_decide_eq_false hc;omega
 subst hc;rw [Nat.sub_self,flushN] at I;rw [I];have hA:=za0 (M:=devM S p y.d V U) (a:=a) (p:=p) (b:=b) (c:=c) (x:=y) (k:=k');have ak:=zhU C k' (zfD p y.d S V U C.v Z.dr);unfold arB at hA;refine r11_ ?_;refine ca_ rfl (ak) ?_;rintro _ S1 ⟨M,⟨Q,Y,J,rfl,hM⟩,fb,fa,h1⟩;rw [h1];clear h1 S1;rw [hM] at fb fa ⊢;refine r2_ ?_;refine kw_ [0,9,10,11] ?_;refine r6_ ?_;refine ⟨_,arM (devM S p (settleD y.d λ_=>true) Q Y) a p b c y k',⟨_,_,rfl,rfl,rfl⟩,Mem.Less.refl _,?_⟩;exact ⟨rfl,k',Q,Y,⟨J,fb,fa,C.ab,C.l⟩,by rw [if_pos rfl];rfl⟩
theorem zhZ (x:Int):(i64s x).length=1:=rfl
theorem ztJ (l:List Int):∀ v ∈ l.flatMap i64s,v.oneCell'=true:=λv I=>by
 obtain ⟨x,_,C⟩:=List.mem_flatMap.1 I;simp only [i64s,List.mem_cons,List.not_mem_nil,or_false] at C;subst C;rfl
theorem Mv.ACall.frameO {P:tz} {f:tA} {args:Array tu} {S:Mem} {R:tu->Mem->Prop} (h:ACall P f args S R) {n m:Nat} {o:Option (Nat × Nat)} {e:tx} {cs:List tu} (I:OkO S o m) :
  ACall P f args (outN n S o e cs) λr S'=>∃ M,R r M/\OkO M o m/\S'=outN n M o e cs:=by
 cases o with
 | none=>exact h.mono λr S' C=>⟨S',C,⟨I.nil,λb c e=>(by cases e)⟩,rfl⟩
 | some q=>exact (h.frame (I.own q.1 q.2 rfl).1).mono λr S' ⟨M,C,Q,J⟩=>⟨M,C,⟨λx=>(by cases x),λb c e=>(by cases e;exact ⟨Q,(I.own _ _ rfl).2⟩)⟩,J⟩
theorem zlt {n m:Nat} {S:Mem} {o:Option (Nat × Nat)} {e:tx} {cs:List tu} {b:Nat} {r:Blk} (hb:S.own b=some r) (C:OkO S o m):(outN n S o e cs).own b=some r:=zdr hb λq c x=>Ne.symm ((C.own q c x).1.ne hb)
theorem zq3 {n m:Nat} {S:Mem} {o:Option (Nat × Nat)} {e:tx} {cs:List tu} {b:Nat} {r r':Blk} (hb:S.own b=some r) (C:OkO S o m):(outN n S o e cs).set b r'=outN n (S.set b r') o e cs:=(zbA λq c x=>Ne.symm ((C.own q c x).1.ne hb)).symm
theorem ztK {S:Mem} {o:Option (Nat × Nat)} {m b:Nat} {r r':Blk} (hb:S.own b=some r) (C:OkO S o m):OkO (S.set b r') o m :=
 ⟨C.nil,λq c x=>⟨zai (C.own q c x).1 (Ne.symm ((C.own q c x).1.ne hb)),(C.own q c x).2⟩⟩
def ArL (S:Mem) (a p b c:Nat) (x:Pl) (l:List Int) (v:tu) (S':Mem):Prop:=∃ k oE oW o,OkA S a p b c x oE oW/\OkO (arM (devM S p x.d oE oW) a p b c x k) o l.length/\v=outV o l.length/\S'=outN 1 (arM (devM S p x.d oE oW) a p b c x k) o 3 (l.flatMap i64s)
theorem zoK (a p b c:Nat) (x:Pl) (n:Int) (k:Int) (S:Mem) (oE oW:Option (Nat × Nat)) (Y:OkA S a p b c x oE oW) (hw:PW x) :
  ACall prog 142 #[.pointer (some ⟨a,0,none⟩),.int .i64 n] (arM (devM S p x.d oE oW) a p b c x k) λr S'=>∃ v,r = .tuple #[v,.int .i64 (leaseP x n).2.2]/\ArL S a p b c (leaseP x n).1 (leaseP x n).2.1 v S':=by
 have av:=hw.l2;have hA:=za0 (M:=devM S p x.d oE oW) (a:=a) (p:=p) (b:=b) (c:=c) (x:=x) (k:=k);have hF:=zkl (M:=devM S p x.d oE oW) (p:=p) (x:=x) (k:=k) Y.ab Y.l hw.l2;have ai:=zqY a p b c x k (arM (devM S p x.d oE oW) a p b c x k) hA hF av;have aM:idlesP x<=x.fr.length:=List.countP_le_length;have h0:=zcb (arM (devM S p x.d oE oW) a p b c x k);unfold leaseP;by_cases q1:n<0
 ·rw [if_pos q1];refine k_E2 41 func142 ?_;refine r15_ ?_;refine cT_ ?_;refine r9_ ?_;refine ⟨_,arM (devM S p x.d oE oW) a p b c x k,⟨_,_,rfl,⟨_,_,rfl,rfl,rfl⟩,rfl⟩,zae,?_⟩;exact ⟨_,rfl,k,oE,oW,none,Y,h0,rfl,rfl⟩
 rw [if_neg q1];by_cases q2:(idlesP x:Int)<n
 ·rw [if_pos q2];refine k_E2 41 func142 ?_;refine r15_ ?_;refine cF_ ?_;refine r4_ ?_;refine cp_ rfl (ai) ?_;refine r4_ ?_;refine cT_ ?_;refine r9_ ?_;refine ⟨_,arM (devM S p x.d oE oW) a p b c x k,⟨_,_,rfl,⟨_,_,rfl,rfl,rfl⟩,rfl⟩,zae,?_⟩;exact ⟨_,rfl,k,oE,oW,none,Y,h0,rfl,rfl⟩
 rw [if_neg q2];obtain ⟨m,rfl⟩ : ∃ m:Nat,n=(m:Int):=⟨_,(Int.toNat_of_nonneg vd).symm⟩;rw [Int.toNat_natCast];refine k_E2 41 func142 ?_;refine r15_ ?_;refine cF_ ?_;refine r4_ ?_;refine cp_ rfl (ai) ?_;refine r4_ ?_;refine kw_ [0,1,4,5,9,12] ?_;refine cF_ ?_;refine r16_ ?_;refine AWP.loop (X:=Nat × Pl × Int × Option (Nat × Nat) × Option (Nat × Nat) × Option (Nat × Nat) × List Int) (λz=>[(0,.pointer (some ⟨a,0,none⟩)),(6,outV z.2.2.2.2.2.1 z.2.2.2.2.2.2.length),(17,.int .i64 m),(18,.int .i64 z.1)]) (λz=>outN 1 (arM (devM S p z.2.1.d z.2.2.2.1 z.2.2.2.2.1) a p b c z.2.1 z.2.2.1) z.2.2.2.2.2.1 3 (z.2.2.2.2.2.2.flatMap i64s)) (λz=>z.1<=m/\PW z.2.1/\OkA S a p b c z.2.1 z.2.2.2.1 z.2.2.2.2.1/\OkO (arM (devM S p z.2.1.d z.2.2.2.1 z.2.2.2.2.1) a p b c z.2.1 z.2.2.1) z.2.2.2.2.2.1 z.2.2.2.2.2.2.length/\z.2.2.2.2.2.2.length=z.1/\leaseN m x []=leaseN (m-z.1) z.2.1 z.2.2.2.2.2.2) (λz=>m-z.1) ((0,x,k,oE,oW,none,[])) ⟨rfl,rfl,rfl,rfl,trivial⟩ (Mem.Less.refl _) (⟨Nat.zero_le _,hw,Y,h0,rfl,rfl⟩) ?_;rintro ⟨i,y,k',ah,af,o,l⟩ ⟨hi,ao,ad,aq,aF,U⟩;(try dsimp only at *);clear hA hF ai;refine r6_ ?_;refine vu rfl (λhc=>?_) (λhc=>?_)
 ·have hc:i<m:=by have:=of_decide_eq_true hc;omega
  have aE:=(zoF a p b c y k' S ah af ad ao).frameO (n:=1) (e:=3) (cs:=l.flatMap i64s) aq;rw [show m-i=(m-(i+1))+1 from by omega,leaseN] at U;refine r7_ ?_;refine ca_ rfl (aE) ?_;rintro _ S1 ⟨Sa,⟨rfl,k2,I,J,Q,ag⟩,C,h1⟩;rw [h1,ag];rw [ag] at C;clear h1 S1 ag Sa;have ay:=ztH ao;have ax:=zlr (x:=y);generalize takeP y=u at *;refine r7_ ?_;by_cases q3:u.2.2=0
  ·rw [if_pos q3] at U;have aC:=ax q3;have ak:=za0 (M:=devM S p u.1.d I J) (a:=a) (p:=p) (b:=b) (c:=c) (x:=u.1) (k:=k2);have Z:=zdU (M:=devM S p u.1.d I J) (p:=p) (c:=c) (x:=u.1) (k:=k2) Q.ab;have al:=zlt (n:=1) (e:=3) (cs:=l.flatMap i64s) ak C;have au:=zlt (n:=1) (e:=3) (cs:=l.flatMap i64s) Z C;unfold arB at al;refine r7_ ?_;refine cF_ ?_;refine r11_ ?_;refine ARun.storeFr (c:=c) (i:=u.2.1) (l:=u.1.fr) (u:=F1) rfl rfl rfl vd aC zbH au ?_;refine nm_ ?_;refine r2_ ?_;rw [show (outN 1 (arM (devM S p u.1.d I J) a p b c u.1 k2) o 3 (l.flatMap i64s)).set b (frB (u.1.fr.set u.2.1 F1) c)=outN 1 (arM (devM S p u.1.d I J) a p b c (setP u.1 u.2.1 F1) k2) o 3 (l.flatMap i64s) from by rw [zq3 Z C,zbS Q.ab _ (by simp)];rfl];have V:OkO (arM (devM S p u.1.d I J) a p b c (setP u.1 u.2.1 F1) k2) o l.length:=(by have:=ztK (r':=frB (u.1.fr.set u.2.1 F1) c) Z C;rw [zbS Q.ab _ (by simp)] at this;exact this);have ac:=zb6 (e:=3) V (zao zhZ l);have an:OkA S a p b c (setP u.1 u.2.1 F1) I J:=Q.like rfl (by unfold setP;simp);have aj:=zoI (ay q3) u.2.1 (y:=F1) (by decide) (by decide);have aD:(setP u.1 u.2.1 F1).d=u.1.d:=rfl;rw [<- aD] at V ac ⊢;clear au al ak Z C;generalize setP u.1 u.2.1 F1=y3 at *;refine r3_ ?_;refine vk (zab rfl) zau rfl rfl ?_;intro aP am;have aa:=am
   repeat ((with_reducible replace aa:=zaa aa);obtain ⟨aa,_⟩:=aa)
   refine vH (n:=1) (o:=o) (k:=l.length) (m:=1) (cs:=l.flatMap i64s) (news:=[.int .i64 (u.2.1:Nat)]) (zab rfl) zau rfl rfl (zao zhZ l) V (ac.temp am) rfl (zeY (vf _ _ _) List.prefix_rfl) rfl (ztJ [((u.2.1:Nat):Int)]) vd vd ?_;intro o2 aA;refine r9_ ?_;refine ⟨(i+1,y3,k2,I,J,o2,l ++ [((u.2.1:Nat):Int)]),?_,?_,?_,?_⟩<;>try dsimp only
   ·exact ⟨rfl,by rw [List.length_append];rfl,rfl,rfl,trivial⟩
   ·exact zgm (by rw [List.flatMap_append];rfl)
   ·exact ⟨hc,aj,an,by rw [List.length_append];exact aA,by rw [List.length_append,aF];rfl,U⟩
   (show m-(i+1)<m-i;omega)
  rw [if_neg q3] at U;refine r7_ ?_;refine kw_ [0,6,17,18,19,7,8,26] ?_;refine cT_ ?_;rw [U];refine r14_ ?_;refine ⟨_,arM (devM S p u.1.d I J) a p b c u.1 k2,⟨_,_,rfl,⟨_,_,rfl,rfl,rfl⟩,rfl⟩,za6 C,?_⟩;exact ⟨_,rfl,k2,I,J,none,Q,zcb _,rfl,rfl⟩
 have hc:i=m:=by have:=of_decide_eq_false hc;omega
 subst hc;rw [Nat.sub_self,leaseN] at U;rw [U];refine r13_ ?_;refine ⟨_,outN 1 (arM (devM S p y.d ah af) a p b c y k') o 3 (l.flatMap i64s),⟨_,_,rfl,⟨_,_,rfl,rfl,rfl⟩,rfl⟩,Mem.Less.refl _,?_⟩;exact ⟨_,rfl,k',ah,af,o,ad,aq,rfl,rfl⟩
namespace Sto
theorem zbA {n:Nat} {S:Mem} {b:Nat} {o:Option (Nat × Nat)} {e:tx} {cs:List tu} {r:Blk} (C:∀ q c,o=some (q,c)->b≠q):(outN n S o e cs).set b r=outN n (S.set b r) o e cs:=by
 cases o with
 | none=>rfl
 | some I=>exact vr _ _ _ (Ne.symm (C _ _ rfl))
structure Beside (S:Mem) (a p b:Nat) (oE oW:Option (Nat × Nat)) (r:Nat):Prop where
  e:∀ q c,oE=some (q,c)->r≠q
  w:∀ q c,oW=some (q,c)->r≠q
  p:r≠p
  b:r≠b
  a:r≠a
theorem zko {S:Mem} {a p b c:Nat} {x:Pl} {oE oW:Option (Nat × Nat)} {k:Int} {r:Nat} (h:OkA S a p b c x oE oW) (hb:Beside S a p b oE oW r) (k':Blk):OkA (S.set r k') a p b c x oE oW/\(arM (devM S p x.d oE oW) a p b c x k).set r k'=arM (devM (S.set r k') p x.d oE oW) a p b c x k:=by
 have e1:(outN 2 S oE extT (x.d.ext.flatMap extF)).set r k'=outN 2 (S.set r k') oE extT (x.d.ext.flatMap extF):=zbA hb.e;have e2:(dkM S x.d oE oW).set r k'=dkM (S.set r k') x.d oE oW:=by
  unfold dkM;rw [zbA hb.w,e1]
 have e3:(devM S p x.d oE oW).set r k'=devM (S.set r k') p x.d oE oW:=by
  unfold devM;rw [vr _ _ _ (Ne.symm hb.p),e2]
 refine ⟨⟨⟨⟨h.v.dk.e.set hb.e,?_⟩,?_⟩,?_,?_,h.ab,h.l⟩,?_⟩
 ·rw [<- e1];exact h.v.dk.w.set hb.w
 ·rw [<- e2];exact zai h.v.fr (Ne.symm hb.p)
 ·rw [<- e3];exact zai h.fb (Ne.symm hb.b)
 ·rw [<- e3];exact zai h.fa (Ne.symm hb.a)
 unfold arM;rw [vr _ _ _ (Ne.symm hb.a),vr _ _ _ (Ne.symm hb.b),e3]
theorem zeG {S:Mem} {p:Nat} {d:D} {oE oW:Option (Nat × Nat)} {q:Nat} (h:Fresh (devM S p d oE oW) q):Fresh S q/\q≠p/\(∀ x c,oE=some (x,c)->q≠x) /\ ∀ x c,oW=some (x,c)->q≠x:=by
 unfold devM dkM at h;obtain ⟨J,V⟩:=zaa h;obtain ⟨C,U⟩:=zaF J;obtain ⟨I,Q⟩:=zaF C;exact ⟨I,V,Q,U⟩
theorem zfg {S:Mem} {a p b c:Nat} {x:Pl} {oE oW:Option (Nat × Nat)} {r:Nat} {k:Blk} (h:OkA S a p b c x oE oW) (C:S.own r=some k):Beside S a p b oE oW r where
 e:=λq c e=>(h.v.dk.e.own q c e).1.ne C
 w:=λq c e=>(zaF (h.v.dk.w.own q c e).1).1.ne C
 p:=by
  have:=h.v.fr;unfold dkM at this;exact (zaF (zaF this).1).1.ne C
 b:=(zeG h.fb).1.ne C
 a:=(zeG h.fa).1.ne C
theorem zmU {S:Mem} {a p b c:Nat} {x:Pl} {oE oW:Option (Nat × Nat)} {k:Int} {r:Nat} (h:Fresh (arM (devM S p x.d oE oW) a p b c x k) r):Fresh S r/\Beside S a p b oE oW r:=by
 unfold arM at h;obtain ⟨U,Y⟩:=zaa h;obtain ⟨C,X⟩:=zaa U;obtain ⟨I,V,Q,J⟩:=zeG C;exact ⟨I,⟨Q,J,V,X,Y⟩⟩
theorem zdj {S T:Mem} {a p b c:Nat} {x:Pl} {r:Nat} {k:Blk} (h:ArS S a p b c x T) (I:S.own r=some k) (k':Blk):ArS (S.set r k') a p b c x (T.set r k'):=by
 obtain ⟨i,oE,oW,ok,rfl⟩:=h;obtain ⟨J,C⟩:=zko (k:=i) ok (zfg ok I) k';exact ⟨i,oE,oW,J,C⟩
theorem zi_ {S T:Mem} {a p b c:Nat} {x:Pl} {r:Nat} (h:ArS S a p b c x T) (Q:Fresh T r) (k':Blk):Fresh S r/\ArS (S.set r k') a p b c x (T.set r k'):=by
 obtain ⟨i,oE,oW,ok,rfl⟩:=h;obtain ⟨J,U⟩:=zmU Q;obtain ⟨I,C⟩:=zko (k:=i) ok U k';exact ⟨J,⟨i,oE,oW,I,C⟩⟩
theorem zcH {S T:Mem} {a p b c:Nat} {x:Pl} (h:ArS S a p b c x T):S.Less T:=by
 obtain ⟨i,oE,oW,ok,rfl⟩:=h;exact ok.less i
theorem zam {S T:Mem} {a p b c:Nat} {x:Pl} (h:ArS S a p b c x T) {r:Nat} {k:Blk} (C:S.own r=some k):T.own r=some k:=(zcH h).1 r k C
theorem zd0 {S T:Mem} {a p b c:Nat} {x:Pl} (h:ArS S a p b c x T) {f:tA} {args:Array tu} {R:tu->Mem->Prop} (g:∀ k oE oW,OkA S a p b c x oE oW->ACall prog f args (arM (devM S p x.d oE oW) a p b c x k) R):ACall prog f args T R:=by
 obtain ⟨i,oE,oW,ok,rfl⟩:=h;exact g i oE oW ok
theorem zfh {p:Pl} {n:Nat} (h:Ps p n):PW p where
 dr:=h.d.r
 fu:=by rw [h.d.f];decide
 nd:=h.d.u
 l1:=h.l1
 l2:=h.l2
 pn:=λx C=>by
  obtain ⟨i,hi,rfl⟩:=List.mem_iff_getElem.1 C;have:=h.ok i hi;rw [zaK hi] at this;rcases this with e | e | e
  ·rw [e];exact ⟨by decide,by decide⟩
  ·rw [e];exact ⟨by decide,by decide⟩
  exact ⟨e.p0,by have:=e.p1;omega⟩
/-! ### Frames of a file that are in use -/
structure Use (x:Pl) (s:ByteArray) (fr held:Nat):Prop where
  pins:∀ i,i<x.fr.length->(atF x i).holds->(atF x i).name=s->(atF x i).pins=if 0<held/\i=fr then 1 else 0
  at_:0<held->fr<x.fr.length/\isF s (held:Int) (atF x fr)=true
  z0:∀ i,i<x.fr.length->isF s 0 (atF x i)=false
theorem zgs {s:tt} {k j:Int} {x:Fr} (h:isF s k x=true) (C:k≠j):isF s j x=false:=zbJ λe=>C ((zak.1 h).2.1.symm.trans (zak.1 e).2.1)
structure Oth (x y:Pl) (s:ByteArray):Prop where
  back:∀ i,i<x.fr.length->(atF y i).name≠s->atF y i=atF x i
  on:∀ i,i<x.fr.length->(atF x i).name≠s -> ¬ (atF x i).idle->atF y i=atF x i
theorem Oth.refl (x:Pl) (s:tt):Oth x x s:=⟨λ_ _ _=>rfl,λ_ _ _ _=>rfl⟩
theorem Oth.trans {x y z:Pl} {s:tt} (h:Oth x y s) (g:Oth y z s) (hl:y.fr.length=x.fr.length):Oth x z s :=
 ⟨λi hi C=>by
  have e:=g.back i vd C;rw [e] at C;exact e.trans (h.back i hi C),λi hi C hb=>by
  have e:=h.on i hi C hb;exact (g.on i vd (by rw [e];exact C) (by rw [e];exact hb)).trans e⟩
theorem Use.busy {x:Pl} {s:tt} {fr held:Nat} (h:Use x s fr held) (C:0<held):(atF x fr).pins=1:=by
 obtain ⟨I,J⟩:=h.at_ C;obtain ⟨a,_,c⟩:=zak.1 J;rw [h.pins fr I a c,if_pos ⟨C,rfl⟩]
theorem Use.oth {x y:Pl} {s Q:tt} {fr held:Nat} (h:Use x s fr held) (I:Oth x y Q) (C:s≠Q) (hl:y.fr.length=x.fr.length):Use y s fr held where
 pins:=λi hi hh J=>by
  have e:=I.back i vd (by rw [J];exact C);rw [e] at hh J ⊢;exact h.pins i vd hh J
 at_:=λV=>by
  obtain ⟨X,U⟩:=h.at_ V;have e:=I.on fr X (by rw [(zak.1 U).2.2];exact C) (ztB (by rw [h.busy V];decide));exact ⟨by omega,by rw [e];exact U⟩
 z0:=λi hi=>zbJ λe=>by
  obtain ⟨a,_,c⟩:=zak.1 e;rw [I.back i vd (by rw [c];exact C),h.z0 i vd] at e;cases e
theorem zvM {d:D} {n:Nat} (hd:Dw d n) {s:tt} (h:0<ns d s):s≠ByteArray.empty:=by
 obtain ⟨x,C,rfl⟩:=zaO.1 ((zcO hd s).2 h);exact λe=>(hd.r.ex.ok x C).1.1 (by rw [e];rfl)
theorem Oth.le {x y:Pl} {n:Nat} {s:tt} (h:Oth x y s) (C:Ps y n) (hs:s≠ByteArray.empty) (hl:y.fr.length=x.fr.length) {j:Nat} (I:j<x.fr.length) (e:(atF y j).leased=true):(atF x j).leased=true:=by
 rw [<- h.back j I (λe2=>?_)]
 ·exact e
 rcases C.ok j vd with q | q | q
 ·rw [q] at e;cases e
 ·rw [q] at e2;exact hs e2.symm
 rw [q.l] at e;cases e
theorem zoL {p:Pl} {n:Nat} (hp:Ps p n) (hn:n<16384) (hb:nb p.fr<p.fr.length) {s:tt} {k fr:Nat} (hk:k<ns p.d s) (Z:0<k) (X:Use p s fr 0) :
  ∃ q i,pinP p s (k:Int)=(q,i,0)/\Ps q (n+1)/\Stays p q/\Use q s i k/\Oth p q s/\(atF q i).data=vw p s (k:Int)/\nb q.fr<=nb p.fr+1:=by
 have h0:∀ i,i<p.fr.length->isF s (k:Int) (atF p i)=true->(atF p i).pins=0:=λi hi h=>by
  obtain ⟨a,_,c⟩:=zak.1 h;rw [X.pins i hi a c,if_neg (λh=>absurd h.1 (Nat.lt_irrefl 0))]
 obtain ⟨q,i,h1,h2,h3,J,U,h6,h7,Q,h9,Y⟩:=zvG hp hn hb hk (λi hi h=>by rw [h0 i hi h];decide);obtain ⟨f1,f2,f3⟩:=zak.1 U;have V:(atF q i).pins=1:=by
  rw [h7];by_cases e:isF s (k:Int) (atF p i)=true
  ·rw [if_pos e,h0 i h2 e];rfl
  rw [if_neg e];rfl
 refine ⟨q,i,h1,h3,J,⟨λj I hh C=>?_,λ_=>⟨by rw [J.l];exact h2,U⟩,λj I=>?_⟩,⟨λj I C=>?_,λj I C aa=>?_⟩,h6,h9⟩
 ·by_cases e:j=i
  ·subst e;rw [if_pos ⟨Z,rfl⟩,V]
  rw [if_neg (λh=>e h.2)];rw [Q j e] at hh C ⊢;rw [X.pins j (by rw [J.l] at I;exact I) hh C,if_neg (λh=>absurd h.1 (Nat.lt_irrefl 0))]
 ·by_cases e:j=i
  ·subst e;exact zgs U vd
  rw [Q j e];exact X.z0 j (by rw [J.l] at I;exact I)
 ·by_cases e:j=i
  ·subst e;exact absurd f3 C
  exact Q j e
 by_cases e:j=i
 ·subst e;rcases Y with h | h
  ·exact absurd (zak.1 h).2.2 C
  exact absurd h aa
 exact Q j e
theorem zja {p:Pl} {n:Nat} (hp:Ps p n) {s:tt} {k fr:Nat} (J:0<k) (Q:Use p s fr k) :
  ∃ q,zhi p (fr:Int)=(q,0)/\Ps q n/\Stays p q/\Use q s fr 0/\Oth p q s/\nb q.fr+1=nb p.fr:=by
 obtain ⟨h1,Y⟩:=Q.at_ J;have hb:=Q.busy J;obtain ⟨q,g1,Z,V,X,g5,U,_,g8⟩:=zqU hp h1 Y (by rw [hb];decide);obtain ⟨f1,f2,f3⟩:=zak.1 Y;refine ⟨q,g1,Z,V,⟨λj I hh C=>?_,λh=>absurd h (Nat.lt_irrefl 0),λj I=>?_⟩,⟨λj I C=>?_,λj I C af=>?_⟩,g8 hb⟩
 ·rw [if_neg (λh=>absurd h.1 (Nat.lt_irrefl 0))];by_cases e:j=fr
  ·subst e;rw [g5,hb];rfl
  rw [U j e] at hh C ⊢;rw [Q.pins j (by rw [V.l] at I;exact I) hh C,if_neg (λh=>e h.2)]
 ·by_cases e:j=fr
  ·subst e;exact zgs X vd
  rw [U j e];exact Q.z0 j (by rw [V.l] at I;exact I)
 ·by_cases e:j=fr
  ·subst e;exact absurd (zak.1 X).2.2 C
  exact U j e
 by_cases e:j=fr
 ·subst e;exact absurd f3 C
 exact U j e
theorem zq4 {p:Pl} {n:Nat} (hp:Ps p n) {s:tt} {k fr:Nat} (I:0<k) (J:Use p s fr k) {u:tt} {a:Nat} (ha:a+u.size<=64) :
  ∃ q,fillP p (fr:Int) (a:Int) u=(q,0)/\Ps q n/\q.fr.length=p.fr.length/\q.d=p.d/\Use q s fr k/\Oth p q s/\nb q.fr=nb p.fr /\ ∀ o (j:Nat),j<ns p.d o->vw q o (j:Int)=if s=o/\k=j then fillS (vw p s (k:Int)) (a:Int) u else vw p o (j:Int):=by
 obtain ⟨Y,X⟩:=J.at_ I;have hb:=J.busy I;obtain ⟨q,g1,g2,g3,g4,U,g6,Q,Z,g9⟩:=ztD hp Y X (by rw [hb];decide) ha;obtain ⟨f1,f2,f3⟩:=zak.1 X;refine ⟨q,g1,g2,g3,g4,⟨λj V hh C=>?_,λ_=>⟨by omega,U⟩,λj V=>?_⟩,⟨λj V C=>?_,λj V C ai=>?_⟩,Z,g9⟩
 ·by_cases e:j=fr
  ·subst e;rw [g6,hb,if_pos ⟨I,rfl⟩]
  rw [Q j e] at hh C ⊢;exact J.pins j vd hh C
 ·by_cases e:j=fr
  ·subst e;exact zgs U vd
  rw [Q j e];exact J.z0 j vd
 ·by_cases e:j=fr
  ·subst e;exact absurd (zak.1 U).2.2 C
  exact Q j e
 by_cases e:j=fr
 ·subst e;exact absurd f3 C
 exact Q j e
end Sto
end
section
open Go.RowKit
open Mv Disk
namespace Sto
theorem Ps.mono {p:Pl} {n m:Nat} (h:Ps p n) (k:n<=m):Ps p m:=⟨h.d.mono k,h.ok,h.ap,h.l1,h.l2⟩
structure Rd where
  nm:tt
  w:Nat
  ct:Nat
  at_:Nat
  fr:Nat
  held:Nat
def rdB (a:Nat) (r:Rd):Blk:=⟨101,[.pointer (some ⟨a,0,none⟩),.string r.nm,.int .i64 (r.w:Nat),.int .u64 (r.ct:Nat),.int .i64 (r.at_:Nat),.int .i64 (r.fr:Nat),.int .i64 (r.held:Nat),.int .i64 0],8⟩
def self (q:Nat):tu:=.pointer (some ⟨q,0,none⟩)
structure RdS (S:Mem) (a p b c q:Nat) (r:Rd) (x:Pl) (n B:Nat) (T:Mem):Prop where
  ar:ArS S a p b c x T
  ow:S.own q=some (rdB a r)
  ps:Ps x n
  us:Use x r.nm r.fr r.held
  nb:nb x.fr<=B+if 0<r.held then 1 else 0
structure RdT (S:Mem) (a p b c q:Nat) (r r':Rd) (x y:Pl) (n' B:Nat) (T':Mem):Prop where
  s:RdS (S.set q (rdB a r')) a p b c q r' y n' B T'
  st:Stays x y
  ot:Oth x y r.nm
  nm:r'.nm=r.nm
theorem RdT.refl {S:Mem} {a p b c q:Nat} {r:Rd} {x:Pl} {n B:Nat} {T:Mem} (h:RdS S a p b c q r x n B T):RdT S a p b c q r r x x n B T:=⟨by rw [vB _ _ _ h.ow];exact h,Stays.refl _,Oth.refl _ _,rfl⟩
theorem RdT.trans {S:Mem} {a p b c q:Nat} {r r' C:Rd} {x y z:Pl} {n n' B:Nat} {T T':Mem} (h:RdT S a p b c q r r' x y n B T) (g:RdT (S.set q (rdB a r')) a p b c q r' C y z n' B T'):RdT S a p b c q r C x z n' B T' :=
 ⟨by have:=g.s;rw [Mem.set_set] at this;exact this,h.st.trans g.st,h.ot.trans (by rw [<- h.nm];exact g.ot) h.st.l,g.nm.trans h.nm⟩
theorem zlu (S:Mem) (a p b c q:Nat) (r:Rd) (x:Pl) (n B:Nat) (T:Mem) (h:RdS S a p b c q r x n B T) :
  ACall prog 50 #[self q] T λv T'=>v = .tuple #[] /\ ∃ y,RdT S a p b c q r { r with held:=0 } x y n B T':=by
 have X:=zam h.ar h.ow;unfold rdB at X;by_cases J:0<r.held
 ·obtain ⟨y,e1,e2,e3,e4,e5,e6⟩:=zja h.ps J h.us;have hc:=zd0 h.ar (λk oE oW ok=>zi9 a p b c x r.fr k S oE oW ok (zfh h.ps));rw [e1] at hc;have C:=h.nb;rw [if_pos J] at C;refine k_E1 19 func50 ?_;refine r9_ ?_;refine cT_ ?_;refine s1_ ?_;refine dr_ [i0_,i1_,i2_,i3_,i4_,i5_,i6_,i7_,o8_] [8] ?_;refine r8_ ?_;refine zac rfl ?_;refine ca_ rfl (hc) ?_;rintro _ V ⟨rfl,I⟩;have U:=zam I h.ow;unfold rdB at U;refine zad ⟨nz_,?_⟩;refine r8_ ?_;refine ⟨_,V.set q (rdB a { r with held:=0 }),rfl,zae,?_⟩;exact ⟨rfl,y,⟨zdj I h.ow _,vf _ _ _,e2,e4,by rw [if_neg (Nat.lt_irrefl 0)];omega⟩,e3,e5,rfl⟩
 have e0:r.held=0:=by omega
 have Q:({ r with held:=0 }:Rd)=r:=by rw [<- e0]
 refine k_E1 19 func50 ?_;refine r9_ ?_;refine cF_ ?_;refine s1_ ?_;refine ⟨_,T,rfl,zae,?_⟩;exact ⟨rfl,x,by rw [Q];exact RdT.refl h⟩
theorem ztL (S:Mem) (a p b c q:Nat) (r:Rd) (x:Pl) (n B:Nat) (T:Mem) (h:RdS S a p b c q r x n B T) (X:r.at_<=4294967296) (hk:1+r.at_ / 64<ns x.d r.nm) (Y:n<16384) (hB:B<x.fr.length) :
  ACall prog 132 #[self q] T λv T'=>v = .bool true /\ ∃ y f,RdT S a p b c q r { r with fr:=f,held:=1+r.at_ / 64 } x y (n+1) B T':=by
 have hq:=zam h.ar h.ow;unfold rdB at hq;by_cases h0:1+r.at_ / 64=r.held
 ·have V:({ r with fr:=r.fr,held:=1+r.at_ / 64 }:Rd)=r:=by rw [h0]
  refine k_E1 51 func132 ?_;refine r24_ ?_;refine rC (vh rfl rfl (zaf (c:=true) (zaJ _ _) (decide_eq_true vd))) ?_;refine r2_ ?_;refine cT_ ?_;refine r7_ ?_;refine ⟨_,T,⟨_,_,rfl,rfl,rfl⟩,zae,?_⟩;exact ⟨rfl,x,r.fr,by rw [V];have:=RdT.refl h;exact ⟨⟨this.s.ar,this.s.ow,this.s.ps.mono (Nat.le_succ n),this.s.us,this.s.nb⟩,this.st,this.ot,this.nm⟩⟩
 have J:=zlu S a p b c q r x n B T h;refine k_E1 51 func132 ?_;refine r24_ ?_;refine rC (vh rfl rfl (zaf (c:=false) (zaJ _ _) (decide_eq_false vd))) ?_;refine r2_ ?_;refine cF_ ?_;refine r5_ ?_;refine ca_ rfl (J) ?_;rintro _ T1 ⟨rfl,y,C⟩;have o1:=zam C.s.ar C.s.ow;unfold rdB at o1;have I:=C.s.nb;rw [if_neg (Nat.lt_irrefl 0)] at I;obtain ⟨z,i,e1,e2,e3,e4,e5,e6,e7⟩:=zoL C.s.ps Y (by rw [C.st.l];omega) (s:=r.nm) (k:=1+r.at_ / 64) (by rw [C.st.n];exact hk) vd C.s.us;have Q:=zd0 C.s.ar (λk oE oW ok=>zoH a p b c y r.nm ((1+r.at_ / 64:Nat):Int) k _ oE oW ok (zfh C.s.ps));rw [e1] at Q;refine r2_ ?_;refine kw_ [0,2,3,15] ?_;refine s1_ ?_;refine dr_ [i0_,i1_,i2_,i3_,i4_,i5_,i6_,i7_,i8_,i9_,i10_,o11_,i12_,i13_,i14_,i15_,i16_,o17_,i18_,i19_,o20_] [11,17,20] ?_;refine r11_ ?_;refine zac rfl ?_;refine ca_ rfl (Q) ?_;rintro _ T2 ⟨rfl,U⟩;have Z:=zam U C.s.ow;unfold rdB at Z;refine zad ⟨nz_,?_⟩;refine r5_ ?_;refine zac rfl ?_;refine s1_ ?_;refine zad ⟨nz_,?_⟩;refine r2_ ?_;refine zac rfl ?_;refine s1_ ?_;refine zad ⟨nz_,?_⟩;refine r12_ ?_;refine cT_ ?_;refine r19_ ?_;refine ⟨_,T2.set q (rdB a { r with fr:=i,held:=1+r.at_ / 64 }),⟨_,_,rfl,rfl,rfl⟩,zae,?_⟩;exact ⟨rfl,z,i,⟨by rw [<- Mem.set_set];exact zdj U C.s.ow _,vf _ _ _,e2,e4,by show nb z.fr<=B+if 0<1+r.at_ / 64 then 1 else 0;rw [if_pos vd];omega⟩,C.st.trans e3,C.ot.trans e5 C.st.l,rfl⟩
end Sto
end
section
open Go.RowKit
open Mv
namespace Mv
def RoFree (M:Mem) (b:Nat):Prop:=∀ a v,M.ro a=some v->a.block≠b
structure Gro (M:Mem) (o:Option (Nat × Nat)) (e:TypeId) (cs:List Value):Prop where
  nil:o=none->cs = []
  own:∀ b c,o=some (b,c)->M.own b=some ⟨e,cs,c⟩/\cs.length<=c/\RoFree M b
def Away (o:Option (Nat × Nat)) (b:Nat):Prop:=∀ q c,o=some (q,c)->q≠b
theorem Gro.empty (M:Mem) (e:tx):Gro M none e []:=⟨λ_=>rfl,λb c h=>by cases h⟩
theorem Gro.set {M:Mem} {o:Option (Nat × Nat)} {e:tx} {cs:List tu} (h:Gro M o e cs) {b:Nat} (r:Blk) (I:Away o b):Gro (M.set b r) o e cs :=
 ⟨h.nil,λq c C=>⟨(vg _ _ (I q c C)).trans (h.own q c C).1,(h.own q c C).2.1,(h.own q c C).2.2⟩⟩
def delo (M:Mem):Option (Nat × Nat)->Mem
  | none=>M
  | some q=>M.del q.1
theorem ztM (M:Mem) (o:Option (Nat × Nat)):(delo M o).ro=M.ro:=by cases o <;> rfl
theorem zfK {M:Mem} {o:Option (Nat × Nat)} {x:Nat} {r:Blk} (C:M.own x=some r) (I:∀ c,o≠some (x,c)):(delo M o).own x=some r:=by
 cases o with
 | none=>exact C
 | some q=>exact (vv _ (λe=>I q.2 (by rw [e]))).trans C
section
variable {P:tz} {N:Nat} {E:Env} {M:Mem} {ops:Array Oper} {ty:tx} {pos:String} {aft:Array Edge}
end
end Mv
end
section
open Go.RowKit
open Mv Disk
namespace Sto
section
variable {P:tz} {N:Nat} {E:Env} {S:Mem} {dst:Option Nat} {ty:tx} {pos:String} {aft:Array Edge} {gd:Option (Nat × Bool)}
theorem uO {x y:tw} {i j:Int} {a b:Nat} {C:Array tx} (J:ev E x=some (.int .i64 i)) (I:ev E y=some (.int .i64 j)) (Q:i=(a:Int)) (hb:j=(b:Int)):ACalm P N ⟨dst,.call ⟨.builtin .min,#[x,y],C⟩,ty,pos,aft,gd⟩ E S (.int .i64 ((min a b:Nat):Int)):=by
 subst Q hb;rcases Nat.le_total a b with h | h
 ·rw [Nat.min_eq_left h];exact Mv.Calm.minL J I vd
 rw [Nat.min_eq_right h];exact Mv.Calm.minR J I vd
end
def byt (x:Pl) (s:tt) (j:Nat):UInt8:=(vw x s ((1+j / 64:Nat):Int)).data.toList.getD (j % 64) 0
def run (x:Pl) (s:tt) (j k:Nat):List UInt8:=(List.range k).map λi=>byt x s (j+i)
theorem zoM (x:Pl) (s:tt) (j k:Nat):(run x s j k).length=k:=by unfold run;simp
theorem ztN (x:Pl) (s:tt) (j k i:Nat):run x s j (k+i)=run x s j k ++ run x s (j+k) i:=by
 unfold run;rw [List.range_add,List.map_append,List.map_map];congr 1;exact List.map_congr_left λa _=>by show byt x s (j+(k+a))=byt x s (j+k+a);rw [Nat.add_assoc]
theorem zvN {x:Pl} {s:tt} {j k:Nat} (V:(vw x s ((1+j / 64:Nat):Int)).size=64) (h:k<=64-j % 64):(((vw x s ((1+j / 64:Nat):Int)).extract (j % 64) 64).extract 0 k).data.toList=run x s j k:=by
 have C:(vw x s ((1+j / 64:Nat):Int)).data.toList.length=64:=by rw [Array.length_toList];exact V
 have e:(((vw x s ((1+j / 64:Nat):Int)).extract (j % 64) 64).extract 0 k).data.toList=((vw x s ((1+j / 64:Nat):Int)).data.toList.drop (j % 64)).take k:=by
  rw [ByteArray.data_extract,ByteArray.data_extract,Array.toList_extract,Array.toList_extract];simp only [List.extract_eq_take_drop,List.drop_zero,Nat.sub_zero];rw [List.take_of_length_le (i:=64-j % 64) (by rw [List.length_drop,C];exact Nat.le_refl _)]
 rw [e];unfold run byt;refine List.ext_getElem (by rw [List.length_take,List.length_drop,List.length_map,List.length_range,C];omega) λi X U=>?_;have I:=U;rw [List.length_map,List.length_range] at I;have J:(j+i) / 64=j / 64:=by omega
 have Q:(j+i) % 64=j % 64+i:=by omega
 rw [List.getElem_take,List.getElem_drop,List.getElem_map,List.getElem_range,J,Q,List.getD_eq_getElem?_getD,List.getElem?_eq_getElem vd];rfl
theorem ztO {S T:Mem} {a p b c:Nat} {x:Pl} {n:Nat} (h:ArS S a p b c x T) (C:Ps x n) {j:Nat} (I:j<x.fr.length) :
  ACall prog 133 #[.pointer (some ⟨a,0,none⟩),.int .i64 (j:Nat)] T λr S'=>r = .string (atF x j).data/\S'=T:=by
 obtain ⟨k,oE,oW,ok,rfl⟩:=h;exact zq0 a p b c x j k _ za0 (zkl ok.ab ok.l C.l2) I
theorem RdT.mono {S:Mem} {a p b c q:Nat} {r r':Rd} {x y:Pl} {n n' B:Nat} {T:Mem} (h:RdT S a p b c q r r' x y n B T) (k:n<=n'):RdT S a p b c q r r' x y n' B T:=⟨⟨h.s.ar,h.s.ow,h.s.ps.mono k,h.s.us,h.s.nb⟩,h.st,h.ot,h.nm⟩
theorem RdT.seek {S:Mem} {a p b c q:Nat} {r r':Rd} {x y:Pl} {n B:Nat} {T:Mem} (h:RdT S a p b c q r r' x y n B T) (j:Nat):RdT S a p b c q r { r' with at_:=j } x y n B (T.set q (rdB a { r' with at_:=j })) :=
 ⟨⟨by have:=zdj h.s.ar h.s.ow (rdB a { r' with at_:=j });rwa [Mem.set_set] at this,vf _ _ _,h.s.ps,h.s.us,h.s.nb⟩,h.st,h.ot,h.nm⟩
structure BX where
  T:Mem
  y:Pl
  f:Nat
  hd:Nat
  k:Nat
  b:Nat
  c:Nat
theorem zlv (S:Mem) (a p b c q:Nat) (r:Rd) (x:Pl) (n B m:Nat) (T:Mem) (h:RdS S a p b c q r x n B T) (aD:0<m) (hm:m<=4096) (aE:r.at_+m<=4294967296) (hk:1+(r.at_+m-1) / 64<ns x.d r.nm) (hn:n+m<=16384) (hB:B<x.fr.length) :
  ACall prog 86 #[self q,.int .i64 (m:Nat)] T λv T'=>∃ y f hd M g c',v = .tuple #[.slice (some ⟨g,0,none⟩) m c',.bool true]/\m<=c'/\Fresh M g/\T'=M.set g ⟨5,cellsB (run x r.nm r.at_ m),c'⟩/\RdT S a p b c q r { r with at_:=r.at_+m,fr:=f,held:=hd } x y (n+m) B M:=by
 refine k_E2 54 func86 ?_;refine r9_ ?_;refine vY (zab rfl) zbp rfl rfl vd vd vd vd ?_;intro ax af;have I:=af
 repeat ((with_reducible replace I:=zaa I);obtain ⟨I,_⟩:=I)
 refine r5_ ?_;refine AWP.loop (X:=BX) (λX=>[(0,self q),(1,.int .i64 (m:Nat)),(6,.slice (some ⟨X.b,0,none⟩) X.k X.c)]) (λX=>X.T.set X.b ⟨5,cellsB (run x r.nm r.at_ X.k),X.c⟩) (λX=>RdT S a p b c q r { r with at_:=r.at_+X.k,fr:=X.f,held:=X.hd } x X.y (n+X.k) B X.T/\Fresh X.T X.b/\X.k<=m/\X.k<=X.c) (λX=>m-X.k) (⟨T,x,r.fr,r.held,0,ax,m⟩) ⟨rfl,rfl,rfl,trivial⟩ (zgm (by rw [show ((m:Nat):Int).toNat*1=m from by omega,zbw];rfl)) (⟨RdT.refl h,af,Nat.zero_le _,Nat.zero_le _⟩) ?_;rintro ⟨M,y,f,hd,k,g,cc⟩ ⟨U,hf,ae,Z⟩;(try dsimp only at *);replace U:RdT S a p b c q r { r with at_:=r.at_+k,fr:=f,held:=hd } x y (n+k) B M:=U;replace hf:Fresh M g:=hf;replace ae:k<=m:=ae;replace Z:k<=cc:=Z;by_cases q1:k<m
 ·have hs:1+(r.at_+k) / 64<ns x.d r.nm:=by omega
  have hh:=(ztL (S.set q (rdB a { r with at_:=r.at_+k,fr:=f,held:=hd })) a p b c q _ y (n+k) B M U.s (by show r.at_+k<=_;omega) (by rw [U.st.n];exact hs) vd (by rw [U.st.l];exact hB)).frame (r:=⟨5,cellsB (run x r.nm r.at_ k),cc⟩) hf;refine r9_ ?_;refine cT_ ?_;refine r7_ ?_;refine ca_ rfl (hh) ?_;rintro _ S1 ⟨Sa,⟨rfl,z,f',hU⟩,V,h1⟩;rw [h1];clear h1 S1;have J:RdT S a p b c q r { r with at_:=r.at_+k,fr:=f',held:=1+(r.at_+k) / 64 } x z (n+k+1) B Sa:=U.trans hU;have C:=zam J.s.ar J.s.ow
  (unfold rdB at C;dsimp only at C)
  have au:q≠g:=λe=>by rw [e] at C;rw [V.1] at C;cases C
  have o1:=(vg Sa ⟨5,cellsB (run x r.nm r.at_ k),cc⟩ au).trans C;obtain ⟨aj,an⟩:=J.s.us.at_ (Nat.add_comm _ 1 ▸ Nat.succ_pos _);have hD:(atF z f').data=vw x r.nm ((1+(r.at_+k) / 64:Nat):Int):=by rw [<- zgN J.s.ps aj an];exact J.st.v _ _ hs
  have ag:=(ztO J.s.ar J.s.ps aj).frame (r:=⟨5,cellsB (run x r.nm r.at_ k),cc⟩) V;rw [hD] at ag;have hz:=zkm h.ps hs;have ac:=λkk=>zvN (k:=kk) hz;generalize vw x r.nm ((1+(r.at_+k) / 64:Nat):Int)=D at *;have hE:(D.extract ((r.at_+k) % 64) 64).size=64-(r.at_+k) % 64:=by rw [ByteArray.size_extract,hz];rfl
  refine r3_ ?_;refine cF_ ?_;refine r3_ ?_;refine dr_ [i0_,i1_,i2_,i3_,i4_,i5_,i6_,i7_,i9_,i10_,i11_,i12_,i13_,o8_,i14_,i15_] [] ?_;refine r13_ ?_;refine zac rfl ?_;refine ca_ rfl (ag) ?_;rintro _ S1 ⟨Sb,⟨rfl,az⟩,_,h1⟩;rw [h1,az];clear h1 S1;refine zad ⟨ny_,?_⟩;refine zin rfl rfl rfl rfl (zab rfl) (λ_=>vU underlying9 rfl (h:=64) (l:=(r.at_+k) % 64) (by rw [hz];exact zbb _ _) ⟨_,_,rfl,by omega,by omega,by omega⟩) ?_;generalize D.extract ((r.at_+k) % 64) 64=W at *;refine r11_ ?_;refine rC (uO (a:=64-(r.at_+k) % 64) (b:=m-k) rfl rfl vd vd) ?_;have aq:min (64-(r.at_+k) % 64) (m-k)<=64-(r.at_+k) % 64:=Nat.min_le_left _ _;have aG:min (64-(r.at_+k) % 64) (m-k)<=m-k:=Nat.min_le_right _ _;have aJ:0<min (64-(r.at_+k) % 64) (m-k):=Nat.lt_min.2 ⟨by omega,by omega⟩;have aw:=ac _ aq;generalize min (64-(r.at_+k) % 64) (m-k)=K at *;have ao:(W.extract 0 K).size=K:=by rw [ByteArray.size_extract,hE];omega
  refine r3_ ?_;refine kw_ [0,1,6,14,17,7,8] ?_;refine r5_ ?_;refine rC (vU underlying9 rfl (h:=K) (l:=0) ⟨_,_,rfl,by omega,by omega,by omega⟩ (zbb _ _)) ?_;generalize W.extract 0 K=Y at *;refine ug (zab rfl) zbp zaE rfl (vf _ _ _) (by rw [zaD,zoM]) rfl vd vd ?_;intro ai ah Q aA;rw [Mem.del_set _ _ _ V.1] at Q ⊢;rw [aw,ao,<- zeD,<- ztN];have aa:q≠ai:=λe=>by rw [e] at C;rw [Q.1] at C;cases C
  have o2:=(vg Sa ⟨5,cellsB (run x r.nm r.at_ (k+K)),ah⟩ aa).trans C;refine r16_ ?_;refine ⟨⟨Sa.set q (rdB a { r with at_:=r.at_+(k+K),fr:=f',held:=1+(r.at_+k) / 64 }),z,f',1+(r.at_+k) / 64,k+K,ai,ah⟩,?_,?_,?_,?_⟩<;>try dsimp only
  ·exact ⟨rfl,rfl,rfl,trivial⟩
  ·(rw [vr _ _ _ aa];unfold rdB;dsimp only;rw [show ((r.at_+(k+K):Nat):Int)=((r.at_+k:Nat):Int)+(K:Int) from by omega];exact Mem.Less.refl _)
  ·exact ⟨((J.mono vd).seek (r.at_+(k+K))),zai Q (Ne.symm aa),by omega,by omega⟩
  omega
 obtain rfl:k=m:=by omega
 refine r9_ ?_;refine cF_ ?_;refine r13_ ?_;refine ⟨_,M.set g ⟨5,cellsB (run x r.nm r.at_ k),cc⟩,⟨_,_,rfl,⟨_,_,rfl,rfl,rfl⟩,rfl⟩,zae,?_⟩;exact ⟨y,f,hd,M,g,cc,rfl,Z,hf,rfl,U⟩
end Sto
end
section
open Go.RowKit
open Mv Disk
namespace Sto
theorem zmV {t u:tt} {a:Nat} (h:a+u.size<=t.size):(fillS t (a:Int) u).data.toList=t.data.toList.take a ++ (u.data.toList ++ t.data.toList.drop (a+u.size)):=by
 unfold fillS;have C:t.data.toList.length=t.size:=Array.length_toList;rw [ByteArray.data_append,ByteArray.data_append,ByteArray.data_extract,ByteArray.data_extract,Array.toList_append,Array.toList_append,Array.toList_extract,Array.toList_extract,Int.toNat_natCast];simp only [List.extract_eq_take_drop,List.drop_zero,Nat.sub_zero,List.append_assoc];rw [List.take_of_length_le (i:=t.size-(a+u.size)) (by rw [List.length_drop,C];exact Nat.le_refl _)]
theorem zoN {t u:tt} {a i:Nat} (h:a+u.size<=t.size):(fillS t (a:Int) u).data.toList.getD i 0=if a<=i/\i<a+u.size then u.data.toList.getD (i-a) 0 else t.data.toList.getD i 0:=by
 rw [zmV h];have C:t.data.toList.length=t.size:=Array.length_toList;have J:u.data.toList.length=u.size:=Array.length_toList;simp only [List.getD_eq_getElem?_getD];by_cases I:i<a
 ·rw [if_neg vd,List.getElem?_append_left (by rw [List.length_take,C];omega),List.getElem?_take_of_lt I]
 rw [List.getElem?_append_right (by rw [List.length_take,C];omega),List.length_take,C,Nat.min_eq_left vd];by_cases Q:i<a+u.size
 ·rw [if_pos vd,List.getElem?_append_left vd]
 rw [if_neg vd,List.getElem?_append_right vd,J,List.getElem?_drop];congr 2;omega
structure Near (x y:Pl) (s:ByteArray):Prop where
  l:y.fr.length=x.fr.length
  z:y.d.size=x.d.size
  u:used y.d.ext=used x.d.ext
  n:∀ o,ns y.d o=ns x.d o
  v:∀ o (k:Nat),o≠s->k<ns x.d o->vw y o (k:Int)=vw x o (k:Int)
theorem Near.of {x y:Pl} (h:Stays x y) (s:tt):Near x y s:=⟨h.l,h.z,h.u,h.n,λo k _ hk=>h.v o k hk⟩
theorem Near.trans {x y z:Pl} {s:tt} (h:Near x y s) (g:Near y z s):Near x z s:=⟨g.l.trans h.l,g.z.trans h.z,g.u.trans h.u,λo=>(g.n o).trans (h.n o),λo k C hk=>(g.v o k C (by rw [h.n];exact hk)).trans (h.v o k C hk)⟩
def Wrote (x:Pl) (s:tt) (L:List UInt8):Prop:=∀ j,1+j / 64<ns x.d s->byt x s j=L.getD j 0
theorem Wrote.stays {x y:Pl} {s:tt} {L:List UInt8} (h:Wrote x s L) (g:Stays x y):Wrote y s L:=λj C=>by
 rw [g.n] at C;rw [<- h j C];unfold byt;rw [g.v s _ C]
theorem Wrote.near {x y:Pl} {s o:tt} {L:List UInt8} (h:Wrote x s L) (g:Near x y o) (I:s≠o):Wrote y s L:=λj C=>by
 rw [g.n] at C;rw [<- h j C];unfold byt;rw [g.v s _ I C]
theorem Wrote.fill {x y:Pl} {n:Nat} {s u:tt} {L:List UInt8} (V:Ps x n) (h:Wrote x s L) (X:∀ o,ns y.d o=ns x.d o) (hk:1+L.length / 64<ns x.d s) (Y:L.length % 64+u.size<=64)
  (U:∀ o (j:Nat),j<ns x.d o->vw y o (j:Int)=if s=o/\1+L.length / 64=j then fillS (vw x s ((1+L.length / 64:Nat):Int)) ((L.length % 64:Nat):Int) u else vw x o (j:Int)):Wrote y s (L ++ u.data.toList):=λj I=>by
 rw [X] at I;have Z:u.data.toList.length=u.size:=Array.length_toList;have hz:=zkm V hk;have C:=h j I;unfold byt at C ⊢;rw [U s _ I,List.getD_eq_getElem?_getD (l:=L ++ u.data.toList)];rw [List.getD_eq_getElem?_getD (l:=L)] at C;by_cases q:1+L.length / 64=1+j / 64
 ·rw [if_pos ⟨rfl,q⟩,zoN (by rw [hz];exact Y)];by_cases Q:L.length % 64<=j % 64/\j % 64<L.length % 64+u.size
  ·rw [if_pos Q,List.getElem?_append_right vd,List.getD_eq_getElem?_getD,show j % 64-L.length % 64=j-L.length from by omega]
  rw [if_neg Q,q,C];by_cases J:j<L.length
  ·rw [List.getElem?_append_left J]
  rw [List.getElem?_eq_none vd,List.getElem?_eq_none (by rw [List.length_append];omega)]
 rw [if_neg (λe=>q e.2),C];by_cases J:j<L.length
 ·rw [List.getElem?_append_left J]
 rw [List.getElem?_eq_none vd,List.getElem?_eq_none (by rw [List.length_append];omega)]
end Sto
end
section
open Go.RowKit
open Mv Disk
namespace Sto
structure Wt where
  nm:tt
  w:Nat
  ct:Nat
  at_:Nat
  fr:Nat
  held:Nat
def wtB (a:Nat) (r:Wt):Blk:=⟨163,[.pointer (some ⟨a,0,none⟩),.string r.nm,.int .i64 (r.w:Nat),.int .u64 (r.ct:Nat),.int .i64 (r.at_:Nat),.int .i64 (r.fr:Nat),.int .i64 (r.held:Nat)],7⟩
structure WtS (S:Mem) (a p b c q:Nat) (r:Wt) (x:Pl) (n B:Nat) (L:List UInt8) (T:Mem):Prop where
  ar:ArS S a p b c x T
  ow:S.own q=some (wtB a r)
  ps:Ps x n
  us:Use x r.nm r.fr r.held
  nb:nb x.fr<=B+if 0<r.held then 1 else 0
  at_:r.at_=L.length
  wr:Wrote x r.nm L
structure WtT (S:Mem) (a p b c q:Nat) (r r':Wt) (x y:Pl) (n' B:Nat) (L:List UInt8) (T':Mem):Prop where
  s:WtS (S.set q (wtB a r')) a p b c q r' y n' B L T'
  st:Near x y r.nm
  ot:Oth x y r.nm
  nm:r'.nm=r.nm
theorem WtT.refl {S:Mem} {a p b c q:Nat} {r:Wt} {x:Pl} {n B:Nat} {L:List UInt8} {T:Mem} (h:WtS S a p b c q r x n B L T):WtT S a p b c q r r x x n B L T:=⟨by rw [vB _ _ _ h.ow];exact h,Near.of (Stays.refl _) _,Oth.refl _ _,rfl⟩
theorem WtT.trans {S:Mem} {a p b c q:Nat} {r r' C:Wt} {x y z:Pl} {n n' B:Nat} {L L':List UInt8} {T T':Mem} (h:WtT S a p b c q r r' x y n B L T) (g:WtT (S.set q (wtB a r')) a p b c q r' C y z n' B L' T'):WtT S a p b c q r C x z n' B L' T' :=
 ⟨by have:=g.s;rw [Mem.set_set] at this;exact this,h.st.trans (by rw [<- h.nm];exact g.st),h.ot.trans (by rw [<- h.nm];exact g.ot) h.st.l,g.nm.trans h.nm⟩
theorem WtT.mono {S:Mem} {a p b c q:Nat} {r r':Wt} {x y:Pl} {n n' B:Nat} {L:List UInt8} {T:Mem} (h:WtT S a p b c q r r' x y n B L T) (k:n<=n'):WtT S a p b c q r r' x y n' B L T:=⟨⟨h.s.ar,h.s.ow,h.s.ps.mono k,h.s.us,h.s.nb,h.s.at_,h.s.wr⟩,h.st,h.ot,h.nm⟩
theorem zlw (S:Mem) (a p b c q:Nat) (r:Wt) (x:Pl) (n B:Nat) (L:List UInt8) (T:Mem) (h:WtS S a p b c q r x n B L T) :
  ACall prog 89 #[self q] T λv T'=>v = .tuple #[] /\ ∃ y,WtT S a p b c q r { r with held:=0 } x y n B L T':=by
 have X:=zam h.ar h.ow;unfold wtB at X;by_cases J:0<r.held
 ·obtain ⟨y,e1,e2,e3,e4,e5,e6⟩:=zja h.ps J h.us;have hc:=zd0 h.ar (λk oE oW ok=>zi9 a p b c x r.fr k S oE oW ok (zfh h.ps));rw [e1] at hc;have C:=h.nb;rw [if_pos J] at C;refine k_E1 19 func89 ?_;refine r9_ ?_;refine cT_ ?_;refine s1_ ?_;refine dr_ [i0_,i1_,i2_,i3_,i4_,i5_,i6_,i7_,o8_] [8] ?_;refine r8_ ?_;refine zac rfl ?_;refine ca_ rfl (hc) ?_;rintro _ V ⟨rfl,I⟩;have U:=zam I h.ow;unfold wtB at U;refine zad ⟨nz_,?_⟩;refine r8_ ?_;refine ⟨_,V.set q (wtB a { r with held:=0 }),rfl,zae,?_⟩;exact ⟨rfl,y,⟨zdj I h.ow _,vf _ _ _,e2,e4,by rw [if_neg (Nat.lt_irrefl 0)];omega,h.at_,h.wr.stays e3⟩,Near.of e3 _,e5,rfl⟩
 have e0:r.held=0:=by omega
 have Q:({ r with held:=0 }:Wt)=r:=by rw [<- e0]
 refine k_E1 19 func89 ?_;refine r9_ ?_;refine cF_ ?_;refine s1_ ?_;refine ⟨_,T,rfl,zae,?_⟩;exact ⟨rfl,x,by rw [Q];exact WtT.refl h⟩
end Sto
end
section
open Go.RowKit
open Mv Disk
namespace Sto
theorem zoO {S:Mem} {g c:Nat} {e:tx} {Y:List UInt8} (h:S.own g=some ⟨e,cellsB Y,c⟩) (o K:Nat):S.rds ⟨g,o,none⟩ (cellsB ((Y.drop o).take K)):=λj v C=>by
 rw [zaz,zeq h];unfold cellsB at C ⊢;rw [List.getElem?_map] at C ⊢;by_cases q:j<K
 ·rw [List.getElem?_take_of_lt q,List.getElem?_drop] at C;exact C
 rw [List.getElem?_eq_none (by rw [List.length_take];omega)] at C;cases C
theorem zq5 {p q:Pl} {i a:Int} {u:tt} (h:fillP p i a u=(q,0)):q=setP p i.toNat { atF p i.toNat with data:=fillS (atF p i.toNat).data a u,dirty:=true }:=by
 unfold fillP at h;split at h
 ·exact (Prod.mk.inj h).1.symm
 rename_i C;exact absurd (Prod.mk.inj h).2 C
theorem WtT.pin {S:Mem} {a p b c q:Nat} {r r':Wt} {x z C:Pl} {n B i k:Nat} {L:List UInt8} {U J:Mem} (I:WtT S a p b c q r r' x z n B L U) (V:ArS (S.set q (wtB a r')) a p b c C J) (e2:Ps C (n+1)) (e3:Stays z C) (e4:Use C r.nm i k) (e5:Oth z C r.nm) (e7:nb C.fr<=nb z.fr+1) (hk:0<k) (X:r'.held=0) :
  WtT S a p b c q r { r' with fr:=i,held:=k } x C (n+1) B L (J.set q (wtB a { r' with fr:=i,held:=k })):=by
 have Q:=I.nm;have hb:=I.s.nb;rw [X,if_neg (Nat.lt_irrefl 0)] at hb;refine ⟨⟨by have:=zdj V (vf _ _ _) (wtB a { r' with fr:=i,held:=k });rwa [Mem.set_set] at this,vf _ _ _,e2,by show Use C r'.nm i k;rw [Q];exact e4,by show nb C.fr<=B+if 0<k then 1 else 0;rw [if_pos hk];omega,I.s.at_,by show Wrote C r'.nm L;exact I.s.wr.stays e3⟩,I.st.trans (Near.of e3 _),I.ot.trans e5 I.st.l,Q⟩
theorem WtT.fill {S:Mem} {a p b c q:Nat} {r r':Wt} {x z:Pl} {n B:Nat} {L:List UInt8} {Sa:Mem} (C:WtT S a p b c q r r' x z n B L Sa) (hh:r'.held=1+r'.at_ / 64) (u:tt) (Y:r'.at_ % 64+u.size<=64) (hk:1+r'.at_ / 64<ns x.d r.nm) :
  ∃ U,∀ Z,ArS (S.set q (wtB a r')) a p b c (setP z r'.fr { atF z r'.fr with data:=fillS (atF z r'.fr).data ((r'.at_ % 64:Nat):Int) u,dirty:=true }) Z ->
   WtT S a p b c q r { r' with at_:=r'.at_+u.size } x U n B (L ++ u.data.toList) (Z.set q (wtB a { r' with at_:=r'.at_+u.size })):=by
 have h0:0<r'.held:=by omega
 have I:=C.nm;have J:=C.s.at_;obtain ⟨U,g1,g2,g3,X,g5,g6,g7,V⟩:=zq4 C.s.ps h0 C.s.us Y;have hz:=zq5 g1;rw [Int.toNat_natCast] at hz;refine ⟨U,λZ hA=>?_⟩;rw [<- hz] at hA;have Q:1+r'.at_ / 64<ns z.d r.nm:=by rw [C.st.n];exact hk
 rw [I,hh] at V;have hb:=C.s.nb;refine ⟨⟨by have:=zdj hA (vf _ _ _) (wtB a { r' with at_:=r'.at_+u.size });rwa [Mem.set_set] at this,vf _ _ _,g2,g5,by show nb U.fr<=B+if 0<r'.held then 1 else 0;rw [g7];exact hb,by show r'.at_+u.size=_;rw [List.length_append,J,Array.length_toList];rfl,?_⟩,C.st.trans ⟨g3,by rw [X],by rw [X],λo=>by rw [X],λo k ho aa=>by rw [V o k aa,if_neg (λe=>ho e.1.symm)]⟩,C.ot.trans (by rw [<- I];exact g6) C.st.l,I⟩;show Wrote U r'.nm _;rw [I];have hw:=C.s.wr;rw [I] at hw;rw [J] at V Q Y;exact hw.fill C.s.ps (λo=>by rw [X]) Q Y V
structure RX where
  T:Mem
  y:Pl
  f:Nat
  hd:Nat
  k:Nat
  o:Nat
theorem zsF (S:Mem) (a p b c q:Nat) (r:Wt) (x:Pl) (n B:Nat) (L Y:List UInt8) (g cc:Nat) (T:Mem) (h:WtS S a p b c q r x n B L T) (hg:Fresh T g) (aL:Y.length<=cc) (hm:Y.length<=4096) (aE:r.at_+Y.length<=4294967296) (hk:1+(r.at_+Y.length-1) / 64<ns x.d r.nm) (hn:n+Y.length<=16384) (hB:B<x.fr.length) :
  ACall prog 87 #[self q,.slice (some ⟨g,0,none⟩) Y.length cc] (T.set g ⟨5,cellsB Y,cc⟩) λv T'=>v = .int .i64 0 /\ ∃ y f hd M,Fresh M g/\T'=M.set g ⟨5,cellsB Y,cc⟩/\WtT S a p b c q r { r with at_:=r.at_+Y.length,fr:=f,held:=hd } x y (n+Y.length) B (L ++ Y) M:=by
 refine k_E2 86 func87 ?_;refine r7_ ?_;refine AWP.loop (X:=RX) (λX=>[(0,self q),(1,.slice (some ⟨g,X.o,none⟩) (Y.length-X.k) (cc-X.k))]) (λX=>X.T.set g ⟨5,cellsB Y,cc⟩) (λX=>WtT S a p b c q r { r with at_:=r.at_+X.k,fr:=X.f,held:=X.hd } x X.y (n+X.k) B (L ++ Y.take X.k) X.T/\Fresh X.T g/\X.k<=Y.length/\(X.k<Y.length->X.o=X.k)) (λX=>Y.length-X.k) (⟨T,x,r.fr,r.held,0,0⟩) ⟨rfl,rfl,trivial⟩ (Mem.Less.refl _) (⟨by rw [List.take_zero,List.append_nil];exact WtT.refl h,hg,Nat.zero_le _,λ_=>rfl⟩) ?_;rintro ⟨M,y,f,hd,k,o⟩ ⟨Z,hf,ai,av⟩;(try dsimp only at *);replace Z:WtT S a p b c q r { r with at_:=r.at_+k,fr:=f,held:=hd } x y (n+k) B (L ++ Y.take k) M:=Z;replace hf:Fresh M g:=hf;replace ai:k<=Y.length:=ai;by_cases q1:k<Y.length
 ·obtain rfl:=av q1;have hs:1+(r.at_+o) / 64<ns x.d r.nm:=by omega
  have U:=zam Z.s.ar Z.s.ow
  (unfold wtB at U;dsimp only at U)
  have I:q≠g:=λe=>by rw [e,hf.1] at U;cases U
  have o0:=(vg M ⟨5,cellsB Y,cc⟩ I).trans U;refine r8_ ?_;refine cT_ ?_;refine r25_ ?_;refine AWP.join (X:=Mem × Pl × Nat) (λX=>[(0,self q),(1,.slice (some ⟨g,o,none⟩) (Y.length-o) (cc-o))]) (λX=>X.1.set g ⟨5,cellsB Y,cc⟩) (λX=>WtT S a p b c q r { r with at_:=r.at_+o,fr:=X.2.2,held:=1+(r.at_+o) / 64 } x X.2.1 (n+o+1) B (L ++ Y.take o) X.1/\Fresh X.1 g) ?_ ?_
  ·by_cases q2:1+(r.at_+o) / 64=hd
   ·subst q2;refine cF_ ?_;refine s1_ ?_;refine ⟨(M,y,f),?_,?_,?_⟩<;>try dsimp only
    ·exact ⟨Z.mono (Nat.le_succ _),hf⟩
    ·exact ⟨rfl,rfl,trivial⟩
    exact Mem.Less.refl _
   have aw:=(zlw (S.set q (wtB a { r with at_:=r.at_+o,fr:=f,held:=hd })) a p b c q _ y (n+o) B _ M Z.s).frame (r:=⟨5,cellsB Y,cc⟩) hf;refine cT_ ?_;refine r3_ ?_;refine ca_ rfl (aw) ?_;rintro _ S1 ⟨Sa,⟨rfl,z,hU⟩,V,h1⟩;rw [h1];clear h1 S1;have C:WtT S a p b c q r { r with at_:=r.at_+o,fr:=f,held:=0 } x z (n+o) B (L ++ Y.take o) Sa:=Z.trans hU;have Q:=zam C.s.ar C.s.ow
   (unfold wtB at Q;dsimp only at Q)
   have o1:=(vg Sa ⟨5,cellsB Y,cc⟩ I).trans Q;have aj:=C.s.nb;rw [if_neg (Nat.lt_irrefl 0)] at aj;obtain ⟨z2,i,e1,e2,e3,e4,e5,e6,e7⟩:=zoL C.s.ps vd (by rw [C.st.l];omega) (s:=r.nm) (k:=1+(r.at_+o) / 64) (by rw [C.st.n];exact hs) vd C.s.us;have hp:=(zd0 C.s.ar (λk oE oW ok=>zoH a p b c z r.nm ((1+(r.at_+o) / 64:Nat):Int) k _ oE oW ok (zfh C.s.ps))).frame (r:=⟨5,cellsB Y,cc⟩) V;rw [e1] at hp;refine r3_ ?_;refine dr_ [i0_,i1_,i2_,i3_,i4_,i5_,i6_,i7_,i8_,o9_,i10_,i11_,i12_,i13_,i14_] [9] ?_;refine r9_ ?_;refine zac rfl ?_;refine ca_ rfl (hp) ?_;rintro _ S1 ⟨Sb,⟨rfl,h2⟩,ad,h1⟩;rw [h1];clear h1 S1;have J:=zam h2 (vf _ _ _)
   (unfold wtB at J;dsimp only at J)
   have o2:=(vg Sb ⟨5,cellsB Y,cc⟩ I).trans J;refine zad ⟨nz_,?_⟩;refine r7_ ?_;refine kw_ [0,1,12,5,24,6,7] ?_;refine r7_ ?_;refine cF_ ?_;refine r14_ ?_;refine ⟨(Sb.set q (wtB a { r with at_:=r.at_+o,fr:=i,held:=1+(r.at_+o) / 64 }),z2,i),?_,?_,?_⟩<;>try dsimp only
   ·exact ⟨C.pin h2 e2 e3 e4 e5 e7 vd rfl,zai ad (Ne.symm I)⟩
   ·exact ⟨rfl,rfl,trivial⟩
   (rw [vr _ _ _ I];unfold wtB;dsimp only;exact Mem.Less.refl _)
  rintro ⟨Sa,z,f'⟩ ⟨C,V⟩;intro _ _ ak al;(try dsimp only at *);refine zbO ?_;refine AWP.sub _ ak (AWP.less _ al ?_);clear ak al;replace C:WtT S a p b c q r { r with at_:=r.at_+o,fr:=f',held:=1+(r.at_+o) / 64 } x z (n+o+1) B (L ++ Y.take o) Sa:=C;replace V:Fresh Sa g:=V;have Q:=zam C.s.ar C.s.ow
  (unfold wtB at Q;dsimp only at Q)
  have o1:=(vg Sa ⟨5,cellsB Y,cc⟩ I).trans Q;refine r16_ ?_;refine rC (uO (a:=Y.length-o) (b:=64-(r.at_+o) % 64) rfl rfl vd vd) ?_;have aF:min (Y.length-o) (64-(r.at_+o) % 64)<=Y.length-o:=Nat.min_le_left _ _;have aJ:min (Y.length-o) (64-(r.at_+o) % 64)<=64-(r.at_+o) % 64:=Nat.min_le_right _ _;have aN:0<min (Y.length-o) (64-(r.at_+o) % 64):=Nat.lt_min.2 ⟨by omega,by omega⟩;generalize min (Y.length-o) (64-(r.at_+o) % 64)=K at *;have ah:((Y.drop o).take K).length=K:=by rw [List.length_take,List.length_drop];omega
  have ac:(bs ((Y.drop o).take K)).size=K:=by rw [za2];exact ah
  obtain ⟨am,au⟩:=C.s.us.at_ (Nat.add_comm _ 1 ▸ Nat.succ_pos _);obtain ⟨z2,hF⟩:=C.fill rfl (bs ((Y.drop o).take K)) (by rw [ac];show (r.at_+o) % 64+K<=64;omega) hs;have ax:=(zd0 C.s.ar (λk oE oW ok=>zq1 a p b c z f' (((r.at_+o) % 64:Nat):Int) (bs ((Y.drop o).take K)) k _ oE oW ok (zfh C.s.ps) am (zcc (C.s.ps.ok _ am) (zak.1 au).1).z vd (by rw [ac];omega))).frame (r:=⟨5,cellsB Y,cc⟩) V;refine r4_ ?_;refine dr_ [i0_,i1_,i2_,i3_,i4_,i5_,i6_,i7_,i8_,i9_,i10_,i11_,i12_,o13_] [13] ?_;refine r11_ ?_;refine dP (hc:=λ_=>vK K underlying71 zco rfl rfl vd vd) (h:=?_);refine dC (hc:=vW zbi zaE rfl ah (zoO (vf _ _ _) o K)) (h:=?_);refine zac rfl ?_;refine ca_ rfl (ax) ?_;rintro _ S1 ⟨Sb,⟨rfl,h2⟩,ad,h1⟩;rw [h1];clear h1 S1;have J:=zam h2 (vf _ _ _)
  (unfold wtB at J;dsimp only at J)
  have o2:=(vg Sb ⟨5,cellsB Y,cc⟩ I).trans J;have hW:=hF Sb h2;rw [ac,bs_data,List.append_assoc,show Y.take o ++ (Y.drop o).take K=Y.take (o+K) from (List.take_add ..).symm] at hW;refine zad ⟨nz_,?_⟩;refine r15_ ?_;refine kw_ [0,1,8,9] ?_;refine r3_ ?_;refine rC (vT underlying71 zco rfl (zbb (cc-o) (cc-o)) (by simp) (zbb (Y.length-o) (cc-o)) (l:=K) ⟨_,_,rfl,by omega,by omega,by omega⟩) ?_;refine r4_ ?_;refine ⟨⟨Sb.set q (wtB a { r with at_:=r.at_+o+K,fr:=f',held:=1+(r.at_+o) / 64 }),z2,f',1+(r.at_+o) / 64,o+K,if cc-o=K then o else o+K*1⟩,?_,?_,?_,?_⟩<;>try dsimp only
  ·(refine ⟨rfl,?_,trivial⟩;rw [Nat.sub_add_eq,Nat.sub_add_eq];rfl)
  ·(rw [vr _ _ _ I];unfold wtB;dsimp only;rw [show ((r.at_+o+K:Nat):Int)=((r.at_+o:Nat):Int)+(K:Int) from by omega];exact Mem.Less.refl _)
  ·exact ⟨by rw [<- Nat.add_assoc r.at_];exact hW.mono vd,zai ad (Ne.symm I),by omega,λaK=>by rw [if_neg vd];omega⟩
  omega
 obtain rfl:k=Y.length:=by omega
 rw [List.take_length] at Z;refine r8_ ?_;refine cF_ ?_;refine r11_ ?_;refine ⟨_,_,⟨_,_,rfl,rfl,rfl⟩,Mem.Less.refl _,?_⟩;exact ⟨rfl,y,f,hd,M,hf,rfl,Z⟩
end Sto
end
section
open Go.RowKit
open Mv Disk Num
namespace Sto
theorem WtT.count {S:Mem} {a p b c q:Nat} {r:Wt} {x:Pl} {n B:Nat} {L:List UInt8} {T:Mem} (h:WtS S a p b c q r x n B L T) (k:Nat):WtT S a p b c q r { r with ct:=k } x x n B L (T.set q (wtB a { r with ct:=k })) :=
 ⟨⟨zdj h.ar h.ow _,vf _ _ _,h.ps,h.us,h.nb,h.at_,h.wr⟩,Near.of (Stays.refl _) _,Oth.refl _ _,rfl⟩
theorem zvO (S:Mem) (a p b c q:Nat) (r:Wt) (x:Pl) (n B:Nat) (L:List UInt8) (v:tu) (xs:List Nat) (T:Mem) (h:WtS S a p b c q r x n B L T) (hv:RowR T v xs) (U:1<=xs.length) (h8:xs.length<=8) (hb:∀ x ∈ xs,x<18446744073709551616) (ax:r.ct<=4294967296) (ag:r.at_+5*xs.length<=4294967296) (hk:1+(r.at_+5*xs.length-1) / 64<ns x.d r.nm) (hn:n+5*xs.length<=16384) (hB:B<x.fr.length) :
  ACall prog 49 #[self q,v] T λrv T'=>rv = .int .i64 0 /\ ∃ y f hd,WtT S a p b c q r { r with ct:=r.ct+1,at_:=r.at_+5*xs.length,fr:=f,held:=hd } x y (n+5*xs.length) B (L ++ recB xs) T':=by
 obtain ⟨pa,cap,rfl,aE,an,Z⟩:=id hv;obtain ⟨b0,off,rfl,ah⟩:=Z.resolve_left (by intro h;rw [h] at U;simp at U);have hC:=WtT.count h (r.ct+1);have hq:=zam h.ar h.ow;unfold wtB at hq;refine k_E2 35 func49 ?_;refine r10_ ?_;refine vY (zab rfl) zbp rfl rfl vd vd vd vd ?_;intro b12 al;have C:=al
 repeat ((with_reducible replace C:=zaa C);obtain ⟨C,_⟩:=C)
 have:=C.ne hq;have:=C.ne' hq
 refine r3_ ?_;have em:(5*(xs.length:Int)).toNat=5*xs.length:=by omega
 simp only [em,Nat.mul_one,zbw,Int.toNat_zero,List.replicate_zero];refine r9_ ?_;refine AWP.loop (X:=Nat × Option (Nat × Nat)) (λx=>[(0,self q),(5,outV x.2 (5*x.1)),(13,.slice (some ⟨b0,off,none⟩) xs.length cap),(14,.int .i64 xs.length),(15,.int .i64 x.1)]) (λx=>outM T x.2 5 (cellsB (recB (xs.take x.1)))) (λx=>x.1<=xs.length/\OkO T x.2 (5*x.1)) (λx=>xs.length-x.1) ((0,some (b12,5*xs.length))) ⟨rfl,rfl,rfl,rfl,rfl,trivial⟩ (Mem.Less.refl _) (⟨Nat.zero_le _,zcA C (Nat.zero_le _)⟩) ?_;rintro ⟨k,o⟩ ⟨ay,ho⟩;(try dsimp only at *);refine r6_ ?_;refine vu rfl (λhl=>?_) (λhl=>?_)
 ·have hl:k<xs.length:=by have:=of_decide_eq_true hl;omega
  have Z:=(ah k hl).less (zbg (e:=5) (cs:=cellsB (recB (xs.take k))) ho);have J:(cellsB (recB (xs.take k))).length=5*k:=by rw [zaD,zbI,List.length_take];omega
  have aB:=zea xs[k];refine r14_ ?_;refine cp_ rfl (ziW xs[k] _ (hb _ (List.getElem_mem _))) ?_;refine ARun.alloc (zab rfl) zd7 ?_;intro b8 f8;have V:=f8
  repeat ((with_reducible replace V:=zaa V);obtain ⟨V,_⟩:=V)
  refine nl_ ?_;refine r6_ ?_;refine vJ (zab rfl) zbp rfl J (zc3 ho J V) rfl (news:=cellsB (five xs[k])) rds_ rfl vd (zmK _) vd vd ?_;intro ae aj af;rw [<- zeD,<- zog,<- List.take_succ_eq_append_getElem hl];refine r9_ ?_;refine ⟨(k+1,some (ae,aj)),?_,?_,?_,?_⟩<;>try dsimp only
  ·exact ⟨rfl,rfl,rfl,rfl,zah vd,trivial⟩
  ·exact Mem.Less.refl _
  ·exact ⟨hl,af⟩
  omega
 have hl:k=xs.length:=by have:=of_decide_eq_false hl;omega
 subst hl;rw [List.take_length];obtain ⟨bo,co,rfl⟩:=ho.some vd;obtain ⟨Y,ak⟩:=ho.own bo co rfl;have Q:q≠bo:=Y.ne hq;have I:=zsF (S.set q (wtB a { r with ct:=r.ct+1 })) a p b c q _ x n B L (recB xs) bo co _ hC.s (zai Y (Ne.symm Q)) (by rw [zbI];exact ak) (by rw [zbI];omega) (by rw [zbI];exact ag) (by rw [zbI];exact hk) (by rw [zbI];exact hn) hB;rw [zbI] at I;have o1:(outM T (some (bo,co)) 5 (cellsB (recB xs))).own q=_:=(vg _ _ Q).trans hq;refine r14_ ?_;refine vm rfl rfl zaw rfl o1 (show (3:Nat)<7 by decide) rfl ?_;refine nm_ ?_;refine r2_ ?_;refine kw_ [0,5,13,14,15,16] ?_;have eM:(outM T (some (bo,co)) 5 (cellsB (recB xs))).set q (wtB a { r with ct:=r.ct+1 })=(T.set q (wtB a { r with ct:=r.ct+1 })).set bo ⟨5,cellsB (recB xs),co⟩:=(vr _ _ _ Q).symm;rw [<- eM] at I;refine r4_ ?_;refine ca_ rfl (I) ?_;rintro _ S1 ⟨rfl,y,f,hd,M,ai,U,hT⟩;rw [U];clear U S1;refine r4_ ?_;refine ⟨_,M,⟨_,_,rfl,rfl,rfl⟩,vi _ _ _ ai.1,?_⟩;exact ⟨rfl,y,f,hd,hC.trans hT⟩
end Sto
end
end Go.Proofs.YtbgjkpkakoggbaaGreatDoor
