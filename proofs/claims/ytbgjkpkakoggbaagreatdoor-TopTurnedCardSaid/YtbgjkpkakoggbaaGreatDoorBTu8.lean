/-
  Texts that belong together: Sk9, Lv8, Lv9, LvA, LvP, LvB, LvC, Bw6, TlC, TuL1, LaidM.
-/
import Derived.Test.YtbgjkpkakoggbaaGreatDoorBTu7
import Derived.ProofKit
set_option maxHeartbeats 8000000
set_option maxRecDepth 100000
set_option linter.unusedVariables false
set_option linter.unusedSimpArgs false
set_option linter.unusedSectionVars false
namespace Go.Proofs.YtbgjkpkakoggbaaGreatDoor
open _root_.Go.Proofs.Tryz
section
open Go.RowKit Go.Shelf
open Mv Num Loser Skew
attribute [local go_sem] Oper.semAt_some
theorem zpI {S:Mem} {o:Option (Nat × Nat)} {e:tx} {cs:List tu} {b:Nat} {r:Blk} (h:Fresh (outM S o e cs) b):(outM S o e cs).set b r=outM (S.set b r) o e cs:=by
 have:=(zbV h).2;cases o with
 | none=>rfl
 | some q=>exact vr _ _ _ (Ne.symm (this q.1 q.2 rfl))
theorem zr9 {S:Mem} {o:Option (Nat × Nat)} {n:Nat} {e:tx} {cs:List tu} {b:Nat} {r:Blk} (C:OkO S o n) (h:Fresh (outM S o e cs) b):OkO (S.set b r) o n:=C.set (zbV h).2
def nilB:Blk:=⟨242,[.slice none 0 0],1⟩
def boxB (v:tu):Blk:=⟨242,[v],1⟩
def LvB (S:Mem) (p:Nat) (l:List Nat):Prop:=LvR S p l/\l.length<=4096
theorem LvB.less {S S':Mem} {p:Nat} {l:List Nat} (h:LvB S p l) (hl:S.Less S'):LvB S' p l:=⟨h.1.less hl,h.2⟩
theorem zuQ {M:Mem} {ps:List Nat} {l:List Nat} {b:Nat} (h:∀ i,i<ps.length->LvB M (ps.getD i 0) (Mi l i)) (hb:LvB M b (Mi l ps.length)):∀ i,i<(ps ++ [b]).length->LvB M ((ps ++ [b]).getD i 0) (Mi l i):=λi hi=>by
 rcases Nat.lt_or_ge i ps.length with h' | h'
 ·rw [List.getD_eq_getElem?_getD,List.getElem?_append_left h',<- List.getD_eq_getElem?_getD];exact h i h'
 obtain rfl:i=ps.length:=by simp at hi;omega
 simpa using hb
theorem zwT (v:tu) (l:List Nat) (S:Mem) (hv:RowR S v l) (h1:∀ y ∈ l,1<=y) (hl:l.length<=4096) :
  ACall prog 144 #[v] S (RdL gI (Ord.endsR l l.length) S):=by
 obtain ⟨va,vc,rfl,_⟩:=id hv;refine um (args:=[.slice va l.length vc]) (rs:=[.tmp 2]) 56 [(0,.slice va l.length vc)] func144 rfl rfl (Nat.le_of_ble_eq_true rfl) rfl ⟨rfl,trivial⟩ ?_;refine AWPM.seq ?_;refine r4_ ?_;refine AWPM.seq ?_;refine r4_ ?_;refine AWPM.seq ?_;refine s1_ ?_;refine ARun.alloc (zab rfl) zjR ?_;intro V f4;have g4:=f4
 repeat ((with_reducible replace g4:=zaa g4);obtain ⟨g4,_⟩:=g4)
 refine nl_ ?_;refine r2_ ?_;refine AWPM.seq ?_;refine s1_ ?_;refine AWP.loop (X:=Mem × List Nat × Option (Nat × Nat) × tu) (λx=>[(0,x.2.2.2),(3,outV x.2.2.1 x.2.1.length),(4,.pointer (some ⟨V,0,none⟩))]) (λx=>outM (x.1.set V nilB) x.2.2.1 289 (x.2.1.map pV)) (λx=>S.Less x.1/\Fresh x.1 V/\OkO (x.1.set V nilB) x.2.2.1 x.2.1.length/\(∀ i,i<x.2.1.length->LvB x.1 (x.2.1.getD i 0) (Mi l i))/\RowR x.1 x.2.2.2 (Mi l x.2.1.length)/\x.2.1.length+(Mi l x.2.1.length).length<=l.length) (λx=>(Mi l x.2.1.length).length) ((S,[],none,.slice va l.length vc)) ⟨rfl,rfl,rfl,trivial⟩ (Mem.Less.refl _) (⟨Mem.Less.refl _,f4,zcb _,λi h=>absurd h (Nat.not_lt_zero _),hv,by show 0+l.length<=_;omega⟩) ?_;rintro ⟨M,ps,o,vl⟩ ⟨q1,q2,q3,q4,q5,q6⟩;(try dsimp only at *);obtain ⟨L,hL⟩ : ∃ L,L=Mi l ps.length:=⟨_,rfl⟩;rw [<- hL] at q5 q6;have a8:∀ y ∈ L,1<=y:=by rw [hL];exact zsU l h1 _
 obtain ⟨la,lc,rfl,_⟩:=id q5;refine r6_ ?_;refine ca_ rfl ((frameM ((zpE _ L.length rfl vd M).frame q2) q3)) ?_;rintro vp _ ⟨_,⟨M1,⟨aw,aW⟩,au,rfl⟩,aZ,rfl⟩;obtain ⟨pa,pc,rfl,_⟩:=id aW;refine s1_ ?_;refine vA (cs:=[_,_]) (zab rfl) rfl ?_;intro C an;have ay:=an
 repeat ((with_reducible replace ay:=zaa ay);obtain ⟨ay,_⟩:=ay)
 refine nl_ ?_;refine r3_ ?_;have aO:V≠C:=an.ne (zkX aZ (vf _ _ _));have ag:Fresh M1 C:=(zbV an).1.less (vi _ _ _ au.1);have aX:=zr9 (r:=⟨293,[.slice la L.length lc,.slice pa (places L.length).length pc],2⟩) aZ an;rw [zpI an];rw [vr _ _ _ aO] at aX ⊢;have ai:LvR (M1.set C ⟨293,[.slice la L.length lc,.slice pa (places L.length).length pc],2⟩) C L:=zuI (vf _ _ _) (q5.less (aw.trans (vi _ _ _ ag.1))) (zjx _ _ _ _ aW (vi _ _ _ ag.1));have ch:M.Less (M1.set C ⟨293,[.slice la L.length lc,.slice pa (places L.length).length pc],2⟩):=aw.trans (vi _ _ _ ag.1);have ck:Fresh (M1.set C ⟨293,[.slice la L.length lc,.slice pa (places L.length).length pc],2⟩) V:=zai au aO;generalize M1.set C ⟨293,[.slice la L.length lc,.slice pa (places L.length).length pc],2⟩=M2 at *;refine r3_ ?_;refine ca_ rfl ((frameM ((zm_ C L _ ai vd).frame ck) aX)) ?_;rintro _ _ ⟨_,⟨M3,⟨u,rfl,a0,hu⟩,aK,rfl⟩,bV,rfl⟩;obtain ⟨ua,uc,rfl,_,_,u3⟩:=id hu;have ae:=ch.trans a0;have aU:(ps.map pV).length=ps.length:=List.length_map ..;refine r11_ ?_;refine vk (zab rfl) ziv rfl rfl ?_;intro cU aP;have aq:=aP
 repeat ((with_reducible replace aq:=zaa aq);obtain ⟨aq,_⟩:=aq)
 refine vJ (zab rfl) ziv rfl aU (zc3 bV aU aP) rfl (news:=[_]) rds_ rfl vd (by simp [Value.oneCell']) vd vd ?_;intro I Q aJ;refine r3_ ?_;refine AWP.less (outM (M3.set V nilB) (some (I,Q)) 289 ((ps ++ [C]).map pV)) (zds rfl) ?_;have av:=zan L;have ax:=zuQ (λi hi=>(q4 i hi).less ae) (by rw [<- hL];exact ⟨ai.less a0,by omega⟩);by_cases Y:many L=numP L.length
 ·refine r9_ ?_;refine cT_ ?_;obtain ⟨al,cB⟩:=aJ.own _ _ rfl;have am:I≠V:=al.ne' (vf _ _ _);have aB:Fresh M3 I:=al.less (vi _ _ _ aK.1);rw [show outM (M3.set V nilB) (some (I,Q)) 289 ((ps ++ [C]).map pV)=(M3.set I ⟨289,(ps ++ [C]).map pV,Q⟩).set V nilB from vr _ _ _ am.symm];have ao:M3.Less (M3.set I ⟨289,(ps ++ [C]).map pV,Q⟩):=vi _ _ _ aB.1;have aQ:Fresh (M3.set I ⟨289,(ps ++ [C]).map pV,Q⟩) V:=zai aK am.symm;have aC:(M3.set I ⟨289,(ps ++ [C]).map pV,Q⟩).own I=some ⟨289,(ps ++ [C]).map pV,Q⟩:=vf _ _ _;have aY:∀ j (h:j<(ps ++ [C]).length),(M3.set I ⟨289,(ps ++ [C]).map pV,Q⟩).Knows ⟨I,0+j*1,none⟩ [pV (ps ++ [C])[j]]:=λj h=>znu aC j (by rw [List.getElem?_map,List.getElem?_eq_getElem h];rfl);generalize M3.set I ⟨289,(ps ++ [C]).map pV,Q⟩=M4 at *;replace ax:=λi hi=>(ax i hi).less ao;replace hu:=hu.less ao;replace ae:=ae.trans ao;clear aC al aB aJ;have bf:numP L.length<=3000:=zeR L.length vd;obtain ⟨m,hm⟩ : ∃ m,m=(red L).length:=⟨_,rfl⟩;rw [<- hm] at hu av ⊢;rw [<- av] at Y bf;have b0:madeL [Value.int .i64 0] m=List.replicate m (gI 0):=zbw _ _;unfold nilB;refine r4_ ?_;refine ARun.makeSlice (zab rfl) zau rfl rfl vd vd vd vd ?_;intro U bE;have Z:=bE
  repeat ((with_reducible replace Z:=zaa Z);obtain ⟨Z,_⟩:=Z)
  refine r3_ ?_;refine kw_ [0,3,4,5,6,7,30] ?_;rw [vr _ _ _ (by assumption:U≠V),Mem.set_set,Nat.mul_one,Int.toNat_natCast,b0];refine r9_ ?_;refine AWP.loop (X:=Nat × List Nat) (λx=>[(3,.slice (some ⟨I,0,none⟩) (ps.length+1) Q),(4,.pointer (some ⟨V,0,none⟩)),(34,.slice ua m uc),(35,.int .i64 m),(36,.int .i64 x.1)]) (λx=>(M4.set V ⟨242,[.slice (some ⟨U,0,none⟩) m m],1⟩).set U ⟨3,x.2.map gI,m⟩) (λx=>x.1<=m/\x.2.length=m /\ ∀ j,j<x.1->x.2.getD ((red L).getD j 0-1) 0=j) (λx=>m-x.1) ((0,List.replicate m 0)) ⟨rfl,rfl,rfl,rfl,rfl,trivial⟩ (by dsimp only;rw [List.map_replicate];exact Mem.Less.refl _) (⟨Nat.zero_le _,by simp,λj h=>absurd h (Nat.not_lt_zero _)⟩) ?_;rintro ⟨i,o2⟩ ⟨k1,k2,k3⟩;(try dsimp only at *);by_cases hi:i<m
  ·refine r6_ ?_;refine cT_ ?_;have aa:i<(red L).length:=(by omega);obtain ⟨ub,uo,rfl,cg⟩:=u3.resolve_left (λh=>by rw [h] at aa;exact absurd aa (Nat.not_lt_zero _));have cS:=zdA L _ (List.getElem_mem aa);have cV:=zdB L _ (List.getElem_mem aa);have hx:(red L)[i]=(red L).getD i 0:=(zaG _ _ _ aa).symm;have co:M4.Knows ⟨ub,uo+i*1,none⟩ [.int .u64 ((red L)[i] : Int)]:=(cg i aa).less ao;generalize (red L)[i]=x at *;have hk:Mem.Knows ((M4.set V ⟨242,[.slice (some ⟨U,0,none⟩) m m],1⟩).set U ⟨3,o2.map gI,m⟩) ⟨ub,uo+i*1,none⟩ [.int .u64 (x:Int)]:=co.less ((vi _ _ _ aQ.1).trans (vi _ _ _ (zai Z (by assumption:U≠V)).1));obtain ⟨y,rfl⟩ : ∃ y,x=y+1:=⟨x-1,by omega⟩;have bW:((y+1:Nat):Int)-1=(y:Int):=(by omega);refine r23_ ?_;rw [bW,Int.toNat_natCast,Nat.mul_one];refine r5_ ?_;refine ⟨(i+1,o2.set y i),?_,?_,?_,?_⟩<;>try dsimp only
   ·exact ⟨sq_,sq_,sq_,sq_,sq_,trivial⟩
   ·rw [List.map_set];exact Mem.Less.refl _
   ·exact ⟨hi,by rw [List.length_set];exact k2,zr7 L o2 m i (y+1) vd av.symm k2 hi hx k3⟩
   omega
  obtain rfl:m=i:=by omega
  have aE:Ord.SortedE (red L) o2:=zr8 L o2 vd vd (by rw [<- av];exact k3);rw [vr _ _ _ (by apply Ne.symm;assumption:V≠U)];have bR:M4.Less (M4.set U ⟨3,o2.map gI,m⟩):=vi _ _ _ Z.1;have a3:Fresh (M4.set U ⟨3,o2.map gI,m⟩) V:=zai aQ (by apply Ne.symm;assumption);have aD:IdxR (M4.set U ⟨3,o2.map gI,m⟩) (.slice (some ⟨U,0,none⟩) m m) o2:=vL (g:=gI) (l:=o2) (vf _ _ _) List.prefix_rfl k2 (Nat.le_refl _) vd;generalize M4.set U ⟨3,o2.map gI,m⟩=M5 at *;refine r6_ ?_;refine cF_ ?_;refine r11_ ?_;refine vO ?_;refine AWPM.seq ?_;refine r2_ ?_;refine ca_ rfl (zkR _ _ _ _) ?_;rintro _ _ ⟨Bb,aT,rfl,rfl⟩;intro S0 w0 a w hs hg;obtain ⟨tm,df⟩:=a;obtain rfl:df = []:=hg.defers;obtain ⟨x0,x1,x2,x3,x4,x5,x6,x7,x8,x9,b6,cM,bC,bP,bD,bZ,bo,bK,bO,cf,cc,bS,bJ,bT,bd,ce,ci,bA,bG,bz,bL,br,b8,bk,bM,bY,b7,bB,bg,cn,cj,bl,bI,be,bi,cd,bH,bQ,b2,bF,c4,cK,b5,b9,bN,b1,rfl⟩:=zwn tm hg.size;have e4:x4 = .pointer (some ⟨V,0,none⟩):=hg.at_ 4 _ rfl;have ca:bF = .func (.func 222) #[] #[.pointer (some ⟨Bb,0,none⟩)]:=hg.at_ 49 _ rfl;subst e4 ca;clear hg;have a6:V≠Bb:=aT.ne (vf _ _ _);have bj:Fresh M5 Bb:=aT.less (vi _ _ _ a3.1);rw [vr _ _ _ a6] at hs;have ad:M5.Less (M5.set Bb ⟨288,[.slice (some ⟨I,0,none⟩) (ps.length+1) Q],1⟩):=vi _ _ _ bj.1;have bh:Fresh (M5.set Bb ⟨288,[.slice (some ⟨I,0,none⟩) (ps.length+1) Q],1⟩) V:=zai a3 a6;have bU:(M5.set Bb ⟨288,[.slice (some ⟨I,0,none⟩) (ps.length+1) Q],1⟩).Knows ⟨Bb,0,none⟩ [.slice (some ⟨I,0,none⟩) (ps.length+1) Q]:=vq (vf _ _ _) 0 _ (λj v hj=>by rw [Nat.zero_add];exact hj);generalize M5.set Bb ⟨288,[.slice (some ⟨I,0,none⟩) (ps.length+1) Q],1⟩=M6 at *;have az:=ad;replace ad:=bR.trans ad;have cE:(ps ++ [C]).length=ps.length+1:=by simp
  replace aD:=zjx _ _ _ _ aD (show M5.Less M6 from az);have bu:S.Less M6:=q1.trans (ae.trans ad);clear u3 az;refine wpIn_block ?_;refine zmB (S0:=S0) (w0:=w0) (gf:=222) (lb:=#[.pointer (some ⟨Bb,0,none⟩)]) (ps.length+1) (λk=>#[.int .i64 ((ps.length+1-1-k:Nat):Int),pV ((ps ++ [C]).getD (ps.length+1-1-k) 0)]) (λk T=>∃ M v e,T=M.set V (boxB v)/\M6.Less M/\Fresh M V/\IdxR M v e/\Ord.SortedE (Mi l (ps.length+1-k)) e) (λk=>{ tmps:=#[x0,x1,x2,x3,.pointer (some ⟨V,0,none⟩),x5,x6,x7,x8,x9,b6,pV ((ps ++ [C]).getD (ps.length+1-1-k) 0),bC,bP,bD,bZ,bo,bK,bO,cf,cc,bS,bJ,bT,bd,ce,ci,bA,bG,bz,bL,br,b8,bk,bM,bY,b7,bB,bg,cn,cj,bl,bI,be,bi,cd,bH,bQ,b2,.func (.func 222) #[] #[.pointer (some ⟨Bb,0,none⟩)],.int .i64 ((ps.length+1-1-k:Nat):Int),pV ((ps ++ [C]).getD (ps.length+1-1-k) 0),b5,b9,bN,b1],defers:=[] }) rfl (enters_of func222 (by kernel_rfl) rfl) (λ_=>rfl) ?start ?it ?assign ?body ?done
  case start=>exact ⟨_,⟨M6,_,o2,rfl,Mem.Less.refl _,bh,aD,by show Ord.SortedE (red (Mi l ps.length)) o2;rw [<- hL];exact aE⟩,hs⟩
  case it =>
   intro l' J W hK hY h0;refine zuP l' Bb I 0 Q (ps.length+1) (λj=>(ps ++ [C]).getD j 0) vd J W (λk W hj=>?_) hY h0;obtain ⟨T,⟨M,v,e,rfl,hM,hf,_⟩,af⟩:=hK k W hj;have hl:=hM.trans (vi _ _ (boxB v) hf.1);refine ⟨by have:=(bU.less hl) W af 0 _ rfl;simpa [Addr.add] using this,λj hj=>?_⟩;have:=((aY j vd).less (ad.trans hl)) W af 0 _ rfl;rw [zaG _ _ _ vd];simpa [Addr.add] using this
  case assign =>
   intro l' k W K hK;simp only [pV] at hK ⊢
   gi_wp2
   exact hK
  case body =>
   rintro l' k T W hk ⟨M,v,e,rfl,hM,hf,hi,ak⟩ af;obtain ⟨ea,ec,rfl,_⟩:=id hi;have e1:ps.length+1-k=(ps.length-k)+1:=(by omega);have e2:ps.length+1-1-k=ps.length-k:=(by omega);have e3:ps.length+1-(k+1)=ps.length-k:=(by omega);rw [e1] at ak;rw [e2,e3];have ai:=(ax (ps.length-k) vd).less (ad.trans hM);have hc:=(zkQ ((ps ++ [C]).getD (ps.length-k) 0) _ (Mi l (ps.length-k)) e M ai.1 hi (zsU l h1 _) ak ai.2).frame (r:=boxB (.slice ea e.length ec)) hf;have c1:=(View.box af (vf _ _ _)).1;simp only [pV] at hc ⊢
   gi_wp2_with (refine ⟨trivial,?_⟩;gi_at_call 192;refine (CallsIn.inRound l' (callsIn_wide.2 (hc W af))).mono ?_;rintro e' w2 ⟨r,S2,rfl,⟨M1,⟨aw,hr⟩,au,rfl⟩,aH⟩;obtain ⟨ra,rc,rfl,_⟩:=id hr;have bx:=View.box aH.view (vf _ _ _);have c2:=bx.1;have z2:=bx.2)
   refine ⟨_,⟨M1,.slice ra _ rc,rfl,hM.trans aw,au,_,hr,Ord.zbC _⟩,?_⟩;have:=aH.trans (uT aH.view (vf _ _ _) (.slice ra (Ord.endsR (Mi l (ps.length-k)) (Mi l (ps.length-k)).length).length rc) rfl);rw [Mem.set_set] at this;exact this
  case done =>
   rintro D T W ⟨M,v,e,rfl,hM,hf,hi,ak⟩ a2 hD hK;obtain ⟨ea,ec,rfl,_⟩:=id hi;have c1:=(View.box a2.view (vf _ _ _)).1;rw [Nat.sub_self] at ak;obtain rfl:=Ord.zem ak (Ord.zbC l)
   gi_wp2
   refine ⟨by simp,.inl ⟨_,_,rfl,run_takeDeferred hK,?_⟩⟩;refine ⟨.slice ea _ ec,?_,_,M,rfl,⟨bu.trans hM,hi⟩,((a2.less (vi _ _ _ hf.1)).grown (grownBy_putObj' _ D (.deferred none)) (λr e=>by cases e;exact ⟨hD,_,hK,rfl⟩))⟩;simp [results,Tryz.f144,go_sem]
 refine r9_ ?_;refine cF_ ?_;have aI:Mi l (ps ++ [C]).length=red L:=by rw [List.length_append];show red (Mi l ps.length)=_;rw [hL]
 refine r8_ ?_;refine ⟨(M3,ps ++ [C],some (I,Q),.slice ua (red L).length uc),?_,?_,?_,?_⟩<;>try dsimp only
 ·exact ⟨sq_,sq_,sq_,trivial⟩
 ·exact Mem.Less.refl _
 ·exact ⟨q1.trans ae,aK,zgc aJ rfl,ax,by rw [aI];exact hu,by rw [aI,List.length_append];have:=zjp L a8 Y;show ps.length+1+_<=_;omega⟩
 rw [aI,<- hL];exact zjp L a8 Y
end
section
open Go.RowKit Go.Shelf
open Mv Disk Num
namespace Sto
def LB (o:Option (Nat × Nat)) (xs:List Nat):List (Nat × Blk) :=
  match o with
  | none=>[]
  | some q=>[(q.1,⟨31,xs.map nU,q.2⟩)]
def LbOk (g:Cx) (o:Option (Nat × Nat)) (k:Nat):Prop:=(o=none->k=0) /\ ∀ b c,o=some (b,c)->offR g b/\k<=c
section
variable {g:Cx} {B:List (Nat × Blk)} {F:List Fl} {H:List Sh} {n k:Nat} {o:Option (Nat × Nat)} {xs:List Nat} {T M:Mem}
theorem zuR (J:Op g (LB o xs ++ B) F H n T) (hk:xs.length=k) (h:LbOk g o k):∃ M,Op g B F H n M/\OkO M o k/\T=outM M o 31 (xs.map nU):=by
 subst hk;cases o with
 | none=>exact ⟨T,J,⟨λ_=>h.1 rfl,λb c e=>by cases e⟩,rfl⟩
 | some q =>
  obtain ⟨M,I,C,e⟩:=Op.del (show Op g ((q.1,⟨31,xs.map nU,q.2⟩) :: B) F H n T from J) (h.2 q.1 q.2 rfl).1;exact ⟨M,I,⟨λe=>(by cases e),λb c e=>(by cases e;exact ⟨C,(h.2 _ _ rfl).2⟩)⟩,e⟩
theorem zpJ (J:Op g B F H n M) (I:OkO M o k) (hk:xs.length=k):Op g (LB o xs ++ B) F H n (outM M o 31 (xs.map nU))/\LbOk g o k:=by
 cases o with
 | none=>exact ⟨J,λ_=>I.nil rfl,λb c e=>by cases e⟩
 | some q =>
  obtain ⟨C,hc⟩:=I.own q.1 q.2 rfl;exact ⟨J.new C _,λe=>(by cases e),λb c e=>(by cases e;exact ⟨J.off C,hc⟩)⟩
theorem zwo {S:Mem} (h:∀ y ∈ LB o xs,S.own y.1=some y.2) (hk:xs.length=k) (C:LbOk g o k) (I:k<=60):RowR S (outV o k) xs:=by
 subst hk;cases o with
 | none =>
  obtain rfl:xs = []:=List.eq_nil_of_length_eq_zero (C.1 rfl);exact Sl.nil _ _ _
 | some q=>exact vL (g:=nU) (h _ (List.mem_singleton.2 rfl)) List.prefix_rfl rfl (C.2 _ _ rfl).2 vd
theorem zwp {α : Type} {x y : α} {X C:List α}:(X ++ x :: y :: C).Perm (x :: y :: (X ++ C)):=List.perm_middle.trans (List.perm_middle.cons _)
end
section
variable {g:Cx} {B B0:List (Nat × Blk)} {F:List Fl} {H H0:List Sh} {p lw:Nat} {fn s:tt} {l:List Nat} {T:Mem} {f:tA} {caps:List tu}
theorem zl_ (I:Op g B F (rdR p fn 1 (oneL l) 0 true :: H0) 0 T) (ah:Idle H0) (hg:g.ll = []/\g.lc=0) (hw:(lw,lwB g.k) ∈ B) (ak:OpnX g B0 F H0 H f caps s 1 l.length) (aL:∀ y ∈ B0,y ∈ B) (hl:∀ z ∈ l,1<=z/\z<Num.top) (hc:l.length<=60) (bX:H0.length<=5) (hH:H.length<=5) :
  ACall prog 96 #[self lw,self p,.func (.func f) #[] caps.toArray] T λv T'=>v = .nilIface/\Op g B (flR s 1 (oneL (Ord.endsR l l.length)) :: F) H 0 T':=by
 have bK:=I.gm;refine vI (args:=[self lw,self p,.func (.func f) #[] caps.toArray]) (rs:=[.cell 6 52]) 120 [(0,self lw),(1,self p),(2,.func (.func f) #[] caps.toArray)] func96 rfl rfl (Nat.le_of_ble_eq_true rfl) rfl ⟨rfl,rfl,rfl,trivial⟩ ?_;refine vj (rs:=[.cell 6 52]) rfl ?_;refine s1_ ?_;refine ARun.alloc (zab rfl) za_ ?_;intro b6 f6;refine nl_ ?_;refine r2_ ?_;obtain ⟨T0,l0,I⟩:=(I.new f6 bxE).vl;refine AWPM.less T0 l0 ?_;have ow:=I.o.mem (lw,lwB g.k) (by simp [hw]);obtain ⟨tm,ok⟩:=I.wk;obtain ⟨x4,i4,oA,aQ⟩:=I.ark
 (unfold arB at oA;rw [aQ] at oA;unfold wkB at ok;unfold lwB at ow)
 refine vj (rs:=[.cell 6 52]) rfl ?_;refine dr_ [i0_,i1_,i2_,i3_,i4_,i5_,i6_,i7_,i8_,i9_,i10_,i11_,i12_,i13_,i14_,i15_,i16_,i17_,i18_,o19_,i20_,i21_,i22_,i23_,i24_] [19] ?_;refine r19_ ?_;refine zac rfl ?_;have C:=zlY I (List.forall_mem_cons.2 ⟨rfl,ah.n⟩) hg.2;refine ca_ rfl (C) ?_;rintro _ T1 ⟨gl,gc,ll,rfl,bm,I⟩;clear C;refine zad ⟨nz_,?_⟩;refine r7_ ?_;refine kM_ [0,1,2,6,7,8] ?_;refine vj (rs:=[.cell 6 52]) rfl ?_;refine r6_ ?_;refine cF_ ?_;refine r2_ ?_;refine vj (rs:=[.cell 6 52]) rfl ?_;refine s1_ ?_;refine ARun.alloc (zab rfl) zf0 ?_;intro b9 f9;refine nl_ ?_;refine r2_ ?_;have I:=I.new f9 (lsB (.slice none 0 0));refine vO ?_;refine AWPM.seq ?_;refine r2_ ?_;refine ca_ rfl (zgx _ p) ?_;rintro _ S9 ⟨bq,rfl,fq,h9⟩;rw [h9];clear h9 S9;intro S0 w0 e w1 a3 a0;refine wpIn_block ?_;refine zdg (N:=120) (p1:=49) bq 0 5 (λ_=>H0) (λk B'=>∃ o,B'=(b9,lsB (outV o k)) :: (LB o (l.take k) ++ (bq,rpB p) :: (gl,⟨3,ll.flatMap i64s,gc*1⟩) :: (b6,bxE) :: B)/\LbOk (g.ls ll (g.m-8)) o k) [(0,_),(1,_),(2,_),(6,_),(7,_),(9,_),(48,_)] [(0,_),(1,_),(2,_),(6,_),(7,_),(9,_)] (a0.sub ⟨rfl,rfl,rfl,rfl,rfl,rfl,rfl,trivial⟩) rfl (zab rfl) (by decide) (by decide) (rows:=oneL l) (by rw [zag];omega) (zgF λz hz=>(hl z hz).2) (by decide) (λ_=>by omega) (λ_ _ ⟨o,e,_⟩=>by rw [e];simp) ⟨true,_,⟨none,rfl,λ_=>rfl,λb c e=>(by cases e)⟩,(I.new fq (rpB p)).perm (List.Perm.swap ..) (.refl _) (.refl _)⟩ a3 ⟨rfl,rfl,rfl,rfl,rfl,rfl,trivial⟩ (rs:=[.cell 6 52]) (λ_ _ h=>h) rfl ?round ?done
 case round =>
  rintro _ k gb _ M hk ⟨o,rfl,ad⟩ J;rw [zag] at hk;have an:(oneL l)[k]'(by rw [zag];exact hk) = [l[k]]:=zgE l hk;rw [an] at J;obtain ⟨bT,bM⟩:=hl _ (List.getElem_mem hk);have ae:(l.take k).length=k:=by rw [List.length_take];omega
  have af:(l.take (k+1)).length=k+1:=by rw [List.length_take];omega
  have aX:(l.take (k+1)).map nU=(l.take k).map nU ++ [nU l[k]]:=by rw [List.take_succ_eq_append_getElem hk,List.map_append];rfl
  generalize l[k]=z at *;obtain ⟨M0,J0,ho,aN⟩:=zuR (J.perm zwp.symm (.refl _) (.refl _)) ae ad;subst aN;have ay:M0.own gb=some ⟨31,[nU z],1⟩:=J0.o.1;have aj:=J0.o.2.1;unfold lsB at aj;unfold nU at ay;have pg:=(zbg (e:=31) (cs:=(l.take k).map nU) ho).own ay;have p9:=(zbg (e:=31) (cs:=(l.take k).map nU) ho).own aj;have ao:((l.take k).map nU).length=k:=by rw [List.length_map];exact ae
  refine GWP.region ?_;refine r3_ ?_;refine kG_ [49,0,1,2,6,7,9,10] ?_;refine GWP.block ?_;refine GWP.seq ?_;refine GWP.seq ?_;refine GWP.region ?_;refine r6_ ?_;refine kG_ [49,0,1,2,6,7,9,10,53] ?_;refine GWP.condF rfl (by first|rfl|(simp;done)|(simp;omega)) ?_;refine GWP.skip ?_;refine s1_ ?_;refine GWP.draw [i0_,i1_,i2_,i3_,o4_,o5_,o6_] [5,6] mixed (by kernel_rfl) ?_;refine r4_ ?_;refine zac rfl ?_;refine vk (zab rfl) zaq rfl rfl ?_;intro bR aD;have Q:=aD
  repeat ((with_reducible replace Q:=zaa Q);obtain ⟨Q,_⟩:=Q)
  have:=Q.ne pg;have:=Q.ne' pg
  have:=Q.ne p9;have:=Q.ne' p9
  refine zad ⟨ny_,?_⟩;refine zac rfl ?_;refine vJ (zab rfl) zaq rfl ao (zc3 ho ao aD) rfl (news:=[.int .u64 (z:Nat)]) rds_ rfl vd (by simp [Value.oneCell']) vd vd ?_;intro bn cn ai;have q9:=(zbg (e:=31) (cs:=(l.take k).map nU ++ [.int .u64 (z:Nat)]) ai).own aj;refine zad ⟨nz_,?_⟩;refine zac rfl ?_;refine st_ q9 ?_;refine zad ⟨nz_,?_⟩;refine r2_ ?_;exact ⟨rfl,false,_,⟨some (bn,cn),rfl,(zpJ (xs:=l.take (k+1)) J0 ai af).2⟩,by have J2:=((zpJ (xs:=l.take (k+1)) J0 ai af).1.perm zwp (.refl _) (.refl _)).tl.put [] (lsB (outV (some (bn,cn)) (k+1)));rw [aX] at J2;exact J2.mono vd⟩
 case done =>
  rintro D z0 _ M ⟨o,rfl,ad⟩ J;rw [zag] at J ad;rw [List.take_length] at J;have ag:=(Ord.zbC l).len;have aB:∀ z ∈ Ord.endsR l l.length,z<l.length:=λz hz=>(Ord.zbC l).lt hz;have aK:=λS h=>zwT (outV o l.length) l S h (λy hy=>(hl y hy).1) vd;generalize Ord.endsR l l.length=V at *;refine GWP.seq ?_;refine GWP.region ?_;refine s1_ ?_;have C:=zbd [] J;refine ca_ rfl (C) ?_;rintro _ M2 ⟨rfl,f0,J⟩;clear C;obtain ⟨Y,U⟩ : ∃ Y,Y=((p,rdB (g.ls ll (g.m-8)).a ⟨fn,1,l.length,5*1*l.length,f0,0⟩) :: (b9,lsB (outV o l.length)) :: (LB o l ++ (bq,rpB p) :: (gl,⟨3,ll.flatMap i64s,gc*1⟩) :: (b6,bxE) :: B)):=⟨_,rfl⟩;replace J:Op (g.ls ll (g.m-8)) Y F H0 (0+5*l.length+1) M2:=by rw [U];rw [zag] at J;exact J
  have hD:∀ y ∈ LB o l,y ∈ Y:=λy hy=>by rw [U];exact List.mem_cons_of_mem _ (List.mem_cons_of_mem _ (List.mem_append_left _ hy))
  have am:(p,rdB (g.ls ll (g.m-8)).a ⟨fn,1,l.length,5*1*l.length,f0,0⟩) ∈ Y:=by rw [U];exact List.mem_cons_self ..
  have aJ:(b9,lsB (outV o l.length)) ∈ Y:=by rw [U];exact List.mem_cons_of_mem _ (List.mem_cons_self ..)
  have ac:∀ y ∈ (bq,rpB p) :: (gl,⟨3,ll.flatMap i64s,gc*1⟩) :: (b6,bxE) :: B,y ∈ Y:=λy hy=>by rw [U];exact List.mem_cons_of_mem _ (List.mem_cons_of_mem _ (List.mem_append_right _ hy))
  have aP:B.Sublist Y:=by rw [U];exact ((List.sublist_append_right [_,_,_] B).trans (List.sublist_append_right _ _)).trans (List.sublist_append_right [_,_] _)
  clear U;have oq:=J.o.mem _ am;have o9:=J.o.mem _ aJ
  (unfold rdB at oq;dsimp only at oq;unfold lsB at o9)
  refine r2_ ?_;refine kG_ [0,1,2,6,7,9] ?_;refine GWP.seq ?_;refine GWP.seq ?_;refine GWP.region ?_;refine r4_ ?_;refine cp_ rfl (zaj _ _) ?_;refine r3_ ?_;refine kG_ [0,1,2,6,7,9,11] ?_;refine GWP.seq ?_;refine GWP.region ?_;refine s1_ ?_;refine rC (vh rfl rfl Er.neNil) ?_;refine r2_ ?_;refine kG_ [0,1,2,6,7,9,11,69] ?_;refine GWP.condF rfl (by first|rfl|(simp;done)|(simp;omega)) ?_;have aT:(pickM M2 ((LB o l).map (·.1))).Less M2:=zcT (λ_ _=>rfl) rfl;refine GWP.skip ?_;refine s1_ ?_;refine GWP.seq ?_;refine GWP.region ?_;refine s1_ ?_;have C:=((aK _ (zwo (λy hy=>(zaW (List.mem_map_of_mem hy)).trans (J.o.mem _ (hD y hy))) rfl ad hc)).over aT);refine ca_ rfl (C) ?_;rintro _ W ⟨E,⟨hE,hv⟩,hW,ha⟩;clear C;obtain ⟨pa,ca,rfl,bF,bz,a1⟩:=hv;have K:=OpK.start J hD rfl hE hW ha;rw [ag];refine r3_ ?_;refine kG_ [0,1,2,6,7,9,11,69,12] ?_;refine GWP.seq ?_;refine GWP.seq ?_;refine GWP.region ?_;refine r5_ ?_;refine GWP.block ?_;refine GWP.loop (X:=Mem × Mem × Nat) (λX=>[(0,self lw),(1,self p),(2,.func (.func f) #[] caps.toArray),(6,.pointer (some ⟨b6,0,none⟩)),(12,.slice pa l.length ca),(73,.slice (some ⟨gl,0,none⟩) (g.m-8) gc),(74,.int .i64 ((g.m-8:Nat):Int)),(75,.int .i64 (X.2.2:Nat))]) (λX=>X.1) (λX=>OpK (g.ls (ll.drop X.2.2) (g.m-8)) (LB o l) Y F H0 (0+5*l.length+1) E X.2.1 X.1/\X.2.2<=g.m-8) (λX=>g.m-8-X.2.2) ((W,M2,0)) ⟨rfl,rfl,rfl,rfl,rfl,rfl,rfl,rfl,trivial⟩ (Mem.Less.refl _) (⟨K,Nat.zero_le _⟩) ?_;rintro ⟨W3,T3,i⟩ ⟨K,aC⟩;(try dsimp only at *);replace K:OpK (g.ls (ll.drop i) (g.m-8)) (LB o l) Y F H0 (0+5*l.length+1) E T3 W3:=K;replace aC:i<=g.m-8:=aC;by_cases q2:i<g.m-8
  ·have aF:i<ll.length:=(by omega);obtain ⟨tm,aW⟩:=K.op.wk;have ok:W3.own g.k=some (wkB g.a g.u tm):=K.tl.own aW;have og:=K.own (y:=(gl,⟨3,ll.flatMap i64s,gc*1⟩)) (ac _ (by simp));have ow:=K.own (y:=(lw,lwB g.k)) (ac _ (by simp [hw]));rw [List.drop_eq_getElem_cons aF] at K
   (unfold wkB at ok;unfold lwB at ow)
   obtain ⟨li,aq⟩ : ∃ li,li=ll[i]:=⟨_,rfl⟩;rw [<- aq] at K;refine GWP.seq ?_;refine GWP.region ?_;refine r3_ ?_;refine GWP.seq ?_;refine GWP.condT rfl (by first|rfl|(simp;done)|(simp;omega)) ?_;refine GWP.skip ?_;refine s1_ ?_;refine GWP.seq ?_;refine GWP.block ?_;refine GWP.seq ?_;refine GWP.region ?_;refine s1_ ?_;refine rC (Calm.load zbM rfl (v:=.int .i64 li) (zbP og (by show (ll.flatMap i64s)[0+(i:Int).toNat*1]?=_;have:=zdH zhZ ll i aF 0 (.int .i64 li) (by rw [aq];rfl);rw [show i*1+0=0+(i:Int).toNat*1 from by omega] at this;exact this))) ?_;refine r3_ ?_;refine kG_ [0,1,2,6,12,73,74,75,76,14] ?_;refine GWP.region ?_;refine r8_ ?_;have C:=K.call (X:=Unit) (ψ:=λ_ _=>True) (g':=g.ls (ll.drop (i+1)) (g.m-8)) (F':=F) (H':=λ_=>H0) (n':=0+5*l.length+1) ((zjr K.op ah.n).mono λv T' h=>⟨(),trivial,h⟩) rfl;refine ca_ rfl (C) ?_;rintro _ W4 ⟨_,_,T4,K⟩;clear C;refine r3_ ?_;refine kG_ [0,1,2,6,12,73,74,75,76,14] ?_;refine GWP.region ?_;refine r4_ ?_;refine ⟨(W4,T4,i+1),?_,?_,?_,?_⟩<;>try dsimp only
   ·exact ⟨rfl,rfl,rfl,rfl,rfl,rfl,rfl,rfl,trivial⟩
   ·exact Mem.Less.refl _
   ·exact ⟨K,q2⟩
   (show g.m-8-(i+1)<g.m-8-i;omega)
  obtain rfl:i=g.m-8:=by omega
  rw [List.drop_eq_nil_of_le vd] at K;replace K:=K.unl ah.n hg;have oq:=K.own am
  (unfold rdB at oq;dsimp only at oq)
  obtain ⟨aU,ak⟩:=ak;refine GWP.seq ?_;refine GWP.region ?_;refine r3_ ?_;refine GWP.seq ?_;refine GWP.condF rfl (by first|rfl|(simp;done)|(simp;omega)) ?_;refine GWP.exit ?_;refine r4_ ?_;refine GWP.seq ?_;refine GWP.region ?_;refine r5_ ?_;refine vn (zab rfl) aU rfl rfl (K.call (ak (λy hy=>ac y (List.mem_cons_of_mem _ (List.mem_cons_of_mem _ (List.mem_cons_of_mem _ (aL y hy))))) K.op) rfl) ?_;rintro _ W5 ⟨q,rfl,T5,K⟩;refine r7_ ?_;refine kG_ [0,1,2,6,12,73,74,75,76,15,16] ?_;refine GWP.seq ?_;refine GWP.seq ?_;refine GWP.region ?_;refine s1_ ?_;refine rC (vh rfl rfl Er.neNil) ?_;refine r2_ ?_;refine kG_ [0,1,2,6,12,73,74,75,76,15,16,99] ?_;refine GWP.condF rfl (by first|rfl|(simp;done)|(simp;omega)) ?_;replace K:OpK g (LB o l) Y F (wtR q s 1 (oneL (V.take 0)) (Rec.needN 1 l.length) :: H) (0+5*l.length+1+5*0) E T5 W5:=K;refine GWP.skip ?_;refine s1_ ?_;refine GWP.seq ?_;refine GWP.seq ?_;refine GWP.region ?_;refine r5_ ?_;refine GWP.block ?_;refine GWP.loop (X:=Mem × Mem × Nat) (λX=>[(6,.pointer (some ⟨b6,0,none⟩)),(15,self q),(101,.slice pa l.length ca),(102,.int .i64 (l.length:Nat)),(103,.int .i64 (X.2.2:Nat))]) (λX=>X.1) (λX=>OpK g (LB o l) Y F (wtR q s 1 (oneL (V.take X.2.2)) (Rec.needN 1 l.length) :: H) (0+5*l.length+1+5*X.2.2) E X.2.1 X.1/\X.2.2<=l.length) (λX=>l.length-X.2.2) ((W5,T5,0)) ⟨rfl,rfl,rfl,rfl,rfl,trivial⟩ (Mem.Less.refl _) (⟨K,Nat.zero_le _⟩) ?_;rintro ⟨W6,T6,i⟩ ⟨K,aE⟩;(try dsimp only at *);replace K:OpK g (LB o l) Y F (wtR q s 1 (oneL (V.take i)) (Rec.needN 1 l.length) :: H) (0+5*l.length+1+5*i) E T6 W6:=K;replace aE:i<=l.length:=aE;by_cases q6:i<l.length
  ·have Z:i<V.length:=(by omega);obtain ⟨eb,eo,rfl,a2⟩:=a1.resolve_left (λh=>by rw [h] at Z;exact absurd Z (Nat.not_lt_zero _));have bY:W6.Knows ⟨eb,eo+i*1,none⟩ [.int .i64 (V[i] : Nat)]:=(a2 i Z).less K.el;have bE:=aB _ (List.getElem_mem Z);have aO:(oneL (V.take i)).length=i:=(by rw [zag,List.length_take];omega);have ae:oneL (V.take (i+1))=oneL (V.take i) ++ [[V[i]]]:=(by rw [List.take_succ_eq_append_getElem Z,zcZ]);generalize V[i]=ei at *;refine GWP.seq ?_;refine GWP.region ?_;refine r3_ ?_;refine GWP.seq ?_;refine GWP.condT rfl (by first|rfl|(simp;done)|(simp;omega)) ?_;have az:=λ{b:Nat} (hb:Fresh W6 b)=>(K.new hb ⟨31,[.int .u64 (ei:Nat)],1⟩).call (X:=Unit) (ψ:=λ_ v=>v = .int .i64 0) (g':=g) (F':=F) (H':=λ_=>.wt q s 1 ((oneL (V.take i)).length+1) ((oneL (V.take i)).flatMap recB ++ recB [ei]) (Rec.needN 1 l.length) :: H) (n':=0+5*l.length+1+5*i+5*1) ((zlI [] (K.new hb ⟨31,[.int .u64 (ei:Nat)],1⟩).op (.slice (some ⟨b,0,none⟩) 1 1) [ei] l.length (zei rfl (by decide) (vf _ _ _)) rfl (λz hz=>by rw [List.mem_singleton.1 hz];exact Nat.lt_of_lt_of_le (show ei<1000 by omega) (by decide)) (by decide) (by decide) rfl (by rw [aO];exact q6) vd vd (by show H.length<=7;omega)).mono λv T' ⟨e,J⟩=>⟨(),e,J⟩) rfl;refine GWP.skip ?_;refine s1_ ?_;refine GWP.seq ?_;refine GWP.block ?_;refine GWP.seq ?_;refine GWP.region ?_;refine r5_ ?_;refine kG_ [6,15,101,102,103,104,18] ?_;refine GWP.seq ?_;refine GWP.region ?_;refine r3_ ?_;refine vk (zab rfl) zaq rfl rfl ?_;intro bd aA;refine ca_ rfl (az aA) ?_;rintro _ W7 ⟨_,rfl,T7,K⟩;refine cp_ rfl (zaj _ _) ?_;refine r3_ ?_;refine kG_ [6,15,101,102,103,104,18,19] ?_;refine GWP.seq ?_;refine GWP.region ?_;refine s1_ ?_;refine rC (vh rfl rfl Er.neNil) ?_;refine r2_ ?_;refine kG_ [6,15,101,102,103,104,18,19,114] ?_;refine GWP.condF rfl (by first|rfl|(simp;done)|(simp;omega)) ?_;refine GWP.skip ?_;refine r2_ ?_;refine GWP.region ?_;refine r4_ ?_;refine ⟨(W7,T7,i+1),?_,?_,?_,?_⟩<;>try dsimp only
   ·exact ⟨rfl,rfl,rfl,rfl,rfl,trivial⟩
   ·exact Mem.Less.refl _
   ·exact ⟨by rw [ae,<- zaX];exact K.sub (List.sublist_cons_self _ _) hD,q6⟩
   (show l.length-(i+1)<l.length-i;omega)
  obtain rfl:i=l.length:=by omega
  rw [List.take_of_length_le vd] at K;refine GWP.seq ?_;refine GWP.region ?_;refine r3_ ?_;refine GWP.seq ?_;refine GWP.condF rfl (by first|rfl|(simp;done)|(simp;omega)) ?_;refine GWP.exit ?_;refine r4_ ?_;refine GWP.seq ?_;refine GWP.region ?_;refine s1_ ?_;have C:=K.call (X:=Unit) (ψ:=λ_ v=>v = .int .i64 0) (g':=g) (F':=⟨s,1,l.length,(oneL V).flatMap recB⟩ :: F) (H':=λ_=>H) (n':=0) ((zbK [] K.op (c':=l.length) (by rw [if_neg (by decide),zag,ag]) (by decide) rfl vd vd).mono λv T' ⟨e,J⟩=>⟨(),e,J⟩) rfl;refine ca_ rfl (C) ?_;rintro _ W8 ⟨_,rfl,T8,K⟩;clear C;refine cp_ rfl (zaj _ _) ?_;have p6:=K.own (y:=(b6,bxE)) (ac _ (by simp));unfold bxE at p6;refine st_ p6 ?_;refine r2_ ?_;refine kG_ [6,15,101,102,103,104] ?_;refine GWP.ret ?_;refine ⟨_,T8,⟨_,_,_,rfl,.inl ⟨zaV,rd_⟩,rfl,rfl⟩,(by show Mem.Less T8 (W8.set b6 ⟨52,[.nilIface],1⟩);rw [vB _ _ _ p6];exact K.tl),?_⟩;exact ⟨rfl,by unfold flR;rw [zag,ag];exact K.op.sub aP⟩
end
end Sto
end
section
open Go.RowKit Go.Shelf
open Mv Disk Num
namespace Sto
open Skew (needS firstsN numP red)
def lxB (lw:Nat):Blk:=⟨113,[self lw],1⟩
section
variable {g:Cx} {B:List (Nat × Blk)} {F:List Fl} {H:List Sh} {s:tt} {b3 b11 lw:Nat}
theorem zwU (hs:nm s) (U:tld s=true):Opn g [(b3,lxB lw),(lw,lwB g.k),(b11,nmB s)] 146 [.pointer (some ⟨b3,0,none⟩),.pointer (some ⟨b11,0,none⟩)] s:=λ{F H w c} X Q hc hk hl=>by
 refine ⟨rfl,λ{B n T} J I=>?_⟩;have V:=I.o.mem _ (J _ (List.mem_cons_self ..));have ow:=I.o.mem _ (J (lw,lwB g.k) (by simp));have K:=I.o.mem _ (J (b11,nmB s) (by simp));unfold lxB at V;unfold lwB at ow;unfold nmB at K;refine k_E4 18 func146 ?_;refine r7_ ?_;refine dr_ [i0_,i1_,i2_,i3_,i4_,i5_,i6_,o7_,i8_,i9_,i10_,i11_] [7] ?_;refine r7_ ?_;refine zac rfl ?_;have C:=zde I hs U X Q hc hk hl;refine ca_ rfl (C) ?_;rintro _ Y ⟨q,rfl,I,_⟩;clear C;refine zad ⟨nz_,?_⟩;refine r7_ ?_;refine ⟨_,Y,⟨_,_,rfl,⟨_,_,rfl,rfl,rfl⟩,rfl⟩,zae,?_⟩;exact ⟨q,rfl,I⟩
theorem zwV (hs:nm s) (U:tld s=true):Opn g [(b3,lxB lw),(lw,lwB g.k),(b11,nmB s)] 148 [.pointer (some ⟨b3,0,none⟩),.pointer (some ⟨b11,0,none⟩)] s:=λ{F H w c} X Q hc hk hl=>by
 refine ⟨rfl,λ{B n T} J I=>?_⟩;have V:=I.o.mem _ (J _ (List.mem_cons_self ..));have ow:=I.o.mem _ (J (lw,lwB g.k) (by simp));have K:=I.o.mem _ (J (b11,nmB s) (by simp));unfold lxB at V;unfold lwB at ow;unfold nmB at K;refine k_E4 18 func148 ?_;refine r7_ ?_;refine dr_ [i0_,i1_,i2_,i3_,i4_,i5_,i6_,o7_,i8_,i9_,i10_,i11_] [7] ?_;refine r7_ ?_;refine zac rfl ?_;have C:=zde I hs U X Q hc hk hl;refine ca_ rfl (C) ?_;rintro _ Y ⟨q,rfl,I,_⟩;clear C;refine zad ⟨nz_,?_⟩;refine r7_ ?_;refine ⟨_,Y,⟨_,_,rfl,⟨_,_,rfl,rfl,rfl⟩,rfl⟩,zae,?_⟩;exact ⟨q,rfl,I⟩
theorem zwW {qo c:Nat} (C:Nat):OpnX g [(C,bxB qo)] F (wtR qo s 1 [] (Rec.needN 1 c) :: H) H 97 [.pointer (some ⟨C,0,none⟩)] s 1 c:=by
 refine ⟨rfl,λ{B n T} K I=>?_⟩;have J:=I.o.mem _ (K _ (List.mem_cons_self ..));unfold bxB at J;refine k_E3 8 func97 ?_;refine r14_ ?_;refine ⟨_,T,⟨_,_,rfl,⟨_,_,rfl,rfl,rfl⟩,rfl⟩,zae,?_⟩;exact ⟨qo,rfl,I⟩
end
abbrev Lv:=tt × List Nat
def fl1 (x:Lv):Fl:=flR x.1 1 (oneL x.2)
def lvC (X:List Lv):List tu:=X.flatMap λx=>[.string x.1,.int .u64 (x.2.length:Nat)]
theorem zgM (X:List Lv):(lvC X).length=X.length*2:=by
 unfold lvC
 induction X with
 | nil=>rfl
 | cons x t C=>rw [List.flatMap_cons,List.length_append,C];simp only [List.length_cons,List.length_nil];omega
theorem zik (X:List Lv) (x:Lv):lvC (X ++ [x])=lvC X ++ [.string x.1,.int .u64 (x.2.length:Nat)]:=by unfold lvC;rw [List.flatMap_append];rfl
def Chn:List Lv->Prop
  | x :: y :: t=>y.2=red x.2/\tld y.1=true/\Chn (y :: t)
  | _=>True
theorem Chn.snoc:∀ {A:List Lv} {x y:Lv},Chn (A ++ [x])->y.2=red x.2->tld y.1=true->Chn (A ++ [x] ++ [y])
 | [],_,_,_,h1,h2=>⟨h1,h2,trivial⟩
 | [_],_,_,h,h1,h2=>⟨h.1,h.2.1,h1,h2,trivial⟩
 | _ :: b :: t,_,_,h,h1,h2=>⟨h.1,h.2.1,Chn.snoc (A:=b :: t) h.2.2 h1 h2⟩
theorem Chn.last:∀ {A:List Lv} {x y:Lv},Chn (A ++ [x] ++ [y])->Chn (A ++ [x])/\y.2=red x.2/\tld y.1=true
 | [],_,_,h=>⟨trivial,h.1,h.2.1⟩
 | [_],_,_,h=>⟨⟨h.1,h.2.1,trivial⟩,h.2.2.1,h.2.2.2.1⟩
 | _ :: b :: t,_,_,h=>by
  obtain ⟨C,I⟩:=Chn.last (A:=b :: t) h.2.2;exact ⟨⟨h.1,h.2.1,C⟩,I⟩
theorem zf9 {S:Mem} {b o o':Nat} {cs:List tu} (h:S.Knows ⟨b,o,none⟩ cs) (e:o'=o):S.Knows ⟨b,o',none⟩ cs:=e ▸ h
theorem zuS {g:Cx} {B:List (Nat × Blk)} {F:List Fl} {H:List Sh} {n b c:Nat} {e:tx} {cs:List tu} {k:Nat} {T:Mem} (J:Op g ((b,⟨e,cs,c*2⟩) :: B) F H n T) (C:k<=c) (K:offR g b):∃ M,Op g B F H n M/\OkO M (some (b,c)) k/\T=outN 2 M (some (b,c)) e cs:=by
 obtain ⟨M,Q,I,e⟩:=J.del K;exact ⟨M,Q,⟨λe=>(by cases e),λb c e=>(by cases e;exact ⟨I,C⟩)⟩,e⟩
structure LvX where
  M:Mem
  b:Nat
  c:Nat
  A:List Lv
  x:Lv
section
variable {g:Cx} {B:List (Nat × Blk)} {F:List Fl} {H:List Sh} {lw:Nat} {fn:tt} {l:List Nat} {T:Mem}
theorem zsV {m:Nat} (h:24<=m):25<=64*(m-8) / 40:=by omega
theorem zna {A:List Lv} {x y:Lv}:(fl1 y :: ((A ++ [x]).map fl1 ++ F)).Perm ((A ++ [x] ++ [y]).map fl1 ++ F):=by
 rw [List.map_append (l₁:=A ++ [x]),List.append_assoc];exact List.perm_middle.symm
theorem zuT (I:Op g B (fl1 (fn,l) :: F) H 0 T) (hi:Idle H) (hg:g.ll = []/\g.lc=0) (hE:errK g) (hw:(lw,lwB g.k) ∈ B) (hl:∀ z ∈ l,1<=z/\z<Num.top) (hc:l.length<=60) (aX:F.length+H.length<=12) (hH:H.length<=2) :
  ACall prog 98 #[self lw,.string fn,.int .u64 (l.length:Nat)] T λv T'=>∃ b c A x en,v = .tuple #[.slice (some ⟨b,0,none⟩) (A.length+1) c,.string en,.nilIface]/\A.length+1<=c/\A.length<=3/\x.2.length<=64*(g.m-8) / 40/\Chn (A ++ [x])/\(A ++ [x]).head?=some (fn,l)/\tld en=true/\Op g ((b,⟨179,lvC (A ++ [x]),c*2⟩) :: B) (fl1 (en,Ord.endsR x.2 x.2.length) :: ((A ++ [x]).map fl1 ++ F)) H 0 T':=by
 have al:=I.gm;have aY:=zsV al.1;refine k_E3 99 func98 ?_;refine r2_ ?_;refine vo (zab rfl) rfl rfl ?_;intro b3 f3;refine nl_ ?_;refine r10_ ?_;refine vX (zab rfl) zf1 rfl (by decide) (by decide) rfl rfl ?_;intro az aH;refine r3_ ?_;have ax:=(I.new f3 (lxB lw)).off aH;have I:=(I.new f3 (lxB lw)).new aH ⟨179,[.string fn,.int .u64 (l.length:Nat)],1*2⟩;refine s1_ ?_;refine AWP.loop (X:=LvX) (λX=>[(3,.pointer (some ⟨b3,0,none⟩)),(9,.slice (some ⟨X.b,0,none⟩) (X.A.length+1) X.c)]) (λX=>X.M) (λX=>Op g ((X.b,⟨179,lvC (X.A ++ [X.x]),X.c*2⟩) :: (b3,lxB lw) :: B) ((X.A ++ [X.x]).map fl1 ++ F) H 0 X.M/\X.A.length+1<=X.c/\offR g X.b/\Chn (X.A ++ [X.x])/\(X.A ++ [X.x]).head?=some (fn,l)/\(∀ z ∈ X.x.2,1<=z/\z<Num.top)/\(X.A.length=0/\X.x.2.length<=60\/X.A.length=1/\X.x.2.length<=41\/X.A.length=2/\X.x.2.length<=28\/X.A.length=3/\X.x.2.length<=19)) (λX=>4-X.A.length) (⟨(T.set b3 (lxB lw)).set az ⟨179,[.string fn,.int .u64 (l.length:Nat)],2⟩,az,1,[],(fn,l)⟩) ⟨rfl,rfl,trivial⟩ (Mem.Less.refl _) (⟨I,Nat.le_refl _,ax,trivial,rfl,hl,.inl ⟨rfl,hc⟩⟩) ?_;rintro ⟨M,b,c,A,⟨Q,m⟩⟩ ⟨J,ad,aa,af,ag,ai,aB⟩;(try dsimp only at *);clear I ax;replace J:Op g ((b,⟨179,lvC (A ++ [(Q,m)]),c*2⟩) :: (b3,lxB lw) :: B) ((A ++ [(Q,m)]).map fl1 ++ F) H 0 M:=J;replace ad:A.length+1<=c:=ad;replace aa:offR g b:=aa;replace af:Chn (A ++ [(Q,m)]):=af;replace ag:(A ++ [(Q,m)]).head?=some (fn,l):=ag;replace ai:∀ z ∈ m,1<=z/\z<Num.top:=ai;replace aB:A.length=0/\m.length<=60\/A.length=1/\m.length<=41\/A.length=2/\m.length<=28\/A.length=3/\m.length<=19:=aB;have aG:fl1 (Q,m) ∈ (A ++ [(Q,m)]).map fl1 ++ F:=List.mem_append_left _ (List.mem_map_of_mem (List.mem_append_right _ (List.mem_singleton.2 rfl)));have ae:((A ++ [(Q,m)]).map fl1 ++ F).length=A.length+1+F.length:=by simp;omega
 have hk:M.Knows ⟨b,A.length*2,none⟩ [.string Q,.int .u64 (m.length:Nat)]:=vq J.o.1 _ _ λj v hj=>by
  show (lvC (A ++ [(Q,m)]))[A.length*2+j]?=some v;rw [zik,List.getElem?_append_right (by rw [zgM];omega),zgM,Nat.add_sub_cancel_left];exact hj
 refine r8_ ?_;refine rC (ldA_ (cs:=[.string Q,.int .u64 (m.length:Nat)]) ze6 zc6 rfl (.inr (zf9 hk vd))) ?_;refine ARun.alloc (zab rfl) zc7 ?_;intro bd aM;refine nl_ ?_;refine r3_ ?_;have J:=J.new aM ⟨179,[.string Q,.int .u64 (m.length:Nat)],2⟩;obtain ⟨T2,l2,J⟩:=J.vl;refine AWP.less T2 l2 ?_;have V:=J.o.1;have o3:=J.o.2.2.1;have ow:=J.o.mem (lw,lwB g.k) (by simp [hw]);obtain ⟨tm,Z⟩:=J.wk;obtain ⟨x4,i4,oA,aL⟩:=J.ark
 (unfold arB at oA;rw [aL] at oA;unfold wkB at Z;unfold lwB at ow;unfold lxB at o3)
 refine r2_ ?_;refine dr_ [i0_,i1_,i2_,i3_,i4_,i5_,i6_,i7_,i8_,i9_,i10_,i11_,i12_,o13_,i14_] [] ?_;refine r13_ ?_;refine zac rfl ?_;refine cp_ rfl (zpu g.m _ al.1 al.2) ?_;refine zad ⟨ny_,?_⟩;refine r3_ ?_;by_cases q:m.length<=64*(g.m-8) / 40
 ·obtain ⟨s,a1,a2,a3,ak⟩:=zb4 J (by rw [ae];omega);refine cT_ ?_;refine r6_ ?_;refine cp_ rfl (ak) ?_;refine ARun.alloc (zab rfl) za7 ?_;intro b11 aF;have C:=aF
  repeat ((with_reducible replace C:=zaa C);obtain ⟨C,_⟩:=C)
  have:=C.ne V;have:=C.ne' V
  have:=C.ne o3;have:=C.ne' o3
  have:=C.ne ow;have:=C.ne' ow
  have:=C.ne Z;have:=C.ne' Z
  have:=C.ne oA;have:=C.ne' oA
  refine nl_ ?_;refine r3_ ?_;obtain ⟨T4,l4,J⟩:=(J.new aF (nmB s)).vl;refine AWP.less T4 l4 ?_;have V:=J.o.2.1;have o3:=J.o.2.2.2.1;have ow:=J.o.mem (lw,lwB g.k) (by simp [hw])
  (unfold lwB at ow;unfold lxB at o3)
  refine s1_ ?_;refine dr_ [i0_,i1_,i2_,i3_,i4_,i5_,o6_,i7_,i8_,i9_,i10_,i11_] [6] ?_;refine r6_ ?_;refine zac rfl ?_;have U:=zdf J aG rfl (by show (oneL m).length<=_;rw [zag];omega) (λh hh=>.inl (hi.w h hh));refine ca_ rfl (U) ?_;rintro _ T5 ⟨p,rfl,J⟩;clear U;have o3:=J.o.2.2.2.1;unfold lxB at o3;refine zad ⟨nz_,?_⟩;refine r7_ ?_;refine kw_ [3,9,10,43,11,12,13] ?_;refine r4_ ?_;refine rC (vh rfl rfl Er.eqNil) ?_;refine r2_ ?_;refine cT_ ?_;refine r4_ ?_;have U:=zl_ (f:=146) (caps:=[.pointer (some ⟨b3,0,none⟩),.pointer (some ⟨b11,0,none⟩)]) (B0:=[(b3,lxB lw),(lw,lwB g.k),(b11,nmB s)]) (s:=s) (lw:=lw) (H0:=H) (l:=m) (fn:=Q) J hi hg (by simp [hw]) (zwU a1 a2 a3 (by decide) vd (zdD (by decide) (by decide) vd) (by rw [ae];omega)) (λy hy=>by simp only [List.mem_cons,List.not_mem_nil,or_false] at hy;rcases hy with rfl | rfl | rfl <;> simp [hw]) ai vd vd vd;refine ca_ rfl (U) ?_;rintro _ T6 ⟨rfl,J⟩;clear U;have aV:=J.o.1;unfold nmB at aV;refine r4_ ?_;refine dr_ [i0_,i1_,i2_,i3_,i4_,i5_] [] ?_;refine r13_ ?_;refine ⟨_,T6,⟨_,_,rfl,⟨_,_,rfl,⟨_,_,rfl,rfl,rfl⟩,rfl⟩,rfl⟩,zae,?_⟩;exact ⟨b,c,A,(Q,m),s,rfl,ad,by omega,q,af,ag,a2,J.tl.tl.sub ((List.sublist_cons_self _ _).cons_cons _)⟩
 obtain ⟨s,a1,a2,a3,ak⟩:=zb4 J (by rw [ae];omega);refine cF_ ?_;refine r8_ ?_;refine cp_ rfl (ak) ?_;refine ARun.alloc (zab rfl) za7 ?_;intro aD ao;have K:=ao
 repeat ((with_reducible replace K:=zaa K);obtain ⟨K,_⟩:=K)
 have:=K.ne V;have:=K.ne' V
 have:=K.ne o3;have:=K.ne' o3
 have:=K.ne ow;have:=K.ne' ow
 have:=K.ne Z;have:=K.ne' Z
 have:=K.ne oA;have:=K.ne' oA
 refine nl_ ?_;refine r3_ ?_;obtain ⟨T4,l4,J⟩:=(J.new ao (nmB s)).vl;refine AWP.less T4 l4 ?_;have V:=J.o.2.1;have o3:=J.o.2.2.2.1;have ow:=J.o.mem (lw,lwB g.k) (by simp [hw])
 (unfold lwB at ow;unfold lxB at o3)
 refine s1_ ?_;refine dr_ [i0_,i1_,i2_,i3_,i4_,i5_,i6_,o7_,i8_,i9_,i10_,i11_,i12_] [7] ?_;refine r7_ ?_;refine zac rfl ?_;have U:=zut (f:=148) (caps:=[.pointer (some ⟨b3,0,none⟩),.pointer (some ⟨aD,0,none⟩)]) (B0:=[(b3,lxB lw),(lw,lwB g.k),(aD,nmB s)]) (s:=s) (l:=m) (fn:=Q) J hi hg hE aG (zwV a1 a2) (λy hy=>by simp only [List.mem_cons,List.not_mem_nil,or_false] at hy;rcases hy with rfl | rfl | rfl <;> simp [hw]) a3 ai vd (by rw [ae];omega) hH;refine ca_ rfl (U) ?_;rintro _ T6 ⟨nn,rfl,J⟩;clear U;have V:=J.o.2.1;refine zad ⟨nz_,?_⟩;refine r7_ ?_;refine kw_ [3,9,10,43,14,16] ?_;refine r4_ ?_;refine rC (vh rfl rfl Er.neNil) ?_;refine r2_ ?_;refine cF_ ?_;refine r6_ ?_;refine cp_ rfl (zfn _ _ vd) ?_;have aC:(red m).length=needS m.length:=by rw [Skew.zan,Skew.zbD]
 have bb:needS m.length<=(2*m.length) / 3+1:=by unfold Skew.needS Skew.firstsN;split <;> omega
 have aN:∀ z ∈ red m,1<=z/\z<Num.top:=λz hz=>⟨Skew.zdA m z hz,Nat.lt_of_le_of_lt (Skew.zdB m z hz) (by rw [<- Skew.zbD];exact Nat.lt_of_lt_of_le (show needS m.length<1000 by omega) (by decide))⟩;obtain ⟨M0,J0,ho,aJ⟩:=zuS (J.perm (List.perm_middle (l₁:=[_,_])) (.refl _) (.refl _)) ad aa;subst aJ;have aA:(lvC (A ++ [(Q,m)])).length=(A.length+1)*2:=by rw [zgM,List.length_append];rfl
 have aq:=zb6 (n:=2) (e:=179) (cs:=lvC (A ++ [(Q,m)])) ho aA;have aj:=(za6 (n:=2) (e:=179) (cs:=lvC (A ++ [(Q,m)])) ho).own J0.o.1;unfold nmB at aj;refine r12_ ?_;refine vX (zab rfl) zf1 rfl (by decide) (by decide) rfl rfl ?_;intro a9 ay;have Y:=ay
 repeat ((with_reducible replace Y:=zaa Y);obtain ⟨Y,_⟩:=Y)
 have:=Y.ne aj;have:=Y.ne' aj
 refine vH (n:=2) (o:=some (b,c)) (k:=A.length+1) (m:=1) (cs:=lvC (A ++ [(Q,m)])) (news:=[.string s,.int .u64 (needS m.length:Nat)]) (zab rfl) zf1 rfl rfl aA ho (aq.temp ay) rfl (zeY (vf _ _ _) List.prefix_rfl) rfl (by simp [Value.oneCell']) vd vd ?_;intro o2 aw;obtain ⟨b',c',rfl⟩:=aw.some vd;obtain ⟨aE,aK⟩:=aw.own b' c' rfl;have aO:lvC (A ++ [(Q,m)]) ++ [.string s,.int .u64 (needS m.length:Nat)]=lvC (A ++ [(Q,m)] ++ [(s,red m)]):=by rw [zik (A ++ [(Q,m)]),aC]
 have ah:(A ++ [(Q,m)]).length=A.length+1:=by rw [List.length_append];rfl
 have J1:=((J0.new aE ⟨179,lvC (A ++ [(Q,m)] ++ [(s,red m)]),c'*2⟩).sub (((List.sublist_cons_self _ _).trans (List.sublist_cons_self _ _)).cons_cons _)).perm (.refl _) (zna (x:=(Q,m)) (y:=(s,red m))) (.refl _);refine r4_ ?_;refine ⟨⟨M0.set b' ⟨179,lvC (A ++ [(Q,m)] ++ [(s,red m)]),c'*2⟩,b',c',A ++ [(Q,m)],(s,red m)⟩,?_,?_,?_,?_⟩<;>try dsimp only
 ·exact ⟨rfl,by rw [ah];rfl,trivial⟩
 ·(rw [aO];exact Mem.Less.refl _)
 ·exact ⟨J1,by rw [ah];exact aK,J0.off aE,af.snoc rfl a2,by rw [List.head?_append,ag];rfl,aN,by rw [ah,aC];omega⟩
 (rw [ah];omega)
end
end Sto
end
section
open Go.RowKit Go.Shelf
open Mv
attribute [local go_sem] Oper.semAt_some
set_option maxRecDepth 100000 in
theorem zuU (l Bs b cap n:Nat) (xs:Nat->tt) (cs:Nat->Nat) (I:n<=16384) (J:Nat->tv->Prop) (W:tv)
  (Q:∀ k W,J k W->W.cell? ⟨Bs,0,none⟩=some (.slice (some ⟨b,0,none⟩) n cap) /\ ∀ j,j<n->W.cell? ⟨b,j*2,none⟩=some (.string (xs j))/\W.cell? ⟨b,j*2+1,none⟩=some (.int .u64 (cs j:Nat)))
  (hY:∀ k W,k<n->J k W->YieldAt Fence.wide 4 prog l #[.int .i64 ((n-1-k:Nat):Int),.agg #[.string (xs (n-1-k)),.int .u64 (cs (n-1-k):Nat)]] W λe V=>e = .returned (.bool true)/\J (k+1) V) (h0:J 0 W) :
  CallsIn Fence.wide 5 prog 150 #[.func (.yield l) #[] #[],.pointer (some ⟨Bs,0,none⟩)] W λe V=>(∃ v,e = .returned v)/\J n V:=by
 refine callsIn_of_wp func150 rfl trivial ?_ rfl;simp only [ntmps150,List.size_toArray,List.length_cons,List.length_nil,Nat.reduceAdd,Nat.reduceSub,Array.replicate_succ,Array.replicate_zero,List.push_toArray,List.append_toArray,List.nil_append,List.cons_append];have af:=(Q 0 W h0).1
 gi_wp2
 gi_loopw [3] (λi wr=>∃ k:Nat,k<=n/\i = .int .i64 ((n:Int)-1-k)/\J k wr)
  (λi _=>(intOf i+1).toNat)
 case atStart=>exact ⟨0,Nat.zero_le _,by simp,h0⟩
 case round =>
  obtain ⟨k,hk,rfl,C⟩:=hrel;by_cases K:k<n
  ·obtain ⟨m,hm⟩ : ∃ m,n-1-k=m:=⟨_,rfl⟩;have X:(n:Int)-1-k=m:=(by omega);have Y:m<n:=(by omega);obtain ⟨fn,tmps,assign,body,hy,hR⟩:=hY k wr K C;rw [hm] at hy;rw [X];obtain ⟨ae,ag⟩:=(Q k wr C).2 m Y;have Z:=(Q k wr C).1
   gi_wp2
   refine hR.mono ?_;rintro e W3 ⟨rfl,U⟩
   gi_wp2
   go_roundw
   case rel=>exact ⟨k+1,by omega,by simp;omega,U⟩
   case measure=>simp [intOf]
  obtain rfl:k=n:=by omega
  have e1:(k:Int)-1-k = -1:=by omega
  rw [e1]
  gi_wp2
  go_end0
  exact ⟨⟨_,rfl⟩,C⟩
namespace Mv
theorem znb {N:Nat} {gq:tw} {p1 p2:Tmp} {assign body U:Code} {Q:Exit->Act->tv->Prop} {e:Act} {w1 w0:tv} {S0 M0:Mem} {fn:Func} {rs:List ResultVar} {R:tu->Mem->Prop} (Bs b cap n:Nat) (xs:Nat->tt) (cs:Nat->Nat) (C:n<=16384) (I:Nat->Mem->Prop) (E0 E1:Env)
  (hG:Good N E0 e) (af:ev E0 gq=some (.func (.func 150) #[] #[.pointer (some ⟨Bs,0,none⟩)])) (ag:p1<N) (ah:p2<N)
  (h0:I 0 M0) (hs:Step S0 w0 M0 w1) (aj:Sub E1 E0)
  (hb:∀ k S,I k S->S.rd ⟨Bs,0,none⟩=some (.slice (some ⟨b,0,none⟩) n cap) /\ ∀ j,j<n->S.rd ⟨b,j*2,none⟩=some (.string (xs j))/\S.rd ⟨b,j*2+1,none⟩=some (.int .u64 (cs j:Nat)))
  (hQ:∀ a w,U.wpIn Fence.wide 6 prog (bodyPostM Fence.wide 6 prog fn (λe w'=>∃ v S',e = .returned v/\R v S'/\Step S0 w0 S' w')) a w->Q .normal a w)
  (ak:fn.results=rs.toArray)
  (K:∀ (l k:Nat) (S:Mem),k<n->I k S->GWP (some l) 4 [] prog N assign (Athen (GWP (some l) 4 [] prog N body (λe _ S'=>e = .normal/\I (k+1) S')) (λ_ _ _=>False)) ((p2,.agg #[.string (xs (n-1-k)),.int .u64 (cs (n-1-k):Nat)]) :: (p1,.int .i64 ((n-1-k:Nat):Int)) :: E0) S)
  (Z:∀ (D:Nat) (M:Mem),I n M->GWP none 6 [{ target:=.collected D,args:=#[] }] prog N U (Aret prog rs R) E1 M) :
  (Code.rangeFunc gq #[p1,p2] assign body).wpIn Fence.wide 6 prog Q e w1:=by
 refine zj8 (ps:=[p1,p2]) (I n) (λ_=>False) E0 hG af (by kernel_rfl) (by simp [ag,ah]) hs (λl J Jx W view step X hj=>?_) (λD M W i ai hD hK=>hQ _ _ (uJ ak ai hD hK (hG.sub aj) (Z D M i))) (λ_ _ _ h=>h.elim);refine (zuU l Bs b cap n xs cs C (λk W=>∃ S,I k S/\J S W) W (λk W ⟨S,V,Y⟩=>⟨(view Y).rd (hb k S V).1,λj hj=>⟨(view Y).rd ((hb k S V).2 j hj).1,(view Y).rd ((hb k S V).2 j hj).2⟩⟩) (λk W hk ⟨S,V,Y⟩=>?_) ⟨M0,h0,hj⟩).mono λe W' ⟨V,Y⟩=>⟨V,.inl Y⟩;obtain ⟨fn,t,a2,bo,hy,hr⟩:=X [_,_] (I (k+1)) (λ_=>False) Y rfl (GWP.mono (K l k S hk V) λe E S' hq=>(by
  cases e with
  | normal=>exact GWP.mono hq λe E S' h=>.inl h
  | _=>exact hq))
 exact ⟨fn,t,a2,bo,hy,hr.mono λe W' h=>h.resolve_right λ⟨_,_,h,_⟩=>h⟩
end Mv
end
section
open Go.RowKit Go.Shelf
open Mv Disk Num
namespace Sto
open Skew (at0 numP plc red Rk RkI)
theorem zwq:∀ {R:List (List Nat)},AscR R -> ∀ {i:Nat} (hi:i<R.length),csR R (R[i].getD 0 0)=i
 | r :: R,h,0,hi=>by rw [zgH h];exact if_neg (Nat.lt_irrefl _)
 | r :: R,h,i+1,hi=>by
  have I:=List.pairwise_cons.1 h;have C:i<R.length:=Nat.lt_of_succ_lt_succ hi;rw [zgH h];show (if r.getD 0 0<R[i].getD 0 0 then csR R (R[i].getD 0 0)+1 else 0)=i+1;rw [if_pos (I.1 _ (List.getElem_mem C)),zwq I.2 C]
theorem zwX {R:List (List Nat)} (h:AscR R) {i:Nat} (hi:i<R.length):rkR R (R[i].getD 0 0)=R[i].getD 1 0:=by
 unfold rkR;rw [zwq h hi,zcr hi,if_pos ⟨rfl,hi⟩]
theorem zwY {R:List (List Nat)} {a:Nat} (h:∀ r ∈ R,r.getD 0 0≠a):rkR R a=0:=by
 unfold rkR;refine if_neg λ⟨e,hl⟩=>?_;rw [zcr hl] at e;exact h _ (List.getElem_mem hl) e
def rkL (R:List (List Nat)) (n:Nat):List Int:=(List.range (n+3)).map λp=>(rkR R p:Int)
theorem zd2 {R:List (List Nat)} {n p:Nat} (h:p<n+3):(rkL R n).getD p 0=(rkR R p:Int):=by
 unfold rkL;rw [List.getD_eq_getElem?_getD,List.getElem?_eq_getElem (by simpa using h)];simp
theorem zwr {l e:List Nat} {R:List (List Nat)} (K:e.Perm (List.range (numP l.length))) (I:R.Perm (rowsP l.length e e.length)) (hs:SortedR R):Rk l e (rkL R l.length):=by
 have Q:=zhw K I hs;have J:∀ j,j<e.length->e.getD j 0<numP l.length:=λj C=>by
  rw [List.getD_eq_getElem?_getD,List.getElem?_eq_getElem C];exact List.mem_range.1 (K.mem_iff.1 (List.getElem_mem C))
 refine ⟨by simp [rkL],λj C=>?_,λp X=>?_⟩
 ·have hm : [plc l.length (e.getD j 0),j+1] ∈ R:=I.mem_iff.2 (List.mem_map.2 ⟨j,List.mem_range.2 C,rfl⟩);obtain ⟨i,hi,U⟩:=List.getElem_of_mem hm;have:=zwX Q hi;rw [U] at this;rw [zd2 (by have:=(Skew.zcW l.length _ (J j C)).2.2;omega)];exact congrArg Int.ofNat this
 by_cases q:p<l.length+3
 ·rw [zd2 q,zwY λr V=>?_];rfl;obtain ⟨j,C,rfl⟩:=List.mem_map.1 (I.mem_iff.1 V);exact X j (List.mem_range.1 C)
 rw [List.getD_eq_getElem?_getD,List.getElem?_eq_none (by simp [rkL];omega)];rfl
theorem or2 (a b c d:Nat):orI [cmpN a b,cmpN c d]<0 <-> a<b\/a=b/\c<d:=by
 unfold cmpN;simp only [orI]
 repeat' split
 all_goals omega
theorem or3 (a b c d x y:Nat):orI [cmpN a b,cmpN c d,cmpN x y]<0 <-> a<b\/a=b/\(c<d\/c=d/\x<y):=by
 unfold cmpN;simp only [orI]
 repeat' split
 all_goals omega
theorem zwZ {l e:List Nat} {R:List (List Nat)} (C:∀ x ∈ l,1<=x) (I:Ord.SortedE (red l) e) (J:Rk l e (rkL R l.length)) {p q:Nat} (K:p<l.length) (U:p % 3≠0) (Q:q<l.length) (V:q % 3=0):ahB (srow l R p) (zrow l R q)=Ord.sl l p q:=by
 rw [Bool.eq_iff_iff];show (if p % 3=1 then decide (orI [cmpN (at0 l p) (at0 l q),cmpN (rkR R (p+1)) (rkR R (q+1))]<0) else decide (orI [cmpN (at0 l p) (at0 l q),cmpN (at0 l (p+1)) (at0 l (q+1)),cmpN (rkR R (p+2)) (rkR R (q+2))]<0))=true <-> _;split
 ·next h =>
  rw [decide_eq_true_eq,or2,Skew.zlU l e _ C I J p q K Q vd vd vd,zd2 vd,zd2 vd,Int.ofNat_lt]
 next h =>
 rw [decide_eq_true_eq,or3,Skew.zsL l e _ C I J p q K Q vd vd vd,zd2 vd,zd2 vd,Int.ofNat_lt]
def leS (l:List Nat) (a b:Nat):Bool:=!Ord.sl l b a
theorem zdG (l:List Nat):∀ (S Z:List (List Nat)),(∀ s ∈ S,∀ z ∈ Z,ahB s z=leS l (s.getD 1 0) (z.getD 2 0))->brd S Z=List.merge (S.map λs=>s.getD 1 0) (Z.map λz=>z.getD 2 0) (leS l)
 | [],[],_=>by rw [brd];simp
 | s :: S,[],h=>by
  rw [brd,zdG l S [] λ_ _ _ K=>by cases K];simp
 | [],z :: Z,h=>by
  rw [brd,zdG l [] Z λ_ hs=>by cases hs];simp
 | s :: S,z :: Z,h=>by
  have J:=h s (List.mem_cons_self ..) z (List.mem_cons_self ..);rw [brd,List.map_cons,List.map_cons,List.cons_merge_cons,J];split
  ·rw [zdG l S (z :: Z) λx C=>h x (List.mem_cons_of_mem _ C),List.map_cons]
  rw [zdG l (s :: S) Z λx C y I=>h x C y (List.mem_cons_of_mem _ I),List.map_cons]
 termination_by a b=>a.length+b.length
theorem zuV {l e o:List Nat} (h1:∀ x ∈ l,1<=x) (he:Ord.SortedE (red l) e) (h:Expd l e l.length o):Ord.SortedE l o:=by
 obtain ⟨R,S,Z,hR,al,hS,au,hZ,af,rfl⟩:=h;have aj:e.Perm (List.range (numP l.length)):=by have:=he.1;rwa [Skew.zan] at this
 have hr:=zwr aj hR al;have mS:∀ s ∈ S,∃ p,p<l.length/\p % 3≠0/\s=srow l R p:=λs hs=>by
  obtain ⟨p,hp,rfl⟩:=List.mem_map.1 (hS.mem_iff.1 hs);have:=List.mem_filter.1 hp;exact ⟨p,List.mem_range.1 this.1,by simpa using this.2,rfl⟩
 have mZ:∀ z ∈ Z,∃ q,q<l.length/\q % 3=0/\z=zrow l R q:=λz hz=>by
  obtain ⟨q,hq,rfl⟩:=List.mem_map.1 (hZ.mem_iff.1 hz);have:=List.mem_filter.1 hq;exact ⟨q,List.mem_range.1 this.1,by simpa using this.2,rfl⟩
 have U:∀ a b,a<l.length->b<l.length->a≠b->Ord.sl l a b = !Ord.sl l b a:=λa b ha hb ad=>by
  cases K:Ord.sl l b a with
  | true=>exact Ord.zh8 l b a K
  | false =>
   cases I:Ord.sl l a b with
   | true=>rfl
   | false=>exact absurd (Ord.zfR l a b ha hb I K) ad
 rw [zdG l S Z λs hs z hz=>by
  obtain ⟨p,p1,Y,rfl⟩:=mS s hs;obtain ⟨q,V,q3,rfl⟩:=mZ z hz;rw [zwZ h1 he hr p1 Y V q3];exact U p q p1 V vd]
 have hP:((S.map λs=>s.getD 1 0) ++ (Z.map λz=>z.getD 2 0)).Perm (List.range l.length):=by
  refine ((hS.map _).append (hZ.map _)).trans ?_;unfold rowsS rowsZ;rw [List.map_map,List.map_map];have e1:∀ L:List Nat,L.map ((λs:List Nat=>s.getD 1 0) ∘ srow l R)=L:=λL=>by rw [show (λs:List Nat=>s.getD 1 0) ∘ srow l R=id from rfl,List.map_id]
  have e2:∀ L:List Nat,L.map ((λs:List Nat=>s.getD 2 0) ∘ zrow l R)=L:=λL=>by rw [show (λs:List Nat=>s.getD 2 0) ∘ zrow l R=id from rfl,List.map_id]
  rw [e1,e2];exact List.perm_append_comm.trans (List.filter_append_perm _ _)
 have an:=List.merge_perm_append (leS l) (xs:=S.map λs=>s.getD 1 0) (ys:=Z.map λz=>z.getD 2 0);have J:=an.trans hP;have hw:=List.pairwise_merge (le:=leS l) (λa b c K I=>by
  unfold leS at *;rw [Bool.not_eq_true'] at *;exact Ord.zgz _ _ _ I K) (λa b=>by
  unfold leS;cases K:Ord.sl l b a with
  | true=>rw [Ord.zh8 l b a K];rfl
  | false=>rfl) (S.map λs=>s.getD 1 0) (Z.map λz=>z.getD 2 0) (by
  rw [List.pairwise_map];refine au.imp_of_mem λ{x y} hx hy I=>?_;obtain ⟨p,p1,Y,rfl⟩:=mS x hx;obtain ⟨q,V,q3,rfl⟩:=mS y hy;show (!Ord.sl l q p)=true;rw [Bool.not_eq_true'];cases Q:Ord.sl l q p with
  | false=>rfl
  | true =>
   by_cases C:q=p
   ·rw [C,Ord.zcV] at Q;cases Q
   have:=(Skew.zum l e _ h1 he hr q p vd vd (.inr q3) (.inr Y) C).2 Q;rw [zd2 vd,zd2 vd,Int.ofNat_lt] at this;unfold srow at I;simp only [lessB,Bool.or_eq_false_iff,decide_eq_false_iff_not] at I;omega) (by
  rw [List.pairwise_map];refine af.imp_of_mem λ{x y} hx hy I=>?_;obtain ⟨p,p1,Y,rfl⟩:=mZ x hx;obtain ⟨q,V,q3,rfl⟩:=mZ y hy;show (!Ord.sl l q p)=true;rw [Bool.not_eq_true'];cases Q:Ord.sl l q p with
  | false=>rfl
  | true =>
   by_cases C:q=p
   ·rw [C,Ord.zcV] at Q;cases Q
   have:=(Skew.zlU l e _ h1 he hr q p V p1 vd vd C).1 Q;rw [zd2 vd,zd2 vd,Int.ofNat_lt] at this;unfold zrow at I;simp only [lessB,Bool.or_eq_false_iff,decide_eq_false_iff_not,Bool.and_eq_false_iff] at I;omega)
 refine ⟨J,?_⟩;have X:=J.nodup_iff.2 List.nodup_range;rw [List.nodup_iff_pairwise_ne] at X;refine (X.and hw).imp_of_mem λ{a b} ha hb ⟨K,I⟩=>?_;rw [U a b (List.mem_range.1 (J.mem_iff.1 ha)) (List.mem_range.1 (J.mem_iff.1 hb)) K];exact I
theorem zma {l e o:List Nat} (C:∀ x ∈ l,1<=x) (I:e=Ord.endsR (red l) (red l).length) (h:Expd l e l.length o):o=Ord.endsR l l.length :=
 Ord.zem (zuV C (by rw [I];exact Ord.zbC _) h) (Ord.zbC l)
end Sto
end
section
open Go.RowKit Go.Shelf
open Mv Disk Num
namespace Sto
open Skew (needS firstsN numP red)
theorem zkS (a:Option Addr) (n c:Nat) (S:Mem):ACall prog 99 #[.slice a n c] S λr S'=>∃ b,Fresh S b/\r = .func (.func 150) #[] #[.pointer (some ⟨b,0,none⟩)]/\S'=S.set b ⟨175,[.slice a n c],1⟩:=by
 refine k_E1 4 func99 ?_;refine r2_ ?_;refine vo (zab rfl) rfl rfl ?_;intro I f1;have C:=f1
 repeat ((with_reducible replace C:=zaa C);obtain ⟨C,_⟩:=C)
 refine nl_ ?_;refine r10_ ?_;refine ⟨_,_,⟨_,_,rfl,rfl,rfl⟩,Mem.Less.refl _,?_⟩;exact ⟨I,f1,rfl,rfl⟩
def OkL (x:Lv):Prop:=(∀ z ∈ x.2,1<=z/\z<Num.top)/\x.2.length<=60
theorem zws {m:List Nat} (h:m.length<=60):(∀ z ∈ red m,1<=z/\z<Num.top)/\(red m).length<=60:=by
 have J:(red m).length=needS m.length:=by rw [Skew.zan,Skew.zbD]
 have I:needS m.length<=60:=by unfold Skew.needS Skew.firstsN;split <;> omega
 exact ⟨λz C=>⟨Skew.zdA m z C,Nat.lt_of_le_of_lt (Skew.zdB m z C) (by rw [<- Skew.zbD];exact Nat.lt_of_lt_of_le (show needS m.length<1000 by omega) (by decide))⟩,by omega⟩
theorem Chn.ok:∀ {X:List Lv} {x:Lv},Chn (x :: X)->OkL x -> ∀ y ∈ x :: X,OkL y
 | [],x,_,h,y,hy=>by rw [List.mem_singleton.1 hy];exact h
 | z :: X,x,hc,h,y,hy=>by
  rcases List.mem_cons.1 hy with rfl | hy
  ·exact h
  exact Chn.ok hc.2.2 (by unfold OkL;rw [hc.1];exact zws h.2) y hy
theorem Chn.at:∀ {X:List Lv},Chn X -> ∀ {i:Nat} (hi:i+1<X.length),X[i+1].2=red X[i].2/\tld X[i+1].1=true
 | _ :: _ :: _,h,0,_=>⟨h.1,h.2.1⟩
 | _ :: b :: t,h,i+1,hi=>Chn.at (X:=b :: t) h.2.2 (i:=i) (Nat.lt_of_succ_lt_succ hi)
def bkB (b n c:Nat):Blk:=⟨175,[.slice (some ⟨b,0,none⟩) n c],1⟩
def lvB1 (x:Lv):Blk:=⟨179,[.string x.1,.int .u64 (x.2.length:Nat)],2⟩
def endsA (X:List Lv) (i:Nat):List Nat:=Ord.endsR (X.getD i (ByteArray.empty,[])).2 (X.getD i (ByteArray.empty,[])).2.length
theorem znc (A:List Lv) (x:Lv):endsA (A ++ [x]) A.length=Ord.endsR x.2 x.2.length:=by
 unfold endsA;rw [List.getD_eq_getElem?_getD,List.getElem?_append_right (Nat.le_refl _),Nat.sub_self];rfl
theorem zsW:∀ (X:List Lv) {j:Nat} (h:j<X.length),(lvC X)[j*2]?=some (.string X[j].1)/\(lvC X)[j*2+1]?=some (.int .u64 (X[j].2.length:Nat))
 | x :: X,0,_=>⟨rfl,rfl⟩
 | x :: X,j+1,h=>by
  have:=zsW X (j:=j) (Nat.lt_of_succ_lt_succ h);have e:lvC (x :: X) = .string x.1 :: .int .u64 (x.2.length:Nat) :: lvC X:=rfl;rw [e,show (j+1)*2=j*2+1+1 from by omega,List.getElem?_cons_succ,List.getElem?_cons_succ,List.getElem?_cons_succ,List.getElem?_cons_succ];exact this
structure ArY where
  M:Mem
  lb:Nat
  lc:Nat
  b11:Nat
  A:List Lv
  x:Lv
  en:tt
section
variable {g:Cx} {B B0:List (Nat × Blk)} {F:List Fl} {H:List Sh} {lw:Nat} {fn s:tt} {l:List Nat} {T:Mem} {f:tA} {caps:List tu}
theorem zr_ (I:Op g B (fl1 (fn,l) :: F) H 0 T) (hi:Idle H) (hg:g.ll = []/\g.lc=0) (hE:errK g) (hw:(lw,lwB g.k) ∈ B) (aA:Opn g B0 f caps s) (bd:∀ y ∈ B0,y ∈ B) (bI:s ∉ nms (fl1 (fn,l) :: F) H) (hl:∀ z ∈ l,1<=z/\z<Num.top) (hc:l.length<=60) (bR:F.length+H.length<=8) (hH:H.length<=1) :
  ACall prog 55 #[self lw,.string fn,.func (.func f) #[] caps.toArray] T λv T'=>v = .nilIface/\Op g B (flR s 1 (oneL (Ord.endsR l l.length)) :: fl1 (fn,l) :: F) H 0 T':=by
 have az:=I.gm;have bL:=zsV az.1;refine vI (args:=[self lw,.string fn,.func (.func f) #[] caps.toArray]) (rs:=[.cell 6 52]) 148 [(0,self lw),(1,.string fn),(2,.func (.func f) #[] caps.toArray)] func55 rfl rfl (Nat.le_of_ble_eq_true rfl) rfl ⟨rfl,rfl,rfl,trivial⟩ ?_;refine vj (rs:=[.cell 6 52]) rfl ?_;refine s1_ ?_;refine vo (zab rfl) rfl rfl ?_;intro b3 f3;have g3:=f3
 repeat ((with_reducible replace g3:=zaa g3);obtain ⟨g3,_⟩:=g3)
 refine nl_ ?_;refine ARun.alloc (zab rfl) za_ ?_;intro b6 f6;have g6:=f6
 repeat ((with_reducible replace g6:=zaa g6);obtain ⟨g6,_⟩:=g6)
 refine nl_ ?_;refine r2_ ?_;obtain ⟨T0,l0,I⟩:=((I.new f3 (lxB lw)).new f6 bxE).vl;refine AWPM.less T0 l0 ?_;have Z:=I.o.2.1;have ow:=I.o.mem (lw,lwB g.k) (by simp [hw])
 (unfold lwB at ow;unfold lxB at Z)
 refine vj (rs:=[.cell 6 52]) rfl ?_;refine r6_ ?_;have C:=zdf I (List.mem_cons_self ..) rfl (by show (oneL l).length<=_;rw [zag];omega) (λh hh=>.inl (hi.w h hh));refine ca_ rfl (C) ?_;rintro _ T1 ⟨p,rfl,I⟩;clear C;refine r3_ ?_;refine ARun.alloc (zab rfl) za_ ?_;intro Y f8;have g8:=f8
 repeat ((with_reducible replace g8:=zaa g8);obtain ⟨g8,_⟩:=g8)
 refine nl_ ?_;refine r4_ ?_;refine kM_ [0,1,2,3,6,8,7] ?_;obtain ⟨T2,l2,I⟩:=(I.new f8 bxE).vl;refine AWPM.less T2 l2 ?_;have K:=I.o.1;unfold bxE at K;refine vj (rs:=[.cell 6 52]) rfl ?_;refine r3_ ?_;refine rC (vh rfl rfl Er.neNil) ?_;refine r2_ ?_;refine cF_ ?_;obtain ⟨f0,h0,oq⟩:=Op.rq [] I
 (unfold rdB at oq;dsimp only [fl1,flR] at oq;rw [zag] at oq)
 obtain ⟨bl,aA⟩:=aA (F:=fl1 (fn,l) :: F) (H:=.rd p fn 1 (oneL l).length 0 ((oneL l).flatMap recB) true :: H) (w:=1) (c:=l.length) bI (by decide) vd (zdD (by decide) (by decide) hc) (by simp only [List.length_cons];omega);refine r2_ ?_;refine vj (rs:=[.cell 6 52]) rfl ?_;refine r6_ ?_;refine vn (zab rfl) bl rfl rfl (aA (λy hy=>List.mem_cons_of_mem _ (List.mem_cons_of_mem _ (List.mem_cons_of_mem _ (bd y hy)))) I) ?_;rintro _ T3 ⟨qo,rfl,I⟩;have K:=I.o.1;unfold bxE at K;refine r3_ ?_;refine ARun.alloc (zab rfl) zbo ?_;intro b9 f9;have g9:=f9
 repeat ((with_reducible replace g9:=zaa g9);obtain ⟨g9,_⟩:=g9)
 have:=g9.ne K;have:=g9.ne' K
 refine nl_ ?_;refine r4_ ?_;refine kM_ [0,1,2,3,6,8,7,28,9] ?_;obtain ⟨T4,l4,I⟩:=((I.new f9 (bxB qo)).put [_] bxE).vl;refine AWPM.less T4 l4 ?_;have K:=I.o.2.1;have Z:=I.o.2.2.2.1;have ow:=I.o.mem (lw,lwB g.k) (by simp [hw]);obtain ⟨tm,br⟩:=I.wk;obtain ⟨x4,i4,oA,bk⟩:=I.ark;obtain ⟨f1,h1,oq⟩:=Op.rq [_] I
 (unfold rdB at oq;dsimp only at oq;rw [zag] at oq)
 (unfold bxE at K;unfold arB at oA;rw [bk] at oA;unfold wkB at br;unfold lwB at ow;unfold lxB at Z)
 refine vj (rs:=[.cell 6 52]) rfl ?_;refine r3_ ?_;refine rC (vh rfl rfl Er.neNil) ?_;refine r2_ ?_;refine cF_ ?_;refine r2_ ?_;refine vj (rs:=[.cell 6 52]) rfl ?_;refine s1_ ?_;refine dr_ [i0_,i1_,i2_,i3_,i4_,i5_,i6_,i7_,i8_,i9_,i10_,i11_,i12_,i13_,i14_,o15_,i16_] [] ?_;refine r15_ ?_;refine zac rfl ?_;refine cp_ rfl (zpu g.m _ az.1 az.2) ?_;refine zad ⟨ny_,?_⟩;refine r3_ ?_;by_cases q:l.length<=64*(g.m-8) / 40
 ·refine cT_ ?_;refine r5_ ?_;have C:=zl_ (f:=97) (caps:=[.pointer (some ⟨b9,0,none⟩)]) (B0:=[(b9,bxB qo)]) (s:=s) (lw:=lw) (H0:=wtR qo s 1 [] (Rec.needN 1 l.length) :: H) (H:=H) (l:=l) (fn:=fn) (I.perm (.refl _) (.refl _) (List.Perm.swap ..)) (Idle.cons hi) hg (by simp [hw]) (zwW b9) (by simp) hl hc (by show H.length+1<=5;omega) vd;refine ca_ rfl (C) ?_;rintro _ T5 ⟨rfl,I⟩;clear C;have o6:=I.o.2.2.1;unfold bxE at o6;refine st_ o6 ?_;refine r4_ ?_;refine ⟨_,T5,⟨_,_,_,rfl,.inl ⟨zaV,rd_⟩,rfl,rfl⟩,(by show Mem.Less T5 (T5.set b6 ⟨52,[.nilIface],1⟩);rw [vB _ _ _ o6];exact Mem.Less.refl _),?_⟩;exact ⟨rfl,I.tl.tl.tl.tl⟩
 obtain ⟨fz,I⟩:=zdx [_] I;rw [zag] at I;obtain ⟨pB,aR⟩ : ∃ pB,pB=rdB g.a ⟨fn,1,l.length,0,fz,0⟩:=⟨_,rfl⟩;replace I:Op g ((p,pB) :: (b9,bxB qo) :: (Y,bxE) :: (b6,bxE) :: (b3,lxB lw) :: B) (fl1 (fn,l) :: F) (wtR qo s 1 [] (Rec.needN 1 l.length) :: H) 0 T4:=by rw [aR];exact I
 have aK:(pickM T4 [b3,p]).Less T4:=I.pick I [(b3,lxB lw),(p,pB)] (by simp);have mp:(pickM T4 [b3,p]).own p=some pB:=(zaW (by simp)).trans I.o.1;have m3:(pickM T4 [b3,p]).own b3=some (lxB lw):=(zaW (by simp)).trans I.o.2.2.2.2.1;have nd:=I.nd;simp only [List.map_cons,List.nodup_cons,List.mem_cons,not_or] at nd;have bA:(pickM T4 [b3,p]).own Y=none:=zig (by simp only [List.mem_cons,List.not_mem_nil,or_false,not_or];omega);have ax:=λ{F' H' n' T'} (J':Op g ((p,pB) :: (b9,bxB qo) :: (Y,bxE) :: (b6,bxE) :: (b3,lxB lw) :: B) F' H' n' T')=>I.pick J' [(b3,lxB lw),(p,pB)] (by simp);have aw:=λ{B':List (Nat × Blk)} {M:Mem} (J:Op g B' (fl1 (fn,l) :: F) (wtR qo s 1 [] (Rec.needN 1 l.length) :: H) 0 M) (hB:(lw,lwB g.k) ∈ B')=>zuT (lw:=lw) (fn:=fn) (l:=l) (F:=F) (H:=wtR qo s 1 [] (Rec.needN 1 l.length) :: H) J (Idle.cons hi) hg hE hB hl hc (show F.length+(H.length+1)<=12 by omega) (show H.length+1<=2 by omega);rw [aR] at mp
 (unfold rdB at mp;dsimp only at mp;unfold lxB at m3)
 refine cF_ ?_;refine r2_ ?_;refine vj (rs:=[.cell 6 52]) rfl ?_;refine AWP.join (X:=ArY) (λX=>[(3,.pointer (some ⟨b3,0,none⟩)),(6,.pointer (some ⟨b6,0,none⟩)),(8,.pointer (some ⟨Y,0,none⟩)),(9,.pointer (some ⟨b9,0,none⟩)),(10,.slice (some ⟨X.lb,0,none⟩) (X.A.length+1) X.lc),(11,.pointer (some ⟨X.b11,0,none⟩))]) (λX=>X.M) (λX=>X.A.length+1<=X.lc/\X.A.length<=3/\X.x.2.length<=64*(g.m-8) / 40/\Chn (X.A ++ [X.x])/\(X.A ++ [X.x]).head?=some (fn,l)/\tld X.en=true/\Op g ((X.b11,nmB X.en) :: (X.lb,⟨179,lvC (X.A ++ [X.x]),X.lc*2⟩) :: (p,pB) :: (b9,bxB qo) :: (Y,bxE) :: (b6,bxE) :: (b3,lxB lw) :: B) (fl1 (X.en,Ord.endsR X.x.2 X.x.2.length) :: ((X.A ++ [X.x]).map fl1 ++ F)) (wtR qo s 1 [] (Rec.needN 1 l.length) :: H) 0 X.M) ?_ ?_
 ·refine uj (pickM T4 [b3,p]) [6] mixed zae ?_;refine dgl 0 rfl rfl (ld_ zfq rfl) ?_;refine dgp 1 rfl rfl (λ_=>Calm.move rfl) ?_;refine dgp 2 rfl rfl (λ_=>Calm.move rfl) ?_;refine dgp 3 rfl rfl (λ_=>Calm.nilCheck rfl) ?_;refine dgp 4 rfl rfl (λ_=>Calm.fieldAddr zcC rfl) ?_;refine dgl 5 rfl rfl (ld_ zbE rfl) ?_;refine DG.two 6 11 (by kernel_rfl) rfl ?_ rfl ?_
  ·have C:=aw I (by simp [hw]);refine ca_ rfl (C) ?_;rintro _ T5 ⟨lb,lc,A,x,en,rfl,k1,k2,k3,k4,k5,k6,J⟩;clear C;have aT:(pickM T4 [b3,p]).Less T5:=ax J.tl;refine zad ⟨nz_,?_⟩;refine dgp 7 rfl rfl (λ_=>Calm.move rfl) ?_;refine dgp 8 rfl rfl (λ_=>Calm.extract rfl rfl) ?_;refine dgp 9 rfl rfl (λ_=>Calm.extract rfl rfl) ?_;refine dgp 10 rfl rfl (λ_=>Calm.extract rfl rfl) ?_;refine DG.only 11 (by kernel_rfl) rfl ?_;refine ARun.alloc (zab rfl) za7 ?_;intro b11 aa;have U:=aa
   repeat ((with_reducible replace U:=zaa U);obtain ⟨U,_⟩:=U)
   refine nl_ ?_;have aJ:(pickM T4 [b3,p]).own b11=none:=zh2 aT aa.1;have K:=J.o.2.2.2.1;unfold bxE at K;refine zad ⟨ny_,?_⟩;refine dgp 12 rfl rfl (λ_=>Calm.assign rfl) ?_;refine DG.only 13 (by kernel_rfl) rfl ?_;refine vm rfl rfl zcp rfl (vf _ _ _) (show 0<1 by decide) rfl ?_;refine nm_ ?_;refine zad ⟨ny_,?_⟩;refine DG.only 14 (by kernel_rfl) rfl ?_;refine st_ ((vg _ _ (aa.ne K)).trans K) ?_;refine zad ⟨ny_,?_⟩;refine uf (by kernel_rfl) ?_;refine ⟨⟨(T5.set b11 (nmB en)).set Y bxE,lb,lc,b11,A,x,en⟩,?_,?_,?_⟩<;>try dsimp only
   ·exact ⟨k1,k2,k3,k4,k5,k6,(J.new aa (nmB en)).put [_,_,_,_] bxE⟩
   ·exact ⟨rfl,rfl,rfl,rfl,rfl,rfl,trivial⟩
   exact Mem.Less.refl _
  refine ARun.alloc (zab rfl) za7 ?_;intro b11 aa;have U:=aa
  repeat ((with_reducible replace U:=zaa U);obtain ⟨U,_⟩:=U)
  refine nl_ ?_;have aJ:(pickM T4 [b3,p]).own b11=none:=zh2 aK aa.1;have J:=I.new aa ⟨9,[.string ByteArray.empty],1⟩;refine zad ⟨ny_,?_⟩;refine DG.only 6 (by kernel_rfl) rfl ?_;have C:=aw J (by simp [hw]);refine ca_ rfl (C) ?_;rintro _ T5 ⟨lb,lc,A,x,en,rfl,k1,k2,k3,k4,k5,k6,J⟩;clear C;have aT:(pickM T4 [b3,p]).Less T5:=ax J.tl.tl;have Q:=J.o.2.1;have K:=J.o.2.2.2.2.1;have n8:Y≠b11:=J.ne (i:=4) (j:=1) rfl rfl (by decide);unfold bxE at K;refine zad ⟨nz_,?_⟩;refine dgp 7 rfl rfl (λ_=>Calm.move rfl) ?_;refine dgp 8 rfl rfl (λ_=>Calm.extract rfl rfl) ?_;refine dgp 9 rfl rfl (λ_=>Calm.extract rfl rfl) ?_;refine dgp 10 rfl rfl (λ_=>Calm.extract rfl rfl) ?_;refine dgp 12 rfl rfl (λ_=>Calm.assign rfl) ?_;refine DG.only 13 (by kernel_rfl) rfl ?_;refine st_ Q ?_;refine zad ⟨ny_,?_⟩;refine DG.only 14 (by kernel_rfl) rfl ?_;refine st_ ((vg _ _ n8).trans K) ?_;refine zad ⟨ny_,?_⟩;refine uf (by kernel_rfl) ?_;refine ⟨⟨(T5.set b11 (nmB en)).set Y bxE,lb,lc,b11,A,x,en⟩,?_,?_,?_⟩<;>try dsimp only
  ·exact ⟨k1,k2,k3,k4,k5,k6,((J.put [_] (nmB en)).put [_,_,_,_] bxE).perm (List.Perm.swap ..) (.refl _) (.refl _)⟩
  ·exact ⟨rfl,rfl,rfl,rfl,rfl,rfl,trivial⟩
  exact Mem.Less.refl _
 rintro ⟨T5,lb,lc,b11,A,x,en⟩ ⟨k1,k2,k3,k4,k5,k6,J⟩;intro _ _ aH aI;(try dsimp only at *);refine zbO ?_;refine AWPM.sub _ aH (AWPM.less _ aI ?_);clear aH aI;replace J:Op g ((b11,nmB en) :: (lb,⟨179,lvC (A ++ [x]),lc*2⟩) :: (p,pB) :: (b9,bxB qo) :: (Y,bxE) :: (b6,bxE) :: (b3,lxB lw) :: B) (fl1 (en,Ord.endsR x.2 x.2.length) :: ((A ++ [x]).map fl1 ++ F)) (wtR qo s 1 [] (Rec.needN 1 l.length) :: H) 0 T5:=J;clear ax aw aK m3 mp bA nd I;have aL:A ≠ []:=λe=>by
  subst e;rw [List.nil_append,List.head?_cons] at k5;rw [Option.some.inj k5] at k3;exact q k3
 have bb:tld x.1=true:=by
  obtain ⟨A0,v0,aV⟩:=(List.eq_nil_or_concat A).resolve_left aL;rw [List.concat_eq_append] at aV;rw [aV] at k4;exact k4.last.2.2
 have bh:∀ y ∈ A ++ [x],OkL y:=by
  rcases hX:A ++ [x] with _ | ⟨y,X⟩
  ·simp at hX
  rw [hX] at k4 k5;rw [Option.some.inj k5] at k4 ⊢;exact k4.ok ⟨hl,hc⟩
 have K:=J.o.2.2.2.2.1;unfold bxE at K;refine vj (rs:=[.cell 6 52]) rfl ?_;refine r3_ ?_;refine rC (vh rfl rfl Er.neNil) ?_;refine r2_ ?_;refine kw_ [3,6,8,9,10,11,75] ?_;refine cF_ ?_;have ba:T5.Knows ⟨lb,A.length*2,none⟩ [.string x.1,.int .u64 (x.2.length:Nat)]:=vq J.o.2.1 _ _ λj v hj=>by
  show (lvC (A ++ [x]))[A.length*2+j]?=some v;rw [zik,List.getElem?_append_right (by rw [zgM];omega),zgM,Nat.add_sub_cancel_left];exact hj
 refine r2_ ?_;refine vj (rs:=[.cell 6 52]) rfl ?_;refine r6_ ?_;refine rC (ldA_ (cs:=[.string x.1,.int .u64 (x.2.length:Nat)]) ze6 zc6 rfl (.inr (zf9 ba vd))) ?_;refine ARun.alloc (zab rfl) zc7 ?_;intro b12 aP;have ae:=aP
 repeat ((with_reducible replace ae:=zaa ae);obtain ⟨ae,_⟩:=ae)
 have:=ae.ne K;have:=ae.ne' K
 refine nl_ ?_;refine r3_ ?_;refine kM_ [3,6,8,9,10,11,75,12] ?_;obtain ⟨T6,l6,J⟩:=(J.new aP ⟨179,[.string x.1,.int .u64 (x.2.length:Nat)],2⟩).vl;refine AWPM.less T6 l6 ?_;have bW:=J.o.1;have Z:=J.o.mem (b3,lxB lw) (by simp);have ow:=J.o.mem (lw,lwB g.k) (by simp [hw])
 (unfold lwB at ow;unfold lxB at Z)
 refine vj (rs:=[.cell 6 52]) rfl ?_;refine s1_ ?_;refine dr_ [i0_,i1_,i2_,i3_,i4_,i5_,o6_,i7_] [6] ?_;refine r6_ ?_;refine zac rfl ?_;have C:=zbL (f:=fl1 x) (fl1 (en,Ord.endsR x.2 x.2.length) :: A.map fl1) (F:=F) (J.perm (.refl _) (by rw [List.map_append,List.append_assoc];exact .refl _) (.refl _)) bb (Idle.cons hi).w (by simp only [List.length_append,List.length_cons,List.length_map];omega);refine ca_ rfl (C) ?_;rintro _ T7 ⟨rfl,J⟩;clear C;refine zad ⟨nz_,?_⟩;refine r6_ ?_;refine rC (vh rfl rfl Er.neNil) ?_;refine r2_ ?_;refine cF_ ?_;refine r2_ ?_;refine vO ?_;refine AWPM.seq ?_;refine r5_ ?_;refine rC (vK A.length underlying175 zc6 rfl rfl vd vd) ?_;refine ca_ rfl (zkS _ _ _ _) ?_;rintro _ S9 ⟨bs,fs,rfl,h9⟩;rw [h9];clear h9 S9;intro S0 w0 e w1 bF bD;refine wpIn_block ?_;refine znb (N:=148) (p1:=99) (p2:=100) bs lb lc A.length (λj=>(A.getD j x).1) (λj=>(A.getD j x).2.length) vd (λk M=>(k<A.length /\ ∃ en,tld en=true/\Op g ((bs,bkB lb A.length lc) :: (b12,lvB1 x) :: (b11,nmB en) :: (lb,⟨179,lvC (A ++ [x]),lc*2⟩) :: (p,pB) :: (b9,bxB qo) :: (Y,bxE) :: (b6,bxE) :: (b3,lxB lw) :: B) (fl1 (en,endsA (A ++ [x]) (A.length-k)) :: ((A.take (A.length-k)).map fl1 ++ F)) (wtR qo s 1 [] (Rec.needN 1 l.length) :: H) 0 M)\/(k=A.length /\ ∃ en,Op g ((bs,bkB lb A.length lc) :: (b12,lvB1 x) :: (b11,nmB en) :: (lb,⟨179,lvC (A ++ [x]),lc*2⟩) :: (p,pB) :: (b9,bxB qo) :: (Y,bxE) :: (b6,bxE) :: (b3,lxB lw) :: B) (flR s 1 (oneL (Ord.endsR l l.length)) :: fl1 (fn,l) :: F) H 0 M)) [(3,_),(6,_),(8,_),(9,_),(11,_),(98,_)] [(6,_)] (bD.sub ⟨rfl,rfl,rfl,rfl,rfl,rfl,trivial⟩) rfl (zab rfl) (zab rfl) (.inl ⟨List.length_pos_iff.2 aL,en,k6,by rw [Nat.sub_zero,List.take_length,znc];exact J.new fs (bkB lb A.length lc)⟩) bF ⟨rfl,trivial⟩ ?blk (rs:=[.cell 6 52]) (λ_ _ h=>h) rfl ?round ?done
 case blk =>
  rintro k M hI;obtain ⟨hs,hl⟩ : M.own bs=some (bkB lb A.length lc)/\M.own lb=some ⟨179,lvC (A ++ [x]),lc*2⟩:=by
   rcases hI with ⟨_,_,_,J⟩ | ⟨_,_,J⟩ <;> exact ⟨J.o.1,J.o.2.2.2.1⟩
  refine ⟨zbP hs rfl,λj hj=>?_⟩;have hk:=zsW (A ++ [x]) (j:=j) (by rw [List.length_append];omega);have bj:(A ++ [x])[j]'(by rw [List.length_append];omega)=A.getD j x:=by rw [List.getElem_append_left hj,gd hj]
  rw [bj] at hk;exact ⟨zbP hl hk.1,zbP hl hk.2⟩
 case round =>
  rintro l0 k M hk hI;obtain ⟨_,en,aM,J⟩:=hI.resolve_right λh=>by omega
  obtain ⟨i,aN⟩ : ∃ i,i=A.length-1-k:=⟨_,rfl⟩;have ac:i<A.length:=by omega
  have bm:A.length-k=i+1:=by omega
  have bu:A.take (i+1)=A.take i ++ [A[i]]:=List.take_succ_eq_append_getElem ac;have a8:=Chn.at k4 (i:=i) (by rw [List.length_append];exact Nat.succ_lt_succ ac);have av:(A ++ [x])[i]'(by rw [List.length_append];omega)=A[i]:=List.getElem_append_left ac;have bH:endsA (A ++ [x]) (i+1)=Ord.endsR (red A[i].2) (red A[i].2).length:=by
   unfold endsA;rw [gd (by rw [List.length_append];exact Nat.succ_lt_succ ac),a8.1,av]
  have bc:endsA (A ++ [x]) i=Ord.endsR A[i].2 A[i].2.length:=by
   unfold endsA;rw [gd (by rw [List.length_append];omega),av]
  have al:=bh A[i] (List.mem_append_left _ (List.getElem_mem ac));have bo:i≠0->tld A[i].1=true:=λh0=>by
   obtain ⟨j,rfl⟩ : ∃ j,i=j+1:=⟨i-1,by omega⟩;have:=(Chn.at k4 (i:=j) (by rw [List.length_append];omega)).2;rwa [av] at this
  have bv:i=0->A[i]=(fn,l):=λh0=>by
   subst h0;have:=k5;rw [List.head?_append,List.head?_eq_getElem?,List.getElem?_eq_getElem ac] at this;exact Option.some.inj this
  rw [<- aN,gd ac];rw [bm,bu,bH] at J;rw [<- aN] at *;generalize A[i]=v at *;have aQ:(Ord.endsR (red v.2) (red v.2).length).Perm (List.range (Skew.numP v.2.length)):=by
   rw [<- Skew.zan];exact (Ord.zbC (red v.2)).1
  have ao:(A.take i).length=i:=by rw [List.length_take];omega
  have au:=λz hz=>(al.1 z hz).1;generalize aU:Ord.endsR (red v.2) (red v.2).length=e at *;have aG:flR v.1 1 (oneL v.2) ∈ fl1 (en,e) :: ((A.take i ++ [v]).map fl1 ++ F):=List.mem_cons_of_mem _ (List.mem_append_left _ (List.mem_map.2 ⟨v,by simp,rfl⟩));have aB:(fl1 (en,e) :: ((A.take i ++ [v]).map fl1 ++ F)).length=i+2+F.length:=by simp only [List.length_cons,List.length_append,List.length_map,List.length_nil,ao];omega
  by_cases q0:0<i
  ·skip
   refine GWP.seq ?_;refine GWP.region ?_;refine r3_ ?_;refine GWP.region ?_;refine ARun.alloc (zab rfl) zc7 ?_;intro bC ak;have V:=ak
   repeat ((with_reducible replace V:=zaa V);obtain ⟨V,_⟩:=V)
   refine nl_ ?_;refine r3_ ?_;obtain ⟨M1,l1,J⟩:=(J.new ak (lvB1 v)).vl;refine GWP.less M1 l1 ?_;have o9:=J.o.mem (b9,bxB qo) (by simp);have Z:=J.o.mem (b3,lxB lw) (by simp);have ad:=J.o.1
   (unfold bxB at o9;unfold lxB at Z;unfold lvB1 at ad)
   refine GWP.block ?_;refine GWP.seq ?_;refine GWP.draw [i0_,i1_,i2_] [] mixed (by kernel_rfl) ?_;refine r5_ ?_;refine kG_ [100,99,3,6,8,9,11,14,15,16,17] ?_;refine GWP.seq ?_;refine GWP.seq ?_;refine GWP.region ?_;refine r4_ ?_;refine kG_ [100,99,3,6,8,9,11,14,15,16,17,103] ?_;refine GWP.condT rfl (by first|rfl|(simp;done)|(simp;omega)) ?_;obtain ⟨s2,a1,a2,a3,bf⟩:=zih (w:=1) (c:=v.2.length) (lw:=lw) J (by simp [hw]) (by decide) (Nat.le_trans al.2 (by decide)) (zdD (by decide) (by decide) al.2) (by simp only [aB,List.length_cons];omega);refine GWP.seq ?_;refine GWP.region ?_;refine r3_ ?_;refine ca_ rfl (bf) ?_;rintro _ M2 ⟨q2,rfl,J⟩;have K:=J.o.mem (Y,bxE) (by simp);unfold bxE at K;refine r6_ ?_;refine st_ K ?_;refine r2_ ?_;refine kG_ [100,99,3,6,8,9,11,14,15,16,17,103] ?_;refine GWP.less M2 (zbm K) ?_;have Z:=J.o.mem (b3,lxB lw) (by simp);have Q:=J.o.mem (b11,nmB en) (by simp);have ad:=J.o.1
   (unfold lxB at Z;unfold lvB1 at ad;unfold nmB at Q)
   refine GWP.seq ?_;refine GWP.region ?_;refine s1_ ?_;refine rC (vh rfl rfl Er.neNil) ?_;refine r2_ ?_;refine kG_ [100,99,3,6,8,9,11,14,15,16,17,103,113] ?_;refine GWP.condF rfl (by first|rfl|(simp;done)|(simp;omega)) ?_;refine GWP.skip ?_;refine s1_ ?_;refine GWP.seq ?_;refine GWP.seq ?_;refine GWP.region ?_;refine r7_ ?_;have C:=zjw (lw:=lw) (fn:=v.1) (en:=en) (l:=v.2) (e:=e) (n:=v.2.length) (qo:=q2) (so:=s2) (H:=wtR qo s 1 [] (Rec.needN 1 l.length) :: H) J (Idle.cons hi) hg hE (by simp [hw]) aG (List.mem_cons_self ..) rfl al.1 aQ al.2 (by simp only [aB,List.length_cons];omega) (show H.length+1<=2 by omega);refine ca_ rfl (C) ?_;rintro _ M4 ⟨rfl,o,aC,J⟩;clear C;have K:=J.o.mem (Y,bxE) (by simp);unfold bxE at K;refine st_ K ?_;refine r2_ ?_;refine kG_ [100,99,3,6,8,9,11,14,15,16,17,103,113] ?_;obtain rfl:=zma au aU.symm aC;refine GWP.less M4 (zbm K) ?_;have Z:=J.o.mem (b3,lxB lw) (by simp);have ow:=J.o.mem (lw,lwB g.k) (by simp [hw]);have Q:=J.o.mem (b11,nmB en) (by simp)
   (unfold lxB at Z;unfold lwB at ow;unfold nmB at Q)
   refine GWP.seq ?_;refine GWP.region ?_;refine s1_ ?_;refine rC (vh rfl rfl Er.eqNil) ?_;refine r2_ ?_;refine kG_ [100,99,3,6,8,9,11,14,15,16,17,103,113,124] ?_;refine GWP.condT rfl (by first|rfl|(simp;done)|(simp;omega)) ?_;refine GWP.draw [i0_,i1_,i2_,i3_,i4_,o5_,o6_] [5,6] mixed (by kernel_rfl) ?_;refine r5_ ?_;refine zac rfl ?_;have C:=zbL [_] J aM (Idle.cons hi).w (by simp only [List.length_append,List.length_cons,List.length_map,List.length_nil,ao];omega);refine ca_ rfl (C) ?_;rintro _ M6 ⟨rfl,J⟩;clear C;have K:=J.o.mem (Y,bxE) (by simp);unfold bxE at K;refine zad ⟨nz_,?_⟩;refine zac rfl ?_;refine st_ K ?_;refine zad ⟨nz_,?_⟩;refine r2_ ?_;refine kG_ [100,99,3,6,8,9,11,14,15,16,17,103,113,124] ?_;refine GWP.less M6 (zbm K) ?_;have Z:=J.o.mem (b3,lxB lw) (by simp);have ow:=J.o.mem (lw,lwB g.k) (by simp [hw]);have ad:=J.o.1
   (unfold lxB at Z;unfold lwB at ow;unfold lvB1 at ad)
   refine GWP.seq ?_;refine GWP.seq ?_;refine GWP.region ?_;refine s1_ ?_;refine rC (vh rfl rfl Er.eqNil) ?_;refine r6_ ?_;refine kG_ [100,99,3,6,8,9,11,14,15,16,17,103,113,124,136] ?_;refine GWP.condT rfl (by first|rfl|(simp;done)|(simp;omega)) ?_;refine GWP.draw [i0_,i1_,i2_,i3_,i4_,i5_,o6_,o7_] [6,7] mixed (by kernel_rfl) ?_;refine r6_ ?_;refine zac rfl ?_;have C:=zbL (f:=fl1 v) (flR s2 1 (oneL (Ord.endsR v.2 v.2.length)) :: (A.take i).map fl1) (F:=F) (J.perm (.refl _) (by rw [List.map_append,List.append_assoc];exact .refl _) (.refl _)) (bo vd) (Idle.cons hi).w (by simp only [List.length_append,List.length_cons,List.length_map,ao];omega);refine ca_ rfl (C) ?_;rintro _ M8 ⟨rfl,J⟩;clear C;have K:=J.o.mem (Y,bxE) (by simp);unfold bxE at K;refine zad ⟨nz_,?_⟩;refine zac rfl ?_;refine st_ K ?_;refine zad ⟨nz_,?_⟩;refine r2_ ?_;refine kG_ [100,99,3,6,8,9,11,14,15,16,17,103,113,124,136] ?_;refine GWP.less M8 (zbm K) ?_;have Q:=J.o.mem (b11,nmB en) (by simp);unfold nmB at Q;refine GWP.seq ?_;refine GWP.seq ?_;refine GWP.region ?_;refine s1_ ?_;refine rC (vh rfl rfl Er.neNil) ?_;refine r2_ ?_;refine kG_ [100,99,3,6,8,9,11,14,15,16,17,103,113,124,136,145] ?_;refine GWP.condF rfl (by first|rfl|(simp;done)|(simp;omega)) ?_;refine GWP.skip ?_;refine s1_ ?_;refine GWP.region ?_;refine s1_ ?_;refine st_ Q ?_;refine r2_ ?_;exact ⟨rfl,.inl ⟨by omega,s2,a2,by rw [show A.length-(k+1)=i from by omega,bc];exact (J.put [_,_,_] (nmB s2)).tl⟩⟩
  obtain rfl:i=0:=by omega
  obtain rfl:=bv rfl;refine GWP.seq ?_;refine GWP.region ?_;refine r3_ ?_;refine GWP.region ?_;refine ARun.alloc (zab rfl) zc7 ?_;intro bC ak;have V:=ak
  repeat ((with_reducible replace V:=zaa V);obtain ⟨V,_⟩:=V)
  refine nl_ ?_;refine r3_ ?_;obtain ⟨M1,l1,J⟩:=(J.new ak (lvB1 (fn,l))).vl;refine GWP.less M1 l1 ?_;have o9:=J.o.mem (b9,bxB qo) (by simp);have Z:=J.o.mem (b3,lxB lw) (by simp);have Q:=J.o.mem (b11,nmB en) (by simp);have ad:=J.o.1
  (unfold bxB at o9;unfold lxB at Z;unfold lvB1 at ad;unfold nmB at Q)
  refine GWP.block ?_;refine GWP.seq ?_;refine GWP.draw [i0_,i1_,i2_] [] mixed (by kernel_rfl) ?_;refine r5_ ?_;refine kG_ [100,99,3,6,8,9,11,14,15,16,17] ?_;refine GWP.seq ?_;refine GWP.seq ?_;refine GWP.region ?_;refine r4_ ?_;refine kG_ [100,99,3,6,8,9,11,14,15,16,17,103] ?_;refine GWP.condF rfl (by first|rfl|(simp;done)|(simp;omega)) ?_;refine GWP.skip ?_;refine s1_ ?_;refine GWP.seq ?_;refine GWP.seq ?_;refine GWP.region ?_;refine r7_ ?_;have C:=zjw (lw:=lw) (fn:=fn) (en:=en) (l:=l) (e:=e) (n:=l.length) (qo:=qo) (so:=s) (H:=H) J hi hg hE (by simp [hw]) aG (List.mem_cons_self ..) rfl hl aQ hc (by simp only [aB];omega) (show H.length<=2 by omega);refine ca_ rfl (C) ?_;rintro _ M4 ⟨rfl,o,aC,J⟩;clear C;have K:=J.o.mem (Y,bxE) (by simp);unfold bxE at K;refine st_ K ?_;refine r2_ ?_;refine kG_ [100,99,3,6,8,9,11,14,15,16,17,103] ?_;obtain rfl:=zma au aU.symm aC;refine GWP.less M4 (zbm K) ?_;have Z:=J.o.mem (b3,lxB lw) (by simp);have ow:=J.o.mem (lw,lwB g.k) (by simp [hw]);have Q:=J.o.mem (b11,nmB en) (by simp)
  (unfold lxB at Z;unfold lwB at ow;unfold nmB at Q)
  refine GWP.seq ?_;refine GWP.region ?_;refine s1_ ?_;refine rC (vh rfl rfl Er.eqNil) ?_;refine r2_ ?_;refine kG_ [100,99,3,6,8,9,11,14,15,16,17,103,124] ?_;refine GWP.condT rfl (by first|rfl|(simp;done)|(simp;omega)) ?_;refine GWP.draw [i0_,i1_,i2_,i3_,i4_,o5_,o6_] [5,6] mixed (by kernel_rfl) ?_;refine r5_ ?_;refine zac rfl ?_;have C:=zbL [_] J aM hi.w (by simp only [List.length_append,List.length_cons,List.length_map,List.length_nil,ao];omega);refine ca_ rfl (C) ?_;rintro _ M6 ⟨rfl,J⟩;clear C;have K:=J.o.mem (Y,bxE) (by simp);unfold bxE at K;refine zad ⟨nz_,?_⟩;refine zac rfl ?_;refine st_ K ?_;refine zad ⟨nz_,?_⟩;refine r2_ ?_;refine kG_ [100,99,3,6,8,9,11,14,15,16,17,103,124] ?_;refine GWP.less M6 (zbm K) ?_;have Q:=J.o.mem (b11,nmB en) (by simp);unfold nmB at Q;refine GWP.seq ?_;refine GWP.seq ?_;refine GWP.region ?_;refine s1_ ?_;refine rC (vh rfl rfl Er.eqNil) ?_;refine r6_ ?_;refine kG_ [100,99,3,6,8,9,11,14,15,16,17,103,124,136] ?_;refine GWP.condF rfl (by first|rfl|(simp;done)|(simp;omega)) ?_;refine GWP.skip ?_;refine s1_ ?_;refine GWP.seq ?_;refine GWP.seq ?_;refine GWP.region ?_;refine s1_ ?_;refine rC (vh rfl rfl Er.neNil) ?_;refine r2_ ?_;refine kG_ [100,99,3,6,8,9,11,14,15,16,17,103,124,136,145] ?_;refine GWP.condF rfl (by first|rfl|(simp;done)|(simp;omega)) ?_;refine GWP.skip ?_;refine s1_ ?_;refine GWP.region ?_;refine s1_ ?_;refine st_ Q ?_;refine r2_ ?_;exact ⟨rfl,.inr ⟨by omega,ByteArray.empty,(J.put [_,_,_] (nmB ByteArray.empty)).tl⟩⟩
 case done =>
  rintro D M hI;obtain ⟨_,en,J⟩:=hI.resolve_left λh=>Nat.lt_irrefl _ h.1;have p6:=J.o.mem (b6,bxE) (by simp);unfold bxE at p6;refine GWP.seq ?_;refine GWP.region ?_;refine st_ p6 ?_;refine r2_ ?_;refine GWP.ret ?_;refine ⟨_,M,⟨_,_,_,rfl,.inl ⟨zaV,rd_⟩,rfl,rfl⟩,(by rw [vB _ _ _ p6];exact Mem.Less.refl _),?_⟩;exact ⟨rfl,J.tl.tl.tl.tl.tl.tl.tl.tl.tl⟩
end
end Sto
end
section
open Go.RowKit Go.Shelf
open Mv Disk Num
namespace Sto
section
variable {g:Cx} {B:List (Nat × Blk)} {F:List Fl} {H:List Sh} {T S:Mem} {n m bw bt:Nat} {s fn:tt} {l:List Nat} {d:D} {v:tu}
theorem zw0 (hs:nm s) (U:tld s=false):Opn g [(bw,wpB g.k),(bt,nmB s)] 22 [.pointer (some ⟨bw,0,none⟩),.pointer (some ⟨bt,0,none⟩)] s:=λ{F H w c} V K hc hk hl=>by
 refine ⟨rfl,λ{B n T} J I=>?_⟩;have Y:=I.o.mem _ (J _ (List.mem_cons_self ..));have X:=I.o.mem _ (J (bt,nmB s) (by simp));unfold wpB at Y;unfold nmB at X;refine k_E4 15 func22 ?_;refine r12_ ?_;have C:=zrz I hs U V K hc hk hl;refine ca_ rfl (C) ?_;rintro _ Q ⟨q,rfl,I,_⟩;clear C;refine r7_ ?_;refine ⟨_,Q,⟨_,_,rfl,⟨_,_,rfl,rfl,rfl⟩,rfl⟩,zae,?_⟩;exact ⟨q,rfl,I⟩
theorem zpK {B0:List (Nat × Blk)} {f:tA} {caps:List tu} (I:Op g B (fl1 (fn,l) :: F) H 0 T) (hi:Idle H) (Z:g.ll = []/\g.lc=0) (hE:errK g) (U:Opn g B0 f caps s) (Q:∀ y ∈ B0,y ∈ B) (V:s ∉ nms (fl1 (fn,l) :: F) H) (hl:∀ z ∈ l,1<=z/\z<Num.top) (hc:l.length<=60) (J:F.length+H.length<=8) (hH:H.length<=1) :
  ACall prog 21 #[self g.k,.string fn,.func (.func f) #[] caps.toArray] T λv T'=>v = .nilIface/\Op g B (flR s 1 (oneL (Ord.endsR l l.length)) :: fl1 (fn,l) :: F) H 0 T':=by
 refine k_E3 13 func21 ?_;refine r9_ ?_;refine vA (cs:=[_]) (zab rfl) rfl ?_;intro Y X;have K:=X
 repeat ((with_reducible replace K:=zaa K);obtain ⟨K,_⟩:=K)
 refine nl_ ?_;refine r2_ ?_;have C:=zr_ (lw:=Y) (I.new X (lwB g.k)) hi Z hE (List.mem_cons_self ..) U (λy hy=>List.mem_cons_of_mem _ (Q y hy)) V hl hc J hH;refine ca_ rfl (C) ?_;rintro _ T1 ⟨rfl,I⟩;clear C;refine r4_ ?_;refine ⟨_,T1,⟨_,_,rfl,rfl,rfl⟩,zae,?_⟩;exact ⟨rfl,I.tl⟩
theorem zsa (ad:DkR S v d) (hE:∃ eu ev,(memR S.ro).Knows ⟨2,0,none⟩ [.iface eu ev]) (hd:DkF d (fl1 (fn,l) :: F)) (aE:24<=m) (ax:m<=256) (ht:∀ f ∈ fl1 (fn,l) :: F,tld f.n=false) (hs:nm s) (au:tld s=false) (ae:s ∉ (fl1 (fn,l) :: F).map (·.n)) (hl:∀ z ∈ l,1<=z/\z<Num.top) (hc:l.length<=60) (aG:F.length<=8) :
  ACall prog 8 #[v,.int .i64 (m:Nat),.string fn,.string s] S λr T=>∃ dv c1 c2 c3 d',r = .tuple #[dv,.agg #[.int .u64 c1,.int .u64 c2,.int .i64 c3],.int .i64 0]/\DkR T dv d'/\DkF d' (flR s 1 (oneL (Ord.endsR l l.length)) :: fl1 (fn,l) :: F)/\T.ro=S.ro:=by
 have hb:=λ{M:Mem} {B:List (Nat × Blk)} (h:S.Less M)=>zfO (B:=B) (ad.less h) hd aE ax ht;obtain ⟨pe,ce,pw,cw,rfl,_,_⟩:=id ad;rw [<- zdh] at ae;refine k_E4 31 func8 ?_;refine r2_ ?_;refine k_b5 rfl ?_;intro b4 f4;have g4:=f4
 repeat ((with_reducible replace g4:=zaa g4);obtain ⟨g4,_⟩:=g4)
 refine nl_ ?_;refine vo (zab rfl) rfl rfl ?_;intro b7 f7;have g7:=f7
 repeat ((with_reducible replace g7:=zaa g7);obtain ⟨g7,_⟩:=g7)
 refine nl_ ?_;refine ARun.alloc (zab rfl) zas ?_;intro b8 f8;have X:=f8
 repeat ((with_reducible replace X:=zaa X);obtain ⟨X,_⟩:=X)
 refine nl_ ?_;refine ARun.alloc (zab rfl) zaR ?_;intro b9 f9;have U:=f9
 repeat ((with_reducible replace U:=zaa U);obtain ⟨U,_⟩:=U)
 refine nl_ ?_;refine r3_ ?_;have ay:S.Less ((((S.set b4 ⟨26,[.int .i64 d.size,.slice pe d.ext.length ce,.slice pw d.waits.length cw,.int .i64 d.fuse,.bool d.down],5⟩).set b7 (nmB s)).set b8 zD).set b9 zC):=(((vi _ _ _ f4.1).trans (vi _ _ _ f7.1)).trans (vi _ _ _ f8.1)).trans (vi _ _ _ f9.1);have K:=(zaa f9).2;have Z:=(zaa (zaa f9).1).2;have ac:=(zaa f8).2;refine r4_ ?_;have C:=hb (B:=[(b9,zC),(b8,zD),(b7,nmB s)]) ay (by simp only [List.mem_cons,List.not_mem_nil,or_false];rintro y (rfl | rfl | rfl);exact vf _ _ _;exact (vg _ _ (Ne.symm K)).trans (vf _ _ _);exact (vg _ _ (Ne.symm Z)).trans ((vg _ _ (Ne.symm ac)).trans (vf _ _ _))) (by simp [K,Z,ac]);refine ca_ rfl (C) ?_;rintro _ T1 ⟨g,rfl,J,hg,I⟩;clear C;have J:g.ro=S.ro:=J;have av:offR g b8:=λa v h=>f8.2 a v (by rw [J] at h;exact h);have aC:offR g b9:=λa v h=>f9.2 a v (by rw [J] at h;exact h);refine r3_ ?_;refine ARun.alloc (zab rfl) zdK ?_;intro b11 af;have Q:=af
 repeat ((with_reducible replace Q:=zaa Q);obtain ⟨Q,_⟩:=Q)
 refine nl_ ?_;refine r4_ ?_;obtain ⟨T2,l2,I⟩:=(I.new af (wpB g.k)).vl;refine AWP.less T2 l2 ?_;refine r4_ ?_;refine rC (vh rfl rfl Er.eqNil) ?_;refine r2_ ?_;refine cT_ ?_;have V:=I.o.1;unfold wpB at V;refine r4_ ?_;have C:=zpK (f:=22) (caps:=[.pointer (some ⟨b11,0,none⟩),.pointer (some ⟨b7,0,none⟩)]) (B0:=[(b11,wpB g.k),(b7,nmB s)]) (s:=s) (fn:=fn) (l:=l) I Idle.nil hg (by unfold errK;rw [J];exact hE) (zw0 hs au) (by simp) ae hl hc (by show F.length+0<=8;omega) (by decide);refine ca_ rfl (C) ?_;rintro _ T3 ⟨rfl,I⟩;clear C;have V:=I.o.1;unfold wpB at V;have I2:=I.perm (B':=(b9,zC) :: (b8,zD) :: [(b11,wpB g.k),(b7,nmB s)]) ((List.Perm.swap ..).trans ((List.Perm.swap ..).cons _)) (.refl _) (.refl _);refine r7_ ?_;have C:=zjm I2 aC av zo8;refine ca_ rfl (C) ?_;rintro _ T4 ⟨M,⟨dv,c1,c2,c3,d',rfl,Y,aA,hM⟩,X,U,aB⟩;clear C;obtain ⟨aw,aq,ao,aD,rfl,_,_⟩:=id Y;subst aB;have K:=(zaa U).2;refine r3_ ?_;refine vF (cs:=[.int .i64 d'.size,.slice aw d'.ext.length aq,.slice ao d'.waits.length aD,.int .i64 d'.fuse,.bool d'.down]) rfl rfl zal ((vg _ _ (Ne.symm K)).trans (vf _ _ _)) rfl rfl ?_;refine nm_ ?_;refine vF (cs:=[.int .u64 c1,.int .u64 c2,.int .i64 c3]) rfl rfl zaY ((vg _ _ K).trans (vf _ _ _)) rfl rfl ?_;refine nm_ ?_;refine r4_ ?_;refine ⟨_,M,⟨_,_,_,rfl,.inr ⟨zat,[_,_,_,_,_],zal,rds_,rfl⟩,⟨_,_,_,rfl,.inr ⟨zcq,[_,_,_],zaY,rds_,rfl⟩,⟨_,_,rfl,rfl,rfl⟩,rfl⟩,rfl⟩,zfS X U,?_⟩;exact ⟨_,c1,c2,c3,d',rfl,Y,aA,hM.trans J⟩
end
end Sto
end
section
open Go.RowKit Go.Shelf
open Mv Disk Num
namespace Sto
section
variable {g:Cx} {B B0:List (Nat × Blk)} {F:List Fl} {H:List Sh} {T S:Mem} {q m bw bt:Nat} {fn s:tt} {L:List UInt8} {f:tA} {caps:List tu} {d:D} {v:tu}
theorem zw1 (hs:nm s) (U:tld s=false):Opn g [(bw,wpB g.k),(bt,nmB s)] 27 [.pointer (some ⟨bw,0,none⟩),.pointer (some ⟨bt,0,none⟩)] s:=λ{F H w c} V K hc hk hl=>by
 refine ⟨rfl,λ{B n T} J I=>?_⟩;have Y:=I.o.mem _ (J _ (List.mem_cons_self ..));have X:=I.o.mem _ (J (bt,nmB s) (by simp));unfold wpB at Y;unfold nmB at X;refine k_E4 15 func27 ?_;refine r12_ ?_;have C:=zrz I hs U V K hc hk hl;refine ca_ rfl (C) ?_;rintro _ Q ⟨q,rfl,I,_⟩;clear C;refine r7_ ?_;refine ⟨_,Q,⟨_,_,rfl,⟨_,_,rfl,rfl,rfl⟩,rfl⟩,zae,?_⟩;exact ⟨q,rfl,I⟩
theorem zw2 (hs:nm s) (U:tld s=true):Opn g [(bw,wpB g.k),(bt,nmB s)] 59 [.pointer (some ⟨bw,0,none⟩),.pointer (some ⟨bt,0,none⟩)] s:=λ{F H w c} V K hc hk hl=>by
 refine ⟨rfl,λ{B n T} J I=>?_⟩;have Y:=I.o.mem _ (J _ (List.mem_cons_self ..));have X:=I.o.mem _ (J (bt,nmB s) (by simp));unfold wpB at Y;unfold nmB at X;refine k_E4 15 func59 ?_;refine r12_ ?_;have C:=zde I hs U V K hc hk hl;refine ca_ rfl (C) ?_;rintro _ Q ⟨q,rfl,I,_⟩;clear C;refine r7_ ?_;refine ⟨_,Q,⟨_,_,rfl,⟨_,_,rfl,rfl,rfl⟩,rfl⟩,zae,?_⟩;exact ⟨q,rfl,I⟩
theorem zw3 (hs:nm s) (U:tld s=true):Opn g [(bw,wpB g.k),(bt,nmB s)] 61 [.pointer (some ⟨bw,0,none⟩),.pointer (some ⟨bt,0,none⟩)] s:=λ{F H w c} V K hc hk hl=>by
 refine ⟨rfl,λ{B n T} J I=>?_⟩;have Y:=I.o.mem _ (J _ (List.mem_cons_self ..));have X:=I.o.mem _ (J (bt,nmB s) (by simp));unfold wpB at Y;unfold nmB at X;refine k_E4 15 func61 ?_;refine r12_ ?_;have C:=zde I hs U V K hc hk hl;refine ca_ rfl (C) ?_;rintro _ Q ⟨q,rfl,I,_⟩;clear C;refine r7_ ?_;refine ⟨_,Q,⟨_,_,rfl,⟨_,_,rfl,rfl,rfl⟩,rfl⟩,zae,?_⟩;exact ⟨q,rfl,I⟩
theorem zuW (I:Op g B F [] 0 T) (hg:g.ll = []/\g.lc=0) (hE:errK g) (hf:flT fn L ∈ F) (X:Opn g B0 f caps s) (aq:∀ y ∈ B0,y ∈ B) (au:s ∉ nms F []) (hn:L.length<=60) (ax:F.length<=7) :
  ACall prog 26 #[self g.k,.string fn,.func (.func f) #[] caps.toArray] T λv T'=>∃ (pr:Nat) (U:List UInt8),v = .tuple #[.int .u64 pr,.nilIface]/\TurnR L (Ord.endsR (upL L) (upL L).length) pr U/\Op g B (flT s U :: F) [] 0 T':=by
 have am:=zh6 L;have he:(Ord.endsR (upL L) (upL L).length).Perm (List.range L.length):=by
  rw [<- am];exact (Ord.zbC (upL L)).1
 refine k_E3 81 func26 ?_;refine r2_ ?_;refine vo (zab rfl) rfl rfl ?_;intro b3 f3;have g3:=f3
 repeat ((with_reducible replace g3:=zaa g3);obtain ⟨g3,_⟩:=g3)
 refine nl_ ?_;refine r4_ ?_;obtain ⟨T0,l0,I⟩:=(I.new f3 (wpB g.k)).vl;refine AWP.less T0 l0 ?_;have J:=I.o.1;unfold wpB at J;refine r4_ ?_;have C:=zii I hf vd (λh hh=>(by cases hh));refine ca_ rfl (C) ?_;rintro _ T1 ⟨r,rfl,I⟩;clear C;refine r11_ ?_;refine rC (vh rfl rfl Er.neNil) ?_;refine r2_ ?_;refine cF_ ?_;obtain ⟨f0,h0,oq⟩:=Op.rq [] I
 (unfold rdB at oq;dsimp only at oq)
 obtain ⟨an,X⟩:=X (F:=F) (H:=[.rd r fn 0 L.length 0 L true]) (w:=0) (c:=L.length) au (by decide) vd (zpA hn) (by simp only [List.length_cons,List.length_nil];omega);refine r9_ ?_;refine vn (zab rfl) an rfl rfl (X (λy hy=>List.mem_cons_of_mem _ (aq y hy)) I) ?_;rintro _ T2 ⟨q,rfl,I⟩;obtain ⟨f1,I⟩:=zdx [_] I;obtain ⟨rB,af⟩ : ∃ rB,rB=rdB g.a ⟨fn,0,L.length,0,f1,0⟩:=⟨_,rfl⟩;replace I:Op g ((r,rB) :: (b3,wpB g.k) :: B) F [.wt q s 0 0 [] (Rec.needN 0 L.length)] 0 T2:=by rw [af];exact I
 have Y:Idle [.wt q s 0 0 [] (Rec.needN 0 L.length)]:=Idle.cons Idle.nil;refine r11_ ?_;refine rC (vh rfl rfl Er.neNil) ?_;refine r2_ ?_;refine cF_ ?_;have J:=I.o.2.1;unfold wpB at J;obtain ⟨s1,a1,a2,a3,ao⟩:=zb4 I (by simp only [List.length_cons,List.length_nil];omega);refine r5_ ?_;refine cp_ rfl (ao) ?_;refine ARun.alloc (zab rfl) za7 ?_;intro b11 ah;have K:=ah
 repeat ((with_reducible replace K:=zaa K);obtain ⟨K,_⟩:=K)
 have:=K.ne J;have:=K.ne' J
 refine nl_ ?_;refine r3_ ?_;refine kw_ [0,1,2,3,6,7,8,9,24,10,36,11] ?_;obtain ⟨T3,l3,I⟩:=(I.new ah (nmB s1)).vl;refine AWP.less T3 l3 ?_;have J:=I.o.2.2.1;unfold wpB at J;refine r6_ ?_;have C:=zgJ (f:=59) (caps:=[.pointer (some ⟨b3,0,none⟩),.pointer (some ⟨b11,0,none⟩)]) (B0:=[(b3,wpB g.k),(b11,nmB s1)]) (s:=s1) (fn:=fn) (L:=L) I Y hf (zw2 a1 a2) (by simp) a3 hn (by simp only [List.length_cons,List.length_nil];omega) (show 1<=4 by decide);refine ca_ rfl (C) ?_;rintro _ T4 ⟨rfl,I⟩;clear C;refine r6_ ?_;refine rC (vh rfl rfl Er.neNil) ?_;refine r2_ ?_;refine cF_ ?_;have J:=I.o.2.2.1;unfold wpB at J;obtain ⟨s2,c1,c2,c3,ae⟩:=zb4 I (by simp only [List.length_cons,List.length_nil];omega);refine r5_ ?_;refine cp_ rfl (ae) ?_;refine ARun.alloc (zab rfl) za7 ?_;intro V ag;have Q:=ag
 repeat ((with_reducible replace Q:=zaa Q);obtain ⟨Q,_⟩:=Q)
 have:=Q.ne J;have:=Q.ne' J
 refine nl_ ?_;refine r3_ ?_;obtain ⟨T5,l5,I⟩:=(I.new ag (nmB s2)).vl;refine AWP.less T5 l5 ?_;have J:=I.o.mem (b3,wpB g.k) (by simp);have ac:=I.o.mem (b11,nmB s1) (by simp)
 (unfold wpB at J;unfold nmB at ac)
 refine r6_ ?_;have C:=zpK (f:=61) (caps:=[.pointer (some ⟨b3,0,none⟩),.pointer (some ⟨V,0,none⟩)]) (B0:=[(b3,wpB g.k),(V,nmB s2)]) (s:=s2) (fn:=s1) (l:=upL L) I Y hg hE (zw3 c1 c2) (by simp) c3 (zo9 L) vd (by simp only [List.length_cons,List.length_nil];omega) (show 1<=1 by decide);refine ca_ rfl (C) ?_;rintro _ T6 ⟨rfl,I⟩;clear C;refine r6_ ?_;refine rC (vh rfl rfl Er.neNil) ?_;refine r2_ ?_;refine kw_ [0,1,2,3,6,7,8,9,24,10,36,11,12,45,13,14,54] ?_;refine cF_ ?_;have J:=I.o.mem (b3,wpB g.k) (by simp);have ac:=I.o.mem (b11,nmB s1) (by simp)
 (unfold wpB at J;unfold nmB at ac)
 refine r7_ ?_;have C:=zbL (f:=fl1 (s1,upL L)) [_] I a2 Y.w (by simp only [List.length_append,List.length_cons,List.length_nil];omega);refine ca_ rfl (C) ?_;rintro _ T7 ⟨rfl,I⟩;clear C;refine r6_ ?_;refine rC (vh rfl rfl Er.neNil) ?_;refine r2_ ?_;refine cF_ ?_;have J:=I.o.mem (b3,wpB g.k) (by simp);have Z:=I.o.mem (V,nmB s2) (by simp);have oq:=I.o.mem (r,rB) (by simp)
 (unfold wpB at J;unfold nmB at Z;rw [af] at oq;unfold rdB at oq;dsimp only at oq)
 refine r3_ ?_;refine dr_ [i0_,i1_,i2_,i3_,i4_,i5_,i6_,i7_,o8_,i9_,i10_,i11_,i12_,i13_] [8] ?_;refine r8_ ?_;refine zac rfl ?_;have C:=zpz (fn:=fn) (en:=s2) (H:=[]) I Idle.nil hg hE (List.mem_cons_of_mem _ hf) (List.mem_cons_self ..) hn he (by simp only [List.append_eq,List.nil_append,List.length_append,List.length_cons,List.length_nil];omega) (by decide);refine ca_ rfl (C) ?_;rintro _ T8 ⟨pr,U,rfl,ht,I⟩;clear C;refine zad ⟨nz_,?_⟩;refine r11_ ?_;refine rC (vh rfl rfl Er.neNil) ?_;refine r2_ ?_;refine cF_ ?_;have J:=I.o.mem (b3,wpB g.k) (by simp);have Z:=I.o.mem (V,nmB s2) (by simp)
 (unfold wpB at J;unfold nmB at Z)
 refine r7_ ?_;have C:=zbL (f:=flR s2 1 (oneL (Ord.endsR (upL L) (upL L).length))) [_] I c2 (λh hh=>(by cases hh)) (by simp only [List.append_eq,List.nil_append,List.length_append,List.length_cons,List.length_nil];omega);refine ca_ rfl (C) ?_;rintro _ T9 ⟨rfl,I⟩;clear C;refine r4_ ?_;refine kw_ [0,1,2,3,6,7,8,9,24,10,36,11,12,45,13,14,54,15,60,16,75] ?_;refine s1_ ?_;refine ⟨_,T9,⟨_,_,rfl,⟨_,_,rfl,rfl,rfl⟩,rfl⟩,zae,?_⟩;exact ⟨pr,U,rfl,ht,I.tl.tl.tl.tl⟩
theorem zpL (af:DkR S v d) (hE:∃ eu ev,(memR S.ro).Knows ⟨2,0,none⟩ [.iface eu ev]) (hd:DkF d F) (aA:24<=m) (ay:m<=256) (ht:∀ f ∈ F,tld f.n=false) (hf:flT fn L ∈ F) (hs:nm s) (aw:tld s=false) (ag:s ∉ F.map (·.n)) (hn:L.length<=60) (ad:F.length<=7) :
  ACall prog 10 #[v,.int .i64 (m:Nat),.string fn,.string s] S λr T=>∃ dv,∃ pr:Nat,∃ c1 c2 c3 d' Q,r = .tuple #[dv,.int .u64 pr,.agg #[.int .u64 c1,.int .u64 c2,.int .i64 c3],.int .i64 0]/\TurnR L (Ord.endsR (upL L) (upL L).length) pr Q/\DkR T dv d'/\DkF d' (flT s Q :: F)/\T.ro=S.ro:=by
 have hb:=λ{M:Mem} {B:List (Nat × Blk)} (h:S.Less M)=>zfO (B:=B) (af.less h) hd aA ay ht;obtain ⟨pe,ce,pw,cw,rfl,_,_⟩:=id af;rw [<- zdh] at ag;refine k_E4 38 func10 ?_;refine r2_ ?_;refine k_b5 rfl ?_;intro b4 f4;have g4:=f4
 repeat ((with_reducible replace g4:=zaa g4);obtain ⟨g4,_⟩:=g4)
 refine nl_ ?_;refine vo (zab rfl) rfl rfl ?_;intro b7 f7;have g7:=f7
 repeat ((with_reducible replace g7:=zaa g7);obtain ⟨g7,_⟩:=g7)
 refine nl_ ?_;refine ARun.alloc (zab rfl) zas ?_;intro b8 f8;have Z:=f8
 repeat ((with_reducible replace Z:=zaa Z);obtain ⟨Z,_⟩:=Z)
 refine nl_ ?_;refine s1_ ?_;refine ARun.alloc (zab rfl) zaR ?_;intro X K;have V:=K
 repeat ((with_reducible replace V:=zaa V);obtain ⟨V,_⟩:=V)
 refine nl_ ?_;refine r3_ ?_;have az:S.Less ((((S.set b4 ⟨26,[.int .i64 d.size,.slice pe d.ext.length ce,.slice pw d.waits.length cw,.int .i64 d.fuse,.bool d.down],5⟩).set b7 (nmB s)).set b8 zD).set X zC):=(((vi _ _ _ f4.1).trans (vi _ _ _ f7.1)).trans (vi _ _ _ f8.1)).trans (vi _ _ _ K.1);have n1:=(zaa K).2;have n2:=(zaa (zaa K).1).2;have n3:=(zaa f8).2;refine r4_ ?_;have C:=hb (B:=[(X,zC),(b8,zD),(b7,nmB s)]) az (by simp only [List.mem_cons,List.not_mem_nil,or_false];rintro y (rfl | rfl | rfl);exact vf _ _ _;exact (vg _ _ (Ne.symm n1)).trans (vf _ _ _);exact (vg _ _ (Ne.symm n2)).trans ((vg _ _ (Ne.symm n3)).trans (vf _ _ _))) (by simp [n1,n2,n3]);refine ca_ rfl (C) ?_;rintro _ T1 ⟨g,rfl,J,hg,I⟩;clear C;have J:g.ro=S.ro:=J;have aq:offR g b8:=λa v h=>f8.2 a v (by rw [J] at h;exact h);have aF:offR g X:=λa v h=>K.2 a v (by rw [J] at h;exact h);refine r3_ ?_;refine ARun.alloc (zab rfl) zdK ?_;intro b12 ah;have U:=ah
 repeat ((with_reducible replace U:=zaa U);obtain ⟨U,_⟩:=U)
 refine nl_ ?_;refine r4_ ?_;obtain ⟨T2,l2,I⟩:=(I.new ah (wpB g.k)).vl;refine AWP.less T2 l2 ?_;refine r9_ ?_;refine rC (vh rfl rfl Er.eqNil) ?_;refine r2_ ?_;refine cT_ ?_;have Y:=I.o.1;unfold wpB at Y;refine r4_ ?_;have C:=zuW (f:=27) (caps:=[.pointer (some ⟨b12,0,none⟩),.pointer (some ⟨b7,0,none⟩)]) (B0:=[(b12,wpB g.k),(b7,nmB s)]) (s:=s) (fn:=fn) (L:=L) I hg (by unfold errK;rw [J];exact hE) hf (zw1 hs aw) (by simp) ag hn ad;refine ca_ rfl (C) ?_;rintro _ T3 ⟨pr,Q,rfl,aG,I⟩;clear C;have Y:=I.o.1;unfold wpB at Y;have I2:=I.perm (B':=(X,zC) :: (b8,zD) :: [(b12,wpB g.k),(b7,nmB s)]) ((List.Perm.swap ..).trans ((List.Perm.swap ..).cons _)) (.refl _) (.refl _);refine r12_ ?_;have C:=zjm I2 aF aq (zpB pr);refine ca_ rfl (C) ?_;rintro _ T4 ⟨M,⟨dv,c1,c2,c3,d',rfl,ac,aC,hM⟩,Z,g9,aD⟩;clear C;obtain ⟨ax,av,au,aE,rfl,_,_⟩:=id ac;subst aD;have aa:=(zaa g9).2;refine r4_ ?_;refine vF (cs:=[.int .i64 d'.size,.slice ax d'.ext.length av,.slice au d'.waits.length aE,.int .i64 d'.fuse,.bool d'.down]) rfl rfl zal ((vg _ _ (Ne.symm aa)).trans (vf _ _ _)) rfl rfl ?_;refine nm_ ?_;refine s1_ ?_;refine vF (cs:=[.int .u64 c1,.int .u64 c2,.int .i64 c3]) rfl rfl zaY ((vg _ _ aa).trans (vf _ _ _)) rfl rfl ?_;refine nm_ ?_;refine r4_ ?_;refine ⟨_,M,⟨_,_,_,rfl,.inr ⟨zat,[_,_,_,_,_],zal,rds_,rfl⟩,⟨_,_,rfl,⟨_,_,_,rfl,.inr ⟨zcq,[_,_,_],zaY,rds_,rfl⟩,⟨_,_,rfl,rfl,rfl⟩,rfl⟩,rfl⟩,rfl⟩,zfS Z g9,?_⟩;exact ⟨_,pr,c1,c2,c3,d',Q,rfl,aG,ac,aC,hM.trans J⟩
end
end Sto
end
section
open Go.RowKit
open Mv
namespace Top
theorem zwt (S:Mem):ACall prog 31 #[.int .u64 5] S λr S'=>r = .int .i64 3/\S'=S:=by
 refine k_E1 25 func31 ?_;refine r12_ ?_;refine cF_ ?_;refine r9_ ?_;refine cF_ ?_;refine r9_ ?_;refine cF_ ?_;refine r6_ ?_;refine rC (Calm.conv rfl (zbx underlying31 underlying5 (show IntKind.u8.wrap 5=5 from by decide))) ?_;refine rC (Calm.as (v':=.int .u8 3) (show Value.int .u8 (nb (at8 _ 5))=Value.int .u8 3 from rfl) (vR (j:=5) (zax zaE) rfl rfl (by decide +kernel))) ?_;refine r6_ ?_;refine ⟨_,S,⟨_,_,rfl,rfl,rfl⟩,zae,?_⟩;exact ⟨rfl,rfl⟩
theorem zpM (S:Mem):ACall prog 30 #[.int .i64 3] S λr S'=>r = .bool true/\S'=S:=by
 refine k_E1 9 func30 ?_;refine r17_ ?_;refine ⟨_,S,⟨_,_,rfl,rfl,rfl⟩,zae,?_⟩;exact ⟨rfl,rfl⟩
def bgN (x:Bool):Nat:=if x then 0 else 1
def wB (u n:Int):Blk:=⟨73,[.slice none 0 0,.int .u64 u,.int .i64 n],3⟩
def aS:tt:=⟨#[160]⟩
theorem zuX (S:Mem):ACall prog 29 #[.agg #[.string ByteArray.empty,.int .i64 0]] S λr S'=>r = .int .i64 0/\S'=S:=by
 refine k_E1 40 func29 ?_;refine r2_ ?_;refine vA (cs:=[_,_]) (zab rfl) rfl ?_;intro I f1;have C:=f1
 repeat ((with_reducible replace C:=zaa C);obtain ⟨C,_⟩:=C)
 refine nl_ ?_;refine r27_ ?_;refine cF_ ?_;refine r29_ ?_;refine cF_ ?_;refine r8_ ?_;refine ⟨_,S,⟨_,_,rfl,rfl,rfl⟩,zae,?_⟩;exact ⟨rfl,rfl⟩
theorem zuY (S:Mem):ACall prog 29 #[.agg #[.string aS,.int .i64 3]] S λr S'=>r = .int .i64 0/\S'=S:=by
 refine k_E1 40 func29 ?_;refine r2_ ?_;refine vA (cs:=[_,_]) (zab rfl) rfl ?_;intro I f1;have C:=f1
 repeat ((with_reducible replace C:=zaa C);obtain ⟨C,_⟩:=C)
 refine nl_ ?_;refine r17_ ?_
 first|refine k_q 12 ?_|refine rG 12 (Calm.as (v':=.int .i64 1) (show Value.int .i64 (aS.size:Nat) = .int .i64 1 from rfl) (uh (zax zaE) rfl)) ?_
 refine r9_ ?_;refine cF_ ?_;refine r7_ ?_;refine rC (Calm.as (v':=.int .i64 3) (show Value.int .i64 (3 % 8) = .int .i64 3 from rfl) (vh rfl rfl (zhC vd vd))) ?_;refine r12_ ?_
 first|refine k_q 28 ?_|refine rG 28 (Calm.as (v':=.int .i64 1) (show Value.int .i64 (aS.size:Nat) = .int .i64 1 from rfl) (uh (zax zaE) rfl)) ?_
 first|refine k_q 28 ?_|refine rG 28 (Calm.as (v':=.int .i64 0) (show Value.int .i64 (IntKind.i64.wrap (1-1)) = .int .i64 0 from rfl) (vh rfl rfl (zjC _ _))) ?_
 first|refine k_q 28 ?_|refine rG 28 (Calm.as (v':=.int .u8 160) (show Value.int .u8 (nb (at8 aS.data.toList 0)) = .int .u8 160 from rfl) (vR (j:=0) (zax zaE) rfl rfl (by decide +kernel))) ?_
 refine s1_ ?_
 first|refine k_q 28 ?_|refine rG 28 (Calm.as (v':=.int .u8 0) (show Value.int .u8 (IntKind.u8.wrap (160*2 ^ (3:Int).toNat)) = .int .u8 0 from congrArg (Value.int .u8) (by decide)) (vh rfl rfl zwB)) ?_
 refine r4_ ?_;refine cF_ ?_;refine r8_ ?_;refine ⟨_,S,⟨_,_,rfl,rfl,rfl⟩,zae,?_⟩;exact ⟨rfl,rfl⟩
theorem zuZ (p:Nat) (S:Mem) (U:Fresh S p) :
  ACall prog 32 #[.pointer (some ⟨p,0,none⟩),.agg #[.string ByteArray.empty,.int .i64 0]] (S.set p (wB 0 0)) λr S'=>r = .tuple #[]/\S'=S.set p (wB 0 0):=by
 refine k_E2 27 func32 ?_;refine r2_ ?_;refine vA (cs:=[_,_]) (zab rfl) rfl ?_;intro b3 Q;have I:=Q
 repeat ((with_reducible replace I:=zaa I);obtain ⟨I,_⟩:=I)
 refine nl_ ?_;refine r6_ ?_;refine ARun.alloc (zab rfl) zjQ ?_;intro J K;have C:=K
 repeat ((with_reducible replace C:=zaa C);obtain ⟨C,_⟩:=C)
 refine nl_ ?_;refine r9_ ?_;refine AWP.loop (X:=Unit) (λx=>[(0,.pointer (some ⟨p,0,none⟩)),(3,.pointer (some ⟨b3,0,none⟩)),(4,.pointer (some ⟨J,0,none⟩)),(5,.int .i64 0)]) (λx=>((S.set p (wB 0 0)).set b3 ⟨43,[.string ByteArray.empty,.int .i64 0],2⟩).set J ⟨133,[.string ByteArray.empty,.int .i64 0],2⟩) (λx=>True) (λx=>0) (()) ⟨rfl,rfl,rfl,rfl,trivial⟩ zae (trivial) ?_;rintro x _;(try dsimp only at *);refine r9_ ?_;refine cF_ ?_;refine r4_ ?_;refine ⟨_,S.set p (wB 0 0),rfl,zae,?_⟩;exact ⟨rfl,rfl⟩
theorem zwu (p:Nat) (S:Mem) (C:Fresh S p):ACall prog 33 #[.pointer (some ⟨p,0,none⟩),.int .u64 5,.int .i64 3] (S.set p (wB 0 0)) λr S'=>r = .tuple #[]/\S'=S.set p (wB 5 3):=by
 unfold wB;refine k_E3 74 func33 ?_;refine s1_ ?_;refine AWP.loop (X:=Bool) (λx=>[(0,.pointer (some ⟨p,0,none⟩)),(1,.int .u64 5),(2,.int .i64 (bif x then 0 else 3))]) (λx=>S.set p ⟨73,[.slice none 0 0,.int .u64 (bif x then 5 else 0),.int .i64 (bif x then 3 else 0)],3⟩) (λx=>0<1) (bgN) (false) ⟨rfl,rfl,rfl,trivial⟩ (Mem.Less.refl _) (Nat.zero_lt_one) ?_;rintro x _;(try dsimp only at *);cases x
 ·simp only [cond_true,cond_false];refine r7_ ?_;refine cT_ ?_;refine r16_ ?_;refine dr_ [i0_,i1_,i2_,i3_,i4_,i5_,i6_,i7_,i8_,i9_] [] ?_;refine r13_ ?_;refine dr_ [i0_,i1_,i2_,i3_,i4_,i5_,i6_,i7_,i8_,i9_,i10_,i11_,i12_,i13_,i14_,i15_,i16_,i17_,o18_,i19_,i20_,o21_] [18,21] ?_;refine r18_ ?_;refine zac rfl ?_;refine s1_ ?_;refine zad ⟨nz_,?_⟩;refine r2_ ?_;refine zac rfl ?_;refine s1_ ?_;refine zad ⟨nz_,?_⟩;refine r10_ ?_;refine kw_ [0,1,2,9,6,7] ?_;refine r9_ ?_;refine cF_ ?_;refine r3_ ?_;refine ⟨true,?_,?_,?_,?_⟩<;>try dsimp only
  ·exact ⟨rfl,rfl,rfl,trivial⟩
  ·exact zae
  ·exact Nat.zero_lt_one
  decide
 simp only [cond_true,cond_false];refine r7_ ?_;refine cF_ ?_;refine r4_ ?_;refine ⟨_,_,rfl,Mem.Less.refl _,?_⟩;exact ⟨rfl,rfl⟩
theorem zwv (p:Nat) (S:Mem) (h:S.own p=some (wB 5 3)):ACall prog 70 #[.pointer (some ⟨p,0,none⟩)] S λr S'=>r = .int .i64 3/\S'=S:=by
 unfold wB at h;refine k_E1 14 func70 ?_;refine r6_ ?_;refine dr_ [i0_,i1_,i2_,i3_,i4_,i5_,i6_,i7_,i8_,i9_,i10_,i11_] [] ?_;refine r15_ ?_;refine ⟨_,S,⟨_,_,rfl,rfl,rfl⟩,zae,?_⟩;exact ⟨rfl,rfl⟩
theorem zu0 (p:Nat) (S:Mem) (Z:Fresh S p):ACall prog 34 #[.pointer (some ⟨p,0,none⟩)] (S.set p (wB 5 3)) λr S'=>r = .agg #[.string aS,.int .i64 3]/\S'=S.set p (wB 5 3):=by
 have hl:=zwv p;unfold wB at *;refine k_E1 37 func34 ?_;refine r2_ ?_;refine ARun.alloc (zab rfl) ze4 ?_;intro Y X;have J:=X
 repeat ((with_reducible replace J:=zaa J);obtain ⟨J,_⟩:=J)
 refine nl_ ?_;refine r21_ ?_;refine cT_ ?_;refine dr_ [i0_,i1_,i2_,i3_,i4_,i5_,i6_,i7_,i8_,i9_,i10_,i11_,i12_,i13_,i14_,i15_,i16_,o17_,o18_,i19_] [18] ?_;refine r15_ ?_;refine dP (hc:=λ_=>Calm.as (v':=.int .u64 160) (show Value.int .u64 (IntKind.u64.wrap (5*2 ^ (5:Int).toNat)) = .int .u64 160 from congrArg (Value.int .u64) (by decide)) (vh rfl rfl (zjF (a:=5) (b:=5) (by decide) (by decide)))) (h:=?_);refine dC (hc:=Calm.conv rfl (zbx underlying31 underlying5 (show IntKind.u8.wrap 160=160 from by decide))) (h:=?_);refine zac rfl ?_;refine vk (zab rfl) zbp rfl rfl ?_;intro U K;have C:=K
 repeat ((with_reducible replace C:=zaa C);obtain ⟨C,_⟩:=C)
 refine zad ⟨ny_,?_⟩;refine zac rfl ?_;refine ue (zab rfl) zbp rfl rfl (news:=[_]) rds_ rfl vd vd vd ?_;intro bn cn Q V;have I:=Q
 repeat ((with_reducible replace I:=zaa I);obtain ⟨I,_⟩:=I)
 refine zad ⟨nz_,?_⟩;refine r4_ ?_;refine dr_ [i0_,i1_,i2_,o3_,i4_,o5_] [5] ?_;refine s1_ ?_;refine dC (hc:=Calm.as (v':=.string aS) rfl (vW zbi zaE rfl (l:=[160]) rfl rds_)) (h:=?_);refine s1_ ?_;refine zac rfl ?_;refine cp_ rfl (hl _ own_) ?_;refine zad ⟨ny_,?_⟩;refine s1_ ?_;refine zac rfl ?_;refine s1_ ?_;refine zad ⟨nz_,?_⟩;refine r3_ ?_;refine ⟨_,S.set p ⟨73,[.slice none 0 0,.int .u64 5,.int .i64 3],3⟩,⟨_,_,_,rfl,.inr ⟨zfY,[_,_],ze3,rds_,rfl⟩,rfl,rfl⟩,zae,?_⟩;exact ⟨rfl,rfl⟩
theorem zww (S:Mem):ACall prog 69 #[.agg #[.string aS,.int .i64 3],.int .i64 0,.int .i64 3] S λr S'=>r = .int .u64 5/\S'=S:=by
 refine k_E3 46 func69 ?_;refine r2_ ?_;refine vA (cs:=[_,_]) (zab rfl) rfl ?_;intro b3 I;have C:=I
 repeat ((with_reducible replace C:=zaa C);obtain ⟨C,_⟩:=C)
 refine nl_ ?_;refine r10_ ?_;refine AWP.loop (X:=Bool) (λx=>[(1,.int .i64 (bif x then 3 else 0)),(2,.int .i64 (bif x then 0 else 3)),(3,.pointer (some ⟨b3,0,none⟩)),(7,.int .u64 (bif x then 5 else 0))]) (λx=>S.set b3 ⟨133,[.string aS,.int .i64 3],2⟩) (λx=>0<1) (bgN) (false) ⟨rfl,rfl,rfl,rfl,trivial⟩ (Mem.Less.refl _) (Nat.zero_lt_one) ?_;rintro x _;(try dsimp only at *);cases x
 ·simp only [cond_true,cond_false];refine r7_ ?_;refine cT_ ?_;refine r6_ ?_;refine rC (Calm.as (v':=.int .i64 0) (show Value.int .i64 (0 % 8) = .int .i64 0 from rfl) (vh rfl rfl (zhC (a:=0) (b:=8) (by decide) (by decide)))) ?_;refine r13_ ?_;refine dr_ [i0_,i1_,i2_,i3_,i4_,i5_,i6_,i7_,i8_,i9_,i10_,i11_,i12_,i13_,i14_,i15_] [] ?_;refine r4_ ?_;refine dP (hc:=λ_=>Calm.as (v':=.int .i64 0) (show Value.int .i64 (IntKind.i64.wrap ((0:Int).tdiv 8)) = .int .i64 0 from congrArg (Value.int .i64) (by decide)) (vh rfl rfl (zjD (a:=0) (b:=8) (by decide)))) (h:=?_);refine dC (hc:=Calm.as (v':=.int .u8 160) (show Value.int .u8 (nb (at8 aS.data.toList 0)) = .int .u8 160 from rfl) (vR (j:=0) (zax zaE) rfl rfl (by decide +kernel))) (h:=?_);refine r30_ ?_;refine ⟨true,?_,?_,?_,?_⟩<;>try dsimp only
  ·exact ⟨rfl,rfl,rfl,rfl,trivial⟩
  ·exact zae
  ·exact Nat.zero_lt_one
  decide
 simp only [cond_true,cond_false];refine r7_ ?_;refine kw_ [1,2,3,7,12] ?_;refine cF_ ?_;refine r12_ ?_;refine ⟨_,S,⟨_,_,rfl,rfl,rfl⟩,zae,?_⟩;exact ⟨rfl,rfl⟩
theorem zw4 (S:Mem):ACall prog 35 #[.agg #[.string aS,.int .i64 3],.int .i64 0,.int .i64 3] S λr S'=>r = .int .u64 5/\S'=S:=by
 refine k_E3 12 func35 ?_;refine r2_ ?_;refine vA (cs:=[_,_]) (zab rfl) rfl ?_;intro b3 I;have C:=I
 repeat ((with_reducible replace C:=zaa C);obtain ⟨C,_⟩:=C)
 refine nl_ ?_;refine r9_ ?_;refine cp_ rfl (zww _) ?_;refine r4_ ?_;refine ⟨_,S,⟨_,_,rfl,rfl,rfl⟩,zae,?_⟩;exact ⟨rfl,rfl⟩
theorem zwx (S:Mem):ACall prog 13 #[.agg #[.string aS,.int .i64 3],.int .i64 0,.int .i64 3] S λr S'=>r = .tuple #[.int .u64 5,.int .i64 0]/\S'=S:=by
 refine k_E3 39 func13 ?_;refine r2_ ?_;refine vA (cs:=[_,_]) (zab rfl) rfl ?_;intro b3 I;have C:=I
 repeat ((with_reducible replace C:=zaa C);obtain ⟨C,_⟩:=C)
 refine nl_ ?_;refine r8_ ?_;refine cp_ rfl (zuY _) ?_;refine r9_ ?_;refine cF_ ?_;refine r7_ ?_;refine cp_ rfl (zpM _) ?_;refine r14_ ?_;refine cF_ ?_;refine r11_ ?_;refine cF_ ?_;refine r8_ ?_;refine cp_ rfl (zw4 _) ?_;refine r4_ ?_;refine kw_ [0,1,2,3,6,7,8,12,14,28] ?_;refine s1_ ?_;refine ⟨_,S,⟨_,_,rfl,⟨_,_,rfl,rfl,rfl⟩,rfl⟩,zae,?_⟩;exact ⟨rfl,rfl⟩
theorem zwy (S:Mem):ACall prog 12 #[.agg #[.string ByteArray.empty,.int .i64 0],.int .u64 5,.int .i64 3] S λr S'=>r = .tuple #[.agg #[.string aS,.int .i64 3],.int .i64 0]/\S'=S:=by
 have X:=zuZ;have V:=zwu;have U:=zu0;unfold wB at *;refine k_E3 45 func12 ?_;refine r2_ ?_;refine vA (cs:=[_,_]) (zab rfl) rfl ?_;intro b3 f3;have Q:=f3
 repeat ((with_reducible replace Q:=zaa Q);obtain ⟨Q,_⟩:=Q)
 refine nl_ ?_;refine ARun.alloc (zab rfl) ze4 ?_;intro b6 Z;have K:=Z
 repeat ((with_reducible replace K:=zaa K);obtain ⟨K,_⟩:=K)
 refine nl_ ?_;refine r7_ ?_;refine cp_ rfl (zuX _) ?_;refine r9_ ?_;refine cF_ ?_;refine r7_ ?_;refine cp_ rfl (zpM _) ?_;refine r3_ ?_;refine vC 3 false 20 rfl (zab rfl) rfl (zab rfl) zwE rfl (zwt _) ?_;rintro _ S9 ⟨rfl,Y⟩;rw [Y];clear Y S9;refine r6_ ?_;refine cF_ ?_;refine r10_ ?_;refine cF_ ?_;refine r6_ ?_;refine vA (cs:=[_,_,_]) (zab rfl) rfl ?_;intro J I;have C:=I
 repeat ((with_reducible replace C:=zaa C);obtain ⟨C,_⟩:=C)
 refine nl_ ?_;refine r3_ ?_;refine kw_ [0,1,2,3,6,7,8,13,16,27,9] ?_;refine r4_ ?_;refine cp_ rfl (X J _ I) ?_;refine r7_ ?_;refine ca_ rfl (V J _ I) ?_;rintro _ S9 ⟨rfl,h9⟩;rw [h9];clear h9 S9;refine r5_ ?_;refine cp_ rfl (U J _ I) ?_;refine r5_ ?_;refine ⟨_,S,⟨_,_,_,rfl,.inr ⟨zfY,[_,_],ze3,rds_,rfl⟩,⟨_,_,rfl,rfl,rfl⟩,rfl⟩,zae,?_⟩;exact ⟨rfl,rfl⟩
theorem zck (S:Mem):ACall prog 4 #[] S λr S'=>r = .bool true/\S'=S:=by
 refine ACall.enter (rs:=[.tmp 0]) 30 [] func4 rfl rfl (Nat.le_of_ble_eq_true rfl) rfl trivial ?_;refine r8_ ?_;refine cp_ rfl (zwy _) ?_;refine r3_ ?_;refine ARun.alloc (zab rfl) ze4 ?_;intro I f1;have C:=f1
 repeat ((with_reducible replace C:=zaa C);obtain ⟨C,_⟩:=C)
 refine nl_ ?_;refine r7_ ?_;refine cp_ rfl (zwx _) ?_;refine r28_ ?_;refine ⟨_,S,⟨_,_,rfl,rfl,rfl⟩,zae,?_⟩;exact ⟨rfl,rfl⟩
end Top
end
section
open Go.RowKit
open Mv Disk Num Sto
namespace Top
theorem zsb {F:List Fl} {N:List tt} (h:F.map (·.n)=N) (C:∀ s ∈ N,tld s=false):∀ f ∈ F,tld f.n=false:=λf I=>C _ (h ▸ List.mem_map_of_mem I)
theorem nin {s:tt} {N:List tt} (h:N.all (λt=>s.data.toList != t.data.toList)=true):s ∉ N:=λhm=>by have:=List.all_eq_true.1 h s hm;simp at this
theorem zsc {L:List UInt8} {e:List Nat} {p:Nat} {c:List UInt8} (h:TurnR L e p c):c.length=L.length:=by
 obtain ⟨P,M,_,_,C,_,rfl,_⟩:=h;unfold byL;rw [List.length_map,C.length_eq,zct]
theorem zu1 (text:tt) (m k:Nat) (S:Mem) (av:text.size<=60) (C:24<=m) (h2:m<=256) (h3:24<=k) (h4:k<=256) (hE:∃ X ev,(memR S.ro).Knows ⟨2,0,none⟩ [.iface X ev]) :
  ACall prog 3 #[.string text,.int .i64 (m:Nat),.int .i64 (k:Nat)] S λr S'=>r = .bool true:=by
 have hl:text.data.toList.length<=60:=by rw [Array.length_toList];exact av
 obtain ⟨z,z1,aL⟩:=zuC av;have az:Dz (freshD 1500):=zlc (zeg (by decide) (by decide)) (by decide);have c0:∀ S,ACall prog 5 #[.int .i64 1500] S (DkRes (freshD 1500,0) S):=λS=>by have:=znK 1500 S;rw [zmQ (by decide) (by decide)] at this;exact this
 have c1:=λv S hd=>Rec.zhQ v (freshD 1500) nA text S hd az;rw [z1] at c1;generalize hL:text.data.toList=L at *;have he:(Ord.endsR (upL L) (upL L).length).Perm (List.range L.length):=by
  rw [<- zh6];exact (Ord.zbC (upL L)).1
 clear az z1;generalize bM:freshD 1500=z0 at *;refine k_E3 135 func3 ?_;refine r8_ ?_;refine cp_ rfl (zck _) ?_;refine r3_ ?_;refine cF_ ?_;refine r7_ ?_;refine rC (vh rfl rfl (zaf (zbu _ _) (decide_eq_false vd))) ?_;refine r2_ ?_
 first|refine k_q 29 ?_|refine rG 29 (vh rfl rfl (zaf (zaA _ _) (decide_eq_false vd))) ?_
 refine r3_ ?_
 first|refine k_q 33 ?_|refine rG 33 (vh rfl rfl (zaf (zbu _ _) (decide_eq_false vd))) ?_
 refine r3_ ?_
 first|refine k_q 37 ?_|refine rG 37 (vh rfl rfl (zaf (zaA _ _) (decide_eq_false vd))) ?_
 refine r3_ ?_
 first|refine k_q 41 ?_|refine rG 41 (vh rfl rfl (zaf (zbu _ _) (decide_eq_false vd))) ?_
 refine r3_ ?_;refine cF_ ?_;refine r4_ ?_;refine ca_ rfl (c0 _) ?_;rintro _ M2 ⟨v2,rfl,be,J⟩;have J:DkR M2 _ z0:=J;obtain ⟨bU,bE,bF,bT,rfl,_⟩:=id J;refine r3_ ?_;refine ARun.alloc (zab rfl) zas ?_;intro b7 f7;have g7:=f7
 repeat ((with_reducible replace g7:=zaa g7);obtain ⟨g7,_⟩:=g7)
 refine nl_ ?_;refine r8_ ?_;refine ca_ rfl ((c1 _ M2 J).frame f7) ?_;rintro _ K ⟨M3,⟨v3,rfl,aP,Q⟩,g7,C⟩;rw [C];clear C K;have Q:DkR M3 _ z:=Q;obtain ⟨bQ,bG,bL,bH,rfl,_⟩:=id Q;have aF:∃ X ev,(memR M3.ro).Knows ⟨2,0,none⟩ [.iface X ev]:=by rw [<- aP.2,<- be.2];exact hE
 refine r11_ ?_;refine ca_ rfl ((zuz (s:=nL) Q aL C h2 (zsb (N:=[nA]) rfl (by decide)) (List.mem_singleton.2 rfl) (by decide) (by decide) (nin (N:=[nA]) rfl) hl (show 1<=10 by decide)).frame g7) ?_;rintro _ K ⟨M4,⟨v4,a1,a2,a3,d4,rfl,aw,aR,ba⟩,aM,C⟩;rw [C];clear C K;obtain ⟨aY,aH,aU,bf,rfl,_⟩:=id aw;refine r4_ ?_;refine ARun.alloc (zab rfl) zaR ?_;intro bP ae;have Z:=ae
 repeat ((with_reducible replace Z:=zaa Z);obtain ⟨Z,_⟩:=Z)
 refine nl_ ?_;refine r5_ ?_;refine kw_ [0,1,2,6,25,44,7,8,9,11] ?_;refine AWP.less (M4.set b7 ⟨26,[.int .i64 d4.size,.slice aY d4.ext.length aH,.slice aU d4.waits.length bf,.int .i64 d4.fuse,.bool d4.down],5⟩) (zfN ae) ?_;have aq:∃ X ev,(memR M4.ro).Knows ⟨2,0,none⟩ [.iface X ev]:=by rw [ba];exact aF
 refine r4_ ?_;refine ca_ rfl ((zsa (s:=nE) (fn:=nL) (l:=upL L) (F:=[flT nA L]) aw aq aR C h2 (zsb (N:=[nL,nA]) rfl (by decide)) (by decide) (by decide) (nin (N:=[nL,nA]) rfl) (zo9 L) (by rw [zh6];exact hl) (show 1<=8 by decide)).frame aM) ?_;rintro _ K ⟨M5,⟨v5,a4,a5,a6,d5,rfl,ao,bc,aI⟩,aQ,C⟩;rw [C];clear C K;obtain ⟨aX,aD,aK,aT,rfl,_⟩:=id ao;refine r4_ ?_;refine ARun.alloc (zab rfl) zaR ?_;intro b12 ag;have U:=ag
 repeat ((with_reducible replace U:=zaa U);obtain ⟨U,_⟩:=U)
 refine nl_ ?_;refine r5_ ?_;refine AWP.less (M5.set b7 ⟨26,[.int .i64 d5.size,.slice aX d5.ext.length aD,.slice aK d5.waits.length aT,.int .i64 d5.fuse,.bool d5.down],5⟩) (zfN ag) ?_;have aA:∃ X ev,(memR M5.ro).Knows ⟨2,0,none⟩ [.iface X ev]:=by rw [aI];exact aq
 refine r4_ ?_;refine ca_ rfl ((zuB (s:=nC) (fn:=nA) (en:=nE) (L:=L) (e:=Ord.endsR (upL L) (upL L).length) ao aA bc C h2 (zsb (N:=[nE,nL,nA]) rfl (by decide)) (by simp) (by simp) (by decide) (by decide) (by decide) (nin (N:=[nE,nL,nA]) rfl) hl he (show 3<=14 by decide)).frame aQ) ?_;rintro _ K ⟨M6,⟨v6,pr,a7,a8,a9,d6,aJ,rfl,af,au,a0,aZ⟩,aO,C⟩;rw [C];clear C K;obtain ⟨aC,bb,aE,aG,rfl,_⟩:=id au;refine r5_ ?_;refine ARun.alloc (zab rfl) zaR ?_;intro bR ad;have Y:=ad
 repeat ((with_reducible replace Y:=zaa Y);obtain ⟨Y,_⟩:=Y)
 refine nl_ ?_;refine r6_ ?_;refine AWP.less (M6.set b7 ⟨26,[.int .i64 d6.size,.slice aC d6.ext.length bb,.slice aE d6.waits.length aG,.int .i64 d6.fuse,.bool d6.down],5⟩) (zfN ad) ?_;have bg:∃ X ev,(memR M6.ro).Knows ⟨2,0,none⟩ [.iface X ev]:=by rw [aZ];exact aA
 refine r4_ ?_;refine ca_ rfl ((zpL (s:=nF) (fn:=nA) (L:=L) au bg a0 h3 h4 (zsb (N:=[nC,nE,nL,nA]) rfl (by decide)) (by simp) (by decide) (by decide) (nin (N:=[nC,nE,nL,nA]) rfl) hl (show 4<=7 by decide)).frame aO) ?_;rintro _ K ⟨M7,⟨v7,bV,bK,bC,bW,I,bj,rfl,bd,ax,aa,bJ⟩,aW,C⟩;rw [C];clear C K;obtain ⟨an,am,al,ai,rfl,_⟩:=id ax;refine r5_ ?_;refine ARun.alloc (zab rfl) zaR ?_;intro bI ah;have V:=ah
 repeat ((with_reducible replace V:=zaa V);obtain ⟨V,_⟩:=V)
 refine nl_ ?_;refine r6_ ?_;refine AWP.less (M7.set b7 ⟨26,[.int .i64 I.size,.slice an I.ext.length am,.slice al I.waits.length ai,.int .i64 I.fuse,.bool I.down],5⟩) (zfN ah) ?_;have aV:=(show aJ.length<=60 by rw [zsc af];exact hl);obtain ⟨rfl,rfl⟩:=zrC af bd;have aB:=ax.less (vi M7 b7 ⟨26,[.int .i64 I.size,.slice an I.ext.length am,.slice al I.waits.length ai,.int .i64 I.fuse,.bool I.down],5⟩ aW.1);have c6:=Rec.zfu _ I nC _ aB aa.dz;have c7:=Rec.zfu _ I nF _ aB aa.dz;rw [zwj aa (by simp) aV] at c6 c7;refine r3_ ?_;refine cp_ rfl (c6) ?_;refine r10_ ?_;refine cp_ rfl (c7) ?_;refine r7_ ?_;refine kw_ [0,1,2,6,25,44,7,8,9,11,13,14,16,17,19,20,21,22,23] ?_;refine r35_ ?_
 first|refine k_q 125 ?_|refine rG 125 (vh rfl rfl (zaf (zar _ _) (decide_eq_true rfl))) ?_
 refine r4_ ?_
 first|refine k_q 130 ?_|refine rG 130 (vh rfl rfl (zaf (zaJ _ _) (decide_eq_true rfl))) ?_
 refine r5_ ?_;refine ⟨_,_,⟨_,_,rfl,rfl,rfl⟩,zae,?_⟩;rfl
theorem zwz (text:tt) (C I:Int) (S:Mem) (h:60<text.size\/C<24\/256<C\/I<24\/256<I) :
  ACall prog 3 #[.string text,.int .i64 C,.int .i64 I] S λr S'=>r = .bool true:=by
 by_cases U:60<text.size
 ·skip
  refine k_E3 135 func3 ?_;refine r8_ ?_;refine cp_ rfl (zck _) ?_;refine r3_ ?_;refine cF_ ?_;refine r7_ ?_;refine rC (vh rfl rfl (zaf (zbu _ _) (decide_eq_true vd))) ?_;refine r18_ ?_;refine cT_ ?_;refine r7_ ?_;refine ⟨_,_,⟨_,_,rfl,rfl,rfl⟩,zae,?_⟩;rfl
 by_cases K:C<24
 ·skip
  refine k_E3 135 func3 ?_;refine r8_ ?_;refine cp_ rfl (zck _) ?_;refine r3_ ?_;refine cF_ ?_;refine r7_ ?_;refine rC (vh rfl rfl (zaf (zbu _ _) (decide_eq_false vd))) ?_;refine r2_ ?_
  first|refine k_q 29 ?_|refine rG 29 (vh rfl rfl (zaf (zaA _ _) (decide_eq_true vd))) ?_
  refine r15_ ?_;refine cT_ ?_;refine r7_ ?_;refine ⟨_,_,⟨_,_,rfl,rfl,rfl⟩,zae,?_⟩;rfl
 by_cases Q:256<C
 ·skip
  refine k_E3 135 func3 ?_;refine r8_ ?_;refine cp_ rfl (zck _) ?_;refine r3_ ?_;refine kw_ [0,1,2,6,25] ?_;refine cF_ ?_;refine r7_ ?_;refine rC (vh rfl rfl (zaf (zbu _ _) (decide_eq_false vd))) ?_;refine r2_ ?_
  first|refine k_q 29 ?_|refine rG 29 (vh rfl rfl (zaf (zaA _ _) (decide_eq_false vd))) ?_
  refine r3_ ?_
  first|refine k_q 33 ?_|refine rG 33 (vh rfl rfl (zaf (zbu _ _) (decide_eq_true vd))) ?_
  refine r11_ ?_;refine cT_ ?_;refine r7_ ?_;refine ⟨_,_,⟨_,_,rfl,rfl,rfl⟩,zae,?_⟩;rfl
 by_cases J:I<24
 ·skip
  refine k_E3 135 func3 ?_;refine r8_ ?_;refine cp_ rfl (zck _) ?_;refine r3_ ?_;refine cF_ ?_;refine r7_ ?_;refine rC (vh rfl rfl (zaf (zbu _ _) (decide_eq_false vd))) ?_;refine r2_ ?_
  first|refine k_q 29 ?_|refine rG 29 (vh rfl rfl (zaf (zaA _ _) (decide_eq_false vd))) ?_
  refine r3_ ?_
  first|refine k_q 33 ?_|refine rG 33 (vh rfl rfl (zaf (zbu _ _) (decide_eq_false vd))) ?_
  refine r3_ ?_
  first|refine k_q 37 ?_|refine rG 37 (vh rfl rfl (zaf (zaA _ _) (decide_eq_true vd))) ?_
  refine r7_ ?_;refine cT_ ?_;refine r7_ ?_;refine ⟨_,_,⟨_,_,rfl,rfl,rfl⟩,zae,?_⟩;rfl
 refine k_E3 135 func3 ?_;refine r8_ ?_;refine cp_ rfl (zck _) ?_;refine r3_ ?_;refine cF_ ?_;refine r7_ ?_;refine rC (vh rfl rfl (zaf (zbu _ _) (decide_eq_false vd))) ?_;refine r2_ ?_
 first|refine k_q 29 ?_|refine rG 29 (vh rfl rfl (zaf (zaA _ _) (decide_eq_false vd))) ?_
 refine r3_ ?_
 first|refine k_q 33 ?_|refine rG 33 (vh rfl rfl (zaf (zbu _ _) (decide_eq_false vd))) ?_
 refine r3_ ?_
 first|refine k_q 37 ?_|refine rG 37 (vh rfl rfl (zaf (zaA _ _) (decide_eq_false vd))) ?_
 refine r3_ ?_
 first|refine k_q 41 ?_|refine rG 41 (vh rfl rfl (zaf (zbu _ _) (decide_eq_true vd))) ?_
 refine r3_ ?_;refine kw_ [0,1,2,6,25,44] ?_;refine cT_ ?_;refine r7_ ?_;refine ⟨_,_,⟨_,_,rfl,rfl,rfl⟩,zae,?_⟩;rfl
end Top
theorem zgP (text:tt) (C I:Int) (W:tv) (J:Top.ErrO (roM W)) :
  Calls prog 3 #[.string text,.int .i64 C,.int .i64 I] W λe w'=>e = .returned (.bool true)/\Below W.heap.size W w':=by
 refine ACall.callsW (?_:ACall _ _ _ _ λr _=>r = .bool true);by_cases h:60<text.size\/C<24\/256<C\/I<24\/256<I
 ·exact Top.zwz text C I _ h
 obtain ⟨m,rfl⟩:=Int.eq_ofNat_of_zero_le (show 0<=C by omega);obtain ⟨k,rfl⟩:=Int.eq_ofNat_of_zero_le (show 0<=I by omega);exact Top.zu1 text m k _ vd vd vd vd vd J
end
end Go.Proofs.YtbgjkpkakoggbaaGreatDoor
