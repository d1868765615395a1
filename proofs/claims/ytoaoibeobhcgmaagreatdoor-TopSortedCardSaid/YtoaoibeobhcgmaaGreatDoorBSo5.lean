/-
  Texts that belong together: Pool9, Pool10, Pool11, Pool12, Pool13, Pool14, Arn, Rdr1, Gro, Rdr2, Wtr1, Wtr2, Wtr3, Wtr4, Wtr5, Rdr3, Rdr4, Pool19, Sto6, Run1, Run2, Rdr5, Err, Flw1, LoserMath, Run3, Flw2.
-/
import Derived.Test.YtoaoibeobhcgmaaGreatDoorBSo4
import Derived.WideLaws
set_option linter.unusedVariables false
set_option linter.unusedSimpArgs false
set_option linter.unusedSectionVars false
namespace Go.Proofs.YtoaoibeobhcgmaaGreatDoor
section
open Go.RowKit
open Mv Disk
set_option maxRecDepth 4000
theorem zfk (x:Pl) (i:Nat):(wrP x i).1.fr.length=x.fr.length:=by
 unfold wrP;simp only;split <;> simp
theorem zmI {l:List Fr} {i:Nat} (h:i<l.length):l.getD i F0=l[i]:=by simp [List.getD,List.getElem?_eq_getElem h]
theorem zmJ {l:List Fr} {i:Nat} (h:i<l.length) (he:l[i]=F0) (hn:∀ j (hj:j<l.length),j<i→l[j]≠F0):l.findIdx (fun x=>decide (x=F0))=i :=
 (List.findIdx_eq h).2 ⟨by simp [he],fun j hj=>by simp [hn j (by omega) hj]⟩
theorem zmK {l:List Fr} (hn:∀ j (hj:j<l.length),l[j]≠F0) : ¬ l.findIdx (fun x=>decide (x=F0))<l.length:=fun h=>by
 have:=List.findIdx_getElem (w:=h)
 simp only [decide_eq_true_eq] at this
 exact hn _ h this
set_option maxHeartbeats 4000000 in
theorem zmL (a p b c:Nat) (x:Pl) (k:Int) (S:Mem) (oE oW:Option (Nat × Nat)) (hok:OkA S a p b c x oE oW) (hw:PW x) :
  ACall Tryz.prog 140 #[.pointer (some ⟨a,0,none⟩)] (arM (devM S p x.d oE oW) a p b c x k) fun r S'=>r = .tuple #[.int .i64 ((takeP x).2.1:Nat),.int .i64 (takeP x).2.2]∧ArS S a p b c (takeP x).1 S':=by
 have h256:=hw.l2
 have hA:=za3 (M:=devM S p x.d oE oW) (a:=a) (p:=p) (b:=b) (c:=c) (x:=x) (k:=k)
 have hB:=zde (M:=devM S p x.d oE oW) (p:=p) (c:=c) (x:=x) (k:=k) hok.ab
 have hF:=ziL (M:=devM S p x.d oE oW) (p:=p) (x:=x) (k:=k) hok.ab hok.l hw.l2
 have hsA:=fun k'=>zej (M:=devM S p x.d oE oW) (a:=a) (p:=p) (b:=b) (c:=c) (x:=x) (x':=x) (k:=k) (k':=k') rfl
 have hsF:=fun fr' h=>zby (M:=devM S p x.d oE oW) (p:=p) (c:=c) (x:=x) (k:=k) hok.ab fr' h
 have hwr:=fun m hm=>zjF a p b c x m k S oE oW hok hw hm
 generalize hT:arM (devM S p x.d oE oW) a p b c x k=T at *
 have hbusy:=fun S=>zrm a p b c x k S
 unfold arB at hA hbusy
 refine k_E1 (rs:=[.tmp 2,.tmp 3]) 79 Tryz.func140 rfl rfl rfl ?_
 refine r23_ ?_
 refine AWP.loop (X:=Nat) (fun y=>[(0,.pointer (some ⟨a,0,none⟩)),(4,.int .i64 (bestF x.fr y)),(11,.slice (some ⟨b,0,none⟩) x.fr.length c),(12,.int .i64 x.fr.length),(13,.int .i64 y)]) (fun _=>T) (fun y=>y≤x.fr.length ∧ ∀ j (hj:j<x.fr.length),j<y→x.fr[j]≠F0) (fun y=>x.fr.length-y) (0) ⟨rfl,rfl,rfl,rfl,rfl,trivial⟩ zad (⟨Nat.zero_le _,fun j _ h=>absurd h (Nat.not_lt_zero _)⟩) ?_
 rintro i ⟨hi,hno⟩
 (try dsimp only at *)
 obtain ⟨hb0,hb1⟩:=zdS x.fr i
 refine r6_ ?_
 refine AWP.condB rfl (fun hc=>?_) (fun hc=>?_)
 ·have hc:i<x.fr.length:=by have:=of_decide_eq_true hc;omega
  have hki:=zgG hF i hc
  have hge:=zmI hc
  by_cases q:x.fr[i]=F0
  ·have htk:takeP x=(x,i,0):=by unfold takeP;rw [zmJ hc q hno,if_pos hc]
   rw [htk]
   have cf:=fun S=>zeh x.fr[i] S
   rw [decide_eq_true q] at cf
   generalize x.fr[i]=y at *
   unfold frV at cf
   unfold frF at hki
   refine r9_ ?_
   refine ARun.alloc (zab rfl) zax ?_
   intro b6 f6
   have g6:=f6
   repeat ((with_reducible replace g6:=zaa g6);obtain ⟨g6,_⟩:=g6)
   have:=g6.ne hA;have:=g6.ne' hA
   refine nl_ ?_
   refine r8_ ?_
   refine ca_ rfl (cf _) ?_
   rintro _ S1 ⟨rfl,h1⟩
   rw [h1];clear h1 S1
   refine r3_ ?_
   refine cT_ ?_
   refine s1_ ?_
   refine AWP.draw [(0,true),(1,true),(2,true),(3,true),(4,true),(5,true),(6,false),(7,true),(8,true),(9,true),(10,true),(11,false)] [11] mixed (by kernel_rfl) ?_
   refine r6_ ?_
   refine zac rfl ?_
   refine ca_ rfl (hbusy _ own_ (hF.less zad) h256) ?_
   rintro _ S1 ⟨⟨n,hn,rfl⟩,h1⟩
   rw [h1];clear h1 S1
   refine zae ⟨fun _=>zad,?_⟩
   refine s1_ ?_
   refine dC (hc:=Calm.maxE rfl rfl rfl) (h:=?_)
   refine r2_ ?_
   refine zac rfl ?_
   refine ARun.store1 (r:=⟨_,[_,_,_,_,_,_],6⟩) rfl rfl zb0 rfl own_ (show 0+5<6 from by decide) rfl ?_
   try simp only [k_ms,k_sz,k_ss,k_za,Nat.reduceAdd]
   refine zae ⟨fun h=>absurd h (by decide),?_⟩
   refine r9_ ?_
   refine zd5 0 4 11 12 13 14 6 5 18 2 3 ?_
   refine r7_ ?_
   refine ⟨_,arM (devM S p x.d oE oW) a p b c x (max k ((n:Int)+1)),⟨_,_,rfl,⟨_,_,rfl,rfl,rfl⟩,rfl⟩,(by rw [← hsA];exact Less.set (Mem.less_set _ _ _ g6.1) _ _),?_⟩
   exact ⟨rfl,max k ((n:Int)+1),oE,oW,hok,rfl⟩
  ·have hno':∀ j (hj:j<x.fr.length),j<i+1→x.fr[j]≠F0:=fun j hj h=>by rcases Nat.lt_or_ge j i with h' | h';exact hno j hj h';obtain rfl:j=i:=(by omega);exact q
   by_cases q2:x.fr[i].idle
   ·by_cases q3:bestF x.fr i<0
    ·have hbs:bestF x.fr (i+1)=(i:Nat):=by rw [bestF,if_pos ⟨by rw [hge];exact q2,.inl q3⟩]
     have cf:=fun S=>zeh x.fr[i] S
     rw [decide_eq_false q] at cf
     have ci:=fun S=>zgC x.fr[i] S
     rw [decide_eq_true q2] at ci
     generalize x.fr[i]=y at *
     unfold frV at cf ci
     unfold frF at hki
     refine r9_ ?_
     refine ARun.alloc (zab rfl) zax ?_
     intro b6 f6
     have g6:=f6
     repeat ((with_reducible replace g6:=zaa g6);obtain ⟨g6,_⟩:=g6)
     have:=g6.ne hA;have:=g6.ne' hA
     refine nl_ ?_
     refine r8_ ?_
     refine ca_ rfl (cf _) ?_
     rintro _ S1 ⟨rfl,h1⟩
     rw [h1];clear h1 S1
     refine r3_ ?_
     refine cF_ ?_
     refine r3_ ?_
     refine ca_ rfl (ci _) ?_
     rintro _ S1 ⟨rfl,h1⟩
     rw [h1];clear h1 S1
     refine r4_ ?_
     refine cF_ ?_
     refine s1_ ?_
     refine AWP.draw [(0,true),(1,true),(2,true),(3,true),(4,true),(5,true),(6,true),(7,true),(8,true),(9,true),(10,true),(11,true),(12,true),(13,true),(14,true),(15,true)] [] mixed (by kernel_rfl) ?_
     refine s1_ ?_
     refine dP (hc:=fun _=>Calm.bin rfl rfl (zag (zbc _ _) (decide_eq_true q3))) (h:=?_)
     refine r16_ ?_
     refine cT_ ?_
     refine r7_ ?_
     refine zd5 0 4 11 12 13 14 6 5 18 33 37 ?_
     refine r5_ ?_
     refine ⟨i+1,?_,?_,?_,?_⟩
     all_goals (try dsimp only)
     ·exact ⟨rfl,zai hbs.symm,rfl,rfl,rfl,trivial⟩
     ·exact zad
     ·exact ⟨hc,hno'⟩
     ·omega
    ·obtain ⟨m,hm⟩ : ∃ m:Nat,bestF x.fr i=(m:Int):=⟨_,(Int.toNat_of_nonneg (by omega)).symm⟩
     have hml:m<x.fr.length:=by omega
     obtain ⟨_,_,_,_,_,kb,_⟩:=zez (zgG hF m hml)
     have hbs:bestF x.fr (i+1)=if x.fr[i].tick<x.fr[m].tick then (i:Int) else (m:Int):=by rw [bestF,hm,hge,Int.toNat_natCast,zmI hml];by_cases z:x.fr[i].tick<x.fr[m].tick;rw [if_pos z,if_pos ⟨q2,.inr z⟩];rw [if_neg z,if_neg (fun h=>h.2.elim (by omega) z)]
     rw [hm]
     have cf:=fun S=>zeh x.fr[i] S
     rw [decide_eq_false q] at cf
     have ci:=fun S=>zgC x.fr[i] S
     rw [decide_eq_true q2] at ci
     generalize x.fr[m]=z at *
     generalize x.fr[i]=y at *
     unfold frV at cf ci
     unfold frF at hki
     refine r9_ ?_
     refine ARun.alloc (zab rfl) zax ?_
     intro b6 f6
     have g6:=f6
     repeat ((with_reducible replace g6:=zaa g6);obtain ⟨g6,_⟩:=g6)
     have:=g6.ne hA;have:=g6.ne' hA
     refine nl_ ?_
     refine r8_ ?_
     refine ca_ rfl (cf _) ?_
     rintro _ S1 ⟨rfl,h1⟩
     rw [h1];clear h1 S1
     refine r3_ ?_
     refine cF_ ?_
     refine r3_ ?_
     refine ca_ rfl (ci _) ?_
     rintro _ S1 ⟨rfl,h1⟩
     rw [h1];clear h1 S1
     refine r4_ ?_
     refine cF_ ?_
     refine s1_ ?_
     refine AWP.draw [(0,true),(1,true),(2,true),(3,true),(4,true),(5,true),(6,true),(7,true),(8,true),(9,true),(10,true),(11,true),(12,true),(13,true),(14,true),(15,true)] [] mixed (by kernel_rfl) ?_
     refine s1_ ?_
     refine dP (hc:=fun _=>Calm.bin rfl rfl (zag (zbc _ _) (decide_eq_false (by omega)))) (h:=?_)
     refine r16_ ?_
     refine AWP.condB rfl (fun hx=>?_) (fun hx=>?_)
     ·refine r7_ ?_
      refine zd5 0 4 11 12 13 14 6 5 18 33 37 ?_
      refine r5_ ?_
      refine ⟨i+1,?_,?_,?_,?_⟩
      all_goals (try dsimp only)
      ·exact ⟨rfl,zai (by rw [hbs,if_pos (of_decide_eq_true hx)]),rfl,rfl,rfl,trivial⟩
      ·exact zad
      ·exact ⟨hc,hno'⟩
      ·omega
     ·refine r9_ ?_
      refine ⟨i+1,?_,?_,?_,?_⟩
      all_goals (try dsimp only)
      ·exact ⟨rfl,zai (by rw [hbs,if_neg (of_decide_eq_false hx)]),rfl,rfl,rfl,trivial⟩
      ·exact zad
      ·exact ⟨hc,hno'⟩
      ·omega
   ·have hbs:bestF x.fr (i+1)=bestF x.fr i:=by rw [bestF,if_neg (fun h=>q2 (by rw [← hge];exact h.1))]
    have cf:=fun S=>zeh x.fr[i] S
    rw [decide_eq_false q] at cf
    have ci:=fun S=>zgC x.fr[i] S
    rw [decide_eq_false q2] at ci
    generalize x.fr[i]=y at *
    unfold frV at cf ci
    unfold frF at hki
    refine r9_ ?_
    refine ARun.alloc (zab rfl) zax ?_
    intro b6 f6
    have g6:=f6
    repeat ((with_reducible replace g6:=zaa g6);obtain ⟨g6,_⟩:=g6)
    have:=g6.ne hA;have:=g6.ne' hA
    refine nl_ ?_
    refine r8_ ?_
    refine ca_ rfl (cf _) ?_
    rintro _ S1 ⟨rfl,h1⟩
    rw [h1];clear h1 S1
    refine r3_ ?_
    refine cF_ ?_
    refine r3_ ?_
    refine ca_ rfl (ci _) ?_
    rintro _ S1 ⟨rfl,h1⟩
    rw [h1];clear h1 S1
    refine r4_ ?_
    refine cT_ ?_
    refine r9_ ?_
    refine ⟨i+1,?_,?_,?_,?_⟩
    all_goals (try dsimp only)
    ·exact ⟨rfl,zai hbs.symm,rfl,rfl,rfl,trivial⟩
    ·exact zad
    ·exact ⟨hc,hno'⟩
    ·omega
 ·have hc:i=x.fr.length:=by have:=of_decide_eq_false hc;omega
  subst hc
  have hnf:=zmK (fun j hj=>hno j hj hj)
  by_cases q3:bestF x.fr x.fr.length<0
  ·have htk:takeP x=(x,0,9):=by unfold takeP;rw [if_neg hnf,if_pos q3]
   rw [htk]
   refine r12_ ?_
   refine cT_ ?_
   refine r8_ ?_
   refine ⟨_,T,⟨_,_,rfl,⟨_,_,rfl,rfl,rfl⟩,rfl⟩,zad,?_⟩
   exact ⟨rfl,k,oE,oW,hok,hT.symm⟩
  ·obtain ⟨m,hm⟩ : ∃ m:Nat,bestF x.fr x.fr.length=(m:Int):=⟨_,(Int.toNat_of_nonneg (by omega)).symm⟩
   have hml:m<x.fr.length:=by omega
   have hmt:(bestF x.fr x.fr.length).toNat=m:=by rw [hm];rfl
   obtain ⟨_,_,_,_,kb,_,_⟩:=zez (zgG hF m hml)
   rw [hm]
   by_cases q4:x.fr[m].dirty=true
   ·have hwm:=hwr m hml
    refine r12_ ?_
    refine k_v7 0 4 11 12 13 14 56 ?_
    refine cF_ ?_
    refine r12_ ?_
    refine rC (Calm.as (congrArg Value.bool q4) (ld_ zbC rfl)) ?_
    refine r2_ ?_
    refine cT_ ?_
    refine r4_ ?_
    refine ca_ rfl (hwm) ?_
    rintro _ S1 ⟨rfl,k',oE',oW',hok',h1⟩
    rw [h1];clear h1 S1
    have hA2:=za3 (M:=devM S p (wrP x m).1.d oE' oW') (a:=a) (p:=p) (b:=b) (c:=c) (x:=(wrP x m).1) (k:=k')
    have hB2:=zde (M:=devM S p (wrP x m).1.d oE' oW') (p:=p) (c:=c) (x:=(wrP x m).1) (k:=k') hok.ab
    have hsF2:=fun fr' h=>zby (M:=devM S p (wrP x m).1.d oE' oW') (p:=p) (c:=c) (x:=(wrP x m).1) (k:=k') hok.ab fr' h
    have hwl:=zfk x m
    have htk:takeP x=if (wrP x m).2=0 then (setP (wrP x m).1 m F0,m,0) else ((wrP x m).1,0,(wrP x m).2):=by unfold takeP;rw [if_neg hnf,if_neg q3,hmt,if_pos (by rw [zaP hml];exact q4)]
    rw [htk]
    generalize wrP x m=u at *
    unfold arB at hA2
    rw [hwl] at hA2
    refine r3_ ?_
    by_cases e0:u.2=0
    ·rw [if_pos e0]
     refine r6_ ?_
     refine cF_ ?_
     refine r11_ ?_
     refine ARun.storeFr (c:=c) (i:=m) (l:=u.1.fr) (u:=F0) rfl rfl rfl (by omega) (by omega) zbp hB2 ?_
     try simp only [k_ms,k_sz,k_ss,k_za,Nat.reduceAdd]
     refine r9_ ?_
     refine zh9 0 4 11 12 13 14 56 64 7 69 2 3 ?_
     refine s1_ ?_
     refine ⟨_,arM (devM S p u.1.d oE' oW') a p b c (setP u.1 m F0) k',⟨_,_,rfl,⟨_,_,rfl,rfl,rfl⟩,rfl⟩,(by rw [hsF2 _ (by simp)];exact Mem.Less.refl _),?_⟩
     exact ⟨rfl,k',oE',oW',hok'.like rfl (by unfold setP;simp),rfl⟩
    ·rw [if_neg e0]
     refine r6_ ?_
     refine cT_ ?_
     refine r9_ ?_
     refine ⟨_,arM (devM S p u.1.d oE' oW') a p b c u.1 k',⟨_,_,rfl,⟨_,_,rfl,rfl,rfl⟩,rfl⟩,Mem.Less.refl _,?_⟩
     exact ⟨rfl,k',oE',oW',hok',rfl⟩
   ·have q4':x.fr[m].dirty=false:=by simpa using q4
    have htk:takeP x=(setP x m F0,m,0):=by unfold takeP;rw [if_neg hnf,if_neg q3,hmt,if_neg (by rw [zaP hml];exact q4)]
    rw [htk]
    refine r12_ ?_
    refine cF_ ?_
    refine r12_ ?_
    refine rC (Calm.as (congrArg Value.bool q4') (ld_ zbC rfl)) ?_
    refine r2_ ?_
    refine cF_ ?_
    refine r11_ ?_
    refine ARun.storeFr (c:=c) (i:=m) (l:=x.fr) (u:=F0) rfl rfl rfl (by omega) hml zbp hB ?_
    try simp only [k_ms,k_sz,k_ss,k_za,Nat.reduceAdd]
    refine r2_ ?_
    refine k_v8 0 4 11 12 13 14 56 64 ?_
    refine r8_ ?_
    refine ⟨_,arM (devM S p x.d oE oW) a p b c (setP x m F0) k,⟨_,_,rfl,⟨_,_,rfl,rfl,rfl⟩,rfl⟩,(by rw [hsF _ (by simp)];exact Mem.Less.refl _),?_⟩
    exact ⟨rfl,k,oE,oW,hok.like rfl (by unfold setP;simp),rfl⟩
end
section
open Go.RowKit
open Mv Disk
set_option maxRecDepth 4000
theorem zrn (x:Fr) (s:ByteArray) (k:Int) (kb sb:Nat) (S:Mem) (hk:S.Knows ⟨kb,0,none⟩ [.int .i64 k]) (hs:S.Knows ⟨sb,0,none⟩ [.string s]) :
  ACall Tryz.prog 240 #[frV x,.pointer (some ⟨kb,0,none⟩),.pointer (some ⟨sb,0,none⟩)] S fun r S'=>r = .bool (isF s k x)∧S'=S:=by
 have ch:=fun S=>zeL x S
 unfold frV isF at *
 by_cases q1:x.holds
 ·rw [decide_eq_true q1] at ch
  by_cases q2:x.sector=k
  ·have e:decide (x.holds∧x.sector=k∧x.name=s)=decide (x.name=s):=by simp [q1,q2]
   rw [e]
   refine k_E3 (rs:=[.tmp 4]) 19 Tryz.func240 rfl rfl rfl ?_
   refine r2_ ?_
   refine k_b7 rfl ?_
   intro b3 f3
   have g3:=f3
   repeat ((with_reducible replace g3:=zaa g3);obtain ⟨g3,_⟩:=g3)
   refine nl_ ?_
   refine r6_ ?_
   refine ca_ rfl (ch _) ?_
   rintro _ S1 ⟨rfl,h1⟩
   rw [h1];clear h1 S1
   refine r4_ ?_
   first|refine k_q 7 ?_|refine rG 7 (Calm.bin rfl rfl (zag (zaY _ _) (decide_eq_true q2))) ?_
   refine r5_ ?_
   first|refine k_q 13 ?_|refine rG 13 (Calm.bin rfl rfl (zag (zaw _ _) rfl)) ?_
   refine r5_ ?_
   refine ⟨_,S,⟨_,_,rfl,rfl,rfl⟩,zad,?_⟩
   exact ⟨rfl,rfl⟩
  ·rw [decide_eq_false (fun h=>q2 h.2.1)]
   refine k_E3 (rs:=[.tmp 4]) 19 Tryz.func240 rfl rfl rfl ?_
   refine r2_ ?_
   refine k_b7 rfl ?_
   intro b3 f3
   have g3:=f3
   repeat ((with_reducible replace g3:=zaa g3);obtain ⟨g3,_⟩:=g3)
   refine nl_ ?_
   refine r6_ ?_
   refine ca_ rfl (ch _) ?_
   rintro _ S1 ⟨rfl,h1⟩
   rw [h1];clear h1 S1
   refine r4_ ?_
   first|refine k_q 7 ?_|refine rG 7 (Calm.bin rfl rfl (zag (zaY _ _) (decide_eq_false q2))) ?_
   refine r11_ ?_
   refine ⟨_,S,⟨_,_,rfl,rfl,rfl⟩,zad,?_⟩
   exact ⟨rfl,rfl⟩
 ·rw [decide_eq_false q1] at ch
  rw [decide_eq_false (fun h=>q1 h.1)]
  refine k_E3 (rs:=[.tmp 4]) 19 Tryz.func240 rfl rfl rfl ?_
  refine r2_ ?_
  refine k_b7 rfl ?_
  intro b3 f3
  have g3:=f3
  repeat ((with_reducible replace g3:=zaa g3);obtain ⟨g3,_⟩:=g3)
  refine nl_ ?_
  refine r6_ ?_
  refine ca_ rfl (ch _) ?_
  rintro _ S1 ⟨rfl,h1⟩
  rw [h1];clear h1 S1
  refine r16_ ?_
  refine ⟨_,S,⟨_,_,rfl,rfl,rfl⟩,zad,?_⟩
  exact ⟨rfl,rfl⟩
set_option maxHeartbeats 1000000 in
theorem zmM (v:Value) (l:List Fr) (s:ByteArray) (k:Int) (kb sb:Nat) (S:Mem) (hl:Sl 7 frF S v l) (hk:S.Knows ⟨kb,0,none⟩ [.int .i64 k]) (hs:S.Knows ⟨sb,0,none⟩ [.string s]) :
  ACall Tryz.prog 239 #[v,.func (.func 240) #[] #[.pointer (some ⟨kb,0,none⟩),.pointer (some ⟨sb,0,none⟩)]] S fun r S'=>r = .int .i64 (if l.findIdx (isF s k)<l.length then (l.findIdx (isF s k):Int) else -1)∧S'=S:=by
 obtain ⟨a,cap,rfl,h1,h2,h3⟩:=id hl
 refine k_E2 (rs:=[.tmp 4]) 19 Tryz.func239 rfl rfl rfl ?_
 refine r14_ ?_
 refine AWP.loop (X:=Nat) (fun x=>[(0,.slice a l.length cap),(1,.func (.func 240) #[] #[.pointer (some ⟨kb,0,none⟩),.pointer (some ⟨sb,0,none⟩)]),(7,.int .i64 l.length),(8,.int .i64 x)]) (fun x=>S) (fun i=>i≤l.length ∧ ∀ j (h:j<l.length),j<i→isF s k l[j]=false) (fun x=>l.length-x) (0) ⟨rfl,rfl,rfl,rfl,trivial⟩ (Mem.Less.refl _) (⟨Nat.zero_le _,fun j _ h=>absurd h (Nat.not_lt_zero _)⟩) ?_
 rintro i ⟨hi,hall⟩
 (try dsimp only at *)
 refine r6_ ?_
 refine AWP.condB rfl (fun hc=>?_) (fun hc=>?_)
 ·have hc:i<l.length:=by have:=of_decide_eq_true hc;omega
  obtain ⟨b,off,rfl,hkk⟩:=h3.resolve_left (fun e=>by subst e;simp at hc)
  have hki:=hkk i hc
  have hall':isF s k l[i]=false → ∀ j (h:j<l.length),j<i+1→isF s k l[j]=false:=fun hn j h hj=>by rcases Nat.lt_or_ge j i with h' | h';exact hall j h h';obtain rfl:j=i:=(by omega);exact hn
  have hat:isF s k l[i]=true→l.findIdx (isF s k)=i:=fun hy=>(List.findIdx_eq hc).2 ⟨hy,fun j hj=>hall j (by omega) hj⟩
  generalize l[i]=y at *
  unfold frF at hki
  refine r17_ ?_
  refine ARun.callV (zab rfl) zsW rfl rfl (zrn y s k kb sb _ hk hs) ?_
  rintro _ S1 ⟨rfl,h1⟩
  rw [h1];clear h1 S1
  refine r2_ ?_
  refine AWP.condB rfl (fun hb=>?_) (fun hb=>?_)
  ·refine r6_ ?_
   refine r6_ ?_
   refine ⟨_,S,⟨_,_,rfl,rfl,rfl⟩,zad,?_⟩
   exact ⟨by rw [hat hb,if_pos hc];rfl,rfl⟩
  ·refine r8_ ?_
   refine ⟨i+1,?_,?_,?_,?_⟩
   all_goals (try dsimp only)
   ·exact ⟨rfl,rfl,rfl,rfl,trivial⟩
   ·exact zad
   ·exact ⟨hc,hall' hb⟩
   ·omega
 ·have hc:i=l.length:=by have:=of_decide_eq_false hc;omega
  refine r11_ ?_
  refine ⟨_,S,⟨_,_,rfl,rfl,rfl⟩,zad,?_⟩
  exact ⟨by rw [if_neg (fun h=>by have h2:=List.findIdx_getElem (w:=h);rw [hall _ h (by omega)] at h2;cases h2)];rfl,rfl⟩
theorem zjG {x:Pl} (h:(takeP x).2.2=0):(takeP x).2.1<(takeP x).1.fr.length:=by
 have hb:=zdS x.fr x.fr.length
 have hl:=zfk x (bestF x.fr x.fr.length).toNat
 revert h
 unfold takeP
 repeat' split
 ·intro _;assumption
 ·intro h;simp at h
 ·intro _;unfold setP;simp only [List.length_set];omega
 ·intro h;rename_i e;exact absurd h e
 ·intro _;unfold setP;simp only [List.length_set];omega
def ArN (S:Mem) (a p b c:Nat) (q:Pl × Nat × Int) (r:Value) (S':Mem):Prop:=r = .tuple #[.int .i64 (q.2.1:Nat),.int .i64 q.2.2]∧ArS S a p b c q.1 S'
theorem zo8 (x:Pl):(takeP x).1.fr.length=x.fr.length:=by
 have hl:=zfk x (bestF x.fr x.fr.length).toNat
 unfold takeP
 repeat' split
 all_goals (try unfold setP);simp only [List.length_set];try exact hl
set_option maxHeartbeats 8000000 in
theorem zmN (a p b c:Nat) (x:Pl) (s:ByteArray) (n:Int) (k:Int) (S:Mem) (oE oW:Option (Nat × Nat)) (hok:OkA S a p b c x oE oW) (hw:PW x) :
  ACall Tryz.prog 203 #[.pointer (some ⟨a,0,none⟩),.string s,.int .i64 n] (arM (devM S p x.d oE oW) a p b c x k) (ArN S a p b c (pinP x s n)):=by
 have h256:=hw.l2
 have hA:=za3 (M:=devM S p x.d oE oW) (a:=a) (p:=p) (b:=b) (c:=c) (x:=x) (k:=k)
 have hF:=ziL (M:=devM S p x.d oE oW) (p:=p) (x:=x) (k:=k) hok.ab hok.l hw.l2
 have hrd:=hok.rd hw k
 have htk:=zmL a p b c x k S oE oW hok hw
 have hix:=fun S h1 h2 h3 h4 h5=>zmM (.slice (some ⟨b,0,none⟩) x.fr.length c) x.fr s n h1 h2 S h3 h4 h5
 have hread:=fun M h=>zgs p x.d s n M h hw.dr
 unfold arB at hA
 unfold pinP
 by_cases q0:x.fr.findIdx (isF s n)<x.fr.length
 ·rw [if_pos q0]
  simp only [if_pos q0] at hix
  have hpn:=hw.pn _ (ziK q0)
  generalize hI:x.fr.findIdx (isF s n)=i at *
  refine k_E3 (rs:=[.tmp 6,.tmp 7]) 91 Tryz.func203 rfl rfl rfl ?_
  refine r2_ ?_
  refine ARun.box1 (zab rfl) rfl rfl ?_
  intro b4 f4
  have g4:=f4
  repeat ((with_reducible replace g4:=zaa g4);obtain ⟨g4,_⟩:=g4)
  have:=g4.ne hA;have:=g4.ne' hA
  refine nl_ ?_
  refine ARun.box1 (zab rfl) rfl rfl ?_
  intro b5 f5
  have g5:=f5
  repeat ((with_reducible replace g5:=zaa g5);obtain ⟨g5,_⟩:=g5)
  have:=g5.ne hA;have:=g5.ne' hA
  refine nl_ ?_
  refine r11_ ?_
  refine ca_ rfl (hix _ b5 b4 (hF.less zad) ((zbA (Mem.own_set_same _ b5 _)).knows) ((zbA (r:=⟨_,[.string s],1⟩) own_).knows)) ?_
  rintro _ S1 ⟨rfl,h1⟩
  rw [h1];clear h1 S1
  refine r10_ ?_
  refine cF_ ?_
  refine AWP.less (arM (devM S p x.d oE oW) a p b c x k) zad ?_
  have hA3:=za3 (M:=devM S p x.d oE oW) (a:=a) (p:=p) (b:=b) (c:=c) (x:=x) (k:=k)
  have hB3:=zde (M:=devM S p x.d oE oW) (p:=p) (c:=c) (x:=x) (k:=k) hok.ab
  obtain ⟨_,_,_,kp,_,_,_⟩:=zez (zgH (M:=devM S p x.d oE oW) (p:=p) (k:=k) hok.ab hok.l h256 q0)
  unfold arB at hA3
  by_cases qp:(atF x i).pins=256
  ·rw [if_pos qp]
   refine r20_ ?_
   refine rC (Calm.bin rfl rfl (zag (zaY _ _) (decide_eq_true qp))) ?_
   refine r2_ ?_
   refine cT_ ?_
   refine r8_ ?_
   refine ⟨_,arM (devM S p x.d oE oW) a p b c x k,⟨_,_,rfl,⟨_,_,rfl,rfl,rfl⟩,rfl⟩,Mem.Less.refl _,?_⟩
   exact ⟨rfl,k,oE,oW,hok,rfl⟩
  ·rw [if_neg qp]
   refine r13_ ?_
   refine zdG 0 1 2 4 5 6 7 8 19 11 ?_
   refine r7_ ?_
   refine rC (Calm.bin rfl rfl (zag (zaY _ _) (decide_eq_false qp))) ?_
   refine r2_ ?_
   refine cF_ ?_
   refine r11_ ?_
   refine ARun.store1 rfl rfl zah rfl hA3 (show 2<6 from by decide) rfl ?_
   try simp only [k_ms,k_sz,k_ss,k_za,Nat.reduceAdd]
   refine r2_ ?_
   obtain ⟨y1,hy1⟩ : ∃ y1:Pl,y1 = { x with tick:=up1 x.tick }:=⟨_,rfl⟩
   have hyd:y1.d=x.d:=by rw [hy1]
   have hyf:y1.fr=x.fr:=by rw [hy1]
   have hyt:y1.tick=up1 x.tick:=by rw [hy1]
   have hA4:=za3 (M:=devM S p x.d oE oW) (a:=a) (p:=p) (b:=b) (c:=c) (x:=y1) (k:=k)
   have hB4:=zde (M:=devM S p x.d oE oW) (p:=p) (c:=c) (x:=y1) (k:=k) hok.ab
   refine AWP.less (arM (devM S p x.d oE oW) a p b c y1 k) (by rw [← zej (x:=x) (k:=k) hyf];unfold arB;rw [hyf,hyt,hy1];exact Mem.Less.refl _) ?_
   unfold arB at hA4
   rw [hyf] at hB4 hA4
   refine r9_ ?_
   refine ARun.storeFr1 (c:=c) (i:=i) (l:=x.fr) (q:=5) (u:={ atF x i with tick:=y1.tick }) rfl rfl rfl rfl (by omega) (by decide) q0 (by rw [zaP q0];rfl) zah hB4 ?_
   try simp only [k_ms,k_sz,k_ss,k_za,Nat.reduceAdd]
   refine r2_ ?_
   obtain ⟨y2,hy2⟩ : ∃ y2:Pl,y2 = { y1 with fr:=x.fr.set i { atF x i with tick:=y1.tick } }:=⟨_,rfl⟩
   have hyd2:y2.d=x.d:=by rw [hy2,← hyd]
   have hyl:y2.fr.length=x.fr.length:=by rw [hy2];simp
   have hi2:i<y2.fr.length:=by rw [hyl];exact q0
   have hat:atF y2 i = { atF x i with tick:=y1.tick }:=by rw [zaP hi2];simp only [hy2,List.getElem_set_self]
   have hB5:=zde (M:=devM S p x.d oE oW) (p:=p) (c:=c) (x:=y2) (k:=k) hok.ab
   obtain ⟨_,_,_,kp2,_,_,_⟩:=zez (ziN <| zgH (M:=devM S p x.d oE oW) (p:=p) (k:=k) hok.ab (by rw [hyl];exact hok.l) (by rw [hyl];exact h256) hi2)
   rw [hat] at kp2
   simp only at kp2
   refine AWP.less (arM (devM S p x.d oE oW) a p b c y2 k) (by rw [hy2,← zby (x:=y1) hok.ab _ (by rw [hyf];simp)];exact Mem.Less.refl _) ?_
   refine r9_ ?_
   refine ARun.storeFr1 (c:=c) (i:=i) (l:=y2.fr) (q:=3) (u:={ atF y2 i with pins:=(atF x i).pins+1 }) rfl rfl rfl rfl (by omega) (by decide) hi2 (by rw [zaP hi2];rfl) zb0 hB5 ?_
   try simp only [k_ms,k_sz,k_ss,k_za,Nat.reduceAdd]
   refine r2_ ?_
   have hfin : { y2 with fr:=y2.fr.set i { atF y2 i with pins:=(atF x i).pins+1 } }=pin1 x i:=by unfold pin1;rw [hat,hyt,hy2,hy1];simp only [List.set_set]
   refine r7_ ?_
   refine zd5 0 1 2 4 5 6 7 8 19 11 68 ?_
   refine s1_ ?_
   refine ⟨_,arM (devM S p x.d oE oW) a p b c (pin1 x i) k,⟨_,_,rfl,⟨_,_,rfl,rfl,rfl⟩,rfl⟩,(by rw [← hfin,← zby (x:=y2) hok.ab _ (by simp)];exact Mem.Less.refl _),?_⟩
   exact ⟨rfl,k,oE,oW,hok.like rfl (by unfold pin1;simp),rfl⟩
 ·rw [if_neg q0]
  simp only [if_neg q0] at hix
  by_cases q1:(readD x.d s n).2=0
  ·rw [if_neg (show ¬ (readD x.d s n).2≠0 from fun h=>h q1)]
   rw [q1] at hread
   have htl:=fun h=>zjG (x:=x) h
   have htf:=zo8 x
   generalize hD:(readD x.d s n).1=data at *
   refine k_E3 (rs:=[.tmp 6,.tmp 7]) 91 Tryz.func203 rfl rfl rfl ?_
   refine r2_ ?_
   refine ARun.box1 (zab rfl) rfl rfl ?_
   intro b4 f4
   have g4:=f4
   repeat ((with_reducible replace g4:=zaa g4);obtain ⟨g4,_⟩:=g4)
   have:=g4.ne hA;have:=g4.ne' hA
   refine nl_ ?_
   refine ARun.box1 (zab rfl) rfl rfl ?_
   intro b5 f5
   have g5:=f5
   repeat ((with_reducible replace g5:=zaa g5);obtain ⟨g5,_⟩:=g5)
   have:=g5.ne hA;have:=g5.ne' hA
   refine nl_ ?_
   refine r11_ ?_
   refine ca_ rfl (hix _ b5 b4 (hF.less zad) ((zbA (Mem.own_set_same _ b5 _)).knows) ((zbA (r:=⟨_,[.string s],1⟩) own_).knows)) ?_
   rintro _ S1 ⟨rfl,h1⟩
   rw [h1];clear h1 S1
   refine r10_ ?_
   refine cT_ ?_
   refine s1_ ?_
   refine AWP.draw [(0,true),(1,true),(2,true),(3,true),(4,true),(5,true),(6,false),(7,true),(8,true),(9,true),(10,true),(11,true)] [] mixed (by kernel_rfl) ?_
   refine r6_ ?_
   refine zac rfl ?_
   refine ca_ rfl (hread _ (hrd.less zad)) ?_
   rintro _ S1 ⟨rfl,h1⟩
   rw [h1];clear h1 S1
   refine zae ⟨fun _=>zad,?_⟩
   refine r14_ ?_
   refine cF_ ?_
   refine r6_ ?_
   refine ca_ rfl ((htk.frame f4).frame f5) ?_
   rintro _ S1 ⟨Sa,⟨Sb,⟨rfl,k',oE',oW',hok',hSb⟩,fa,hSa⟩,fb,h1⟩
   rw [h1,hSa];rw [hSa] at fb;clear h1 S1 hSa Sa;rw [hSb] at fa fb ⊢;clear hSb Sb
   generalize takeP x=u at *
   refine r7_ ?_
   refine zh9 0 1 2 4 5 6 7 8 19 9 10 31 ?_
   by_cases q2:u.2.2=0
   ·have hul:=htl q2
    rw [if_neg (show ¬ u.2.2≠0 from fun h=>h q2)]
    have hu256:u.1.fr.length≤256:=by rw [htf];exact h256
    have hA2:=za3 (M:=devM S p u.1.d oE' oW') (a:=a) (p:=p) (b:=b) (c:=c) (x:=u.1) (k:=k')
    have hB2:=zde (M:=devM S p u.1.d oE' oW') (p:=p) (c:=c) (x:=u.1) (k:=k') hok'.ab
    have hB20:=hB2
    unfold arB at hA2
    refine r6_ ?_
    refine cF_ ?_
    refine r3_ ?_
    refine AWP.draw [(0,true),(1,true),(2,true),(3,true),(4,true),(5,true),(6,true),(7,true),(8,true),(9,true),(10,false)] [10] mixed (by kernel_rfl) ?_
    refine r10_ ?_
    refine zac rfl ?_
    refine ARun.storeFr (c:=c) (i:=u.2.1) (l:=u.1.fr) (u:=newF s n data) rfl rfl rfl (by omega) hul zbp ((Mem.own_set_other _ _ ((zaa fb).1.ne hB2)).trans ((Mem.own_set_other _ _ (fa.ne hB2)).trans hB2)) ?_
    try simp only [k_ms,k_sz,k_ss,k_za,Nat.reduceAdd]
    refine zae ⟨fun h=>absurd h (by decide),?_⟩
    refine r2_ ?_
    obtain ⟨y0,hy0⟩ : ∃ y0:Pl,y0=setP u.1 u.2.1 (newF s n data):=⟨_,rfl⟩
    have hyl0:y0.fr.length=u.1.fr.length:=by rw [hy0];unfold setP;simp
    have hok0:OkA S a p b c y0 oE' oW':=hok'.like (by rw [hy0];rfl) hyl0
    have hA0:=za3 (M:=devM S p u.1.d oE' oW') (a:=a) (p:=p) (b:=b) (c:=c) (x:=y0) (k:=k')
    refine AWP.less (arM (devM S p u.1.d oE' oW') a p b c y0 k') (by rw [hy0];unfold setP;rw [← zby (x:=u.1) hok'.ab _ (by simp)];exact Less.set ((Mem.less_set _ _ _ fa.1).trans (Mem.less_set _ _ _ fb.1)) _ _) ?_
    unfold arB at hA0
    refine r8_ ?_
    refine ARun.store1 rfl rfl zah rfl hA0 (show 3<6 from by decide) rfl ?_
    try simp only [k_ms,k_sz,k_ss,k_za,Nat.reduceAdd]
    refine r2_ ?_
    obtain ⟨y,hy⟩ : ∃ y:Pl,y = { y0 with reads:=up1 y0.reads }:=⟨_,rfl⟩
    have hyd:y.d=u.1.d:=by rw [hy,hy0];rfl
    have hyf:y.fr=y0.fr:=by rw [hy]
    have hokY:OkA S a p b c y oE' oW':=hok0.like (by rw [hy]) (by rw [hyf])
    have hiy:u.2.1<y.fr.length:=by rw [hyf,hyl0];exact hul
    have hy256:y.fr.length≤256:=by rw [hyf,hyl0];exact hu256
    have hpn:0≤(atF y u.2.1).pins∧(atF y u.2.1).pins≤256:=by rw [zaP hiy];simp only [hyf,hy0,setP,List.getElem_set_self,newF];omega
    have hp0 : ¬ (atF y u.2.1).pins=256:=by rw [zaP hiy];simp only [hyf,hy0,setP,List.getElem_set_self,newF];omega
    have hres:(pin1 { setP u.1 u.2.1 (newF s n data) with reads:=up1 u.1.reads } u.2.1,u.2.1,(0:Int))=if (atF y u.2.1).pins=256 then (y,0,11) else (pin1 y u.2.1,u.2.1,0):=by rw [if_neg hp0,hy,hy0];rfl
    refine AWP.less (arM (devM S p u.1.d oE' oW') a p b c y k') (by rw [← zej (x:=y0) (k:=k') hyf];unfold arB;rw [hy];exact Mem.Less.refl _) ?_
    rw [hres]
    rw [← hyd]
    clear hres hA2 hB2 hB20 hA0 hyd hy hyf
    generalize u.2.1=i at *
    have hA3:=za3 (M:=devM S p y.d oE' oW') (a:=a) (p:=p) (b:=b) (c:=c) (x:=y) (k:=k')
    have hB3:=zde (M:=devM S p y.d oE' oW') (p:=p) (c:=c) (x:=y) (k:=k') hokY.ab
    obtain ⟨_,_,_,kp,_,_,_⟩:=zez (zgH (M:=devM S p y.d oE' oW') (p:=p) (k:=k') hokY.ab hokY.l hy256 hiy)
    unfold arB at hA3
    by_cases qp:(atF y i).pins=256
    ·rw [if_pos qp]
     refine r18_ ?_
     refine rC (Calm.bin rfl rfl (zag (zaY _ _) (decide_eq_true qp))) ?_
     refine r2_ ?_
     refine zgh 0 1 2 4 5 6 7 8 19 9 10 31 39 11 68 ?_
     refine cT_ ?_
     refine r8_ ?_
     refine ⟨_,arM (devM S p y.d oE' oW') a p b c y k',⟨_,_,rfl,⟨_,_,rfl,rfl,rfl⟩,rfl⟩,Mem.Less.refl _,?_⟩
     exact ⟨rfl,k',oE',oW',hokY,rfl⟩
    ·rw [if_neg qp]
     refine r18_ ?_
     refine rC (Calm.bin rfl rfl (zag (zaY _ _) (decide_eq_false qp))) ?_
     refine r2_ ?_
     refine cF_ ?_
     refine r11_ ?_
     refine ARun.store1 rfl rfl zah rfl hA3 (show 2<6 from by decide) rfl ?_
     try simp only [k_ms,k_sz,k_ss,k_za,Nat.reduceAdd]
     refine r2_ ?_
     obtain ⟨y1,hy1⟩ : ∃ y1:Pl,y1 = { y with tick:=up1 y.tick }:=⟨_,rfl⟩
     have hyd:y1.d=y.d:=by rw [hy1]
     have hyf:y1.fr=y.fr:=by rw [hy1]
     have hyt:y1.tick=up1 y.tick:=by rw [hy1]
     have hA4:=za3 (M:=devM S p y.d oE' oW') (a:=a) (p:=p) (b:=b) (c:=c) (x:=y1) (k:=k')
     have hB4:=zde (M:=devM S p y.d oE' oW') (p:=p) (c:=c) (x:=y1) (k:=k') hokY.ab
     refine AWP.less (arM (devM S p y.d oE' oW') a p b c y1 k') (by rw [← zej (x:=y) (k:=k') hyf];unfold arB;rw [hyf,hyt,hy1];exact Mem.Less.refl _) ?_
     unfold arB at hA4
     rw [hyf] at hB4 hA4
     refine r9_ ?_
     refine ARun.storeFr1 (c:=c) (i:=i) (l:=y.fr) (q:=5) (u:={ atF y i with tick:=y1.tick }) rfl rfl rfl rfl (by omega) (by decide) hiy (by rw [zaP hiy];rfl) zah hB4 ?_
     try simp only [k_ms,k_sz,k_ss,k_za,Nat.reduceAdd]
     refine r2_ ?_
     obtain ⟨y2,hy2⟩ : ∃ y2:Pl,y2 = { y1 with fr:=y.fr.set i { atF y i with tick:=y1.tick } }:=⟨_,rfl⟩
     have hyd2:y2.d=y.d:=by rw [hy2,← hyd]
     have hyl:y2.fr.length=y.fr.length:=by rw [hy2];simp
     have hi2:i<y2.fr.length:=by rw [hyl];exact hiy
     have hat:atF y2 i = { atF y i with tick:=y1.tick }:=by rw [zaP hi2];simp only [hy2,List.getElem_set_self]
     have hB5:=zde (M:=devM S p y.d oE' oW') (p:=p) (c:=c) (x:=y2) (k:=k') hokY.ab
     obtain ⟨_,_,_,kp2,_,_,_⟩:=zez (ziN <| zgH (M:=devM S p y.d oE' oW') (p:=p) (k:=k') hokY.ab (by rw [hyl];exact hokY.l) (by rw [hyl];exact hy256) hi2)
     rw [hat] at kp2
     simp only at kp2
     refine AWP.less (arM (devM S p y.d oE' oW') a p b c y2 k') (by rw [hy2,← zby (x:=y1) hokY.ab _ (by rw [hyf];simp)];exact Mem.Less.refl _) ?_
     refine r9_ ?_
     refine ARun.storeFr1 (c:=c) (i:=i) (l:=y2.fr) (q:=3) (u:={ atF y2 i with pins:=(atF y i).pins+1 }) rfl rfl rfl rfl (by omega) (by decide) hi2 (by rw [zaP hi2];rfl) zb0 hB5 ?_
     try simp only [k_ms,k_sz,k_ss,k_za,Nat.reduceAdd]
     refine r2_ ?_
     refine zgh 0 1 2 4 5 6 7 8 19 9 10 31 39 11 68 ?_
     have hfin : { y2 with fr:=y2.fr.set i { atF y2 i with pins:=(atF y i).pins+1 } }=pin1 y i:=by unfold pin1;rw [hat,hyt,hy2,hy1];simp only [List.set_set]
     refine r8_ ?_
     refine ⟨_,arM (devM S p y.d oE' oW') a p b c (pin1 y i) k',⟨_,_,rfl,⟨_,_,rfl,rfl,rfl⟩,rfl⟩,(by rw [← hfin,← zby (x:=y2) hokY.ab _ (by simp)];exact Mem.Less.refl _),?_⟩
     exact ⟨rfl,k',oE',oW',hokY.like rfl (by unfold pin1;simp),rfl⟩
   ·rw [if_pos q2]
    refine r6_ ?_
    refine cT_ ?_
    refine r10_ ?_
    refine ⟨_,arM (devM S p u.1.d oE' oW') a p b c u.1 k',⟨_,_,rfl,⟨_,_,rfl,rfl,rfl⟩,rfl⟩,(Mem.less_set _ _ _ fa.1).trans (Mem.less_set _ _ _ fb.1),?_⟩
    exact ⟨rfl,k',oE',oW',hok',rfl⟩
  ·rw [if_pos q1]
   refine k_E3 (rs:=[.tmp 6,.tmp 7]) 91 Tryz.func203 rfl rfl rfl ?_
   refine r2_ ?_
   refine ARun.box1 (zab rfl) rfl rfl ?_
   intro b4 f4
   have g4:=f4
   repeat ((with_reducible replace g4:=zaa g4);obtain ⟨g4,_⟩:=g4)
   have:=g4.ne hA;have:=g4.ne' hA
   refine nl_ ?_
   refine ARun.box1 (zab rfl) rfl rfl ?_
   intro b5 f5
   have g5:=f5
   repeat ((with_reducible replace g5:=zaa g5);obtain ⟨g5,_⟩:=g5)
   have:=g5.ne hA;have:=g5.ne' hA
   refine nl_ ?_
   refine r11_ ?_
   refine ca_ rfl (hix _ b5 b4 (hF.less zad) ((zbA (Mem.own_set_same _ b5 _)).knows) ((zbA (r:=⟨_,[.string s],1⟩) own_).knows)) ?_
   rintro _ S1 ⟨rfl,h1⟩
   rw [h1];clear h1 S1
   refine r10_ ?_
   refine k_v9 0 1 2 4 5 6 7 8 19 ?_
   refine cT_ ?_
   refine s1_ ?_
   refine AWP.draw [(0,true),(1,true),(2,true),(3,true),(4,true),(5,true),(6,false),(7,true),(8,true),(9,true),(10,true),(11,true)] [] mixed (by kernel_rfl) ?_
   refine r6_ ?_
   refine zac rfl ?_
   refine ca_ rfl (hread _ (hrd.less zad)) ?_
   rintro _ S1 ⟨rfl,h1⟩
   rw [h1];clear h1 S1
   refine zae ⟨fun _=>zad,?_⟩
   refine r14_ ?_
   refine cT_ ?_
   refine r10_ ?_
   refine ⟨_,arM (devM S p x.d oE oW) a p b c x k,⟨_,_,rfl,⟨_,_,rfl,rfl,rfl⟩,rfl⟩,zad,?_⟩
   exact ⟨rfl,k,oE,oW,hok,rfl⟩
end
section
open Go.RowKit
open Mv Disk
set_option maxRecDepth 4000
set_option maxHeartbeats 2000000 in
theorem zhB (a p b c:Nat) (x:Pl) (i:Int) (k:Int) (S:Mem) (oE oW:Option (Nat × Nat)) (hok:OkA S a p b c x oE oW) (hw:PW x) :
  ACall Tryz.prog 146 #[.pointer (some ⟨a,0,none⟩),.int .i64 i] (arM (devM S p x.d oE oW) a p b c x k) (ArR S a p b c (zfZ x i)):=by
 have h256:=hw.l2
 have hA:=za3 (M:=devM S p x.d oE oW) (a:=a) (p:=p) (b:=b) (c:=c) (x:=x) (k:=k)
 have hB:=zde (M:=devM S p x.d oE oW) (p:=p) (c:=c) (x:=x) (k:=k) hok.ab
 have hsF:=fun fr' h=>zby (M:=devM S p x.d oE oW) (p:=p) (c:=c) (x:=x) (k:=k) hok.ab fr' h
 have hkn:=fun j (hj:j<x.fr.length)=>zgH (M:=devM S p x.d oE oW) (p:=p) (x:=x) (k:=k) hok.ab hok.l hw.l2 hj
 have hpn:=fun j (hj:j<x.fr.length)=>hw.pn _ (ziK hj)
 generalize hT:arM (devM S p x.d oE oW) a p b c x k=T at *
 unfold arB at hA
 unfold zfZ
 by_cases q1:i<0
 ·rw [if_pos (.inl q1)]
  refine k_E2 (rs:=[.tmp 4]) 38 Tryz.func146 rfl rfl rfl ?_
  refine r10_ ?_
  refine rC (Calm.bin rfl rfl (zag (zbc _ _) (decide_eq_true q1))) ?_
  refine r12_ ?_
  refine cT_ ?_
  refine r8_ ?_
  refine ⟨_,T,⟨_,_,rfl,rfl,rfl⟩,zad,?_⟩
  exact ⟨rfl,k,oE,oW,hok,hT.symm⟩
 ·by_cases q2:(x.fr.length:Int)≤i
  ·rw [if_pos (.inr q2)]
   refine k_E2 (rs:=[.tmp 4]) 38 Tryz.func146 rfl rfl rfl ?_
   refine r10_ ?_
   refine rC (Calm.bin rfl rfl (zag (zbc _ _) (decide_eq_false q1))) ?_
   refine r12_ ?_
   refine cT_ ?_
   refine r8_ ?_
   refine ⟨_,T,⟨_,_,rfl,rfl,rfl⟩,zad,?_⟩
   exact ⟨rfl,k,oE,oW,hok,hT.symm⟩
  ·rw [if_neg (fun h=>h.elim q1 q2)]
   obtain ⟨j,rfl⟩ : ∃ j:Nat,i=(j:Int):=⟨_,(Int.toNat_of_nonneg (by omega)).symm⟩
   rw [Int.toNat_natCast]
   have hj:j<x.fr.length:=by omega
   obtain ⟨_,_,_,kp,_,_,_⟩:=zez (hkn j hj)
   have hpj:=hpn j hj
   by_cases q3:(atF x j).pins=0
   ·rw [if_pos q3]
    refine k_E2 (rs:=[.tmp 4]) 38 Tryz.func146 rfl rfl rfl ?_
    refine r10_ ?_
    refine rC (Calm.bin rfl rfl (zag (zbc _ _) (decide_eq_false q1))) ?_
    refine r12_ ?_
    refine cF_ ?_
    refine r10_ ?_
    refine rC (Calm.bin rfl rfl (zag (zaY _ _) (decide_eq_true q3))) ?_
    refine r3_ ?_
    refine cT_ ?_
    refine r8_ ?_
    refine ⟨_,T,⟨_,_,rfl,rfl,rfl⟩,zad,?_⟩
    exact ⟨rfl,k,oE,oW,hok,hT.symm⟩
   ·rw [if_neg q3]
    refine k_E2 (rs:=[.tmp 4]) 38 Tryz.func146 rfl rfl rfl ?_
    refine r10_ ?_
    refine rC (Calm.bin rfl rfl (zag (zbc _ _) (decide_eq_false q1))) ?_
    refine r12_ ?_
    refine k_v4 0 1 4 5 ?_
    refine cF_ ?_
    refine r10_ ?_
    refine rC (Calm.bin rfl rfl (zag (zaY _ _) (decide_eq_false q3))) ?_
    refine r3_ ?_
    refine cF_ ?_
    refine r16_ ?_
    refine ARun.storeFr1 (c:=c) (i:=j) (l:=x.fr) (q:=3) (u:={ atF x j with pins:=(atF x j).pins-1 }) rfl rfl rfl rfl (by omega) (by decide) hj (by rw [zaP hj];rfl) zb0 hB ?_
    try simp only [k_ms,k_sz,k_ss,k_za,Nat.reduceAdd]
    refine r8_ ?_
    refine ⟨_,arM (devM S p x.d oE oW) a p b c (setP x j { atF x j with pins:=(atF x j).pins-1 }) k,⟨_,_,rfl,rfl,rfl⟩,(by rw [hsF _ (by simp)];exact Mem.Less.refl _),?_⟩
    exact ⟨rfl,k,oE,oW,hok.like rfl (by unfold setP;simp),rfl⟩
set_option maxHeartbeats 2000000 in
theorem zkJ (a p b c:Nat) (x:Pl) (i:Int) (k:Int) (S:Mem) (oE oW:Option (Nat × Nat)) (hok:OkA S a p b c x oE oW) (hw:PW x) :
  ACall Tryz.prog 95 #[.pointer (some ⟨a,0,none⟩),.int .i64 i] (arM (devM S p x.d oE oW) a p b c x k) (ArR S a p b c (ret1 x i)):=by
 have h256:=hw.l2
 have hA:=za3 (M:=devM S p x.d oE oW) (a:=a) (p:=p) (b:=b) (c:=c) (x:=x) (k:=k)
 have hB:=zde (M:=devM S p x.d oE oW) (p:=p) (c:=c) (x:=x) (k:=k) hok.ab
 have hsF:=fun fr' h=>zby (M:=devM S p x.d oE oW) (p:=p) (c:=c) (x:=x) (k:=k) hok.ab fr' h
 have hkn:=fun j (hj:j<x.fr.length)=>zgH (M:=devM S p x.d oE oW) (p:=p) (x:=x) (k:=k) hok.ab hok.l hw.l2 hj
 generalize hT:arM (devM S p x.d oE oW) a p b c x k=T at *
 unfold arB at hA
 unfold ret1
 by_cases q1:i<0
 ·rw [if_pos (.inl q1)]
  refine k_E2 (rs:=[.tmp 4]) 34 Tryz.func95 rfl rfl rfl ?_
  refine r10_ ?_
  refine rC (Calm.bin rfl rfl (zag (zbc _ _) (decide_eq_true q1))) ?_
  refine r12_ ?_
  refine cT_ ?_
  refine r8_ ?_
  refine ⟨_,T,⟨_,_,rfl,rfl,rfl⟩,zad,?_⟩
  exact ⟨rfl,k,oE,oW,hok,hT.symm⟩
 ·by_cases q2:(x.fr.length:Int)≤i
  ·rw [if_pos (.inr q2)]
   refine k_E2 (rs:=[.tmp 4]) 34 Tryz.func95 rfl rfl rfl ?_
   refine r10_ ?_
   refine rC (Calm.bin rfl rfl (zag (zbc _ _) (decide_eq_false q1))) ?_
   refine r12_ ?_
   refine cT_ ?_
   refine r8_ ?_
   refine ⟨_,T,⟨_,_,rfl,rfl,rfl⟩,zad,?_⟩
   exact ⟨rfl,k,oE,oW,hok,hT.symm⟩
  ·rw [if_neg (fun h=>h.elim q1 q2)]
   obtain ⟨j,rfl⟩ : ∃ j:Nat,i=(j:Int):=⟨_,(Int.toNat_of_nonneg (by omega)).symm⟩
   rw [Int.toNat_natCast]
   have hj:j<x.fr.length:=by omega
   obtain ⟨_,_,_,_,_,_,kp⟩:=zez (hkn j hj)
   by_cases q3:(atF x j).leased=false
   ·rw [if_pos q3]
    refine k_E2 (rs:=[.tmp 4]) 34 Tryz.func95 rfl rfl rfl ?_
    refine r10_ ?_
    refine rC (Calm.bin rfl rfl (zag (zbc _ _) (decide_eq_false q1))) ?_
    refine r12_ ?_
    refine cF_ ?_
    refine r9_ ?_
    refine rC (Calm.as (congrArg Value.bool q3) (ld_ zbC rfl)) ?_
    refine r4_ ?_
    refine cT_ ?_
    refine r8_ ?_
    refine ⟨_,T,⟨_,_,rfl,rfl,rfl⟩,zad,?_⟩
    exact ⟨rfl,k,oE,oW,hok,hT.symm⟩
   ·rw [if_neg q3]
    have q3':(atF x j).leased=true:=by simpa using q3
    refine k_E2 (rs:=[.tmp 4]) 34 Tryz.func95 rfl rfl rfl ?_
    refine r10_ ?_
    refine rC (Calm.bin rfl rfl (zag (zbc _ _) (decide_eq_false q1))) ?_
    refine r12_ ?_
    refine k_v4 0 1 4 5 ?_
    refine cF_ ?_
    refine r9_ ?_
    refine rC (Calm.as (congrArg Value.bool q3') (ld_ zbC rfl)) ?_
    refine r4_ ?_
    refine cF_ ?_
    refine r12_ ?_
    refine ARun.storeFr (c:=c) (i:=j) (l:=x.fr) (u:=F0) rfl rfl rfl (by omega) hj zbp hB ?_
    try simp only [k_ms,k_sz,k_ss,k_za,Nat.reduceAdd]
    refine r8_ ?_
    refine ⟨_,arM (devM S p x.d oE oW) a p b c (setP x j F0) k,⟨_,_,rfl,rfl,rfl⟩,(by rw [hsF _ (by simp)];exact Mem.Less.refl _),?_⟩
    exact ⟨rfl,k,oE,oW,hok.like rfl (by unfold setP;simp),rfl⟩
theorem zo9 (a p b c:Nat) (x:Pl) (j:Nat) (k:Int) (T:Mem) (hA:T.own a=some (arB p b c x k)) (hF:Sl 7 frF T (.slice (some ⟨b,0,none⟩) x.fr.length c) x.fr) (hj:j<x.fr.length) :
  ACall Tryz.prog 230 #[.pointer (some ⟨a,0,none⟩),.int .i64 (j:Nat)] T fun r S'=>r = .string (atF x j).data∧S'=T:=by
 have hk:=zgG hF j hj
 rw [← zaP hj] at hk
 obtain ⟨_,_,kp,_,_,_,_⟩:=zez hk
 unfold arB at hA
 refine k_E2 (rs:=[.tmp 4]) 13 Tryz.func230 rfl rfl rfl ?_
 refine r19_ ?_
 refine ⟨_,T,⟨_,_,rfl,rfl,rfl⟩,zad,?_⟩
 exact ⟨rfl,rfl⟩
end
section
open Go.RowKit
open Mv Disk
set_option maxRecDepth 4000
theorem zmO {x:Pl} (h:PW x) (i:Nat) {y:Fr} (h0:0≤y.pins) (h1:y.pins≤256):PW (setP x i y) :=
 ⟨h.dr,h.fu,h.nd,by unfold setP;simp only [List.length_set];exact h.l1,by unfold setP;simp only [List.length_set];exact h.l2,fun z hz=>by
  unfold setP at hz
  rcases List.mem_or_eq_of_mem_set hz with hz | hz
  ·exact h.pn z hz
  ·subst hz;exact ⟨h0,h1⟩⟩
theorem ztg {x:Pl} (h:PW x) {i:Nat} (hi:i<x.fr.length) (h0:(wrP x i).2=0):PW (wrP x i).1:=by
 have ho:=zcU h.dr h.nd (writeD x.d (atF x i).name (atF x i).sector (atF x i).data)
 have hq:(opened x.d (writeD x.d (atF x i).name (atF x i).sector (atF x i).data)).2=0:=by rw [ho];exact h0
 obtain ⟨hR,hd,hp,hs,hl,f,hf0,hf1,he⟩:=zgu h.fu hq
 rw [ho] at he
 have hpn:=h.pn _ (ziK hi)
 have hlen:=zfk x i
 unfold wrP at hlen ⊢
 rw [he] at hlen ⊢
 refine ⟨zc8 (zdP hR hp hs hl) hf0 _,hf1,hd,by rw [hlen];exact h.l1,by rw [hlen];exact h.l2,fun z hz=>?_⟩
 simp only [if_true] at hz
 rcases List.mem_or_eq_of_mem_set hz with hz | hz
 ·exact h.pn z hz
 ·subst hz;exact hpn
theorem zro {x:Pl} (h:PW x) (h0:(takeP x).2.2=0):PW (takeP x).1:=by
 have hb:=zdS x.fr x.fr.length
 have hl:=h.l1
 revert h0
 unfold takeP
 repeat' split
 ·intro _;exact h
 ·intro h;simp at h
 ·rename_i e;intro _;exact zmO (ztg h (by omega) e) _ (by decide) (by decide)
 ·intro h;rename_i e;exact absurd h e
 ·intro _;exact zmO h _ (by decide) (by decide)
set_option maxHeartbeats 2000000 in
theorem zo_ (a p b c:Nat) (x:Pl) (j:Nat) (g:Int) (t:ByteArray) (k:Int) (S:Mem) (oE oW:Option (Nat × Nat)) (hok:OkA S a p b c x oE oW) (hw:PW x) (hj:j<x.fr.length) (h64:(atF x j).data.size=64) (hg:0≤g) (hgt:g+t.size≤64) :
  ACall Tryz.prog 204 #[.pointer (some ⟨a,0,none⟩),.int .i64 (j:Nat),.int .i64 g,.string t] (arM (devM S p x.d oE oW) a p b c x k) fun r S'=>r = .tuple #[]∧ArS S a p b c (setP x j { atF x j with data:=fillS (atF x j).data g t,dirty:=true }) S':=by
 have h256:=hw.l2
 have hA:=za3 (M:=devM S p x.d oE oW) (a:=a) (p:=p) (b:=b) (c:=c) (x:=x) (k:=k)
 have hB:=zde (M:=devM S p x.d oE oW) (p:=p) (c:=c) (x:=x) (k:=k) hok.ab
 obtain ⟨_,_,kd,_,_,_,_⟩:=zez (zgH (M:=devM S p x.d oE oW) (p:=p) (k:=k) hok.ab hok.l hw.l2 hj)
 obtain ⟨n,rfl⟩ : ∃ n:Nat,g=(n:Int):=⟨_,(Int.toNat_of_nonneg hg).symm⟩
 have hfin:fillS (atF x j).data (n:Int) t=(atF x j).data.extract 0 n ++ t ++ (atF x j).data.extract (n+t.size) (atF x j).data.size:=by unfold fillS;rw [Int.toNat_natCast]
 rw [hfin]
 have hsF:=fun fr' h=>zby (M:=devM S p x.d oE oW) (p:=p) (c:=c) (x:=x) (k:=k) hok.ab fr' h
 have hat:=zaP hj
 have hD:(atF x j).data.extract 0 ((n:Int)).toNat ++ t ++ (atF x j).data.extract ((n:Int)+(t.size:Int)).toNat (atF x j).data.size=(atF x j).data.extract 0 n ++ t ++ (atF x j).data.extract (n+t.size) (atF x j).data.size:=by
  rw [show ((n:Int)+(t.size:Int)).toNat=n+t.size from by omega];rfl
 generalize hDD:(atF x j).data.extract 0 n ++ t ++ (atF x j).data.extract (n+t.size) (atF x j).data.size=dd at *
 generalize hT:arM (devM S p x.d oE oW) a p b c x k=T at *
 unfold arB at hA
 refine k_E4 (rs:=[]) 39 Tryz.func204 rfl rfl rfl ?_
 refine r11_ ?_
 refine AWP.draw [(0,true),(1,true),(2,true),(3,true),(4,true),(5,true),(6,true),(7,true),(8,true),(9,true),(10,true),(11,true),(12,true),(13,true),(14,true),(15,true),(16,true),(17,true),(18,true),(19,true),(20,true),(21,true),(22,false),(23,true),(24,true),(25,false)] [22,25] mixed (by kernel_rfl) ?_
 refine r9_ ?_
 refine dP (hc:=fun _=>Calm.bin rfl rfl (zbn (by rw [ByteArray.size_extract];omega))) (h:=?_)
 refine r9_ ?_
 refine dP (hc:=fun _=>Calm.as (congrArg Value.string hD) (Calm.bin rfl rfl (zbn (by rw [size_append,ByteArray.size_extract,ByteArray.size_extract];omega)))) (h:=?_)
 refine r2_ ?_
 refine zac rfl ?_
 refine ARun.storeFr1 (c:=c) (i:=j) (l:=x.fr) (q:=2) (u:={ atF x j with data:=dd }) rfl rfl rfl rfl (by omega) (by decide) hj (by rw [hat];rfl) zcR hB ?_
 try simp only [k_ms,k_sz,k_ss,k_za,Nat.reduceAdd]
 refine zae ⟨fun h=>absurd h (by decide),?_⟩
 refine r2_ ?_
 refine zac rfl ?_
 refine ARun.storeFr1 (c:=c) (i:=j) (l:=x.fr.set j { atF x j with data:=dd }) (q:=4) (u:={ atF x j with data:=dd,dirty:=true }) rfl rfl rfl rfl (by omega) (by decide) (by simp;exact hj) (by rw [List.getElem_set_self];rfl) zeV (Mem.own_set_same _ _ _) ?_
 try simp only [k_ms,k_sz,k_ss,k_za,Nat.reduceAdd]
 refine zae ⟨fun h=>absurd h (by decide),?_⟩
 refine s1_ ?_
 refine ⟨_,arM (devM S p x.d oE oW) a p b c (setP x j { atF x j with data:=dd,dirty:=true }) k,rfl,(by rw [List.set_set,hsF _ (by simp)];exact Mem.Less.refl _),?_⟩
 exact ⟨rfl,k,oE,oW,hok.like rfl (by unfold setP;simp),rfl⟩
end
section
open Go.RowKit
open Mv Disk
set_option maxRecDepth 4000
def clrF (s:ByteArray) (x:Fr):Fr:=if ofN s x=true then F0 else x
def drF (s:ByteArray) (l:List Fr) (i:Nat):List Fr:=(l.take i).map (clrF s) ++ l.drop i
theorem zfl (s:ByteArray) (l:List Fr) (i:Nat):(drF s l i).length=l.length:=by unfold drF;simp;omega
theorem zqp (s:ByteArray) (l:List Fr) {i:Nat} (h:i<l.length) (h':i<(drF s l i).length):(drF s l i)[i]=l[i]:=by
 have e:(drF s l i)[i]?=some l[i]:=by
  unfold drF
  rw [List.getElem?_append_right (by simp;omega)]
  simp [Nat.min_eq_left (Nat.le_of_lt h)]
 rw [List.getElem?_eq_getElem h'] at e
 exact Option.some.inj e
theorem zpa (s:ByteArray) (l:List Fr) {i:Nat} (h:i<l.length):drF s l (i+1)=(drF s l i).set i (clrF s l[i]):=by
 unfold drF
 rw [zbI h,List.set_append_right _ _ (by simp;omega),List.map_append,List.append_assoc]
 congr 1
 rw [List.length_map,List.length_take,Nat.min_eq_left (Nat.le_of_lt h),Nat.sub_self,zcA h]
 rfl
theorem zrp (s:ByteArray) (l:List Fr):drF s l l.length=l.map (clrF s):=by unfold drF;simp
set_option maxHeartbeats 4000000 in
theorem zjH (a p b c:Nat) (x:Pl) (s:ByteArray) (k:Int) (S:Mem) (oE oW:Option (Nat × Nat)) (hok:OkA S a p b c x oE oW) (hw:PW x) :
  ACall Tryz.prog 99 #[.pointer (some ⟨a,0,none⟩),.string s] (arM (devM S p x.d oE oW) a p b c x k) (ArR S a p b c (dropP x s)):=by
 have h256:=hw.l2
 have hA:=za3 (M:=devM S p x.d oE oW) (a:=a) (p:=p) (b:=b) (c:=c) (x:=x) (k:=k)
 have hF:=ziL (M:=devM S p x.d oE oW) (p:=p) (x:=x) (k:=k) hok.ab hok.l hw.l2
 have hAi:=fun i=>za3 (M:=devM S p x.d oE oW) (a:=a) (p:=p) (b:=b) (c:=c) (x:={ x with fr:=drF s x.fr i }) (k:=k)
 have hBi:=fun i=>zde (M:=devM S p x.d oE oW) (p:=p) (c:=c) (x:={ x with fr:=drF s x.fr i }) (k:=k) hok.ab
 have hFi:=fun i=>ziL (M:=devM S p x.d oE oW) (p:=p) (x:={ x with fr:=drF s x.fr i }) (k:=k) hok.ab (by simp only [zfl];exact hok.l) (by simp only [zfl];exact hw.l2)
 have hsi:=fun i fr' h=>zby (M:=devM S p x.d oE oW) (p:=p) (c:=c) (x:={ x with fr:=drF s x.fr i }) (k:=k) hok.ab fr' h
 have h0:arM (devM S p x.d oE oW) a p b c { x with fr:=drF s x.fr 0 } k=arM (devM S p x.d oE oW) a p b c x k:=rfl
 unfold arB at hA hAi
 simp only [zfl] at hAi hFi hsi
 unfold dropP
 refine k_E2 (rs:=[.tmp 4]) 58 Tryz.func99 rfl rfl rfl ?_
 refine r17_ ?_
 refine AWP.loop (X:=Nat) (fun y=>[(0,.pointer (some ⟨a,0,none⟩)),(1,.string s),(12,.slice (some ⟨b,0,none⟩) x.fr.length c),(13,.int .i64 x.fr.length),(14,.int .i64 y)]) (fun _=>arM (devM S p x.d oE oW) a p b c x k) (fun y=>y≤x.fr.length ∧ ∀ j (hj:j<x.fr.length),j<y→(ofN s x.fr[j] && decide (0<x.fr[j].pins))=false) (fun y=>x.fr.length-y) (0) ⟨rfl,rfl,rfl,rfl,rfl,trivial⟩ zad (⟨Nat.zero_le _,fun j _ h=>absurd h (Nat.not_lt_zero _)⟩) ?_
 rintro i ⟨hi,hno⟩
 (try dsimp only at *)
 refine r6_ ?_
 refine AWP.condB rfl (fun hc=>?_) (fun hc=>?_)
 ·have hc:i<x.fr.length:=by have:=of_decide_eq_true hc;omega
  have hki:=zgG hF i hc
  have hno':(ofN s x.fr[i] && decide (0<x.fr[i].pins))=false → ∀ j (hj:j<x.fr.length),j<i+1→(ofN s x.fr[j] && decide (0<x.fr[j].pins))=false:=fun hn j h hj=>by rcases Nat.lt_or_ge j i with h' | h';exact hno j h h';obtain rfl:j=i:=(by omega);exact hn
  have hyes:(ofN s x.fr[i] && decide (0<x.fr[i].pins))=true→x.fr.any (fun x=>ofN s x && decide (0<x.pins))=true:=fun h=>List.any_eq_true.2 ⟨_,List.getElem_mem hc,h⟩
  have ch:=fun S=>zeL x.fr[i] S
  generalize x.fr[i]=y at *
  unfold frV at ch
  unfold frF at hki
  by_cases q1:y.holds
  ·rw [decide_eq_true q1] at ch
   by_cases q2:y.name=s
   ·rw [show ofN s y=true from decide_eq_true ⟨q1,q2⟩,Bool.true_and] at hno' hyes
    refine r8_ ?_
    refine ARun.alloc (zab rfl) zax ?_
    intro b6 f6
    have g6:=f6
    repeat ((with_reducible replace g6:=zaa g6);obtain ⟨g6,_⟩:=g6)
    have:=g6.ne hA;have:=g6.ne' hA
    refine nl_ ?_
    refine r6_ ?_
    refine ca_ rfl (ch _) ?_
    rintro _ S1 ⟨rfl,h1⟩
    rw [h1];clear h1 S1
    refine r4_ ?_
    first|refine k_q 20 ?_|refine rG 20 (Calm.bin rfl rfl (zag (zaw _ _) (decide_eq_true q2))) ?_
    refine r8_ ?_
    refine AWP.condB rfl (fun hb=>?_) (fun hb=>?_)
    ·rw [if_pos (hyes hb)]
     refine r11_ ?_
     refine ⟨_,arM (devM S p x.d oE oW) a p b c x k,⟨_,_,rfl,rfl,rfl⟩,zad,?_⟩
     exact ⟨rfl,k,oE,oW,hok,rfl⟩
    ·refine r8_ ?_
     refine ⟨i+1,?_,?_,?_,?_⟩
     all_goals (try dsimp only)
     ·exact ⟨rfl,rfl,rfl,rfl,rfl,trivial⟩
     ·exact zad
     ·exact ⟨hc,hno' hb⟩
     ·omega
   ·rw [show ofN s y=false from decide_eq_false fun h=>q2 h.2,Bool.false_and] at hno'
    refine r8_ ?_
    refine ARun.alloc (zab rfl) zax ?_
    intro b6 f6
    have g6:=f6
    repeat ((with_reducible replace g6:=zaa g6);obtain ⟨g6,_⟩:=g6)
    have:=g6.ne hA;have:=g6.ne' hA
    refine nl_ ?_
    refine r6_ ?_
    refine ca_ rfl (ch _) ?_
    rintro _ S1 ⟨rfl,h1⟩
    rw [h1];clear h1 S1
    refine r4_ ?_
    first|refine k_q 20 ?_|refine rG 20 (Calm.bin rfl rfl (zag (zaw _ _) (decide_eq_false q2))) ?_
    refine r8_ ?_
    refine k_v8 0 1 12 13 14 15 6 30 ?_
    refine cF_ ?_
    refine r8_ ?_
    refine ⟨i+1,?_,?_,?_,?_⟩
    all_goals (try dsimp only)
    ·exact ⟨rfl,rfl,rfl,rfl,rfl,trivial⟩
    ·exact zad
    ·exact ⟨hc,hno' rfl⟩
    ·omega
  ·rw [decide_eq_false q1] at ch
   rw [show ofN s y=false from decide_eq_false fun h=>q1 h.1,Bool.false_and] at hno'
   refine r8_ ?_
   refine ARun.alloc (zab rfl) zax ?_
   intro b6 f6
   have g6:=f6
   repeat ((with_reducible replace g6:=zaa g6);obtain ⟨g6,_⟩:=g6)
   have:=g6.ne hA;have:=g6.ne' hA
   refine nl_ ?_
   refine r6_ ?_
   refine ca_ rfl (ch _) ?_
   rintro _ S1 ⟨rfl,h1⟩
   rw [h1];clear h1 S1
   refine r13_ ?_
   refine cF_ ?_
   refine r8_ ?_
   refine ⟨i+1,?_,?_,?_,?_⟩
   all_goals (try dsimp only)
   ·exact ⟨rfl,rfl,rfl,rfl,rfl,trivial⟩
   ·exact zad
   ·exact ⟨hc,hno' rfl⟩
   ·omega
 ·have hc:i=x.fr.length:=by have:=of_decide_eq_false hc;omega
  subst hc
  rw [if_neg (show ¬ (x.fr.any (fun x=>ofN s x && decide (0<x.pins))=true) from fun h=>by obtain ⟨y,hy,hq⟩:=List.any_eq_true.1 h;obtain ⟨j,hj,rfl⟩:=List.getElem_of_mem hy;rw [hno j hj hj] at hq;cases hq)]
  refine r17_ ?_
  refine AWP.loop (X:=Nat) (fun y=>[(0,.pointer (some ⟨a,0,none⟩)),(1,.string s),(35,.slice (some ⟨b,0,none⟩) x.fr.length c),(36,.int .i64 x.fr.length),(37,.int .i64 y)]) (fun y=>arM (devM S p x.d oE oW) a p b c { x with fr:=drF s x.fr y } k) (fun y=>y≤x.fr.length) (fun y=>x.fr.length-y) (0) ⟨rfl,rfl,rfl,rfl,rfl,trivial⟩ (zei h0) (Nat.zero_le _) ?_
  rintro i hi
  (try dsimp only at *)
  refine r6_ ?_
  refine AWP.condB rfl (fun hc=>?_) (fun hc=>?_)
  ·have hc:i<x.fr.length:=by have:=of_decide_eq_true hc;omega
   have hcd:i<(drF s x.fr i).length:=by rw [zfl];exact hc
   have hki:=zgG (hFi i) i hcd
   rw [zqp s x.fr hc] at hki
   have hsucc:=zpa s x.fr hc
   have hAn:=hAi i
   have ch:=fun S=>zeL x.fr[i] S
   unfold clrF at hsucc
   have hid:(drF s x.fr i).set i x.fr[i]=drF s x.fr i:=by rw [← zqp s x.fr hc hcd];exact List.set_getElem_self hcd
   generalize x.fr[i]=y at *
   unfold frV at ch
   unfold frF at hki
   unfold ofN at hsucc
   by_cases q1:y.holds
   ·rw [decide_eq_true q1] at ch
    by_cases q2:y.name=s
    ·rw [decide_eq_true (show y.holds∧y.name=s from ⟨q1,q2⟩),if_pos rfl] at hsucc
     refine r9_ ?_
     refine ARun.alloc (zab rfl) zax ?_
     intro b8 f8
     have g8:=f8
     repeat ((with_reducible replace g8:=zaa g8);obtain ⟨g8,_⟩:=g8)
     have:=g8.ne hAn;have:=g8.ne' hAn
     refine nl_ ?_
     refine r7_ ?_
     refine ca_ rfl (ch _) ?_
     rintro _ S1 ⟨rfl,h1⟩
     rw [h1];clear h1 S1
     refine r4_ ?_
     first|refine k_q 44 ?_|refine rG 44 (Calm.bin rfl rfl (zag (zaw _ _) (decide_eq_true q2))) ?_
     refine r3_ ?_
     refine k_v9 0 1 35 36 37 38 8 7 49 ?_
     refine cT_ ?_
     refine r8_ ?_
     refine ARun.storeFr (c:=c) (i:=i) (l:=drF s x.fr i) (u:=F0) rfl rfl rfl (by omega) hcd zbp ((Mem.own_set_other _ _ (f8.ne (hBi i))).trans (hBi i)) ?_
     try simp only [k_ms,k_sz,k_ss,k_za,Nat.reduceAdd]
     refine r8_ ?_
     refine ⟨i+1,?_,?_,?_,?_⟩
     all_goals (try dsimp only)
     ·exact ⟨rfl,rfl,rfl,rfl,rfl,trivial⟩
     ·exact (by rw [hsucc,← hsi i _ (by simp [zfl])];exact Less.set (Mem.less_set _ _ _ f8.1) _ _)
     ·exact hc
     ·omega
    ·rw [decide_eq_false (show ¬ (y.holds∧y.name=s) from fun h=>q2 h.2),if_neg (by simp),hid] at hsucc
     refine r9_ ?_
     refine ARun.alloc (zab rfl) zax ?_
     intro b8 f8
     have g8:=f8
     repeat ((with_reducible replace g8:=zaa g8);obtain ⟨g8,_⟩:=g8)
     have:=g8.ne hAn;have:=g8.ne' hAn
     refine nl_ ?_
     refine r7_ ?_
     refine ca_ rfl (ch _) ?_
     rintro _ S1 ⟨rfl,h1⟩
     rw [h1];clear h1 S1
     refine r4_ ?_
     first|refine k_q 44 ?_|refine rG 44 (Calm.bin rfl rfl (zag (zaw _ _) (decide_eq_false q2))) ?_
     refine r3_ ?_
     refine cF_ ?_
     refine r8_ ?_
     refine ⟨i+1,?_,?_,?_,?_⟩
     all_goals (try dsimp only)
     ·exact ⟨rfl,rfl,rfl,rfl,rfl,trivial⟩
     ·exact (by rw [hsucc];exact zad)
     ·exact hc
     ·omega
   ·rw [decide_eq_false q1] at ch
    rw [decide_eq_false (show ¬ (y.holds∧y.name=s) from fun h=>q1 h.1),if_neg (by simp),hid] at hsucc
    refine r9_ ?_
    refine ARun.alloc (zab rfl) zax ?_
    intro b8 f8
    have g8:=f8
    repeat ((with_reducible replace g8:=zaa g8);obtain ⟨g8,_⟩:=g8)
    have:=g8.ne hAn;have:=g8.ne' hAn
    refine nl_ ?_
    refine r7_ ?_
    refine ca_ rfl (ch _) ?_
    rintro _ S1 ⟨rfl,h1⟩
    rw [h1];clear h1 S1
    refine r8_ ?_
    refine k_v9 0 1 35 36 37 38 8 7 49 ?_
    refine cF_ ?_
    refine r8_ ?_
    refine ⟨i+1,?_,?_,?_,?_⟩
    all_goals (try dsimp only)
    ·exact ⟨rfl,rfl,rfl,rfl,rfl,trivial⟩
    ·exact (by rw [hsucc];exact zad)
    ·exact hc
    ·omega
  ·have hc:i=x.fr.length:=by have:=of_decide_eq_false hc;omega
   subst hc
   refine r11_ ?_
   refine ⟨_,arM (devM S p x.d oE oW) a p b c { x with fr:=drF s x.fr x.fr.length } k,⟨_,_,rfl,rfl,rfl⟩,Mem.Less.refl _,?_⟩
   exact ⟨rfl,k,oE,oW,hok.like rfl (by simp),by rw [zrp];rfl⟩
set_option maxHeartbeats 4000000 in
theorem zmP (a p b c:Nat) (x:Pl) (k:Int) (S:Mem) (oE oW:Option (Nat × Nat)) (hok:OkA S a p b c x oE oW) (hw:PW x) :
  ACall Tryz.prog 98 #[.pointer (some ⟨a,0,none⟩)] (arM (devM S p x.d oE oW) a p b c x k) (ArR S a p b c (flushP x)):=by
 have h256:=hw.l2
 have hA:=za3 (M:=devM S p x.d oE oW) (a:=a) (p:=p) (b:=b) (c:=c) (x:=x) (k:=k)
 unfold arB at hA
 unfold flushP
 refine k_E1 (rs:=[.tmp 2]) 34 Tryz.func98 rfl rfl rfl ?_
 refine r17_ ?_
 refine AWP.loop (X:=Nat × Pl × Int × Option (Nat × Nat) × Option (Nat × Nat)) (fun z=>[(0,.pointer (some ⟨a,0,none⟩)),(9,.int .i64 x.fr.length),(10,.int .i64 z.1)]) (fun z=>arM (devM S p z.2.1.d z.2.2.2.1 z.2.2.2.2) a p b c z.2.1 z.2.2.1) (fun z=>z.1≤x.fr.length∧PW z.2.1∧OkA S a p b c z.2.1 z.2.2.2.1 z.2.2.2.2∧z.2.1.fr.length=x.fr.length∧flushN x 0 x.fr.length=flushN z.2.1 z.1 (x.fr.length-z.1)) (fun z=>x.fr.length-z.1) ((0,x,k,oE,oW)) ⟨rfl,rfl,rfl,trivial⟩ (Mem.Less.refl _) (⟨Nat.zero_le _,hw,hok,rfl,rfl⟩) ?_
 rintro ⟨i,y,k',oE',oW'⟩ ⟨hi,hwy,hoky,hly,hfl⟩
 (try dsimp only at *)
 clear hA
 refine r6_ ?_
 refine AWP.condB rfl (fun hc=>?_) (fun hc=>?_)
 ·have hc:i<x.fr.length:=by have:=of_decide_eq_true hc;omega
  have hcy:i<y.fr.length:=by rw [hly];exact hc
  have hA:=za3 (M:=devM S p y.d oE' oW') (a:=a) (p:=p) (b:=b) (c:=c) (x:=y) (k:=k')
  obtain ⟨_,_,_,_,kb,_,_⟩:=zez (zgH (M:=devM S p y.d oE' oW') (p:=p) (k:=k') hoky.ab hoky.l hwy.l2 hcy)
  have hwr:=zjF a p b c y i k' S oE' oW' hoky hwy hcy
  unfold arB at hA
  rw [show x.fr.length-i=(x.fr.length-(i+1))+1 from by omega,flushN] at hfl
  by_cases q1:(atF y i).dirty=true
  ·rw [if_pos q1] at hfl
   refine r20_ ?_
   refine rC (Calm.as (congrArg Value.bool q1) (ld_ zbC rfl)) ?_
   refine r3_ ?_
   refine cF_ ?_
   refine r6_ ?_
   refine ca_ rfl (hwr) ?_
   rintro _ S1 ⟨rfl,k2,oE2,oW2,hok2,h1⟩
   rw [h1];clear h1 S1
   have hpw:=ztg hwy hcy
   have hwl:=zfk y i
   generalize wrP y i=u at *
   refine r3_ ?_
   by_cases q2:u.2=0
   ·rw [if_pos q2] at hfl
    refine r6_ ?_
    refine k_v8 0 9 10 11 3 21 4 26 ?_
    refine cF_ ?_
    refine r8_ ?_
    refine ⟨(i+1,u.1,k2,oE2,oW2),?_,?_,?_,?_⟩
    all_goals (try dsimp only)
    ·exact ⟨rfl,rfl,rfl,trivial⟩
    ·exact Mem.Less.refl _
    ·exact ⟨hc,hpw q2,hok2,by rw [← hly];exact hwl,hfl⟩
    ·(show x.fr.length-(i+1)<x.fr.length-i;omega)
   ·rw [if_neg q2] at hfl
    refine r6_ ?_
    refine cT_ ?_
    refine r12_ ?_
    refine ⟨_,arM (devM S p u.1.d oE2 oW2) a p b c u.1 k2,⟨_,_,rfl,rfl,rfl⟩,Mem.Less.refl _,?_⟩
    exact ⟨by rw [hfl,if_neg q2];rfl,k2,oE2,oW2,by rw [hfl,if_neg q2];exact hok2,by rw [hfl,if_neg q2]⟩
  ·have q1':(atF y i).dirty=false:=by simpa using q1
   rw [if_neg q1] at hfl
   refine r20_ ?_
   refine rC (Calm.as (congrArg Value.bool q1') (ld_ zbC rfl)) ?_
   refine r3_ ?_
   refine cT_ ?_
   refine r9_ ?_
   refine ⟨(i+1,y,k',oE',oW'),?_,?_,?_,?_⟩
   all_goals (try dsimp only)
   ·exact ⟨rfl,rfl,rfl,trivial⟩
   ·exact Mem.Less.refl _
   ·exact ⟨hc,hwy,hoky,hly,hfl⟩
   ·(show x.fr.length-(i+1)<x.fr.length-i;omega)
 ·have hc:i=x.fr.length:=by have:=of_decide_eq_false hc;omega
  subst hc
  rw [Nat.sub_self,flushN] at hfl
  rw [hfl]
  have hA:=za3 (M:=devM S p y.d oE' oW') (a:=a) (p:=p) (b:=b) (c:=c) (x:=y) (k:=k')
  have hsy:=zgD hoky k' (zeE p y.d S oE' oW' hoky.v hwy.dr)
  unfold arB at hA
  refine r11_ ?_
  refine ca_ rfl (hsy) ?_
  rintro _ S1 ⟨M,⟨oE2,oW2,hok2,rfl,hM⟩,fb,fa,h1⟩
  rw [h1];clear h1 S1;rw [hM] at fb fa ⊢
  refine r2_ ?_
  refine k_v4 0 9 10 11 ?_
  refine r6_ ?_
  refine ⟨_,arM (devM S p (settleD y.d fun _=>true) oE2 oW2) a p b c y k',⟨_,_,rfl,rfl,rfl⟩,Mem.Less.refl _,?_⟩
  exact ⟨rfl,k',oE2,oW2,⟨hok2,fb,fa,hoky.ab,hoky.l⟩,by rw [if_pos rfl];rfl⟩
end
section
open Go.RowKit
open Mv Disk
set_option maxRecDepth 4000
theorem ziO (x:Int):(i64s x).length=1:=rfl
theorem zrq (l:List Int):∀ v ∈ l.flatMap i64s,v.oneCell'=true:=fun v hv=>by
 obtain ⟨x,_,hx⟩:=List.mem_flatMap.1 hv
 simp only [i64s,List.mem_cons,List.not_mem_nil,or_false] at hx
 subst hx;rfl
theorem Mv.ACall.frameO {P:Program} {f:FuncId} {args:Array Value} {S:Mem} {R:Value→Mem→Prop} (h:ACall P f args S R) {n m:Nat} {o:Option (Nat × Nat)} {e:TypeId} {cs:List Value} (ho:OkO S o m) :
  ACall P f args (outN n S o e cs) fun r S'=>∃ M,R r M∧OkO M o m∧S'=outN n M o e cs:=by
 cases o with
 | none=>exact h.mono fun r S' hr=>⟨S',hr,⟨ho.nil,fun b c e=>(by cases e)⟩,rfl⟩
 | some q=>exact (h.frame (ho.own q.1 q.2 rfl).1).mono fun r S' ⟨M,hr,hf,he⟩=>⟨M,hr,⟨fun x=>(by cases x),fun b c e=>(by cases e;exact ⟨hf,(ho.own _ _ rfl).2⟩)⟩,he⟩
theorem zjI {n m:Nat} {S:Mem} {o:Option (Nat × Nat)} {e:TypeId} {cs:List Value} {b:Nat} {r:Blk} (hb:S.own b=some r) (ho:OkO S o m):(outN n S o e cs).own b=some r:=zcT hb fun q c x=>Ne.symm ((ho.own q c x).1.ne hb)
theorem zpb {n m:Nat} {S:Mem} {o:Option (Nat × Nat)} {e:TypeId} {cs:List Value} {b:Nat} {r r':Blk} (hb:S.own b=some r) (ho:OkO S o m):(outN n S o e cs).set b r'=outN n (S.set b r') o e cs:=(zbi fun q c x=>Ne.symm ((ho.own q c x).1.ne hb)).symm
theorem zrr {S:Mem} {o:Option (Nat × Nat)} {m b:Nat} {r r':Blk} (hb:S.own b=some r) (ho:OkO S o m):OkO (S.set b r') o m :=
 ⟨ho.nil,fun q c x=>⟨zal (ho.own q c x).1 (Ne.symm ((ho.own q c x).1.ne hb)),(ho.own q c x).2⟩⟩
def ArL (S:Mem) (a p b c:Nat) (x:Pl) (l:List Int) (v:Value) (S':Mem):Prop:=∃ k oE oW o,OkA S a p b c x oE oW∧OkO (arM (devM S p x.d oE oW) a p b c x k) o l.length∧v=outV o l.length∧S'=outN 1 (arM (devM S p x.d oE oW) a p b c x k) o 3 (l.flatMap i64s)
set_option maxHeartbeats 4000000 in
theorem zmQ (a p b c:Nat) (x:Pl) (n:Int) (k:Int) (S:Mem) (oE oW:Option (Nat × Nat)) (hok:OkA S a p b c x oE oW) (hw:PW x) :
  ACall Tryz.prog 91 #[.pointer (some ⟨a,0,none⟩),.int .i64 n] (arM (devM S p x.d oE oW) a p b c x k) fun r S'=>∃ v,r = .tuple #[v,.int .i64 (leaseP x n).2.2]∧ArL S a p b c (leaseP x n).1 (leaseP x n).2.1 v S':=by
 have h256:=hw.l2
 have hA:=za3 (M:=devM S p x.d oE oW) (a:=a) (p:=p) (b:=b) (c:=c) (x:=x) (k:=k)
 have hF:=ziL (M:=devM S p x.d oE oW) (p:=p) (x:=x) (k:=k) hok.ab hok.l hw.l2
 have hid:=zo7 a p b c x k (arM (devM S p x.d oE oW) a p b c x k) hA hF h256
 have hil:idlesP x≤x.fr.length:=List.countP_le_length
 have h0:=zbR (arM (devM S p x.d oE oW) a p b c x k)
 unfold leaseP
 by_cases q1:n<0
 ·rw [if_pos q1]
  refine k_E2 (rs:=[.tmp 4,.tmp 5]) 41 Tryz.func91 rfl rfl rfl ?_
  refine r15_ ?_
  refine cT_ ?_
  refine r9_ ?_
  refine ⟨_,arM (devM S p x.d oE oW) a p b c x k,⟨_,_,rfl,⟨_,_,rfl,rfl,rfl⟩,rfl⟩,zad,?_⟩
  exact ⟨_,rfl,k,oE,oW,none,hok,h0,rfl,rfl⟩
 ·rw [if_neg q1]
  by_cases q2:(idlesP x:Int)<n
  ·rw [if_pos q2]
   refine k_E2 (rs:=[.tmp 4,.tmp 5]) 41 Tryz.func91 rfl rfl rfl ?_
   refine r15_ ?_
   refine cF_ ?_
   refine r4_ ?_
   refine ca_ rfl (hid) ?_
   rintro _ S1 ⟨rfl,h1⟩
   rw [h1];clear h1 S1
   refine r4_ ?_
   refine cT_ ?_
   refine r9_ ?_
   refine ⟨_,arM (devM S p x.d oE oW) a p b c x k,⟨_,_,rfl,⟨_,_,rfl,rfl,rfl⟩,rfl⟩,zad,?_⟩
   exact ⟨_,rfl,k,oE,oW,none,hok,h0,rfl,rfl⟩
  ·rw [if_neg q2]
   obtain ⟨m,rfl⟩ : ∃ m:Nat,n=(m:Int):=⟨_,(Int.toNat_of_nonneg (by omega)).symm⟩
   rw [Int.toNat_natCast]
   refine k_E2 (rs:=[.tmp 4,.tmp 5]) 41 Tryz.func91 rfl rfl rfl ?_
   refine r15_ ?_
   refine cF_ ?_
   refine r4_ ?_
   refine ca_ rfl (hid) ?_
   rintro _ S1 ⟨rfl,h1⟩
   rw [h1];clear h1 S1
   refine r4_ ?_
   refine k_v6 0 1 4 5 9 12 ?_
   refine cF_ ?_
   refine r16_ ?_
   refine AWP.loop (X:=Nat × Pl × Int × Option (Nat × Nat) × Option (Nat × Nat) × Option (Nat × Nat) × List Int) (fun z=>[(0,.pointer (some ⟨a,0,none⟩)),(6,outV z.2.2.2.2.2.1 z.2.2.2.2.2.2.length),(17,.int .i64 m),(18,.int .i64 z.1)]) (fun z=>outN 1 (arM (devM S p z.2.1.d z.2.2.2.1 z.2.2.2.2.1) a p b c z.2.1 z.2.2.1) z.2.2.2.2.2.1 3 (z.2.2.2.2.2.2.flatMap i64s)) (fun z=>z.1≤m∧PW z.2.1∧OkA S a p b c z.2.1 z.2.2.2.1 z.2.2.2.2.1∧OkO (arM (devM S p z.2.1.d z.2.2.2.1 z.2.2.2.2.1) a p b c z.2.1 z.2.2.1) z.2.2.2.2.2.1 z.2.2.2.2.2.2.length∧z.2.2.2.2.2.2.length=z.1∧leaseN m x []=leaseN (m-z.1) z.2.1 z.2.2.2.2.2.2) (fun z=>m-z.1) ((0,x,k,oE,oW,none,[])) ⟨rfl,rfl,rfl,rfl,trivial⟩ (Mem.Less.refl _) (⟨Nat.zero_le _,hw,hok,h0,rfl,rfl⟩) ?_
   rintro ⟨i,y,k',oE',oW',o,l⟩ ⟨hi,hwy,hoky,hoo,hll,hfl⟩
   (try dsimp only at *)
   clear hA hF hid
   refine r6_ ?_
   refine AWP.condB rfl (fun hc=>?_) (fun hc=>?_)
   ·have hc:i<m:=by have:=of_decide_eq_true hc;omega
    have htk:=(zmL a p b c y k' S oE' oW' hoky hwy).frameO (n:=1) (e:=3) (cs:=l.flatMap i64s) hoo
    rw [show m-i=(m-(i+1))+1 from by omega,leaseN] at hfl
    refine r7_ ?_
    refine ca_ rfl (htk) ?_
    rintro _ S1 ⟨Sa,⟨rfl,k2,oE2,oW2,hok2,hSa⟩,hoo2,h1⟩
    rw [h1,hSa];rw [hSa] at hoo2;clear h1 S1 hSa Sa
    have hpw:=zro hwy
    have htl:=zjG (x:=y)
    generalize takeP y=u at *
    refine r7_ ?_
    by_cases q3:u.2.2=0
    ·rw [if_pos q3] at hfl
     have hul:=htl q3
     have hA2:=za3 (M:=devM S p u.1.d oE2 oW2) (a:=a) (p:=p) (b:=b) (c:=c) (x:=u.1) (k:=k2)
     have hB2:=zde (M:=devM S p u.1.d oE2 oW2) (p:=p) (c:=c) (x:=u.1) (k:=k2) hok2.ab
     have hA3:=zjI (n:=1) (e:=3) (cs:=l.flatMap i64s) hA2 hoo2
     have hB3:=zjI (n:=1) (e:=3) (cs:=l.flatMap i64s) hB2 hoo2
     unfold arB at hA3
     refine r7_ ?_
     refine cF_ ?_
     refine r11_ ?_
     refine ARun.storeFr (c:=c) (i:=u.2.1) (l:=u.1.fr) (u:=F1) rfl rfl rfl (by omega) hul zbp hB3 ?_
     try simp only [k_ms,k_sz,k_ss,k_za,Nat.reduceAdd]
     refine r2_ ?_
     rw [show (outN 1 (arM (devM S p u.1.d oE2 oW2) a p b c u.1 k2) o 3 (l.flatMap i64s)).set b (frB (u.1.fr.set u.2.1 F1) c)=outN 1 (arM (devM S p u.1.d oE2 oW2) a p b c (setP u.1 u.2.1 F1) k2) o 3 (l.flatMap i64s) from by rw [zpb hB2 hoo2,zby hok2.ab _ (by simp)];rfl]
     have hoo3:OkO (arM (devM S p u.1.d oE2 oW2) a p b c (setP u.1 u.2.1 F1) k2) o l.length:=by have:=zrr (r':=frB (u.1.fr.set u.2.1 F1) c) hB2 hoo2;rw [zby hok2.ab _ (by simp)] at this;exact this
     have happ:=zbK (e:=3) hoo3 (zaq ziO l)
     have hok3:OkA S a p b c (setP u.1 u.2.1 F1) oE2 oW2:=hok2.like rfl (by unfold setP;simp)
     have hpw3:=zmO (hpw q3) u.2.1 (y:=F1) (by decide) (by decide)
     have hd3:(setP u.1 u.2.1 F1).d=u.1.d:=rfl
     rw [← hd3] at hoo3 happ ⊢
     clear hB3 hA3 hA2 hB2 hoo2
     generalize setP u.1 u.2.1 F1=y3 at *
     refine r3_ ?_
     refine ARun.build1s (zab rfl) zb6 rfl rfl ?_
     intro b37 f37
     have g37:=f37
     repeat ((with_reducible replace g37:=zaa g37);obtain ⟨g37,_⟩:=g37)
     refine ARun.appendOK (n:=1) (o:=o) (k:=l.length) (m:=1) (cs:=l.flatMap i64s) (news:=[.int .i64 (u.2.1:Nat)]) (zab rfl) zb6 rfl rfl (zaq ziO l) hoo3 (happ.temp f37) rfl (zd6 (Mem.own_set_same _ _ _) List.prefix_rfl) rfl (zrq [((u.2.1:Nat):Int)]) (by omega) (by omega) ?_
     intro o2 ho2
     refine r9_ ?_
     refine ⟨(i+1,y3,k2,oE2,oW2,o2,l ++ [((u.2.1:Nat):Int)]),?_,?_,?_,?_⟩
     all_goals (try dsimp only)
     ·exact ⟨rfl,by rw [List.length_append];rfl,rfl,rfl,trivial⟩
     ·exact zei (by rw [List.flatMap_append];rfl)
     ·exact ⟨hc,hpw3,hok3,by rw [List.length_append];exact ho2,by rw [List.length_append,hll];rfl,hfl⟩
     ·(show m-(i+1)<m-i;omega)
    ·rw [if_neg q3] at hfl
     refine r7_ ?_
     refine k_v8 0 6 17 18 19 7 8 26 ?_
     refine cT_ ?_
     rw [hfl]
     refine r14_ ?_
     refine ⟨_,arM (devM S p u.1.d oE2 oW2) a p b c u.1 k2,⟨_,_,rfl,⟨_,_,rfl,rfl,rfl⟩,rfl⟩,za9 hoo2,?_⟩
     exact ⟨_,rfl,k2,oE2,oW2,none,hok2,zbR _,rfl,rfl⟩
   ·have hc:i=m:=by have:=of_decide_eq_false hc;omega
    subst hc
    rw [Nat.sub_self,leaseN] at hfl
    rw [hfl]
    refine r13_ ?_
    refine ⟨_,outN 1 (arM (devM S p y.d oE' oW') a p b c y k') o 3 (l.flatMap i64s),⟨_,_,rfl,⟨_,_,rfl,rfl,rfl⟩,rfl⟩,Mem.Less.refl _,?_⟩
    exact ⟨_,rfl,k',oE',oW',o,hoky,hoo,rfl,rfl⟩
end
section
open Go.RowKit
open Mv Disk
set_option maxRecDepth 4000
namespace Sto
theorem zbi {n:Nat} {S:Mem} {b:Nat} {o:Option (Nat × Nat)} {e:TypeId} {cs:List Value} {r:Blk} (ho:∀ q c,o=some (q,c)→b≠q):(outN n S o e cs).set b r=outN n (S.set b r) o e cs:=by
 cases o with
 | none=>rfl
 | some qc=>exact Mem.set_comm _ _ _ (Ne.symm (ho _ _ rfl))
structure Beside (S:Mem) (a p b:Nat) (oE oW:Option (Nat × Nat)) (r:Nat):Prop where
  e:∀ q c,oE=some (q,c)→r≠q
  w:∀ q c,oW=some (q,c)→r≠q
  p:r≠p
  b:r≠b
  a:r≠a
theorem ziP {S:Mem} {a p b c:Nat} {x:Pl} {oE oW:Option (Nat × Nat)} {k:Int} {r:Nat} (h:OkA S a p b c x oE oW) (hb:Beside S a p b oE oW r) (k':Blk):OkA (S.set r k') a p b c x oE oW∧(arM (devM S p x.d oE oW) a p b c x k).set r k'=arM (devM (S.set r k') p x.d oE oW) a p b c x k:=by
 have e1:(outN 2 S oE extT (x.d.ext.flatMap extF)).set r k'=outN 2 (S.set r k') oE extT (x.d.ext.flatMap extF):=zbi hb.e
 have e2:(dkM S x.d oE oW).set r k'=dkM (S.set r k') x.d oE oW:=by
  unfold dkM
  rw [zbi hb.w,e1]
 have e3:(devM S p x.d oE oW).set r k'=devM (S.set r k') p x.d oE oW:=by
  unfold devM
  rw [Mem.set_comm _ _ _ (Ne.symm hb.p),e2]
 refine ⟨⟨⟨⟨h.v.dk.e.set hb.e,?_⟩,?_⟩,?_,?_,h.ab,h.l⟩,?_⟩
 ·rw [← e1];exact h.v.dk.w.set hb.w
 ·rw [← e2];exact zal h.v.fr (Ne.symm hb.p)
 ·rw [← e3];exact zal h.fb (Ne.symm hb.b)
 ·rw [← e3];exact zal h.fa (Ne.symm hb.a)
 ·unfold arM
  rw [Mem.set_comm _ _ _ (Ne.symm hb.a),Mem.set_comm _ _ _ (Ne.symm hb.b),e3]
theorem zdT {S:Mem} {p:Nat} {d:D} {oE oW:Option (Nat × Nat)} {q:Nat} (h:Fresh (devM S p d oE oW) q):Fresh S q∧q≠p∧(∀ x c,oE=some (x,c)→q≠x) ∧ ∀ x c,oW=some (x,c)→q≠x:=by
 unfold devM dkM at h
 obtain ⟨h1,h2⟩:=zaa h
 obtain ⟨h3,h4⟩:=zaB h1
 obtain ⟨h5,h6⟩:=zaB h3
 exact ⟨h5,h2,h6,h4⟩
theorem zek {S:Mem} {a p b c:Nat} {x:Pl} {oE oW:Option (Nat × Nat)} {r:Nat} {k:Blk} (h:OkA S a p b c x oE oW) (hr:S.own r=some k):Beside S a p b oE oW r where
 e:=fun q c e=>(h.v.dk.e.own q c e).1.ne hr
 w:=fun q c e=>(zaB (h.v.dk.w.own q c e).1).1.ne hr
 p:=by
  have:=h.v.fr
  unfold dkM at this
  exact (zaB (zaB this).1).1.ne hr
 b:=(zdT h.fb).1.ne hr
 a:=(zdT h.fa).1.ne hr
theorem zkK {S:Mem} {a p b c:Nat} {x:Pl} {oE oW:Option (Nat × Nat)} {k:Int} {r:Nat} (h:Fresh (arM (devM S p x.d oE oW) a p b c x k) r):Fresh S r∧Beside S a p b oE oW r:=by
 unfold arM at h
 obtain ⟨h1,h2⟩:=zaa h
 obtain ⟨h3,h4⟩:=zaa h1
 obtain ⟨h5,h6,h7,h8⟩:=zdT h3
 exact ⟨h5,⟨h7,h8,h6,h4,h2⟩⟩
theorem zcL {S T:Mem} {a p b c:Nat} {x:Pl} {r:Nat} {k:Blk} (h:ArS S a p b c x T) (hr:S.own r=some k) (k':Blk):ArS (S.set r k') a p b c x (T.set r k'):=by
 obtain ⟨i,oE,oW,ok,rfl⟩:=h
 obtain ⟨g1,g2⟩:=ziP (k:=i) ok (zek ok hr) k'
 exact ⟨i,oE,oW,g1,g2⟩
theorem zdU {S T:Mem} {a p b c:Nat} {x:Pl} {r:Nat} (h:ArS S a p b c x T) (hr:Fresh T r) (k':Blk):Fresh S r∧ArS (S.set r k') a p b c x (T.set r k'):=by
 obtain ⟨i,oE,oW,ok,rfl⟩:=h
 obtain ⟨h1,h2⟩:=zkK hr
 obtain ⟨g1,g2⟩:=ziP (k:=i) ok h2 k'
 exact ⟨h1,⟨i,oE,oW,g1,g2⟩⟩
theorem zaQ {S T:Mem} {a p b c:Nat} {x:Pl} (h:ArS S a p b c x T):S.Less T:=by
 obtain ⟨i,oE,oW,ok,rfl⟩:=h
 exact ok.less i
theorem zaj {S T:Mem} {a p b c:Nat} {x:Pl} (h:ArS S a p b c x T) {r:Nat} {k:Blk} (hr:S.own r=some k):T.own r=some k:=(zaQ h).1 r k hr
theorem zdj {S T:Mem} {a p b c:Nat} {x:Pl} (h:ArS S a p b c x T) {f:FuncId} {args:Array Value} {R:Value→Mem→Prop} (g:∀ k oE oW,OkA S a p b c x oE oW→ACall Tryz.prog f args (arM (devM S p x.d oE oW) a p b c x k) R):ACall Tryz.prog f args T R:=by
 obtain ⟨i,oE,oW,ok,rfl⟩:=h
 exact g i oE oW ok
theorem zel {p:Pl} {n:Nat} (h:Ps p n):PW p where
 dr:=h.d.r
 fu:=by rw [h.d.f];decide
 nd:=h.d.u
 l1:=h.l1
 l2:=h.l2
 pn:=fun x hx=>by
  obtain ⟨i,hi,rfl⟩:=List.mem_iff_getElem.1 hx
  have:=h.ok i hi
  rw [zaP hi] at this
  rcases this with e | e | e
  ·rw [e];exact ⟨by decide,by decide⟩
  ·rw [e];exact ⟨by decide,by decide⟩
  ·exact ⟨e.p0,by have:=e.p1;omega⟩
/-! ### Frames of a file that are in use -/
structure Use (x:Pl) (s:ByteArray) (fr held:Nat):Prop where
  pins:∀ i,i<x.fr.length→(atF x i).holds→(atF x i).name=s→(atF x i).pins=if 0<held∧i=fr then 1 else 0
  at_:0<held→fr<x.fr.length∧isF s (held:Int) (atF x fr)=true
  z0:∀ i,i<x.fr.length→isF s 0 (atF x i)=false
theorem zfm {s:ByteArray} {k j:Int} {x:Fr} (h:isF s k x=true) (hne:k≠j):isF s j x=false:=zbz fun e=>hne ((zan.1 h).2.1.symm.trans (zan.1 e).2.1)
structure Oth (x y:Pl) (s:ByteArray):Prop where
  back:∀ i,i<x.fr.length→(atF y i).holds→(atF y i).name≠s→atF y i=atF x i
  on:∀ i,i<x.fr.length→(atF x i).name≠s → ¬ (atF x i).idle→atF y i=atF x i
theorem Oth.refl (x:Pl) (s:ByteArray):Oth x x s:=⟨fun _ _ _ _=>rfl,fun _ _ _ _=>rfl⟩
theorem Oth.trans {x y z:Pl} {s:ByteArray} (h:Oth x y s) (g:Oth y z s) (hl:y.fr.length=x.fr.length):Oth x z s :=
 ⟨fun i hi hh hn=>by
  have e:=g.back i (by omega) hh hn
  rw [e] at hh hn
  exact e.trans (h.back i hi hh hn),fun i hi hn hb=>by
  have e:=h.on i hi hn hb
  exact (g.on i (by omega) (by rw [e];exact hn) (by rw [e];exact hb)).trans e⟩
theorem Use.busy {x:Pl} {s:ByteArray} {fr held:Nat} (h:Use x s fr held) (h0:0<held):(atF x fr).pins=1:=by
 obtain ⟨h1,h2⟩:=h.at_ h0
 obtain ⟨a,_,c⟩:=zan.1 h2
 rw [h.pins fr h1 a c,if_pos ⟨h0,rfl⟩]
theorem Use.oth {x y:Pl} {s s':ByteArray} {fr held:Nat} (h:Use x s fr held) (ho:Oth x y s') (hne:s≠s') (hl:y.fr.length=x.fr.length):Use y s fr held where
 pins:=fun i hi hh hn=>by
  have e:=ho.back i (by omega) hh (by rw [hn];exact hne)
  rw [e] at hh hn ⊢
  exact h.pins i (by omega) hh hn
 at_:=fun h0=>by
  obtain ⟨h1,h2⟩:=h.at_ h0
  have e:=ho.on fr h1 (by rw [(zan.1 h2).2.2];exact hne) (zrj (by rw [h.busy h0];decide))
  exact ⟨by omega,by rw [e];exact h2⟩
 z0:=fun i hi=>zbz fun e=>by
  obtain ⟨a,_,c⟩:=zan.1 e
  rw [ho.back i (by omega) a (by rw [c];exact hne),h.z0 i (by omega)] at e
  cases e
theorem zmR {p:Pl} {n:Nat} (hp:Ps p n) (hn:n<16384) (hb:nb p.fr<p.fr.length) {s:ByteArray} {k fr:Nat} (hk:k<ns p.d s) (hk0:0<k) (hu:Use p s fr 0) :
  ∃ q i,pinP p s (k:Int)=(q,i,0)∧Ps q (n+1)∧Stays p q∧Use q s i k∧Oth p q s∧(atF q i).data=vw p s (k:Int)∧nb q.fr≤nb p.fr+1:=by
 have h0:∀ i,i<p.fr.length→isF s (k:Int) (atF p i)=true→(atF p i).pins=0:=fun i hi h=>by
  obtain ⟨a,_,c⟩:=zan.1 h
  rw [hu.pins i hi a c,if_neg (fun h=>absurd h.1 (Nat.lt_irrefl 0))]
 obtain ⟨q,i,h1,h2,h3,h4,h5,h6,h7,h8,h9,h10⟩:=ztb hp hn hb hk (fun i hi h=>by rw [h0 i hi h];decide)
 obtain ⟨f1,f2,f3⟩:=zan.1 h5
 have hpi:(atF q i).pins=1:=by
  rw [h7]
  by_cases e:isF s (k:Int) (atF p i)=true
  ·rw [if_pos e,h0 i h2 e];rfl
  ·rw [if_neg e];rfl
 refine ⟨q,i,h1,h3,h4,⟨fun j hj hh hnm=>?_,fun _=>⟨by rw [h4.l];exact h2,h5⟩,fun j hj=>?_⟩,⟨fun j hj hh hnm=>?_,fun j hj hnm hid=>?_⟩,h6,h9⟩
 ·by_cases e:j=i
  ·subst e;rw [if_pos ⟨hk0,rfl⟩,hpi]
  ·rw [if_neg (fun h=>e h.2)]
   rw [h8 j e] at hh hnm ⊢
   rw [hu.pins j (by rw [h4.l] at hj;exact hj) hh hnm,if_neg (fun h=>absurd h.1 (Nat.lt_irrefl 0))]
 ·by_cases e:j=i
  ·subst e;exact zfm h5 (by omega)
  ·rw [h8 j e];exact hu.z0 j (by rw [h4.l] at hj;exact hj)
 ·by_cases e:j=i
  ·subst e;exact absurd f3 hnm
  ·exact h8 j e
 ·by_cases e:j=i
  ·subst e
   rcases h10 with h | h
   ·exact absurd (zan.1 h).2.2 hnm
   ·exact absurd h hid
  ·exact h8 j e
theorem zhC {p:Pl} {n:Nat} (hp:Ps p n) {s:ByteArray} {k fr:Nat} (hk0:0<k) (hu:Use p s fr k) :
  ∃ q,zfZ p (fr:Int)=(q,0)∧Ps q n∧Stays p q∧Use q s fr 0∧Oth p q s∧nb q.fr+1=nb p.fr:=by
 obtain ⟨h1,h2⟩:=hu.at_ hk0
 have hb:=hu.busy hk0
 obtain ⟨q,g1,g2,g3,g4,g5,g6,_,g8⟩:=zo3 hp h1 h2 (by rw [hb];decide)
 obtain ⟨f1,f2,f3⟩:=zan.1 h2
 refine ⟨q,g1,g2,g3,⟨fun j hj hh hnm=>?_,fun h=>absurd h (Nat.lt_irrefl 0),fun j hj=>?_⟩,⟨fun j hj hh hnm=>?_,fun j hj hnm hid=>?_⟩,g8 hb⟩
 ·rw [if_neg (fun h=>absurd h.1 (Nat.lt_irrefl 0))]
  by_cases e:j=fr
  ·subst e;rw [g5,hb];rfl
  ·rw [g6 j e] at hh hnm ⊢
   rw [hu.pins j (by rw [g3.l] at hj;exact hj) hh hnm,if_neg (fun h=>e h.2)]
 ·by_cases e:j=fr
  ·subst e;exact zfm g4 (by omega)
  ·rw [g6 j e];exact hu.z0 j (by rw [g3.l] at hj;exact hj)
 ·by_cases e:j=fr
  ·subst e;exact absurd (zan.1 g4).2.2 hnm
  ·exact g6 j e
 ·by_cases e:j=fr
  ·subst e;exact absurd f3 hnm
  ·exact g6 j e
theorem zpc {p:Pl} {n:Nat} (hp:Ps p n) {s:ByteArray} {k fr:Nat} (hk0:0<k) (hu:Use p s fr k) {u:ByteArray} {a:Nat} (ha:a+u.size≤64) :
  ∃ q,fillP p (fr:Int) (a:Int) u=(q,0)∧Ps q n∧q.fr.length=p.fr.length∧q.d=p.d∧Use q s fr k∧Oth p q s∧nb q.fr=nb p.fr ∧ ∀ o (j:Nat),j<ns p.d o→vw q o (j:Int)=if s=o∧k=j then fillS (vw p s (k:Int)) (a:Int) u else vw p o (j:Int):=by
 obtain ⟨h1,h2⟩:=hu.at_ hk0
 have hb:=hu.busy hk0
 obtain ⟨q,g1,g2,g3,g4,g5,g6,g7,g8,g9⟩:=zrl hp h1 h2 (by rw [hb];decide) ha
 obtain ⟨f1,f2,f3⟩:=zan.1 h2
 refine ⟨q,g1,g2,g3,g4,⟨fun j hj hh hnm=>?_,fun _=>⟨by omega,g5⟩,fun j hj=>?_⟩,⟨fun j hj hh hnm=>?_,fun j hj hnm hid=>?_⟩,g8,g9⟩
 ·by_cases e:j=fr
  ·subst e;rw [g6,hb,if_pos ⟨hk0,rfl⟩]
  ·rw [g7 j e] at hh hnm ⊢
   exact hu.pins j (by omega) hh hnm
 ·by_cases e:j=fr
  ·subst e;exact zfm g5 (by omega)
  ·rw [g7 j e];exact hu.z0 j (by omega)
 ·by_cases e:j=fr
  ·subst e;exact absurd (zan.1 g5).2.2 hnm
  ·exact g7 j e
 ·by_cases e:j=fr
  ·subst e;exact absurd f3 hnm
  ·exact g7 j e
end Sto
end
section
open Go.RowKit
open Mv Disk
set_option maxRecDepth 4000
namespace Sto
theorem Ps.mono {p:Pl} {n m:Nat} (h:Ps p n) (k:n≤m):Ps p m:=⟨h.d.mono k,h.ok,h.ap,h.l1,h.l2⟩
structure Rd where
  nm:ByteArray
  w:Nat
  ct:Nat
  at_:Nat
  fr:Nat
  held:Nat
def rdB (a:Nat) (r:Rd):Blk:=⟨115,[.pointer (some ⟨a,0,none⟩),.string r.nm,.int .i64 (r.w:Nat),.int .u64 (r.ct:Nat),.int .i64 (r.at_:Nat),.int .i64 (r.fr:Nat),.int .i64 (r.held:Nat),.int .i64 0],8⟩
def self (q:Nat):Value:=.pointer (some ⟨q,0,none⟩)
structure RdS (S:Mem) (a p b c q:Nat) (r:Rd) (x:Pl) (n B:Nat) (T:Mem):Prop where
  ar:ArS S a p b c x T
  ow:S.own q=some (rdB a r)
  ps:Ps x n
  us:Use x r.nm r.fr r.held
  nb:nb x.fr≤B+if 0<r.held then 1 else 0
structure RdT (S:Mem) (a p b c q:Nat) (r r':Rd) (x y:Pl) (n' B:Nat) (T':Mem):Prop where
  s:RdS (S.set q (rdB a r')) a p b c q r' y n' B T'
  st:Stays x y
  ot:Oth x y r.nm
  nm:r'.nm=r.nm
theorem RdT.refl {S:Mem} {a p b c q:Nat} {r:Rd} {x:Pl} {n B:Nat} {T:Mem} (h:RdS S a p b c q r x n B T):RdT S a p b c q r r x x n B T:=⟨by rw [Mem.set_same _ _ _ h.ow];exact h,Stays.refl _,Oth.refl _ _,rfl⟩
theorem RdT.trans {S:Mem} {a p b c q:Nat} {r r' r'':Rd} {x y z:Pl} {n n' B:Nat} {T T':Mem} (h:RdT S a p b c q r r' x y n B T) (g:RdT (S.set q (rdB a r')) a p b c q r' r'' y z n' B T'):RdT S a p b c q r r'' x z n' B T' :=
 ⟨by have:=g.s;rw [Mem.set_set] at this;exact this,h.st.trans g.st,h.ot.trans (by rw [← h.nm];exact g.ot) h.st.l,g.nm.trans h.nm⟩
theorem zeM (S:Mem) (a p b c q:Nat) (r:Rd) (x:Pl) (n B:Nat) (T:Mem) (h:RdS S a p b c q r x n B T) :
  ACall Tryz.prog 142 #[self q] T fun v T'=>v = .tuple #[] ∧ ∃ y,RdT S a p b c q r { r with held:=0 } x y n B T':=by
 have hq:=zaj h.ar h.ow
 unfold rdB at hq
 by_cases h0:0<r.held
 ·obtain ⟨y,e1,e2,e3,e4,e5,e6⟩:=zhC h.ps h0 h.us
  have hc:=zdj h.ar (fun k oE oW ok=>zhB a p b c x r.fr k S oE oW ok (zel h.ps))
  rw [e1] at hc
  have hnb:=h.nb
  rw [if_pos h0] at hnb
  refine k_E1 (rs:=[]) 19 Tryz.func142 rfl rfl rfl ?_
  refine r9_ ?_
  refine cT_ ?_
  refine s1_ ?_
  refine AWP.draw [(0,true),(1,true),(2,true),(3,true),(4,true),(5,true),(6,true),(7,true),(8,false)] [8] mixed (by kernel_rfl) ?_
  refine r8_ ?_
  refine zac rfl ?_
  refine ca_ rfl (hc) ?_
  rintro _ T1 ⟨rfl,h1⟩
  have o1:=zaj h1 h.ow
  unfold rdB at o1
  refine zae ⟨fun h=>absurd h (by decide),?_⟩
  refine r8_ ?_
  refine ⟨_,T1.set q (rdB a { r with held:=0 }),rfl,zad,?_⟩
  exact ⟨rfl,y,⟨zcL h1 h.ow _,Mem.own_set_same _ _ _,e2,e4,by rw [if_neg (Nat.lt_irrefl 0)];omega⟩,e3,e5,rfl⟩
 ·have e0:r.held=0:=by omega
  have er:({ r with held:=0 }:Rd)=r:=by rw [← e0]
  refine k_E1 (rs:=[]) 19 Tryz.func142 rfl rfl rfl ?_
  refine r9_ ?_
  refine cF_ ?_
  refine s1_ ?_
  refine ⟨_,T,rfl,zad,?_⟩
  exact ⟨rfl,x,by rw [er];exact RdT.refl h⟩
set_option maxHeartbeats 2000000 in
theorem zrs (S:Mem) (a p b c q:Nat) (r:Rd) (x:Pl) (n B:Nat) (T:Mem) (h:RdS S a p b c q r x n B T) (hat:r.at_≤4294967296) (hk:1+r.at_ / 64<ns x.d r.nm) (hn:n<16384) (hB:B<x.fr.length) :
  ACall Tryz.prog 229 #[self q] T fun v T'=>v = .bool true ∧ ∃ y f,RdT S a p b c q r { r with fr:=f,held:=1+r.at_ / 64 } x y (n+1) B T':=by
 have hq:=zaj h.ar h.ow
 unfold rdB at hq
 by_cases h0:1+r.at_ / 64=r.held
 ·have er:({ r with fr:=r.fr,held:=1+r.at_ / 64 }:Rd)=r:=by rw [h0]
  refine k_E1 (rs:=[.tmp 2]) 51 Tryz.func229 rfl rfl rfl ?_
  refine r24_ ?_
  refine rC (Calm.bin rfl rfl (zag (c:=true) (zaY _ _) (decide_eq_true (by omega)))) ?_
  refine r2_ ?_
  refine cT_ ?_
  refine r7_ ?_
  refine ⟨_,T,⟨_,_,rfl,rfl,rfl⟩,zad,?_⟩
  exact ⟨rfl,x,r.fr,by rw [er];have:=RdT.refl h;exact ⟨⟨this.s.ar,this.s.ow,this.s.ps.mono (Nat.le_succ n),this.s.us,this.s.nb⟩,this.st,this.ot,this.nm⟩⟩
 ·have hcl:=zeM S a p b c q r x n B T h
  refine k_E1 (rs:=[.tmp 2]) 51 Tryz.func229 rfl rfl rfl ?_
  refine r24_ ?_
  refine rC (Calm.bin rfl rfl (zag (c:=false) (zaY _ _) (decide_eq_false (by omega)))) ?_
  refine r2_ ?_
  refine cF_ ?_
  refine r5_ ?_
  refine ca_ rfl (hcl) ?_
  rintro _ T1 ⟨rfl,y,h1⟩
  have o1:=zaj h1.s.ar h1.s.ow
  unfold rdB at o1
  have hnb1:=h1.s.nb
  rw [if_neg (Nat.lt_irrefl 0)] at hnb1
  obtain ⟨z,i,e1,e2,e3,e4,e5,e6,e7⟩:=zmR h1.s.ps hn (by rw [h1.st.l];omega) (s:=r.nm) (k:=1+r.at_ / 64) (by rw [h1.st.n];exact hk) (by omega) h1.s.us
  have hp:=zdj h1.s.ar (fun k oE oW ok=>zmN a p b c y r.nm ((1+r.at_ / 64:Nat):Int) k _ oE oW ok (zel h1.s.ps))
  rw [e1] at hp
  refine r2_ ?_
  refine k_v4 0 2 3 15 ?_
  refine s1_ ?_
  refine AWP.draw [(0,true),(1,true),(2,true),(3,true),(4,true),(5,true),(6,true),(7,true),(8,true),(9,true),(10,true),(11,false),(12,true),(13,true),(14,true),(15,true),(16,true),(17,false),(18,true),(19,true),(20,false)] [11,17,20] mixed (by kernel_rfl) ?_
  refine r11_ ?_
  refine zac rfl ?_
  refine ca_ rfl (hp) ?_
  rintro _ T2 ⟨rfl,h2⟩
  have o2:=zaj h2 h1.s.ow
  unfold rdB at o2
  refine zae ⟨fun h=>absurd h (by decide),?_⟩
  refine r5_ ?_
  refine zac rfl ?_
  refine s1_ ?_
  refine zae ⟨fun h=>absurd h (by decide),?_⟩
  refine r2_ ?_
  refine zac rfl ?_
  refine s1_ ?_
  refine zae ⟨fun h=>absurd h (by decide),?_⟩
  refine r12_ ?_
  refine cT_ ?_
  refine r19_ ?_
  refine ⟨_,T2.set q (rdB a { r with fr:=i,held:=1+r.at_ / 64 }),⟨_,_,rfl,rfl,rfl⟩,zad,?_⟩
  exact ⟨rfl,z,i,⟨by rw [← Mem.set_set];exact zcL h2 h1.s.ow _,Mem.own_set_same _ _ _,e2,e4,by show nb z.fr≤B+if 0<1+r.at_ / 64 then 1 else 0;rw [if_pos (by omega)];omega⟩,h1.st.trans e3,h1.ot.trans e5 h1.st.l,rfl⟩
end Sto
end
section
open Go.RowKit
open Mv
namespace Mv
def RoFree (M:Mem) (b:Nat):Prop:=∀ a v,M.ro a=some v→a.block≠b
structure Gro (M:Mem) (o:Option (Nat × Nat)) (e:TypeId) (cs:List Value):Prop where
  nil:o=none→cs = []
  own:∀ b c,o=some (b,c)→M.own b=some ⟨e,cs,c⟩∧cs.length≤c∧RoFree M b
def Away (o:Option (Nat × Nat)) (b:Nat):Prop:=∀ q c,o=some (q,c)→q≠b
theorem Away.nil (b:Nat):Away none b:=fun q c h=>by cases h
theorem Gro.empty (M:Mem) (e:TypeId):Gro M none e []:=⟨fun _=>rfl,fun b c h=>by cases h⟩
theorem Gro.set {M:Mem} {o:Option (Nat × Nat)} {e:TypeId} {cs:List Value} (h:Gro M o e cs) {b:Nat} (r:Blk) (ha:Away o b):Gro (M.set b r) o e cs :=
 ⟨h.nil,fun q c eq=>⟨(Mem.own_set_other _ _ (ha q c eq)).trans (h.own q c eq).1,(h.own q c eq).2.1,(h.own q c eq).2.2⟩⟩
def delo (M:Mem):Option (Nat × Nat)→Mem
  | none=>M
  | some q=>M.del q.1
theorem zrt (M:Mem) (o:Option (Nat × Nat)):(delo M o).ro=M.ro:=by cases o <;> rfl
theorem zeN {M:Mem} {o:Option (Nat × Nat)} {x:Nat} {r:Blk} (hx:M.own x=some r) (ho:∀ c,o≠some (x,c)):(delo M o).own x=some r:=by
 cases o with
 | none=>exact hx
 | some q=>exact (Mem.own_del_other _ (fun e=>ho q.2 (by rw [e]))).trans hx
section
variable {P:Program} {N:Nat} {E:Env} {M:Mem} {ops:Array Oper} {ty:TypeId} {pos:String} {aft:Array Edge}
end
end Mv
end
section
open Go.RowKit
open Mv Disk
set_option maxRecDepth 4000
namespace Sto
section
variable {P:Program} {N:Nat} {E:Env} {S:Mem} {dst:Option Nat} {ty:TypeId} {pos:String} {aft:Array Edge} {gd:Option (Nat × Bool)}
theorem Calm.minN {x y:Operand} {i j:Int} {a b:Nat} {ats:Array TypeId} (hx:ev E x=some (.int .i64 i)) (hy:ev E y=some (.int .i64 j)) (ha:i=(a:Int)) (hb:j=(b:Int)):ACalm P N ⟨dst,.call ⟨.builtin .min,#[x,y],ats⟩,ty,pos,aft,gd⟩ E S (.int .i64 ((min a b:Nat):Int)):=by
 subst ha hb
 rcases Nat.le_total a b with h | h
 ·rw [Nat.min_eq_left h];exact Mv.Calm.minL hx hy (by omega)
 ·rw [Nat.min_eq_right h];exact Mv.Calm.minR hx hy (by omega)
end
def byt (x:Pl) (s:ByteArray) (j:Nat):UInt8:=(vw x s ((1+j / 64:Nat):Int)).data.toList.getD (j % 64) 0
def run (x:Pl) (s:ByteArray) (j k:Nat):List UInt8:=(List.range k).map fun i=>byt x s (j+i)
theorem zmS (x:Pl) (s:ByteArray) (j k:Nat):(run x s j k).length=k:=by unfold run;simp
theorem zru (x:Pl) (s:ByteArray) (j k i:Nat):run x s j (k+i)=run x s j k ++ run x s (j+k) i:=by
 unfold run
 rw [List.range_add,List.map_append,List.map_map]
 congr 1
 exact List.map_congr_left fun a _=>by show byt x s (j+(k+a))=byt x s (j+k+a);rw [Nat.add_assoc]
theorem zth {x:Pl} {s:ByteArray} {j k:Nat} (hz:(vw x s ((1+j / 64:Nat):Int)).size=64) (h:k≤64-j % 64):(((vw x s ((1+j / 64:Nat):Int)).extract (j % 64) 64).extract 0 k).data.toList=run x s j k:=by
 have hlen:(vw x s ((1+j / 64:Nat):Int)).data.toList.length=64:=by rw [Array.length_toList];exact hz
 have e:(((vw x s ((1+j / 64:Nat):Int)).extract (j % 64) 64).extract 0 k).data.toList=((vw x s ((1+j / 64:Nat):Int)).data.toList.drop (j % 64)).take k:=by
  rw [ByteArray.data_extract,ByteArray.data_extract,Array.toList_extract,Array.toList_extract]
  simp only [List.extract_eq_take_drop,List.drop_zero,Nat.sub_zero]
  rw [List.take_of_length_le (i:=64-j % 64) (by rw [List.length_drop,hlen];exact Nat.le_refl _)]
 rw [e]
 unfold run byt
 refine List.ext_getElem (by rw [List.length_take,List.length_drop,List.length_map,List.length_range,hlen];omega) fun i h1 h2=>?_
 have h2':=h2
 rw [List.length_map,List.length_range] at h2'
 have h3:(j+i) / 64=j / 64:=by omega
 have h4:(j+i) % 64=j % 64+i:=by omega
 rw [List.getElem_take,List.getElem_drop,List.getElem_map,List.getElem_range,h3,h4,List.getD_eq_getElem?_getD,List.getElem?_eq_getElem (by omega)]
 rfl
theorem zrv {S T:Mem} {a p b c:Nat} {x:Pl} {n:Nat} (h:ArS S a p b c x T) (hp:Ps x n) {j:Nat} (hj:j<x.fr.length) :
  ACall Tryz.prog 230 #[.pointer (some ⟨a,0,none⟩),.int .i64 (j:Nat)] T fun r S'=>r = .string (atF x j).data∧S'=T:=by
 obtain ⟨k,oE,oW,ok,rfl⟩:=h
 exact zo9 a p b c x j k _ za3 (ziL ok.ab ok.l hp.l2) hj
theorem RdT.mono {S:Mem} {a p b c q:Nat} {r r':Rd} {x y:Pl} {n n' B:Nat} {T:Mem} (h:RdT S a p b c q r r' x y n B T) (k:n≤n'):RdT S a p b c q r r' x y n' B T:=⟨⟨h.s.ar,h.s.ow,h.s.ps.mono k,h.s.us,h.s.nb⟩,h.st,h.ot,h.nm⟩
theorem RdT.seek {S:Mem} {a p b c q:Nat} {r r':Rd} {x y:Pl} {n B:Nat} {T:Mem} (h:RdT S a p b c q r r' x y n B T) (j:Nat):RdT S a p b c q r { r' with at_:=j } x y n B (T.set q (rdB a { r' with at_:=j })) :=
 ⟨⟨by have:=zcL h.s.ar h.s.ow (rdB a { r' with at_:=j });rwa [Mem.set_set] at this,Mem.own_set_same _ _ _,h.s.ps,h.s.us,h.s.nb⟩,h.st,h.ot,h.nm⟩
structure BX where
  T:Mem
  y:Pl
  f:Nat
  hd:Nat
  k:Nat
  b:Nat
  c:Nat
set_option maxHeartbeats 4000000 in
theorem zpd (S:Mem) (a p b c q:Nat) (r:Rd) (x:Pl) (n B m:Nat) (T:Mem) (h:RdS S a p b c q r x n B T) (hm0:0<m) (hm:m≤4096) (hat:r.at_+m≤4294967296) (hk:1+(r.at_+m-1) / 64<ns x.d r.nm) (hn:n+m≤16384) (hB:B<x.fr.length) :
  ACall Tryz.prog 196 #[self q,.int .i64 (m:Nat)] T fun v T'=>∃ y f hd M g c',v = .tuple #[.slice (some ⟨g,0,none⟩) m c',.bool true]∧m≤c'∧Fresh M g∧T'=M.set g ⟨5,cellsB (run x r.nm r.at_ m),c'⟩∧RdT S a p b c q r { r with at_:=r.at_+m,fr:=f,held:=hd } x y (n+m) B M:=by
 refine k_E2 (rs:=[.tmp 4,.tmp 5]) 54 Tryz.func196 rfl rfl rfl ?_
 refine r9_ ?_
 refine ARun.makeSliceP (zab rfl) zaE rfl rfl (by omega) (by omega) (by omega) (by omega) ?_
 intro b10 f10
 have g10:=f10
 repeat ((with_reducible replace g10:=zaa g10);obtain ⟨g10,_⟩:=g10)
 refine r5_ ?_
 refine AWP.loop (X:=BX) (fun X=>[(0,self q),(1,.int .i64 (m:Nat)),(6,.slice (some ⟨X.b,0,none⟩) X.k X.c)]) (fun X=>X.T.set X.b ⟨5,cellsB (run x r.nm r.at_ X.k),X.c⟩) (fun X=>RdT S a p b c q r { r with at_:=r.at_+X.k,fr:=X.f,held:=X.hd } x X.y (n+X.k) B X.T∧Fresh X.T X.b∧X.k≤m∧X.k≤X.c) (fun X=>m-X.k) (⟨T,x,r.fr,r.held,0,b10,m⟩) ⟨rfl,rfl,rfl,trivial⟩ (zei (by rw [show ((m:Nat):Int).toNat*1=m from by omega,za8];rfl)) (⟨RdT.refl h,f10,Nat.zero_le _,Nat.zero_le _⟩) ?_
 rintro ⟨M,y,f,hd,k,g,cc⟩ ⟨hT,hf,hkm,hkc⟩
 (try dsimp only at *)
 replace hT:RdT S a p b c q r { r with at_:=r.at_+k,fr:=f,held:=hd } x y (n+k) B M:=hT
 replace hf:Fresh M g:=hf
 replace hkm:k≤m:=hkm
 replace hkc:k≤cc:=hkc
 by_cases q1:k<m
 ·have hs:1+(r.at_+k) / 64<ns x.d r.nm:=by omega
  have hh:=(zrs (S.set q (rdB a { r with at_:=r.at_+k,fr:=f,held:=hd })) a p b c q _ y (n+k) B M hT.s (by show r.at_+k≤_;omega) (by rw [hT.st.n];exact hs) (by omega) (by rw [hT.st.l];exact hB)).frame (r:=⟨5,cellsB (run x r.nm r.at_ k),cc⟩) hf
  refine r9_ ?_
  refine cT_ ?_
  refine r7_ ?_
  refine ca_ rfl (hh) ?_
  rintro _ S1 ⟨Sa,⟨rfl,z,f',hU⟩,hfa,h1⟩
  rw [h1];clear h1 S1
  have hV:RdT S a p b c q r { r with at_:=r.at_+k,fr:=f',held:=1+(r.at_+k) / 64 } x z (n+k+1) B Sa:=hT.trans hU
  have hq1:=zaj hV.s.ar hV.s.ow
  (unfold rdB at hq1;dsimp only at hq1)
  have hgq:q≠g:=fun e=>by rw [e] at hq1;rw [hfa.1] at hq1;cases hq1
  have o1:=(Mem.own_set_other Sa ⟨5,cellsB (run x r.nm r.at_ k),cc⟩ hgq).trans hq1
  obtain ⟨hfz,hfi⟩:=hV.s.us.at_ (Nat.add_comm _ 1 ▸ Nat.succ_pos _)
  have hD:(atF z f').data=vw x r.nm ((1+(r.at_+k) / 64:Nat):Int):=by rw [← zfv hV.s.ps hfz hfi];exact hV.st.v _ _ hs
  have hlk:=(zrv hV.s.ar hV.s.ps hfz).frame (r:=⟨5,cellsB (run x r.nm r.at_ k),cc⟩) hfa
  rw [hD] at hlk
  have hz:=ziM h.ps hs
  have hrun:=fun kk=>zth (k:=kk) hz
  generalize vw x r.nm ((1+(r.at_+k) / 64:Nat):Int)=D at *
  have hE:(D.extract ((r.at_+k) % 64) 64).size=64-(r.at_+k) % 64:=by rw [ByteArray.size_extract,hz];rfl
  refine r3_ ?_
  refine cF_ ?_
  refine r3_ ?_
  refine AWP.draw [(0,true),(1,true),(2,true),(3,true),(4,true),(5,true),(6,true),(7,true),(9,true),(10,true),(11,true),(12,true),(13,true),(8,false),(14,true),(15,true)] [] mixed (by kernel_rfl) ?_
  refine r13_ ?_
  refine zac rfl ?_
  refine ca_ rfl (hlk) ?_
  rintro _ S1 ⟨Sb,⟨rfl,hSb⟩,_,h1⟩
  rw [h1,hSb];clear h1 S1
  refine zae ⟨fun _=>zad,?_⟩
  refine zgT rfl rfl rfl rfl (zab rfl) (fun _=>Calm.sliceStr Tryz.underlying9 rfl (h:=64) (l:=(r.at_+k) % 64) (by rw [hz];exact za4 _ _) ⟨_,_,rfl,by omega,by omega,by omega⟩) ?_
  generalize D.extract ((r.at_+k) % 64) 64=W at *
  refine r11_ ?_
  refine rC (Calm.minN (a:=64-(r.at_+k) % 64) (b:=m-k) rfl rfl (by omega) (by omega)) ?_
  have hK1:min (64-(r.at_+k) % 64) (m-k)≤64-(r.at_+k) % 64:=Nat.min_le_left _ _
  have hK2:min (64-(r.at_+k) % 64) (m-k)≤m-k:=Nat.min_le_right _ _
  have hK0:0<min (64-(r.at_+k) % 64) (m-k):=Nat.lt_min.2 ⟨by omega,by omega⟩
  have hrn:=hrun _ hK1
  generalize min (64-(r.at_+k) % 64) (m-k)=K at *
  have hEK:(W.extract 0 K).size=K:=by rw [ByteArray.size_extract,hE];omega
  refine r3_ ?_
  refine k_v7 0 1 6 14 17 7 8 ?_
  refine r5_ ?_
  refine rC (Calm.sliceStr Tryz.underlying9 rfl (h:=K) (l:=0) ⟨_,_,rfl,by omega,by omega,by omega⟩ (za4 _ _)) ?_
  generalize W.extract 0 K=Y at *
  refine ARun.appendRunS (zab rfl) zaE zaA rfl (Mem.own_set_same _ _ _) (by rw [zav,zmS]) rfl (by omega) (by omega) ?_
  intro b44 c44 f44 hc44
  rw [Mem.del_set _ _ _ hfa.1] at f44 ⊢
  rw [hrn,hEK,← zcD,← zru]
  have hbq:q≠b44:=fun e=>by rw [e] at hq1;rw [f44.1] at hq1;cases hq1
  have o2:=(Mem.own_set_other Sa ⟨5,cellsB (run x r.nm r.at_ (k+K)),c44⟩ hbq).trans hq1
  refine r16_ ?_
  refine ⟨⟨Sa.set q (rdB a { r with at_:=r.at_+(k+K),fr:=f',held:=1+(r.at_+k) / 64 }),z,f',1+(r.at_+k) / 64,k+K,b44,c44⟩,?_,?_,?_,?_⟩
  all_goals (try dsimp only)
  ·exact ⟨rfl,rfl,rfl,trivial⟩
  ·(rw [Mem.set_comm _ _ _ hbq];unfold rdB;dsimp only;rw [show ((r.at_+(k+K):Nat):Int)=((r.at_+k:Nat):Int)+(K:Int) from by omega];exact Mem.Less.refl _)
  ·exact ⟨((hV.mono (by omega)).seek (r.at_+(k+K))),zal f44 (Ne.symm hbq),by omega,by omega⟩
  ·omega
 ·obtain rfl:k=m:=by omega
  refine r9_ ?_
  refine cF_ ?_
  refine r13_ ?_
  refine ⟨_,M.set g ⟨5,cellsB (run x r.nm r.at_ k),cc⟩,⟨_,_,rfl,⟨_,_,rfl,rfl,rfl⟩,rfl⟩,zad,?_⟩
  exact ⟨y,f,hd,M,g,cc,rfl,hkc,hf,rfl,hT⟩
end Sto
end
section
open Go.RowKit
open Mv Disk
set_option maxRecDepth 4000
namespace Sto
theorem zkL {t u:ByteArray} {a:Nat} (h:a+u.size≤t.size):(fillS t (a:Int) u).data.toList=t.data.toList.take a ++ (u.data.toList ++ t.data.toList.drop (a+u.size)):=by
 unfold fillS
 have ht:t.data.toList.length=t.size:=Array.length_toList
 rw [ByteArray.data_append,ByteArray.data_append,ByteArray.data_extract,ByteArray.data_extract,Array.toList_append,Array.toList_append,Array.toList_extract,Array.toList_extract,Int.toNat_natCast]
 simp only [List.extract_eq_take_drop,List.drop_zero,Nat.sub_zero,List.append_assoc]
 rw [List.take_of_length_le (i:=t.size-(a+u.size)) (by rw [List.length_drop,ht];exact Nat.le_refl _)]
theorem zmT {t u:ByteArray} {a i:Nat} (h:a+u.size≤t.size):(fillS t (a:Int) u).data.toList.getD i 0=if a≤i∧i<a+u.size then u.data.toList.getD (i-a) 0 else t.data.toList.getD i 0:=by
 rw [zkL h]
 have ht:t.data.toList.length=t.size:=Array.length_toList
 have hu:u.data.toList.length=u.size:=Array.length_toList
 simp only [List.getD_eq_getElem?_getD]
 by_cases q1:i<a
 ·rw [if_neg (by omega),List.getElem?_append_left (by rw [List.length_take,ht];omega),List.getElem?_take_of_lt q1]
 ·rw [List.getElem?_append_right (by rw [List.length_take,ht];omega),List.length_take,ht,Nat.min_eq_left (by omega)]
  by_cases q2:i<a+u.size
  ·rw [if_pos (by omega),List.getElem?_append_left (by omega)]
  ·rw [if_neg (by omega),List.getElem?_append_right (by omega),hu,List.getElem?_drop]
   congr 2;omega
structure Near (x y:Pl) (s:ByteArray):Prop where
  l:y.fr.length=x.fr.length
  z:y.d.size=x.d.size
  u:used y.d.ext=used x.d.ext
  n:∀ o,ns y.d o=ns x.d o
  v:∀ o (k:Nat),o≠s→k<ns x.d o→vw y o (k:Int)=vw x o (k:Int)
theorem Near.of {x y:Pl} (h:Stays x y) (s:ByteArray):Near x y s:=⟨h.l,h.z,h.u,h.n,fun o k _ hk=>h.v o k hk⟩
theorem Near.trans {x y z:Pl} {s:ByteArray} (h:Near x y s) (g:Near y z s):Near x z s:=⟨g.l.trans h.l,g.z.trans h.z,g.u.trans h.u,fun o=>(g.n o).trans (h.n o),fun o k ho hk=>(g.v o k ho (by rw [h.n];exact hk)).trans (h.v o k ho hk)⟩
def Wrote (x:Pl) (s:ByteArray) (L:List UInt8):Prop:=∀ j,1+j / 64<ns x.d s→byt x s j=L.getD j 0
theorem Wrote.stays {x y:Pl} {s:ByteArray} {L:List UInt8} (h:Wrote x s L) (g:Stays x y):Wrote y s L:=fun j hj=>by
 rw [g.n] at hj
 rw [← h j hj]
 unfold byt
 rw [g.v s _ hj]
theorem Wrote.near {x y:Pl} {s o:ByteArray} {L:List UInt8} (h:Wrote x s L) (g:Near x y o) (hne:s≠o):Wrote y s L:=fun j hj=>by
 rw [g.n] at hj
 rw [← h j hj]
 unfold byt
 rw [g.v s _ hne hj]
theorem Wrote.fill {x y:Pl} {n:Nat} {s u:ByteArray} {L:List UInt8} (hp:Ps x n) (h:Wrote x s L) (hn:∀ o,ns y.d o=ns x.d o) (hk:1+L.length / 64<ns x.d s) (hu:L.length % 64+u.size≤64)
  (hv:∀ o (j:Nat),j<ns x.d o→vw y o (j:Int)=if s=o∧1+L.length / 64=j then fillS (vw x s ((1+L.length / 64:Nat):Int)) ((L.length % 64:Nat):Int) u else vw x o (j:Int)):Wrote y s (L ++ u.data.toList):=fun j hj=>by
 rw [hn] at hj
 have hus:u.data.toList.length=u.size:=Array.length_toList
 have hz:=ziM hp hk
 have h0:=h j hj
 unfold byt at h0 ⊢
 rw [hv s _ hj,List.getD_eq_getElem?_getD (l:=L ++ u.data.toList)]
 rw [List.getD_eq_getElem?_getD (l:=L)] at h0
 by_cases q:1+L.length / 64=1+j / 64
 ·rw [if_pos ⟨rfl,q⟩,zmT (by rw [hz];exact hu)]
  by_cases q1:L.length % 64≤j % 64∧j % 64<L.length % 64+u.size
  ·rw [if_pos q1,List.getElem?_append_right (by omega),List.getD_eq_getElem?_getD,show j % 64-L.length % 64=j-L.length from by omega]
  ·rw [if_neg q1,q,h0]
   by_cases q2:j<L.length
   ·rw [List.getElem?_append_left q2]
   ·rw [List.getElem?_eq_none (by omega),List.getElem?_eq_none (by rw [List.length_append];omega)]
 ·rw [if_neg (fun e=>q e.2),h0]
  by_cases q2:j<L.length
  ·rw [List.getElem?_append_left q2]
  ·rw [List.getElem?_eq_none (by omega),List.getElem?_eq_none (by rw [List.length_append];omega)]
end Sto
end
section
open Go.RowKit
open Mv Disk
set_option maxRecDepth 4000
namespace Sto
structure Wt where
  nm:ByteArray
  w:Nat
  ct:Nat
  at_:Nat
  fr:Nat
  held:Nat
def wtB (a:Nat) (r:Wt):Blk:=⟨179,[.pointer (some ⟨a,0,none⟩),.string r.nm,.int .i64 (r.w:Nat),.int .u64 (r.ct:Nat),.int .i64 (r.at_:Nat),.int .i64 (r.fr:Nat),.int .i64 (r.held:Nat)],7⟩
structure WtS (S:Mem) (a p b c q:Nat) (r:Wt) (x:Pl) (n B:Nat) (L:List UInt8) (T:Mem):Prop where
  ar:ArS S a p b c x T
  ow:S.own q=some (wtB a r)
  ps:Ps x n
  us:Use x r.nm r.fr r.held
  nb:nb x.fr≤B+if 0<r.held then 1 else 0
  at_:r.at_=L.length
  wr:Wrote x r.nm L
structure WtT (S:Mem) (a p b c q:Nat) (r r':Wt) (x y:Pl) (n' B:Nat) (L:List UInt8) (T':Mem):Prop where
  s:WtS (S.set q (wtB a r')) a p b c q r' y n' B L T'
  st:Near x y r.nm
  ot:Oth x y r.nm
  nm:r'.nm=r.nm
theorem WtT.refl {S:Mem} {a p b c q:Nat} {r:Wt} {x:Pl} {n B:Nat} {L:List UInt8} {T:Mem} (h:WtS S a p b c q r x n B L T):WtT S a p b c q r r x x n B L T:=⟨by rw [Mem.set_same _ _ _ h.ow];exact h,Near.of (Stays.refl _) _,Oth.refl _ _,rfl⟩
theorem WtT.trans {S:Mem} {a p b c q:Nat} {r r' r'':Wt} {x y z:Pl} {n n' B:Nat} {L L':List UInt8} {T T':Mem} (h:WtT S a p b c q r r' x y n B L T) (g:WtT (S.set q (wtB a r')) a p b c q r' r'' y z n' B L' T'):WtT S a p b c q r r'' x z n' B L' T' :=
 ⟨by have:=g.s;rw [Mem.set_set] at this;exact this,h.st.trans (by rw [← h.nm];exact g.st),h.ot.trans (by rw [← h.nm];exact g.ot) h.st.l,g.nm.trans h.nm⟩
theorem WtT.mono {S:Mem} {a p b c q:Nat} {r r':Wt} {x y:Pl} {n n' B:Nat} {L:List UInt8} {T:Mem} (h:WtT S a p b c q r r' x y n B L T) (k:n≤n'):WtT S a p b c q r r' x y n' B L T:=⟨⟨h.s.ar,h.s.ow,h.s.ps.mono k,h.s.us,h.s.nb,h.s.at_,h.s.wr⟩,h.st,h.ot,h.nm⟩
theorem zjJ (S:Mem) (a p b c q:Nat) (r:Wt) (x:Pl) (n B:Nat) (L:List UInt8) (T:Mem) (h:WtS S a p b c q r x n B L T) :
  ACall Tryz.prog 97 #[self q] T fun v T'=>v = .tuple #[] ∧ ∃ y,WtT S a p b c q r { r with held:=0 } x y n B L T':=by
 have hq:=zaj h.ar h.ow
 unfold wtB at hq
 by_cases h0:0<r.held
 ·obtain ⟨y,e1,e2,e3,e4,e5,e6⟩:=zhC h.ps h0 h.us
  have hc:=zdj h.ar (fun k oE oW ok=>zhB a p b c x r.fr k S oE oW ok (zel h.ps))
  rw [e1] at hc
  have hnb:=h.nb
  rw [if_pos h0] at hnb
  refine k_E1 (rs:=[]) 19 Tryz.func97 rfl rfl rfl ?_
  refine r9_ ?_
  refine cT_ ?_
  refine s1_ ?_
  refine AWP.draw [(0,true),(1,true),(2,true),(3,true),(4,true),(5,true),(6,true),(7,true),(8,false)] [8] mixed (by kernel_rfl) ?_
  refine r8_ ?_
  refine zac rfl ?_
  refine ca_ rfl (hc) ?_
  rintro _ T1 ⟨rfl,h1⟩
  have o1:=zaj h1 h.ow
  unfold wtB at o1
  refine zae ⟨fun h=>absurd h (by decide),?_⟩
  refine r8_ ?_
  refine ⟨_,T1.set q (wtB a { r with held:=0 }),rfl,zad,?_⟩
  exact ⟨rfl,y,⟨zcL h1 h.ow _,Mem.own_set_same _ _ _,e2,e4,by rw [if_neg (Nat.lt_irrefl 0)];omega,h.at_,h.wr.stays e3⟩,Near.of e3 _,e5,rfl⟩
 ·have e0:r.held=0:=by omega
  have er:({ r with held:=0 }:Wt)=r:=by rw [← e0]
  refine k_E1 (rs:=[]) 19 Tryz.func97 rfl rfl rfl ?_
  refine r9_ ?_
  refine cF_ ?_
  refine s1_ ?_
  refine ⟨_,T,rfl,zad,?_⟩
  exact ⟨rfl,x,by rw [er];exact WtT.refl h⟩
end Sto
end
section
open Go.RowKit
open Mv Disk
set_option maxRecDepth 4000
namespace Sto
theorem zmU {S:Mem} {g c:Nat} {e:TypeId} {Y:List UInt8} (h:S.own g=some ⟨e,cellsB Y,c⟩) (o K:Nat):S.rds ⟨g,o,none⟩ (cellsB ((Y.drop o).take K)):=fun j v hj=>by
 rw [zaz,zdf h]
 unfold cellsB at hj ⊢
 rw [List.getElem?_map] at hj ⊢
 by_cases q:j<K
 ·rw [List.getElem?_take_of_lt q,List.getElem?_drop] at hj;exact hj
 ·rw [List.getElem?_eq_none (by rw [List.length_take];omega)] at hj;cases hj
theorem zpe {p q:Pl} {i a:Int} {u:ByteArray} (h:fillP p i a u=(q,0)):q=setP p i.toNat { atF p i.toNat with data:=fillS (atF p i.toNat).data a u,dirty:=true }:=by
 unfold fillP at h
 split at h
 ·exact (Prod.mk.inj h).1.symm
 ·rename_i hn;exact absurd (Prod.mk.inj h).2 hn
theorem WtT.pin {S:Mem} {a p b c q:Nat} {r r':Wt} {x z z2:Pl} {n B i k:Nat} {L:List UInt8} {Sa Sb:Mem} (hV:WtT S a p b c q r r' x z n B L Sa) (h2:ArS (S.set q (wtB a r')) a p b c z2 Sb) (e2:Ps z2 (n+1)) (e3:Stays z z2) (e4:Use z2 r.nm i k) (e5:Oth z z2 r.nm) (e7:nb z2.fr≤nb z.fr+1) (hk:0<k) (h0:r'.held=0) :
  WtT S a p b c q r { r' with fr:=i,held:=k } x z2 (n+1) B L (Sb.set q (wtB a { r' with fr:=i,held:=k })):=by
 have hn:=hV.nm
 have hb:=hV.s.nb
 rw [h0,if_neg (Nat.lt_irrefl 0)] at hb
 refine ⟨⟨by have:=zcL h2 (Mem.own_set_same _ _ _) (wtB a { r' with fr:=i,held:=k });rwa [Mem.set_set] at this,Mem.own_set_same _ _ _,e2,by show Use z2 r'.nm i k;rw [hn];exact e4,by show nb z2.fr≤B+if 0<k then 1 else 0;rw [if_pos hk];omega,hV.s.at_,by show Wrote z2 r'.nm L;exact hV.s.wr.stays e3⟩,hV.st.trans (Near.of e3 _),hV.ot.trans e5 hV.st.l,hn⟩
theorem WtT.fill {S:Mem} {a p b c q:Nat} {r r':Wt} {x z:Pl} {n B:Nat} {L:List UInt8} {Sa:Mem} (hV:WtT S a p b c q r r' x z n B L Sa) (hh:r'.held=1+r'.at_ / 64) (u:ByteArray) (hu:r'.at_ % 64+u.size≤64) (hk:1+r'.at_ / 64<ns x.d r.nm) :
  ∃ z2,∀ Sb,ArS (S.set q (wtB a r')) a p b c (setP z r'.fr { atF z r'.fr with data:=fillS (atF z r'.fr).data ((r'.at_ % 64:Nat):Int) u,dirty:=true }) Sb →
   WtT S a p b c q r { r' with at_:=r'.at_+u.size } x z2 n B (L ++ u.data.toList) (Sb.set q (wtB a { r' with at_:=r'.at_+u.size })):=by
 have h0:0<r'.held:=by omega
 have hn:=hV.nm
 have hat:=hV.s.at_
 obtain ⟨z2,g1,g2,g3,g4,g5,g6,g7,g8⟩:=zpc hV.s.ps h0 hV.s.us hu
 have hz:=zpe g1
 rw [Int.toNat_natCast] at hz
 refine ⟨z2,fun Sb hA=>?_⟩
 rw [← hz] at hA
 have hkz:1+r'.at_ / 64<ns z.d r.nm:=by rw [hV.st.n];exact hk
 rw [hn,hh] at g8
 have hb:=hV.s.nb
 refine ⟨⟨by have:=zcL hA (Mem.own_set_same _ _ _) (wtB a { r' with at_:=r'.at_+u.size });rwa [Mem.set_set] at this,Mem.own_set_same _ _ _,g2,g5,by show nb z2.fr≤B+if 0<r'.held then 1 else 0;rw [g7];exact hb,by show r'.at_+u.size=_;rw [List.length_append,hat,Array.length_toList];rfl,?_⟩,hV.st.trans ⟨g3,by rw [g4],by rw [g4],fun o=>by rw [g4],fun o k ho hk'=>by rw [g8 o k hk',if_neg (fun e=>ho e.1.symm)]⟩,hV.ot.trans (by rw [← hn];exact g6) hV.st.l,hn⟩
 show Wrote z2 r'.nm _
 rw [hn]
 have hw:=hV.s.wr
 rw [hn] at hw
 rw [hat] at g8 hkz hu
 exact hw.fill hV.s.ps (fun o=>by rw [g4]) hkz hu g8
structure RX where
  T:Mem
  y:Pl
  f:Nat
  hd:Nat
  k:Nat
  o:Nat
set_option maxHeartbeats 4000000 in
theorem zti (S:Mem) (a p b c q:Nat) (r:Wt) (x:Pl) (n B:Nat) (L Y:List UInt8) (g cc:Nat) (T:Mem) (h:WtS S a p b c q r x n B L T) (hg:Fresh T g) (hcc:Y.length≤cc) (hm:Y.length≤4096) (hat:r.at_+Y.length≤4294967296) (hk:1+(r.at_+Y.length-1) / 64<ns x.d r.nm) (hn:n+Y.length≤16384) (hB:B<x.fr.length) :
  ACall Tryz.prog 154 #[self q,.slice (some ⟨g,0,none⟩) Y.length cc] (T.set g ⟨5,cellsB Y,cc⟩) fun v T'=>v = .int .i64 0 ∧ ∃ y f hd M,Fresh M g∧T'=M.set g ⟨5,cellsB Y,cc⟩∧WtT S a p b c q r { r with at_:=r.at_+Y.length,fr:=f,held:=hd } x y (n+Y.length) B (L ++ Y) M:=by
 refine k_E2 (rs:=[.tmp 4]) 86 Tryz.func154 rfl rfl rfl ?_
 refine r7_ ?_
 refine AWP.loop (X:=RX) (fun X=>[(0,self q),(1,.slice (some ⟨g,X.o,none⟩) (Y.length-X.k) (cc-X.k))]) (fun X=>X.T.set g ⟨5,cellsB Y,cc⟩) (fun X=>WtT S a p b c q r { r with at_:=r.at_+X.k,fr:=X.f,held:=X.hd } x X.y (n+X.k) B (L ++ Y.take X.k) X.T∧Fresh X.T g∧X.k≤Y.length∧(X.k<Y.length→X.o=X.k)) (fun X=>Y.length-X.k) (⟨T,x,r.fr,r.held,0,0⟩) ⟨rfl,rfl,trivial⟩ (Mem.Less.refl _) (⟨by rw [List.take_zero,List.append_nil];exact WtT.refl h,hg,Nat.zero_le _,fun _=>rfl⟩) ?_
 rintro ⟨M,y,f,hd,k,o⟩ ⟨hT,hf,hkm,hko⟩
 (try dsimp only at *)
 replace hT:WtT S a p b c q r { r with at_:=r.at_+k,fr:=f,held:=hd } x y (n+k) B (L ++ Y.take k) M:=hT
 replace hf:Fresh M g:=hf
 replace hkm:k≤Y.length:=hkm
 by_cases q1:k<Y.length
 ·obtain rfl:=hko q1
  have hs:1+(r.at_+o) / 64<ns x.d r.nm:=by omega
  have hq0:=zaj hT.s.ar hT.s.ow
  (unfold wtB at hq0;dsimp only at hq0)
  have hgq:q≠g:=fun e=>by rw [e,hf.1] at hq0;cases hq0
  have o0:=(Mem.own_set_other M ⟨5,cellsB Y,cc⟩ hgq).trans hq0
  refine r8_ ?_
  refine cT_ ?_
  refine r25_ ?_
  refine AWP.join (X:=Mem × Pl × Nat) (fun X=>[(0,self q),(1,.slice (some ⟨g,o,none⟩) (Y.length-o) (cc-o))]) (fun X=>X.1.set g ⟨5,cellsB Y,cc⟩) (fun X=>WtT S a p b c q r { r with at_:=r.at_+o,fr:=X.2.2,held:=1+(r.at_+o) / 64 } x X.2.1 (n+o+1) B (L ++ Y.take o) X.1∧Fresh X.1 g) ?_ ?_
  ·by_cases q2:1+(r.at_+o) / 64=hd
   ·subst q2
    refine cF_ ?_
    refine s1_ ?_
    refine ⟨(M,y,f),?_,?_,?_⟩
    all_goals (try dsimp only)
    ·exact ⟨hT.mono (Nat.le_succ _),hf⟩
    ·exact ⟨rfl,rfl,trivial⟩
    ·exact Mem.Less.refl _
   ·have hcl:=(zjJ (S.set q (wtB a { r with at_:=r.at_+o,fr:=f,held:=hd })) a p b c q _ y (n+o) B _ M hT.s).frame (r:=⟨5,cellsB Y,cc⟩) hf
    refine cT_ ?_
    refine r3_ ?_
    refine ca_ rfl (hcl) ?_
    rintro _ S1 ⟨Sa,⟨rfl,z,hU⟩,hfa,h1⟩
    rw [h1];clear h1 S1
    have hV:WtT S a p b c q r { r with at_:=r.at_+o,fr:=f,held:=0 } x z (n+o) B (L ++ Y.take o) Sa:=hT.trans hU
    have hq1:=zaj hV.s.ar hV.s.ow
    (unfold wtB at hq1;dsimp only at hq1)
    have o1:=(Mem.own_set_other Sa ⟨5,cellsB Y,cc⟩ hgq).trans hq1
    have hnb1:=hV.s.nb
    rw [if_neg (Nat.lt_irrefl 0)] at hnb1
    obtain ⟨z2,i,e1,e2,e3,e4,e5,e6,e7⟩:=zmR hV.s.ps (by omega) (by rw [hV.st.l];omega) (s:=r.nm) (k:=1+(r.at_+o) / 64) (by rw [hV.st.n];exact hs) (by omega) hV.s.us
    have hp:=(zdj hV.s.ar (fun k oE oW ok=>zmN a p b c z r.nm ((1+(r.at_+o) / 64:Nat):Int) k _ oE oW ok (zel hV.s.ps))).frame (r:=⟨5,cellsB Y,cc⟩) hfa
    rw [e1] at hp
    refine r3_ ?_
    refine AWP.draw [(0,true),(1,true),(2,true),(3,true),(4,true),(5,true),(6,true),(7,true),(8,true),(9,false),(10,true),(11,true),(12,true),(13,true),(14,true)] [9] mixed (by kernel_rfl) ?_
    refine r9_ ?_
    refine zac rfl ?_
    refine ca_ rfl (hp) ?_
    rintro _ S1 ⟨Sb,⟨rfl,h2⟩,hfb,h1⟩
    rw [h1];clear h1 S1
    have hq2:=zaj h2 (Mem.own_set_same _ _ _)
    (unfold wtB at hq2;dsimp only at hq2)
    have o2:=(Mem.own_set_other Sb ⟨5,cellsB Y,cc⟩ hgq).trans hq2
    refine zae ⟨fun h=>absurd h (by decide),?_⟩
    refine r7_ ?_
    refine k_v7 0 1 12 5 24 6 7 ?_
    refine r7_ ?_
    refine cF_ ?_
    refine r14_ ?_
    refine ⟨(Sb.set q (wtB a { r with at_:=r.at_+o,fr:=i,held:=1+(r.at_+o) / 64 }),z2,i),?_,?_,?_⟩
    all_goals (try dsimp only)
    ·exact ⟨hV.pin h2 e2 e3 e4 e5 e7 (by omega) rfl,zal hfb (Ne.symm hgq)⟩
    ·exact ⟨rfl,rfl,trivial⟩
    ·(rw [Mem.set_comm _ _ _ hgq];unfold wtB;dsimp only;exact Mem.Less.refl _)
  rintro ⟨Sa,z,f'⟩ ⟨hV,hfa⟩
  intro _ _ hs_ hl_
  (try dsimp only at *)
  refine za1 ?_
  refine AWP.sub _ hs_ (AWP.less _ hl_ ?_)
  clear hs_ hl_
  replace hV:WtT S a p b c q r { r with at_:=r.at_+o,fr:=f',held:=1+(r.at_+o) / 64 } x z (n+o+1) B (L ++ Y.take o) Sa:=hV
  replace hfa:Fresh Sa g:=hfa
  have hq1:=zaj hV.s.ar hV.s.ow
  (unfold wtB at hq1;dsimp only at hq1)
  have o1:=(Mem.own_set_other Sa ⟨5,cellsB Y,cc⟩ hgq).trans hq1
  refine r16_ ?_
  refine rC (Calm.minN (a:=Y.length-o) (b:=64-(r.at_+o) % 64) rfl rfl (by omega) (by omega)) ?_
  have hK1:min (Y.length-o) (64-(r.at_+o) % 64)≤Y.length-o:=Nat.min_le_left _ _
  have hK2:min (Y.length-o) (64-(r.at_+o) % 64)≤64-(r.at_+o) % 64:=Nat.min_le_right _ _
  have hK0:0<min (Y.length-o) (64-(r.at_+o) % 64):=Nat.lt_min.2 ⟨by omega,by omega⟩
  generalize min (Y.length-o) (64-(r.at_+o) % 64)=K at *
  have hKl:((Y.drop o).take K).length=K:=by rw [List.length_take,List.length_drop];omega
  have hKs:(bs ((Y.drop o).take K)).size=K:=by rw [zaD];exact hKl
  obtain ⟨hfz,hfi⟩:=hV.s.us.at_ (Nat.add_comm _ 1 ▸ Nat.succ_pos _)
  obtain ⟨z2,hF⟩:=hV.fill rfl (bs ((Y.drop o).take K)) (by rw [hKs];show (r.at_+o) % 64+K≤64;omega) hs
  have hfl:=(zdj hV.s.ar (fun k oE oW ok=>zo_ a p b c z f' (((r.at_+o) % 64:Nat):Int) (bs ((Y.drop o).take K)) k _ oE oW ok (zel hV.s.ps) hfz (zbT (hV.s.ps.ok _ hfz) (zan.1 hfi).1).z (by omega) (by rw [hKs];omega))).frame (r:=⟨5,cellsB Y,cc⟩) hfa
  refine r4_ ?_
  refine AWP.draw [(0,true),(1,true),(2,true),(3,true),(4,true),(5,true),(6,true),(7,true),(8,true),(9,true),(10,true),(11,true),(12,true),(13,false)] [13] mixed (by kernel_rfl) ?_
  refine r11_ ?_
  refine dP (hc:=fun _=>Calm.sliceHi K Tryz.underlying52 zb1 rfl rfl (by omega) (by omega)) (h:=?_)
  refine dC (hc:=Calm.toStr zaM zaA rfl hKl (zmU (Mem.own_set_same _ _ _) o K)) (h:=?_)
  refine zac rfl ?_
  refine ca_ rfl (hfl) ?_
  rintro _ S1 ⟨Sb,⟨rfl,h2⟩,hfb,h1⟩
  rw [h1];clear h1 S1
  have hq2:=zaj h2 (Mem.own_set_same _ _ _)
  (unfold wtB at hq2;dsimp only at hq2)
  have o2:=(Mem.own_set_other Sb ⟨5,cellsB Y,cc⟩ hgq).trans hq2
  have hW:=hF Sb h2
  rw [hKs,bs_data,List.append_assoc,show Y.take o ++ (Y.drop o).take K=Y.take (o+K) from (List.take_add ..).symm] at hW
  refine zae ⟨fun h=>absurd h (by decide),?_⟩
  refine r15_ ?_
  refine k_v4 0 1 8 9 ?_
  refine r3_ ?_
  refine rC (Calm.sliceSl Tryz.underlying52 zb1 rfl (za4 (cc-o) (cc-o)) (by simp) (za4 (Y.length-o) (cc-o)) (l:=K) ⟨_,_,rfl,by omega,by omega,by omega⟩) ?_
  refine r4_ ?_
  refine ⟨⟨Sb.set q (wtB a { r with at_:=r.at_+o+K,fr:=f',held:=1+(r.at_+o) / 64 }),z2,f',1+(r.at_+o) / 64,o+K,if cc-o=K then o else o+K*1⟩,?_,?_,?_,?_⟩
  all_goals (try dsimp only)
  ·(refine ⟨rfl,?_,trivial⟩;rw [Nat.sub_add_eq,Nat.sub_add_eq];rfl)
  ·(rw [Mem.set_comm _ _ _ hgq];unfold wtB;dsimp only;rw [show ((r.at_+o+K:Nat):Int)=((r.at_+o:Nat):Int)+(K:Int) from by omega];exact Mem.Less.refl _)
  ·exact ⟨by rw [← Nat.add_assoc r.at_];exact hW.mono (by omega),zal hfb (Ne.symm hgq),by omega,fun hlt=>by rw [if_neg (by omega)];omega⟩
  ·omega
 ·obtain rfl:k=Y.length:=by omega
  rw [List.take_length] at hT
  refine r8_ ?_
  refine cF_ ?_
  refine r11_ ?_
  refine ⟨_,_,⟨_,_,rfl,rfl,rfl⟩,Mem.Less.refl _,?_⟩
  exact ⟨rfl,y,f,hd,M,hf,rfl,hT⟩
end Sto
end
section
open Go.RowKit
open Mv Disk Num
set_option maxRecDepth 4000
namespace Sto
theorem WtT.count {S:Mem} {a p b c q:Nat} {r:Wt} {x:Pl} {n B:Nat} {L:List UInt8} {T:Mem} (h:WtS S a p b c q r x n B L T) (k:Nat):WtT S a p b c q r { r with ct:=k } x x n B L (T.set q (wtB a { r with ct:=k })) :=
 ⟨⟨zcL h.ar h.ow _,Mem.own_set_same _ _ _,h.ps,h.us,h.nb,h.at_,h.wr⟩,Near.of (Stays.refl _) _,Oth.refl _ _,rfl⟩
set_option maxHeartbeats 4000000 in
theorem zqq (S:Mem) (a p b c q:Nat) (r:Wt) (x:Pl) (n B:Nat) (L:List UInt8) (v:Value) (xs:List Nat) (T:Mem) (h:WtS S a p b c q r x n B L T) (hv:RowR T v xs) (h1:1≤xs.length) (h8:xs.length≤8) (hb:∀ x ∈ xs,x<18446744073709551616) (hct:r.ct≤4294967296) (hat:r.at_+5*xs.length≤4294967296) (hk:1+(r.at_+5*xs.length-1) / 64<ns x.d r.nm) (hn:n+5*xs.length≤16384) (hB:B<x.fr.length) :
  ACall Tryz.prog 105 #[self q,v] T fun rv T'=>rv = .int .i64 0 ∧ ∃ y f hd,WtT S a p b c q r { r with ct:=r.ct+1,at_:=r.at_+5*xs.length,fr:=f,held:=hd } x y (n+5*xs.length) B (L ++ recB xs) T':=by
 obtain ⟨pa,cap,rfl,hlc,hcap,hkk⟩:=id hv
 obtain ⟨b0,off,rfl,hkn⟩:=hkk.resolve_left (by intro h;rw [h] at h1;simp at h1)
 have hC:=WtT.count h (r.ct+1)
 have hq:=zaj h.ar h.ow
 unfold wtB at hq
 refine k_E2 (rs:=[.tmp 4]) 35 Tryz.func105 rfl rfl rfl ?_
 refine r10_ ?_
 refine ARun.makeSliceP (zab rfl) zaE rfl rfl (by omega) (by omega) (by omega) (by omega) ?_
 intro b12 f12
 have g12:=f12
 repeat ((with_reducible replace g12:=zaa g12);obtain ⟨g12,_⟩:=g12)
 have:=g12.ne hq;have:=g12.ne' hq
 refine r3_ ?_
 have em:(5*(xs.length:Int)).toNat=5*xs.length:=by omega
 simp only [em,Nat.mul_one,za8,Int.toNat_zero,List.replicate_zero]
 refine r9_ ?_
 refine AWP.loop (X:=Nat × Option (Nat × Nat)) (fun x=>[(0,self q),(5,outV x.2 (5*x.1)),(13,.slice (some ⟨b0,off,none⟩) xs.length cap),(14,.int .i64 xs.length),(15,.int .i64 x.1)]) (fun x=>outM T x.2 5 (cellsB (recB (xs.take x.1)))) (fun x=>x.1≤xs.length∧OkO T x.2 (5*x.1)) (fun x=>xs.length-x.1) ((0,some (b12,5*xs.length))) ⟨rfl,rfl,rfl,rfl,rfl,trivial⟩ (Mem.Less.refl _) (⟨Nat.zero_le _,zbS g12 (Nat.zero_le _)⟩) ?_
 rintro ⟨k,o⟩ ⟨hk1,ho⟩
 (try dsimp only at *)
 refine r6_ ?_
 refine AWP.condB rfl (fun hl=>?_) (fun hl=>?_)
 ·have hl:k<xs.length:=by have:=of_decide_eq_true hl;omega
  have hkk:=(hkn k hl).less (zbu (e:=5) (cs:=cellsB (recB (xs.take k))) ho)
  have hlen:(cellsB (recB (xs.take k))).length=5*k:=by rw [zav,zaO,List.length_take];omega
  have hx5:=zcC xs[k]
  refine r14_ ?_
  refine ca_ rfl (zfb xs[k] _ (hb _ (List.getElem_mem _))) ?_
  rintro _ S1 ⟨rfl,h1⟩
  rw [h1];clear h1 S1
  refine ARun.alloc (zab rfl) zc5 ?_
  intro b8 f8
  have g8:=f8
  repeat ((with_reducible replace g8:=zaa g8);obtain ⟨g8,_⟩:=g8)
  refine nl_ ?_
  refine r6_ ?_
  refine ARun.appendO (zab rfl) zaE rfl hlen (zd4 ho hlen g8) rfl (news:=cellsB (five xs[k])) rds_ rfl (by omega) (zfP _) (by omega) (by omega) ?_
  intro b34 c34 ho2
  rw [← zcD,← zhj,← List.take_succ_eq_append_getElem hl]
  refine r9_ ?_
  refine ⟨(k+1,some (b34,c34)),?_,?_,?_,?_⟩
  all_goals (try dsimp only)
  ·exact ⟨rfl,rfl,rfl,rfl,zai (by omega),trivial⟩
  ·exact Mem.Less.refl _
  ·exact ⟨hl,ho2⟩
  ·omega
 ·have hl:k=xs.length:=by have:=of_decide_eq_false hl;omega
  subst hl
  rw [List.take_length]
  obtain ⟨bo,co,rfl⟩:=ho.some (by omega)
  obtain ⟨hfo,hco⟩:=ho.own bo co rfl
  have hqo:q≠bo:=hfo.ne hq
  have hraw:=zti (S.set q (wtB a { r with ct:=r.ct+1 })) a p b c q _ x n B L (recB xs) bo co _ hC.s (zal hfo (Ne.symm hqo)) (by rw [zaO];exact hco) (by rw [zaO];omega) (by rw [zaO];exact hat) (by rw [zaO];exact hk) (by rw [zaO];exact hn) hB
  rw [zaO] at hraw
  have o1:(outM T (some (bo,co)) 5 (cellsB (recB xs))).own q=_:=(Mem.own_set_other _ _ hqo).trans hq
  refine r14_ ?_
  refine ARun.store1 rfl rfl zah rfl o1 (show (3:Nat)<7 by decide) rfl ?_
  try simp only [k_ms,k_sz,k_ss,k_za,Nat.reduceAdd]
  refine r2_ ?_
  refine k_v6 0 5 13 14 15 16 ?_
  have eM:(outM T (some (bo,co)) 5 (cellsB (recB xs))).set q (wtB a { r with ct:=r.ct+1 })=(T.set q (wtB a { r with ct:=r.ct+1 })).set bo ⟨5,cellsB (recB xs),co⟩:=(Mem.set_comm _ _ _ hqo).symm
  rw [← eM] at hraw
  refine r4_ ?_
  refine ca_ rfl (hraw) ?_
  rintro _ S1 ⟨rfl,y,f,hd,M,hfM,h1,hT⟩
  rw [h1];clear h1 S1
  refine r4_ ?_
  refine ⟨_,M,⟨_,_,rfl,rfl,rfl⟩,Mem.less_set _ _ _ hfM.1,?_⟩
  exact ⟨rfl,y,f,hd,hC.trans hT⟩
end Sto
end
section
open Go.RowKit
open Mv Disk Num
set_option maxRecDepth 4000
namespace Sto
theorem Use.alike {x y:Pl} {s:ByteArray} {fr held:Nat} (h:Use x s fr held) (g:Alike x y) (hl:y.fr.length=x.fr.length):Use y s fr held where
 pins:=fun i hi hh hn=>by
  obtain ⟨a1,a2,a3,a4,a5⟩:=g i (by omega)
  unfold Fr.holds at hh
  rw [a1] at hh hn
  rw [a3];exact h.pins i (by omega) hh hn
 at_:=fun h0=>by
  obtain ⟨h1,h2⟩:=h.at_ h0
  obtain ⟨a1,a2,a3,a4,a5⟩:=g fr h1
  obtain ⟨b1,b2,b3⟩:=zan.1 h2
  exact ⟨by omega,zan.2 ⟨by unfold Fr.holds;rw [a1];exact b1,by rw [a2];exact b2,by rw [a1];exact b3⟩⟩
 z0:=fun i hi=>zbz fun e=>by
  obtain ⟨a1,a2,a3,a4,a5⟩:=g i (by omega)
  obtain ⟨b1,b2,b3⟩:=zan.1 e
  unfold Fr.holds at b1
  rw [a1] at b1 b3
  rw [a2] at b2
  have:=h.z0 i (by omega)
  rw [zan.2 ⟨b1,b2,b3⟩] at this
  cases this
theorem nb_le {p q:Pl} (hl:q.fr.length=p.fr.length) (h:∀ j,j<p.fr.length→(atF p j).idle→(atF q j).idle):nb q.fr≤nb p.fr:=by
 have e:∀ r:Pl,nb r.fr=(List.range r.fr.length).countP (fun j=>!decide (atF r j).idle):=fun r=>by
  unfold nb
  conv=>lhs;rw [show r.fr=(List.range r.fr.length).map (fun j=>atF r j) from List.ext_getElem (by simp) fun i h1 h2=>by simp [zaP h1]]
  rw [List.countP_map];rfl
 rw [e q,e p,hl]
 refine List.countP_mono_left fun j hj hq=>?_
 have:=h j (List.mem_range.1 hj)
 simp only [Bool.not_eq_true',decide_eq_false_iff_not] at hq ⊢
 exact fun e=>hq (this e)
theorem zpf {y:Pl} {s:ByteArray} (h:∀ i,i<y.fr.length→(atF y i).holds→(atF y i).name≠s):Use y s 0 0 :=
 ⟨fun i hi hh hn=>absurd hn (h i hi hh),fun h=>absurd h (Nat.lt_irrefl 0),fun i hi=>zbz fun e=>h i hi (zan.1 e).1 (zan.1 e).2.2⟩
structure Sealed (x y:Pl) (s:ByteArray) (w ct B:Nat) (L:List UInt8):Prop where
  ps:Ps y 0
  st:Near x y s
  us:∀ o fr held,o≠s→Use x o fr held→Use y o fr held
  uo:Use y s 0 0
  hd:vw y s ((0:Nat):Int)=Rec.headS w ct
  wr:Wrote y s L
  cl:∀ j,j<y.fr.length→(atF y j).dirty=false
  nb:nb y.fr≤B
theorem zrw {x1 x2:Pl} {n B fr w ct:Nat} {s:ByteArray} {L:List UInt8} (p1:Ps x1 n) (u1:Use x1 s fr 0) (n1:nb x1.fr≤B) (w1:Wrote x1 s L) (hk:0<ns x1.d s)
  (e2:Ps x2 0) (e3:Stays x1 x2) (e4:Alike x1 x2) (e5:∀ j,j<x1.fr.length→(atF x2 j).dirty=false) :
  ∃ d',writeD x2.d s ((0:Nat):Int) (Rec.headS w ct)=(d',0)∧Right d' ∧ ∀ k,PW { x2 with d:=settleD d' fun _=>true,writes:=k } ∧ ∃ y,dropP { x2 with d:=settleD d' fun _=>true,writes:=k } s=(y,0)∧Sealed x1 y s w ct B L:=by
 have u2:=u1.alike e4 e3.l
 obtain ⟨d',h1,h2,h3,h4,h5,h6⟩:=zo6 e2 (by decide) (s:=s) (u:=Rec.headS w ct) (k:=0) (by rw [e3.n];exact hk) (Top.zhx w ct) u2.z0
 obtain ⟨g1,g2⟩:=zmG h2
 refine ⟨d',h1,h2.d.r,fun k=>?_⟩
 obtain ⟨x3,hx3⟩ : ∃ x3:Pl,x3 = { x2 with d:=settleD d' fun _=>true,writes:=k }:=⟨_,rfl⟩
 rw [← hx3]
 have a3:∀ j,atF x3 j=atF x2 j:=fun j=>by rw [hx3];rfl
 have l3:x3.fr.length=x1.fr.length:=by rw [hx3];exact e3.l
 have p3:Ps x3 0:=by rw [hx3];exact ⟨g1.d,g1.ok,g1.ap,g1.l1,g1.l2⟩
 have v3:∀ o (j:Nat),j<ns x1.d o→vw x3 o (j:Int)=if s=o∧0=j then Rec.headS w ct else vw x2 o (j:Int):=fun o j hj=>by
  rw [← e3.n] at hj
  rw [hx3]
  exact (g2.v o j (by show j<ns d' o;rw [h5];exact hj)).trans (h6 o j hj)
 have n3:∀ o,ns x3.d o=ns x1.d o:=fun o=>by rw [hx3];exact (g2.n o).trans ((h5 o).trans (e3.n o))
 have hdr:∀ i,i<x3.fr.length→ofN s (atF x3 i)=true→(atF x3 i).pins=0∧(atF x3 i).dirty=false:=fun i hi ho=>by
  have ho:(atF x2 i).holds∧(atF x2 i).name=s:=by rw [a3] at ho;unfold ofN at ho;exact of_decide_eq_true ho
  rw [a3]
  refine ⟨?_,e5 i (by omega)⟩
  rw [u2.pins i (by rw [e3.l];omega) ho.1 ho.2,if_neg (fun h=>absurd h.1 (Nat.lt_irrefl 0))]
 obtain ⟨y,k1,k2,k3,k4,k5⟩:=zmH p3 hdr
 have ly:y.fr.length=x1.fr.length:=k3.l.trans l3
 have hof:∀ j,ofN s (atF x3 j)=true→(atF x3 j).name=s:=fun j ho=>by unfold ofN at ho;exact (of_decide_eq_true ho).2
 refine ⟨zel p3,y,k1,k2,⟨ly,k3.z.trans (by rw [hx3];exact g2.z.trans (h3.trans e3.z)),k3.u.trans (by rw [hx3];exact g2.u.trans (h4.trans e3.u)),fun o=>(k3.n o).trans (n3 o),fun o j ho hj=>?_⟩,fun o f hl ho hu=>?_,zpf fun i hi hh hn=>?_,?_,fun j hj=>?_,fun j hj=>?_,?_⟩
 ·rw [k3.v o j (by rw [n3];exact hj),v3 o j hj,if_neg (fun h=>ho h.1.symm),e3.v o j hj]
 ·have hu:=hu.alike e4 e3.l
  have key:∀ j,j<y.fr.length→(atF y j).holds→(atF y j).name=o→atF y j=atF x2 j:=fun j hj hh hn=>by
   rw [k5 j (by omega)] at hh hn ⊢
   by_cases q:ofN s (atF x3 j)=true
   ·rw [if_pos q] at hh;exact absurd hh n0
   ·rw [if_neg q,a3]
  refine ⟨fun i hi hh hn=>?_,fun h0=>?_,fun i hi=>zbz fun e=>?_⟩
  ·have e:=key i hi hh hn
   rw [e] at hh hn ⊢
   exact hu.pins i (by rw [e3.l];omega) hh hn
  ·obtain ⟨b1,b2⟩:=hu.at_ h0
   have q : ¬ ofN s (atF x3 f)=true:=fun q=>ho (by have:=hof f q;rw [a3] at this;exact (zan.1 b2).2.2.symm.trans this)
   exact ⟨by rw [ly,← e3.l];exact b1,by rw [k5 f (by rw [l3,← e3.l];exact b1),if_neg q,a3];exact b2⟩
  ·obtain ⟨b1,b2,b3⟩:=zan.1 e
   rw [key i hi b1 b3,hu.z0 i (by rw [e3.l];omega)] at e
   cases e
 ·rw [k5 i (by omega)] at hh hn
  by_cases q:ofN s (atF x3 i)=true
  ·rw [if_pos q] at hh;exact n0 hh
  ·rw [if_neg q] at hh hn
   exact q (by unfold ofN;exact decide_eq_true ⟨hh,hn⟩)
 ·rw [k3.v s 0 (by rw [n3];exact hk),v3 s 0 hk,if_pos ⟨rfl,rfl⟩]
 ·have hj3:1+j / 64<ns x1.d s:=by rw [k3.n,n3] at hj;exact hj
  rw [← (w1.stays e3) j (by rw [e3.n];exact hj3)]
  unfold byt
  rw [k3.v s _ (by rw [n3];exact hj3),v3 s _ hj3,if_neg (fun h=>by omega)]
 ·rw [k5 j (by omega)]
  split
  ·rfl
  ·rw [a3];exact e5 j (by omega)
 ·have:=nb_le (p:=x3) (q:=y) k3.l (fun j hj hid=>by
   rw [k5 j hj]
   split
   ·exact .inl rfl
   ·exact hid)
  have e6:=zo5 e4 e3.l p1 e2
  have e7:nb x3.fr=nb x2.fr:=by rw [hx3]
  omega
theorem zcd {S T:Mem} {a p b c:Nat} {x:Pl} (h:ArS S a p b c x T):∃ k,T.own a=some (arB p b c x k):=by
 obtain ⟨k,oE,oW,ok,rfl⟩:=h
 exact ⟨k,za3⟩
theorem ztj {S T:Mem} {a p b c:Nat} {x:Pl} (h:ArS S a p b c x T) {r:Nat} {k:Blk} (hr:S.own r=some k):r≠a:=by
 obtain ⟨_,oE,oW,ok,rfl⟩:=h
 exact (zek ok hr).a
theorem zqr {S T:Mem} {a p b c:Nat} {x:Pl} (h:ArS S a p b c x T) {x':Pl} (hd:x'.d=x.d) (hf:x'.fr=x.fr) (k:Int):ArS S a p b c x' (T.set a (arB p b c x' k)):=by
 obtain ⟨i,oE,oW,ok,rfl⟩:=h
 refine ⟨k,oE,oW,ok.like hd (by rw [hf]),?_⟩
 rw [zej hf,hd]
theorem zmV {S T:Mem} {a p b c:Nat} {x:Pl} {d':D} {v:Value} (h:ArS S a p b c x T) {f:FuncId} {args:Array Value}
  (hc:∀ oE oW,OkV S p x.d oE oW→ACall Tryz.prog f args (devM S p x.d oE oW) fun r S'=>∃ oE' oW',OkV S p d' oE' oW'∧r=v∧S'=devM S p d' oE' oW') :
  ACall Tryz.prog f args T fun r S'=>r=v∧ArS S a p b c { x with d:=d' } S':=by
 obtain ⟨k,oE,oW,ok,rfl⟩:=h
 refine (zgD ok k (hc oE oW ok.v)).mono fun r S' ⟨M,⟨oE2,oW2,ok2,hr,hM⟩,fb,fa,e⟩=>?_
 subst hM
 exact ⟨hr,k,oE2,oW2,⟨ok2,fb,fa,ok.ab,ok.l⟩,e⟩
set_option maxHeartbeats 4000000 in
theorem ziQ (S:Mem) (a p b c q:Nat) (r:Wt) (x:Pl) (n B:Nat) (L:List UInt8) (T:Mem) (h:WtS S a p b c q r x n B L T) (hw:1≤r.w) (hw8:r.w≤8) (hct:r.ct<18446744073709551616) (hn:n+x.fr.length≤16384) (hk:0<ns x.d r.nm) :
  ACall Tryz.prog 52 #[self q] T fun v T'=>v = .int .i64 0 ∧ ∃ y,ArS (S.set q (wtB a { r with held:=0 })) a p b c y T'∧Sealed x y r.nm r.w r.ct B L:=by
 have hq:=zaj h.ar h.ow
 unfold wtB at hq
 have hcl:=zjJ S a p b c q r x n B L T h
 refine k_E1 (rs:=[.tmp 2]) 78 Tryz.func52 rfl rfl rfl ?_
 refine r8_ ?_
 refine ca_ rfl (hcl) ?_
 rintro _ T1 ⟨rfl,x1,hT⟩
 have o1:=zaj hT.s.ar hT.s.ow
 (unfold wtB at o1;dsimp only at o1)
 have hl1:x1.fr.length=x.fr.length:=hT.st.l
 have hnb1:=hT.s.nb
 rw [if_neg (Nat.lt_irrefl 0)] at hnb1
 obtain ⟨x2,e1,e2,e3,e4,e5⟩:=zo4 hT.s.ps (by rw [hl1];exact hn)
 have hfl:=zdj hT.s.ar (fun k oE oW ok=>zmP a p b c x1 k _ oE oW ok (zel hT.s.ps))
 rw [e1] at hfl
 obtain ⟨d',w1,w2,w3⟩:=zrw (w:=r.w) (ct:=r.ct) hT.s.ps hT.s.us hnb1 hT.s.wr (by rw [hT.st.n];exact hk) e2 e3 e4 e5
 refine r21_ ?_
 refine cF_ ?_
 refine r9_ ?_
 refine ca_ rfl (hfl) ?_
 rintro _ T2 ⟨rfl,h2⟩
 have o2:=zaj h2 hT.s.ow
 (unfold wtB at o2;dsimp only at o2)
 obtain ⟨i2,hA2⟩:=zcd h2
 unfold arB at hA2
 have hwr:=zmV (v:=.int .i64 0) h2 (fun oE oW ok=>by have:=zdJ p x2.d r.nm ((0:Nat):Int) (Rec.headS r.w r.ct) _ oE oW ok e2.d.r (by rw [e2.d.f];decide);rw [w1] at this;exact this)
 refine r9_ ?_
 refine k_v6 0 2 3 16 4 28 ?_
 refine cF_ ?_
 refine r4_ ?_
 refine AWP.draw [(0,true),(1,true),(2,true),(3,true),(4,true),(5,true),(6,true),(7,true),(8,true),(9,true),(10,true),(11,true),(12,true),(13,true),(14,true),(15,true),(16,false),(17,false),(18,true)] [17] mixed (by kernel_rfl) ?_
 refine r16_ ?_
 refine zac rfl ?_
 refine ca_ rfl (Rec.zfR r.w r.ct _ hw8 hct) ?_
 rintro _ S1 ⟨rfl,h1⟩
 rw [h1];clear h1 S1
 refine zae ⟨fun _=>zad,?_⟩
 refine zac rfl ?_
 refine ca_ rfl (hwr) ?_
 rintro _ T3 ⟨rfl,h3⟩
 have o3:=zaj h3 hT.s.ow
 (unfold wtB at o3;dsimp only at o3)
 obtain ⟨i3,hA3⟩:=zcd h3
 unfold arB at hA3
 dsimp only at hA3
 have hqa:=ztj h3 hT.s.ow
 refine zae ⟨fun h=>absurd h (by decide),?_⟩
 refine r9_ ?_
 refine cF_ ?_
 refine r17_ ?_
 have h4:=zqr h3 (x':={ x2 with d:=d',writes:=up1 x2.writes }) rfl rfl i3
 have hsy:=zmV (d':=settleD d' fun _=>true) (v:=.tuple #[]) h4 (fun oE oW ok=>zeE p d' _ oE oW ok w2)
 (unfold arB up1 at hsy;dsimp only at hsy)
 refine r9_ ?_
 refine ca_ rfl (hsy) ?_
 rintro _ T4 ⟨rfl,h5⟩
 have o5:=zaj h5 hT.s.ow
 (unfold wtB at o5;dsimp only at o5)
 obtain ⟨hpw,y,k1,hS⟩:=w3 (up1 x2.writes)
 have hdp:=zdj h5 (fun k oE oW ok=>zjH a p b c { x2 with d:=settleD d' fun _=>true,writes:=up1 x2.writes } r.nm k _ oE oW ok hpw)
 rw [k1] at hdp
 refine r3_ ?_
 refine AWP.draw [(0,true),(1,true),(2,true),(3,true),(4,true),(5,true),(6,true),(7,true),(8,false),(9,true)] [8] mixed (by kernel_rfl) ?_
 refine r8_ ?_
 refine zac rfl ?_
 refine ca_ rfl (hdp) ?_
 rintro _ T5 ⟨rfl,h6⟩
 refine zae ⟨fun h=>absurd h (by decide),?_⟩
 refine r3_ ?_
 refine k_v8 0 2 3 16 4 28 5 49 ?_
 refine s1_ ?_
 refine ⟨_,T5,⟨_,_,rfl,rfl,rfl⟩,Mem.Less.refl _,?_⟩
 exact ⟨rfl,y,h6,hS.ps,hT.st.trans hS.st,fun o f hl ho hu=>hS.us o f hl ho (hu.oth hT.ot ho hT.st.l),hS.uo,hS.hd,hS.wr,hS.cl,hS.nb⟩
structure Made (x y:Pl) (s:ByteArray) (m:Nat):Prop where
  fr:y.fr=x.fr
  z:y.d.size=x.d.size
  u:used y.d.ext=used x.d.ext+m
  n:∀ o,ns y.d o=if s=o then m else ns x.d o
  v:∀ o (j:Nat),j<ns x.d o→vw y o (j:Int)=vw x o (j:Int)
theorem ztk {S T:Mem} {a p b c q:Nat} {x:Pl} {d':D} {s:ByteArray} {w m n B:Nat} (hp:Ps x n) (h0:ns x.d s=0) (hB:nb x.fr≤B) (g2:Ps { x with d:=d' } n) (g3:d'.size=x.d.size) (g4:used d'.ext=used x.d.ext+m) (g5:∀ o,ns d' o=if s=o then m else ns x.d o)
  (g6:∀ j:Nat,j<m→vw { x with d:=d' } s (j:Int)=zs) (g7:∀ o (j:Nat),j<ns x.d o→vw { x with d:=d' } o (j:Int)=vw x o (j:Int)) (h:ArS S a p b c { x with d:=d' } T) (hq:Fresh T q) :
  Fresh S q∧WtS (S.set q (wtB a ⟨s,w,0,0,0,0⟩)) a p b c q ⟨s,w,0,0,0,0⟩ { x with d:=d' } n B [] (T.set q (wtB a ⟨s,w,0,0,0,0⟩))∧Made x { x with d:=d' } s m:=by
 obtain ⟨k1,k2⟩:=zdU h hq (wtB a ⟨s,w,0,0,0,0⟩)
 have hno:∀ i,i<x.fr.length→(atF x i).holds→(atF x i).name≠s:=fun i hi hh e=>by
  have hx:=zbT (hp.ok i hi) hh
  have a1:=hx.s0
  have a2:=hx.s1
  rw [e,h0] at a2
  omega
 refine ⟨k1,⟨k2,Mem.own_set_same _ _ _,g2,⟨fun i hi hh hn=>absurd hn (hno i hi hh),fun h=>absurd h (Nat.lt_irrefl 0),fun i hi=>zbz fun e=>hno i hi (zan.1 e).1 (zan.1 e).2.2⟩,hB,rfl,fun j hj=>?_⟩,⟨rfl,g3,g4,g5,g7⟩⟩
 have hj2:1+j / 64<m:=by have:=g5 s;rw [if_pos rfl] at this;rw [← this];exact hj
 unfold byt
 rw [g6 _ hj2]
 unfold zs
 rw [bs_data,List.getD_eq_getElem?_getD,List.getElem?_replicate]
 split <;> rfl
set_option maxHeartbeats 4000000 in
theorem zt4 (S:Mem) (a p b c:Nat) (x:Pl) (s:ByteArray) (w ct n B:Nat) (T:Mem) (h:ArS S a p b c x T) (hp:Ps x n) (hs:nm s) (h0:ns x.d s=0) (hw:w≤8) (hct:ct≤65536) (hr:(used x.d.ext:Int)+(Rec.needN w ct:Nat)≤x.d.size) (hB:nb x.fr≤B) :
  ACall Tryz.prog 57 #[self a,.string s,.int .i64 (w:Nat),.int .u64 (ct:Nat)] T fun v T'=>∃ q y,v = .tuple #[self q,.int .i64 0]∧Fresh S q∧WtS (S.set q (wtB a ⟨s,w,0,0,0,0⟩)) a p b c q ⟨s,w,0,0,0,0⟩ y n B [] T'∧Made x y s (Rec.needN w ct):=by
 obtain ⟨i1,hA1⟩:=zcd h
 unfold arB at hA1
 have hne:=Rec.zeJ (w:Int) ct
 rw [show Rec.needP (w:Int) ct=(((Rec.needN w ct:Nat):Int),0) from by unfold Rec.needP;rw [if_neg (by omega),Int.toNat_natCast]] at hne
 unfold Rec.needV at hne
 obtain ⟨d',g1,g2,g3,g4,g5,g6,g7⟩:=zte hp hs h0 (Rec.zbl w ct) hr
 have hnw:=zmV (v:=.int .i64 0) h (fun oE oW ok=>by have:=zim p x.d s ((Rec.needN w ct:Nat):Int) S oE oW ok hp.d.r;rw [g1] at this;exact this)
 refine k_E4 (rs:=[.tmp 8,.tmp 9]) 35 Tryz.func57 rfl rfl rfl ?_
 refine r10_ ?_
 refine ca_ rfl (hne _) ?_
 rintro _ S1 ⟨rfl,h1⟩
 rw [h1];clear h1 S1
 refine r14_ ?_
 refine cT_ ?_
 refine r7_ ?_
 refine ca_ rfl (hnw) ?_
 rintro _ T1 ⟨rfl,h2⟩
 refine r10_ ?_
 refine cF_ ?_
 refine r8_ ?_
 refine k_b7 rfl ?_
 intro b34 f34
 have g34:=f34
 repeat ((with_reducible replace g34:=zaa g34);obtain ⟨g34,_⟩:=g34)
 refine nl_ ?_
 refine r4_ ?_
 refine zdG 0 1 2 3 8 9 10 11 19 28 ?_
 obtain ⟨k1,k2,k3⟩:=ztk (w:=w) hp h0 hB g2 g3 g4 g5 g6 g7 h2 f34
 refine s1_ ?_
 refine ⟨_,T1.set b34 (wtB a ⟨s,w,0,0,0,0⟩),⟨_,_,rfl,⟨_,_,rfl,rfl,rfl⟩,rfl⟩,zad,?_⟩
 exact ⟨b34,_,rfl,k1,k2,k3⟩
end Sto
end
section
open Go.RowKit
open Mv Disk Num
set_option maxRecDepth 4000
theorem zpg (L:List UInt8) (g c o n m:Nat) (S:Mem) (ho:S.own g=some ⟨5,cellsB L,c⟩) (hL:o+5≤L.length) (hn:5≤n) (hn2:n≤140737488355328) :
  ACall Tryz.prog 197 #[.slice (some ⟨g,o,none⟩) n m] S fun r S'=>r = .int .u64 (ofB ((L.drop o).take 5):Nat)∧S'=S:=by
 refine k_E1 (rs:=[.tmp 2]) 18 Tryz.func197 rfl rfl rfl ?_
 refine r17_ ?_
 refine AWP.loop (X:=Nat) (fun x=>[(0,.slice (some ⟨g,o,none⟩) n m),(3,.int .u64 (ofB ((L.drop o).take x):Nat)),(5,.int .i64 x)]) (fun x=>S) (fun x=>x≤5) (fun x=>5-x) (0) ⟨rfl,rfl,rfl,trivial⟩ (Mem.Less.refl _) (Nat.zero_le _) ?_
 rintro k hk
 (try dsimp only at *)
 by_cases hl:k<5
 ·have hd:(L.drop o).length=L.length-o:=List.length_drop
  have hq:=zs9 (ofB ((L.drop o).take k)) (at8 (L.drop o) k) (zhi _ _ (by omega))
  rw [← zjv _ _ (by omega)] at hq
  have hg:(cellsB L)[o+k]?=some (.int .u8 (nb (at8 (L.drop o) k))):=by
   rw [show at8 (L.drop o) k=L[o+k]'(by omega) from by unfold at8;rw [List.getD_eq_getElem?_getD,List.getElem?_drop,List.getElem?_eq_getElem (by omega)];rfl]
   unfold cellsB;rw [List.getElem?_map,List.getElem?_eq_getElem (by omega)];rfl
  refine r6_ ?_
  refine cT_ ?_
  refine r16_ ?_
  refine rC (Calm.load zke rfl (zbt ho (by rw [show o+((k:Nat):Int).toNat*1=o+k from by omega];exact hg))) ?_
  refine r11_ ?_
  refine ⟨k+1,?_,?_,?_,?_⟩
  all_goals (try dsimp only)
  ·exact ⟨rfl,zai hq,zai (by omega),trivial⟩
  ·exact Mem.Less.refl _
  ·exact hl
  ·omega
 ·obtain rfl:k=5:=by omega
  refine r6_ ?_
  refine cF_ ?_
  refine r12_ ?_
  refine ⟨_,S,⟨_,_,rfl,rfl,rfl⟩,zad,?_⟩
  exact ⟨rfl,rfl⟩
namespace Sto
open Rec (eachN)
theorem zmW (a q:Nat) (r:Rd) (T:Mem) (hq:T.own q=some (rdB a r)) (hw:r.w≤8) (hc:r.ct≤65536) (hat:r.at_≤4294967296) :
  ACall Tryz.prog 195 #[self q] T fun v T'=>v = .bool (decide (r.at_<eachN r.w*r.ct))∧T'=T:=by
 have he:eachN r.w≤40:=by unfold Rec.eachN;split <;> omega
 have hm:eachN r.w*r.ct≤40*65536:=Nat.mul_le_mul he hc
 have hea:=fun S=>Rec.zeI r.w S hw
 have e1:((eachN r.w:Nat):Int)*((r.ct:Nat):Int)=((eachN r.w*r.ct:Nat):Int):=(Int.natCast_mul _ _).symm
 unfold rdB at hq
 generalize eachN r.w*r.ct=m at *
 refine k_E1 (rs:=[.tmp 2]) 26 Tryz.func195 rfl rfl rfl ?_
 refine r6_ ?_
 refine AWP.draw [(0,true),(1,true),(2,true),(3,true),(4,true),(5,true),(6,true),(7,true),(8,true),(9,true),(10,true),(11,true),(12,true),(13,true),(15,true),(16,true),(17,true),(18,true),(19,true),(14,false),(20,true),(21,true),(22,true),(23,true)] [] mixed (by kernel_rfl) ?_
 refine r4_ ?_
 refine dP (hc:=fun _=>Calm.bin rfl rfl (zag (c:=true) (zaY _ _) (decide_eq_true rfl))) (h:=?_)
 refine r14_ ?_
 refine zac rfl ?_
 refine ARun.callG 5 true 8 rfl (zab rfl) rfl (zab rfl) zsO rfl (hea _) ?_
 rintro _ S1 ⟨rfl,h1⟩
 rw [h1];clear h1 S1
 refine zae ⟨fun _=>zad,?_⟩
 first|refine k_d ?_|refine dG (hc:=fun _=>Calm.bin rfl rfl (zdD (c:=(m:Int)) (by rw [e1];exact IntWalk.i64_in _ (by omega)))) (h:=?_)
 first|refine k_d ?_|refine dG (hc:=fun _=>Calm.bin rfl rfl (zag (c:=decide (r.at_<m)) (zbc _ _) (by rw [decide_eq_decide];omega))) (h:=?_)
 refine r5_ ?_
 refine ⟨_,T,⟨_,_,rfl,rfl,rfl⟩,zad,?_⟩
 exact ⟨rfl,rfl⟩
end Sto
end
section
open Go.RowKit
open Mv Disk Num
set_option maxRecDepth 4000
namespace Sto
open Rec (eachN)
def five (L:List UInt8) (i:Nat):Nat:=ofB ((L.drop (5*i)).take 5)
def recN (L:List UInt8) (i w:Nat):List Nat:=(List.range w).map fun j=>if j<i then five L j else 0
def recW (L:List UInt8) (w:Nat):List Nat:=(List.range w).map (five L)
theorem zph (L:List UInt8) (i w:Nat):(recN L i w).length=w:=by unfold recN;simp
theorem zmX (L:List UInt8) (w:Nat):recN L 0 w=List.replicate w 0:=by
 unfold recN
 refine List.ext_getElem (by simp) fun j h1 h2=>?_
 simp
theorem zpi (L:List UInt8) (w:Nat):recN L w w=recW L w:=by
 unfold recN recW
 exact List.map_congr_left fun j hj=>if_pos (List.mem_range.1 hj)
def nU (n:Nat):Value:=.int .u64 (n:Int)
theorem zpj (L:List UInt8) {i w:Nat} (h:i<w):(recN L (i+1) w).map nU=((recN L i w).map nU).set i (nU (five L i)):=by
 rw [← List.map_set]
 congr 1
 unfold recN
 refine List.ext_getElem (by simp) fun j h1 h2=>?_
 rw [List.getElem_set,List.getElem_map,List.getElem_map,List.getElem_range]
 by_cases e:i=j
 ·subst e;rw [if_pos rfl,if_pos (Nat.lt_succ_self i)]
 ·rw [if_neg e]
  by_cases q:j<i
  ·rw [if_pos q,if_pos (by omega)]
  ·rw [if_neg q,if_neg (by omega)]
theorem zkM {M:Mem} {g k:Nat} {r r':Blk} (hg:M.own g=none) (hk:k≠g):(M.set k r').Less ((M.set g r).set k r'):=by
 rw [Mem.set_comm M _ _ (Ne.symm hk)]
 exact Mem.less_set _ _ _ ((Mem.own_set_other _ _ (Ne.symm hk)).trans hg)
theorem zjK {w:Nat} (h:1≤w):eachN w=5*w:=by unfold Rec.eachN;rw [if_neg (by omega)]
theorem zf1 (a q:Nat) (r:Rd) (T:Mem) (hq:T.own q=some (rdB a r)) (hw:r.w≤8) (hc:r.ct≤65536) (hat:r.at_≤4294967296) (hno:eachN r.w*r.ct≤r.at_) :
  ACall Tryz.prog 141 #[self q] T fun v T'=>v = .tuple #[.slice none 0 0,.bool false]∧T'=T:=by
 have hm:=zmW a q r T hq hw hc hat
 rw [decide_eq_false (by omega)] at hm
 refine k_E1 (rs:=[.tmp 2,.tmp 3]) 43 Tryz.func141 rfl rfl rfl ?_
 refine r10_ ?_
 refine ca_ rfl (hm) ?_
 rintro _ S1 ⟨rfl,h1⟩
 rw [h1];clear h1 S1
 refine r3_ ?_
 refine cT_ ?_
 refine r8_ ?_
 refine ⟨_,T,⟨_,_,rfl,⟨_,_,rfl,rfl,rfl⟩,rfl⟩,zad,?_⟩
 exact ⟨rfl,rfl⟩
set_option maxHeartbeats 4000000 in
theorem zmY (S:Mem) (a p b c q:Nat) (r:Rd) (x:Pl) (n B:Nat) (T:Mem) (h:RdS S a p b c q r x n B T) (hw1:1≤r.w) (hw:r.w≤8) (hc:r.ct≤65536) (hat:r.at_+5*r.w≤5*r.w*r.ct) (hk:1+(r.at_+5*r.w-1) / 64<ns x.d r.nm) (hn:n+5*r.w≤16384) (hB:B<x.fr.length) :
  ACall Tryz.prog 141 #[self q] T fun v T'=>∃ y f hd M g,v = .tuple #[.slice (some ⟨g,0,none⟩) r.w r.w,.bool true]∧Fresh M g∧T'=M.set g ⟨24,(recW (run x r.nm r.at_ (5*r.w)) r.w).map nU,r.w⟩∧RdT S a p b c q r { r with at_:=r.at_+5*r.w,fr:=f,held:=hd } x y (n+5*r.w) B M:=by
 have hew:=zjK hw1
 have hmul:5*r.w*r.ct≤40*65536:=Nat.mul_le_mul (by omega) hc
 have hq:=zaj h.ar h.ow
 have hm:=zmW a q r T hq hw hc (by omega)
 rw [hew,decide_eq_true (by omega)] at hm
 have hea:=fun S=>Rec.zeI r.w S hw
 rw [hew] at hea
 have hby:=zpd S a p b c q r x n B (5*r.w) T h (by omega) (by omega) (by omega) hk hn hB
 unfold rdB at hq
 refine k_E1 (rs:=[.tmp 2,.tmp 3]) 43 Tryz.func141 rfl rfl rfl ?_
 refine r10_ ?_
 refine ca_ rfl (hm) ?_
 rintro _ S1 ⟨rfl,h1⟩
 rw [h1];clear h1 S1
 refine r3_ ?_
 refine cF_ ?_
 refine r9_ ?_
 refine ca_ rfl (hea _) ?_
 rintro _ S1 ⟨rfl,h1⟩
 rw [h1];clear h1 S1
 refine ca_ rfl (hby) ?_
 rintro _ S1 ⟨y,f,hd,M,g,cc,rfl,hcc,hg,h1,hT⟩
 rw [h1];clear h1 S1
 have hq1:=zaj hT.s.ar hT.s.ow
 (unfold rdB at hq1;dsimp only at hq1)
 have hgq:q≠g:=fun e=>by rw [e] at hq1;rw [hg.1] at hq1;cases hq1
 have o1:=(Mem.own_set_other M ⟨5,cellsB (run x r.nm r.at_ (5*r.w)),cc⟩ hgq).trans hq1
 have hL:=zmS x r.nm r.at_ (5*r.w)
 generalize run x r.nm r.at_ (5*r.w)=L at *
 refine r14_ ?_
 refine cF_ ?_
 refine r8_ ?_
 refine ARun.makeSlice (zab rfl) zcw rfl rfl (by omega) (by omega) (by omega) (by omega) ?_
 intro b27 f27
 have g27:=f27
 repeat ((with_reducible replace g27:=zaa g27);obtain ⟨g27,_⟩:=g27)
 have:=g27.ne hq1;have:=g27.ne' hq1
 refine r11_ ?_
 refine zdG 0 2 3 10 4 5 22 6 29 30 ?_
 refine s1_ ?_
 refine AWP.loop (X:=Nat) (fun i=>[(0,self q),(4,.slice (some ⟨g,0,none⟩) (5*r.w) cc),(6,.slice (some ⟨b27,0,none⟩) r.w r.w),(29,.int .i64 (r.w:Nat)),(30,.int .i64 (i:Nat))]) (fun i=>(M.set g ⟨5,cellsB L,cc⟩).set b27 ⟨24,(recN L i r.w).map nU,r.w⟩) (fun i=>i≤r.w) (fun i=>r.w-i) (0) ⟨rfl,rfl,rfl,rfl,rfl,trivial⟩ (zei (by rw [zmX,Int.toNat_natCast,Nat.mul_one,za8,List.map_replicate];rfl)) (Nat.zero_le _) ?_
 rintro i hi
 (try dsimp only at *)
 by_cases q1:i<r.w
 ·have hof:=zpg L g cc (5*i) (5*r.w-5*i) (cc-5*i) ((M.set g ⟨5,cellsB L,cc⟩).set b27 ⟨24,(recN L i r.w).map nU,r.w⟩) ((Mem.own_set_other _ _ (zaa f27).2.symm).trans (Mem.own_set_same _ _ _)) (by omega) (by omega) (by omega)
  refine r6_ ?_
  refine cT_ ?_
  refine r16_ ?_
  refine rC (Calm.as (v':=.slice (some ⟨g,5*i,none⟩) (5*r.w-5*i) (cc-5*i)) (congrArg (fun z=>Value.slice (some ⟨g,z,none⟩) (5*r.w-5*i) (cc-5*i)) (show 0+5*i*1=5*i from by omega)) (Calm.sliceLo (5*i) Tryz.underlying52 zb1 rfl rfl (by omega) (by omega) (by omega))) ?_
  refine ca_ rfl (hof) ?_
  rintro _ S1 ⟨rfl,h1⟩
  rw [h1];clear h1 S1
  refine s1_ ?_
  refine ARun.store1 rfl rfl zah rfl (Mem.own_set_same _ _ _) (by show 0+(i:Int).toNat*1<((recN L i r.w).map nU).length;rw [List.length_map,zph];omega) rfl ?_
  try simp only [k_ms,k_sz,k_ss,k_za,Nat.reduceAdd]
  refine r8_ ?_
  refine ⟨i+1,?_,?_,?_,?_⟩
  all_goals (try dsimp only)
  ·exact ⟨rfl,rfl,rfl,rfl,zai (by omega),trivial⟩
  ·(rw [zpj L q1,show (i:Int).toNat*1=i from by omega];exact Mem.Less.refl _)
  ·exact q1
  ·omega
 ·obtain rfl:i=r.w:=by omega
  refine r6_ ?_
  refine cF_ ?_
  refine r13_ ?_
  refine ⟨_,M.set b27 ⟨24,(recW L r.w).map nU,r.w⟩,⟨_,_,rfl,⟨_,_,rfl,rfl,rfl⟩,rfl⟩,(by rw [zpi];exact zkM hg.1 (zaa f27).2),?_⟩
  exact ⟨y,f,hd,M,b27,rfl,(zaa f27).1,rfl,hT⟩
end Sto
end
section
open Go.RowKit
open Mv Disk
set_option maxRecDepth 4000
theorem zrx (n:Nat):madeL (frF F0) (n*7)=(List.replicate n F0).flatMap frF:=by
 have hl:((List.replicate n F0).flatMap frF).length=n*7:=by rw [zaq zfh];simp
 refine List.ext_getElem? fun j=>?_
 by_cases hj:j<n*7
 ·have hi:j / 7<(List.replicate n F0).length:=by rw [List.length_replicate];omega
  have hr:j % 7<(frF F0).length:=Nat.mod_lt _ (by decide)
  have h:=zdE zfh (List.replicate n F0) (j / 7) hi (j % 7) _ (by rw [List.getElem_replicate];exact List.getElem?_eq_getElem hr)
  rw [show j / 7*7+j % 7=j from by omega] at h
  rw [h,List.getElem?_eq_getElem (by rw [zbr];exact hj)]
  congr 1
  have h7:(frF F0).toArray.size=7:=rfl
  have:(madeL (frF F0) (n*7))[j]'(by rw [zbr];exact hj)=(frF F0).toArray[j % 7]!:=by
   unfold madeL madeCells
   simp [h7]
  rw [this]
  have hr7:j % 7<7:=Nat.mod_lt _ (by decide)
  generalize j % 7=q at *
  match q,hr7 with
  | 0,_=>rfl
  | 1,_=>rfl
  | 2,_=>rfl
  | 3,_=>rfl
  | 4,_=>rfl
  | 5,_=>rfl
  | 6,_=>rfl
 ·rw [List.getElem?_eq_none (by rw [zbr];omega),List.getElem?_eq_none (by omega)]
def newP (d:D) (n:Nat):Pl:=⟨d,List.replicate n F0,0,0,0⟩
theorem zjL (d:D) (n:Nat):(newP d n).fr.length=n:=by unfold newP;simp
theorem zry (p n:Nat) (d:D) (T:Mem) (h0:1≤n) (h1:n≤256) :
  ACall Tryz.prog 46 #[.pointer (some ⟨p,0,none⟩),.int .i64 (n:Nat)] T fun r S'=>∃ a b,r = .pointer (some ⟨a,0,none⟩)∧Fresh T b∧Fresh T a∧a≠b∧S'=arM T a p b n (newP d n) 0:=by
 refine k_E2 (rs:=[.tmp 4]) 10 Tryz.func46 rfl rfl rfl ?_
 refine r9_ ?_
 refine ARun.makeSlice (zab rfl) zlA rfl rfl (by omega) (by omega) (by omega) (by omega) ?_
 intro b7 f7
 have g7:=f7
 repeat ((with_reducible replace g7:=zaa g7);obtain ⟨g7,_⟩:=g7)
 refine s1_ ?_
 refine ARun.boxA (cs:=[_,_,_,_,_,_]) (zab rfl) rfl ?_
 intro b9 f9
 have g9:=f9
 repeat ((with_reducible replace g9:=zaa g9);obtain ⟨g9,_⟩:=g9)
 refine nl_ ?_
 refine r4_ ?_
 refine ⟨_,arM T b9 p b7 n (newP d n) 0,⟨_,_,rfl,rfl,rfl⟩,zei (by unfold arM arB frB;rw [zjL,show (newP d n).fr.flatMap frF=madeL (frF F0) (n*7) from (zrx n).symm];rfl),?_⟩
 exact ⟨b9,b7,rfl,f7,(zaa f9).1,(zaa f9).2,rfl⟩
end
section
open Go.RowKit
open Mv Disk Num
set_option maxRecDepth 4000
namespace Sto
theorem zrz (d:D) (m i:Nat):atF (newP d m) i=F0:=by
 unfold atF newP
 rw [List.getD_eq_getElem?_getD,List.getElem?_replicate]
 split <;> rfl
theorem zqs (d:D) (m:Nat) (s:ByteArray) (k:Int):vw (newP d m) s k=seen d s k:=zey fun i _=>by rw [zrz];exact zeu _ _
structure Has (x:Pl) (s:ByteArray) (w c:Nat) (L:List UInt8):Prop where
  n:ns x.d s=Rec.needN w c
  h:vw x s ((0:Nat):Int)=Rec.headS w c
  b:Wrote x s L
  l:L.length=Rec.eachN w*c
theorem Has.pos {x:Pl} {s:ByteArray} {w c:Nat} {L:List UInt8} (h:Has x s w c L):0<ns x.d s:=by rw [h.n];exact Rec.zbl w c
theorem Has.stays {x y:Pl} {s:ByteArray} {w c:Nat} {L:List UInt8} (h:Has x s w c L) (g:Stays x y):Has y s w c L :=
 ⟨(g.n s).trans h.n,(g.v s 0 h.pos).trans h.h,h.b.stays g,h.l⟩
theorem Has.near {x y:Pl} {s o:ByteArray} {w c:Nat} {L:List UInt8} (h:Has x s w c L) (g:Near x y o) (hne:s≠o):Has y s w c L :=
 ⟨(g.n s).trans h.n,(g.v s 0 hne h.pos).trans h.h,h.b.near g hne,h.l⟩
theorem Has.made {x y:Pl} {s o:ByteArray} {w c m:Nat} {L:List UInt8} (h:Has x s w c L) (g:Made x y o m) (hne:s≠o):Has y s w c L:=by
 have e:ns y.d s=ns x.d s:=by rw [g.n,if_neg (Ne.symm hne)]
 refine ⟨e.trans h.n,(g.v s 0 h.pos).trans h.h,fun j hj=>?_,h.l⟩
 rw [e] at hj
 rw [← h.b j hj]
 unfold byt
 rw [g.v s _ hj]
theorem zpk (l:List UInt8) (k j:Nat):(l ++ List.replicate k 0).getD j 0=l.getD j 0:=by
 rw [List.getD_eq_getElem?_getD,List.getD_eq_getElem?_getD]
 by_cases q:j<l.length
 ·rw [List.getElem?_append_left q]
 ·rw [List.getElem?_append_right (by omega),List.getElem?_replicate,List.getElem?_eq_none (l:=l) (by omega)]
  split <;> rfl
theorem zhD (s:ByteArray) (i t:Nat) (h:t<64):(Rec.secAt s i).data.toList.getD t 0=s.data.toList.getD (64*i+t) 0:=by
 unfold Rec.secAt
 rw [Lib.extract_data,List.getD_eq_getElem?_getD,List.getD_eq_getElem?_getD,List.getElem?_take_of_lt (by omega),List.getElem?_drop]
theorem zmZ (s:ByteArray) (j:Nat):(Rec.padS s).data.toList.getD j 0=s.data.toList.getD j 0:=by rw [Rec.zfc,zpk]
theorem zrA {d:D} {s body:ByteArray} {w c m n:Nat} (hd:Dw d n) (h:Rec.FileR d s w c body) (hb:body.size=Rec.eachN w*c):Has (newP d m) s w c body.data.toList:=by
 have e0:=zcB hd.r hd.u s 0
 rw [h.head] at e0
 have hp:(placeD d s 0).2=0:=by
  by_cases q:(placeD d s 0).2=0
  ·exact q
  ·rw [if_pos q] at e0;exact absurd (Prod.mk.inj e0).2.symm q
 rw [if_neg (by rw [hp];simp)] at e0
 obtain ⟨hh,_,_⟩:=zdN hp
 have hn:ns d s=Rec.needN w c:=by
  have:=Rec.zdw hd.r hd.u hh
  rw [h.size] at this
  have:=(Prod.mk.inj this).1
  unfold ns
  rw [if_pos hh]
  omega
 refine ⟨hn,?_,fun j hj=>?_,?_⟩
 ·rw [zqs];exact (Prod.mk.inj e0).1.symm
 ·have hj:1+j / 64<ns d s:=hj
  unfold byt
  rw [zqs]
  have h2:=h.secs (j / 64) (by omega)
  rw [show (j / 64+1:Nat)=1+j / 64 from Nat.add_comm _ _,zcB hd.r hd.u,zcn hj,if_neg (by simp)] at h2
  rw [(Prod.mk.inj h2).1,zhD _ _ _ (by omega),zmZ,show 64*(j / 64)+j % 64=j from by omega]
 ·rw [Array.length_toList];exact hb
theorem zrB {x:Pl} {n:Nat} (hp:Ps x n) (hc:∀ j,j<x.fr.length→(atF x j).dirty=false) (s:ByteArray) (k:Int):vw x s k=seen x.d s k:=by
 rcases zrg (p:=x) s k with ⟨i,hi,e⟩ | e
 ·rw [zfv hp hi e]
  obtain ⟨a,b,c⟩:=zan.1 e
  rw [(zbT (hp.ok i hi) a).c (hc i hi),b,c]
 ·exact zey e
theorem ziR {x:Pl} {n:Nat} (hp:Ps x n) (hc:∀ j,j<x.fr.length→(atF x j).dirty=false) {s:ByteArray} {w c:Nat} {L:List UInt8} (h:Has x s w c L):Rec.FileR x.d s w c (bs L):=by
 have hh:has x.d.ext s=true:=(zdR hp.d s).2 h.pos
 have hr:∀ k:Nat,k<ns x.d s→readO x.d s (k:Int)=(vw x s (k:Int),0):=fun k hk=>by
  rw [zcB hp.d.r hp.d.u,zcn hk,if_neg (by simp),zrB hp hc]
 refine ⟨(hr 0 h.pos).trans (by rw [h.h]),fun i hi=>?_,?_⟩
 ·have hk:i+1<ns x.d s:=by rw [h.n];omega
  rw [hr _ hk]
  refine Prod.ext ?_ rfl
  show vw x s ((i+1:Nat):Int)=_
  have z1:=ziM hp hk
  have hbl:(bs L).size=L.length:=zaD L
  have z2:(Rec.secAt (Rec.padS (bs L)) i).size=64:=Rec.zfM (by
   rw [Rec.zcX,hbl,h.l]
   unfold Rec.needN at hi
   omega)
  apply zbv
  have l1:(vw x s ((i+1:Nat):Int)).data.toList.length=64:=by rw [Array.length_toList];exact z1
  have l2:(Rec.secAt (Rec.padS (bs L)) i).data.toList.length=64:=by rw [Array.length_toList];exact z2
  refine List.ext_getElem (by rw [l1,l2]) fun t h1 h2=>?_
  have ht:t<64:=by omega
  have e1:=h.b (64*i+t) (by omega)
  unfold byt at e1
  rw [show 1+(64*i+t) / 64=i+1 from by omega,show (64*i+t) % 64=t from by omega] at e1
  have e2:=zhD (Rec.padS (bs L)) i t ht
  rw [zmZ,bs_data,← e1] at e2
  rw [List.getD_eq_getElem?_getD,List.getElem?_eq_getElem h2,List.getD_eq_getElem?_getD,List.getElem?_eq_getElem h1] at e2
  exact e2.symm
 ·rw [Rec.zdw hp.d.r hp.d.u hh]
  have:=h.n
  unfold ns at this
  rw [if_pos hh] at this
  rw [this]
/-! ### Records -/
theorem ziS {α β : Type} (f : α→List β) (n:Nat):∀ (l:List α),(∀ r ∈ l,(f r).length=n) → ∀ (i:Nat) (hi:i<l.length) (t:Nat),t<n→(l.flatMap f)[n*i+t]?=(f l[i])[t]?
 | [],_,i,hi,_,_=>by cases hi
 | x :: l,hl,0,_,t,ht=>by
  have:=hl x (List.mem_cons_self ..)
  rw [List.flatMap_cons,Nat.mul_zero,Nat.zero_add,List.getElem?_append_left (by omega)];rfl
 | x :: l,hl,i+1,hi,t,ht=>by
  have:=hl x (List.mem_cons_self ..)
  have hi':i<l.length:=by simpa using hi
  rw [List.flatMap_cons,List.getElem?_append_right (by rw [this,Nat.mul_add,Nat.mul_one];omega),this,Nat.mul_add,Nat.mul_one,show n*i+n+t-n=n*i+t from by omega,ziS f n l (fun r hr=>hl r (List.mem_cons_of_mem _ hr)) i hi' t ht]
  rfl
theorem zgI {α β : Type} (f : α→List β) (n:Nat):∀ (l:List α),(∀ r ∈ l,(f r).length=n)→(l.flatMap f).length=n*l.length
 | [],_=>rfl
 | x :: l,hl=>by
  rw [List.flatMap_cons,List.length_append,zgI f n l (fun r hr=>hl r (List.mem_cons_of_mem _ hr)),hl x (List.mem_cons_self ..),List.length_cons,Nat.mul_add,Nat.mul_one,Nat.add_comm]
def RowsOK (w:Nat) (l:List (List Nat)):Prop:=∀ r ∈ l,r.length=w ∧ ∀ n ∈ r,n<top
theorem zdQ (r:List Nat):(recB r).length=5*r.length:=zgI Num.five 5 r fun _ _=>rfl
theorem zm0 {r:List Nat} (h:∀ n ∈ r,n<top):recW (recB r) r.length=r:=by
 unfold recW
 refine List.ext_getElem (by simp) fun i h1 h2=>?_
 rw [List.getElem_map,List.getElem_range]
 unfold Sto.five
 have e:((recB r).drop (5*i)).take 5=Num.five r[i]:=by
  refine List.ext_getElem? fun t=>?_
  by_cases q:t<5
  ·rw [List.getElem?_take_of_lt q,List.getElem?_drop]
   exact ziS Num.five 5 r (fun _ _=>rfl) i h2 t q
  ·rw [List.getElem?_eq_none (by rw [List.length_take];omega),List.getElem?_eq_none (by show 5≤t;omega)]
 rw [e,zgy _ (h _ (List.getElem_mem h2))]
theorem zm1 {x:Pl} {s:ByteArray} {w c:Nat} {rows:List (List Nat)} (h:Has x s w c (rows.flatMap recB)) (hw:1≤w) (hc:rows.length=c) (hr:RowsOK w rows) {i:Nat} (hi:i<rows.length):recW (run x s (5*w*i) (5*w)) w=rows[i]:=by
 have hrl:∀ r ∈ rows,(recB r).length=5*w:=fun r hm=>by rw [zdQ,(hr r hm).1]
 have hm:=hr _ (List.getElem_mem hi)
 have hmul:5*w*(i+1)≤5*w*c:=Nat.mul_le_mul_left _ (by omega)
 rw [Nat.mul_add,Nat.mul_one] at hmul
 have e:run x s (5*w*i) (5*w)=recB rows[i]:=by
  unfold run
  refine List.ext_getElem (by rw [List.length_map,List.length_range,hrl _ (List.getElem_mem hi)]) fun t h1 h2=>?_
  rw [List.length_map,List.length_range] at h1
  rw [List.getElem_map,List.getElem_range,h.b (5*w*i+t) (by
   rw [h.n];unfold Rec.needN Rec.eachN;rw [if_neg (by omega)];omega),List.getD_eq_getElem?_getD,ziS recB (5*w) rows hrl i hi t h1,List.getElem?_eq_getElem h2]
  rfl
 rw [e]
 have:=zm0 hm.2
 rwa [hm.1] at this
theorem zqt {x:Pl} {s:ByteArray} {w c:Nat} {L:List UInt8} (h:Has x s w c L) (hw:1≤w) {i:Nat} (hi:i<c):5*w*i+5*w≤5*w*c∧1+(5*w*i+5*w-1) / 64<ns x.d s:=by
 have hmul:5*w*(i+1)≤5*w*c:=Nat.mul_le_mul_left _ (by omega)
 rw [Nat.mul_add,Nat.mul_one] at hmul
 refine ⟨hmul,?_⟩
 rw [h.n];unfold Rec.needN Rec.eachN;rw [if_neg (by omega)];omega
theorem zeO {w:Nat} {rows:List (List Nat)} (hw:1≤w) (hr:RowsOK w rows):(rows.flatMap recB).length=Rec.eachN w*rows.length:=by
 rw [zgI recB (5*w) rows (fun r hm=>by rw [zdQ,(hr r hm).1])]
 unfold Rec.eachN;rw [if_neg (by omega)]
end Sto
end
section
open Go.RowKit
open Mv
set_option maxRecDepth 4000
namespace Run
theorem ztl {P:Program} {t:TypeId} {x y:Operand} {i j:Int} {a b:Nat} (hi:i=(a:Int)) (hj:j=(b:Int)) (hb:0<b) (ha:a≤9223372036854775807):Bin P .quo t x y (.int .i64 i) (.int .i64 j) (.int .i64 ((a / b:Nat):Int)):=by
 subst hi hj
 refine zjb (by omega) ?_
 rw [← Int.ofNat_tdiv]
 have:=Nat.div_le_self a b
 generalize a / b=q at *
 exact IntWalk.i64_in _ (by omega)
def sizeN (m w:Nat):Nat:=64*(m-8) / (5*w)
theorem zpl (m w:Nat) (S:Mem) (h1:24≤m) (h2:m≤256) (hw1:1≤w) (hw8:w≤8) :
  ACall Tryz.prog 90 #[.int .i64 (m:Nat),.int .i64 (w:Nat)] S fun r S'=>r = .tuple #[.int .i64 (sizeN m w:Nat),.int .i64 0]∧S'=S:=by
 unfold sizeN
 refine k_E2 (rs:=[.tmp 4,.tmp 5]) 26 Tryz.func90 rfl rfl rfl ?_
 refine r15_ ?_
 refine cF_ ?_
 refine r15_ ?_
 refine cF_ ?_
 refine r10_ ?_
 refine rC (Calm.bin rfl rfl (ztl (a:=64*(m-8)) (b:=5*w) (by omega) (by omega) (by omega) (by omega))) ?_
 refine r5_ ?_
 refine ⟨_,S,⟨_,_,rfl,⟨_,_,rfl,rfl,rfl⟩,rfl⟩,zad,?_⟩
 exact ⟨rfl,rfl⟩
theorem zpm {m w:Nat} (h1:24≤m) (hw8:w≤8) (hw1:1≤w):1≤sizeN m w:=by
 unfold sizeN
 exact (Nat.le_div_iff_mul_le (by omega)).2 (by omega)
theorem zm2 (m w:Nat) (h2:m≤256):sizeN m w≤16384:=by
 unfold sizeN
 have:=Nat.div_le_self (64*(m-8)) (5*w)
 omega
theorem zhE (s:ByteArray) (S:Mem) (h1:s.size≠0) (h2:s.size≤12):ACall Tryz.prog 96 #[.string s] S fun r S'=>r = .bool true∧S'=S:=by
 refine k_E1 (rs:=[.tmp 2]) 10 Tryz.func96 rfl rfl rfl ?_
 refine r8_ ?_
 refine rC (Calm.bin rfl rfl (zag (zaF _ _) (zbh (fun e=>h1 (by rw [e];rfl))))) ?_
 refine r9_ ?_
 refine ⟨_,S,⟨_,_,rfl,rfl,rfl⟩,zad,?_⟩
 exact ⟨rfl,rfl⟩
def dig (i k:Nat):UInt8:=UInt8.ofNat (48+i / 10 ^ k % 10)
theorem ztm (i k:Nat):nb (dig i k)=48+((i / 10 ^ k:Nat):Int) % 10:=by
 unfold nb dig
 rw [UInt8.toNat_ofNat']
 generalize i / 10 ^ k=q
 omega
def nameS (s:ByteArray) (i:Nat):ByteArray:=s ++ bs [dig i 3,dig i 2,dig i 1,dig i 0]
def digs (i k:Nat):List UInt8:=[if 4≤k then dig i 3 else 0,if 3≤k then dig i 2 else 0,if 2≤k then dig i 1 else 0,if 1≤k then dig i 0 else 0]
theorem zm3 (i:Nat) {k:Nat} (h:k<4):(cellsB (digs i k)).set (3-k) (.int .u8 (nb (dig i k)))=cellsB (digs i (k+1)):=by
 match k,h with
 | 0,_=>rfl
 | 1,_=>rfl
 | 2,_=>rfl
 | 3,_=>rfl
theorem zgJ (s:ByteArray) (i:Nat) (S:Mem) (h1:s.size≠0) (h2:s.size≤12) (hi:i≤9999) :
  ACall Tryz.prog 50 #[.string s,.int .i64 (i:Nat)] S fun r S'=>r = .tuple #[.string (nameS s i),.int .i64 0]∧S'=S:=by
 have hp:=zhE s S h1 h2
 refine k_E2 (rs:=[.tmp 4,.tmp 5]) 36 Tryz.func50 rfl rfl rfl ?_
 refine r10_ ?_
 refine ca_ rfl (hp) ?_
 rintro _ S1 ⟨rfl,h1⟩
 rw [h1];clear h1 S1
 refine r11_ ?_
 refine cF_ ?_
 refine r4_ ?_
 refine ARun.alloc (zab rfl) zid ?_
 intro b6 f6
 have g6:=f6
 repeat ((with_reducible replace g6:=zaa g6);obtain ⟨g6,_⟩:=g6)
 refine nl_ ?_
 refine r9_ ?_
 refine AWP.loop (X:=Nat) (fun k=>[(0,.string s),(1,.int .i64 ((i / 10 ^ k:Nat):Int)),(6,.pointer (some ⟨b6,0,none⟩)),(19,.int .i64 (k:Nat))]) (fun k=>S.set b6 ⟨177,cellsB (digs i k),4⟩) (fun k=>k≤4) (fun k=>4-k) (0) ⟨rfl,zai (by rw [Nat.pow_zero,Nat.div_one]),rfl,rfl,trivial⟩ (Mem.Less.refl _) (Nat.zero_le _) ?_
 rintro k hk
 (try dsimp only at *)
 have hk:k≤4:=hk
 by_cases q1:k<4
 ·have hst:=zm3 i q1
  have hdd:i / 10 ^ k / 10=i / 10 ^ (k+1):=by rw [Nat.div_div_eq_div_mul,Nat.pow_succ]
  have hnd:=ztm i k
  have hle:=Nat.div_le_self i (10 ^ k)
  generalize i / 10 ^ k=q at *
  refine r6_ ?_
  refine cT_ ?_
  refine r17_ ?_
  refine rC (Calm.as (congrArg (Value.int .u8) hnd.symm) (Calm.conv rfl (zbf Tryz.underlying3 Tryz.underlying5 (IntWalk.u8_in _ (by omega))))) ?_
  refine s1_ ?_
  refine ARun.store1 rfl rfl zb1 rfl (Mem.own_set_same _ _ _) (by show 0+(3-(k:Int)).toNat*1<4;omega) rfl ?_
  try simp only [k_ms,k_sz,k_ss,k_za,Nat.reduceAdd]
  refine r14_ ?_
  refine ⟨k+1,?_,?_,?_,?_⟩
  all_goals (try dsimp only)
  ·exact ⟨rfl,zai (by rw [← hdd];omega),rfl,zai (by omega),trivial⟩
  ·(rw [← hst,show (3-(k:Int)).toNat*1=3-k from by omega];exact Mem.Less.refl _)
  ·exact q1
  ·omega
 ·obtain rfl:k=4:=by omega
  refine r6_ ?_
  refine cF_ ?_
  refine r9_ ?_
  refine rC (Calm.toStr zaM zaA rfl (l:=[dig i 3,dig i 2,dig i 1,dig i 0]) rfl (zbA (r:=⟨177,cellsB (digs i 4),4⟩) (Mem.own_set_same _ _ _))) ?_
  refine rC (Calm.bin rfl rfl (zbn (by rw [zaD];show s.size+4≤_;omega))) ?_
  refine r4_ ?_
  refine k_v7 0 1 6 19 20 4 5 ?_
  refine s1_ ?_
  refine ⟨_,S,⟨_,_,rfl,⟨_,_,rfl,rfl,rfl⟩,rfl⟩,zad,?_⟩
  exact ⟨rfl,rfl⟩
end Run
end
section
open Go.RowKit
open Mv Disk Num
set_option maxRecDepth 4000
namespace Sto
structure Grew (S S':Mem) (q:Nat):Prop where
  own:∀ t k,t≠q→S.own t=some k→S'.own t=some k
  ro:S'.ro=S.ro
theorem Grew.refl (S:Mem) (q:Nat):Grew S S q:=⟨fun _ _ _ h=>h,rfl⟩
theorem Grew.set {S S':Mem} {q:Nat} (h:Grew S S' q) (k:Blk):Grew S (S'.set q k) q:=⟨fun t r ht hr=>(Mem.own_set_other _ _ ht).trans (h.own t r ht hr),h.ro⟩
theorem Grew.new {S S':Mem} {q g:Nat} (h:Grew S S' q) (hg:S'.own g=none) (k:Blk):Grew S (S'.set g k) q:=⟨fun t r ht hr=>by
 have:=h.own t r ht hr
 exact (Mem.own_set_other _ _ (fun e=>by rw [e,hg] at this;cases this)).trans this,h.ro⟩
theorem RdS.new {S:Mem} {a p b c q:Nat} {r:Rd} {x:Pl} {n B:Nat} {T:Mem} (h:RdS S a p b c q r x n B T) {g:Nat} (hg:Fresh T g) (k:Blk):Fresh S g∧q≠g∧RdS (S.set g k) a p b c q r x n B (T.set g k):=by
 obtain ⟨h1,h2⟩:=zdU h.ar hg k
 have hne:q≠g:=h1.ne h.ow
 exact ⟨h1,hne,h2,(Mem.own_set_other _ _ hne).trans h.ow,h.ps,h.us,h.nb⟩
structure GI (S:Mem) (a p b c q:Nat) (r:Rd) (x:Pl) (n B:Nat) (rows:List (List Nat)) (i0:Nat) (Z M R:Mem) (r':Rd) (y:Pl) (o:Option (Nat × Nat)) (hs:List Value):Prop where
  rd:RdS Z a p b c q r' y (n+5*r.w*hs.length) B M
  nm:r'.nm=r.nm
  w:r'.w=r.w
  ct:r'.ct=r.ct
  at_:r'.at_=5*r.w*(i0+hs.length)
  le:i0+hs.length≤rows.length
  gr:Grew S Z q
  st:Stays x y
  ot:Oth x y r.nm
  oo:OkO M o hs.length
  rl:R.Less Z
  rq:R.own q=none
  rn:∀ t k,S.own t=some k→R.own t=none
  rr:∀ i (h:i<hs.length),RowR R hs[i] (rows.getD (i0+i) [])
def noMem (S:Mem):Mem:=⟨fun _=>none,S.ro⟩
theorem GI.start {S:Mem} {a p b c q:Nat} {r:Rd} {x:Pl} {n B:Nat} {rows:List (List Nat)} {i0:Nat} {T:Mem} (h:RdS S a p b c q r x n B T) (hat:r.at_=5*r.w*i0) (hi:i0≤rows.length):GI S a p b c q r x n B rows i0 S T (noMem S) r x none [] where
 rd:=h
 nm:=rfl
 w:=rfl
 ct:=rfl
 at_:=hat
 le:=hi
 gr:=Grew.refl _ _
 st:=Stays.refl _
 ot:=Oth.refl _ _
 oo:=zbR T
 rl:=⟨fun _ _ h=>(by cases h),rfl⟩
 rq:=rfl
 rn:=fun _ _ _=>rfl
 rr:=fun i h=>absurd h (Nat.not_lt_zero i)
theorem ziT {S:Mem} {g w:Nat} {row:List Nat} {e:TypeId} (hw:row.length=w) (hw8:w≤8) (h:S.own g=some ⟨e,row.map nU,w⟩):RowR S (.slice (some ⟨g,0,none⟩) w w) row :=
 Sl.own1 h List.prefix_rfl hw (Nat.le_refl _) (by omega)
theorem GI.next {S:Mem} {a p b c q:Nat} {r:Rd} {x:Pl} {n B:Nat} {rows:List (List Nat)} {i0:Nat} {Z M R:Mem} {r':Rd} {y:Pl} {o:Option (Nat × Nat)} {hs:List Value} (h:GI S a p b c q r x n B rows i0 Z M R r' y o hs)
  {r2:Rd} {z:Pl} {M2:Mem} {g:Nat} {row:List Nat} {e:TypeId} {o2:Option (Nat × Nat)} {w:Nat} (hw:w=r.w) (hw8:r.w≤8) (hg:Fresh M2 g) (hT:RdT Z a p b c q r' r2 y z (n+5*r.w*hs.length+5*w) B M2)
  (hw2:r2.w=r'.w) (hc2:r2.ct=r'.ct) (ha2:r2.at_=r'.at_+5*w) (hlt:i0+hs.length<rows.length) (hrow:row=rows[i0+hs.length]) (hrl:row.length=w) (ho:OkO (M2.set g ⟨e,row.map nU,w⟩) o2 (hs.length+1)) :
  GI S a p b c q r x n B rows i0 ((Z.set q (rdB a r2)).set g ⟨e,row.map nU,w⟩) (M2.set g ⟨e,row.map nU,w⟩) (R.set g ⟨e,row.map nU,w⟩) r2 z o2 (hs ++ [.slice (some ⟨g,0,none⟩) w w]):=by
 subst hw
 obtain ⟨f1,hne,h2⟩:=hT.s.new hg ⟨e,row.map nU,r.w⟩
 have hl:(hs ++ [Value.slice (some ⟨g,0,none⟩) r.w r.w]).length=hs.length+1:=by rw [List.length_append];rfl
 have hgn:(Z.set q (rdB a r2)).own g=none:=f1.1
 have hRg:R.own g=none:=by
  cases e:R.own g with
  | none=>rfl
  | some k =>
   have:=h.rl.own e
   rw [Mem.own_set_other _ _ (Ne.symm hne)] at hgn
   rw [hgn] at this;cases this
 refine ⟨by rw [hl,Nat.mul_add,Nat.mul_one,← Nat.add_assoc];exact h2,hT.nm.trans h.nm,hw2.trans h.w,hc2.trans h.ct,by rw [hl,ha2,h.at_,← Nat.add_assoc,Nat.mul_add (5*r.w) (i0+hs.length),Nat.mul_one],by rw [hl];omega,(h.gr.set _).new hgn _,h.st.trans hT.st,h.ot.trans (by rw [← h.nm];exact hT.ot) h.st.l,by rw [hl];exact ho,Mv.Less.set (zap h.rl h.rq) g _,(Mem.own_set_other _ _ hne).trans h.rq,fun t k ht=>?_,fun i hi=>?_⟩
 ·have hne2:t≠g:=fun e=>by
   by_cases q1:t=q
   ·exact hne (q1.symm.trans e)
   ·have:=(Mem.own_set_other Z (rdB a r2) q1).trans (h.gr.own t k q1 ht)
    rw [e,hgn] at this;cases this
  exact (Mem.own_set_other _ _ hne2).trans (h.rn t k ht)
 ·rw [hl] at hi
  by_cases q1:i<hs.length
  ·rw [List.getElem_append_left q1]
   exact (h.rr i q1).less (Mem.less_set _ _ _ hRg)
  ·obtain rfl:i=hs.length:=by omega
   rw [List.getElem_append_right (Nat.le_refl _)]
   simp only [Nat.sub_self,List.getElem_cons_zero]
   rw [List.getD_eq_getElem?_getD,List.getElem?_eq_getElem hlt,Option.getD_some,← hrow]
   exact ziT hrl hw8 (Mem.own_set_same _ _ _)
theorem GI.rest {S:Mem} {a p b c q:Nat} {r:Rd} {x:Pl} {n B:Nat} {rows:List (List Nat)} {i0:Nat} {Z M R:Mem} {r':Rd} {y:Pl} {o:Option (Nat × Nat)} {hs:List Value} (h:GI S a p b c q r x n B rows i0 Z M R r' y o hs)
  {r2:Rd} {z:Pl} {M2:Mem} (hT:RdT Z a p b c q r' r2 y z (n+5*r.w*hs.length) B M2) (hw2:r2.w=r'.w) (hc2:r2.ct=r'.ct) (ha2:r2.at_=r'.at_) (ho:OkO M2 o hs.length) :
  GI S a p b c q r x n B rows i0 (Z.set q (rdB a r2)) M2 R r2 z o hs :=
 ⟨hT.s,hT.nm.trans h.nm,hw2.trans h.w,hc2.trans h.ct,ha2.trans h.at_,h.le,h.gr.set _,h.st.trans hT.st,h.ot.trans (by rw [← h.nm];exact hT.ot) h.st.l,ho,zap h.rl h.rq,h.rq,h.rn,h.rr⟩
structure GX where
  Z:Mem
  M:Mem
  R:Mem
  r:Rd
  y:Pl
  o:Option (Nat × Nat)
  hs:List Value
set_option maxHeartbeats 4000000 in
theorem zkN (S:Mem) (a p b c q:Nat) (r:Rd) (x:Pl) (n B N i0:Nat) (T:Mem) (rows:List (List Nat)) (h:RdS S a p b c q r x n B T) (hH:Has x r.nm r.w rows.length (rows.flatMap recB)) (hr:RowsOK r.w rows) (hct:r.ct=rows.length) (hw1:1≤r.w) (hw8:r.w≤8) (hc:rows.length≤65536) (hat:r.at_=5*r.w*i0) (hi0:i0≤rows.length) (hN:N≤16384) (hn:n+5*r.w*rows.length≤16384) (hB:B<x.fr.length) :
  ACall Tryz.prog 92 #[self q,.int .i64 (N:Nat)] T fun v T'=>∃ X:GX,v=outV X.o X.hs.length∧X.hs.length=min N (rows.length-i0)∧T'=outN 1 X.M X.o 22 X.hs∧GI S a p b c q r x n B rows i0 X.Z X.M X.R X.r X.y X.o X.hs∧X.r.held=0:=by
 refine k_E2 (rs:=[.tmp 4]) 26 Tryz.func92 rfl rfl rfl ?_
 refine r12_ ?_
 refine AWP.loop (X:=GX) (fun X=>[(0,self q),(1,.int .i64 (N:Nat)),(5,outV X.o X.hs.length)]) (fun X=>outN 1 X.M X.o 22 X.hs) (fun X=>GI S a p b c q r x n B rows i0 X.Z X.M X.R X.r X.y X.o X.hs∧X.hs.length≤N) (fun X=>N-X.hs.length) (⟨S,T,noMem S,r,x,none,[]⟩) ⟨rfl,rfl,rfl,trivial⟩ (Mem.Less.refl _) (⟨GI.start h hat hi0,Nat.zero_le _⟩) ?_
 rintro ⟨Z,M,R,r1,y,o,hs⟩ ⟨hI,hle⟩
 (try dsimp only at *)
 replace hI:GI S a p b c q r x n B rows i0 Z M R r1 y o hs:=hI
 replace hle:hs.length≤N:=hle
 have hI0:=hI.le
 obtain ⟨pa,ca,hov⟩:=za6 hI.oo
 by_cases q1:hs.length<N
 ·refine r4_ ?_
  refine rC (Calm.lenSl Tryz.underlying25 (congrArg some hov)) ?_
  refine r4_ ?_
  refine cT_ ?_
  by_cases q2:i0+hs.length<rows.length
  ·obtain ⟨b1,b2⟩:=zqt hH hw1 q2
   have hmul:5*r.w*rows.length≤40*65536:=Nat.mul_le_mul (by omega) hc
   have hnx:=(zmY Z a p b c q r1 y _ B M hI.rd (by rw [hI.w];exact hw1) (by rw [hI.w];exact hw8) (by rw [hI.ct,hct];exact hc) (by rw [hI.at_,hI.w,hI.ct,hct];exact b1) (by rw [hI.at_,hI.w,hI.nm,hI.st.n];exact b2) (by rw [hI.w];have:5*r.w*(i0+hs.length)=5*r.w*i0+5*r.w*hs.length:=Nat.mul_add _ _ _;omega) (by rw [hI.st.l];exact hB)).frameO (n:=1) (e:=22) (cs:=hs) hI.oo
   have hrw:recW (run y r1.nm r1.at_ (5*r1.w)) r1.w=rows[i0+hs.length]:=by rw [hI.nm,hI.at_,hI.w];exact zm1 (hH.stays hI.st) hw1 rfl hr q2
   rw [hrw] at hnx
   refine r6_ ?_
   refine ca_ rfl (hnx) ?_
   rintro _ S1 ⟨Sa,⟨z,f,hd,M2,g,rfl,hg,hSa,hT⟩,hoo,h1⟩
   rw [h1,hSa];rw [hSa] at hoo;clear h1 S1 hSa Sa
   refine r14_ ?_
   refine cF_ ?_
   have happ:=zbK (e:=22) (cs:=hs) hoo (Nat.mul_one _).symm
   refine r5_ ?_
   refine ARun.build1s (zab rfl) zcx rfl rfl ?_
   intro b21 f21
   have g21:=f21
   repeat ((with_reducible replace g21:=zaa g21);obtain ⟨g21,_⟩:=g21)
   refine ARun.appendOK (n:=1) (o:=o) (k:=hs.length) (m:=1) (cs:=hs) (news:=[.slice (some ⟨g,0,none⟩) r1.w r1.w]) (zab rfl) zcx rfl rfl (Nat.mul_one _).symm hoo (happ.temp f21) rfl (zd6 (Mem.own_set_same _ _ _) List.prefix_rfl) rfl (fun v hv=>by rw [List.mem_singleton.1 hv];rfl) (by omega) (by omega) ?_
   intro o2 ho2
   refine r4_ ?_
   refine ⟨⟨(Z.set q (rdB a { r1 with at_:=r1.at_+5*r1.w,fr:=f,held:=hd })).set g ⟨24,(rows[i0+hs.length]).map nU,r1.w⟩,M2.set g ⟨24,(rows[i0+hs.length]).map nU,r1.w⟩,R.set g ⟨24,(rows[i0+hs.length]).map nU,r1.w⟩,{ r1 with at_:=r1.at_+5*r1.w,fr:=f,held:=hd },z,o2,hs ++ [.slice (some ⟨g,0,none⟩) r1.w r1.w]⟩,?_,?_,?_,?_⟩
   all_goals (try dsimp only)
   ·exact ⟨rfl,rfl,by rw [List.length_append];rfl,trivial⟩
   ·exact Mem.Less.refl _
   ·exact ⟨hI.next hI.w hw8 hg hT rfl rfl rfl q2 rfl ((hr _ (List.getElem_mem q2)).1.trans hI.w.symm) ho2,by rw [List.length_append];exact q1⟩
   ·(rw [List.length_append];show N-(hs.length+1)<N-hs.length;omega)
  ·have e2:i0+hs.length=rows.length:=by omega
   have hnx:=(zf1 a q r1 M (zaj hI.rd.ar hI.rd.ow) (by rw [hI.w];exact hw8) (by rw [hI.ct,hct];exact hc) (by rw [hI.at_,e2];have:5*r.w*rows.length≤40*65536:=Nat.mul_le_mul (by omega) hc;omega) (by rw [hI.at_,hI.w,hI.ct,hct,e2,zjK hw1];exact Nat.le_refl _)).frameO (n:=1) (e:=22) (cs:=hs) hI.oo
   refine r6_ ?_
   refine ca_ rfl (hnx) ?_
   rintro _ S1 ⟨Sa,⟨rfl,hSa⟩,hoo,h1⟩
   rw [h1,hSa];clear h1 S1 hSa hoo Sa
   refine r14_ ?_
   refine k_v7 0 1 5 11 6 7 18 ?_
   refine cT_ ?_
   have hcl:=(zeM Z a p b c q r1 y _ B M hI.rd).frameO (n:=1) (e:=22) (cs:=hs) hI.oo
   refine r9_ ?_
   refine ca_ rfl (hcl) ?_
   rintro _ S1 ⟨Sa,⟨_,z,hT⟩,hoo,h1⟩
   rw [h1];clear h1 S1
   refine r9_ ?_
   refine ⟨_,outN 1 Sa o 22 hs,⟨_,_,rfl,rfl,rfl⟩,Mem.Less.refl _,?_⟩
   exact ⟨⟨Z.set q (rdB a { r1 with held:=0 }),Sa,R,{ r1 with held:=0 },z,o,hs⟩,rfl,by show hs.length=_;omega,rfl,hI.rest hT rfl rfl rfl hoo,rfl⟩
 ·refine r4_ ?_
  refine rC (Calm.lenSl Tryz.underlying25 (congrArg some hov)) ?_
  refine r4_ ?_
  refine cF_ ?_
  have hcl:=(zeM Z a p b c q r1 y _ B M hI.rd).frameO (n:=1) (e:=22) (cs:=hs) hI.oo
  refine r8_ ?_
  refine ca_ rfl (hcl) ?_
  rintro _ S1 ⟨Sa,⟨_,z,hT⟩,hoo,h1⟩
  rw [h1];clear h1 S1
  refine r8_ ?_
  refine k_v5 0 1 5 11 4 ?_
  refine s1_ ?_
  refine ⟨_,outN 1 Sa o 22 hs,⟨_,_,rfl,rfl,rfl⟩,Mem.Less.refl _,?_⟩
  exact ⟨⟨Z.set q (rdB a { r1 with held:=0 }),Sa,R,{ r1 with held:=0 },z,o,hs⟩,rfl,by show hs.length=_;omega,rfl,hI.rest hT rfl rfl rfl hoo,rfl⟩
end Sto
end
section
open Go.RowKit
open Mv Disk Num
set_option maxRecDepth 4000
namespace Sto
theorem zrC (S:Mem) (a p b c:Nat) (x:Pl) (s:ByteArray) (n w ct:Nat) (T:Mem) (h:ArS S a p b c x T) (hp:Ps x n) (hh:Rec.headD x.d s=(w,ct,0)) :
  ACall Tryz.prog 87 #[self a,.string s] T fun v T'=>∃ q,v = .tuple #[self q,.int .i64 0]∧Fresh T q∧T'=T.set q (rdB a ⟨s,w,ct,0,0,0⟩):=by
 obtain ⟨k,oE,oW,ok,rfl⟩:=h
 have hA:=za3 (M:=devM S p x.d oE oW) (a:=a) (p:=p) (b:=b) (c:=c) (x:=x) (k:=k)
 have hd:=Rec.zfV p x.d s _ (ok.rd (zel hp) k) hp.d.r
 rw [hh] at hd
 generalize arM (devM S p x.d oE oW) a p b c x k=T at *
 unfold arB at hA
 unfold Rec.formV at hd
 refine k_E2 (rs:=[.tmp 4,.tmp 5]) 28 Tryz.func87 rfl rfl rfl ?_
 refine r13_ ?_
 refine ca_ rfl (hd) ?_
 rintro _ S1 ⟨rfl,h1⟩
 rw [h1];clear h1 S1
 refine r16_ ?_
 refine cF_ ?_
 refine r9_ ?_
 refine ARun.boxA (cs:=[_,_,_,_,_,_,_,_]) (zab rfl) rfl ?_
 intro b27 f27
 have g27:=f27
 repeat ((with_reducible replace g27:=zaa g27);obtain ⟨g27,_⟩:=g27)
 have:=g27.ne hA;have:=g27.ne' hA
 refine nl_ ?_
 refine r5_ ?_
 refine ⟨_,T.set b27 (rdB a ⟨s,w,ct,0,0,0⟩),⟨_,_,rfl,⟨_,_,rfl,rfl,rfl⟩,rfl⟩,zad,?_⟩
 exact ⟨b27,rfl,f27,rfl⟩
end Sto
end
section
open Go.RowKit
open Mv
set_option maxRecDepth 4000
namespace Mv
end Mv
namespace Er
theorem under:Tryz.prog.underlying 58=some (.interface (Tryz.prog.methodsAt 58)):=by kernel_rfl
theorem eqNil {x:Operand} {c:Value}:Bin Tryz.prog .eql 58 x (.const c) .nilIface .nilIface (.bool true):=fun w=>by
 have:=run_eql_nil_nil (P:=Tryz.prog) (w:=w) 58 under
 simpa [eqGuard] using this
theorem neNil {x:Operand} {c:Value}:Bin Tryz.prog .neq 58 x (.const c) .nilIface .nilIface (.bool false):=fun w=>by
 have:=run_neq_nil_nil (P:=Tryz.prog) (w:=w) 58 under
 simpa [eqGuard] using this
theorem eqHeld {x y:Operand} (T:TypeId) (v:Value):Bin Tryz.prog .eql 58 x y .nilIface (.iface T v) (.bool false):=fun w=>by
 have:=run_eql_iface_nil_left (P:=Tryz.prog) (w:=w) T v under
 simpa [eqGuard] using this
instance : TGo Tryz.prog 59 := ⟨by kernel_rfl⟩
theorem isNil (T:TypeId) (v:Value) (S:Mem):ACall Tryz.prog 59 #[.nilIface,.iface T v] S fun r S'=>r = .bool false∧S'=S:=by
 refine k_E2 (rs:=[.tmp 4]) 22 Tryz.func59 rfl rfl rfl ?_
 refine r9_ ?_
 refine rC (Calm.bin rfl rfl eqNil) ?_
 refine r2_ ?_
 first|refine k_q 8 ?_|refine rG 8 (Calm.bin rfl rfl eqNil) ?_
 refine r3_ ?_
 refine cT_ ?_
 refine r4_ ?_
 refine rC (Calm.bin rfl rfl (eqHeld _ _)) ?_
 refine r5_ ?_
 refine ⟨_,S,⟨_,_,rfl,rfl,rfl⟩,zad,?_⟩
 exact ⟨rfl,rfl⟩
end Er
end
section
open Go.RowKit
open Mv Disk Num
set_option maxRecDepth 4000
namespace Sto
theorem zce (s:ByteArray) (S:Mem):ACall Tryz.prog 44 #[.string s,.int .i64 0] S fun r S'=>r = .nilIface∧S'=S:=by
 refine k_E2 (rs:=[.tmp 4]) 13 Tryz.func44 rfl rfl rfl ?_
 refine r12_ ?_
 refine cT_ ?_
 refine r7_ ?_
 refine ⟨_,S,⟨_,_,rfl,rfl,rfl⟩,zad,?_⟩
 exact ⟨rfl,rfl⟩
theorem zm4 (S:Mem):ACall Tryz.prog 58 #[.nilIface] S fun r S'=>r = .int .i64 0∧S'=S:=by
 refine k_E1 (rs:=[.tmp 2]) 13 Tryz.func58 rfl rfl rfl ?_
 refine r7_ ?_
 refine ARun.alloc (zab rfl) zkf ?_
 intro b3 f3
 have g3:=f3
 repeat ((with_reducible replace g3:=zaa g3);obtain ⟨g3,_⟩:=g3)
 refine nl_ ?_
 refine r6_ ?_
 refine rC (Calm.bin rfl rfl Er.eqNil) ?_
 refine r2_ ?_
 first|refine k_q 6 ?_|refine rG 6 (Calm.mkI (by kernel_rfl) rfl) ?_
 refine r5_ ?_
 refine cT_ ?_
 refine r7_ ?_
 refine ⟨_,S,⟨_,_,rfl,rfl,rfl⟩,zad,?_⟩
 exact ⟨rfl,rfl⟩
structure W5 where
  v1:Value
  v2:Value
  v3:Value
  v4:Value
  v5:Value
def wkB (a:Nat) (u:W5) (tm:Value):Blk:=⟨107,[.pointer (some ⟨a,0,none⟩),u.v1,u.v2,u.v3,u.v4,u.v5,tm,.int .u64 0,.int .u64 0,.int .i64 0],10⟩
theorem zrD {M:Mem} {d:D} {oE oW:Option (Nat × Nat)} (h:OkD M d oE oW) {w:Nat} {r r':Blk} (hw:M.own w=some r):(M.set w r').Less ((dkM M d oE oW).set w r'):=Mv.Less.set h.less w r'
theorem zf2 {S:Mem} {p:Nat} {d:D} {oE oW:Option (Nat × Nat)} (h:OkV S p d oE oW) {w:Nat} (hw:Fresh (devM S p d oE oW) w) (k:Blk):Fresh S w∧OkV (S.set w k) p d oE oW∧(devM S p d oE oW).set w k=devM (S.set w k) p d oE oW:=by
 obtain ⟨h1,h2,h3,h4⟩:=zdT hw
 have e1:(outN 2 S oE extT (d.ext.flatMap extF)).set w k=outN 2 (S.set w k) oE extT (d.ext.flatMap extF):=zbi h3
 have e2:(dkM S d oE oW).set w k=dkM (S.set w k) d oE oW:=by
  unfold dkM
  rw [zbi h4,e1]
 refine ⟨h1,⟨⟨h.dk.e.set h3,by rw [← e1];exact h.dk.w.set h4⟩,by rw [← e2];exact zal h.fr (Ne.symm h2)⟩,?_⟩
 unfold devM
 rw [Mem.set_comm _ _ _ (Ne.symm h2),e2]
theorem begun {S:Mem} {p w a b c:Nat} {d:D} {oE oW:Option (Nat × Nat)} {x:Pl} {k:Blk} (hok:OkV S p d oE oW) (hw:Fresh (devM S p d oE oW) w) (fb:Fresh ((devM S p d oE oW).set w k) b) (fa:Fresh ((devM S p d oE oW).set w k) a) (hab:a≠b) (hl:x.fr.length≤c) (hx:x.d=d) (k':Blk) :
  ArS (S.set w k') a p b c x ((arM ((devM S p d oE oW).set w k) a p b c x 0).set w k'):=by
 obtain ⟨h1,h2,h3⟩:=zf2 hok hw k
 have h:ArS (S.set w k) a p b c x (arM ((devM S p d oE oW).set w k) a p b c x 0):=by
  subst hx
  exact ⟨0,oE,oW,⟨h2,by rw [← h3];exact fb,by rw [← h3];exact fa,hab,hl⟩,by rw [h3]⟩
 have:=zcL h (Mem.own_set_same _ _ _) k'
 rwa [Mem.set_set] at this
set_option maxHeartbeats 4000000 in
theorem zpn (v:Value) (d:D) (m:Nat) (S:Mem) (hd:DkR S v d) (hz:Dz d) (ho:openD d=(d,0)) (h1:24≤m) (h2:m≤256) :
  ACall Tryz.prog 17 #[v,.int .i64 (m:Nat)] S fun r T=>∃ S0 wk a p b u,r = .tuple #[self wk,.nilIface]∧S.Less S0∧Fresh S0 wk∧ArS (S0.set wk (wkB a u (.slice none 0 0))) a p b m (newP d m) T:=by
 have hopen:=fun M h=>zdI v d M (DkR.less hd h) hz
 obtain ⟨pe,ce,pw,cw,rfl,hE,hW⟩:=id hd
 refine k_E2 (rs:=[.tmp 4,.tmp 5]) 51 Tryz.func17 rfl rfl rfl ?_
 refine r2_ ?_
 refine k_b5 rfl ?_
 intro b2 f2
 have g2:=f2
 repeat ((with_reducible replace g2:=zaa g2);obtain ⟨g2,_⟩:=g2)
 refine nl_ ?_
 refine r7_ ?_
 refine ca_ rfl (hopen _ zad) ?_
 rintro _ S1 hop
 rw [ho] at hop
 obtain ⟨p,oE,oW,hok,rfl,h1⟩:=hop
 rw [h1];clear h1 S1
 have hS0:=Mem.less_set S b2 ⟨29,[.int .i64 d.size,.slice pe d.ext.length ce,.slice pw d.waits.length cw,.int .i64 d.fuse,.bool d.down],5⟩ f2.1
 dsimp only at hok ⊢
 generalize S.set b2 ⟨29,[.int .i64 d.size,.slice pe d.ext.length ce,.slice pw d.waits.length cw,.int .i64 d.fuse,.bool d.down],5⟩=S0 at *
 have hp:(devM S0 p d oE oW).own p=some (devB d oE oW):=Mem.own_set_same _ _ _
 unfold devB at hp
 refine r14_ ?_
 refine ARun.boxA (cs:=[_,_,_,_,_,_,_,_,_,_]) (zab rfl) rfl ?_
 intro b19 f19
 have g19:=f19
 repeat ((with_reducible replace g19:=zaa g19);obtain ⟨g19,_⟩:=g19)
 have:=g19.ne hp;have:=g19.ne' hp
 refine nl_ ?_
 refine r3_ ?_
 obtain ⟨hw0,hok1,e1⟩:=zf2 hok f19 ⟨107,[.pointer none,.int .i64 d.size,outV oE d.ext.length,outV oW d.waits.length,.int .i64 d.fuse,.bool d.down,.slice none 0 0,.int .u64 0,.int .u64 0,.int .i64 0],10⟩
 refine r9_ ?_
 refine cF_ ?_
 refine r7_ ?_
 refine cF_ ?_
 refine r7_ ?_
 refine zd5 0 1 2 4 5 6 7 8 20 26 31 ?_
 refine cF_ ?_
 have hdk:DkR (devM S0 p d oE oW) (dkV d oE oW) d:=(hok.dk.dk (by have:=hz.el;omega) (by have:=hz.wl;omega)).less (Mem.less_set _ _ _ hok.fr.1)
 refine r10_ ?_
 refine ca_ rfl (zjk _ d _ (hdk.less (Mem.less_set _ _ _ f19.1)) hz.el hz.wl) ?_
 rintro _ S1 ⟨oE2,oW2,hok2,rfl,h1⟩
 rw [h1];clear h1 S1
 unfold dkV
 obtain ⟨pe2,ce2,he2⟩:=za6 hok2.e
 obtain ⟨pw2,cw2,hw2⟩:=za6 hok2.w
 rw [he2,hw2]
 have hb19:=hok2.less.own (Mem.own_set_same (devM S0 p d oE oW) b19 ⟨107,[.pointer none,.int .i64 d.size,outV oE d.ext.length,outV oW d.waits.length,.int .i64 d.fuse,.bool d.down,.slice none 0 0,.int .u64 0,.int .u64 0,.int .i64 0],10⟩)
 refine r2_ ?_
 refine ARun.store rfl rfl zao hb19 (show 1+5≤10 by decide) (by simp [Value.cells,Value.oneCell']) ?_
 try simp only [k_ms,k_sz,k_ss,k_za,Nat.reduceAdd]
 refine r2_ ?_
 refine AWP.less ((devM S0 p d oE oW).set b19 ⟨107,[.pointer none,.int .i64 d.size,.slice pe2 d.ext.length ce2,.slice pw2 d.waits.length cw2,.int .i64 d.fuse,.bool d.down,.slice none 0 0,.int .u64 0,.int .u64 0,.int .i64 0],10⟩) (by have:=zrD hok2 (r':=⟨107,[.pointer none,.int .i64 d.size,.slice pe2 d.ext.length ce2,.slice pw2 d.waits.length cw2,.int .i64 d.fuse,.bool d.down,.slice none 0 0,.int .u64 0,.int .u64 0,.int .i64 0],10⟩) (Mem.own_set_same _ _ _);rw [Mem.set_set] at this;exact this) ?_
 have hb0:=Mem.own_set_same (devM S0 p d oE oW) b19 ⟨107,[.pointer none,.int .i64 d.size,.slice pe2 d.ext.length ce2,.slice pw2 d.waits.length cw2,.int .i64 d.fuse,.bool d.down,.slice none 0 0,.int .u64 0,.int .u64 0,.int .i64 0],10⟩
 refine r5_ ?_
 refine ca_ rfl (zry p m d _ (by omega) h2) ?_
 rintro _ S1 ⟨a,b,rfl,fb,fa,hab,h1⟩
 rw [h1];clear h1 S1
 have ha0:=fa.ne hb0
 have hbb:=fb.ne hb0
 have hbo:(arM ((devM S0 p d oE oW).set b19 ⟨107,[.pointer none,.int .i64 d.size,.slice pe2 d.ext.length ce2,.slice pw2 d.waits.length cw2,.int .i64 d.fuse,.bool d.down,.slice none 0 0,.int .u64 0,.int .u64 0,.int .i64 0],10⟩) a p b m (newP d m) 0).own b19=_:=(Mem.own_set_other _ _ ha0).trans ((Mem.own_set_other _ _ hbb).trans hb0)
 have hA:=begun hok f19 fb fa hab (by rw [zjL];exact Nat.le_refl _) (x:=newP d m) rfl
 refine r13_ ?_
 refine ⟨_,_,⟨_,_,rfl,⟨_,_,rfl,rfl,rfl⟩,rfl⟩,Mem.Less.refl _,?_⟩
 exact ⟨S0,b19,a,p,b,⟨.int .i64 d.size,.slice pe2 d.ext.length ce2,.slice pw2 d.waits.length cw2,.int .i64 d.fuse,.bool d.down⟩,rfl,hS0,hw0,hA _⟩
end Sto
end
section
namespace Loser
open Num
def kLess (x y:List Nat):Bool:=match x,y with
  | [],_=>false
  | _ :: _,[]=>true
  | x,y=>lessB x y
theorem zcG (a b c:List Nat) (h1:lessB a b=true) (h2:lessB b c=true):lessB a c=true:=by
 induction a generalizing b c with
 | nil=>cases b with
  | nil=>simp [lessB] at h1
  | cons y b=>cases c with
   | nil=>simp [lessB] at h2
   | cons z c=>rfl
 | cons x a ih =>
  cases b with
  | nil=>simp [lessB] at h1
  | cons y b =>
   cases c with
   | nil=>simp [lessB] at h2
   | cons z c =>
    simp only [lessB,Bool.or_eq_true,decide_eq_true_eq,Bool.and_eq_true] at h1 h2 ⊢
    rcases h1 with h1 | ⟨h1,h1'⟩ <;> rcases h2 with h2 | ⟨h2,h2'⟩
    ·left;omega
    ·left;omega
    ·left;omega
    ·right;exact ⟨by omega,ih b c h1' h2'⟩
theorem zhF (x:List Nat):kLess x x=false:=by cases x with
 | nil=>rfl
 | cons a x=>exact zbg _
theorem ziU (x y z:List Nat) (h1:kLess x y=true) (h2:kLess y z=true):kLess x z=true:=by
 cases x with
 | nil=>simp [kLess] at h1
 | cons a x=>cases y with
  | nil=>simp [kLess] at h2
  | cons b y=>cases z with
   | nil=>rfl
   | cons c z=>exact zcG _ _ _ h1 h2
theorem ziV (x y:List Nat) (h1:kLess x y=false) (h2:kLess y x=false):x=y:=by
 cases x with
 | nil=>cases y with
  | nil=>rfl
  | cons b y=>simp [kLess] at h2
 | cons a x=>cases y with
  | nil=>simp [kLess] at h1
  | cons b y=>exact zdu _ _ h1 h2
def key (ks:List (List Nat)) (a:Nat):List Nat:=ks.getD a []
def beatsP (ks:List (List Nat)) (a b:Nat):Bool:=kLess (key ks a) (key ks b) || (decide (key ks a=key ks b) && decide (a<b))
theorem zhG (ks:List (List Nat)) (a:Nat):beatsP ks a a=false:=by simp [beatsP,zhF]
theorem zdA (ks:List (List Nat)) (a b c:Nat) (h1:beatsP ks a b=true) (h2:beatsP ks b c=true):beatsP ks a c=true:=by
 simp only [beatsP,Bool.or_eq_true,Bool.and_eq_true,decide_eq_true_eq] at h1 h2 ⊢
 rcases h1 with h1 | ⟨h1,h1'⟩ <;> rcases h2 with h2 | ⟨h2,h2'⟩
 ·exact .inl (ziU _ _ _ h1 h2)
 ·left;rw [← h2];exact h1
 ·left;rw [h1];exact h2
 ·right;exact ⟨h1.trans h2,by omega⟩
theorem zcH (ks:List (List Nat)) (a b:Nat) (h1:beatsP ks a b=true):beatsP ks b a=false:=by
 cases h:beatsP ks b a with
 | false=>rfl
 | true=>have:=zdA ks a b a h1 h;rw [zhG] at this;cases this
theorem ziW (ks:List (List Nat)) (a b:Nat) (hne:a≠b):beatsP ks a b=true∨beatsP ks b a=true:=by
 simp only [beatsP,Bool.or_eq_true,Bool.and_eq_true,decide_eq_true_eq]
 cases h1:kLess (key ks a) (key ks b) with
 | true=>simp
 | false =>
  cases h2:kLess (key ks b) (key ks a) with
  | true=>simp
  | false =>
   have:=ziV _ _ h1 h2
   rw [this];simp;omega
theorem zhH (ks:List (List Nat)) (a b:Nat) (hne:a≠b):beatsP ks a b = !beatsP ks b a:=by
 rcases ziW ks a b hne with h | h
 ·rw [h,zcH ks a b h];rfl
 ·rw [h,zcH ks b a h];rfl
def winF (ks:List (List Nat)):Nat→Nat→Nat
  | 0,n=>n-ks.length
  | f+1,n=>if ks.length≤n then n-ks.length else
    if beatsP ks (winF ks f (2*n+1)) (winF ks f (2*n)) then winF ks f (2*n+1) else winF ks f (2*n)
theorem zhI (ks:List (List Nat)) (f g n:Nat) (hn:1≤n) (hf:ks.length≤f+n) (hg:ks.length≤g+n):winF ks f n=winF ks g n:=by
 induction f generalizing g n with
 | zero=>cases g with
  | zero=>rfl
  | succ g=>rw [winF,winF,if_pos (by omega)]
 | succ f ih=>cases g with
  | zero=>rw [winF,winF,if_pos (by omega)]
  | succ g =>
   rw [winF,winF]
   split
   ·rfl
   ·rw [ih g (2*n) (by omega) (by omega) (by omega),ih g (2*n+1) (by omega) (by omega) (by omega)]
def win (ks:List (List Nat)) (n:Nat):Nat:=winF ks ks.length n
def los (ks:List (List Nat)) (n:Nat):Nat:=if beatsP ks (win ks (2*n+1)) (win ks (2*n)) then win ks (2*n) else win ks (2*n+1)
theorem zeP (ks:List (List Nat)) (n:Nat) (h:ks.length≤n):win ks n=n-ks.length:=by
 have:∀ f,winF ks f n=n-ks.length:=fun f=>by
  cases f with
  | zero=>rfl
  | succ f=>rw [winF,if_pos h]
 exact this _
theorem zjM (ks:List (List Nat)) (n:Nat) (hn:1≤n) (h:n<ks.length):win ks n=if beatsP ks (win ks (2*n+1)) (win ks (2*n)) then win ks (2*n+1) else win ks (2*n):=by
 unfold win
 obtain ⟨f,hf⟩ : ∃ f,ks.length=f+1:=⟨ks.length-1,by omega⟩
 conv=>lhs;rw [hf,winF]
 rw [if_neg (by omega),zhI ks f ks.length (2*n) (by omega) (by omega) (by omega),zhI ks f ks.length (2*n+1) (by omega) (by omega) (by omega)]
def under (k n i:Nat):Prop:=∃ j,(k+i) / 2 ^ j=n
theorem zbP (x j:Nat):x / 2 ^ (j+1)=x / 2 ^ j / 2:=by rw [Nat.pow_succ,Nat.div_div_eq_div_mul]
theorem zf3 {k n i:Nat} (hi:i<k) (hn:k≤n):under k n i ↔ n=k+i:=by
 constructor
 ·rintro ⟨j,h⟩
  cases j with
  | zero=>simpa using h.symm
  | succ j =>
   have h1:(k+i) / 2 ^ (j+1)≤(k+i) / 2:=by
    rw [Nat.pow_succ,Nat.mul_comm,← Nat.div_div_eq_div_mul];exact Nat.div_le_self _ _
   omega
 ·rintro rfl;exact ⟨0,by simp⟩
theorem zbY {k n i:Nat} (hn:n<k):under k n i ↔ under k (2*n) i∨under k (2*n+1) i:=by
 constructor
 ·rintro ⟨j,h⟩
  cases j with
  | zero=>simp at h;omega
  | succ j =>
   rw [zbP] at h
   have:(k+i) / 2 ^ j=2*n∨(k+i) / 2 ^ j=2*n+1:=by omega
   rcases this with h | h
   ·exact .inl ⟨j,h⟩
   ·exact .inr ⟨j,h⟩
 ·rintro (⟨j,h⟩ | ⟨j,h⟩) <;> exact ⟨j+1,by rw [zbP,h];omega⟩
theorem zfn {k a b i:Nat} (ha:under k a i) (hb:under k b i) (h:b<a):b≤a / 2:=by
 obtain ⟨j,rfl⟩:=ha
 obtain ⟨j',rfl⟩:=hb
 have hlt:j<j':=by
  rcases Nat.lt_or_ge j j' with h' | h'
  ·exact h'
  ·exfalso
   have:=Nat.div_le_div_left (Nat.pow_le_pow_right (by decide) h':2 ^ j'≤2 ^ j) (Nat.pow_pos (by decide:0<2)) (a:=k+i)
   omega
 obtain ⟨d,rfl⟩ : ∃ d,j'=j+1+d:=⟨j'-j-1,by omega⟩
 rw [Nat.pow_add,← Nat.div_div_eq_div_mul,zbP]
 exact Nat.div_le_self _ _
theorem zcI {k n i:Nat} (hn:1≤n) (h1:under k (2*n) i) (h2:under k (2*n+1) i):False:=by
 have:=zfn h2 h1 (by omega);omega
theorem zdV {k i:Nat} (hi:i<k):under k 1 i:=by
 have:∀ x,1≤x → ∃ j,x / 2 ^ j=1:=by
  intro x
  induction x using Nat.strongRecOn with
  | _ x ih =>
   intro hx
   by_cases h:x=1
   ·exact ⟨0,by simpa using h⟩
   ·obtain ⟨j,hj⟩:=ih (x / 2) (by omega) (by omega)
    exact ⟨j+1,by rw [Nat.pow_succ,Nat.mul_comm,← Nat.div_div_eq_div_mul];exact hj⟩
 exact this (k+i) (by omega)
theorem zgK (ks:List (List Nat)):∀ (d n:Nat),2*ks.length≤d+n→1≤n→n<2*ks.length→win ks n<ks.length∧under ks.length n (win ks n) ∧ ∀ i,i<ks.length→under ks.length n i→i≠win ks n→beatsP ks (win ks n) i=true:=by
 intro d
 induction d with
 | zero=>intro n h _ h2;omega
 | succ d ih =>
  intro n hd hn h2
  by_cases hk:ks.length≤n
  ·rw [zeP ks n hk]
   refine ⟨by omega,(zf3 (by omega) hk).2 (by omega),fun i hi hu hne=>?_⟩
   have:=(zf3 hi hk).1 hu;omega
  ·have hk':n<ks.length:=by omega
   obtain ⟨a1,a2,a3⟩:=ih (2*n) (by omega) (by omega) (by omega)
   obtain ⟨b1,b2,b3⟩:=ih (2*n+1) (by omega) (by omega) (by omega)
   have hab:win ks (2*n+1)≠win ks (2*n):=fun e=>zcI hn a2 (e ▸ b2)
   rw [zjM ks n hn hk']
   split
   ·rename_i hb
    refine ⟨b1,(zbY hk').2 (.inr b2),fun i hi hu hne=>?_⟩
    rcases (zbY hk').1 hu with hu | hu
    ·by_cases e:i=win ks (2*n)
     ·subst e;exact hb
     ·exact zdA _ _ _ _ hb (a3 i hi hu e)
    ·exact b3 i hi hu hne
   ·rename_i hb
    have hb':beatsP ks (win ks (2*n)) (win ks (2*n+1))=true:=by rw [zhH ks _ _ (Ne.symm hab)];simpa using hb
    refine ⟨a1,(zbY hk').2 (.inl a2),fun i hi hu hne=>?_⟩
    rcases (zbY hk').1 hu with hu | hu
    ·exact a3 i hi hu hne
    ·by_cases e:i=win ks (2*n+1)
     ·subst e;exact hb'
     ·exact zdA _ _ _ _ hb' (b3 i hi hu e)
theorem zco {ks:List (List Nat)} {n:Nat} (hn:1≤n) (h:n<2*ks.length):win ks n<ks.length:=(zgK ks (2*ks.length) n (by omega) hn h).1
theorem zbQ {ks:List (List Nat)} {n:Nat} (hn:1≤n) (h:n<2*ks.length):under ks.length n (win ks n):=(zgK ks (2*ks.length) n (by omega) hn h).2.1
theorem zcp {ks:List (List Nat)} {n i:Nat} (hn:1≤n) (h:n<2*ks.length) (hi:i<ks.length) (hu:under ks.length n i) (hne:i≠win ks n):beatsP ks (win ks n) i=true:=(zgK ks (2*ks.length) n (by omega) hn h).2.2 i hi hu hne
theorem ztn {ks:List (List Nat)} {n:Nat} (hn:1≤n) (h:n<ks.length):win ks (2*n+1)≠win ks (2*n):=fun e=>zcI hn (zbQ (by omega) (by omega)) (e ▸ zbQ (n:=2*n+1) (by omega) (by omega))
theorem zjN {ks:List (List Nat)} {n w:Nat} (hn:1≤n) (h:n<2*ks.length) (hw:w<ks.length) (hu:under ks.length n w) (hb:∀ i,i<ks.length→under ks.length n i→i≠w→beatsP ks w i=true):win ks n=w:=by
 by_cases e:w=win ks n
 ·exact e.symm
 ·have h1:=zcp hn h hw hu e
  have h2:=hb (win ks n) (zco hn h) (zbQ hn h) (Ne.symm e)
  rw [zcH _ _ _ h1] at h2;cases h2
def treeOf (ks:List (List Nat)):List Int:=(List.range ks.length).map fun n=>if n=0 then (win ks 1:Int) else (los ks n:Int)
theorem zaW (ks:List (List Nat)):(treeOf ks).length=ks.length:=by simp [treeOf]
end Loser
end
section
open Go.RowKit
open Mv Disk Num Loser
set_option maxRecDepth 4000
namespace Sto
structure RowV (R:Mem) where
  v:Value
  l:List Nat
  h:Sl 1 u64s R v l
instance (R:Mem):Inhabited (RowV R):=⟨⟨_,[],Sl.nil _ _ _⟩⟩
def cfR {R:Mem} (x y:RowV R):Int:=cmpB x.l y.l
theorem zjO {R:Mem} (x y:RowV R):ltOf cfR x y=lessB x.l y.l:=ziy x.l y.l
theorem zf4 (a b c:List Nat) (h1:lessB a b=false) (h2:lessB b c=false):lessB a c=false:=by
 cases e:lessB a c with
 | false=>rfl
 | true =>
  exfalso
  cases e1:lessB b a with
  | true =>
   have:=zcG _ _ _ e1 e
   rw [h2] at this;cases this
  | false =>
   have:=zdu _ _ h1 e1
   subst this
   rw [h2] at e;cases e
theorem swoR (R:Mem):Go.Sort.SWO (ltOf (cfR (R:=R))) :=
 ⟨fun a=>by rw [zjO];exact zbg _,fun a b c h1 h2=>by rw [zjO] at *;exact zcG _ _ _ h1 h2,fun a b c h1 h2=>by rw [zjO] at *;exact zf4 _ _ _ h1 h2⟩
def SortedR (l:List (List Nat)):Prop:=l.Pairwise fun a b=>lessB b a=false
theorem rowVs {R:Mem}:∀ (hs:List Value) (rows:List (List Nat)),hs.length=rows.length→(∀ i (h:i<hs.length),RowR R hs[i] (rows.getD i [])) → ∃ L:List (RowV R),L.map RowV.v=hs∧L.map (·.l)=rows
 | [],[],_,_=>⟨[],rfl,rfl⟩
 | [],_ :: _,h,_=>by simp at h
 | _ :: _,[],h,_=>by simp at h
 | v :: hs,r :: rows,h,g=>by
  obtain ⟨L,h1,h2⟩:=rowVs hs rows (by simpa using h) (fun i hi=>by have:=g (i+1) (by simpa using hi);simpa using this)
  exact ⟨⟨v,r,g 0 (Nat.succ_pos _)⟩ :: L,by rw [List.map_cons,h1],by rw [List.map_cons,h2]⟩
theorem zpo {R:Mem} (x y:RowV R) (w:World) (hw:View R w):Calls Tryz.prog 144 #[x.v,y.v] w fun e w'=>e = .returned (.int .i64 (cfR x y))∧w'=w:=by
 have h:=zhu x.v y.v x.l y.l R x.h y.h w hw
 go_enter Tryz.func144,Tryz.ntmps144
 go_wp2_with (go_at_call 145;refine h.mono ?_;rintro e w' ⟨rfl,rfl⟩)
 go_ret
 exact ⟨by simp [cfR],rfl⟩
theorem zpp {R M:Mem} (L:List (RowV R)) (hR:R.Less M) (g cc room:Nat) (hg:Fresh M g) (hn:L.length≤65536) :
  ACall Tryz.prog 143 #[.slice (some ⟨g,0,none⟩) L.length cc,.func (.func 144) #[] #[]] (M.set g ⟨22,L.map RowV.v,room⟩) fun r S'=>r = .tuple #[] ∧ ∃ L':List (RowV R),L'.Perm L∧SortedR (L'.map (·.l))∧S'=M.set g ⟨22,L'.map RowV.v,room⟩ :=
 (zqm (P:=Tryz.prog) (f:=143) (g:=144) (cb:=#[]) (enc:=RowV.v) (cf:=cfR) L rfl (by omega) hg (fun w hw x y=>by
   show Calls Tryz.prog 144 #[x.v,y.v] w _
   exact (zpo x y w (hw.less hR)).mono fun e w' ⟨he,hw⟩=>⟨he,0,#[],by rw [hw,Go.Sort.grow_empty];rfl⟩)
  fun d w h1 h2 h3 h4=>Tryz.slices_SortFunc_f143 RowV.v (fun x=>by obtain ⟨_,_,e,_⟩:=x.h;rw [e];rfl) cfR (swoR R) 144 #[] g 0 cc d w (fun _ _=>zbJ (by kernel_rfl) _ _) h1 h2 h3 h4).mono fun r S' ⟨h1,L',h2,h3,h4⟩=>⟨h1,L',h2,List.pairwise_map.2 (h3.imp fun {x y} h=>by rw [← zjO];exact decide_eq_false h),h4⟩
theorem Sealed.of {S:Mem} {a p b c q:Nat} {r r':Wt} {x y z:Pl} {n B w ct:Nat} {L L':List UInt8} {T:Mem} (h:WtT S a p b c q r r' x y n B L T) (g:Sealed y z r'.nm w ct B L'):Sealed x z r.nm w ct B L':=by
 have e:=h.nm
 rw [e] at g
 exact ⟨g.ps,h.st.trans g.st,fun o f hl ho hu=>g.us o f hl ho (hu.oth h.ot ho h.st.l),g.uo,g.hd,g.wr,g.cl,g.nb⟩
theorem zm5 {R:Mem} (l:List (RowV R)) {k:Nat} (h:k<(l.map (·.l)).length):((l.map (·.l)).take k).flatMap recB ++ recB (l[k]'(by simpa using h)).l=((l.map (·.l)).take (k+1)).flatMap recB:=by
 rw [List.take_succ_eq_append_getElem h,List.flatMap_append,List.getElem_map]
 simp
structure QX where
  T:Mem
  y:Pl
  f:Nat
  hd:Nat
  k:Nat
set_option maxHeartbeats 4000000 in
theorem zpq (S:Mem) (a p b c q:Nat) (s:ByteArray) (w:Nat) (x:Pl) (n B:Nat) (M R:Mem) (g cc room:Nat) (hs:List Value) (rows:List (List Nat)) (h:WtS S a p b c q ⟨s,w,0,0,0,0⟩ x n B [] M) (hg:Fresh M g) (hR:R.Less S) (hRq:R.own q=none) (hl:hs.length=rows.length) (hrr:∀ i (h:i<hs.length),RowR R hs[i] (rows.getD i []))
  (hr:RowsOK w rows) (h1:1≤w) (h8:w≤8) (hc:rows.length≤65536) (hns:ns x.d s=Rec.needN w rows.length) (hn:n+5*w*rows.length+x.fr.length≤16384) (hB:B<x.fr.length) :
  ACall Tryz.prog 94 #[self q,.slice (some ⟨g,0,none⟩) rows.length cc] (M.set g ⟨22,hs,room⟩) fun v T'=>v = .nilIface ∧ ∃ r' y rows',rows'.Perm rows∧SortedR rows'∧ArS (S.set q (wtB a r')) a p b c y T'∧Sealed x y s w rows.length B (rows'.flatMap recB):=by
 obtain ⟨V,v1,v2⟩:=rowVs hs rows hl hrr
 have vl:V.length=rows.length:=by rw [← v2,List.length_map]
 have hRM:R.Less M:=hR.trans (zaQ h.ar)
 have hsort:=zpp V hRM g cc room hg (by omega)
 rw [vl,v1] at hsort
 have hmul:5*w*rows.length≤40*65536:=Nat.mul_le_mul (by omega) hc
 refine k_E2 (rs:=[.tmp 4]) 27 Tryz.func94 rfl rfl rfl ?_
 refine r8_ ?_
 refine ca_ rfl (hsort) ?_
 rintro _ S1 ⟨rfl,V',s1,s2,h1⟩
 rw [h1];clear h1 S1
 have u1:(V'.map (·.l)).Perm rows:=by rw [← v2];exact s1.map _
 have ul:V'.length=rows.length:=by rw [s1.length_eq,vl]
 have hr':RowsOK w (V'.map (·.l)):=fun r hm=>hr r (u1.mem_iff.1 hm)
 have hrl:∀ i (hi:i<V'.length),V'[i].l.length=w ∧ ∀ n ∈ V'[i].l,n<Num.top:=fun i hi=>hr' _ (List.mem_map_of_mem (List.getElem_mem hi))
 clear s1 v1 v2 hrr
 refine r11_ ?_
 refine AWP.loop (X:=QX) (fun X=>[(0,self q),(10,.slice (some ⟨g,0,none⟩) rows.length cc),(11,.int .i64 (rows.length:Nat)),(12,.int .i64 (X.k:Nat))]) (fun X=>X.T.set g ⟨22,V'.map RowV.v,room⟩) (fun X=>WtT S a p b c q ⟨s,w,0,0,0,0⟩ ⟨s,w,X.k,5*w*X.k,X.f,X.hd⟩ x X.y (n+5*w*X.k) B (((V'.map (·.l)).take X.k).flatMap recB) X.T∧Fresh X.T g∧X.k≤rows.length) (fun X=>rows.length-X.k) (⟨M,x,0,0,0⟩) ⟨rfl,rfl,rfl,rfl,trivial⟩ (Mem.Less.refl _) (⟨WtT.refl h,hg,Nat.zero_le _⟩) ?_
 rintro ⟨T,y,f,hd,k⟩ ⟨hT,hf,hk⟩
 (try dsimp only at *)
 replace hT:WtT S a p b c q ⟨s,w,0,0,0,0⟩ ⟨s,w,k,5*w*k,f,hd⟩ x y (n+5*w*k) B (((V'.map (·.l)).take k).flatMap recB) T:=hT
 replace hf:Fresh T g:=hf
 replace hk:k≤rows.length:=hk
 by_cases q1:k<rows.length
 ·have hkV:k<V'.length:=by omega
  obtain ⟨e1,e2⟩:=hrl k hkV
  have hmk:5*w*(k+1)≤5*w*rows.length:=Nat.mul_le_mul_left _ q1
  rw [Nat.mul_add,Nat.mul_one] at hmk
  have hRT:R.Less T:=(zap hR hRq).trans (zaQ hT.s.ar)
  have hput:=(zqq (S.set q (wtB a ⟨s,w,k,5*w*k,f,hd⟩)) a p b c q _ y (n+5*w*k) B _ (V'[k].v) (V'[k].l) T hT.s (V'[k].h.less hRT) (by omega) (by omega) (fun z hz=>Nat.lt_of_lt_of_le (e2 z hz) (by decide)) (by show k≤_;omega) (by rw [e1];show 5*w*k+5*w≤_;omega) (by rw [e1,hT.st.n,hns];show 1+(5*w*k+5*w-1) / 64<_;unfold Rec.needN Rec.eachN;rw [if_neg (by omega)];omega) (by rw [e1];omega) (by rw [hT.st.l];exact hB)).frame (r:=⟨22,V'.map RowV.v,room⟩) hf
  refine r6_ ?_
  refine cT_ ?_
  refine r7_ ?_
  refine rC (Calm.load zdr rfl (v:=V'[k].v) (zbt (Mem.own_set_same _ _ _) (by show (V'.map RowV.v)[0+(k:Int).toNat*1]?=_;rw [show 0+(k:Int).toNat*1=k from by omega,List.getElem?_map,List.getElem?_eq_getElem hkV];rfl))) ?_
  refine r7_ ?_
  refine ca_ rfl (hput) ?_
  rintro _ S1 ⟨Sa,⟨rfl,z,f',hd',hU⟩,hfa,h1⟩
  rw [h1];clear h1 S1
  refine ca_ rfl (zce _ _) ?_
  rintro _ S1 ⟨rfl,h1⟩
  rw [h1];clear h1 S1
  refine r6_ ?_
  refine rC (Calm.bin rfl rfl Er.neNil) ?_
  refine r2_ ?_
  refine cF_ ?_
  rw [e1,zm5 _ (by rw [List.length_map];exact hkV),show n+5*w*k+5*w=n+5*w*(k+1) from by rw [Nat.mul_add,Nat.mul_one,Nat.add_assoc]] at hU
  refine r8_ ?_
  refine ⟨⟨Sa,z,f',hd',k+1⟩,?_,?_,?_,?_⟩
  all_goals (try dsimp only)
  ·exact ⟨rfl,rfl,rfl,rfl,trivial⟩
  ·exact Mem.Less.refl _
  ·exact ⟨by rw [show 5*w*(k+1)=5*w*k+5*w from by rw [Nat.mul_add,Nat.mul_one]];exact hT.trans hU,hfa,q1⟩
  ·omega
 ·obtain rfl:k=rows.length:=by omega
  have hse:=(ziQ (S.set q (wtB a ⟨s,w,rows.length,5*w*rows.length,f,hd⟩)) a p b c q _ y (n+5*w*rows.length) B _ T hT.s h1 h8 (by show rows.length<_;omega) (by rw [hT.st.l];omega) (by rw [hT.st.n,hns];exact Rec.zbl _ _)).frame (r:=⟨22,V'.map RowV.v,room⟩) hf
  refine r6_ ?_
  refine cF_ ?_
  refine r8_ ?_
  refine ca_ rfl (hse) ?_
  rintro _ S1 ⟨Sa,⟨rfl,z,hA,hS⟩,hfa,h1⟩
  rw [h1];clear h1 S1
  refine ca_ rfl (zce _ _) ?_
  rintro _ S1 ⟨rfl,h1⟩
  rw [h1];clear h1 S1
  rw [Mem.set_set] at hA
  rw [List.take_of_length_le (by rw [List.length_map];omega)] at hS
  refine r3_ ?_
  refine k_v6 0 10 11 12 13 4 ?_
  refine s1_ ?_
  refine ⟨_,Sa,⟨_,_,rfl,rfl,rfl⟩,Mem.less_set _ _ _ hfa.1,?_⟩
  exact ⟨rfl,_,z,V'.map (·.l),u1,s2,hA,Sealed.of hT hS⟩
end Sto
end
section
open Go.RowKit
open Mv Disk Num
set_option maxRecDepth 4000
namespace Sto
set_option maxHeartbeats 4000000 in
theorem zm6 (S:Mem) (a p b c wk:Nat) (u:W5) (tm:Value) (x:Pl) (s:ByteArray) (n w ct:Nat) (T:Mem) (h:ArS S a p b c x T) (hw:S.own wk=some (wkB a u tm)) (hp:Ps x n) (hh:Rec.headD x.d s=(w,ct,0)) (h1:1≤w) (hs:s.size≤1024) :
  ACall Tryz.prog 47 #[self wk,.string s] T fun v T'=>∃ q y,v = .tuple #[self q,.nilIface]∧Fresh S q∧ArS (S.set q (rdB a ⟨s,w,ct,0,0,0⟩)) a p b c y T'∧y.d=x.d∧y.fr=x.fr:=by
 have hq:=zaj h hw
 unfold wkB at hq
 have hfr:=zrC S a p b c x s n w ct T h hp hh
 refine k_E2 (rs:=[.tmp 4,.tmp 5]) 41 Tryz.func47 rfl rfl rfl ?_
 refine r13_ ?_
 refine ca_ rfl (hfr) ?_
 rintro _ S1 ⟨q,rfl,hg,h1⟩
 rw [h1];clear h1 S1
 obtain ⟨k1,k2⟩:=zdU h hg (rdB a ⟨s,w,ct,0,0,0⟩)
 have o1:=(Mem.own_set_other T (rdB a ⟨s,w,ct,0,0,0⟩) (hg.ne hq)).trans hq
 obtain ⟨i,hA⟩:=zcd k2
 unfold arB at hA
 have oq:=Mem.own_set_same T q (rdB a ⟨s,w,ct,0,0,0⟩)
 have hqa:=ztj k2 (Mem.own_set_same S q (rdB a ⟨s,w,ct,0,0,0⟩))
 generalize T.set q (rdB a ⟨s,w,ct,0,0,0⟩)=T1 at *
 unfold rdB at oq
 refine r22_ ?_
 have k3:=zqr k2 (x':={ x with reads:=up1 x.reads }) rfl rfl i
 refine r14_ ?_
 refine cF_ ?_
 refine r6_ ?_
 refine rC (Calm.bin rfl rfl (zbn (by show 5+s.size≤_;omega))) ?_
 refine s1_ ?_
 refine ca_ rfl (zce _ _) ?_
 rintro _ S1 ⟨rfl,h1⟩
 rw [h1];clear h1 S1
 refine r5_ ?_
 refine ⟨_,_,⟨_,_,rfl,⟨_,_,rfl,rfl,rfl⟩,rfl⟩,Mem.Less.refl _,?_⟩
 exact ⟨q,{ x with reads:=up1 x.reads },rfl,k1,k3,rfl,rfl⟩
set_option maxHeartbeats 4000000 in
theorem zto (S:Mem) (a p b c wk:Nat) (u:W5) (tm:Value) (x:Pl) (s:ByteArray) (w ct n B:Nat) (T:Mem) (h:ArS S a p b c x T) (hwk:S.own wk=some (wkB a u tm)) (hp:Ps x n) (hs:nm s) (h0:ns x.d s=0) (hw:w≤8) (hct:ct≤65536) (hr:(used x.d.ext:Int)+(Rec.needN w ct:Nat)≤x.d.size) (hB:nb x.fr≤B) :
  ACall Tryz.prog 20 #[self wk,.string s,.int .i64 (w:Nat),.int .u64 (ct:Nat)] T fun v T'=>∃ q y,v = .tuple #[self q,.nilIface]∧Fresh S q∧WtS (S.set q (wtB a ⟨s,w,0,0,0,0⟩)) a p b c q ⟨s,w,0,0,0,0⟩ y n B [] T'∧Made x y s (Rec.needN w ct):=by
 have hq:=zaj h hwk
 unfold wkB at hq
 have hto:=zt4 S a p b c x s w ct n B T h hp hs h0 hw hct hr hB
 have hsz:=hs.2
 refine k_E4 (rs:=[.tmp 8,.tmp 9]) 28 Tryz.func20 rfl rfl rfl ?_
 refine r15_ ?_
 refine ca_ rfl (hto) ?_
 rintro _ T1 ⟨q,y,rfl,k1,k2,k3⟩
 refine r11_ ?_
 refine rC (Calm.bin rfl rfl (zbn (by show 6+s.size≤_;omega))) ?_
 refine s1_ ?_
 refine ca_ rfl (zce _ _) ?_
 rintro _ S1 ⟨rfl,h1⟩
 rw [h1];clear h1 S1
 refine r5_ ?_
 refine ⟨_,T1,⟨_,_,rfl,⟨_,_,rfl,rfl,rfl⟩,rfl⟩,zad,?_⟩
 exact ⟨q,y,rfl,k1,k2,k3⟩
end Sto
end
end Go.Proofs.YtoaoibeobhcgmaaGreatDoor
