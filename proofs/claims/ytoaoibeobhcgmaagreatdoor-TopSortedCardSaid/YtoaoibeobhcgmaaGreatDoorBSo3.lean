/-
  Texts that belong together: Disk19, Disk20, DiskR0, Draw, DR10, DiskIter, DiskSee, Region, Disk21, Disk22, DR7, DR8, DiskLv0, DkP1, CrcMath, CrcWalk, CrcWalk2, CrcWalk3, NumMath, RecMath, NumMath3, CrcPlain, CrcOneWalk, RecMath2, BldLib, Bld, NumBase, VNum1, VNum2.
-/
import Derived.Test.YtoaoibeobhcgmaaGreatDoorBSo2
import Derived.RangeFuncNested
import Derived.RangeFuncBound
import Derived.RangeFuncCalls
import Derived.RangeFuncLeaves
import Derived.Shelf.Abstract
import Derived.Shelf.RegionOpen
import Derived.WalkKit
import Derived.OwnWalkIn
import Derived.TacticsInMore
import Derived.LoopNIn
import Derived.LoopIn
import Derived.Test.YtoaoibeobhcgmaaGreatDoorBase
import Derived.Orders
import Derived.Laws.BitsLemmas
import Derived.Laws.BytesArg
import Derived.Lib.Strings
import Derived.Lib.AppendStr
import Derived.Lib.UnsafeStr
import Derived.Lib.Builder
import Derived.LaidEqlPtr
set_option linter.unusedVariables false
set_option linter.unusedSimpArgs false
set_option linter.unusedSectionVars false
namespace Go.Proofs.YtoaoibeobhcgmaaGreatDoor
section
open Go.RowKit
open Mv Disk
set_option maxRecDepth 4000
abbrev u8T:TypeId:=5
def OkB (M:Mem) (o:Option (Nat × Nat)) (n:Nat):Prop:=∀ b c,o=some (b,c)→Fresh M b∧n≤c
set_option maxHeartbeats 8000000 in
theorem zkp (p:Nat) (d:D) (S:Mem) (oE oW:Option (Nat × Nat)) (hok:OkV S p d oE oW) (hR:Right d) (f:FuncId) (caps:List Value) (hgo:goFn Tryz.prog f=true) (kp:Nat→Bool)
  (hkeep:∀ (k:Nat) (M:Mem),k<d.waits.length→S.Less M→ACall Tryz.prog f (([] : List Value) ++ [Value.int .i64 (k:Int)] ++ caps).toArray M fun r S'=>r = .bool (kp k)∧S'=M) :
  ACall Tryz.prog 81 #[.pointer (some ⟨p,0,none⟩),.func (.func f) #[] caps.toArray] (devM S p d oE oW) fun r S'=>r = .tuple #[]∧OkV S p (settleD d kp) oE none∧S'=devM S p (settleD d kp) oE none:=by
 have hrl:=zaV hR
 have hlens:=zaC hR
 have hwl:=hR.wl
 have hp:(devM S p d oE oW).own p=some (devB d oE oW):=Mem.own_set_same _ _ _
 obtain ⟨qe,de,hqe⟩:=za6 hok.dk.e
 obtain ⟨qw,dw,hqw⟩:=za6 hok.dk.w
 have hp':=hp
 unfold devB at hp'
 refine k_E2 (rs:=[]) 73 Tryz.func81 rfl rfl rfl ?_
 refine r8_ ?_
 refine rC ((by rw [hqe];exact Calm.lenSl Tryz.underlying26 rfl)) ?_
 refine r4_ ?_
 refine AWP.loop (X:=Nat) (fun x=>[(0,.pointer (some ⟨p,0,none⟩)),(1,.func (.func f) #[] caps.toArray),(13,outV oE d.ext.length),(14,.int .i64 d.ext.length),(15,.int .i64 x)]) (fun x=>devM S p { d with ext:=mixE kp d.waits d.ext x } oE oW) (fun x=>x≤d.ext.length∧OkV S p { d with ext:=mixE kp d.waits d.ext x } oE oW) (fun x=>d.ext.length-x) (0) ⟨rfl,rfl,rfl,rfl,rfl,trivial⟩ (by rw [zhd];exact Mem.Less.refl _) (⟨Nat.zero_le _,by rw [zhd];exact hok⟩) ?_
 rintro i ⟨hi,hoki⟩
 (try dsimp only at *)
 have hml:=zon kp d.waits d.ext i
 have hpi:(devM S p { d with ext:=mixE kp d.waits d.ext i } oE oW).own p=some (devB { d with ext:=mixE kp d.waits d.ext i } oE oW):=Mem.own_set_same _ _ _
 unfold devB at hpi
 simp only at hpi
 refine r6_ ?_
 refine AWP.condB rfl (fun hc=>?_) (fun hc=>?_)
 ·have hc:i<d.ext.length:=by have:=of_decide_eq_true hc;omega
  obtain ⟨⟨b,c⟩,rfl⟩ : ∃ q,oE=some q:=by cases hq:oE with | none=>(have:=hoki.fits.e0 hq;simp only at this;omega) | some q=>exact ⟨q,rfl⟩
  have hbE:=zol hoki
  have hmg:=zoo kp d.waits d.ext i hc (by omega)
  have hmsu:=zlT kp d.waits d.ext i hc
  have hxm:=List.getElem_mem hc
  have hfit:=ze3 hR hxm
  have hsx:=zb2 hR hxm
  have hasz:=fun n h=>zeD (kp:=kp) hfit n h
  have hSi:=hoki.less
  have hWS:Sl 3 wrF (devM S p { d with ext:=mixE kp d.waits d.ext i } (some (b,c)) oW) (outV oW d.waits.length) d.waits:=(zcP zci (e:=wrT) hoki.dk.w rfl hlens.2).less (Mem.less_set _ _ _ hoki.fr.1)
  rw [hqw] at hWS
  have hki:(devM S p { d with ext:=mixE kp d.waits d.ext i } (some (b,c)) oW).Knows ⟨b,0+i*2,none⟩ (extF d.ext[i]):=Mem.own_knows hbE _ _ (fun j v hj=>by have:=zdE za2 (mixE kp d.waits d.ext i) i (by omega) j v (by rw [hmg];exact hj);rw [← this];congr 1;omega)
  have hdx:doneX kp d.waits d.ext[i]=(d.ext[i].1,(accW kp d.ext[i] d.waits d.waits.length).getD d.ext[i].2):=rfl
  rw [hdx] at hmsu
  have hasu:=ze2 kp d.ext[i] d.waits
  have hse:=fun y=>zom (d':={ d with ext:=(mixE kp d.waits d.ext i).set i y }) hoki rfl (by simp) rfl rfl rfl
  have hcl:0+i*2+1<((mixE kp d.waits d.ext i).flatMap extF).length:=by rw [zaq za2,hml];omega
  simp only at hbE hse
  generalize hxx:d.ext[i]=x at *
  unfold extF at hki
  generalize hMi:devM S p { d with ext:=mixE kp d.waits d.ext i } (some (b,c)) oW=Mi at *
  refine r7_ ?_
  refine rC (Calm.indexS Tryz.underlying26 zat rfl rfl (by omega) (by omega)) ?_
  refine s1_ ?_
  refine ARun.alloc (zab rfl) zbo ?_
  intro b5 f5
  have g5:=f5
  repeat ((with_reducible replace g5:=zaa g5);obtain ⟨g5,_⟩:=g5)
  refine nl_ ?_
  refine r4_ ?_
  have hpb5:=f5.ne hpi
  refine r13_ ?_
  refine rC ((by rw [hqw];exact Calm.lenSl Tryz.underlying27 rfl)) ?_
  rw [hqw]
  refine r4_ ?_
  refine AWP.loop (X:=Nat × Option (Nat × Nat)) (fun y=>[(0,.pointer (some ⟨p,0,none⟩)),(1,.func (.func f) #[] caps.toArray),(13,outV (some (b,c)) d.ext.length),(14,.int .i64 d.ext.length),(15,.int .i64 i),(4,.int .i64 i),(5,.pointer (some ⟨b5,0,none⟩)),(6,outV y.2 x.2.size),(24,.slice qw d.waits.length dw),(25,.int .i64 d.waits.length),(26,.int .i64 y.1)]) (fun y=>outM (Mi.set b5 ⟨155,[.string x.1,.string x.2],2⟩) y.2 u8T (cellsB ((accW kp x d.waits y.1).getD x.2).data.toList)) (fun y=>y.1≤d.waits.length∧OkB (Mi.set b5 ⟨155,[.string x.1,.string x.2],2⟩) y.2 x.2.size∧(y.2=none ↔ accW kp x d.waits y.1=none)) (fun y=>d.waits.length-y.1) ((0,none)) ⟨rfl,rfl,rfl,rfl,rfl,rfl,rfl,rfl,rfl,rfl,rfl,trivial⟩ (Mem.Less.refl _) (⟨Nat.zero_le _,(fun b c e=>by cases e),by simp [accW]⟩) ?_
  rintro ⟨k,ob⟩ ⟨hk,hob,hoa⟩
  (try dsimp only at *)
  have hsz:=hasz k hk
  refine r6_ ?_
  refine AWP.condB rfl (fun hc2=>?_) (fun hc2=>?_)
  ·have hc2:k<d.waits.length:=by have:=of_decide_eq_true hc2;omega
   obtain ⟨_,_,ew1,ew2,ew3,hW3⟩:=id hWS
   cases ew1
   obtain ⟨bw,ow,rfl,hkkw⟩:=hW3.resolve_left (fun e=>by rw [e] at hc2;simp at hc2)
   have hkw:=hkkw k hc2
   have hsu:=hasu k hc2
   have hfw:=hfit _ (List.getElem_mem hc2)
   generalize hw:d.waits[k]=w at *
   unfold wrF at hkw
   rcases ob with _ | ⟨bd,cd⟩
   ·have hacc:accW kp x d.waits k=none:=hoa.1 rfl
    rw [hacc] at hsu hsz
    simp only [Option.getD_none] at hsu hsz
    have hb5:(Mi.set b5 ⟨155,[.string x.1,.string x.2],2⟩).own b5=some ⟨155,[.string x.1,.string x.2],2⟩:=Mem.own_set_same _ _ _
    simp only [outM,outV]
    have hML:Mi.Less (Mi.set b5 ⟨155,[.string x.1,.string x.2],2⟩):=Mem.less_set _ _ _ f5.1
    have hkw':=hkw.less hML
    refine r7_ ?_
    refine rC (Calm.indexS Tryz.underlying27 zbD rfl rfl (by omega) (by omega)) ?_
    refine s1_ ?_
    refine ARun.alloc (zab rfl) zcy ?_
    intro b8 f8
    have g8:=f8
    repeat ((with_reducible replace g8:=zaa g8);obtain ⟨g8,_⟩:=g8)
    refine nl_ ?_
    refine r4_ ?_
    by_cases hn:w.1=x.1
    ·by_cases hkk:kp k=true
     ·rw [if_pos ⟨hn,hkk⟩] at hsu
      obtain ⟨hw0,hw1,hw2⟩:=hfw hn
      refine r7_ ?_
      refine rC (Calm.bin rfl rfl (zag (zaF _ _) (zaK hn))) ?_
      refine r3_ ?_
      refine rUn 36 ?_
      refine ARun.callV (first:=[]) (cap:=caps) (zab rfl) hgo rfl rfl (hkeep k _ hc2 (hSi.trans (hML.trans zad))) ?_
      rintro _ S1 ⟨rfl,h1⟩
      rw [h1,hkk];clear h1 S1
      refine r4_ ?_
      refine zgh 0 1 13 14 15 4 5 6 24 25 26 27 8 7 41 ?_
      refine cF_ ?_
      refine r9_ ?_
      refine cT_ ?_
      refine r3_ ?_
      refine ARun.toBytes (zab rfl) zaA zaM rfl ?_
      intro b46 c46 f46 hc46
      have g46:=f46
      repeat ((with_reducible replace g46:=zaa g46);obtain ⟨g46,_⟩:=g46)
      refine r3_ ?_
      refine AWP.draw [(0,true),(1,true),(2,true),(3,true),(4,true),(5,true),(6,true),(7,false)] [7] mixed (by kernel_rfl) ?_
      refine r4_ ?_
      refine dP (hc:=fun _=>Calm.sliceLo (64*w.2.1.toNat) Tryz.underlying52 zb1 rfl rfl (by omega) (by omega) (by omega)) (h:=?_)
      refine r2_ ?_
      refine zac rfl ?_
      refine ARun.copyStr (zab rfl) zaE rfl own_ rfl (by omega) (by simp only [zav,zaT];omega) ?_
      have hpc:=zfE (x:=x.2) (w:=w) hw1 hw2
      refine zae ⟨fun h=>absurd h (by decide),?_⟩
      refine r8_ ?_
      refine ⟨(k+1,some (b46,c46)),?_,?_,?_,?_⟩
      all_goals (try dsimp only)
      ·exact ⟨rfl,rfl,rfl,rfl,rfl,rfl,rfl,rfl,rfl,rfl,zai (by simp),trivial⟩
      ·simp only [hsu,Option.getD_some,← hpc,outM];exact zad
      ·exact ⟨hc2,fun b' c' e=>by cases e;exact ⟨zal g46 (by assumption),hc46⟩,by simp [hsu]⟩
      ·omega
     ·rw [if_neg (fun h=>hkk h.2)] at hsu
      refine r7_ ?_
      refine rC (Calm.bin rfl rfl (zag (zaF _ _) (zaK hn))) ?_
      refine r3_ ?_
      refine rUn 36 ?_
      refine ARun.callV (first:=[]) (cap:=caps) (zab rfl) hgo rfl rfl (hkeep k _ hc2 (hSi.trans (hML.trans zad))) ?_
      rintro _ S1 ⟨rfl,h1⟩
      rw [h1,Bool.eq_false_iff.2 hkk];clear h1 S1
      refine r4_ ?_
      refine cT_ ?_
      refine r9_ ?_
      refine ⟨(k+1,none),?_,?_,?_,?_⟩
      all_goals (try dsimp only)
      ·exact ⟨rfl,rfl,rfl,rfl,rfl,rfl,rfl,rfl,rfl,rfl,zai (by simp),trivial⟩
      ·(try simp only [hsu,outM,Option.getD_none,Option.getD_some]);exact zad
      ·exact ⟨hc2,hob,by simp [hsu]⟩
      ·omega
    ·rw [if_neg (fun h=>hn h.1)] at hsu
     refine r7_ ?_
     refine rC (Calm.bin rfl rfl (zag (zaF _ _) (zbh hn))) ?_
     refine r8_ ?_
     refine zgh 0 1 13 14 15 4 5 6 24 25 26 27 8 7 41 ?_
     refine cT_ ?_
     refine r9_ ?_
     refine ⟨(k+1,none),?_,?_,?_,?_⟩
     all_goals (try dsimp only)
     ·exact ⟨rfl,rfl,rfl,rfl,rfl,rfl,rfl,rfl,rfl,rfl,zai (by simp),trivial⟩
     ·(try simp only [hsu,outM,Option.getD_none,Option.getD_some]);exact zad
     ·exact ⟨hc2,hob,by simp [hsu]⟩
     ·omega
   ·obtain ⟨hfb,hcb⟩:=hob bd cd rfl
    obtain ⟨hfb1,hbd5⟩:=zaa hfb
    have hbd5':=Ne.symm hbd5
    obtain ⟨cur,hacc⟩ : ∃ cur,accW kp x d.waits k=some cur:=by cases h:accW kp x d.waits k with | none=>exact absurd (hoa.2 h) (by simp) | some cur=>exact ⟨cur,rfl⟩
    rw [hacc] at hsu hsz ⊢
    simp only [Option.getD_some] at hsu hsz ⊢
    have hb5:((Mi.set b5 ⟨155,[.string x.1,.string x.2],2⟩).set bd ⟨u8T,cellsB cur.data.toList,cd⟩).own b5=some ⟨155,[.string x.1,.string x.2],2⟩:=(Mem.own_set_other _ _ hbd5').trans (Mem.own_set_same _ _ _)
    simp only [outM,outV]
    have hML:Mi.Less ((Mi.set b5 ⟨155,[.string x.1,.string x.2],2⟩).set bd ⟨u8T,cellsB cur.data.toList,cd⟩):=(Mem.less_set _ _ _ f5.1).trans (Mem.less_set _ _ _ hfb.1)
    have hkw':=hkw.less hML
    refine r7_ ?_
    refine rC (Calm.indexS Tryz.underlying27 zbD rfl rfl (by omega) (by omega)) ?_
    refine s1_ ?_
    refine ARun.alloc (zab rfl) zcy ?_
    intro b8 f8
    have g8:=f8
    repeat ((with_reducible replace g8:=zaa g8);obtain ⟨g8,_⟩:=g8)
    refine nl_ ?_
    refine r4_ ?_
    by_cases hn:w.1=x.1
    ·by_cases hkk:kp k=true
     ·rw [if_pos ⟨hn,hkk⟩] at hsu
      obtain ⟨hw0,hw1,hw2⟩:=hfw hn
      refine r7_ ?_
      refine rC (Calm.bin rfl rfl (zag (zaF _ _) (zaK hn))) ?_
      refine r3_ ?_
      refine rUn 36 ?_
      refine ARun.callV (first:=[]) (cap:=caps) (zab rfl) hgo rfl rfl (hkeep k _ hc2 (hSi.trans (hML.trans zad))) ?_
      rintro _ S1 ⟨rfl,h1⟩
      rw [h1,hkk];clear h1 S1
      refine r4_ ?_
      refine cF_ ?_
      refine r9_ ?_
      refine cF_ ?_
      refine r2_ ?_
      refine AWP.draw [(0,true),(1,true),(2,true),(3,true),(4,true),(5,true),(6,true),(7,false)] [7] mixed (by kernel_rfl) ?_
      refine r4_ ?_
      refine dP (hc:=fun _=>Calm.sliceLo (64*w.2.1.toNat) Tryz.underlying52 zb1 rfl rfl (by omega) (by omega) (by omega)) (h:=?_)
      refine r2_ ?_
      refine zac rfl ?_
      refine ARun.copyStr (zab rfl) zaE rfl own_ rfl (by omega) (by simp only [zav,zaT];omega) ?_
      have hpc:=zfE (x:=cur) (w:=w) (by omega) hw2
      refine zae ⟨fun h=>absurd h (by decide),?_⟩
      refine r8_ ?_
      refine ⟨(k+1,some (bd,cd)),?_,?_,?_,?_⟩
      all_goals (try dsimp only)
      ·exact ⟨rfl,rfl,rfl,rfl,rfl,rfl,rfl,rfl,rfl,rfl,zai (by simp),trivial⟩
      ·simp only [hsu,Option.getD_some,← hpc,outM];exact zad
      ·exact ⟨hc2,hob,by simp [hsu]⟩
      ·omega
     ·rw [if_neg (fun h=>hkk h.2)] at hsu
      refine r7_ ?_
      refine rC (Calm.bin rfl rfl (zag (zaF _ _) (zaK hn))) ?_
      refine r3_ ?_
      refine rUn 36 ?_
      refine ARun.callV (first:=[]) (cap:=caps) (zab rfl) hgo rfl rfl (hkeep k _ hc2 (hSi.trans (hML.trans zad))) ?_
      rintro _ S1 ⟨rfl,h1⟩
      rw [h1,Bool.eq_false_iff.2 hkk];clear h1 S1
      refine r4_ ?_
      refine zgh 0 1 13 14 15 4 5 6 24 25 26 27 8 7 41 ?_
      refine cT_ ?_
      refine r9_ ?_
      refine ⟨(k+1,some (bd,cd)),?_,?_,?_,?_⟩
      all_goals (try dsimp only)
      ·exact ⟨rfl,rfl,rfl,rfl,rfl,rfl,rfl,rfl,rfl,rfl,zai (by simp),trivial⟩
      ·(try simp only [hsu,outM,Option.getD_none,Option.getD_some]);exact zad
      ·exact ⟨hc2,hob,by simp [hsu]⟩
      ·omega
    ·rw [if_neg (fun h=>hn h.1)] at hsu
     refine r7_ ?_
     refine rC (Calm.bin rfl rfl (zag (zaF _ _) (zbh hn))) ?_
     refine r8_ ?_
     refine cT_ ?_
     refine r9_ ?_
     refine ⟨(k+1,some (bd,cd)),?_,?_,?_,?_⟩
     all_goals (try dsimp only)
     ·exact ⟨rfl,rfl,rfl,rfl,rfl,rfl,rfl,rfl,rfl,rfl,zai (by simp),trivial⟩
     ·(try simp only [hsu,outM,Option.getD_none,Option.getD_some]);exact zad
     ·exact ⟨hc2,hob,by simp [hsu]⟩
     ·omega
  ·have hc2:k=d.waits.length:=by have:=of_decide_eq_false hc2;omega
   rw [hc2] at hoa hsz ⊢
   rcases ob with _ | ⟨bd,cd⟩
   ·have hacc:accW kp x d.waits d.waits.length=none:=hoa.1 rfl
    rw [hacc,Option.getD_none,show ((x.1,x.2):Ext)=x from rfl,← hmg,List.set_getElem_self] at hmsu
    simp only [outM,outV]
    refine r11_ ?_
    refine cF_ ?_
    refine r8_ ?_
    refine ⟨i+1,?_,?_,?_,?_⟩
    all_goals (try dsimp only)
    ·exact ⟨rfl,rfl,rfl,rfl,rfl,trivial⟩
    ·simp only [hmsu,hMi];exact zad
    ·exact ⟨hc,by simp only [hmsu];exact hoki⟩
    ·omega
   ·obtain ⟨hfb,hcb⟩:=hob bd cd rfl
    obtain ⟨hfb1,hbd5⟩:=zaa hfb
    have hbd5':=Ne.symm hbd5
    obtain ⟨cur,hacc⟩ : ∃ cur,accW kp x d.waits d.waits.length=some cur:=by cases h:accW kp x d.waits d.waits.length with | none=>exact absurd (hoa.2 h) (by simp) | some cur=>exact ⟨cur,rfl⟩
    rw [hacc] at hmsu hsz ⊢
    simp only [Option.getD_some] at hmsu hsz ⊢
    have n1:=hfb1.ne hpi
    have n2:=hfb1.ne hbE
    have n3:=f5.ne hbE
    have n2':=Ne.symm n2
    have n3':=Ne.symm n3
    have hfs:=zeC za2 (mixE kp d.waits d.ext i) i (x.1,cur) (by omega) 1 (.string cur) (by decide) (by rw [hmg];rfl)
    simp only [outM,outV]
    refine r11_ ?_
    refine cT_ ?_
    refine AWP.draw [(0,true),(1,true),(2,true),(3,true),(4,true),(5,true),(6,true),(7,true),(8,true),(9,true),(10,false)] [10] mixed (by kernel_rfl) ?_
    refine r7_ ?_
    refine dC (hc:=Calm.toStr zaM zaA rfl (l:=cur.data.toList) (by rw [zaT];exact hsz) (zbA (r:=⟨u8T,cellsB cur.data.toList,cd⟩) (b:=bd) own_)) (h:=?_)
    refine dP (hc:=fun _=>Calm.indexS Tryz.underlying26 zat rfl rfl (by omega) (by omega)) (h:=?_)
    refine s1_ ?_
    refine zac rfl ?_
    refine ARun.store1 rfl rfl zcR rfl (r:=⟨extT,(mixE kp d.waits d.ext i).flatMap extF,c*2⟩) own_ hcl rfl ?_
    try simp only [k_ms,k_sz,k_ss,k_za,Nat.reduceAdd]
    refine zae ⟨fun h=>absurd h (by decide),?_⟩
    refine r8_ ?_
    refine ⟨i+1,?_,?_,?_,?_⟩
    all_goals (try dsimp only)
    ·exact ⟨rfl,rfl,rfl,rfl,rfl,trivial⟩
    ·simp only [hmsu];rw [← (hse (x.1,cur)).1,← hfs];exact zad
    ·exact ⟨hc,by simp only [hmsu];exact (hse (x.1,cur)).2⟩
    ·omega
 ·have hc:i=d.ext.length:=by have:=of_decide_eq_false hc;omega
  subst hc
  rw [zjp] at hoki hpi
  simp only [zjp]
  refine r10_ ?_
  refine ARun.store1 rfl rfl zc2 rfl hpi (show 2<5 from by decide) rfl ?_
  try simp only [k_ms,k_sz,k_ss,k_za,Nat.reduceAdd]
  refine s1_ ?_
  have hfin:(devM S p (settleD d kp) oE none).Less ((devM S p { d with ext:=d.ext.map (doneX kp d.waits) } oE oW).set p ⟨92,[.int .i64 d.size,outV oE (d.ext.map (doneX kp d.waits)).length,.slice none 0 0,.int .i64 d.fuse,.bool d.down],5⟩):=by unfold devM;rw [Mem.set_set];show ((outN 2 S oE extT ((d.ext.map (doneX kp d.waits)).flatMap extF)).set p ⟨92,[.int .i64 d.size,outV oE (d.ext.map (doneX kp d.waits)).length,.slice none 0 0,.int .i64 d.fuse,.bool d.down],5⟩).Less _;exact Less.set (za9 hoki.dk.w) _ _
  have hap:=hoki.apart
  have hft:=hoki.fits
  refine ⟨_,devM S p (settleD d kp) oE none,rfl,hfin,?_⟩
  exact ⟨rfl,zfD ⟨hap.e,(fun b c e=>by cases e),(fun b c b' c' e e'=>by cases e'),hap.p⟩ ⟨hft.e0,fun _=>rfl,hft.e,(fun b c e=>by cases e)⟩,rfl⟩
end
section
open Go.RowKit
open Mv Disk
set_option maxRecDepth 4000
theorem zlV (k:Int) (S:Mem):ACall Tryz.prog 82 #[.int .i64 k] S fun r S'=>r = .bool true∧S'=S:=by
 refine k_E1 (rs:=[.tmp 2]) 3 Tryz.func82 rfl rfl rfl ?_
 refine r11_ ?_
 refine ⟨_,S,⟨_,_,rfl,rfl,rfl⟩,zad,?_⟩
 exact ⟨rfl,rfl⟩
theorem zeE (p:Nat) (d:D) (S:Mem) (oE oW:Option (Nat × Nat)) (hok:OkV S p d oE oW) (hR:Right d) :
  ACall Tryz.prog 42 #[.pointer (some ⟨p,0,none⟩)] (devM S p d oE oW) fun r S'=>∃ oE' oW',OkV S p (settleD d fun _=>true) oE' oW'∧r = .tuple #[]∧S'=devM S p (settleD d fun _=>true) oE' oW':=by
 have h:=zkp p d S oE oW hok hR 82 [] ztY (fun _=>true) (fun k M _ _=>zlV k M)
 generalize devM S p d oE oW=M at *
 refine k_E1 (rs:=[]) 4 Tryz.func42 rfl rfl rfl ?_
 refine r2_ ?_
 refine ca_ rfl (h) ?_
 rintro _ S1 ⟨rfl,hok',h1⟩
 rw [h1];clear h1 S1
 refine s1_ ?_
 refine ⟨_,_,rfl,Mem.Less.refl _,?_⟩
 exact ⟨oE,none,hok',rfl,rfl⟩
theorem zir {d:D} (hR:Right d) (kp:Nat→Bool):(settleD d kp).ext.length≤9223372036854775807∧(settleD d kp).waits.length≤9223372036854775807:=by
 have h:=zaC hR
 exact ⟨by show (List.map _ _).length≤_;rw [List.length_map];exact h.1,by show (0:Nat)≤_;exact Nat.zero_le _⟩
end
section
open Go.RowKit
open Mv Disk
theorem zjq {l:List Ext} {s:ByteArray}:has l s=false ↔ ∀ x ∈ l,x.1≠s:=by
 rw [← Bool.not_eq_true,zbd]
 exact ⟨fun h x hx e=>h ⟨x,hx,e⟩,fun h ⟨x,hx,e⟩=>h x hx e⟩
def dropE (l:List Ext) (s:ByteArray):List Ext:=l.filter fun x=>decide (x.1≠s)
def lessD (d:D) (s:ByteArray):D:={ d with ext:=dropE d.ext s,waits:=filt s d.waits }
theorem zfF {l:List Ext} {s:ByteArray} (h:has l s=false):dropE l s=l :=
 List.filter_eq_self.2 fun x hx=>by simpa using zjq.1 h x hx
theorem zqX {x:Ext} {l:List Ext} {s:ByteArray} (h:lt x.1 s=true):pos (x :: l) s=pos l s+1:=by unfold pos;rw [List.takeWhile_cons,h];rfl
theorem zsZ {x:Ext} {l:List Ext} {s:ByteArray} (h:lt x.1 s=false):pos (x :: l) s=0:=by unfold pos;rw [List.takeWhile_cons,h];rfl
theorem zgn (x:Ext) (l:List Ext) (s:ByteArray):has (x :: l) s=(decide (x.1=s) || has l s):=rfl
theorem zdK {x:Ext} {l:List Ext} {s:ByteArray} (h:x.1=s):dropE (x :: l) s=dropE l s:=by
 unfold dropE;rw [List.filter_cons,if_neg (by simpa using h)]
theorem zgo {x:Ext} {l:List Ext} {s:ByteArray} (h:x.1≠s):dropE (x :: l) s=x :: dropE l s:=by
 unfold dropE;rw [List.filter_cons,if_pos (by simpa using h)]
theorem zfG {x:Ext} {l:List Ext} (ha:Asc (x :: l)):∀ y ∈ l,lt x.1 y.1=true:=(List.pairwise_cons.1 ha).1
theorem zkq {x:Ext} {l:List Ext} (ha:Asc (x :: l)):has l x.1=false:=zjq.2 fun y hy e=>by
 have:=zfG ha y hy;rw [e,lt_irrefl] at this;cases this
theorem zkr {x:Ext} {l:List Ext} {s:ByteArray} (ha:Asc (x :: l)) (h:has l s=true):lt x.1 s=true:=by
 obtain ⟨y,hy,rfl⟩:=zbd.1 h
 exact zfG ha y hy
theorem ze4 {l:List Ext} {s:ByteArray} (ha:Asc l) (h:has l s=true):dropE l s=l.eraseIdx (pos l s):=by
 induction l with
 | nil=>cases h
 | cons x l ih =>
  by_cases e:x.1=s
  ·subst e
   rw [zsZ (lt_irrefl _),zdK rfl,zfF (zkq ha)];rfl
  ·rw [zgn,decide_eq_false e,Bool.false_or] at h
   rw [zgo e,zqX (zkr ha h),ih (zod ha) h];rfl
theorem zop {l:List Ext} (ha:Asc l) (s:ByteArray):Asc (dropE l s):=List.Pairwise.filter _ ha
theorem zlW {d:D} {s:ByteArray} (hR:Right d) (h:has d.ext s=true):forgetD (eraseD d s) s=lessD d s:=by
 unfold forgetD eraseD lessD
 rw [ze4 hR.ex.asc h]
theorem zlX {d:D} {s:ByteArray} (hR:Right d) (h:has d.ext s=false):filt s d.waits=d.waits:=zgl fun w hw=>zqb.2 fun e=>by
 obtain ⟨x,hx,e1,_⟩:=hR.wr w hw
 exact zjq.1 h x hx (e1.trans e)
/-! ### Writes that are done -/
theorem zgp {f:Ext→Ext} (hf:∀ x,(f x).1=x.1) (l:List Ext) (s:ByteArray):has (l.map f) s=has l s:=by
 induction l with
 | nil=>rfl
 | cons x l ih=>rw [List.map_cons,zgn,zgn,ih,hf]
theorem zlY {f:Ext→Ext} (hf:∀ x,(f x).1=x.1) {l:List Ext} (h:Asc l):Asc (l.map f):=by
 unfold Asc at *
 rw [List.pairwise_map]
 exact h.imp fun {a b} q=>by rw [hf,hf];exact q
end
section
open Go.RowKit
namespace Mv
section
variable {P:Program} {N:Nat} {l:List Oper} {W:List Nat} {SB S0:Mem} {K:Env→Mem→Prop}
def DG (P:Program) (N:Nat) (l:List Oper) (W:List Nat) (SB S0:Mem) (K:Env→Mem→Prop) (n:Nat) (listed:Array Bool) (E:Env) (S:Mem):Prop :=
  ∀ w0 a w,Closed l.toArray listed→Good N E a→View S w→Step SB w0 S w→wpAnyG P l.toArray (Q0 N K SB w0) (fun i=>W.contains i) (View S0) n listed a w
theorem DG.nil {listed:Array Bool} {E:Env} {S:Mem} (hr:Region.ready .any l.toArray listed = []) (h:K E S):DG P N l W SB S0 K 0 listed E S :=
 fun w0 a w _ g hv hs=>⟨hr,E,S,h,g,hs⟩
theorem DG.fork {n:Nat} {listed:Array Bool} {E:Env} {S:Mem} (is:List Nat) (hr:(Region.ready .any l.toArray listed == is)=true) (hne:is ≠ [])
  (h:∀ i ∈ is,∃ o,l[i]?=some o∧AOp P N l.toArray o (fun E' S'=>(W.contains i=false→S0.Less S')∧DG P N l W SB S0 K n (listed.setIfInBounds i true) E' S') E S):DG P N l W SB S0 K (n+1) listed E S:=fun w0 a w hcl g hv hs=>by
 have hr:=beq_iff_eq.1 hr
 refine ⟨fun h0=>absurd (hr.symm.trans h0) hne,fun j hj=>?_⟩
 have hj':=hj
 rw [hr] at hj
 obtain ⟨o,ho,hop⟩:=h j hj
 have h1:=hop a w g hv
 unfold wpOp
 have ho':l.toArray[j]?=some o:=by simpa using ho
 simp only [ho']
 have next:∀ a1 w1,Post N (fun E' S'=>(W.contains j=false→S0.Less S')∧DG P N l W SB S0 K n (listed.setIfInBounds j true) E' S') S w a1 w1→(W.contains j=false→View S0 w→View S0 w1)∧wpAnyG P l.toArray (Q0 N K SB w0) (fun i=>W.contains i) (View S0) n (listed.setIfInBounds j true) a1 w1:=fun a1 w1 ⟨E1,S1,⟨k1,k2⟩,g1,s1⟩ =>
  ⟨fun hw _=>s1.view.less (k1 hw),k2 w0 a1 w1 (zbB hcl hj') g1 s1.view (hs.trans s1)⟩
 split
 ·rename_i hw;rw [if_pos hw] at h1
  exact .inl (zeA (Oper.wp_mono next h1))
 ·rename_i hw;rw [if_neg hw] at h1
  exact next _ _ h1
theorem DG.fork1 {n:Nat} {listed:Array Bool} {E:Env} {S:Mem} (i:Nat) (hr:(Region.ready .any l.toArray listed == [i])=true)
  (h:∃ o,l[i]?=some o∧AOp P N l.toArray o (fun E' S'=>(W.contains i=false→S0.Less S')∧DG P N l W SB S0 K n (listed.setIfInBounds i true) E' S') E S):DG P N l W SB S0 K (n+1) listed E S :=
 DG.fork [i] hr (by simp) fun j hj=>by
  have e:j=i:=by simpa using hj
  rw [e];exact h
theorem DG.fork2 {n:Nat} {listed:Array Bool} {E:Env} {S:Mem} (i j:Nat) (hr:(Region.ready .any l.toArray listed == [i,j])=true)
  (h:∃ o,l[i]?=some o∧AOp P N l.toArray o (fun E' S'=>(W.contains i=false→S0.Less S')∧DG P N l W SB S0 K n (listed.setIfInBounds i true) E' S') E S)
  (k:∃ o,l[j]?=some o∧AOp P N l.toArray o (fun E' S'=>(W.contains j=false→S0.Less S')∧DG P N l W SB S0 K n (listed.setIfInBounds j true) E' S') E S):DG P N l W SB S0 K (n+1) listed E S :=
 DG.fork [i,j] hr (by simp) fun q hq=>by
  rcases List.mem_cons.1 hq with rfl | hq
  ·exact h
  ·obtain rfl:q=j:=by simpa using hq
   exact k
theorem DG.first {n:Nat} {listed:Array Bool} {E:Env} {S:Mem} (i:Nat) (hsel:Region.noSelect l.toArray=true) (hc1:mayFirst l W listed i=true)
  (h:∃ o d v,l[i]?=some o∧o.dst=some d∧d<N∧(pureOp o=true∨S0.Less S)∧ACalmG P N l.toArray o E (if pureOp o then noMem else S0) v∧DG P N l W SB S0 K n (listed.setIfInBounds i true) ((d,v) :: E) S):DG P N l W SB S0 K (n+1) listed E S:=fun w0 a w hcl g hv hs=>by
 obtain ⟨o,d,v,ho,hd,hn,hless,hcalm,hrest⟩:=h
 simp only [mayFirst,Bool.and_eq_true,Bool.or_eq_true] at hc1
 obtain ⟨⟨hr,hf⟩,hp⟩:=hc1
 have ho':l.toArray[i]?=some o:=by simpa using ho
 have hri:i ∈ Region.ready .any l.toArray listed:=by simpa using hr
 let D:World→Prop:=fun w'=>if pureOp o=true then True else View S0 w'
 have hDw:D w:=by
  simp only [D]
  split
  ·trivial
  ·rename_i hx
   exact hv.less (hless.resolve_left hx)
 have hmem:∀ w',D w'→View (if pureOp o then noMem else S0) w':=fun w' h=>by
  simp only [D] at h
  split
  ·exact zd3 _
  ·rename_i hx;rw [if_neg hx] at h;exact h
 refine zcN (D:=D) (v:=v) ho' (Region.noSelect_spec hsel) (fun c a w h=>h) ?_ n listed a w hcl (Region.free_spec ho' hf) hri ?_ hDw ?_
 ·intro j w1 w2 listed' hcl' hun hj hD1 hpres
  simp only [D] at hD1 ⊢
  split
  ·trivial
  ·rename_i hx
   rw [if_neg hx] at hD1
   refine hpres ?_ hD1
   rcases hp with hp | hp
   ·rw [ho] at hp;exact absurd (by simpa using hp) hx
   ·cases hwc:W.contains j with
    | false=>rfl
    | true =>
     have h1:=List.all_eq_true.1 hp j (by simpa using hwc)
     obtain ⟨hju,oj,hoj,hall⟩:=mem_ready.1 hj
     have h2:=zcs h1 listed' hcl' fun o2 ho2 e he hb=>by
      obtain rfl:oj=o2:=Option.some.inj (hoj.symm.trans ho2)
      exact hall e he hb
     rcases Nat.lt_or_ge i listed'.size with hlt | hge
     ·simp [hlt] at hun h2;rw [hun] at h2;cases h2
     ·simp [Array.getElem?_eq_none hge] at h2
 ·by_cases hw:Region.wanted o (yielded l.toArray a.tmps)=true
  ·refine .inl ⟨hw,fun w' hD'=>?_⟩
   rcases hcalm a w' g (hmem w' hD') with h1 | h1
   ·exact h1.2
   ·rw [hw] at h1;cases h1.1
  ·rcases hcalm a w g (hmem w hDw) with h1 | h1
   ·exact absurd h1.1 hw
   ·exact .inr h1
 ·rw [hd]
  exact hrest w0 _ w (zbB hcl hri) (g.put hn v) hv hs
theorem DG.pure {n:Nat} {listed:Array Bool} {E:Env} {S:Mem} {o:Oper} {d:Nat} {v:Value} (i:Nat) (hsel:Region.noSelect l.toArray=true) (hc1:mayFirst l W listed i=true) (ho:l[i]?=some o) (hp:pureOp o=true) (hg:o.guard=none) (hd:o.dst=some d) (hn:d<N)
  (hc:∀ S',ACalm P N o E S' v) (h:DG P N l W SB S0 K n (listed.setIfInBounds i true) ((d,v) :: E) S):DG P N l W SB S0 K (n+1) listed E S :=
 DG.first i hsel hc1 ⟨o,d,v,ho,hd,hn,.inl hp,fun a w g hv=>.inl ⟨by simp [Region.wanted,hg],hc _ a w g hv⟩,h⟩
theorem DG.look {n:Nat} {listed:Array Bool} {E:Env} {S:Mem} {o:Oper} {d:Nat} {v:Value} (i:Nat) (hsel:Region.noSelect l.toArray=true) (hc1:mayFirst l W listed i=true) (ho:l[i]?=some o) (hp:pureOp o=false) (hg:o.guard=none) (hd:o.dst=some d) (hn:d<N) (hl:S0.Less S)
  (hc:ACalm P N o E S0 v) (h:DG P N l W SB S0 K n (listed.setIfInBounds i true) ((d,v) :: E) S):DG P N l W SB S0 K (n+1) listed E S :=
 DG.first i hsel hc1 ⟨o,d,v,ho,hd,hn,.inr hl,fun a w g hv=>.inl ⟨by simp [Region.wanted,hg],by rw [hp] at hv;exact hc a w g hv⟩,h⟩
theorem DG.only {n:Nat} {listed:Array Bool} {E:Env} {S:Mem} {o:Oper} (i:Nat) (hr:(Region.ready .any l.toArray listed == [i])=true) (ho:l[i]?=some o)
  (h:ARun P N l.toArray [o] (fun E' S'=>(W.contains i=false→S0.Less S')∧DG P N l W SB S0 K n (listed.setIfInBounds i true) E' S') E S):DG P N l W SB S0 K (n+1) listed E S:=DG.fork1 i hr ⟨o,ho,h⟩
theorem DG.two {n:Nat} {listed:Array Bool} {E:Env} {S:Mem} {o o':Oper} (i j:Nat) (hr:(Region.ready .any l.toArray listed == [i,j])=true) (ho:l[i]?=some o)
  (h:ARun P N l.toArray [o] (fun E' S'=>(W.contains i=false→S0.Less S')∧DG P N l W SB S0 K n (listed.setIfInBounds i true) E' S') E S) (ho':l[j]?=some o')
  (h':ARun P N l.toArray [o'] (fun E' S'=>(W.contains j=false→S0.Less S')∧DG P N l W SB S0 K n (listed.setIfInBounds j true) E' S') E S):DG P N l W SB S0 K (n+1) listed E S:=DG.fork2 i j hr ⟨o,ho,h⟩ ⟨o',ho',h'⟩
theorem DG.end_ {listed:Array Bool} {E:Env} {S:Mem} (hr:(Region.ready .any l.toArray listed).isEmpty=true) (h:K E S):DG P N l W SB S0 K 0 listed E S:=DG.nil (by simpa using hr) h
theorem AWP.drawB {id:Nat} {Q:Exit→Env→Mem→Prop} {E:Env} {S:Mem} (S0:Mem) (W:List Nat) (hm:P.follows .mixedOrders=true) (hl:S0.Less S)
  (h:DG P N l W S S0 (Q .normal) l.length (Array.replicate l.length false) E S):AWP P N (.region id l.toArray true) Q E S:=fun a w g hv=>by
 refine wp_mono (Q:=Q0 N (Q .normal) S w) ?_ (fun e a' w' x=>by cases e <;> first | exact x | exact x.elim)
 refine wp_region_any hm ?_
 refine zc0 (W:=fun i=>W.contains i) (C:=View S0) _ _ _ _ ?_
 have hst:Step S w S { w with drawn:=w.drawn+1 }:=Step.drawn hv _
 have:=h w a _ (zcM _ _) g hst.view hst
 simpa using this
theorem AWP.drawG {id:Nat} {Q:Exit→Env→Mem→Prop} {E:Env} {S:Mem} (W:List Nat) (hm:P.follows .mixedOrders=true)
  (h:DG P N l W S S (Q .normal) l.length (Array.replicate l.length false) E S):AWP P N (.region id l.toArray true) Q E S:=AWP.drawB S W hm (Mem.Less.refl _) h
end
end Mv
end
section
open Go.RowKit
open Mv Disk
set_option maxRecDepth 4000

theorem zks (d0 d:D) (s:ByteArray) (l:List ByteArray):freesD d0 d (s :: l)=if has d.ext s=true then freesD d0 (forgetD (eraseD d s) s) l else (d0,3):=by
 rw [freesD]
 unfold freeD
 by_cases q:has d.ext s=true
 ·rw [if_pos q,if_pos q];rfl
 ·rw [if_neg q,if_neg q];rfl
end
section
open Go.RowKit Go.Shelf
open Mv Disk
attribute [local go_sem] Oper.semAt_some
def upto {α : Type} (f:Nat → α) (k:Nat):List α:=(List.range k).map f
theorem zfH {α : Type} (f:Nat → α) (k:Nat):upto f (k+1)=upto f k ++ [f k]:=by simp [upto,List.range_succ]
theorem zhe {α : Type} (f:Nat → α) (k:Nat):(upto f k).length=k:=by simp [upto]
def w0:Wr:=(ByteArray.empty,0,ByteArray.empty)
def backF (l:List Wr) (j:Nat):Nat × Wr:=(l.length-1-j,l.getD (l.length-1-j) w0)
def wrV (w:Wr):Value:=.agg #[.string w.1,.int .i64 w.2.1,.string w.2.2]
set_option maxRecDepth 100000 in
set_option maxHeartbeats 2000000 in
theorem zoq (F:Fence) (n:Nat) (h8:F.fn 163) (hro:F.round=none) (hn:1≤n) (l Bs n₀ b off cap:Nat) (zs:List Wr) (hreach:zs.length≤16384) (hb:b<n₀) (hBn:Bs<n₀) (J Jx:List (Nat × Wr)→World→Prop)
  (hY:∀ pre x W,J pre W→pre.length<zs.length→YieldAt F (n-1) Tryz.prog l #[.int .i64 (x.1:Int),wrV x.2] W fun e W' =>
   (e = .returned (.bool true)∧J (pre ++ [x]) W'∧Below n₀ W W')∨(e = .returned (.bool false)∧Jx (pre ++ [x]) W'))
  (W:World) (hBs:W.cell? ⟨Bs,0,none⟩=some (.slice (some ⟨b,off,none⟩) zs.length cap)) (hc:∀ j (h:j<zs.length) q v,(wrF zs[j])[q]?=some v→W.cell? ⟨b,off+j*3+q,none⟩=some v) (h0:J [] W) :
  CallsIn F n Tryz.prog 163 #[.func (.yield l) #[] #[],.pointer (some ⟨Bs,0,none⟩)] W fun e W'=>(∃ v,e = .returned v) ∧
   ((∃ ys,ys=upto (backF zs) zs.length∧J ys W')∨(∃ pre,(∃ k,k≤zs.length∧pre=upto (backF zs) k)∧Jx pre W')):=by
 refine callsIn_of_wp Tryz.func163 rfl h8 ?_ hro
 simp only [Tryz.ntmps163,List.size_toArray,List.length_cons,List.length_nil,Nat.reduceAdd,Nat.reduceSub,Array.replicate_succ,Array.replicate_zero,List.push_toArray,List.append_toArray,List.nil_append,List.cons_append]
 gi_wp2
 gi_loopw [3] (fun i wr=>∃ k:Nat,k≤zs.length∧i = .int .i64 ((zs.length:Int)-1-k)∧J (upto (backF zs) k) wr∧Below n₀ W wr)
  (fun i _=>(intOf i+1).toNat)
 case atStart=>exact ⟨0,Nat.zero_le _,by simp,h0,Below.refl _ _⟩
 case round =>
  obtain ⟨k,hk,rfl,hJs,hnx⟩:=hrel
  by_cases hlt:k<zs.length
  ·obtain ⟨m,hm⟩ : ∃ m,zs.length-1-k=m:=⟨_,rfl⟩
   have hml:m<zs.length:=by omega
   have hm':(zs.length:Int)-1-k=m:=by omega
   have hbk:backF zs k=(m,zs[m]):=by unfold backF;rw [hm];simp [List.getD,List.getElem?_eq_getElem hml]
   obtain ⟨fn,tmps,assign,body,hy,hR⟩:=hY _ (backF zs k) wr hJs (by rw [zhe];exact hlt)
   rw [hbk] at hy hR
   dsimp only [wrV] at hy
   rw [hm']
   have hcx:∀ q v,(wrF zs[m])[q]?=some v→wr.cell? ⟨b,off+m*3+q,none⟩=some v:=fun q v hq=>(hnx.cell (p:=⟨b,off+m*3+q,none⟩) hb).trans (hc m hml q v hq)
   have hc0:wr.cell? ⟨b,off+m*3,none⟩=some (.string zs[m].1):=hcx 0 _ rfl
   have hc1:wr.cell? ⟨b,off+m*3+1,none⟩=some (.int .i64 zs[m].2.1):=hcx 1 _ rfl
   have hc2:wr.cell? ⟨b,off+m*3+2,none⟩=some (.string zs[m].2.2):=hcx 2 _ rfl
   have hBs':=(hnx.cell (p:=⟨Bs,0,none⟩) hBn).trans hBs
   gi_wp2
   refine hR.mono ?_
   rintro e W3 (⟨rfl,hJ3,hk3⟩ | ⟨rfl,hJx3⟩)
   ·gi_wp2
    go_roundw
    case rel=>exact ⟨k+1,by omega,by simp;omega,by rw [zfH,hbk];exact hJ3,hnx.trans hk3⟩
    case measure=>simp [intOf]
   ·gi_wp2
    refine bodyPost_ret (results_none rfl _ _ _) rfl ?_
    exact ⟨⟨_,rfl⟩,.inr ⟨_,⟨k+1,by omega,by rw [zfH,hbk]⟩,hJx3⟩⟩
  ·obtain rfl:k=zs.length:=by omega
   have e1:(zs.length:Int)-1-zs.length = -1:=by omega
   rw [e1]
   gi_wp2
   go_end0
   exact ⟨⟨_,rfl⟩,.inl ⟨_,rfl,hJs⟩⟩
set_option maxRecDepth 100000 in
set_option maxHeartbeats 1000000 in
theorem zhf (F:Fence) (n:Nat) (h8:F.fn 163) (hro:F.round=none) (l Bs:Nat) (A:Option Addr) (cap:Nat) (J:List (Nat × Wr)→World→Prop) (W:World) (hBs:W.cell? ⟨Bs,0,none⟩=some (.slice A 0 cap)) (h0:J [] W) :
  CallsIn F n Tryz.prog 163 #[.func (.yield l) #[] #[],.pointer (some ⟨Bs,0,none⟩)] W fun e W'=>(∃ v,e = .returned v)∧J [] W':=by
 refine callsIn_of_wp Tryz.func163 rfl h8 ?_ hro
 simp only [Tryz.ntmps163,List.size_toArray,List.length_cons,List.length_nil,Nat.reduceAdd,Nat.reduceSub,Array.replicate_succ,Array.replicate_zero,List.push_toArray,List.append_toArray,List.nil_append,List.cons_append]
 gi_wp2
 gi_loopw [3] (fun i wr=>i = .int .i64 (-1)∧J [] wr) (fun _ _=>0)
 case atStart=>exact ⟨rfl,h0⟩
 case round =>
  obtain ⟨rfl,hJs⟩:=hrel
  gi_wp2
  go_end0
  exact ⟨⟨_,rfl⟩,hJs⟩
set_option maxHeartbeats 1000000 in
theorem zqY (F:Fence) (n:Nat) (h5:F.fn 113) (hro:F.round=none) (a:Option Addr) (len cap:Nat) (w:World) :
  CallsIn F n Tryz.prog 113 #[.slice a len cap] w fun e w'=>e = .returned (.func (.func 163) #[] #[.pointer (some ⟨w.heap.size,0,none⟩)])∧w'=w.alloc (.cells #[.slice a len cap] 27):=by
 refine callsIn_of_wp Tryz.func113 rfl h5 ?_ hro
 simp only [Tryz.ntmps113,List.size_toArray,List.length_cons,List.length_nil,Nat.reduceAdd,Nat.reduceSub,Array.replicate_succ,Array.replicate_zero,List.push_toArray,List.append_toArray,List.nil_append,List.cons_append]
 gi_wp2
 go_ret
 exact ⟨rfl,rfl⟩
def Waits (n₀ : Nat) (W:World) (sv:Value) (zs:List Wr):Prop :=
  ∃ A cap,sv = .slice A zs.length cap∧(zs = [] ∨ ∃ b off,A=some ⟨b,off,none⟩∧b<n₀ ∧ ∀ j (h:j<zs.length) q v,(wrF zs[j])[q]?=some v→W.cell? ⟨b,off+j*3+q,none⟩=some v)
theorem Waits.below {n₀ : Nat} {A B:World} (h:Below n₀ A B) {sv:Value} {zs:List Wr} (hw:Waits n₀ A sv zs):Waits n₀ B sv zs:=by
 obtain ⟨a,cap,e,h1⟩:=hw
 exact ⟨a,cap,e,h1.imp id fun ⟨b,off,e1,hb,hc⟩=>⟨b,off,e1,hb,fun j hj q v hq=>(h.cell (p:=⟨b,off+j*3+q,none⟩) hb).trans (hc j hj q v hq)⟩⟩
theorem zkt (F:Fence) (n:Nat) (h8:F.fn 163) (hro:F.round=none) (hn:1≤n) (Bs n₀ : Nat) (sv:Value) (zs:List Wr) (hreach:zs.length≤16384) (w:World) (hBs:Bs<n₀) (hn₀ : n₀≤w.heap.size)
  (hc:w.cell? ⟨Bs,0,none⟩=some sv) (hI:Waits n₀ w sv zs) :
  SeqStopsK F n Tryz.prog 163 #[.pointer (some ⟨Bs,0,none⟩)] (fun x:Nat × Wr=>#[Value.int .i64 (x.1:Int),wrV x.2]) (Below n₀) (fun ys=>ys=upto (backF zs) zs.length) (fun pre=>∃ k,k≤zs.length∧pre=upto (backF zs) k) zs.length w:=fun l J Jx W hW _ _ hY h0=>by
 have hWn:=hW.mono hn₀
 have hc':=(hWn.cell (p:=⟨Bs,0,none⟩) hBs).trans hc
 obtain ⟨A,cap,rfl,h1⟩:=hI.below hWn
 rcases h1 with rfl | ⟨b,off,rfl,hb,hcs⟩
 ·exact (zhf F n h8 hro l Bs A cap J W hc' h0).mono fun e W' ⟨he,hj⟩=>⟨he,.inl ⟨_,rfl,hj⟩⟩
 ·refine (zoq F n h8 hro hn l Bs n₀ b off cap zs hreach hb hBs J Jx hY W hc' hcs h0).mono ?_
  rintro e W' ⟨he,⟨ys,rfl,hj⟩ | ⟨pre,⟨k,hk,rfl⟩,hj⟩⟩
  ·exact ⟨he,.inl ⟨_,rfl,hj⟩⟩
  ·exact ⟨he,.inr ⟨_,⟨k,hk,rfl⟩,hj⟩⟩
end
section
open Go.RowKit
open Mv Disk
def hit (s:ByteArray) (k:Int) (y:Nat × Wr):Bool:=y.2.2.1 == k && (y.2.1.toList == s.toList)
def lastW (l:List Wr) (s:ByteArray) (k:Int):Option (Nat × Wr):=(upto (backF l) l.length).find? (hit s k)
def readD (d:D) (s:ByteArray) (k:Int):ByteArray × Int :=
  if (placeD d s k).2≠0 then (ByteArray.empty,(placeD d s k).2) else match lastW d.waits s k with
    | some y=>(y.2.2.2,0)
    | none=>((exOf d.ext s).2.extract (64*k.toNat) (64*k.toNat+64),0)
def seeW (kp:Nat→Bool) (l:List Wr) (s:ByteArray) (k:Int) (b:ByteArray):Nat→ByteArray
  | 0=>b
  | n+1=>match l[n]? with
    | some w=>if w.1=s∧w.2.1=k∧kp n=true then w.2.2 else seeW kp l s k b n
    | none=>seeW kp l s k b n
theorem zbL (kp:Nat→Bool) (l:List Wr) (s:ByteArray) (k:Int) (b:ByteArray) {n:Nat} (h:n<l.length):seeW kp l s k b (n+1)=if l[n].1=s∧l[n].2.1=k∧kp n=true then l[n].2.2 else seeW kp l s k b n:=by
 rw [seeW,List.getElem?_eq_getElem h]
def allK:Nat→Bool:=fun _=>true
def revN (l:List Wr) (n:Nat):List (Nat × Wr):=(List.range n).reverse.map fun i=>(i,l.getD i w0)
theorem zor (l:List Wr):upto (backF l) l.length=revN l l.length:=by
 unfold upto revN
 refine List.ext_getElem (by simp) fun i h1 h2=>?_
 simp only [List.length_map,List.length_range] at h1
 simp [backF,List.getElem_reverse]
theorem zlZ (l:List Wr) (n:Nat):revN l (n+1)=(n,l.getD n w0) :: revN l n:=by
 unfold revN;rw [List.range_succ,List.reverse_append];rfl
theorem ze5 {a b:ByteArray}:(a.toList == b.toList)=decide (a=b):=by
 rw [Bool.eq_iff_iff,beq_iff_eq,decide_eq_true_eq]
 exact ⟨fun h=>zbv (by rw [← Lib.toList_data,← Lib.toList_data];exact h),fun h=>by rw [h]⟩
theorem zjr (l:List Wr) (s:ByteArray) (k:Int) (b:ByteArray):∀ n,n≤l.length→(match (revN l n).find? (hit s k) with | some y=>y.2.2.2 | none=>b)=seeW allK l s k b n
 | 0,_=>rfl
 | n+1,h=>by
  rw [zlZ,zbL _ _ _ _ _ (by omega),List.find?_cons]
  have e:l.getD n w0=l[n]:=by simp [List.getD,List.getElem?_eq_getElem (show n<l.length by omega)]
  have eh:hit s k (n,l.getD n w0)=decide (l[n].1=s∧l[n].2.1=k∧allK n=true):=by
   rw [e];unfold hit allK
   rw [ze5,Bool.eq_iff_iff];simp [and_comm]
  rw [eh]
  by_cases q:l[n].1=s∧l[n].2.1=k∧allK n=true
  ·rw [if_pos q,decide_eq_true q,e]
  ·rw [if_neg q,decide_eq_false q];exact zjr l s k b n (by omega)
def seen (d:D) (s:ByteArray) (k:Int):ByteArray:=seeW allK d.waits s k ((exOf d.ext s).2.extract (64*k.toNat) (64*k.toNat+64)) d.waits.length
theorem zcj (d:D) (s:ByteArray) (k:Int):readD d s k=if (placeD d s k).2≠0 then (ByteArray.empty,(placeD d s k).2) else (seen d s k,0):=by
 unfold readD seen
 by_cases q:(placeD d s k).2≠0
 ·rw [if_pos q,if_pos q]
 ·rw [if_neg q,if_neg q,← zjr _ _ _ _ _ (Nat.le_refl _)]
  unfold lastW
  rw [zor]
  cases (revN d.waits d.waits.length).find? (hit s k) <;> rfl
/-! ### A sector of what was done -/
theorem zdL (x:ByteArray) (i j:Nat):x.extract i j=bs ((x.data.toList.take j).drop i):=by
 apply zbv
 rw [bs_data,ByteArray.data_extract,Array.toList_extract,List.extract_eq_take_drop,List.drop_take]
theorem zl1 {α : Type} (X W:List α) (m k:Nat) (hW:W.length=64) (hm:64*m+64≤X.length) (hk:64*k+64≤X.length):((X.take (64*m) ++ W ++ X.drop (64*m+64)).take (64*k+64)).drop (64*k)=if m=k then W else (X.take (64*k+64)).drop (64*k):=by
 apply List.ext_getElem?
 intro i
 by_cases e:m=k
 ·subst e
  rw [if_pos rfl,List.getElem?_drop,List.getElem?_take]
  by_cases hi:i<64
  ·rw [if_pos (by omega),List.getElem?_append_left (by simp;omega),List.getElem?_append_right (by simp;omega)]
   congr 1;simp;omega
  ·rw [if_neg (by omega),List.getElem?_eq_none (by omega)]
 ·rw [if_neg e,List.getElem?_drop,List.getElem?_take,List.getElem?_drop,List.getElem?_take]
  by_cases hi:i<64
  ·rw [if_pos (by omega),if_pos (by omega)]
   rcases Nat.lt_or_ge k m with q | q
   ·rw [List.getElem?_append_left (by simp;omega),List.getElem?_append_left (by simp;omega),List.getElem?_take,if_pos (by omega)]
   ·rw [List.getElem?_append_right (by simp;omega),List.getElem?_drop]
    congr 1;simp;omega
  ·rw [if_neg (by omega),if_neg (by omega)]
theorem zos {x:ByteArray} {w:Wr} {k:Nat} (h1:64*w.2.1.toNat+64≤x.size) (h2:w.2.2.size=64) (hk:64*k+64≤x.size):(putS x w).extract (64*k) (64*k+64)=if w.2.1.toNat=k then w.2.2 else x.extract (64*k) (64*k+64):=by
 rw [zdL,zdL]
 have hx:x.data.toList.length=x.size:=zaT x
 have hw:w.2.2.data.toList.length=64:=by rw [zaT,h2]
 have hp:(putS x w).data.toList=x.data.toList.take (64*w.2.1.toNat) ++ w.2.2.data.toList ++ x.data.toList.drop (64*w.2.1.toNat+64):=by unfold putS;rw [bs_data]
 rw [hp,zl1 _ _ _ _ hw (by omega) (by omega)]
 split
 ·exact bs_of _
 ·rfl
theorem zl2 {kp:Nat→Bool} {x:Ext} {l:List Wr} {k:Nat} (hf:Fit x l) (hk:64*k+64≤x.2.size):∀ n,n≤l.length→((accW kp x l n).getD x.2).extract (64*k) (64*k+64)=seeW kp l x.1 (k:Int) (x.2.extract (64*k) (64*k+64)) n
 | 0,_=>rfl
 | n+1,h=>by
  have ih:=zl2 (kp:=kp) hf hk n (by omega)
  have hs:=zeD (kp:=kp) hf n (by omega)
  rw [ze2 kp x l n (by omega),zbL _ _ _ _ _ (by omega)]
  by_cases q:l[n].1=x.1∧kp n=true
  ·obtain ⟨h0,h1,h2⟩:=hf _ (List.getElem_mem (by omega:n<l.length)) q.1
   rw [if_pos q,Option.getD_some,zos (by rw [hs];exact h1) h2 (by rw [hs];exact hk)]
   by_cases e:l[n].2.1=(k:Int)
   ·rw [if_pos (by omega),if_pos ⟨q.1,e,q.2⟩]
   ·rw [if_neg (by omega),if_neg (fun z=>e z.2.1)];exact ih
  ·rw [if_neg q,if_neg (fun z=>q ⟨z.1,z.2.2⟩)];exact ih
theorem zgq (kp:Nat→Bool) (l:List Wr) (s:ByteArray) (k:Int) (b:ByteArray):∀ n,seeW kp l s k b n=b ∨ ∃ w ∈ l,w.1=s∧w.2.1=k∧seeW kp l s k b n=w.2.2
 | 0=>.inl rfl
 | n+1=>by
  by_cases h:n<l.length
  ·rw [zbL _ _ _ _ _ h]
   by_cases q:l[n].1=s∧l[n].2.1=k∧kp n=true
   ·rw [if_pos q];exact .inr ⟨_,List.getElem_mem h,q.1,q.2.1,rfl⟩
   ·rw [if_neg q];exact zgq kp l s k b n
  ·rw [seeW,List.getElem?_eq_none (by omega)];exact zgq kp l s k b n
theorem zfI (kp:Nat→Bool) (l m:List Wr) (s:ByteArray) (k:Int) (b:ByteArray):∀ n,n≤l.length→seeW kp (l ++ m) s k b n=seeW kp l s k b n
 | 0,_=>rfl
 | n+1,h=>by
  rw [zbL _ _ _ _ _ (show n<(l ++ m).length by simp;omega),zbL _ _ _ _ _ (show n<l.length by omega),List.getElem_append_left (by omega),zfI kp l m s k b n (by omega)]
theorem zl3 (kp:Nat→Bool) (l:List Wr) (w:Wr) (s:ByteArray) (k:Int) (b:ByteArray):seeW kp (l ++ [w]) s k b (l ++ [w]).length=if w.1=s∧w.2.1=k∧kp l.length=true then w.2.2 else seeW kp l s k b l.length:=by
 rw [show (l ++ [w]).length=l.length+1 by simp,zbL _ _ _ _ _ (by simp),zfI _ _ _ _ _ _ _ (Nat.le_refl _)]
 simp
/-! ### Behind what is done -/
theorem zgr (d:D) (s':ByteArray) (i:Int) (data s:ByteArray) (k:Int):seen (addW d (s',i,data)) s k=if s'=s∧i=k then data else seen d s k:=by
 unfold seen addW
 rw [zl3]
 simp only [allK,and_true]
theorem zbw {l:List Ext} (ha:Asc l) {x:Ext} (hx:x ∈ l):exOf l x.1=x:=by
 obtain ⟨i,hi,rfl⟩:=List.getElem_of_mem hx
 have e:=zia ha hi
 rw [zgj (by rw [e];exact hi)]
 simp only [e]
theorem zbk {l:List Ext} {s:ByteArray} (ha:Asc l) (h:has l s=true):exOf l s ∈ l∧(exOf l s).1=s:=by
 obtain ⟨x,hx,rfl⟩:=zbd.1 h
 rw [zbw ha hx];exact ⟨hx,rfl⟩
theorem zdM {f:Ext→Ext} (hf:∀ x,(f x).1=x.1) {l:List Ext} {s:ByteArray} (ha:Asc l) (h:has l s=true):exOf (l.map f) s=f (exOf l s):=by
 obtain ⟨x,hx,rfl⟩:=zbd.1 h
 have:=zbw (zlY hf ha) (List.mem_map_of_mem hx)
 rw [hf] at this
 rw [this,zbw ha hx]
theorem zdN {d:D} {s:ByteArray} {k:Int} (h:(placeD d s k).2=0):has d.ext s=true∧0≤k∧k<sec (exOf d.ext s):=by
 unfold placeD at h
 by_cases q:has d.ext s=true
 ·rw [if_pos q] at h
  by_cases q1:k<0∨(sec (exOf d.ext s):Int)≤k
  ·rw [if_pos q1] at h;simp at h
  ·exact ⟨q,by omega,by omega⟩
 ·rw [if_neg q] at h;simp at h
theorem zds {d:D} {s:ByteArray} {k:Int} (hR:Right d) (h:(placeD d s k).2=0) (kp:Nat→Bool):seen (settleD d kp) s k=seeW kp d.waits s k ((exOf d.ext s).2.extract (64*k.toNat) (64*k.toNat+64)) d.waits.length:=by
 obtain ⟨hh,h0,h1⟩:=zdN h
 obtain ⟨hm,hn⟩:=zbk hR.ex.asc hh
 have hs:=(zcQ (hR.ex.ok _ hm)).2
 obtain ⟨m,rfl⟩ : ∃ m:Nat,k=m:=⟨k.toNat,by omega⟩
 unfold seen settleD
 simp only [List.length_nil,seeW]
 rw [zdM (f:=doneX kp d.waits) (fun _=>rfl) hR.ex.asc hh]
 have:=zl2 (kp:=kp) (k:=m) (ze3 hR hm) (by omega) d.waits.length (Nat.le_refl _)
 rw [hn] at this
 exact this
end
section
open Go.RowKit
namespace Reg

def Yield (P:Program) (m:Sem Next) (w:World) (R:Value→World→Prop):Prop :=
  match m.run P w with
  | .ok (.value v) w'=>R v w'
  | .ok .skip w'=>R undef w'
  | .ok (.enter f args) w'=>Calls P f args w' fun e w''=>∃ v,e = .returned v∧R v w''
  | _=>False

def before (ops:Array Oper) (i d:Nat):Bool:=ops.toList.all fun o=>o.dst != some d || o.after.toList.any (fun e=>Region.binds .any e && e.on == i)

def upd (s:Nat→Bool) (i:Nat):Nat→Bool:=fun k=>k == i || s k
theorem zaI (s:Nat→Bool) (i:Nat):upd s i i=true:=by simp [upd]
theorem zar (s:Nat→Bool) {i k:Nat} (h:k≠i):upd s i k=s k:=by simp [upd,h]
def waits (ops:Array Oper) (i k:Nat):Bool:=((ops[k]?).map fun o=>o.after.toList.any fun e=>Region.binds .any e && e.on == i).getD false

def Step (P:Program) (ops:Array Oper) (T:Array Value) (D:Nat→Value→World→Prop) (I:(Nat→Bool)→World→Prop) (Ext:World→World→Prop) (i:Nat) (o:Oper):Prop :=
  ∀ (a:Act) (w:World) (s:Nat→Bool),a.tmps.size=T.size→I s w →
    (∀ e ∈ o.after,Region.binds .any e=true → ∀ o' d,ops[e.on]?=some o'→o'.dst=some d→D e.on (a.eval (.tmp d)) w) →
    (∀ e ∈ o.after,Region.binds .any e=true→s e.on=true)→s i=false→(∀ k,waits ops i k=true→s k=false) →
    (∀ d,before ops i d=true→a.eval (.tmp d)=T.getD d undef) →
    match o.guard with
    | none=>Yield P (execOp a.eval o) w fun v w'=>D i v w'∧I (upd s i) w'∧Ext w w'
    | some (g,want)=>∃ b og dg,ops[g]?=some og∧og.dst=some dg∧a.eval (.tmp dg) = .bool b ∧
        if b=want then Yield P (execOp a.eval o) w fun v w'=>D i v w'∧I (upd s i) w'∧Ext w w' else D i undef w∧I (upd s i) w∧Ext w w

def good (ops:Array Oper) (n:Nat):Bool :=
  (ops.toList.filterMap (·.dst)).all (·<n) &&
  ((List.range ops.size).all fun i=>(List.range ops.size).all fun j=>i == j || ((ops[i]?).bind (·.dst)).isNone || ((ops[i]?).bind (·.dst)) != ((ops[j]?).bind (·.dst))) &&
  ((List.range ops.size).all fun i=>((ops[i]?).map fun o=>o.after.all fun e=>decide (e.on<i)).getD true)

structure Inv (ops:Array Oper) (T:Array Value) (df:List Deferred) (D:Nat→Value→World→Prop) (I:(Nat→Bool)→World→Prop) (listed:Array Bool) (a:Act) (w:World):Prop where
  df:a.defers=df
  sz:a.tmps.size=T.size
  base:∀ d,(∀ k o,ops[k]?=some o→o.dst=some d→listed.getD k false=false)→a.tmps.getD d undef=T.getD d undef
  done:∀ k o d,ops[k]?=some o→o.dst=some d→listed.getD k false=true→D k (a.tmps.getD d undef) w
  closed:∀ k o,ops[k]?=some o→listed.getD k false=true → ∀ e ∈ o.after,Region.binds .any e=true→listed.getD e.on false=true
  lsz:listed.size=ops.size
  inv:I (fun k=>listed.getD k false) w

theorem zjs {ops:Array Oper} {n:Nat} (h:good ops n=true) {i:Nat} {o:Oper} {d:Nat} (hi:ops[i]?=some o) (hd:o.dst=some d):d<n:=by
 simp only [good,Bool.and_eq_true,List.all_eq_true,decide_eq_true_eq] at h
 exact h.1.1 d (List.mem_filterMap.2 ⟨o,by simpa using Array.mem_of_getElem? hi,hd⟩)
theorem zot {ops:Array Oper} {n:Nat} (h:good ops n=true) {i j:Nat} {o o':Oper} {d:Nat} (hi:ops[i]?=some o) (hj:ops[j]?=some o') (hd:o.dst=some d) (hd':o'.dst=some d):i=j:=by
 simp only [good,Bool.and_eq_true,List.all_eq_true] at h
 have hil:=(Array.getElem?_eq_some_iff.1 hi).1
 have hjl:=(Array.getElem?_eq_some_iff.1 hj).1
 have:=h.1.2 i (List.mem_range.2 hil) j (List.mem_range.2 hjl)
 simpa [hi,hj,hd,hd'] using this
theorem zl4 {ops:Array Oper} {n:Nat} (h:good ops n=true) {i:Nat} {o:Oper} (hi:ops[i]?=some o) {e:Edge} (he:e ∈ o.after):e.on<i:=by
 simp only [good,Bool.and_eq_true,List.all_eq_true] at h
 have hil:=(Array.getElem?_eq_some_iff.1 hi).1
 have:=h.2 i (List.mem_range.2 hil)
 simp only [hi,Option.map_some,Option.getD_some,Array.all_eq_true_iff_forall_mem,decide_eq_true_eq] at this
 exact this e he

theorem zou (T:Array Value) (d:Nat) (v:Value) (h:d<T.size) (k:Nat):(T.setIfInBounds d v).getD k undef=if k=d then v else T.getD k undef:=by
 simp only [Array.getD_eq_getD_getElem?,Array.getElem?_setIfInBounds]
 by_cases e:d=k
 ·subst e;simp [h]
 ·simp [e,Ne.symm e]

theorem zdO {listed:Array Bool} {i:Nat} (h:i<listed.size) (b:Bool):listed.getD i b=listed.getD i (!b):=by simp [h]

section
variable {P:Program} {ops:Array Oper} {Q:Exit→Act→World→Prop} {T:Array Value} {df:List Deferred} {D:Nat→Value→World→Prop} {I:(Nat→Bool)→World→Prop} {Ext:World→World→Prop}

theorem zis (hg:good ops T.size=true) {listed:Array Bool} (hl:listed.size=ops.size) (h:Region.ready .any ops listed = []):∀ k,k<ops.size→listed.getD k false=true:=by
 intro k
 induction k using Nat.strongRecOn with
 | _ k ih =>
  intro hk
  cases hv:listed.getD k false with
  | true=>rfl
  | false =>
   exfalso
   have hm:k ∈ Region.ready .any ops listed:=by
    rw [mem_ready]
    refine ⟨by rw [zdO (by omega)];exact hv,ops[k],Array.getElem?_eq_getElem hk,fun e he _=>?_⟩
    have hlt:=zl4 hg (Array.getElem?_eq_getElem hk) he
    exact ih e.on hlt (by omega)
   rw [h] at hm
   cases hm

theorem zqZ (hg:good ops T.size=true) (mono:∀ k v w w',Ext w w'→D k v w→D k v w')
  {listed:Array Bool} {a:Act} {w w':World} (h:Inv ops T df D I listed a w) {i:Nat} {o:Oper} (hi:ops[i]?=some o) (hr:i ∈ Region.ready .any ops listed)
  {v:Value} (hD:D i v w') (hI:I (upd (fun k=>listed.getD k false) i) w') (hb:Ext w w'):Inv ops T df D I (listed.setIfInBounds i true) (a.put o.dst v) w':=by
 have hil:=(Array.getElem?_eq_some_iff.1 hi).1
 obtain ⟨hr0,o',ho',hall⟩:=mem_ready.1 hr
 obtain rfl:o=o':=Option.some.inj (hi.symm.trans ho')
 have hnot:listed.getD i false=false:=by rw [zdO (by rw [h.lsz];exact hil)];exact hr0
 have hflag:∀ k,(listed.setIfInBounds i true).getD k false=if k=i then true else listed.getD k false:=fun k=>by
  by_cases e:k=i
  ·subst e;simp [h.lsz,hil]
  ·rw [if_neg e,getD_set_ne false (Ne.symm e)]
 have hput:∀ d,(a.put o.dst v).tmps.getD d undef=if o.dst=some d then v else a.tmps.getD d undef:=fun d=>by
  cases hd:o.dst with
  | none=>simp [Act.put]
  | some d' =>
   have:=zjs hg hi hd
   simp only [Act.put]
   rw [zou _ _ _ (by rw [h.sz];exact this)]
   by_cases e:d=d'
   ·subst e;simp
   ·rw [if_neg e,if_neg (by simpa using fun x=>e x.symm)]
 constructor
 ·cases hd:o.dst <;> simp [Act.put,h.df]
 ·cases hd:o.dst <;> simp [Act.put,h.sz]
 ·intro d hd
  rw [hput]
  by_cases e:o.dst=some d
  ·have:=hd i o hi e
   rw [hflag,if_pos rfl] at this
   cases this
  ·rw [if_neg e]
   refine h.base d fun k ok hk hdk=>?_
   have:=hd k ok hk hdk
   rw [hflag] at this
   by_cases ek:k=i
   ·subst ek;exact hnot
   ·rwa [if_neg ek] at this
 ·intro k ok d hk hdk hlk
  rw [hput]
  rw [hflag] at hlk
  by_cases ek:k=i
  ·subst ek
   obtain rfl:o=ok:=Option.some.inj (hi.symm.trans hk)
   rw [if_pos hdk];exact hD
  ·rw [if_neg ek] at hlk
   rw [if_neg (fun e=>ek (zot hg hk hi hdk e))]
   exact mono _ _ _ _ hb (h.done k ok d hk hdk hlk)
 ·intro k ok hk hlk e he hbe
  rw [hflag] at hlk
  rw [hflag]
  by_cases ee:e.on=i
  ·rw [if_pos ee]
  ·rw [if_neg ee]
   by_cases ek:k=i
   ·subst ek
    obtain rfl:o=ok:=Option.some.inj (hi.symm.trans hk)
    exact hall e he hbe
   ·rw [if_neg ek] at hlk
    exact h.closed k ok hk hlk e he hbe
 ·simp [h.lsz]
 ·have e:(fun k=>(listed.setIfInBounds i true).getD k false)=upd (fun k=>listed.getD k false) i:=by
   funext k
   rw [hflag]
   by_cases ek:k=i
   ·subst ek;rw [if_pos rfl,zaI]
   ·rw [if_neg ek,zar _ ek]
  rw [e];exact hI

theorem ze6 {o:Oper} {a:Act} {w:World} {K:Act→World→Prop} {R:Value→World→Prop} (h:Yield P (execOp a.eval o) w R) (hK:∀ v w',R v w'→K (a.put o.dst v) w'):o.wp P a w K Q:=by
 unfold Yield at h
 unfold Oper.wp
 generalize (execOp a.eval o).run P w=r at *
 cases r with
 | ok n w' =>
  cases n <;> simp only [Oper.upon] at h ⊢ <;> first
   | exact hK _ _ h
   | exact h.elim
   | (refine Calls.mono h ?_;rintro e w'' ⟨v,rfl,hR⟩;exact hK _ _ hR)
 | halt x w'=>exact h.elim

theorem zs1 (hg:good ops T.size=true) (mono:∀ k v w w',Ext w w'→D k v w→D k v w')
  (step:∀ i o,ops[i]?=some o→Step P ops T D I Ext i o)
  (fin:∀ tm w' s,tm.size=T.size→I s w'→(∀ k,k<ops.size→s k=true)→(∀ k o d,ops[k]?=some o→o.dst=some d→D k (tm.getD d undef) w') →
   (∀ d,(∀ (k:Nat) (o:Oper),ops[k]?=some o→o.dst≠some d)→tm.getD d undef=T.getD d undef)→Q .normal ⟨tm,df⟩ w') :
  ∀ (fuel:Nat) (listed:Array Bool) (a:Act) (w:World),((List.range ops.size).countP fun k=>!listed.getD k false)≤fuel→Inv ops T df D I listed a w→wpAny P .any ops Q fuel listed a w:=by
 have hend:∀ (listed:Array Bool) (a:Act) (w:World),Inv ops T df D I listed a w→(∀ k,k<ops.size→listed.getD k false=true)→Q .normal a w:=by
  intro listed a w h hall
  obtain ⟨tm,dfs⟩:=a
  obtain rfl:dfs=df:=h.df
  refine fin tm w _ h.sz h.inv hall (fun k o d hk hd=>h.done k o d hk hd (hall k (Array.getElem?_eq_some_iff.1 hk).1)) fun d hd=>h.base d fun k o hk hdk=>(hd k o hk hdk).elim
 intro fuel
 induction fuel with
 | zero =>
  intro listed a w hc h
  have hall:∀ k,k<ops.size→listed.getD k false=true:=by
   intro k hk
   have:=List.countP_eq_zero.1 (Nat.le_zero.1 hc) k (List.mem_range.2 hk)
   simpa using this
  have he:Region.ready .any ops listed = []:=by
   apply List.eq_nil_iff_forall_not_mem.2
   intro i hi
   obtain ⟨h0,o,ho,_⟩:=mem_ready.1 hi
   have hil:=(Array.getElem?_eq_some_iff.1 ho).1
   have:=hall i hil
   rw [zdO (by rw [h.lsz];exact hil)] at h0
   simp only [Bool.not_true] at h0
   rw [h0] at this;cases this
  exact ⟨he,hend _ _ _ h hall⟩
 | succ fuel ih =>
  intro listed a w hc h
  refine ⟨fun he=>hend _ _ _ h (zis hg h.lsz he),fun i hi=>?_⟩
  obtain ⟨h0,o,ho,hall⟩:=mem_ready.1 hi
  have hil:=(Array.getElem?_eq_some_iff.1 ho).1
  have hnot:listed.getD i false=false:=by rw [zdO (by rw [h.lsz];exact hil)];exact h0
  have hcount:((List.range ops.size).countP fun k=>!(listed.setIfInBounds i true).getD k false)≤fuel:=by
   have hlt:((List.range ops.size).countP fun k=>!(listed.setIfInBounds i true).getD k false)<((List.range ops.size).countP fun k=>!listed.getD k false):=by
    have hsplit:∀ (l:List Nat),i ∈ l→(l.countP fun k=>!(listed.setIfInBounds i true).getD k false)<(l.countP fun k=>!listed.getD k false):=by
     have hle:∀ (l:List Nat),(l.countP fun k=>!(listed.setIfInBounds i true).getD k false)≤(l.countP fun k=>!listed.getD k false):=by
      intro l
      refine List.countP_mono_left fun k _ hk=>?_
      by_cases ek:k=i
      ·subst ek;simp [hnot]
      ·rwa [getD_set_ne false (Ne.symm ek)] at hk
     intro l
     induction l with
     | nil=>intro hm;cases hm
     | cons x l ihl =>
      intro hm
      by_cases ex:x=i
      ·subst ex
       have h1:(listed.setIfInBounds x true).getD x false=true:=by simp [h.lsz,hil]
       rw [List.countP_cons,List.countP_cons,h1,hnot]
       have:=hle l
       simp only [Bool.not_true,Bool.not_false,if_true,Bool.false_eq_true,if_false]
       omega
      ·have hm':i ∈ l:=(List.mem_cons.1 hm).resolve_left (Ne.symm ex)
       rw [List.countP_cons,List.countP_cons,getD_set_ne false (Ne.symm ex)]
       have:=ihl hm'
       omega
    exact hsplit _ (List.mem_range.2 hil)
   omega
  have hst:=step i o ho a w (fun k=>listed.getD k false) h.sz h.inv
   (fun e he hb o' d ho' hd=>h.done e.on o' d ho' hd (hall e he hb)) (fun e he hb=>hall e he hb) hnot
   (fun k hk=>by
    unfold waits at hk
    cases hok:ops[k]? with
    | none=>simp [hok] at hk
    | some ok =>
     simp only [hok,Option.map_some,Option.getD_some,List.any_eq_true,Bool.and_eq_true,beq_iff_eq] at hk
     obtain ⟨e,he,hbe,heq⟩:=hk
     cases hlk:listed.getD k false with
     | false=>rfl
     | true =>
      have:=h.closed k ok hok hlk e (Array.mem_toList_iff.1 he) hbe
      rw [heq,hnot] at this;cases this)
   (fun d hd=>h.base d fun k ok hk hdk=>by
    unfold before at hd
    rw [List.all_eq_true] at hd
    have:=hd ok (by simpa using Array.mem_of_getElem? hk)
    simp only [hdk,bne_self_eq_false,Bool.false_or,List.any_eq_true,Bool.and_eq_true,beq_iff_eq] at this
    obtain ⟨e,he,hbe,heq⟩:=this
    have he:=Array.mem_toList_iff.1 he
    cases hlk:listed.getD k false with
    | false=>rfl
    | true =>
     have:=h.closed k ok hk hlk e he hbe
     rw [heq,hnot] at this;cases this)
  have hput:∀ v w',D i v w'∧I (upd (fun k=>listed.getD k false) i) w'∧Ext w w'→wpAny P .any ops Q fuel (listed.setIfInBounds i true) (a.put o.dst v) w':=fun v w' ⟨hD,hI,hb⟩ =>
   ih _ _ _ hcount (zqZ hg mono h ho hi hD hI hb)
  unfold wpOp
  simp only [ho]
  cases hgd:o.guard with
  | none =>
   simp only [hgd] at hst
   rw [if_pos (by simp [Region.wanted,hgd])]
   exact .inl (ze6 hst hput)
  | some gw =>
   obtain ⟨g,want⟩:=gw
   simp only [hgd] at hst
   obtain ⟨b,og,dg,hog,hdg,hρ,hst⟩:=hst
   have hdlt:=zjs hg hog hdg
   have hy:yielded ops a.tmps g=some b:=by
    have:a.tmps[dg]?=some (.bool b):=by
     have h1:a.tmps.getD dg undef = .bool b:=hρ
     have h2:dg<a.tmps.size:=by rw [h.sz];exact hdlt
     simpa [h2] using h1
    simp [yielded,hog,hdg,this]
   by_cases hbw:b=want
   ·rw [if_pos hbw] at hst
    rw [if_pos (by simp [Region.wanted,hgd,hy,hbw])]
    exact .inl (ze6 hst hput)
   ·rw [if_neg hbw] at hst
    rw [if_neg (by simp [Region.wanted,hgd,hy,hbw])]
    exact hput undef w hst

theorem zjt {id:Nat} {w:World} (hm:P.follows .mixedOrders=true) (hg:good ops T.size=true)
  (D:Nat→Value→World→Prop) (I:(Nat→Bool)→World→Prop) (Ext:World→World→Prop) (h0:I (fun _=>false) w.drew) (mono:∀ k v w w',Ext w w'→D k v w→D k v w')
  (step:∀ i o,ops[i]?=some o→Step P ops T D I Ext i o)
  (fin:∀ tm w' s,tm.size=T.size→I s w'→(∀ k,k<ops.size→s k=true)→(∀ k o d,ops[k]?=some o→o.dst=some d→D k (tm.getD d undef) w') →
   (∀ d,(∀ (k:Nat) (o:Oper),ops[k]?=some o→o.dst≠some d)→tm.getD d undef=T.getD d undef)→Q .normal ⟨tm,df⟩ w') :
  (Code.region id ops true).wp P Q ⟨T,df⟩ w:=by
 refine wp_region_any hm (zs1 (T:=T) (df:=df) hg mono step fin ops.size _ _ _ ?_ ?_)
 ·exact Nat.le_trans List.countP_le_length (by simp)
 ·have hf:∀ k,(Array.replicate ops.size false).getD k false=false:=fun k=>by
   simp only [Array.getD_eq_getD_getElem?,Array.getElem?_replicate];split <;> rfl
  exact ⟨rfl,rfl,fun _ _=>rfl,fun k o d _ _ h=>(by rw [hf] at h;exact absurd h (by decide)),fun k o _ h=>(by rw [hf] at h;exact absurd h (by decide)),by simp,(by simp only [hf];exact h0)⟩
end

def AllFrom (X:Nat→Oper→Prop):Nat→List Oper→Prop
  | _,[]=>True
  | k,o :: l=>X k o∧AllFrom X (k+1) l
theorem ze7 {X:Nat→Oper→Prop}:∀ (l:List Oper) (k:Nat),AllFrom X k l → ∀ i o,l[i]?=some o→X (k+i) o
 | [],_,_,i,o,h=>by simp at h
 | x :: l,k,⟨h1,h2⟩,i,o,h=>by
  cases i with
  | zero=>simp at h;subst h;exact h1
  | succ i =>
   have:=ze7 l (k+1) h2 i o (by simpa using h)
   rwa [show k+1+i=k+(i+1) from by omega] at this
theorem each {X:Nat→Oper→Prop} {l:List Oper} (h:AllFrom X 0 l):∀ i o,l.toArray[i]?=some o→X i o:=fun i o hi=>by
 have:=ze7 l 0 h i o (by simpa using hi)
 rwa [Nat.zero_add] at this
end Reg
end
section
open Go.RowKit Go.Shelf
open Mv Disk
set_option maxRecDepth 4000
def RdK (M:Mem) (p:Nat) (d:D) (qe:Option Addr) (de:Nat) (sv:Value):Prop:=M.Knows ⟨p,0,none⟩ [.int .i64 d.size,.slice qe d.ext.length de,sv,.int .i64 d.fuse,.bool d.down]∧Sl 2 extF M (.slice qe d.ext.length de) d.ext
set_option maxHeartbeats 1000000 in
theorem zku (p:Nat) (d:D) (s:ByteArray) (i:Int) (M:Mem) (qe:Option Addr) (de:Nat) (sv:Value) (h:RdK M p d qe de sv) (hR:Right d):ACall Tryz.prog 80 #[.pointer (some ⟨p,0,none⟩),.string s,.int .i64 i] M fun r S'=>r = .tuple #[.int .i64 ((placeD d s i).1:Nat),.int .i64 (placeD d s i).2]∧S'=M:=by
 obtain ⟨hp,hME⟩:=h
 have hp1:=zgm hp 1 rfl
 have hhp:=zdq hR.ex.asc s
 unfold placeD
 by_cases q:has d.ext s=true
 ·obtain ⟨hlt,he⟩:=hhp.1 q
  have hsx:=zb2 hR (List.getElem_mem hlt)
  have hfind:=za_ _ d.ext s M hME hR.ex.asc (Nat.le_trans (zaV hR).1 (by decide))
  rw [if_pos q,zgj hlt]
  obtain ⟨_,_,ee1,ee2,ee3,hE3⟩:=id hME
  cases ee1
  obtain ⟨b,off,rfl,hk⟩:=hE3.resolve_left (fun e=>by rw [e] at hlt;simp at hlt)
  have hki:=hk _ hlt
  generalize hpp:pos d.ext s=k at *
  generalize d.ext[k]=x at *
  unfold extF at hki
  by_cases q1:i<0
  ·rw [if_pos (.inl q1)]
   refine k_E3 (rs:=[.tmp 6,.tmp 7]) 40 Tryz.func80 rfl rfl rfl ?_
   refine r14_ ?_
   refine ca_ rfl (hfind) ?_
   rintro _ S1 ⟨rfl,h1⟩
   rw [h1,q];clear h1 S1
   refine r16_ ?_
   refine cF_ ?_
   refine r20_ ?_
   refine cT_ ?_
   refine r9_ ?_
   refine ⟨_,M,⟨_,_,rfl,⟨_,_,rfl,rfl,rfl⟩,rfl⟩,zad,?_⟩
   exact ⟨rfl,rfl⟩
  ·by_cases q2:(sec x:Int)≤i
   ·rw [if_pos (.inr q2)]
    refine k_E3 (rs:=[.tmp 6,.tmp 7]) 40 Tryz.func80 rfl rfl rfl ?_
    refine r14_ ?_
    refine ca_ rfl (hfind) ?_
    rintro _ S1 ⟨rfl,h1⟩
    rw [h1,q];clear h1 S1
    refine r16_ ?_
    refine k_v8 0 1 2 6 7 8 9 20 ?_
    refine cF_ ?_
    refine r14_ ?_
    refine ARun.callG 2 false 26 rfl (zab rfl) rfl (zab rfl) zes rfl (zaU x _ (by omega)) ?_
    rintro _ S1 ⟨rfl,h1⟩
    rw [h1];clear h1 S1
    refine r5_ ?_
    refine cT_ ?_
    refine r9_ ?_
    refine ⟨_,M,⟨_,_,rfl,⟨_,_,rfl,rfl,rfl⟩,rfl⟩,zad,?_⟩
    exact ⟨rfl,rfl⟩
   ·rw [if_neg (by omega)]
    refine k_E3 (rs:=[.tmp 6,.tmp 7]) 40 Tryz.func80 rfl rfl rfl ?_
    refine r14_ ?_
    refine ca_ rfl (hfind) ?_
    rintro _ S1 ⟨rfl,h1⟩
    rw [h1,q];clear h1 S1
    refine r16_ ?_
    refine cF_ ?_
    refine r14_ ?_
    refine ARun.callG 2 false 26 rfl (zab rfl) rfl (zab rfl) zes rfl (zaU x _ (by omega)) ?_
    rintro _ S1 ⟨rfl,h1⟩
    rw [h1];clear h1 S1
    refine r5_ ?_
    refine cF_ ?_
    refine r10_ ?_
    refine k_v9 0 1 2 6 7 8 9 20 23 ?_
    refine s1_ ?_
    refine ⟨_,M,⟨_,_,rfl,⟨_,_,rfl,rfl,rfl⟩,rfl⟩,zad,?_⟩
    exact ⟨rfl,rfl⟩
 ·rw [if_neg q]
  refine k_E3 (rs:=[.tmp 6,.tmp 7]) 40 Tryz.func80 rfl rfl rfl ?_
  refine r14_ ?_
  refine ca_ rfl (za_ _ d.ext s _ hME hR.ex.asc (Nat.le_trans (zaV hR).1 (by decide))) ?_
  rintro _ S1 ⟨rfl,h1⟩
  rw [h1,Bool.eq_false_iff.2 q];clear h1 S1
  refine r16_ ?_
  refine cT_ ?_
  refine r9_ ?_
  refine ⟨_,M,⟨_,_,rfl,⟨_,_,rfl,rfl,rfl⟩,rfl⟩,zad,?_⟩
  exact ⟨rfl,rfl⟩
theorem zfJ {w w1:World} (h:Below w.heap.size w w1):View (roM w) w1 :=
 ⟨fun _ _ h=>(by cases h),fun a v hv=>⟨by
  have hb:a.block<w.heap.size:=by
   rcases Nat.lt_or_ge a.block w.heap.size with q | q
   ·exact q
   ·have hv':w.cell? a=some v:=hv
    simp [World.cell?,Array.getElem?_eq_none q] at hv'
  exact (h.cell hb).trans hv,rfl⟩,fun _ _ h=>(by cases h)⟩
theorem zit (p:Nat) (d:D) (s:ByteArray) (i:Int) (w:World) (qe:Option Addr) (de:Nat) (sv:Value) (h:RdK (roM w) p d qe de sv) (hR:Right d) (w1:World) (hb:Below w.heap.size w w1) :
  Calls Tryz.prog 80 #[.pointer (some ⟨p,0,none⟩),.string s,.int .i64 i] w1 fun e w2=>e = .returned (.tuple #[.int .i64 ((placeD d s i).1:Nat),.int .i64 (placeD d s i).2])∧Below w1.heap.size w1 w2 :=
 (zku p d s i (roM w) qe de sv h hR w1 (zfJ hb)).mono fun _ _ ⟨v,S',he,⟨hr,_⟩,st⟩=>⟨by rw [he,hr],st.toBelow fun _=>rfl⟩
theorem zqc {w w2:World} {t1 t2 t3 t4:TypeId} {v1 v2 v3 v4:Value} (h:Below ((((w.alloc (.cells #[v1] t1)).alloc (.cells #[v2] t2)).alloc (.cells #[v3] t3)).alloc (.cells #[v4] t4)).heap.size ((((w.alloc (.cells #[v1] t1)).alloc (.cells #[v2] t2)).alloc (.cells #[v3] t3)).alloc (.cells #[v4] t4)) w2) :
  Boxed w2 w.heap.size t1 v1∧Boxed w2 (w.heap.size+1) t2 v2∧Boxed w2 (w.heap.size+1+1) t3 v3∧Boxed w2 (w.heap.size+1+1+1) t4 v4∧Below w.heap.size w w2∧w.heap.size+4≤w2.heap.size:=by
 have b1:=(((Boxed.new w t1 v1).alloc (.cells #[v2] t2)).alloc (.cells #[v3] t3)).alloc (.cells #[v4] t4)
 have b2:=((Boxed.new (w.alloc (.cells #[v1] t1)) t2 v2).alloc (.cells #[v3] t3)).alloc (.cells #[v4] t4)
 have b3:=(Boxed.new ((w.alloc (.cells #[v1] t1)).alloc (.cells #[v2] t2)) t3 v3).alloc (.cells #[v4] t4)
 have b4:=Boxed.new (((w.alloc (.cells #[v1] t1)).alloc (.cells #[v2] t2)).alloc (.cells #[v3] t3)) t4 v4
 have hB0:Below w.heap.size w ((((w.alloc (.cells #[v1] t1)).alloc (.cells #[v2] t2)).alloc (.cells #[v3] t3)).alloc (.cells #[v4] t4)):=((((Below.refl _ w).alloc (Nat.le_refl _) _).alloc (by simp) _).alloc (by simp;omega) _).alloc (by simp;omega) _
 have hsz:((((w.alloc (.cells #[v1] t1)).alloc (.cells #[v2] t2)).alloc (.cells #[v3] t3)).alloc (.cells #[v4] t4)).heap.size=w.heap.size+4:=by simp
 simp only [World.size_alloc] at b2 b3 b4
 rw [hsz] at h
 exact ⟨(h.block _ (by omega)).trans b1,(h.block _ (by omega)).trans b2,(h.block _ (by omega)).trans b3,(h.block _ (by omega)).trans b4,hB0.trans (h.mono (by omega)),by rw [← hsz];exact h.size⟩
theorem ze8 (W:World) (cs:Array Value) (t:TypeId) (i:Nat) {v:Value} (h:cs[i]?=some v):(W.alloc (.cells cs t)).cell? ⟨W.heap.size,i,none⟩=some v:=by
 have e:=World.alloc_heap_new W (.cells cs t)
 unfold World.cell?
 rw [e]
 exact h
theorem zov {d:D} {s:ByteArray} {k:Int} {j:Nat} (hR:Right d) (h:placeD d s k=(j,0)):∃ hlt:j<d.ext.length,exOf d.ext s=d.ext[j]∧0≤k∧k<sec d.ext[j]:=by
 unfold placeD at h
 by_cases q:has d.ext s=true
 ·obtain ⟨hlt,_⟩:=(zdq hR.ex.asc s).1 q
  rw [if_pos q] at h
  by_cases q1:k<0∨(sec (exOf d.ext s):Int)≤k
  ·rw [if_pos q1] at h;simp at h
  ·rw [if_neg q1] at h
   obtain rfl:pos d.ext s=j:=by simpa using h
   rw [zgj hlt] at q1 ⊢
   exact ⟨hlt,rfl,by omega,by omega⟩
 ·rw [if_neg q] at h;simp at h
attribute [local go_sem] Oper.semAt_some
theorem zbq {n B:Nat} {W W':World} {t:TypeId} {v:Value} (h:Below n W W') (hb:B<n) (hx:Boxed W B t v):Boxed W' B t v:=(h.block _ hb).trans hx
theorem Waits.grow {n m:Nat} {W:World} {sv:Value} {zs:List Wr} (h:Waits n W sv zs) (hl:n≤m):Waits m W sv zs:=by
 obtain ⟨A,cap,e,h1⟩:=h
 exact ⟨A,cap,e,h1.imp id fun ⟨b,off,e1,hb,hc⟩=>⟨b,off,e1,by omega,hc⟩⟩
theorem zow {m:Nat} {ex:Ext} (h1:sec ex≤16384∧ex.2.size=64*sec ex∧1≤sec ex) (h2:(m:Int)<(sec ex:Int)):IntKind.i64.wrap (64*(m:Int))=((64*m:Nat):Int)∧IntKind.i64.wrap ((m:Int)+1)=((m+1:Nat):Int)∧IntKind.i64.wrap (64*((m+1:Nat):Int))=((64*(m+1):Nat):Int)∧64*(m+1)≤ex.2.size:=by
 refine ⟨?_,?_,?_,by omega⟩
 ·rw [IntWalk.i64_in _ (by omega)];omega
 ·rw [IntWalk.i64_in _ (by omega)];omega
 ·rw [IntWalk.i64_in _ (by omega)];omega
/-! ### A region behind a deferred mark -/
def Lk (a:Act):Env→Prop
  | []=>True
  | (k,v) :: E=>a.tmps.getD k undef=v∧Lk a E
theorem Lk.at_ {a:Act}:∀ {E:Env},Lk a E → ∀ d v,lk E d=some v→a.tmps.getD d undef=v
 | [],_,d,v,h=>by cases h
 | (k,u) :: E,⟨h1,h2⟩,d,v,h=>by
  simp only [lk] at h
  split at h
  ·rename_i e;cases h;rw [← e];exact h1
  ·exact h2.at_ d v h
theorem zam {P:Program} {N:Nat} {o:Oper} {E:Env} {v:Value} {R:Value→World→Prop} {a:Act} {w:World} (hsz:a.tmps.size=N) (hE:Lk a E) (hc:ACalm P N o E (roM w) v) (hR:R v w):Reg.Yield P (execOp a.eval o) w R:=by
 unfold Reg.Yield
 have:=hc ⟨a.tmps,[]⟩ w ⟨hsz,rfl,hE.at_⟩ (zgd w)
 have e:(execOp a.eval o).run P w = .ok (.value v) w:=this
 rw [e];exact hR
theorem zdi {w:World} {a:Addr} {v:Value} (h:w.cell? a=some v):(roM w).rd a=some v:=h
theorem ze9 {P:Program} {T:TypeId} {x y:Operand} {a:Act} {w:World} {b:Nat} {t:TypeId} {v0 v:Value} {ty:TypeId} {pos:String} {aft:Array Edge} {gd:Option (Nat × Bool)} {R:Value→World→Prop} (hs:sizeT P T=some 1) (hc:v.cells = #[v]) (h1:v.oneCell'=true) (hb:Boxed w b t v0) (hx:a.eval x = .pointer (some ⟨b,0,none⟩)) (hy:a.eval y=v) (hR:R undef (w.setCell ⟨b,0,none⟩ v)):Reg.Yield P (execOp a.eval ⟨none,.store T x y,ty,pos,aft,gd⟩) w R:=by
 have hv:View ⟨fun k=>if k=b then some ⟨t,[v0],1⟩ else none,⟨fun _=>none,fun _=>none⟩⟩ w:=⟨fun k r hk=>(by
  by_cases e:k=b
  ·subst e
   simp only [if_true] at hk
   cases hk
   exact ⟨#[v0],(0,0),hb,List.prefix_refl _,Nat.le_refl _,fun j _ h=>by omega⟩
  ·simp only [if_neg e] at hk;cases hk),fun _ _ h=>(by cases h),fun _ _ h=>(by cases h)⟩
 obtain ⟨h2,_⟩:=za5 (P:=P) hv (b:=b) (o:=0) (r:=⟨t,[v0],1⟩) (vs:=[v]) (by simp) (Nat.zero_le _) (.inl (Nat.le_refl _)) (by simpa using h1)
 have e:(execOp a.eval ⟨none,.store T x y,ty,pos,aft,gd⟩).run P w = .ok .skip (w.setCell ⟨b,0,none⟩ v):=by
  have hs':sizeT P T=some v.cells.size:=by rw [hc];exact hs
  have h2':(storeCells ⟨b,0,none⟩ v.cells.toList).run P w = .ok () (w.setCell ⟨b,0,none⟩ v):=by rw [hc];exact h2
  simp [execOp,hx,hy,Instr.storeAt,Instr.sureAddr,storeVar,zaS hs' w,h2']
 unfold Reg.Yield
 rw [e];exact hR
theorem zqd {ops:Array Oper} {d:Nat} (h:(ops.toList.all fun o=>o.dst != some d)=true):∀ (k:Nat) (o:Oper),ops[k]?=some o→o.dst≠some d:=fun k o hk e=>by
 have:=List.all_eq_true.1 h o (by simpa using Array.mem_of_getElem? hk)
 rw [e] at this;simp at this
def two (W:World) (B6 B7:Nat) (v6 v7:Value):Bool→Bool→World
  | _,true=>(W.setCell ⟨B6,0,none⟩ v6).setCell ⟨B7,0,none⟩ v7
  | true,false=>W.setCell ⟨B6,0,none⟩ v6
  | false,false=>W
theorem za7 {W:World} {B6 B7:Nat} {v6 v7:Value} {st:Nat→Bool} {w1:World} {i:Nat} (h:w1=two W B6 B7 v6 v7 (st 15) (st 16)) (h1:15≠i) (h2:16≠i):w1=two W B6 B7 v6 v7 (Reg.upd st i 15) (Reg.upd st i 16):=by
 rw [Reg.zar _ h1,Reg.zar _ h2];exact h
theorem za0 {W:World} {B6 B7:Nat} {v6 v7:Value} {st:Nat→Bool} {w1:World} (h:w1=two W B6 B7 v6 v7 (st 15) (st 16)) (h1:st 15=false) (h2:st 16=false):w1=W:=by
 rw [h,h1,h2];rfl
set_option maxRecDepth 100000 in
set_option maxHeartbeats 4000000 in
theorem readW (p:Nat) (d:D) (s:ByteArray) (k:Int) (w:World) (qe:Option Addr) (de:Nat) (sv:Value) (h:RdK (roM w) p d qe de sv) (hR:Right d) (hpn:p<w.heap.size) (hWt:Waits w.heap.size w sv d.waits) (hlen:d.waits.length≤16384) :
  Calls Tryz.prog 61 #[.pointer (some ⟨p,0,none⟩),.string s,.int .i64 k] w fun e w'=>e = .returned (.tuple #[.string (readD d s k).1,.int .i64 (readD d s k).2])∧Below w.heap.size w w':=by
 have hpl:=zit p d s k w qe de sv h hR
 generalize hrv:readD d s k=rv
 obtain ⟨rv1,rv2⟩:=rv
 unfold readD at hrv
 generalize hpd:placeD d s k=pl at *
 obtain ⟨j,er⟩:=pl
 have hc:∀ i v,[Value.int .i64 d.size,.slice qe d.ext.length de,sv,.int .i64 d.fuse,.bool d.down][i]?=some v → ∀ w2,Below w.heap.size w w2→w2.cell? ⟨p,i,none⟩=some v:=fun i v hi w2 hb=>by
  have:=h.1 w (zgd w) i v hi
  have e:(⟨p,0,none⟩ : Addr).add i=⟨p,i,none⟩:=by unfold Addr.add;cases i <;> simp
  rw [e] at this
  exact (hb.cell (p:=⟨p,i,none⟩) hpn).trans this
 refine (callsIn_wide (n:=6)).1 ?_
 refine callsIn_of_wp_marks Tryz.func61 rfl trivial ?_ rfl
 simp only [Tryz.ntmps61,List.size_toArray,List.length_cons,List.length_nil,Nat.reduceAdd,Nat.reduceSub,Array.replicate_succ,Array.replicate_zero,List.push_toArray,List.append_toArray,List.nil_append,List.cons_append]
 have hB4:∀ (u1 u2 u3 u4:Value) (t1 t2 t3 t4:TypeId),Below w.heap.size w ((((w.alloc (.cells #[u1] t1)).alloc (.cells #[u2] t2)).alloc (.cells #[u3] t3)).alloc (.cells #[u4] t4)):=fun _ _ _ _ _ _ _ _=>((((Below.refl _ w).alloc (Nat.le_refl _) _).alloc (by simp) _).alloc (by simp;omega) _).alloc (by simp;omega) _
 by_cases q:er=0
 ·subst q
  rw [if_neg (by simp)] at hrv
  obtain ⟨A,cap,rfl,hW1⟩:=id hWt
  gi_wp2_with (first
   | (refine ⟨trivial,?_⟩;gi_at_call 80;refine (callsIn_wide.2 (hpl _ (hB4 _ _ _ _ _ _ _ _))).mono ?_;rintro e w2 ⟨rfl,hb2⟩;obtain ⟨b4,b5,b6,b7,hB2,hs2⟩:=zqc hb2;have cW:=hc 2 _ rfl w2 hB2)
   | (refine ⟨trivial,?_⟩;gi_at_call 113;refine (zqY Fence.wide _ trivial rfl _ _ _ _).mono ?_;rintro e w' ⟨rfl,rfl⟩))
  obtain ⟨W0,hW0⟩ : ∃ W0,w2.alloc (.cells #[.slice A d.waits.length cap] 27)=W0:=⟨_,rfl⟩
  have bL:Boxed W0 w2.heap.size 27 (.slice A d.waits.length cap):=by rw [← hW0];exact Boxed.new _ _ _
  have b4':Boxed W0 w.heap.size 9 (.string s):=by rw [← hW0];exact b4.alloc _
  have b5':Boxed W0 (w.heap.size+1) 3 (.int .i64 k):=by rw [← hW0];exact b5.alloc _
  have b6':Boxed W0 (w.heap.size+1+1) 9 (.string { data:=#[] }):=by rw [← hW0];exact b6.alloc _
  have b7':Boxed W0 (w.heap.size+1+1+1) 30 (.int .i64 0):=by rw [← hW0];exact b7.alloc _
  have hB0:Below w.heap.size w W0:=by rw [← hW0];exact hB2.alloc hB2.size _
  have hsz:W0.heap.size=w2.heap.size+1:=by rw [← hW0];simp
  rw [hW0]
  clear hW0 b4 b5 b6 b7 hb2
  have hWt0:Waits W0.heap.size W0 (.slice A d.waits.length cap) d.waits:=(hWt.below hB0).grow (by omega)
  refine wpIn_rangeFunc_ownH rfl (by omega) (gf:=163) (lb:=#[.pointer (some ⟨w2.heap.size,0,none⟩)]) rfl trivial (enters_of Tryz.func163 (by kernel_rfl) rfl)
   (zkt Fence.wide (6-1) trivial rfl (by omega) w2.heap.size W0.heap.size _ d.waits hlen W0 (by omega) (Nat.le_refl _) bL.cell hWt0) belowK_t (belowK_b (Nat.le_refl _)) (Below.refl _ _) (fun _=>rfl)
   (fun pre W=>(∀ y ∈ pre,hit s k y=false)∧Below W0.heap.size W0 W)
   (fun c pre W=>(c = .ret ∧ ∃ pre' y,pre=pre' ++ [y]∧(∀ z ∈ pre',hit s k z=false)∧hit s k y=true∧Boxed W (w.heap.size+1+1) 9 (.string y.2.2.2)∧Boxed W (w.heap.size+1+1+1) 30 (.int .i64 0))∧Below w.heap.size w W)
   (OwnFrom.and (ownFrom_pure _ _) (ownFrom_below (Nat.le_refl _) (Nat.le_refl _)))
   (fun c=>OwnFrom.and (Own.from (fun st A B row hs hg hr=>by obtain ⟨e0,pre',y,e1,e2,e3,e4,e5⟩:=hs;exact ⟨e0,pre',y,e1,e2,e3,boxed_own _ _ (fun (_:Unit)=>Value.string y.2.2.2) () A B row e4 hg hr,boxed_own _ _ (fun (_:Unit)=>Value.int .i64 0) () A B row e5 hg hr⟩) _) (ownFrom_below (Nat.le_refl _) hB0.size))
   ⟨by simp,Below.refl _ _⟩
   (fun x a' W=>∃ Bx,(W.cell? ⟨Bx,0,none⟩=some (.string x.2.1)∧W.cell? ⟨Bx,1,none⟩=some (.int .i64 x.2.2.1)∧W.cell? ⟨Bx,2,none⟩=some (.string x.2.2.2))∧a' = { tmps:=#[.pointer (some ⟨p,0,none⟩),.string s,.int .i64 k,undef,.pointer (some ⟨w.heap.size,0,none⟩),.pointer (some ⟨w.heap.size+1,0,none⟩),.pointer (some ⟨w.heap.size+1+1,0,none⟩),.pointer (some ⟨w.heap.size+1+1+1,0,none⟩),.int .i64 j,.int .i64 0,undef,.pointer (some ⟨Bx,0,none⟩),.tuple #[.int .i64 j,.int .i64 0],.pointer (some ⟨p,0,none⟩),.string s,.int .i64 k,.tuple #[.int .i64 j,.int .i64 0],.int .i64 j,.int .i64 0,.int .i64 0,.bool false,undef,.pointer (some ⟨p,0,none⟩),.pointer (some ⟨p,0,none⟩),.pointer (some ⟨p,0,none⟩),.pointer (some ⟨p,2,none⟩),.slice A d.waits.length cap,.func (.func 163) #[] #[.pointer (some ⟨w2.heap.size,0,none⟩)],.int .i64 x.1,wrV x.2,undef,undef,undef,undef,undef,undef,undef,undef,undef,undef,undef,undef,undef,undef,undef,undef,undef,undef,undef,undef,undef,undef,undef,undef,undef,undef,undef],defers:=[] })
   (fun x a' st X Y row hs hg hr=>by obtain ⟨Bx,⟨h1,h2,h3⟩,h4⟩:=hs;exact ⟨Bx,⟨cell_kept h1 hg (fun r e=>(hr r e).2),cell_kept h2 hg (fun r e=>(hr r e).2),cell_kept h3 hg (fun r e=>(hr r e).2)⟩,h4⟩)
   ?assign ?body ?done ?stop
  case assign =>
   rintro l pre x W K ⟨hI1,hI2⟩ hK
   simp only [wrV] at hK ⊢
   gi_wp2
   exact hK _ _ ((KeepsOthers.alloc _ _).from _) ((Below.refl _ W).alloc hI2.size _) ⟨hI1,hI2.alloc hI2.size _⟩ ⟨W.heap.size,⟨ze8 W _ _ 0 rfl,ze8 W _ _ 1 rfl,ze8 W _ _ 2 rfl⟩,rfl⟩
  case body =>
   rintro l pre x a' W hl ⟨r,hr⟩ ⟨hI1,hI2⟩ ⟨Bx,⟨c0,c1,c2⟩,rfl⟩ hlt
   simp only [wrV]
   have cs:=(zbq hI2 (by omega) b4').cell
   have ck:=(zbq hI2 (by omega) b5').cell
   have bs:=zbq hI2 (by omega) b6'
   have be:=zbq hI2 (by omega) b7'
   have cs6:=bs.cell
   have fs6:=bs.frozen
   have cs7:=be.cell
   have fs7:=be.frozen
   have hBW:Below w.heap.size w W:=hB0.trans (hI2.mono hB0.size)
   gi_wp2
   ·rename_i hx1 hx2
    refine ⟨((KeepsOthers.setCell _ _ _).trans (KeepsOthers.setCell _ _ _)).from _,⟨rfl,pre,x,rfl,hI1,by unfold hit;rw [hx2,hx1];simp,(bs.set _).other (by omega) _,(be.other (by omega) _).set _⟩,(hBW.setCell (p:=⟨w.heap.size+1+1,0,none⟩) (by simp;omega) _).setCell (p:=⟨w.heap.size+1+1+1,0,none⟩) (by simp;omega) _⟩
   ·rename_i hx1 hx2
    exact ⟨KeepsFrom.refl _ _,Below.refl _ _,fun y hy=>(List.mem_append.1 hy).elim (hI1 y) (fun e=>by simp at e;subst e;unfold hit;rw [hx2];simp),hI2⟩
   ·rename_i hx1
    exact ⟨KeepsFrom.refl _ _,Below.refl _ _,fun y hy=>(List.mem_append.1 hy).elim (hI1 y) (fun e=>by simp at e;subst e;unfold hit;rw [beq_eq_false_iff_ne.2 hx1];rfl),hI2⟩
  case done =>
   rintro D ys W hD rfl ⟨hI1,hI2⟩ hK
   have hBW:Below w.heap.size w W:=hB0.trans (hI2.mono hB0.size)
   obtain ⟨hlt,hex,hk0,hk1⟩:=zov hR hpd
   obtain ⟨_,_,ee1,ee2,ee3,hE3⟩:=id h.2
   cases ee1
   obtain ⟨b,off,rfl,hkk⟩:=hE3.resolve_left (fun e=>by rw [e] at hlt;simp at hlt)
   have cE:=hc 1 _ rfl W hBW
   have ck:=(zbq hI2 (by omega) b5').cell
   have bs:=zbq hI2 (by omega) b6'
   have be:=zbq hI2 (by omega) b7'
   have cs6:=bs.cell
   have fs6:=bs.frozen
   have cs7:=be.cell
   have fs7:=be.frozen
   gi_wp2
   have cX:W.cell? ⟨b,off+j*2+1,none⟩=some (.string d.ext[j].2):=zgm (hkk _ hlt) 1 rfl W (zfJ hBW) 0 _ rfl
   have hsx:=zb2 hR (List.getElem_mem hlt)
   obtain ⟨m,rfl⟩ : ∃ m:Nat,k=m:=⟨k.toNat,by omega⟩
   have hnone:lastW d.waits s m=none:=by
    unfold lastW;rw [List.find?_eq_none];intro y hy;rw [hI1 y hy];simp
   rw [hnone,hex] at hrv
   clear hex hnone
   generalize d.ext[j]=ex at *
   obtain ⟨hm1,hm2,hm3,hm4⟩:=zow hsx hk1
   clear hpl hc hW1 hWt0 hB4 hB2 cW bL b4' b5' b6' b7' hI1 hkk hE3 hk0
   refine wpIn_wide.2 ?_
   refine Reg.zjt rfl (by kernel_rfl) (fun k v _=>v=([.pointer (some ⟨p,0,none⟩),.pointer (some ⟨p,0,none⟩),.pointer (some ⟨p,0,none⟩),.pointer (some ⟨p,1,none⟩),.slice (some ⟨b,off,none⟩) d.ext.length de,.int .i64 (j:Int),.pointer (some ⟨b,off+j*2,none⟩),.pointer (some ⟨b,off+j*2+1,none⟩),.string ex.2,.int .i64 (m:Int),.int .i64 ((64*m:Nat):Int),.int .i64 (m:Int),.int .i64 ((m+1:Nat):Int),.int .i64 ((64*(m+1):Nat):Int),.string (ex.2.extract (64*m) (64*(m+1)))] : List Value).getD k undef) (fun st w'=>w'=two W.drew (w.heap.size+1+1) (w.heap.size+1+1+1) (.string (ex.2.extract (64*m) (64*(m+1)))) (.int .i64 0) (st 15) (st 16)) (fun _ _=>True) rfl (fun _ _ _ _ _ h=>h) (Reg.each ?_) ?fin
   case fin =>
    intro tm w' st hsz' hI hall hDf hbase
    have e15:st 15=true:=hall 15 (by decide)
    have e16:st 16=true:=hall 16 (by decide)
    have g6:tm[6]?.getD undef = .pointer (some ⟨w.heap.size+1+1,0,none⟩):=by rw [← Array.getD_eq_getD_getElem?];exact hbase 6 (zqd (by kernel_rfl))
    have g7:tm[7]?.getD undef = .pointer (some ⟨w.heap.size+1+1+1,0,none⟩):=by rw [← Array.getD_eq_getD_getElem?];exact hbase 7 (zqd (by kernel_rfl))
    have hw':w'=(W.drew.setCell ⟨w.heap.size+1+1,0,none⟩ (.string (ex.2.extract (64*m) (64*(m+1))))).setCell ⟨w.heap.size+1+1+1,0,none⟩ (.int .i64 0):=by have h:w'=two _ _ _ _ _ (st 15) (st 16):=hI;rw [h,e15,e16];rfl
    obtain ⟨rfl,rfl⟩ : ex.2.extract (64*m) (64*(m+1))=rv1∧(0:Int)=rv2:=by simpa [Int.toNat_natCast,Nat.mul_succ] using hrv
    have b6:=((bs.set (W:=W.drew) (.string (ex.2.extract (64*m) (64*(m+1))))).other (B':=w.heap.size+1+1+1) (by omega) (.int .i64 0))
    have b7:=((be.other (W:=W.drew) (B':=w.heap.size+1+1) (by omega) (.string (ex.2.extract (64*m) (64*(m+1))))).set (.int .i64 0))
    have hB':Below w.heap.size w w':=by rw [hw'];exact ((hBW.drew).setCell (p:=⟨w.heap.size+1+1,0,none⟩) (by simp;omega) _).setCell (p:=⟨w.heap.size+1+1+1,0,none⟩) (by simp;omega) _
    have hK':w'.heap[D]?=some (.deferred (some [])):=by rw [hw',Below.heap_setCell _ _ _ _ (by show D≠w.heap.size+1+1+1;omega),Below.heap_setCell _ _ _ _ (by show D≠w.heap.size+1+1;omega)];exact hK
    rw [← hw'] at b6 b7
    clear hDf hm1 hm2 hm3 hm4 hsz' hbase hall hI hw' e15 e16 hrv ck cE cX cs6 cs7 fs6 fs7 bs be
    rename_i K1 aK
    refine aK _ _ ?_
    gi_wp2
    refine ⟨by simp,.inl ⟨_,_,rfl,run_takeDeferred hK',?_⟩⟩
    have h6:=cell_kept b6.cell (grownBy_putObj' _ D (.deferred none)) (fun r e=>by cases e;exact ⟨_,hK',rfl⟩)
    have h7:=cell_kept b7.cell (grownBy_putObj' _ D (.deferred none)) (fun r e=>by cases e;exact ⟨_,hK',rfl⟩)
    refine ⟨.tuple #[.string (ex.2.extract (64*m) (64*(m+1))),.int .i64 0],?_,rfl,hB'.trans (belowK_b (w:=w) (Nat.le_refl _) _ D _ _ (by omega) hK' rfl rfl)⟩
    simp [results,Tryz.f61,go_sem,h6,h7,g6,g7]
   refine ⟨?_,?_,?_,?_,?_,?_,?_,?_,?_,?_,?_,?_,?_,?_,?_,?_,?_,trivial⟩
   all_goals (intro a w1 st ha hI hd hs hi hw hT;clear hK hBW hI2 hB0 hWt hpd hrv h)
   ·obtain rfl:=za0 hI (hw 15 (by kernel_rfl)) (hw 16 (by kernel_rfl))
    exact zam ha (E:=[(0,.pointer (some ⟨p,0,none⟩))]) ⟨hT 0 (by kernel_rfl),trivial⟩ (Calm.move rfl) ⟨rfl,za7 hI (by decide) (by decide),trivial⟩
   ·obtain rfl:=za0 hI (hw 15 (by kernel_rfl)) (hw 16 (by kernel_rfl))
    exact zam ha (E:=[(42,.pointer (some ⟨p,0,none⟩))]) ⟨hd ⟨0,.data⟩ (by simp) rfl _ _ rfl rfl,trivial⟩ (Calm.nilCheck rfl) ⟨rfl,za7 hI (by decide) (by decide),trivial⟩
   ·obtain rfl:=za0 hI (hw 15 (by kernel_rfl)) (hw 16 (by kernel_rfl))
    exact zam ha (E:=[(43,.pointer (some ⟨p,0,none⟩))]) ⟨hd ⟨1,.data⟩ (by simp) rfl _ _ rfl rfl,trivial⟩ (Calm.fieldAddr (n:=4) (off:=0) (by kernel_rfl) rfl) ⟨rfl,za7 hI (by decide) (by decide),trivial⟩
   ·obtain rfl:=za0 hI (hw 15 (by kernel_rfl)) (hw 16 (by kernel_rfl))
    exact zam ha (E:=[(44,.pointer (some ⟨p,0,none⟩))]) ⟨hd ⟨2,.data⟩ (by simp) rfl _ _ rfl rfl,trivial⟩ (Calm.fieldAddr (n:=0) (off:=1) (by kernel_rfl) rfl) ⟨rfl,za7 hI (by decide) (by decide),trivial⟩
   ·obtain rfl:=za0 hI (hw 15 (by kernel_rfl)) (hw 16 (by kernel_rfl))
    exact zam ha (E:=[(45,.pointer (some ⟨p,1,none⟩))]) ⟨hd ⟨3,.data⟩ (by simp) rfl _ _ rfl rfl,trivial⟩ (Calm.load (by kernel_rfl) rfl (zdi cE)) ⟨rfl,za7 hI (by decide) (by decide),trivial⟩
   ·obtain rfl:=za0 hI (hw 15 (by kernel_rfl)) (hw 16 (by kernel_rfl))
    exact zam ha (E:=[(8,.int .i64 (j:Int))]) ⟨hT 8 (by kernel_rfl),trivial⟩ (Calm.move rfl) ⟨rfl,za7 hI (by decide) (by decide),trivial⟩
   ·obtain rfl:=za0 hI (hw 15 (by kernel_rfl)) (hw 16 (by kernel_rfl))
    exact zam ha (E:=[(46,.slice (some ⟨b,off,none⟩) d.ext.length de),(47,.int .i64 (j:Int))]) ⟨hd ⟨4,.data⟩ (by simp) rfl _ _ rfl rfl,hd ⟨5,.data⟩ (by simp) rfl _ _ rfl rfl,trivial⟩ (Calm.indexS (e:=155) (n:=2) (by kernel_rfl) (by kernel_rfl) rfl rfl (Int.natCast_nonneg _) (Int.ofNat_lt.2 hlt)) ⟨rfl,za7 hI (by decide) (by decide),trivial⟩
   ·obtain rfl:=za0 hI (hw 15 (by kernel_rfl)) (hw 16 (by kernel_rfl))
    exact zam ha (E:=[(48,.pointer (some ⟨b,off+j*2,none⟩))]) ⟨hd ⟨6,.data⟩ (by simp) rfl _ _ rfl rfl,trivial⟩ (Calm.fieldAddr (n:=0) (off:=1) (by kernel_rfl) rfl) ⟨rfl,za7 hI (by decide) (by decide),trivial⟩
   ·obtain rfl:=za0 hI (hw 15 (by kernel_rfl)) (hw 16 (by kernel_rfl))
    exact zam ha (E:=[(49,.pointer (some ⟨b,off+j*2+1,none⟩))]) ⟨hd ⟨7,.data⟩ (by simp) rfl _ _ rfl rfl,trivial⟩ (Calm.load (by kernel_rfl) rfl (zdi cX)) ⟨rfl,za7 hI (by decide) (by decide),trivial⟩
   ·obtain rfl:=za0 hI (hw 15 (by kernel_rfl)) (hw 16 (by kernel_rfl))
    exact zam ha (E:=[(5,.pointer (some ⟨w.heap.size+1,0,none⟩))]) ⟨hT 5 (by kernel_rfl),trivial⟩ (Calm.load (by kernel_rfl) rfl (zdi ck)) ⟨rfl,za7 hI (by decide) (by decide),trivial⟩
   ·obtain rfl:=za0 hI (hw 15 (by kernel_rfl)) (hw 16 (by kernel_rfl))
    exact zam ha (E:=[(51,.int .i64 (m:Int))]) ⟨hd ⟨9,.data⟩ (by simp) rfl _ _ rfl rfl,trivial⟩ (Calm.bin rfl rfl (zdD hm1)) ⟨rfl,za7 hI (by decide) (by decide),trivial⟩
   ·obtain rfl:=za0 hI (hw 15 (by kernel_rfl)) (hw 16 (by kernel_rfl))
    exact zam ha (E:=[(5,.pointer (some ⟨w.heap.size+1,0,none⟩))]) ⟨hT 5 (by kernel_rfl),trivial⟩ (Calm.load (by kernel_rfl) rfl (zdi ck)) ⟨rfl,za7 hI (by decide) (by decide),trivial⟩
   ·obtain rfl:=za0 hI (hw 15 (by kernel_rfl)) (hw 16 (by kernel_rfl))
    exact zam ha (E:=[(53,.int .i64 (m:Int))]) ⟨hd ⟨11,.data⟩ (by simp) rfl _ _ rfl rfl,trivial⟩ (Calm.bin rfl rfl (zf9 hm2)) ⟨rfl,za7 hI (by decide) (by decide),trivial⟩
   ·obtain rfl:=za0 hI (hw 15 (by kernel_rfl)) (hw 16 (by kernel_rfl))
    exact zam ha (E:=[(54,.int .i64 ((m+1:Nat):Int))]) ⟨hd ⟨12,.data⟩ (by simp) rfl _ _ rfl rfl,trivial⟩ (Calm.bin rfl rfl (zdD hm3)) ⟨rfl,za7 hI (by decide) (by decide),trivial⟩
   ·obtain rfl:=za0 hI (hw 15 (by kernel_rfl)) (hw 16 (by kernel_rfl))
    exact zam ha (E:=[(50,.string ex.2),(52,.int .i64 ((64*m:Nat):Int)),(55,.int .i64 ((64*(m+1):Nat):Int))]) ⟨hd ⟨8,.data⟩ (by simp) rfl _ _ rfl rfl,hd ⟨10,.data⟩ (by simp) rfl _ _ rfl rfl,hd ⟨13,.data⟩ (by simp) rfl _ _ rfl rfl,trivial⟩ (Calm.sliceStr (l:=64*m) (h:=64*(m+1)) (by kernel_rfl) rfl ⟨_,_,rfl,Int.natCast_nonneg _,Int.ofNat_le.2 hm4,rfl⟩ ⟨_,_,rfl,Int.natCast_nonneg _,Int.ofNat_le.2 (Nat.mul_le_mul_left 64 (Nat.le_succ m)),rfl⟩) ⟨rfl,za7 hI (by decide) (by decide),trivial⟩
   ·obtain rfl:=za0 hI hi (hw 16 (by kernel_rfl))
    refine ze9 (v:=.string (ex.2.extract (64*m) (64*(m+1)))) (by kernel_rfl) rfl rfl bs (hT 6 (by kernel_rfl)) (hd ⟨14,.data⟩ (by simp) rfl _ _ rfl rfl) ⟨rfl,?_,trivial⟩
    show _=two _ _ _ _ _ (Reg.upd st 15 15) (Reg.upd st 15 16)
    rw [Reg.zaI,Reg.zar _ (by decide),show st 16=false from hw 16 (by kernel_rfl)];rfl
   ·have e15:st 15=true:=hs ⟨15,.chain⟩ (by simp) rfl
    have e16:st 16=false:=hi
    have hw1:w1=W.drew.setCell ⟨w.heap.size+1+1,0,none⟩ (.string (ex.2.extract (64*m) (64*(m+1)))):=by have h:w1=two _ _ _ _ _ (st 15) (st 16):=hI;rw [h,e15,e16];rfl
    subst hw1
    refine ze9 (v:=.int .i64 0) (by kernel_rfl) rfl rfl (be.other (W:=W.drew) (by omega) _) (hT 7 (by kernel_rfl)) rfl ⟨rfl,?_,trivial⟩
    show _=two _ _ _ _ _ (Reg.upd st 16 15) (Reg.upd st 16 16)
    rw [Reg.zaI,Reg.zar _ (by decide),e15];rfl
  case stop =>
   rintro D c pre W hD ⟨n,hn,rfl⟩ ⟨⟨rfl,pre',y,e1,e2,e3,e4,e5⟩,hB⟩ hK
   have c6:=e4.cell
   have c7:=e5.cell
   have hsome:lastW d.waits s k=some y:=by
    unfold lastW
    obtain ⟨r,hr⟩ : ∃ r,upto (backF d.waits) d.waits.length=upto (backF d.waits) n ++ r:=by
     refine ⟨((List.range d.waits.length).drop n).map (backF d.waits),?_⟩
     unfold upto
     rw [← List.map_append]
     congr 1
     rw [show List.range n=(List.range d.waits.length).take n from by rw [List.take_range];congr 1;omega,List.take_append_drop]
    rw [hr,e1,List.append_assoc,List.find?_append,List.find?_eq_none.2 (fun z hz=>by rw [e2 z hz];simp)]
    simp [e3]
   rw [hsome] at hrv
   obtain ⟨rfl,rfl⟩ : y.2.2.2=rv1∧(0:Int)=rv2:=by simpa using hrv
   gi_wp2
   refine ⟨by simp,.inl ⟨_,_,rfl,run_takeDeferred hK,?_⟩⟩
   have h6:=cell_kept c6 (grownBy_putObj' _ D (.deferred none)) (fun r e=>by cases e;exact ⟨_,hK,rfl⟩)
   have h7:=cell_kept c7 (grownBy_putObj' _ D (.deferred none)) (fun r e=>by cases e;exact ⟨_,hK,rfl⟩)
   refine ⟨.tuple #[.string y.2.2.2,.int .i64 0],?_,rfl,hB.trans (belowK_b (w:=w) (Nat.le_refl _) W D _ _ (by omega) hK rfl rfl)⟩
   simp [results,Tryz.f61,go_sem,h6,h7]
 ·rw [if_pos q] at hrv
  obtain ⟨rfl,rfl⟩ : ByteArray.empty=rv1∧er=rv2:=by simpa using hrv
  gi_wp2_with (refine ⟨trivial,?_⟩;gi_at_call 80;refine (callsIn_wide.2 (hpl _ (hB4 _ _ _ _ _ _ _ _))).mono ?_;rintro e w2 ⟨rfl,hb2⟩;obtain ⟨b4,b5,b6,b7,hB2,hs2⟩:=zqc hb2;have c6:=b6.cell;have f6:=b6.frozen;have c7:=b7.cell;have f7:=b7.frozen)
  have c6':=((b6.set (.string ⟨#[]⟩)).other (B':=w.heap.size+1+1+1) (by omega) (.int .i64 er)).cell
  have c7':=((b7.other (B':=w.heap.size+1+1) (by omega) (.string ⟨#[]⟩)).set (.int .i64 er)).cell
  refine ⟨.tuple #[.string ⟨#[]⟩,.int .i64 er],?_,rfl,(hB2.setCell (p:=⟨w.heap.size+1+1,0,none⟩) (by simp;omega) _).setCell (p:=⟨w.heap.size+1+1+1,0,none⟩) (by simp;omega) _⟩
  simp [results,Tryz.f61,go_sem,c6',c7']
end
section
open Go.RowKit
open Mv Disk
set_option maxRecDepth 4000
theorem Mv.Sl.at_roM {α : Type} {n:Nat} {f : α→List Value} {M:Mem} {v:Value} {l:List α} (h:Sl n f M v l) {w:World} (hv:View M w):Sl n f (roM w) v l:=by
 obtain ⟨a,cap,rfl,h1,h2,h3⟩:=h
 exact ⟨a,cap,rfl,h1,h2,h3.imp id fun ⟨b,off,e,hk⟩=>⟨b,off,e,fun j hj=>zdF (hk j hj w hv)⟩⟩
theorem zox {M:Mem} {v:Value} {l:List Wr} (h:Sl 3 wrF M v l) {w:World} (hv:View M w):Waits w.heap.size w v l:=by
 obtain ⟨a,cap,rfl,h1,h2,h3⟩:=h
 refine ⟨a,cap,rfl,h3.elim .inl fun ⟨b,off,e,hk⟩=>?_⟩
 cases hl:l with
 | nil=>exact .inl rfl
 | cons x r =>
  right
  subst hl
  refine ⟨b,off,e,?_,fun j hj q v hq=>?_⟩
  ·have h0:=hk 0 (by simp) w hv 0 _ rfl
   rcases Nat.lt_or_ge b w.heap.size with q | q
   ·exact q
   ·simp [World.cell?,Addr.add,Array.getElem?_eq_none q] at h0
  ·have h0:=hk j hj w hv q v hq
   have e:(⟨b,off+j*3,none⟩ : Addr).add q=⟨b,off+j*3+q,none⟩:=by unfold Addr.add;cases q <;> simp
   rw [e] at h0;exact h0
theorem zgs (p:Nat) (d:D) (s:ByteArray) (k:Int) (M:Mem) (h:RdV M p d) (hR:Right d) :
  ACall Tryz.prog 61 #[.pointer (some ⟨p,0,none⟩),.string s,.int .i64 k] M fun r S'=>r = .tuple #[.string (readD d s k).1,.int .i64 (readD d s k).2]∧S'=M:=by
 obtain ⟨qe,de,qw,dw,hp,hE,hW⟩:=h
 intro w hv
 have hk:RdK (roM w) p d qe de (.slice qw d.waits.length dw):=⟨zdF fun j v hj=>by
  refine hv.rd ?_
  have e:(⟨p,0,none⟩ : Addr).add j=⟨p,j,none⟩:=by unfold Addr.add;cases j <;> simp
  rw [e];unfold Mem.rd;rw [hp];exact hj,hE.at_roM hv⟩
 exact (readW p d s k w qe de _ hk hR (hv.lt hp) (zox hW hv) hR.wl).mono fun _ _ ⟨he,hb⟩=>⟨_,_,he,⟨rfl,rfl⟩,Step.below hv hb⟩
noncomputable def readO (d:D) (s:ByteArray) (k:Int):ByteArray × Int:=if (openD d).2≠0 then (ByteArray.empty,(openD d).2) else readD d s k
end
section
open Go.RowKit
open Mv Disk
set_option maxRecDepth 4000
noncomputable def placeO (d:D) (s:ByteArray) (k:Int):Int:=if (openD d).2≠0 then (openD d).2 else (placeD d s k).2
end
section
open Go.RowKit
open Mv Disk
set_option maxRecDepth 4000
theorem zl5 (d:D) (s:ByteArray) (k:Int):readO d s k=if placeO d s k≠0 then (ByteArray.empty,placeO d s k) else (seen d s k,0):=by
 unfold readO placeO
 by_cases q:(openD d).2=0
 ·have h1 : ¬ ((openD d).2≠0):=by simpa using q
  simp only [if_neg h1];exact zcj d s k
 ·rw [if_pos q,if_pos q,if_pos q]
end
section
open Go.RowKit
open Mv Disk
set_option maxRecDepth 4000
def nA:ByteArray:=⟨#[97]⟩
def nB:ByteArray:=⟨#[98]⟩
theorem zdt {d:D} (h:Right d) (hd:d.down=false):openD d=(d,0):=by
 rcases zcz d with ⟨ho,hR⟩ | ⟨ho,hR,hdn⟩ | ⟨ho,hR,hdn⟩
 ·exact absurd h hR
 ·rw [hd] at hdn;cases hdn
 ·exact ho
theorem zcU {d:D} (h:Right d) (hd:d.down=false) (f:D × Int):opened d f=f:=by unfold opened;rw [zdt h hd,if_pos rfl]
theorem zgt {d:D} (h:Right d) (hf:d.fuse≤9223372036854775807):Dz d:=by
 have hl:=zaV h
 refine ⟨by have:=h.s0;omega,by have:=h.s1;omega,by have:=h.fu;omega,hf,by omega,by have:=h.wl;omega,fun x hx=>?_,fun w hw=>?_⟩
 ·have h1:=zb2 h hx
  have h2:=(h.ex.ok x hx).1.2
  omega
 ·obtain ⟨x,hx,e,h0,h1,h2⟩:=h.wr w hw
  have h3:=zb2 h hx
  have h4:=(h.ex.ok x hx).1.2
  rw [e] at h4
  omega
end
section
open Go.RowKit
open Mv Disk
theorem zoy {f:Ext→Ext} {l:List Ext} (hf:∀ x ∈ l,sec (f x)=sec x):used (l.map f)=used l:=by
 induction l with
 | nil=>rfl
 | cons x l ih=>simp only [List.map_cons,used];rw [hf x (by simp),ih (fun y hy=>hf y (by simp [hy]))]
theorem zbM {d:D} (hR:Right d) (kp:Nat→Bool) {x:Ext} (hx:x ∈ d.ext):(doneX kp d.waits x).2.size=x.2.size:=zeD (kp:=kp) (ze3 hR hx) d.waits.length (Nat.le_refl _)
theorem zb8 {d:D} (hR:Right d) (kp:Nat→Bool):Right (settleD d kp):=by
 refine ⟨hR.s0,hR.s1,by unfold settleD;simp,hR.fu,⟨fun x hx=>?_,zlY (f:=doneX kp d.waits) (fun _=>rfl) hR.ex.asc,?_⟩,fun w hw=>by unfold settleD at hw;cases hw⟩
 ·obtain ⟨y,hy,rfl⟩:=List.mem_map.1 hx
  have h:=hR.ex.ok y hy
  exact ⟨h.1,by rw [zbM hR kp hy];exact h.2.1,by rw [zbM hR kp hy];exact h.2.2⟩
 ·show ((used (d.ext.map (doneX kp d.waits)):Nat):Int)≤d.size
  rw [zoy (fun x hx=>by unfold sec;rw [zbM hR kp hx])]
  exact hR.ex.us
theorem zc8 {d:D} (hR:Right d) {f:Int} (hf : -1≤f) (b:Bool):Right { d with fuse:=f,down:=b }:=⟨hR.s0,hR.s1,hR.wl,hf,hR.ex,hR.wr⟩
theorem zdP {d:D} {s data:ByteArray} {k:Int} (hR:Right d) (hp:(placeD d s k).2=0) (hs:data.size=64) (hl:d.waits.length<16384):Right (addW d (s,k,data)):=by
 obtain ⟨hh,h0,h1⟩:=zdN hp
 obtain ⟨hm,hn⟩:=zbk hR.ex.asc hh
 refine ⟨hR.s0,hR.s1,by rw [ze1];omega,hR.fu,hR.ex,fun w hw=>?_⟩
 unfold addW at hw
 rcases List.mem_append.1 hw with h | h
 ·exact hR.wr w h
 ·obtain rfl:w=(s,k,data):=by simpa using h
  exact ⟨_,hm,hn,h0,h1,hs⟩
theorem zgu {d:D} {s data:ByteArray} {k:Int} (hf1:d.fuse≤9223372036854775807) (h:(opened d (writeD d s k data)).2=0) :
  Right d∧d.down=false∧(placeD d s k).2=0∧data.size=64∧d.waits.length<16384 ∧ ∃ f:Int,-1≤f∧f≤9223372036854775807∧opened d (writeD d s k data)=({ addW d (s,k,data) with fuse:=f },0):=by
 unfold opened at h ⊢
 rcases zcz d with ⟨ho,hR⟩ | ⟨ho,hR,hdn⟩ | ⟨ho,hR,hdn⟩ <;> rw [ho] at h ⊢
 ·simp at h
 ·simp at h
 ·rw [if_pos rfl] at h ⊢
  unfold writeD at h ⊢
  by_cases q0:(placeD d s k).2≠0
  ·rw [if_pos q0] at h;exact absurd h q0
  ·rw [if_neg q0] at h ⊢
   by_cases q1:data.size≠64
   ·rw [if_pos q1] at h;simp at h
   ·rw [if_neg q1] at h ⊢
    by_cases q2:d.waits.length=16384
    ·rw [if_pos q2] at h;simp at h
    ·rw [if_neg q2] at h ⊢
     have hwl:=hR.wl
     have hfu:=hR.fu
     refine ⟨hR,hdn,by simpa using q0,by simpa using q1,by omega,?_⟩
     unfold fuseD at h ⊢
     by_cases q3:(addW d (s,k,data)).fuse=0
     ·rw [if_pos q3] at h;simp at h
     ·rw [if_neg q3] at h ⊢
      by_cases q4:0<(addW d (s,k,data)).fuse
      ·rw [if_pos q4];exact ⟨_,by have:0<d.fuse:=q4;show -1≤d.fuse-1;omega,by show d.fuse-1≤_;omega,rfl⟩
      ·rw [if_neg q4];exact ⟨d.fuse,hfu,hf1,rfl⟩
theorem zcV {d:D} (hR:Right d) (kp:Nat→Bool) (s:ByteArray) (k:Int):(placeD (settleD d kp) s k).2=(placeD d s k).2:=by
 unfold placeD
 have e1:(settleD d kp).ext=d.ext.map (doneX kp d.waits):=rfl
 rw [e1,zgp (f:=doneX kp d.waits) (fun _=>rfl)]
 by_cases q:has d.ext s=true
 ·rw [if_pos q,if_pos q,zdM (f:=doneX kp d.waits) (fun _=>rfl) hR.ex.asc q]
  have hs:sec (doneX kp d.waits (exOf d.ext s))=sec (exOf d.ext s):=by unfold sec;rw [zbM hR kp (zbk hR.ex.asc q).1]
  rw [hs]
  split <;> rfl
 ·rw [if_neg q,if_neg q]
theorem zcB {d:D} (hR:Right d) (hd:d.down=false) (s:ByteArray) (k:Int):readO d s k=if (placeD d s k).2≠0 then (ByteArray.empty,(placeD d s k).2) else (seen d s k,0):=by
 rw [zl5]
 have e:placeO d s k=(placeD d s k).2:=by unfold placeO;rw [zdt hR hd,if_neg (by simp)]
 rw [e]
theorem zbE {l:List Ext} {i:Nat} {x y:Ext}:y ∈ insAt l i x ↔ y=x∨y ∈ l:=by
 unfold insAt
 rw [List.mem_append,List.mem_cons]
 constructor
 ·rintro (h | h | h)
  ·exact .inr (List.mem_of_mem_take h)
  ·exact .inl h
  ·exact .inr (List.mem_of_mem_drop h)
 ·rintro (h | h)
  ·exact .inr (.inl h)
  ·rw [← List.take_append_drop i l] at h
   rcases List.mem_append.1 h with h | h
   ·exact .inl h
   ·exact .inr (.inr h)
theorem zgv (l:List Ext) (i:Nat) (x:Ext):used (insAt l i x)=used l+sec x:=by
 unfold insAt
 rw [zaZ,used]
 have:used l=used (l.take i)+used (l.drop i):=by rw [← zaZ,List.take_append_drop]
 omega
theorem ziu {l:List Ext} {s data:ByteArray} (ha:Asc l) (hn:has l s=false):Asc (insAt l (pos l s) (s,data)):=by
 unfold Asc insAt
 rw [List.pairwise_append]
 have hlt:∀ a ∈ l.take (pos l s),lt a.1 s=true:=fun a h=>by
  obtain ⟨i,hi,rfl⟩:=List.getElem_of_mem h
  rw [List.getElem_take]
  simp only [List.length_take] at hi
  exact zsK (by omega) (by omega)
 have hgt:∀ b ∈ l.drop (pos l s),lt s b.1=true:=fun b h=>by
  obtain ⟨i,hi,rfl⟩:=List.getElem_of_mem h
  simp only [List.length_drop] at hi
  rw [List.getElem_drop]
  have h0:=zsL (l:=l) (s:=s) (by omega)
  have h1:lt l[pos l s+i].1 s=false:=by
   rcases Nat.eq_zero_or_pos i with rfl | hp
   ·exact h0
   ·cases h2:lt l[pos l s+i].1 s with
    | false=>rfl
    | true=>have:=lt_trans (zdp ha (i:=pos l s) (j:=pos l s+i) (by omega) (by omega)) h2;rw [h0] at this;cases this
  exact zp5 (zjq.1 hn _ (List.getElem_mem _)) h1
 refine ⟨List.Pairwise.sublist (List.take_sublist _ _) ha,List.pairwise_cons.2 ⟨fun b h=>hgt b h,List.Pairwise.sublist (List.drop_sublist _ _) ha⟩,fun a h b h'=>?_⟩
 rcases List.mem_cons.1 h' with rfl | h'
 ·exact hlt a h
 ·exact lt_trans (hlt a h) (hgt b h')
theorem zfK {l:List Ext} {s data:ByteArray} {size:Int} (h:ERight l size) (hn:has l s=false) (hs:nm s) (h0:data.size≠0) (h1:data.size % 64=0) {size':Int} (hu:(used l:Int)+sec (s,data)≤size'):ERight (insAt l (pos l s) (s,data)) size' :=
 ⟨fun x hx=>by rcases zbE.1 hx with rfl | hx;exact ⟨hs,h0,h1⟩;exact h.ok x hx,ziu h.asc hn,by rw [zgv];omega⟩
theorem zoz {l:List Ext} {s data:ByteArray} (ha:Asc l) (hn:has l s=false):dropE (insAt l (pos l s) (s,data)) s=l:=by
 unfold insAt
 have:∀ (a b:List Ext),dropE (a ++ b) s=dropE a s ++ dropE b s:=fun a b=>List.filter_append ..
 rw [this,zdK rfl,← this,List.take_append_drop,zfF hn]
theorem ziv {d:D} {s:ByteArray} {n:Int} (hR:Right d) (hdn:d.down=false):((newD d s n).2≠0→(newD d s n).1=d)∧((newD d s n).2=0→Right (newD d s n).1∧(newD d s n).1.down=false∧(newD d s n).1.fuse=d.fuse∧(roomD (newD d s n).1)=(d.size-used d.ext-n,0)∧opened (newD d s n).1 (freesD (newD d s n).1 (newD d s n).1 [s])=(d,0)):=by
 unfold newD
 by_cases q1 : ¬ nm s∨n<1
 ·rw [if_pos q1];exact ⟨fun _=>rfl,fun h=>by simp at h⟩
 ·rw [if_neg q1]
  have hs:nm s:=by
   by_cases h:nm s
   ·exact h
   ·exact absurd (.inl h) q1
  have hn1:1≤n:=by omega
  by_cases q2:has d.ext s=true
  ·rw [if_pos q2];exact ⟨fun _=>rfl,fun h=>by simp at h⟩
  ·rw [if_neg q2]
   by_cases q3:d.size-used d.ext<n
   ·rw [if_pos q3];exact ⟨fun _=>rfl,fun h=>by simp at h⟩
   ·rw [if_neg q3]
    refine ⟨fun h=>absurd rfl h,fun _=>?_⟩
    have hnn:has d.ext s=false:=by simpa using q2
    obtain ⟨m,rfl⟩ : ∃ m:Nat,n=m:=⟨n.toNat,by omega⟩
    simp only [Int.toNat_natCast]
    have hz:=zec m
    have hsec:sec (s,zeros m)=m:=by unfold sec;simp only;rw [hz];omega
    have hRn:Right { d with ext:=insAt d.ext (pos d.ext s) (s,zeros m) }:=⟨hR.s0,hR.s1,hR.wl,hR.fu,zfK (size':=d.size) hR.ex hnn hs (by rw [hz];omega) (by rw [hz];omega) (by rw [hsec];omega),fun w hw=>by
     obtain ⟨x,hx,h⟩:=hR.wr w hw
     exact ⟨x,zbE.2 (.inr hx),h⟩⟩
    refine ⟨hRn,hdn,by trivial,?_,?_⟩
    ·unfold roomD
     rw [zdt hRn hdn,if_neg (by simp)]
     simp only [zgv,hsec]
     refine Prod.ext ?_ rfl
     show d.size-((used d.ext+m:Nat):Int)=d.size-(used d.ext:Int)-(m:Int)
     omega
    ·have hh:has (insAt d.ext (pos d.ext s) (s,zeros m)) s=true:=zbd.2 ⟨(s,zeros m),zbE.2 (.inl rfl),rfl⟩
     rw [zcU hRn hdn,zks,if_pos hh,zlW hRn hh]
     unfold lessD
     simp only [zoz hR.ex.asc hnn,zlX hR hnn]
     rfl
/-! ### Moved -/
theorem zgw {l:List Ext} {s:ByteArray} {x:Ext}:x ∈ dropE l s ↔ x ∈ l∧x.1≠s:=by unfold dropE;simp
end
section
namespace Crc

def un (b:BitVec 32):Int:=(b.toNat:Int)
def v32 (x:Int):BitVec 32:=BitVec.ofInt 32 x
theorem zbx (b:BitVec 32):0≤un b:=Int.natCast_nonneg _
theorem zgx (b:BitVec 32):un b≤4294967295:=by have:=b.isLt;unfold un;omega
theorem zck (b:BitVec 32):v32 (un b)=b:=by simp [v32,un]
theorem zqe {x:Int} (h0:0≤x) (h1:x≤4294967295):un (v32 x)=x:=by
 obtain ⟨n,rfl⟩:=Int.eq_ofNat_of_zero_le h0
 simp only [v32,un,BitVec.ofInt_natCast,BitVec.toNat_ofNat];omega
theorem zeF (x y:Int):bits .xor .u32 x y=un (v32 x ^^^ v32 y):=by
 show IntKind.u32.wrap ((v32 x ^^^ v32 y).toNat:Int)=un (v32 x ^^^ v32 y)
 generalize v32 x ^^^ v32 y=b
 have:=b.isLt
 rw [IntKind.wrap_u32];unfold un;omega
theorem zc9 (x y:Int):bits .and .u32 x y=un (v32 x &&& v32 y):=by
 show IntKind.u32.wrap ((v32 x &&& v32 y).toNat:Int)=un (v32 x &&& v32 y)
 generalize v32 x &&& v32 y=b
 have:=b.isLt
 rw [IntKind.wrap_u32];unfold un;omega
theorem zq0 (x y:Int):bits .or .u32 x y=un (v32 x ||| v32 y):=by
 show IntKind.u32.wrap ((v32 x ||| v32 y).toNat:Int)=un (v32 x ||| v32 y)
 generalize v32 x ||| v32 y=b
 have:=b.isLt
 rw [IntKind.wrap_u32];unfold un;omega
theorem zq1 (a:BitVec 32):un a / (2:Int)=un (a >>> 1):=by
 simp only [un,BitVec.toNat_ushiftRight,Nat.shiftRight_eq_div_pow];omega
theorem zqf (a:BitVec 32):un a / (256:Int)=un (a >>> 8):=by
 simp only [un,BitVec.toNat_ushiftRight,Nat.shiftRight_eq_div_pow];omega
theorem zl6 (x:Int):v32 (x % 4294967296)=v32 x:=by
 apply BitVec.eq_of_toInt_eq
 simp only [v32,BitVec.toInt_ofInt]
 rw [show ((4294967296:Int))=((2 ^ 32:Nat):Int) from by decide]
 exact Int.emod_bmod _ _
theorem zq2 (x:Int):v32 (-x) =-v32 x:=by simp [v32,BitVec.ofInt_neg]
/-! ### One bit, n bits -/
def poly:BitVec 32:=0xedb88320#32
def T (r:BitVec 32):BitVec 32:=(r >>> 1) ^^^ (if r.getLsbD 0 then poly else 0#32)
def Tn:Nat→BitVec 32→BitVec 32
  | 0,r=>r
  | n+1,r=>T (Tn n r)

theorem zt0 (a b:BitVec 32):T (a ^^^ b)=T a ^^^ T b:=by
 unfold T
 rw [BitVec.ushiftRight_xor_distrib,BitVec.getLsbD_xor]
 have e:poly ^^^ poly=0#32:=by decide
 cases a.getLsbD 0 <;> cases b.getLsbD 0 <;> simp
 ·ac_rfl
 ·ac_rfl
 ·rw [show a >>> 1 ^^^ poly ^^^ (b >>> 1 ^^^ poly)=a >>> 1 ^^^ b >>> 1 ^^^ (poly ^^^ poly) from by ac_rfl,e,BitVec.xor_zero]
theorem zs2 (n:Nat) (a b:BitVec 32):Tn n (a ^^^ b)=Tn n a ^^^ Tn n b:=by
 induction n with
 | zero=>rfl
 | succ n ih=>simp only [Tn,ih,zt0]
theorem zs3 (n:Nat) (a:BitVec 32) (h:∀ i,i<n→a.getLsbD i=false):Tn n a=a >>> n:=by
 induction n with
 | zero=>simp [Tn]
 | succ n ih =>
  rw [Tn,ih (fun i hi=>h i (by omega))]
  unfold T
  rw [BitVec.getLsbD_ushiftRight,h (n+0) (by omega)]
  simp only [Bool.false_eq_true,if_false,BitVec.xor_zero]
  rw [← BitVec.shiftRight_add]

/-! ### A byte -/
def b32 (b:UInt8):BitVec 32:=BitVec.ofNat 32 b.toNat
theorem zoA (b:UInt8):v32 (b.toNat:Int)=b32 b:=by simp [v32,b32]
theorem zoB (b:UInt8) (i:Nat) (hi:8≤i):(b32 b).getLsbD i=false:=by
 have:=b.toNat_lt
 simp only [b32,BitVec.getLsbD_ofNat]
 rw [Nat.testBit_lt_two_pow (Nat.lt_of_lt_of_le this (Nat.pow_le_pow_right (by decide) hi))]
 simp
def feed (r:BitVec 32) (b:UInt8):BitVec 32:=Tn 8 (r ^^^ b32 b)
theorem zq3 (r:BitVec 32) (b:UInt8):(r >>> 8) ^^^ Tn 8 ((r ^^^ b32 b) &&& 255#32)=feed r b:=by
 have hs:r ^^^ b32 b=((r ^^^ b32 b) &&& 255#32) ^^^ ((r ^^^ b32 b) &&& ~~~255#32):=by
  apply BitVec.eq_of_getLsbD_eq
  intro i hi
  simp only [BitVec.getLsbD_xor,BitVec.getLsbD_and,BitVec.getLsbD_not,hi,decide_true,Bool.true_and]
  cases (r.getLsbD i ^^ (b32 b).getLsbD i) <;> cases (255#32).getLsbD i <;> rfl
 unfold feed
 conv=>rhs;rw [hs,zs2]
 rw [zs3 8 ((r ^^^ b32 b) &&& ~~~255#32)]
 ·have:((r ^^^ b32 b) &&& ~~~255#32) >>> 8=r >>> 8:=by
   apply BitVec.eq_of_getLsbD_eq
   intro i hi
   simp only [BitVec.getLsbD_ushiftRight,BitVec.getLsbD_and,BitVec.getLsbD_xor,BitVec.getLsbD_not,zoB b (8+i) (by omega)]
   by_cases h:8+i<32
   ·have e:(255#32).getLsbD (8+i)=false:=by
     rw [BitVec.getLsbD_ofNat,show (255:Nat)=2 ^ 8-1 from rfl,Nat.testBit_two_pow_sub_one];simp
    rw [e];simp [h]
   ·have:r.getLsbD (8+i)=false:=BitVec.getLsbD_of_ge _ _ (by omega)
    simp [this]
  rw [this,BitVec.xor_comm]
 ·intro i hi
  simp only [BitVec.getLsbD_and,BitVec.getLsbD_not]
  have e:(255#32).getLsbD i=true:=by
   rw [BitVec.getLsbD_ofNat,show (255:Nat)=2 ^ 8-1 from rfl,Nat.testBit_two_pow_sub_one];simp;omega
  simp [e]
/-! ### A text -/
def feeds (r:BitVec 32) (l:List UInt8):BitVec 32:=l.foldl feed r
def more (sum:BitVec 32) (l:List UInt8):BitVec 32 := ~~~ (feeds (~~~ sum) l)
def sums (l:List (List UInt8)):BitVec 32:=l.foldl more 0#32
theorem zhg (r:BitVec 32) (a b:List UInt8):feeds r (a ++ b)=feeds (feeds r a) b:=List.foldl_append ..
theorem zkv (r:BitVec 32) (a:List UInt8) (b:UInt8):feeds r (a ++ [b])=feed (feeds r a) b:=by rw [zhg];rfl
theorem zl7 (l:List (List UInt8)) (x:List UInt8):sums (l ++ [x])=more (sums l) x:=by simp [sums]
/-! ### A sum's bytes -/
def rev (x:BitVec 32):BitVec 32 :=
  let y:=((x >>> 8) &&& 0xff00ff#32) ||| ((x &&& 0xff00ff#32) <<< 8)
  (y >>> 16) ||| (y <<< 16)
theorem zqg (a:BitVec 32) (k:Nat):un a*2 ^ k % (4294967296:Int)=un (a <<< k):=by
 simp only [un,BitVec.toNat_shiftLeft,Nat.shiftLeft_eq]
 rw [Int.natCast_emod,Int.natCast_mul]
 simp
theorem zqh (a:BitVec 32) (k:Nat):un a / 2 ^ k=un (a >>> k):=by
 simp only [un,BitVec.toNat_ushiftRight,Nat.shiftRight_eq_div_pow]
 simp
theorem zs4 (a:BitVec 32):un a % (256:Int)=((a.setWidth 8).toNat:Int):=by
 simp only [un,BitVec.toNat_setWidth];omega
theorem rev0 (x:BitVec 32):(rev x >>> 24).setWidth 8=x.setWidth 8:=by
 apply BitVec.eq_of_getLsbD_eq
 intro i hi
 unfold rev
 match i,hi with
 | 0,_ | 1,_ | 2,_ | 3,_ | 4,_ | 5,_ | 6,_ | 7,_=>simp
theorem rev1 (x:BitVec 32):(rev x >>> 16).setWidth 8=(x >>> 8).setWidth 8:=by
 apply BitVec.eq_of_getLsbD_eq
 intro i hi
 unfold rev
 match i,hi with
 | 0,_ | 1,_ | 2,_ | 3,_ | 4,_ | 5,_ | 6,_ | 7,_=>simp
theorem rev2 (x:BitVec 32):(rev x >>> 8).setWidth 8=(x >>> 16).setWidth 8:=by
 apply BitVec.eq_of_getLsbD_eq
 intro i hi
 unfold rev
 match i,hi with
 | 0,_ | 1,_ | 2,_ | 3,_ | 4,_ | 5,_ | 6,_ | 7,_=>simp
theorem rev3 (x:BitVec 32):(rev x).setWidth 8=(x >>> 24).setWidth 8:=by
 apply BitVec.eq_of_getLsbD_eq
 intro i hi
 unfold rev
 match i,hi with
 | 0,_ | 1,_ | 2,_ | 3,_ | 4,_ | 5,_ | 6,_ | 7,_=>simp
def tailS (b:BitVec 32):ByteArray:=strOfNums [un b % 256,un b / 256 % 256,un b / 65536 % 256,un b / 16777216]
theorem zl8 (b:BitVec 32):strOfNums [un (rev b) / 16777216,un (rev b) / 65536 % 256,un (rev b) / 256 % 256,un (rev b) % 256]=tailS b:=by
 have hr:=zbx (rev b);have hb:=zbx b;have hr':=zgx (rev b);have hb':=zgx b
 have e0:=congrArg (fun x:BitVec 8=>(x.toNat:Int)) (rev0 b)
 have e1:=congrArg (fun x:BitVec 8=>(x.toNat:Int)) (rev1 b)
 have e2:=congrArg (fun x:BitVec 8=>(x.toNat:Int)) (rev2 b)
 have e3:=congrArg (fun x:BitVec 8=>(x.toNat:Int)) (rev3 b)
 simp only [← zs4,← zqh] at e0 e1 e2 e3
 unfold tailS
 congr 1
 simp only [List.cons.injEq,and_true]
 omega
theorem zbF (b:BitVec 32):(tailS b).size=4:=rfl
end Crc
end
section
open Go.RowKit
open Crc (un v32 Tn)


namespace Crc
theorem zoC (r:BitVec 32):bits .xor .u32 (un r / 2) (bits .and .u32 3988292384 (-bits .and .u32 (un r) 1 % 4294967296))=un (T r):=by
 rw [zq1,zc9 (un r) 1,zck,zc9,zl6,zq2,zck,zeF,zck,zck]
 congr 1
 unfold T
 congr 1
 have e1:v32 1=1#32:=rfl
 have e2:v32 3988292384=poly:=rfl
 rw [e1,e2]
 have h:r &&& 1#32=if r.getLsbD 0 then 1#32 else 0#32:=by
  apply BitVec.eq_of_getLsbD_eq
  intro i hi
  rw [BitVec.getLsbD_and]
  cases i with
  | zero=>cases r.getLsbD 0 <;> simp
  | succ i =>
   have:(1#32).getLsbD (i+1)=false:=by simp [BitVec.getLsbD_one]
   rw [this]
   cases r.getLsbD 0 <;> simp
 rw [h]
 cases r.getLsbD 0 <;> decide
end Crc

set_option maxHeartbeats 400000 in
theorem zoD (r:Int) (h0:0≤r) (h1:r≤4294967295) (w:World) :
  Calls Tryz.prog 228 #[.int .u32 r] w fun e w'=>e = .returned (.int .u32 (un (Tn 8 (v32 r))))∧w=w':=by
 go_enter Tryz.func228,Tryz.ntmps228
 go_wp2
 go_loop [0,3] (fun v0 v3=>∃ (k:Int) (j:Nat),0≤k∧k≤4294967295∧j≤8∧v0 = .int .u32 k∧v3 = .int .i64 j∧Hid (k=un (Tn j (v32 r)))) (fun _ v3=>8-(intOf v3).toNat)
 case atStart=>exact ⟨r,0,h0,h1,by omega,rfl,rfl,(Crc.zqe h0 h1).symm⟩
 case round =>
  obtain ⟨k,j,hk0,hk1,hj,rfl,rfl,hk⟩:=hrel
  by_cases hlt:j<8
  ·go_wp2
   go_round
   case rel =>
    have hk':=hk.out
    refine ⟨un (Tn (j+1) (v32 r)),j+1,Crc.zbx _,Crc.zgx _,by omega,?_,by go_num,rfl⟩
    rw [hk']
    exact val_int (Crc.zoC _)
   case measure=>simp [intOf];omega
  ·go_wp2
   go_ret
   have e:j=8:=by omega
   subst e
   exact ⟨ret_int hk.out,rfl⟩

namespace Crc
theorem zkw (r:BitVec 32) (s:ByteArray) (k:Nat) (h:k<s.size):feeds r (s.data.toList.take (k+1))=feed (feeds r (s.data.toList.take k)) s[k]:=by
 rw [take_snoc s k h,zkv]
theorem zoE (r:BitVec 32) (b:UInt8):bits .xor .u32 (un r / 256) (un (Tn 8 (v32 (bits .and .u32 (bits .xor .u32 (un r) ((b.toNat:Int) % 4294967296)) 255))))=un (feed r b):=by
 rw [zqf,zeF (un r),zck,zl6,zoA,zc9,zck,zck,zeF,zck,zck]
 congr 1
 exact zq3 r b
theorem zl9 (r:Int):bits .xor .u32 IntKind.u32.max r=un (~~~ v32 r):=by
 rw [zeF,show v32 IntKind.u32.max=BitVec.allOnes 32 from by decide,BitVec.allOnes_xor]
end Crc

set_option maxHeartbeats 400000 in
theorem zoF (r:Int) (s:ByteArray) (hs:s.size≤maxLen) (h0:0≤r) (h1:r≤4294967295) (w:World) :
  Calls Tryz.prog 191 #[.int .u32 r,.string s] w fun e w'=>e = .returned (.int .u32 (un (Crc.more (v32 r) s.data.toList)))∧w=w':=by
 unfold maxLen at hs
 go_enter Tryz.func191,Tryz.ntmps191
 go_wp2
 go_loop [5,11] (fun v5 v11=>∃ (k:Int) (j:Nat),0≤k∧k≤4294967295∧j≤s.size∧v5 = .int .u32 k∧v11 = .int .i64 j∧Hid (k=un (Crc.feeds (~~~ v32 r) (s.data.toList.take j)))) (fun _ v11=>s.size-(intOf v11).toNat)
 case atStart=>exact ⟨_,0,Crc.zbx _,Crc.zgx _,by omega,val_int (Crc.zl9 r),rfl,rfl⟩
 case round =>
  obtain ⟨k,j,hk0,hk1,hj,rfl,rfl,hk⟩:=hrel
  by_cases hlt:j<s.size
  ·go_wp2_with (go_at_call 228;refine (zoD _ (by rw [Crc.zc9];exact Crc.zbx _) (by rw [Crc.zc9];exact Crc.zgx _) _).mono ?_;rintro e w' ⟨rfl,rfl⟩)
   go_round
   case rel =>
    have hk':=hk.out
    refine ⟨_,j+1,Crc.zbx _,Crc.zgx _,by omega,?_,by go_num,Lib.hid (by rw [Crc.zkw _ s j hlt])⟩
    rw [hk']
    exact val_int (Crc.zoE _ _)
   case measure=>simp [intOf];omega
  ·go_wp2
   go_ret
   have e:j=s.size:=by omega
   subst e
   refine ⟨ret_int ?_,rfl⟩
   rw [hk.out,take_all,Crc.zl9,Crc.zck];rfl

namespace Crc
end Crc

namespace Crc
end Crc

end
section
open Go.RowKit
open Crc (un v32 Tn)

/-! ### Texts in a row -/
def lists (ss:List ByteArray):List (List UInt8):=ss.map fun s=>s.data.toList
theorem zkx (ss:List ByteArray) (j:Nat) (h:j<ss.length):lists (ss.take (j+1))=lists (ss.take j) ++ [(strAt ss j).data.toList]:=by
 unfold lists
 rw [List.take_succ_eq_append_getElem h,List.map_append]
 simp [strAt,List.getD,List.getElem?_eq_getElem h]
set_option maxHeartbeats 400000 in
theorem zq4 (a:Option Addr) (n m:Nat) (ss:List ByteArray) (w:World) (h:IsStrs w a n ss) :
  Calls Tryz.prog 138 #[.slice a n m] w fun e w'=>e = .returned (.int .u32 (un (Crc.sums (lists ss))))∧w=w':=by
 obtain ⟨hl,hm,hc,hs⟩:=h
 unfold maxLen at hm
 go_enter Tryz.func138,Tryz.ntmps138
 go_wp2
 go_loop [3,8] (fun v3 v8=>∃ (k:Int) (j:Nat),0≤k∧k≤4294967295∧j≤n∧v3 = .int .u32 k∧v8 = .int .i64 j∧Hid (k=un (Crc.sums (lists (ss.take j))))) (fun _ v8=>n-(intOf v8).toNat)
 case atStart=>exact ⟨0,0,by omega,by omega,by omega,rfl,rfl,Lib.hid rfl⟩
 case round =>
  obtain ⟨k,j,hk0,hk1,hj,rfl,rfl,hk⟩:=hrel
  by_cases hlt:j<n
  ·rcases hc with hc | ⟨b,off,rfl,hc⟩
   ·omega
   have hcell:=hc j hlt
   have hsz:=strAt_size ss j (by omega) hs
   have HL:=Lib.hid hl
   clear hl hc
   go_wp2_with (go_at_call 191;refine (zoF _ _ hsz hk0 hk1 _).mono ?_;rintro e w' ⟨rfl,rfl⟩)
   go_round
   case rel =>
    have hk':=hk.out
    refine ⟨_,j+1,Crc.zbx _,Crc.zgx _,by omega,rfl,by go_num,Lib.hid ?_⟩
    rw [zkx ss j (by rw [HL.out];exact hlt),Crc.zl7,hk',Crc.zck]
   case measure=>simp [intOf];omega
  ·have HL:=Lib.hid hl
   clear hl hc
   go_wp2
   go_ret
   have e:j=n:=by omega
   subst e
   refine ⟨ret_int ?_,rfl⟩
   rw [hk.out,List.take_of_length_le (by rw [HL.out];exact Nat.le_refl _)]

/-! ### A sum's bytes -/
theorem zoG (r:Int) (h0:0≤r) (h1:r≤4294967295) (w:World) :
  Calls Tryz.prog 190 #[.int .u32 r] w fun e w'=>e = .returned (.int .u32 (un (Crc.rev (v32 r))))∧w=w':=by
 go_enter Tryz.func190,Tryz.ntmps190
 go_wp2_with fail
 go_ret
 refine ⟨ret_int ?_,rfl⟩
 obtain ⟨b,rfl⟩ : ∃ b,r=un b:=⟨v32 r,(Crc.zqe h0 h1).symm⟩
 have e1:=fun b=>Crc.zqg b 8
 have e2:=fun b=>Crc.zqg b 16
 have e3:=fun b=>Crc.zqh b 16
 simp only [Int.reducePow] at e1 e2 e3
 simp only [Crc.zqf,Crc.zc9,e1,e2,e3,Crc.zq0,Crc.zck]
 rfl


theorem zt1 (w:World) (x0 x1 x2 x3:Int) :
  (convert 52 9 (.slice (some ⟨w.heap.size,0,none⟩) 4 4)).run Tryz.prog (w.alloc (.cells #[.int .u8 x0,.int .u8 x1,.int .u8 x2,.int .u8 x3] 5)) =
   .ok (.string (strOfNums [x0,x1,x2,x3])) (w.alloc (.cells #[.int .u8 x0,.int .u8 x1,.int .u8 x2,.int .u8 x3] 5)):=by
 refine run_convert_bytes_arg _ 52 5 Tryz.underlying52 Tryz.underlying5 w.heap.size 0 4 4 [x0,x1,x2,x3] rfl (fun i hi=>?_) 9 Tryz.underlying9
 match i,hi with
 | 0,_ | 1,_ | 2,_ | 3,_=>simp [go_sem]
set_option maxHeartbeats 400000 in
theorem zoH (r:Int) (h0:0≤r) (h1:r≤4294967295) (w:World) :
  Calls Tryz.prog 137 #[.int .u32 r] w fun e w'=>e = .returned (.string (Crc.tailS (v32 r)))∧Below w.heap.size w w':=by
 have kc:=fun w x0 x1 x2 x3=>zt1 w x0 x1 x2 x3
 go_enter Tryz.func137,Tryz.ntmps137
 have b0:=Crc.zbx (Crc.rev (v32 r))
 have b1:=Crc.zgx (Crc.rev (v32 r))
 go_wp2_with (go_at_call 190;refine (zoG r h0 h1 _).mono ?_;rintro e w' ⟨rfl,rfl⟩)
 go_ret
 exact ⟨by rw [← Crc.zl8];rfl,(Below.refl _ _).alloc (Nat.le_refl _) _⟩

theorem zhh (b:BitVec 32) (w:World):Calls Tryz.prog 137 #[.int .u32 (un b)] w fun e w'=>e = .returned (.string (Crc.tailS b))∧Below w.heap.size w w':=by
 have h:=zoH (un b) (Crc.zbx _) (Crc.zgx _) w
 rwa [Crc.zck] at h
def sumOf (s:ByteArray):BitVec 32:=Crc.more 0#32 s.data.toList
theorem zju (b off n m:Nat) (s:ByteArray) (W:World) (hn:n=1) (hs:s.size≤maxLen) (h:W.cell? ⟨b,off,none⟩=some (.string s)) :
  Calls Tryz.prog 138 #[.slice (some ⟨b,off,none⟩) n m] W fun e w'=>e = .returned (.int .u32 (un (sumOf s)))∧W=w':=by
 subst hn;exact zq4 _ _ _ [s] _ (isStrs_one _ _ _ _ hs h)
def frameS (s:ByteArray):ByteArray × Int:=if 65536<s.size then (ByteArray.empty,1) else (s ++ Crc.tailS (sumOf s),0)
def body (f:ByteArray):ByteArray:=f.extract 0 (f.size-4)
def tailOf (f:ByteArray):ByteArray:=f.extract (f.size-4) f.size
def fits (f:ByteArray):Bool:=(Crc.tailS (sumOf (body f))).toList == (tailOf f).toList
def openS (f:ByteArray):ByteArray × Int :=
  if f.size<4 then (ByteArray.empty,5) else if 65540<f.size then (ByteArray.empty,1) else if fits f then (body f,0) else (ByteArray.empty,6)

set_option maxHeartbeats 400000 in
theorem zl_ (s:ByteArray) (hs:s.size≤maxLen) (w:World) :
  Calls Tryz.prog 83 #[.string s] w fun e w'=>e = .returned (.tuple #[.string (frameS s).1,.int .i64 (frameS s).2])∧Below w.heap.size w w':=by
 have hs':=hs
 unfold maxLen at hs'
 by_cases hk:65536<s.size
 ·go_enter Tryz.func83,Tryz.ntmps83
  go_wp2_with fail
  go_ret2
  exact ⟨by simp only [frameS,if_pos hk];rfl,Below.refl _ _⟩
 ·have q:=Nat.le_of_eq (Crc.zbF (sumOf s))
  go_enter Tryz.func83,Tryz.ntmps83
  go_wp2_with (first | (go_at_call 138;refine (zju _ _ _ _ _ _ rfl hs (by simp [go_sem])).mono ?_;rintro e w' ⟨rfl,rfl⟩) | (go_at_call 137;refine (zhh _ _).mono ?_;rintro e w' ⟨rfl,hb⟩))
  go_ret2
  exact ⟨by simp only [frameS,if_neg hk];rfl,below_call ((Below.refl _ _).alloc (Nat.le_refl _) _) hb (by simp)⟩

end
section
open Go.RowKit
open Crc (un v32 Tn)

set_option maxHeartbeats 1000000 in
theorem zoI (s:ByteArray) (hs:s.size≤maxLen) (w:World) :
  Calls Tryz.prog 162 #[.string s] w fun e w'=>e = .returned (.tuple #[.string (openS s).1,.int .i64 (openS s).2])∧Below w.heap.size w w':=by
 have hs':=hs
 unfold maxLen at hs'
 by_cases hk:s.size<4
 ·go_enter Tryz.func162,Tryz.ntmps162
  go_wp2_with fail
  go_ret2
  exact ⟨by simp only [openS,if_pos hk];rfl,Below.refl _ _⟩
 by_cases hk2:65540<s.size
 ·go_enter Tryz.func162,Tryz.ntmps162
  go_wp2_with fail
  go_ret2
  exact ⟨by simp only [openS,if_neg hk,if_pos hk2];rfl,Below.refl _ _⟩
 have q1:(0:Int)≤(s.size:Int)-4:=by omega
 have q2:(s.size:Int)-4≤(s.size:Int):=by omega
 have q3:((s.size:Int)-4).toNat=s.size-4:=by omega
 have q4:(4:Int)≤(s.size:Int):=by omega
 have q5:(s.extract 0 (s.size-4)).size≤maxLen:=by rw [ByteArray.size_extract];unfold maxLen;omega
 have q6:IntKind.i64.wrap ((s.size:Int)-4)=(s.size:Int)-4:=IntWalk.i64_in _ (by omega)
 by_cases hf:fits s=true
 all_goals
  have hf':=hf
  simp only [fits,body,tailOf,Bool.not_eq_true] at hf'
  go_enter Tryz.func162,Tryz.ntmps162
  go_wp2_with fail
  go_region_held3 (fun _=>True) (trivial) (first | (go_at_call 138;go_must (refine (zju _ _ _ _ _ _ rfl q5 (by simp [go_sem])).mono ?_);rintro e w' ⟨rfl,rfl⟩) | (go_at_call 137;refine (zhh _ _).mono ?_;rintro e w' ⟨rfl,hb⟩))
  go_wp2_with fail
  go_ret2
  exact ⟨by simp only [openS,if_neg hk,if_neg hk2,hf];rfl,below_call (((Below.refl _ _).alloc (Nat.le_refl _) _).drew) hb (by simp)⟩

end
section
/-! ### Operators on natural numbers -/
theorem zoJ (a b:Nat) (ha:a<18446744073709551616) (hb:b<18446744073709551616):bits .or .u64 (a:Int) (b:Int)=((a ||| b:Nat):Int):=by
 have h:a ||| b<2 ^ 64:=Nat.or_lt_two_pow (by omega) (by omega)
 show IntKind.u64.wrap (((BitVec.ofInt 64 (a:Int)) ||| (BitVec.ofInt 64 (b:Int))).toNat:Int)=_
 rw [BitVec.ofInt_natCast,BitVec.ofInt_natCast,BitVec.toNat_or,BitVec.toNat_ofNat,BitVec.toNat_ofNat,Nat.mod_eq_of_lt (by omega),Nat.mod_eq_of_lt (by omega)]
 exact IntWalk.u64_in _ (by omega)
theorem ziw (q y k:Nat) (hy:y<2 ^ k):y ||| q*2 ^ k=q*2 ^ k+y:=by
 rw [Nat.or_comm,Nat.mul_comm q,Nat.two_pow_add_eq_or_of_lt hy]
theorem zcW (s:ByteArray):s.size=s.data.toList.length:=(Array.length_toList (xs:=s.data)).symm
theorem zqi (x:Nat):IntKind.u8.wrap (x:Int)=nb (UInt8.ofNat x):=by
 rw [IntKind.wrap_u8];unfold nb;rw [UInt8.toNat_ofNat'];omega
namespace Num
abbrev top:Nat:=1099511627776
def five (n:Nat):List UInt8:=[UInt8.ofNat (n / 4294967296),UInt8.ofNat (n / 16777216),UInt8.ofNat (n / 65536),UInt8.ofNat (n / 256),UInt8.ofNat n]
theorem zcC (n:Nat):(five n).length=5:=rfl
def ofB (l:List UInt8):Nat:=l.foldl (fun a b=>256*a+b.toNat) 0
theorem zoK (l:List UInt8) (c:UInt8):ofB (l ++ [c])=256*ofB l+c.toNat:=by simp [ofB]
theorem zjv (l:List UInt8) (k:Nat) (h:k<l.length):ofB (l.take (k+1))=256*ofB (l.take k)+(at8 l k).toNat:=by
 rw [List.take_succ_eq_append_getElem h,zoK,at8_get _ _ h]
theorem zq5 (l:List UInt8) (a:Nat):l.foldl (fun a b=>256*a+b.toNat) a<(a+1)*256 ^ l.length:=by
 induction l generalizing a with
 | nil=>simp
 | cons c l ih =>
  have:=ih (256*a+c.toNat)
  have hc:=c.toNat_lt
  rw [List.foldl_cons,List.length_cons,Nat.pow_succ,Nat.mul_comm (256 ^ l.length) 256,← Nat.mul_assoc]
  exact Nat.lt_of_lt_of_le this (Nat.mul_le_mul_right _ (by omega))
theorem zqj (l:List UInt8):ofB l<256 ^ l.length:=by have:=zq5 l 0;simpa [ofB] using this
theorem zq6 (l:List UInt8) (h:l.length≤4):ofB l<4294967296:=by
 have h1:=zqj l
 have h2:256 ^ l.length≤256 ^ 4:=Nat.pow_le_pow_right (by decide) h
 omega
theorem zhi (l:List UInt8) (k:Nat) (h:k≤4):ofB (l.take k)<4294967296:=zq6 _ (by rw [List.length_take];omega)
theorem zgy (n:Nat) (h:n<top):ofB (five n)=n:=by
 simp only [ofB,five,List.foldl_cons,List.foldl_nil,UInt8.toNat_ofNat']
 unfold top at h;omega
def two (s:ByteArray) (e:Int):Value:=.tuple #[.string s,.int .i64 e]
def recB (l:List Nat):List UInt8:=l.flatMap five
theorem zaO (l:List Nat):(recB l).length=5*l.length:=by
 induction l with
 | nil=>rfl
 | cons x l ih=>simp only [recB,List.flatMap_cons,List.length_append,zcC,List.length_cons] at ih ⊢;omega
theorem zhj (l:List Nat) (x:Nat):recB (l ++ [x])=recB l ++ five x:=by simp [recB]
def recOK (l:List Nat):Bool:=1≤l.length && l.length≤8 && l.all (·<top)
def recP (l:List Nat):ByteArray × Int:=if recOK l then (bs (recB l),0) else (ByteArray.empty,1)
def pairV (p:ByteArray × Int):Value:=two p.1 p.2
def nrow (l:List UInt8) (w p:Nat):List Nat:=(List.range w).map fun k=>ofB ((l.drop (p+5*k)).take 5)
def rowsTo (l:List UInt8) (w n:Nat):List (List Nat):=(List.range n).map fun i=>nrow l w (i*(5*w))
def rowsOf (l:List UInt8) (w:Nat):List (List Nat):=rowsTo l w (l.length / (5*w))
theorem zix (l:List UInt8) (w n:Nat):rowsTo l w (n+1)=rowsTo l w n ++ [nrow l w (n*(5*w))]:=by simp [rowsTo,List.range_succ]
def splitE (s:ByteArray) (w:Int):Int:=if w<1∨8<w then 1 else if s.size % (5*w.toNat)≠0 then 5 else 0
def splitL (s:ByteArray) (w:Int):List (List Nat):=if splitE s w=0 then rowsOf s.data.toList w.toNat else []
def lessB:List Nat→List Nat→Bool
  | _,[]=>false
  | [],_ :: _=>true
  | x :: a,y :: b=>decide (x<y) || (decide (x=y) && lessB a b)
def cmpB:List Nat→List Nat→Int
  | [],[]=>0
  | _ :: _,[]=>1
  | [],_ :: _=>-1
  | x :: a,y :: b=>if x<y then -1 else if y<x then 1 else cmpB a b
theorem ziy (a b:List Nat):decide (cmpB a b<0)=lessB a b:=by
 induction a generalizing b with
 | nil=>cases b <;> rfl
 | cons x a ih =>
  cases b with
  | nil=>rfl
  | cons y b =>
   simp only [cmpB,lessB]
   by_cases h1:x<y
   ·simp [h1]
   ·by_cases h2:y<x
    ·simp [h1,h2];omega
    ·obtain rfl:x=y:=by omega
     simp [ih]
theorem zbg (a:List Nat):lessB a a=false:=by
 induction a with
 | nil=>rfl
 | cons x a ih=>simp [lessB,ih]
theorem zdu (a b:List Nat) (h1:lessB a b=false) (h2:lessB b a=false):a=b:=by
 induction a generalizing b with
 | nil=>cases b with
  | nil=>rfl
  | cons y b=>simp [lessB] at h1
 | cons x a ih =>
  cases b with
  | nil=>simp [lessB] at h2
  | cons y b =>
   simp only [lessB,Bool.or_eq_false_iff,decide_eq_false_iff_not,Bool.and_eq_false_iff] at h1 h2
   obtain rfl:x=y:=by omega
   rw [ih b (h1.2.resolve_left (by simp)) (h2.2.resolve_left (by simp))]
end Num
end
section
open Go.RowKit
open Mv Disk Num
namespace Rec
def eachN (w:Nat):Nat:=if w=0 then 1 else 5*w
def needN (w c:Nat):Nat:=1+(eachN w*c+63) / 64
def needP (w:Int) (c:Nat):Int × Int:=if w<0∨8<w∨65536<c then (0,1) else ((needN w.toNat c:Nat),0)
def padS (s:ByteArray):ByteArray:=bs (s.data.toList ++ List.replicate ((64-s.size % 64) % 64) 0)
def preS (w c:Nat):ByteArray:=bs ([87,82,UInt8.ofNat w] ++ five c)
def headS (w c:Nat):ByteArray:=padS (preS w c ++ Crc.tailS (sumOf (preS w c)))
def secAt (s:ByteArray) (i:Nat):ByteArray:=s.extract (64*i) (64*i+64)
noncomputable def refD (d:D):D × Int:=((openD d).1,1)
noncomputable def putTo (d:D) (s all:ByteArray):Nat→D × Int
  | 0=>(d,0)
  | k+1=>if (putTo d s all k).2=0 then writeD (putTo d s all k).1 s ((k+1:Nat):Int) (secAt all k) else putTo d s all k
noncomputable def sealD (d:D) (s h:ByteArray):D × Int :=
  if (writeD (settleD d fun _=>true) s 0 h).2=0 then (settleD (writeD (settleD d fun _=>true) s 0 h).1 fun _=>true,0) else writeD (settleD d fun _=>true) s 0 h
noncomputable def putP (d:D) (s:ByteArray) (w c:Nat) (body:ByteArray):D × Int :=
  if (newD d s (needN w c:Nat)).2≠0 then newD d s (needN w c:Nat) else
  if (putTo (newD d s (needN w c:Nat)).1 s (padS body) (needN w c-1)).2≠0 then putTo (newD d s (needN w c:Nat)).1 s (padS body) (needN w c-1) else
  sealD (putTo (newD d s (needN w c:Nat)).1 s (padS body) (needN w c-1)).1 s (headS w c)
def rowOK (w:Nat) (x:List Nat):Bool:=recOK x && decide (x.length=w)
noncomputable def writeP (d:D) (s:ByteArray) (w:Int) (l:List (List Nat)):D × Int :=
  if w<1∨8<w∨65536<l.length then refD d else
  if l.all (rowOK w.toNat)=true then opened d (putP d s w.toNat l.length (bs (l.flatMap recB))) else refD d
def zeroL (l:List UInt8):Bool:=l.all fun b=>b == 0
def formP (s:ByteArray):Nat × Nat × Int :=
  if s.data.toList.take 2 ≠ [87,82]∨8<(s.data.toList.getD 2 0).toNat∨zeroL (s.data.toList.drop 12)=false then (0,0,2) else
  if (openS (s.extract 0 12)).2≠0 then (0,0,(openS (s.extract 0 12)).2) else ((s.data.toList.getD 2 0).toNat,ofB ((s.data.toList.drop 3).take 5),0)
noncomputable def headP (d:D) (s:ByteArray):Nat × Nat × Int :=
  if (readO d s 0).2≠0 then (0,0,(readO d s 0).2) else
  if (formP (readO d s 0).1).2.2≠0 then (0,0,(formP (readO d s 0).1).2.2) else
  if (needP (formP (readO d s 0).1).1 (formP (readO d s 0).1).2.1).2≠0∨(sectorsD d s).1≠(needN (formP (readO d s 0).1).1 (formP (readO d s 0).1).2.1:Nat) then (0,0,2) else
  formP (readO d s 0).1
noncomputable def bodyL (d:D) (s:ByteArray):Nat→List UInt8
  | 0=>[]
  | k+1=>bodyL d s k ++ (readO d s ((k+1:Nat):Int)).1.data.toList
noncomputable def bodyP (d:D) (s:ByteArray) (text:Bool):Nat × ByteArray × Int :=
  if (headP d s).2.2≠0 then (0,ByteArray.empty,(headP d s).2.2) else
  if text≠decide ((headP d s).1=0) then (0,ByteArray.empty,7) else
  if zeroL ((bodyL d s (needN (headP d s).1 (headP d s).2.1-1)).drop (eachN (headP d s).1*(headP d s).2.1))=false then (0,ByteArray.empty,7) else
  ((headP d s).1,bs ((bodyL d s (needN (headP d s).1 (headP d s).2.1-1)).take (eachN (headP d s).1*(headP d s).2.1)),0)
/-! ### What stays -/
theorem zfL {d:D} (hR:Right d) (hdn:d.down=false) (hf:d.fuse≤9223372036854775807) (s y:ByteArray) (k:Int) :
  Right (writeD d s k y).1∧(writeD d s k y).1.fuse≤9223372036854775807∧((writeD d s k y).2=0→(writeD d s k y).1.down=false):=by
 unfold writeD
 by_cases q0:(placeD d s k).2≠0
 ·rw [if_pos q0];exact ⟨hR,hf,fun _=>hdn⟩
 rw [if_neg q0]
 by_cases q1:y.size≠64
 ·rw [if_pos q1];exact ⟨hR,hf,fun _=>hdn⟩
 rw [if_neg q1]
 by_cases q2:d.waits.length=16384
 ·rw [if_pos q2];exact ⟨hR,hf,fun _=>hdn⟩
 rw [if_neg q2]
 have hwl:=hR.wl
 have hfu:=hR.fu
 have hA:=zdP (data:=y) hR (by simpa using q0) (by simpa using q1) (by omega)
 unfold fuseD
 by_cases q3:(addW d (s,k,y)).fuse=0
 ·rw [if_pos q3];exact ⟨zc8 hA (by show -1≤d.fuse;omega) true,hf,fun h=>by simp at h⟩
 rw [if_neg q3]
 by_cases q4:0<(addW d (s,k,y)).fuse
 ·rw [if_pos q4];exact ⟨zc8 hA (by have:0<d.fuse:=q4;show -1≤d.fuse-1;omega) _,by show d.fuse-1≤_;omega,fun _=>hdn⟩
 ·rw [if_neg q4];exact ⟨hA,hf,fun _=>hdn⟩
theorem zcl {d:D} (hR:Right d) (hdn:d.down=false) (hf:d.fuse≤9223372036854775807) (s all:ByteArray) (k:Nat) :
  Right (putTo d s all k).1∧(putTo d s all k).1.fuse≤9223372036854775807∧((putTo d s all k).2=0→(putTo d s all k).1.down=false):=by
 induction k with
 | zero=>exact ⟨hR,hf,fun _=>hdn⟩
 | succ k ih =>
  unfold putTo
  by_cases h:(putTo d s all k).2=0
  ·rw [if_pos h];exact zfL ih.1 (ih.2.2 h) ih.2.1 _ _ _
  ·rw [if_neg h];exact ih
theorem ziz {d:D} {s all:ByteArray} {k:Nat} (h:(putTo d s all k).2≠0):∀ n,k≤n→putTo d s all n=putTo d s all k:=by
 intro n hn
 induction n with
 | zero=>(obtain rfl:k=0:=by omega);rfl
 | succ n ih =>
  rcases Nat.lt_or_ge k (n+1) with h' | h'
  ·have:=ih (by omega)
   rw [putTo,this,if_neg h]
  ·rw [show k=n+1 by omega]
theorem zcX (s:ByteArray):(padS s).size=64*((s.size+63) / 64):=by
 unfold padS
 rw [zaD,List.length_append,List.length_replicate,zcW]
 omega
theorem zfM {s:ByteArray} {i:Nat} (h:64*i+64≤s.size):(secAt s i).size=64:=by
 unfold secAt
 rw [ByteArray.size_extract];omega
theorem zbl (w c:Nat):1≤needN w c:=by unfold needN;omega
theorem zeG {w:Nat} (h:w≤8):eachN w≤40:=by unfold eachN;split <;> omega
theorem zgz {w c:Nat} (h:w≤8) (hc:c≤65536):needN w c≤40961:=by
 have h1:=Nat.mul_le_mul (zeG h) hc
 unfold needN;omega
end Rec
end
section
namespace Num
theorem zma {l:List Nat} (h:recOK l=true):1≤l.length∧l.length≤8 ∧ ∀ x ∈ l,x<top:=by
 unfold recOK at h
 simp only [Bool.and_eq_true,decide_eq_true_eq,List.all_eq_true] at h
 exact ⟨h.1.1,h.1.2,h.2⟩
theorem zoL (p:List UInt8) (x:List Nat) (q:List UInt8) (hx:∀ n ∈ x,n<top):nrow (p ++ recB x ++ q) x.length p.length=x:=by
 apply List.ext_getElem
 ·simp [nrow]
 ·intro i h1 h2
  simp only [nrow,List.getElem_map,List.getElem_range]
  have:(p ++ recB x ++ q).drop (p.length+5*i)=five x[i] ++ ((recB x).drop (5*i+5) ++ q):=by
   rw [List.append_assoc,List.drop_append,List.drop_of_length_le (by omega),List.nil_append,show p.length+5*i-p.length=5*i from by omega]
   have hd:∀ (x:List Nat) (i:Nat) (h:i<x.length),(recB x).drop (5*i)=five x[i] ++ (recB x).drop (5*i+5):=by
    intro x
    induction x with
    | nil=>intro i h;simp at h
    | cons a x ih =>
     intro i h
     cases i with
     | zero=>simp [recB,five]
     | succ i =>
      have hi:=ih i (by simpa using h)
      simp only [recB,List.flatMap_cons] at hi ⊢
      rw [show 5*(i+1)=5+5*i from by omega,← List.drop_drop,show 5+5*i+5=5+(5*i+5) from by omega,← List.drop_drop (i:=5*i+5) (j:=5)]
      simp only [List.getElem_cons_succ]
      have h5:(five a ++ List.flatMap five x).drop 5=List.flatMap five x:=by rw [List.drop_append_of_le_length (by simp [five])];simp [five]
      rw [h5];exact hi
   rw [List.drop_append_of_le_length (by rw [zaO];omega),hd x i h2,List.append_assoc]
  rw [this,List.take_append_of_le_length (by simp [five]),List.take_of_length_le (by simp [five]),zgy _ (hx _ (List.getElem_mem _))]
def recsB (l:List (List Nat)):List UInt8:=l.flatMap recB
theorem zbs (l:List (List Nat)) (w:Nat) (h:∀ x ∈ l,x.length=w):(recsB l).length=l.length*(5*w):=by
 induction l with
 | nil=>simp [recsB]
 | cons x l ih =>
  have hx:=h x (by simp)
  simp only [recsB,List.flatMap_cons,List.length_append,zaO,List.length_cons] at ih ⊢
  rw [ih (fun y hy=>h y (by simp [hy])),hx,Nat.add_mul l.length 1];omega
theorem zmb (l:List (List Nat)) (w:Nat) (hw:∀ x ∈ l,x.length=w) (hx:∀ x ∈ l,∀ n ∈ x,n<top):rowsTo (recsB l) w l.length=l:=by
 apply List.ext_getElem
 ·simp [rowsTo]
 ·intro i h1 h2
  simp only [rowsTo,List.getElem_map,List.getElem_range]
  have hs:recsB l=recsB (l.take i) ++ recB l[i] ++ recsB (l.drop (i+1)):=by
   simp only [recsB]
   rw [List.append_assoc,← List.flatMap_cons,← List.drop_eq_getElem_cons h2,← List.flatMap_append,List.take_append_drop]
  have hp:(recsB (l.take i)).length=i*(5*w):=by
   rw [zbs _ w (fun x hx=>hw x (List.mem_of_mem_take hx)),List.length_take,Nat.min_eq_left (by omega)]
  have:=zoL (recsB (l.take i)) l[i] (recsB (l.drop (i+1))) (hx _ (List.getElem_mem _))
  rw [hw _ (List.getElem_mem _),hp,← hs] at this
  exact this
end Num
end
section
open Go.RowKit
open Crc (un v32 Tn)

theorem zmc {a b:ByteArray} (h:a.data.toList=b.data.toList):a=b:=by rw [← bs_of a,← bs_of b,h]
theorem zs5 (a b:ByteArray):(a.toList == b.toList)=decide (a=b):=by
 rw [ByteArray.toList_eq,ByteArray.toList_eq,Bool.eq_iff_iff]
 simp only [beq_iff_eq,decide_eq_true_eq]
 exact ⟨zmc,fun h=>by rw [h]⟩
theorem zjw (s:ByteArray):s.data.toList.length=s.size:=by simp
theorem zhk (s:ByteArray) (k:Nat):(s.extract 0 k).data.toList=s.data.toList.take k:=by rw [Lib.extract_data];simp
theorem zhl (s:ByteArray) (k:Nat):(s.extract k s.size).data.toList=s.data.toList.drop k:=by
 rw [Lib.extract_data];exact List.take_of_length_le (by simp)
theorem ziA (a b:ByteArray):(a ++ b).data.toList=a.data.toList ++ b.data.toList:=by simp

namespace Crc
/-! ### Cut -/
/-! ### Byte by byte -/
/-! ### Four bytes side by side -/
/-! ### Three texts -/
end Crc
end
section
open Go.RowKit
open Crc (un v32 Tn)
namespace Crc
def frameB (s:ByteArray):ByteArray:=s ++ tailS (sumOf s)
theorem ze_ (s:ByteArray):(frameB s).data.toList=s.data.toList ++ (tailS (sumOf s)).data.toList:=ziA _ _
theorem zdv (s:ByteArray):(frameB s).size=s.size+4:=by simp [frameB,zbF]
theorem zmd (f:ByteArray):(body f).data.toList=f.data.toList.take (f.size-4):=zhk _ _
theorem ziB (f:ByteArray):(tailOf f).data.toList=f.data.toList.drop (f.size-4):=zhl _ _
theorem zfN (s:ByteArray):body (frameB s)=s:=by
 apply zmc
 rw [zmd,ze_,zdv,Nat.add_sub_cancel,← zjw s,List.take_left]
theorem zhm (s:ByteArray):tailOf (frameB s)=tailS (sumOf s):=by
 apply zmc
 rw [ziB,ze_,zdv,Nat.add_sub_cancel,← zjw s,List.drop_left]
theorem zoM (f:ByteArray):fits f=true ↔ tailS (sumOf (body f))=tailOf f:=by
 unfold fits;rw [zs5];simp
theorem zdt (s:ByteArray) (h:s.size≤65536):openS (frameB s)=(s,0):=by
 unfold openS
 rw [zdv,if_neg (by omega),if_neg (by omega),if_pos ((zoM _).2 (by rw [zfN,zhm])),zfN]
end Crc
end
section
open Go.RowKit
open Mv Disk Num
namespace Rec
theorem zfa {d:D} {s:ByteArray} {n:Int} (h:(newD d s n).2=0):nm s∧1≤n∧has d.ext s=false∧(used d.ext:Int)+n≤d.size∧(newD d s n).1 = { d with ext:=insAt d.ext (pos d.ext s) (s,zeros n.toNat) }:=by
 unfold newD at h ⊢
 by_cases q1 : ¬ nm s∨n<1
 ·rw [if_pos q1] at h;simp at h
 rw [if_neg q1] at h ⊢
 by_cases q2:has d.ext s=true
 ·rw [if_pos q2] at h;simp at h
 rw [if_neg q2] at h ⊢
 by_cases q3:d.size-used d.ext<n
 ·rw [if_pos q3] at h;simp at h
 rw [if_neg q3]
 refine ⟨by by_cases h:nm s;exact h;exact absurd (.inl h) q1,by omega,by simpa using q2,by omega,rfl⟩
theorem zq7 {l:List Ext} {i:Nat} {x:Ext} {o:ByteArray} (h:o≠x.1):has (insAt l i x) o=has l o:=by
 rw [Bool.eq_iff_iff,zbd,zbd]
 constructor
 ·rintro ⟨y,hy,e⟩
  rcases zbE.1 hy with rfl | hy
  ·exact absurd e.symm h
  ·exact ⟨y,hy,e⟩
 ·rintro ⟨y,hy,e⟩;exact ⟨y,zbE.2 (.inr hy),e⟩
section
variable {d:D} {s all:ByteArray} {n:Int}
theorem zoN (hR:Right d) (h:(newD d s n).2=0):exOf (newD d s n).1.ext s=(s,zeros n.toNat)∧has (newD d s n).1.ext s=true:=by
 obtain ⟨h1,h2,h3,h4,h5⟩:=zfa h
 rw [h5]
 have hm:(s,zeros n.toNat) ∈ insAt d.ext (pos d.ext s) (s,zeros n.toNat):=zbE.2 (.inl rfl)
 exact ⟨zbw (ziu hR.ex.asc h3) hm,zbd.2 ⟨_,hm,rfl⟩⟩
theorem zfO (hR:Right d) (h:(newD d s n).2=0) {o:ByteArray} (ho:o≠s):has (newD d s n).1.ext o=has d.ext o∧(has d.ext o=true→exOf (newD d s n).1.ext o=exOf d.ext o):=by
 obtain ⟨h1,h2,h3,h4,h5⟩:=zfa h
 rw [h5]
 refine ⟨zq7 ho,fun hh=>?_⟩
 obtain ⟨x,hx,rfl⟩:=zbd.1 hh
 rw [zbw hR.ex.asc hx]
 exact zbw (ziu hR.ex.asc h3) (zbE.2 (.inr hx))
theorem ziC (hR:Right d) (h:(newD d s n).2=0) {o:ByteArray} (ho:o≠s) (k:Int):(placeD (newD d s n).1 o k).2=(placeD d o k).2:=by
 obtain ⟨e1,e2⟩:=zfO hR h ho
 unfold placeD
 rw [e1]
 by_cases q:has d.ext o=true
 ·rw [if_pos q,if_pos q,e2 q];split <;> rfl
 ·rw [if_neg q,if_neg q]
theorem zky (hR:Right d) (h:(newD d s n).2=0) {o:ByteArray} (ho:o≠s) {k:Int} (hp:(placeD d o k).2=0):seen (newD d s n).1 o k=seen d o k:=by
 obtain ⟨h1,h2,h3,h4,h5⟩:=zfa h
 have e:=(zfO hR h ho).2 (zdN hp).1
 unfold seen
 rw [e,h5]
def secsW (s all:ByteArray) (k:Nat):List Wr:=(List.range k).map fun i=>(s,((i+1:Nat):Int),secAt all i)
theorem zed (s all:ByteArray) (k:Nat):secsW s all (k+1)=secsW s all k ++ [(s,((k+1:Nat):Int),secAt all k)]:=by
 unfold secsW
 rw [List.range_succ,List.map_append];rfl
noncomputable def putE' (d:D) (s all:ByteArray) (n:Int) (k:Nat) (f:Int):D:={ (newD d s n).1 with waits:=d.waits ++ secsW s all k,fuse:=f }
theorem zme (hR:Right d) (hdn:d.down=false) (hf:d.fuse≤9223372036854775807) (hn:(newD d s n).2=0):∀ k,(putTo (newD d s n).1 s all k).2=0 →
  ∃ f,-1≤f∧f≤9223372036854775807∧putTo (newD d s n).1 s all k=(putE' d s all n k f,0):=by
 obtain ⟨hR1,hd1,hf1,_⟩:=(ziv (s:=s) (n:=n) hR hdn).2 hn
 obtain ⟨_,_,_,_,h5⟩:=zfa hn
 intro k
 induction k with
 | zero =>
  intro _
  refine ⟨d.fuse,hR.fu,hf,?_⟩
  show ((newD d s n).1,(0:Int))=_
  unfold putE' secsW
  rw [h5]
  simp
 | succ k ih =>
  intro h
  by_cases q:(putTo (newD d s n).1 s all k).2=0
  ·obtain ⟨kR,kf,kd⟩:=zcl hR1 hd1 (by rw [hf1];exact hf) s all k
   have kd:=kd q
   rw [putTo,if_pos q] at h ⊢
   obtain ⟨f,f0,f1,e⟩:=ih q
   rw [e] at h kR kd kf ⊢
   have ho:=zcU kR kd (writeD (putE' d s all n k f) s ((k+1:Nat):Int) (secAt all k))
   obtain ⟨_,_,_,_,_,g,g0,g1,e2⟩:=zgu (d:=putE' d s all n k f) (s:=s) (data:=secAt all k) (k:=((k+1:Nat):Int)) kf (by rw [ho];exact h)
   rw [ho] at e2
   refine ⟨g,g0,g1,e2.trans ?_⟩
   unfold putE' addW
   simp only [zed,List.append_assoc]
  ·rw [putTo,if_neg q] at h;exact absurd h q
theorem zjx (hR:Right d) (hn:(newD d s n).2=0) (o:ByteArray) (a:Int):∀ k f,seen (putE' d s all n k f) o a=if o=s∧1≤a∧a≤k then secAt all (a.toNat-1) else seen (newD d s n).1 o a:=by
 obtain ⟨_,_,_,_,h5⟩:=zfa hn
 intro k
 induction k with
 | zero =>
  intro f
  rw [if_neg (by omega)]
  unfold putE' secsW
  rw [h5]
  simp only [List.range_zero,List.map_nil,List.append_nil]
  rfl
 | succ k ih =>
  intro f
  have e:putE' d s all n (k+1) f=addW (putE' d s all n k f) (s,((k+1:Nat):Int),secAt all k):=by
   unfold putE' addW
   simp only [zed,List.append_assoc]
  rw [e,zgr,ih f]
  by_cases q:s=o∧((k+1:Nat):Int)=a
  ·rw [if_pos q,if_pos ⟨q.1.symm,by omega,by omega⟩]
   rw [show a.toNat-1=k by omega]
  ·rw [if_neg q]
   by_cases q2:o=s∧1≤a∧a≤k
   ·rw [if_pos q2,if_pos ⟨q2.1,q2.2.1,by omega⟩]
   ·rw [if_neg q2,if_neg (fun ⟨h1,h2,h3⟩=>q2 ⟨h1,h2,by
     rcases Int.lt_or_le a (k+1) with h | h
     ·omega
     ·exact absurd ⟨h1.symm,by omega⟩ q⟩)]
end
structure FileR (z:D) (s:ByteArray) (w c:Nat) (body:ByteArray):Prop where
  head:readO z s 0=(headS w c,0)
  secs:∀ i,i<needN w c-1→readO z s ((i+1:Nat):Int)=(secAt (padS body) i,0)
  size:sectorsD z s=(((needN w c:Nat):Int),0)
theorem zdw {z:D} {s:ByteArray} (hR:Right z) (hdn:z.down=false) (h:has z.ext s=true):sectorsD z s=(((sec (exOf z.ext s):Nat):Int),0):=by
 unfold sectorsD
 rw [zdt hR hdn,if_neg (by simp),if_pos h]
theorem sealed {e:D} {s:ByteArray} {w c:Nat} {body:ByteArray} (hR:Right e) (hdn:e.down=false) (hf:e.fuse≤9223372036854775807) (hh:has e.ext s=true) (hs:sec (exOf e.ext s)=needN w c)
  (hb:∀ i,i<needN w c-1→seen e s ((i+1:Nat):Int)=secAt (padS body) i) (h:(sealD e s (headS w c)).2=0) :
  ∃ z,sealD e s (headS w c)=(z,0)∧Right z∧z.down=false∧z.fuse≤9223372036854775807∧z.waits = []∧FileR z s w c body ∧ ∀ o k,o≠s→readO z o k=readO e o k:=by
 have h1:=zbl w c
 have hR1:=zb8 hR (fun _=>true)
 unfold sealD at h ⊢
 by_cases q:(writeD (settleD e fun _=>true) s 0 (headS w c)).2=0
 ·rw [if_pos q]
  have ho:=zcU hR1 hdn (writeD (settleD e fun _=>true) s 0 (headS w c))
  obtain ⟨_,_,q1,q2,q3,f,f0,f1,e2⟩:=zgu (d:=settleD e fun _=>true) (s:=s) (data:=headS w c) (k:=0) hf (by rw [ho];exact q)
  rw [ho] at e2
  rw [e2]
  have hR2:Right { addW (settleD e fun _=>true) (s,0,headS w c) with fuse:=f }:=zc8 (zdP hR1 q1 q2 q3) f0 (addW (settleD e fun _=>true) (s,0,headS w c)).down
  have hR3:=zb8 hR2 (fun _=>true)
  have hpl:∀ o k,(placeD { addW (settleD e fun _=>true) (s,0,headS w c) with fuse:=f } o k).2=(placeD e o k).2:=fun o k=>by
   show (placeD (settleD e fun _=>true) o k).2=_
   exact zcV hR _ o k
  have hrd:∀ o k,(placeD e o k).2=0→readO (settleD { addW (settleD e fun _=>true) (s,0,headS w c) with fuse:=f } fun _=>true) o k=(if s=o∧0=k then headS w c else seen e o k,0):=fun o k hp=>by
   refine (zcB hR3 hdn o k).trans ?_
   rw [zcV hR2,hpl,hp,if_neg (by simp),zds hR2 (by rw [hpl];exact hp)]
   have e3:seen { addW (settleD e fun _=>true) (s,0,headS w c) with fuse:=f } o k=if s=o∧0=k then headS w c else seen (settleD e fun _=>true) o k:=zgr _ s 0 (headS w c) o k
   have e4:=zds hR hp (fun _=>true)
   refine Prod.ext ?_ rfl
   show seen { addW (settleD e fun _=>true) (s,0,headS w c) with fuse:=f } o k=_
   rw [e3,e4];rfl
  have hps:∀ k:Nat,k<needN w c→(placeD e s (k:Int)).2=0:=fun k hk=>by
   unfold placeD
   rw [if_pos hh,if_neg (by rw [hs];omega)]
  refine ⟨_,rfl,hR3,hdn,f1,rfl,⟨?_,fun i hi=>?_,?_⟩,fun o k hok=>?_⟩
  ·refine (hrd s 0 (hps 0 (by omega))).trans ?_
   rw [if_pos ⟨rfl,rfl⟩]
  ·refine (hrd s _ (hps (i+1) (by omega))).trans ?_
   rw [if_neg (by omega),hb i hi]
  ·have hh2:has (settleD { addW (settleD e fun _=>true) (s,0,headS w c) with fuse:=f } fun _=>true).ext s=true∧exOf (settleD { addW (settleD e fun _=>true) (s,0,headS w c) with fuse:=f } fun _=>true).ext s=doneX (fun _=>true) (addW (settleD e fun _=>true) (s,0,headS w c)).waits (doneX (fun _=>true) e.waits (exOf e.ext s)):=by
    have a1:has (settleD e fun _=>true).ext s=true:=(zgp (f:=doneX (fun _=>true) e.waits) (fun _=>rfl) e.ext s).trans hh
    refine ⟨(zgp (f:=doneX (fun _=>true) (addW (settleD e fun _=>true) (s,0,headS w c)).waits) (fun _=>rfl) (settleD e fun _=>true).ext s).trans a1,?_⟩
    have b1:exOf (settleD e fun _=>true).ext s=doneX (fun _=>true) e.waits (exOf e.ext s):=zdM (f:=doneX (fun _=>true) e.waits) (fun _=>rfl) hR.ex.asc hh
    exact (zdM (f:=doneX (fun _=>true) (addW (settleD e fun _=>true) (s,0,headS w c)).waits) (fun _=>rfl) hR1.ex.asc a1).trans (by rw [b1])
   rw [zdw hR3 hdn hh2.1,hh2.2]
   have c1:(doneX (fun _=>true) e.waits (exOf e.ext s)) ∈ (settleD e fun _=>true).ext:=List.mem_map_of_mem (zbk hR.ex.asc hh).1
   have c2:sec (doneX (fun _=>true) (addW (settleD e fun _=>true) (s,0,headS w c)).waits (doneX (fun _=>true) e.waits (exOf e.ext s)))=sec (doneX (fun _=>true) e.waits (exOf e.ext s)):=by
    unfold sec
    rw [zbM hR2 (fun _=>true) c1]
   have c3:sec (doneX (fun _=>true) e.waits (exOf e.ext s))=sec (exOf e.ext s):=by
    unfold sec
    rw [zbM hR (fun _=>true) (zbk hR.ex.asc hh).1]
   rw [c2,c3,hs]
  ·by_cases hp:(placeD e o k).2=0
   ·refine (hrd o k hp).trans ?_
    rw [if_neg (fun h=>hok h.1.symm),zcB hR hdn,hp,if_neg (by simp)]
   ·refine (zcB hR3 hdn o k).trans ?_
    rw [zcV hR2,hpl,zcB hR hdn,if_pos hp,if_pos hp]
 ·rw [if_neg q] at h;exact absurd h q
end Rec
end
section
open Go.RowKit
namespace Mv
/-! ### Less is known -/
def Mem.Lo (S' S:Mem):Prop:=(∀ b r,S'.own b=some r→S.own b=some r)∧(∀ a v,S'.ro a=some v→S.ro a=some v) ∧
  ∀ g l,S'.ro.z g=some l→S.ro.z g=some l∧((∃ v,S.ro ⟨g,0,none⟩=some v) → ∃ v,S'.ro ⟨g,0,none⟩=some v)
theorem Mem.Less.lo {S S':Mem} (h:S'.Less S):S'.Lo S:=⟨h.1,fun a v x=>by rw [← h.2];exact x,fun g l x=>by rw [h.2] at x ⊢;exact ⟨x,id⟩⟩
theorem Mem.Lo.trans {S S' S'':Mem} (h:S''.Lo S') (k:S'.Lo S):S''.Lo S :=
 ⟨fun b r x=>k.1 b r (h.1 b r x),fun a v x=>k.2.1 a v (h.2.1 a v x),fun g l x=>by
  obtain ⟨x1,x2⟩:=h.2.2 g l x
  obtain ⟨y1,y2⟩:=k.2.2 g l x1
  exact ⟨y1,fun z=>x2 (y2 z)⟩⟩
theorem View.lo {S S':Mem} {w:World} (h:View S w) (hl:S'.Lo S):View S' w :=
 ⟨fun b r hb=>h.own b r (hl.1 b r hb),fun a v ha=>by
  obtain ⟨h1,h2⟩:=h.ro a v (hl.2.1 a v ha)
  refine ⟨h1,?_⟩
  cases e:S'.own a.block with
  | none=>rfl
  | some r=>(have:=hl.1 _ _ e;rw [h2] at this;cases this),fun g l hg=>by
  obtain ⟨q1,q2⟩:=hl.2.2 g l hg
  obtain ⟨h1,h2,h3⟩:=h.fz g l q1
  refine ⟨?_,q2 h2,h3⟩
  cases e:S'.own g with
  | none=>rfl
  | some r=>have:=hl.1 _ _ e;rw [h1] at this;cases this⟩
theorem Step.lo {S S' S'':Mem} {w w':World} (h:Step S w S' w') (hl:S''.Lo S'):Step S w S'' w' :=
 ⟨h.view.lo hl,h.os,h.tape,h.output,h.size,h.block,fun k hk=>h.dom k (by
  cases e:S''.own k with
  | none=>exact absurd e hk
  | some r=>rw [hl.1 _ _ e];simp),fun a v hv=>h.ro a v (hl.2.1 a v hv)⟩
theorem Step.loL {S S0 S':Mem} {w w':World} (h:Step S0 w S' w') (hl:S0.Lo S):Step S w S' w' :=
 ⟨h.view,h.os,h.tape,h.output,h.size,fun k hk hn=>h.block k hk (by
  cases e:S0.own k with
  | none=>rfl
  | some r=>have:=hl.1 _ _ e;rw [hn] at this;cases this),fun k hk=>by
   rcases h.dom k hk with x | x
   ·cases e:S0.own k with
    | none=>exact absurd e x
    | some r=>exact .inl (by rw [hl.1 _ _ e];simp)
   ·exact .inr x,fun a v hv=>by
   rcases h.ro a v hv with x | x | x
   ·exact .inl (hl.2.1 _ _ x)
   ·refine .inr (.inl ?_)
    cases e:S0.own a.block with
    | none=>exact absurd e x
    | some r=>rw [hl.1 _ _ e];simp
   ·exact .inr (.inr x)⟩
theorem AWP.lo {P:Program} {N:Nat} {c:Code} {Q:Exit→Env→Mem→Prop} {E:Env} {S:Mem} (S':Mem) (hl:S'.Lo S) (h:AWP P N c Q E S'):AWP P N c Q E S:=fun a w hg hv =>
 wp_mono (h a w hg (hv.lo hl)) fun _ _ _ ⟨E1,S1,k,g,s⟩=>⟨E1,S1,k,g,s.loL hl⟩
theorem ACall.lose {P:Program} {f:FuncId} {args:Array Value} {S:Mem} {R R':Value→Mem→Prop} (h:ACall P f args S R) (k:∀ v S',R v S' → ∃ S'',S''.Lo S'∧R' v S''):ACall P f args S R':=fun w hv =>
 (h w hv).mono fun e w' ⟨v,S',he,hR,s⟩=>let ⟨S'',h1,h2⟩:=k v S' hR;⟨v,S'',he,h2,s.lo h1⟩
theorem ACall.over {P:Program} {f:FuncId} {args:Array Value} {S T:Mem} {R:Value→Mem→Prop} (h:ACall P f args S R) (hl:S.Less T) :
  ACall P f args T fun v T'=>∃ S',R v S'∧S'.Less T' ∧ ∀ k r,S.own k=none→T.own k=some r→T'.own k=some r∧S'.own k=none:=fun w hv=>by
 classical
 refine (h w (hv.less hl)).mono fun e w' ⟨v,S',he,hR,st⟩=>?_
 have hro:∀ a u,S.ro a=some u→T.ro a=some u:=fun a u hu=>by rw [← hl.2];exact hu
 have hno:∀ k r,S.own k=none→T.own k=some r→S'.own k=none:=fun k r h1 h2=>by
  cases e0:S'.own k with
  | none=>rfl
  | some r0 =>
   rcases st.dom k (by rw [e0];simp) with x | x
   ·exact absurd h1 x
   ·have:=hv.lt h2;omega
 have hso:∀ k,S.own k≠none→T.own k≠none:=fun k hk=>by
  cases e0:S.own k with
  | none=>exact absurd e0 hk
  | some r=>rw [hl.1 k r e0];simp
 have hra:∀ a u,S'.ro a=some u→S.own a.block=none→T.own a.block=none:=fun a u hu hn=>by
  cases e0:T.own a.block with
  | none=>rfl
  | some r =>
   rcases st.ro a u hu with x | x | x
   ·have:=(hv.ro a u (hro a u x)).2;rw [e0] at this;exact this
   ·exact absurd hn x
   ·have:=hv.lt e0;omega
 let T':Mem:=⟨fun k=>if S.own k=none∧T.own k≠none then T.own k else S'.own k,S'.ro⟩
 have hT:∀ k,T'.own k=if S.own k=none∧T.own k≠none then T.own k else S'.own k:=fun _=>rfl
 have hT0:∀ a u,S'.ro a=some u→T'.own a.block=none:=fun a u hu=>by
  rw [hT]
  split
  ·rename_i x;exact hra a u hu x.1
  ·exact (st.view.ro a u hu).2
 refine ⟨v,T',he,⟨S',hR,⟨fun k r hk=>?_,rfl⟩,fun k r h1 h2=>⟨by rw [hT,if_pos ⟨h1,by rw [h2];simp⟩];exact h2,hno k r h1 h2⟩⟩,⟨⟨fun k r hk=>?_,fun a u hu=>⟨(st.view.ro a u hu).1,hT0 a u hu⟩,fun g l hg=>?_⟩,st.os,st.tape,st.output,st.size,fun k hk hn=>?_,fun k hk=>?_,fun a u hu=>?_⟩⟩
 ·rw [hT]
  split
  ·rename_i x
   cases e0:T.own k with
   | none=>exact absurd e0 x.2
   | some r0=>rw [hno k r0 x.1 e0] at hk;cases hk
  ·exact hk
 ·rw [hT] at hk
  split at hk
  ·rename_i x
   rw [st.block k (hv.lt hk) x.1];exact hv.own k r hk
  ·exact st.view.own k r hk
 ·obtain ⟨_,⟨u,hu⟩,h3⟩:=st.view.fz g l hg
  exact ⟨hT0 _ u hu,⟨u,hu⟩,h3⟩
 ·refine st.block k hk ?_
  cases e0:S.own k with
  | none=>rfl
  | some r=>have:=hl.1 k r e0;rw [hn] at this;cases this
 ·rw [hT] at hk
  split at hk
  ·exact .inl hk
  ·rcases st.dom k hk with x | x
   ·exact .inl (hso k x)
   ·exact .inr x
 ·rcases st.ro a u hu with x | x | x
  ·exact .inl (hro a u x)
  ·exact .inr (.inl (hso _ x))
  ·exact .inr (.inr x)
theorem zap {S T:Mem} {b:Nat} {r:Blk} (h:S.Less T) (hn:S.own b=none):S.Less (T.set b r) :=
 ⟨fun k r' hk=>by rw [Mem.own_set_other _ _ (fun e=>by rw [e,hn] at hk;cases hk)];exact h.1 k r' hk,h.2⟩
theorem ACall.seen {P:Program} {f:FuncId} {args:Array Value} {S:Mem} {R:Value→Mem→Prop} {p:Prop} (hp:∀ w,View S w→p) (h:p→ACall P f args S R):ACall P f args S R:=fun w hv=>h (hp w hv) w hv
def Mem.fr (S:Mem) (g:Nat) (l:List UInt8):Mem:=⟨S.own,⟨fun a=>if a.block=g then (if a.spot.isSome then none else (cellsB l)[a.off]?) else S.ro a,fun k=>if k=g then some l else S.ro.z k⟩⟩
theorem Mem.lo_fr {S:Mem} {g:Nat} {l:List UInt8} (hf:Fresh S g) (hz:S.ro.z g=none):S.Lo (S.fr g l) :=
 ⟨fun b r h=>h,fun a v h=>by
  show (if a.block=g then _ else S.ro a)=some v
  rw [if_neg (hf.2 a v h)];exact h,fun k x h=>by
  have hk:k≠g:=fun e=>by rw [e,hz] at h;cases h
  refine ⟨?_,fun ⟨v,hv⟩=>⟨v,?_⟩⟩
  ·show (if k=g then some l else S.ro.z k)=some x
   rw [if_neg hk];exact h
  ·change (if k=g then _ else S.ro ⟨k,0,none⟩)=some v at hv
   rw [if_neg hk] at hv;exact hv⟩
theorem Mem.z_none {S:Mem} {w:World} (hv:View S w) {g:Nat} {r:Blk} (hb:S.own g=some r):S.ro.z g=none:=by
 cases e:S.ro.z g with
 | none=>rfl
 | some l=>have:=(hv.fz g l e).1;rw [hb] at this;cases this
theorem Mem.lo_fr_set {S:Mem} {g b:Nat} {l:List UInt8} {r:Blk} (hf:Fresh S g) (hz:S.ro.z g=none) (hb:Fresh S b) (hne:b≠g):S.Lo ((S.fr g l).set b r) :=
 (Mem.lo_fr hf hz).trans ⟨fun k r' h=>by
  by_cases e:k=b
  ·subst e;have:=hb.1;rw [show (S.fr g l).own k=S.own k from rfl,this] at h;cases h
  ·rw [Mem.own_set_other _ _ e];exact h,fun a v h=>h,fun k x h=>⟨h,id⟩⟩
section
variable {P:Program} {N:Nat} {ops:Array Oper} {E:Env} {S:Mem} {K:Env→Mem→Prop}
variable {dst:Option Nat} {ty:TypeId} {pos:String} {aft:Array Edge} {gd:Option (Nat × Bool)}
theorem Calm.sliceData {x:Operand} {a:Option Addr} {n c:Nat} {ats:Array TypeId} (hx:ev E x=some (.slice a n c)) (hc:a=none∨c≠0):ACalm P N ⟨dst,.call ⟨.builtin .unsafeSliceData,#[x],ats⟩,ty,pos,aft,gd⟩ E S (.pointer a):=fun k w g hv=>by
 have h:(Builtin.unsafeSliceData_ ats ty #[.slice a n c]).run P w = .ok (.pointer a) w:=by
  cases a with
  | none=>exact Lib.run_unsafeSliceData_nil _ _ _ _ _
  | some a=>exact Lib.run_unsafeSliceData_row _ _ _ _ _ _ (hc.resolve_left (fun h=>by cases h))
 simp [execOp,resolve,invoke,builtin,g.ev hx,h]
theorem zb9 {w:World} {g n k:Nat} (h:k≠g):(w.freeze ⟨g,0,none⟩ n).heap[k]?=w.heap[k]?:=by
 unfold World.freeze
 split
 ·rfl
 ·simp only [Array.getElem?_modify]
  rw [if_neg (Ne.symm h)]
theorem zmf {w:World} {g n:Nat} {cur:Array Value} {T:TypeId} {fz:Nat × Nat} (h:w.heap[g]?=some (.cells cur T fz)) (hn:n≠0):∃ hi,n≤hi∧(w.freeze ⟨g,0,none⟩ n).heap[g]?=some (.cells cur T (0,hi)):=by
 obtain ⟨lo,hi⟩:=fz
 unfold World.freeze
 rw [if_neg hn]
 simp only [Array.getElem?_modify,h,if_true,Option.map_some]
 by_cases e:lo=hi
 ·exact ⟨n,Nat.le_refl _,by simp [e]⟩
 ·exact ⟨max hi n,by omega,by simp [e]⟩
theorem ziD (w:World) (a:Addr) (n:Nat):(w.freeze a n).heap.size=w.heap.size:=by
 unfold World.freeze;split <;> simp
theorem ziE (w:World) (a:Addr) (n:Nat):(w.freeze a n).os=w.os∧(w.freeze a n).tape=w.tape∧(w.freeze a n).output=w.output:=by
 unfold World.freeze;split <;> exact ⟨rfl,rfl,rfl⟩
theorem zhn {w:World} {g n hi:Nat} {cur:Array Value} {T:TypeId} (h:w.heap[g]?=some (.cells cur T (0,hi))) (hn:n≤hi):w.freeze ⟨g,0,none⟩ n=w:=by
 unfold World.freeze
 by_cases e:n=0
 ·rw [if_pos e]
 ·rw [if_neg e]
  have hh:(w.heap.modify g fun o=>match o with
   | .cells c elem (lo,hi)=>.cells c elem (if lo == hi then (0,0+n) else (min lo 0,max hi (0+n)))
   | o=>o)=w.heap:=by
   apply Array.ext_getElem?
   intro i
   rw [Array.getElem?_modify]
   by_cases hi':g=i
   ·subst hi'
    rw [if_pos rfl,h]
    simp only [Option.map_some]
    have h0:((0:Nat) == hi)=false:=by simp;omega
    rw [h0]
    simp
    omega
   ·rw [if_neg hi']
  exact congrArg (fun h=>{ w with heap:=h }) hh
theorem Step.fr {w:World} {g room:Nat} {l:List UInt8} (hv:View S w) (hb:S.own g=some ⟨5,cellsB l,room⟩) (h0:l ≠ []):Step S w ((S.del g).fr g l) (w.freeze ⟨g,0,none⟩ l.length):=by
 have hl:l.length≠0:=by simpa using h0
 obtain ⟨cur,fz,e1,e2,e3,e4⟩:=hv.own g _ hb
 obtain ⟨hi,q1,q2⟩:=zmf e1 hl
 obtain ⟨r1,r2,r3⟩:=ziE w ⟨g,0,none⟩ l.length
 have hd:∀ k,((S.del g).fr g l).own k=if k=g then none else S.own k:=fun k=>rfl
 have hcell:∀ a v,(if a.block=g then (if a.spot.isSome then none else (cellsB l)[a.off]?) else S.ro a)=some v→(w.freeze ⟨g,0,none⟩ l.length).cell? a=some v:=by
  intro a v h
  by_cases e:a.block=g
  ·rw [if_pos e] at h
   split at h
   ·cases h
   ·rename_i hs
    have:=zbU e2 h
    unfold World.cell?
    rw [e,q2]
    simp only [hs]
    simpa using this
  ·rw [if_neg e] at h
   have:=(hv.ro a v h).1
   unfold World.cell? at this ⊢
   rw [zb9 e];exact this
 refine ⟨⟨fun k r hk=>?_,fun a v h=>⟨hcell a v h,?_⟩,fun k x hk=>?_⟩,r1,r2,r3,by rw [ziD];exact Nat.le_refl _,fun k hk hn=>zb9 (fun e=>by rw [e,hb] at hn;cases hn),fun k hk=>?_,fun a v h=>?_⟩
 ·rw [hd] at hk
  by_cases e:k=g
  ·rw [if_pos e] at hk;cases hk
  ·rw [if_neg e] at hk
   rw [zb9 e];exact hv.own k r hk
 ·rw [hd]
  by_cases e:a.block=g
  ·rw [if_pos e]
  ·rw [if_neg e]
   change (if a.block=g then _ else S.ro a)=some v at h
   rw [if_neg e] at h
   exact (hv.ro a v h).2
 ·change (if k=g then some l else S.ro.z k)=some x at hk
  rw [hd]
  by_cases e:k=g
  ·rw [if_pos e] at hk ⊢
   obtain rfl:l=x:=Option.some.inj hk
   subst e
   refine ⟨rfl,?_,cur,hi,q2,q1,?_⟩
   ·cases l with
    | nil=>exact absurd rfl h0
    | cons c l=>exact ⟨_,show (if k=k then (if (none:Option _).isSome then none else (cellsB (c :: l))[0]?) else _)=some _ from by rw [if_pos rfl];rfl⟩
   ·exact e2
  ·rw [if_neg e] at hk ⊢
   obtain ⟨z1,⟨v,z2⟩,z3⟩:=hv.fz k x hk
   exact ⟨z1,⟨v,show (if k=g then _ else S.ro ⟨k,0,none⟩)=some v from by rw [if_neg e];exact z2⟩,z3.of_block (zb9 e)⟩
 ·rw [hd] at hk
  by_cases e:k=g
  ·rw [if_pos e] at hk;exact absurd rfl hk
  ·rw [if_neg e] at hk;exact .inl hk
 ·change (if a.block=g then _ else S.ro a)=some v at h
  by_cases e:a.block=g
  ·exact .inr (.inl (by rw [e,hb];simp))
  ·rw [if_neg e] at h;exact .inl h
theorem zqk {w:World} {g:Nat} {l:List UInt8} {pt it:TypeId} {cur:Array Value} {fz:Nat × Nat} (hpt:P.underlying pt=some (.pointer 5)) (hc:P.cellsOf 5=1) (e1:w.heap[g]?=some (.cells cur 5 fz)) (e2:cellsB l <+: cur.toList) (h0:l ≠ []) (h63:l.length≤9223372036854775807) :
  (Builtin.unsafeString_ #[pt,it] ty #[.pointer (some ⟨g,0,none⟩),.int .i64 l.length]).run P w = .ok (.string (bs l)) (w.freeze ⟨g,0,none⟩ l.length):=by
 refine Lib.run_unsafeString_row w pt it ty _ hpt hc g cur.size (by simp [World.shape?,e1]) l h0 ?_ h63 fun j x hx=>?_
 ·have:=e2.length_le
  rw [zav] at this
  simpa using this
 ·have:=zbU e2 (j:=j) (v:=.int .u8 (nb x)) (by simp [cellsB,hx])
  rw [zaz]
  unfold World.cell?
  simp only [e1,Nat.zero_add]
  simpa [nb] using this
theorem ARun.usOwn {os:List Oper} {x y:Operand} {g room d:Nat} {l:List UInt8} {pt it:TypeId} (hn:d<N) (hpt:P.underlying pt=some (.pointer 5)) (hc:P.cellsOf 5=1) (hx:ev E x=some (.pointer (some ⟨g,0,none⟩))) (hy:ev E y=some (.int .i64 (l.length:Int))) (hb:S.own g=some ⟨5,cellsB l,room⟩) (h0:l ≠ []) (h63:l.length≤9223372036854775807)
  (h:ARun P N ops os K ((d,.string (bs l)) :: E) ((S.del g).fr g l)):ARun P N ops (⟨some d,.call ⟨.builtin .unsafeString,#[x,y],#[pt,it]⟩,ty,pos,aft,none⟩ :: os) K E S:=fun a w g' hv=>by
 rw [if_pos (by simp [Region.wanted])]
 unfold Oper.wp
 obtain ⟨cur,fz,e1,e2,e3,e4⟩:=hv.own g _ hb
 have hr:=zqk (ty:=ty) (it:=it) (w:=w) hpt hc e1 e2 h0 h63
 have hex:(execOp a.eval ⟨some d,.call ⟨.builtin .unsafeString,#[x,y],#[pt,it]⟩,ty,pos,aft,none⟩).run P w = .ok (.value (.string (bs l))) (w.freeze ⟨g,0,none⟩ l.length):=by
  simp [execOp,resolve,invoke,builtin,g'.ev hx,g'.ev hy,hr]
 rw [hex]
 exact ⟨_,_,h,g'.put hn _,Step.fr hv hb h0⟩
theorem ARun.usRo {os:List Oper} {x y:Operand} {g d:Nat} {l:List UInt8} {pt it:TypeId} (hn:d<N) (hpt:P.underlying pt=some (.pointer 5)) (hc:P.cellsOf 5=1) (hx:ev E x=some (.pointer (some ⟨g,0,none⟩))) (hy:ev E y=some (.int .i64 (l.length:Int))) (hb:S.ro.z g=some l) (h0:l ≠ []) (h63:l.length≤9223372036854775807)
  (h:ARun P N ops os K ((d,.string (bs l)) :: E) S):ARun P N ops (⟨some d,.call ⟨.builtin .unsafeString,#[x,y],#[pt,it]⟩,ty,pos,aft,none⟩ :: os) K E S:=fun a w g' hv=>by
 rw [if_pos (by simp [Region.wanted])]
 unfold Oper.wp
 obtain ⟨_,_,cur,hi,e1,e3,e2⟩:=hv.fz g l hb
 have hr:=zqk (ty:=ty) (it:=it) (w:=w) hpt hc e1 e2 h0 h63
 rw [zhn e1 e3] at hr
 have hex:(execOp a.eval ⟨some d,.call ⟨.builtin .unsafeString,#[x,y],#[pt,it]⟩,ty,pos,aft,none⟩).run P w = .ok (.value (.string (bs l))) w:=by
  simp [execOp,resolve,invoke,builtin,g'.ev hx,g'.ev hy,hr]
 rw [hex]
 exact ⟨_,_,h,g'.put hn _,Step.refl hv⟩
theorem ARun.usNil {os:List Oper} {x y:Operand} {p:Option Addr} {d:Nat} {pt it:TypeId} (hn:d<N) (hx:ev E x=some (.pointer p)) (hy:ev E y=some (.int .i64 0))
  (h:ARun P N ops os K ((d,.string (bs [])) :: E) S):ARun P N ops (⟨some d,.call ⟨.builtin .unsafeString,#[x,y],#[pt,it]⟩,ty,pos,aft,none⟩ :: os) K E S:=fun a w g' hv=>by
 rw [if_pos (by simp [Region.wanted])]
 unfold Oper.wp
 have hr:=Lib.run_unsafeString_none (P:=P) w pt it ty p
 have hex:(execOp a.eval ⟨some d,.call ⟨.builtin .unsafeString,#[x,y],#[pt,it]⟩,ty,pos,aft,none⟩).run P w = .ok (.value (.string (bs []))) w:=by
  simp [execOp,resolve,invoke,builtin,g'.ev hx,g'.ev hy,hr];rfl
 rw [hex]
 exact ⟨_,_,h,g'.put hn _,Step.refl hv⟩
/-! ### Texts that are appended -/
theorem zdx (s:ByteArray):Lib.strCells s=cellsB s.data.toList:=rfl
theorem ARun.appendRunS {os:List Oper} {T U e:TypeId} {y:Nat} {z:Value} {x1 x2:Operand} {b k c:Nat} {xs:List Value} {s:ByteArray} {d:Nat} (hn:d<N) (hT:slT P T=some (e,1,y,[z])) (hU:strT P U=true)
  (hx:ev E x1=some (.slice (some ⟨b,0,none⟩) k c)) (hb:S.own b=some ⟨e,xs,c⟩) (hxs:xs.length=k) (hy:ev E x2=some (.string s)) (hfit:(k+s.size)*y≤140737488355328) (h63:k+s.size≤9223372036854775807)
  (h:∀ b' c',Fresh (S.del b) b'→k+s.size≤c'→ARun P N ops os K ((d,.slice (some ⟨b',0,none⟩) (k+s.size) c') :: E) ((S.del b).set b' ⟨e,xs ++ cellsB s.data.toList,c'⟩)) :
  ARun P N ops (⟨some d,.call ⟨.builtin .append,#[x1,x2],#[T,U]⟩,ty,pos,aft,none⟩ :: os) K E S:=fun a w g hv=>by
 rw [if_pos (by simp [Region.wanted])]
 obtain ⟨hu,i,v,e1,e2,hi1,rfl,hv1⟩:=zaH hT
 have hz':v.cells.size=1:=by
  have:=congrArg List.length hv1
  simpa using this
 have hlc:(cellsB s.data.toList).length=s.size:=by rw [zav];exact (Array.length_toList (xs:=s.data))
 have hex:(execOp a.eval ⟨some d,.call ⟨.builtin .append,#[x1,x2],#[T,U]⟩,ty,pos,aft,none⟩).run P w=((Builtin.append_ #[T,U] ty #[.slice (some ⟨b,0,none⟩) k c,.string s]).run P w).andThen fun v w'=>.ok (.value v) w':=by
  simp [execOp,resolve,invoke,builtin,g.ev hx,g.ev hy]
 unfold Oper.wp
 rw [hex]
 by_cases hroom:k+s.size≤c
 ·obtain ⟨q1,q2⟩:=za5 (P:=P) hv hb (vs:=cellsB s.data.toList) (o:=k) (by simp only;omega) (.inr (by simp only [hlc];omega)) (fun u hu=>by
   unfold cellsB at hu
   obtain ⟨c,_,rfl⟩:=List.mem_map.1 hu
   rfl)
  have hf:=Lib.run_firstCells_string (P:=P) w 1 s
  have hr:(Builtin.append_ #[T,U] ty #[.slice (some ⟨b,0,none⟩) k c,.string s]).run P w = .ok (.slice (some ⟨b,0,none⟩) (k+s.size) c) (w.setCells b k (cellsB s.data.toList)):=by
   rw [zdx] at hf
   simp [Builtin.append_,run_underlying hu,run_underlying (zau hU),sizeOf,typeInfo,e1,hi1,Builtin.lenOf,hroom,hf,zaz,q1]
  rw [hr]
  have hsp:spl xs k (cellsB s.data.toList)=xs ++ cellsB s.data.toList:=by
   unfold spl
   rw [List.take_of_length_le (by omega),List.drop_of_length_le (by omega),List.append_nil]
  simp only [hsp] at q2
  refine ⟨_,_,h b c (zeR (fun a v ha=>(hv.ro a v ha).2) hb) hroom,g.put hn _,?_⟩
  rw [del_set];exact q2
 ·have hfit':Builtin.nextslicecap (k+s.size) c*i.bytes≤281474976710656:=growslice_fits (by omega) hfit
  have hr:=Lib.run_append_grow_string (P:=P) w T U ty e i v hu (zau hU) e1 e2 ⟨b,0,none⟩ k c xs (by rw [hi1,hxs,Nat.mul_one]) (fun j u hj=>hv.rd (by rw [zaz,Nat.zero_add,zdf hb];exact hj)) s (by omega) (by omega) hfit'
  rw [hr,zdx]
  have hge:=grownCap_ge w (k+s.size) c e
  have hvd:View S w.drew:=hv.drawn _
  have hst:=Step.allocP hvd e (xs.toArray ++ (cellsB s.data.toList).toArray ++ Builtin.zeroCells v.cells (grownCap w (k+s.size) c e-(k+s.size))) (xs ++ cellsB s.data.toList) (grownCap w (k+s.size) c e) (by simp [List.append_assoc]) (by
   simp only [Array.size_append,List.size_toArray,size_zeroCells,hz',hxs,hlc]
   omega)
  refine ⟨_,_,h w.heap.size (grownCap w (k+s.size) c e) (hv.freshAt.less (Less.del S b)) hge,g.put hn _,?_⟩
  exact ((Step.drawn hv _).trans hst).less (zb5 S b _ _)
theorem ARun.appendNilS {os:List Oper} {T U e:TypeId} {y:Nat} {z:Value} {x1 x2:Operand} {s:ByteArray} {d:Nat} (hn:d<N) (hT:slT P T=some (e,1,y,[z])) (hU:strT P U=true)
  (hx:ev E x1=some (.slice none 0 0)) (hy:ev E x2=some (.string s)) (h0:0<s.size) (hfit:s.size*y≤140737488355328) (h63:s.size≤9223372036854775807)
  (h:∀ b' c',Fresh S b'→s.size≤c'→ARun P N ops os K ((d,.slice (some ⟨b',0,none⟩) s.size c') :: E) (S.set b' ⟨e,cellsB s.data.toList,c'⟩)) :
  ARun P N ops (⟨some d,.call ⟨.builtin .append,#[x1,x2],#[T,U]⟩,ty,pos,aft,none⟩ :: os) K E S:=fun a w g hv=>by
 rw [if_pos (by simp [Region.wanted])]
 obtain ⟨hu,i,v,e1,e2,hi1,rfl,hv1⟩:=zaH hT
 have hz':v.cells.size=1:=by
  have:=congrArg List.length hv1
  simpa using this
 have hlc:(cellsB s.data.toList).length=s.size:=by rw [zav];exact (Array.length_toList (xs:=s.data))
 have hex:(execOp a.eval ⟨some d,.call ⟨.builtin .append,#[x1,x2],#[T,U]⟩,ty,pos,aft,none⟩).run P w=((Builtin.append_ #[T,U] ty #[.slice none 0 0,.string s]).run P w).andThen fun v w'=>.ok (.value v) w':=by
  simp [execOp,resolve,invoke,builtin,g.ev hx,g.ev hy]
 unfold Oper.wp
 rw [hex,run_append_nil_string (P:=P) w T U ty e i v hu (zau hU) e1 e2 s h0 (by omega) (by omega)]
 have hge:=grownCap_ge w s.size 0 e
 have hvd:View S w.drew:=hv.drawn _
 have hst:=Step.allocP hvd e (s.data.map (fun b=>Value.int .u8 b.toNat) ++ Builtin.zeroCells v.cells (grownCap w s.size 0 e-s.size)) (cellsB s.data.toList) (grownCap w s.size 0 e) (by simp [cellsB,nb]) (by
  have:s.data.size=s.size:=rfl
  simp only [Array.size_append,Array.size_map,size_zeroCells,hz',this]
  omega)
 exact ⟨_,_,h w.heap.size (grownCap w s.size 0 e) hv.freshAt hge,g.put hn _,(Step.drawn hv _).trans hst⟩
theorem ARun.appendNoneS {os:List Oper} {T U e:TypeId} {y:Nat} {z:Value} {x1 x2:Operand} {A:Option Addr} {k c d:Nat} {s:ByteArray} (hn:d<N) (hT:slT P T=some (e,1,y,[z])) (hU:strT P U=true) (hk:k≤c)
  (hx:ev E x1=some (.slice A k c)) (hy:ev E x2=some (.string s)) (h0:s.size=0) (h:ARun P N ops os K ((d,.slice A k c) :: E) S) :
  ARun P N ops (⟨some d,.call ⟨.builtin .append,#[x1,x2],#[T,U]⟩,ty,pos,aft,none⟩ :: os) K E S:=fun a w g hv=>by
 rw [if_pos (by simp [Region.wanted])]
 obtain ⟨hu,i,v,e1,e2,hi1,rfl,hv1⟩:=zaH hT
 have hr:(execOp a.eval ⟨some d,.call ⟨.builtin .append,#[x1,x2],#[T,U]⟩,ty,pos,aft,none⟩).run P w = .ok (.value (.slice A k c)) w:=by
  have hf:=Lib.run_firstCells_string (P:=P) w 1 s
  have hs:Lib.strCells s = []:=by rw [zdx];exact List.eq_nil_of_length_eq_zero (by rw [zav,Array.length_toList];exact h0)
  rw [hs,h0] at hf
  cases A with
  | none=>simp [execOp,resolve,invoke,builtin,g.ev hx,g.ev hy,Builtin.append_,run_underlying hu,run_underlying (zau hU),sizeOf,typeInfo,e1,hi1,Builtin.lenOf,h0,hk,hf]
  | some A=>simp [execOp,resolve,invoke,builtin,g.ev hx,g.ev hy,Builtin.append_,run_underlying hu,run_underlying (zau hU),sizeOf,typeInfo,e1,hi1,Builtin.lenOf,h0,hk,hf,storeCells]
 unfold Oper.wp
 rw [hr]
 exact ⟨_,_,h,g.put hn _,Step.refl hv⟩
end
end Mv
open Go.RowKit
namespace Mv
/-! ### Pointers that go through unsafe.Pointer -/
theorem zkz {P:Program} {fits:TypeId→Bool} {e:TypeId} {n:Nat} (hc:P.cellsOf e≠0) (hn:1≤n) (hf:fits e=true):∀ d,0<d→rowAt P fits d e n 0 1=true:=fun d hd=>by
 cases d with
 | zero=>omega
 | succ d =>
  unfold rowAt
  simp only
  rw [if_neg hc]
  simp [hf,hn]
theorem ziF {P:Program} {e:TypeId} {n:Nat} (hd:0<P.depth) (hc:P.cellsOf e≠0) (hn:1≤n) (hf:sameLayout P P.depth e e=true):∀ d,0<d→liesAt P d e n 0 e 1=true:=fun d h=>by
 cases d with
 | zero=>omega
 | succ d =>
  unfold liesAt
  rw [zkz (fits:=fun x=>sameLayout P P.depth x e) hc hn hf _ hd]
  rfl
section
variable {P:Program} {N:Nat} {ops:Array Oper} {E:Env} {S:Mem} {K:Env→Mem→Prop}
variable {dst:Option Nat} {ty:TypeId} {pos:String} {aft:Array Edge} {gd:Option (Nat × Bool)}
theorem zho {S:Mem} {w:World} {b:Nat} {r:Blk} (hv:View S w) (hb:S.own b=some r):∃ n,r.cells.length≤n∧w.shape? b=some (r.elem,n):=by
 obtain ⟨cur,fz,e1,e2,_⟩:=hv.own b r hb
 exact ⟨cur.size,by have:=e2.length_le;simpa using this,by simp [World.shape?,e1]⟩
theorem Calm.toUnsafe {s t e:TypeId} {x:Operand} {j:TypeInfo} {b:Nat} {r:Blk} (hs:P.underlying s=some (.pointer e)) (hd:P.underlying t=some .unsafePointer) (ht:P.info? e=some j) (hj:j.size≠0) (hx:ev E x=some (.pointer (some ⟨b,0,none⟩))) (hb:S.own b=some r) (hr:0<r.cells.length) :
  ACalm P N ⟨dst,.convert s t x,ty,pos,aft,gd⟩ E S (.pointer (some ⟨b,0,none⟩)):=fun a w g hv=>by
 obtain ⟨n,h1,h2⟩:=zho hv hb
 have h:=Lib.run_to_unsafe (P:=P) (w:=w) ⟨b,0,none⟩ hs hd ht hj h2 (by simp only;omega)
 simp only [execOp,g.ev hx]
 rw [Sem.run_bind,h];rfl
theorem Calm.fromUnsafe {s t e:TypeId} {x:Operand} {j:TypeInfo} {b:Nat} {cs:List Value} {m:Nat} (hs:P.underlying s=some .unsafePointer) (hd:P.underlying t=some (.pointer e)) (ht:P.info? e=some j) (h0:0<P.depth) (hc:P.cellsOf e=2) (hf:sameLayout P P.depth e e=true) (hx:ev E x=some (.pointer (some ⟨b,0,none⟩))) (hb:S.own b=some ⟨e,cs,m⟩) (hr:2≤cs.length) :
  ACalm P N ⟨dst,.convert s t x,ty,pos,aft,gd⟩ E S (.pointer (some ⟨b,0,none⟩)):=fun a w g hv=>by
 obtain ⟨n,h1,h2⟩:=zho hv hb
 have h1:cs.length≤n:=h1
 have h:=Lib.run_from_unsafe (P:=P) (w:=w) ⟨b,0,none⟩ hs hd ht h2 (ziF h0 (by rw [hc];decide) (by rw [hc];omega) hf _ h0)
 simp only [execOp,g.ev hx]
 rw [Sem.run_bind,h];rfl
theorem ARun.extSame {os : List Oper} {f : FuncId} {fn : Func} {x : Operand} {v : Value} {ats : Array TypeId} {d : Nat} (hn : d < N) (hf : P.funcs[f]? = some fn) (hname : (fn.name == "runtime.NumGoroutine") = false) (hb : fn.body.isNone = true)
  (hx':Extern.findNext fn=none) (he:Extern.find fn=some Extern.AbiNoEscape.same) (hx:ev E x=some v)
  (h:ARun P N ops os K ((d,v) :: E) S):ARun P N ops (⟨some d,.call ⟨.value (.func f),#[x],ats⟩,ty,pos,aft,none⟩ :: os) K E S:=fun a w g hv=>by
 rw [if_pos (by simp [Region.wanted])]
 unfold Oper.wp
 have hc:execOp a.eval ⟨some d,.call ⟨.value (.func f),#[x],ats⟩,ty,pos,aft,none⟩=callFunc f #[v]:=by
  rw [execOp_call_go]
  simp [g.ev hx]
 rw [hc,run_callFunc_extern hf hname hb hx' he,Lib.run_noEscape]
 exact ⟨_,_,h,g.put hn _,Step.refl hv⟩
theorem zdy {t e:TypeId} {x y:Operand} {p:Option Addr} (h:P.underlying t=some (.pointer e)):Bin P .eql t x y (.pointer p) (.pointer none) (.bool p.isNone):=fun w=>by
 have hh:∀ d:Nat,(Op.equalIn (d+1) t (.pointer p) (.pointer none)).run P w = .ok p.isNone w:=fun d=>by
  cases p <;> simp [Op.equalIn,run_underlying h]
 have:(binOp .eql t (.pointer p) (.pointer none)).run P w = .ok (.bool p.isNone) w:=by
  simp only [binOp]
  simp [Op.equal,Op.maxDepth,hh 9999]
 simpa [eqGuard] using this
theorem zex {t e:TypeId} {x y:Operand} {a:Addr} {j:TypeInfo} (h:P.underlying t=some (.pointer e)) (hj:P.info? e=some j):Bin P .neq t x y (.pointer (some a)) (.pointer (some a)) (.bool false):=fun w=>by
 have:=Lib.run_neq_ptr_same (P:=P) (w:=w) a h hj
 simpa [eqGuard] using this
end
end Mv
end
section
open Go.RowKit
open Mv
set_option maxRecDepth 4000
namespace Bl
instance : TGo Tryz.prog 37 := ⟨by kernel_rfl⟩
instance : TGo Tryz.prog 14 := ⟨by kernel_rfl⟩
instance : TGo Tryz.prog 16 := ⟨by kernel_rfl⟩
def blk (p v:Value):Blk:=⟨54,[p,v],2⟩
def self (b:Nat):Value:=.pointer (some ⟨b,0,none⟩)
def M (S:Mem) (b:Nat) (p:Value) (o:Option (Nat × Nat)) (l:List UInt8):Mem:=(outM S o 5 (cellsB l)).set b (blk p (outV o l.length))
def R (S:Mem) (b:Nat) (l:List UInt8) (T:Mem):Prop:=∃ p o,(p = .pointer none∨p=self b)∧OkO S o l.length∧(∀ g c,o=some (g,c)→g≠b∧l ≠ [])∧T=M S b p o l
def F (S:Mem) (b:Nat) (l:List UInt8) (T:Mem):Prop:=∃ p,(l = []∧T=S.set b (blk p (.slice none 0 0)))∨(l ≠ [] ∧ ∃ g c,Fresh S g∧g≠b∧c≠0∧S.ro.z g=none∧T=(S.fr g l).set b (blk p (.slice (some ⟨g,0,none⟩) l.length c)))
theorem R.new (S:Mem) (b:Nat):R S b [] (S.set b (blk (.pointer none) (.slice none 0 0))):=⟨_,none,.inl rfl,⟨fun _=>rfl,fun _ _ h=>(by cases h)⟩,fun _ _ h=>(by cases h),rfl⟩
theorem R.less {S T:Mem} {b:Nat} {l:List UInt8} (hf:Fresh S b) (h:R S b l T):S.Less T:=by
 obtain ⟨p,o,_,ho,hne,rfl⟩:=h
 cases o with
 | none=>exact Mem.less_set _ _ _ hf.1
 | some q =>
  obtain ⟨g,c⟩:=q
  have hg:=(ho.own g c rfl).1
  exact (Mem.less_set S g _ hg.1).trans (Mem.less_set _ _ _ (by
   show (S.set g _).own b=none
   rw [Mem.own_set_other _ _ (hne g c rfl).1.symm];exact hf.1))
theorem F.lo {S T:Mem} {b:Nat} {l:List UInt8} (hf:Fresh S b) (h:F S b l T):S.Lo T:=by
 obtain ⟨p,⟨_,rfl⟩ | ⟨_,g,c,hg,hgb,_,hz,rfl⟩⟩:=h
 ·exact (Mem.less_set _ _ _ hf.1).lo
 ·exact Mem.lo_fr_set hg hz hf hgb.symm
theorem lies:sameLayout Tryz.prog Tryz.prog.depth 54 54=true:=by kernel_rfl
theorem deep:0<Tryz.prog.depth:=Nat.le_of_ble_eq_true (n:=1) (m:=Tryz.prog.depth) (by kernel_rfl)
theorem zs6:Tryz.prog.cellsOf 54=2:=by kernel_rfl
theorem zql:Tryz.prog.cellsOf 5=1:=by kernel_rfl
theorem inf:∃ j,Tryz.prog.info? 54=some j∧j.size≠0:=by
 have h:(Tryz.prog.info? 54).map (fun j=>j.size)=some 2:=by kernel_rfl
 obtain ⟨j,h1,h2⟩:=Option.map_eq_some_iff.1 h
 exact ⟨j,h1,by omega⟩
theorem ldB {P:Program} {N:Nat} {E:Env} {S:Mem} {dst:Option Nat} {T ty:TypeId} {pos:String} {aft:Array Edge} {gd:Option (Nat × Bool)} {x:Operand} {b:Nat} {p v v':Value} (hT:plainT P T=true) (hb:S.own b=some (blk p v)) (e:v=v') (hx:ev E x=some (.pointer (some ⟨b,1,none⟩)):=by exact rfl) :
  ACalm P N ⟨dst,.load T x,ty,pos,aft,gd⟩ E S v':=Calm.load hT hx (by unfold Mem.rd;rw [hb,← e];rfl)
theorem copyCheck (S:Mem) (b:Nat) (p v:Value) (hp:p = .pointer none∨p=self b) (hb:S.own b=some (blk p v)) :
  ACall Tryz.prog 37 #[self b] S fun r S'=>r = .tuple #[]∧S'=S.set b (blk (self b) v):=by
 obtain ⟨j,hj,hj0⟩:=inf
 unfold self blk at *
 rcases hp with rfl | rfl
 ·skip
  refine k_E1 (rs:=[]) 20 Tryz.func37 rfl rfl rfl ?_
  refine r6_ ?_
  refine rC (Calm.bin rfl rfl (zdy Tryz.underlying51)) ?_
  refine r2_ ?_
  refine cT_ ?_
  refine r3_ ?_
  refine rC (Calm.toUnsafe Tryz.underlying51 Tryz.underlying149 hj hj0 rfl hb (by simp)) ?_
  refine ARun.extSame (zab rfl) Tryz.func74 rfl rfl rfl rfl rfl ?_
  refine rC (Calm.fromUnsafe Tryz.underlying149 Tryz.underlying51 hj deep zs6 lies rfl hb (by simp)) ?_
  refine r4_ ?_
  refine ⟨_,_,rfl,zad,?_⟩
  exact ⟨rfl,rfl⟩
 ·skip
  refine k_E1 (rs:=[]) 20 Tryz.func37 rfl rfl rfl ?_
  refine r6_ ?_
  refine rC (Calm.bin rfl rfl (zdy Tryz.underlying51)) ?_
  refine r2_ ?_
  refine cF_ ?_
  refine r7_ ?_
  refine rC (Calm.bin rfl rfl (zex Tryz.underlying51 hj)) ?_
  refine r2_ ?_
  refine cF_ ?_
  refine s1_ ?_
  refine ⟨_,S,rfl,zad,?_⟩
  exact ⟨rfl,(Mem.set_same _ _ _ hb).symm⟩
theorem zq8 {S:Mem} {b b':Nat} {X X' Y:Blk} (hne:b≠b'):((S.set b X).set b' Y).set b X'=(S.set b' Y).set b X':=by
 unfold Mem.set;congr 1;funext k;by_cases h1:k=b <;> by_cases h2:k=b' <;> simp_all
theorem zq9 {S:Mem} {b b' g:Nat} {X X' Y Z:Blk} (hf:S.own g=none) (hg:g≠b):((((S.set g Z).set b X).del g).set b' Y).set b X'=(S.set b' Y).set b X':=by
 unfold Mem.set Mem.del;congr 1;funext k;by_cases h1:k=b <;> by_cases h2:k=b' <;> by_cases h3:k=g <;> simp_all
theorem zq_ {S:Mem} {b g:Nat} {X Z:Blk} {l:List UInt8} (hf:S.own g=none) (hg:g≠b):(((S.set g Z).set b X).del g).fr g l=(S.fr g l).set b X:=by
 unfold Mem.set Mem.del Mem.fr;congr 1;funext k;by_cases h1:k=b <;> by_cases h3:k=g <;> simp_all
theorem WriteString (S:Mem) (b:Nat) (l:List UInt8) (T:Mem) (s:ByteArray) (hf:Fresh S b) (h:R S b l T) (hsz:l.length+s.size≤140737488355328) :
  ACall Tryz.prog 14 #[self b,.string s] T fun r S'=>r = .tuple #[.int .i64 s.size,.nilIface]∧R S b (l ++ s.data.toList) S':=by
 obtain ⟨p,o,hp,ho,hne,rfl⟩:=h
 have hlen:s.data.toList.length=s.size:=Array.length_toList (xs:=s.data)
 have hcc:=copyCheck (M S b p o l) b p _ hp (Mem.own_set_same _ _ _)
 have hmm:(M S b p o l).set b (blk (self b) (outV o l.length))=M S b (self b) o l:=Mem.set_set _ _ _ _
 rw [hmm] at hcc
 have hby:(M S b (self b) o l).own b=some (blk (self b) (outV o l.length)):=Mem.own_set_same _ _ _
 by_cases h0:s.size=0
 ·have e0:s.data.toList = []:=List.eq_nil_of_length_eq_zero (by omega)
  obtain ⟨A,k,c,hov,hk⟩ : ∃ A k c,outV o l.length = .slice A k c∧k≤c:=by
   cases o with
   | none=>exact ⟨none,0,0,rfl,Nat.le_refl _⟩
   | some q=>exact ⟨_,_,_,rfl,(ho.own q.1 q.2 rfl).2⟩
  rw [e0,List.append_nil]
  refine k_E2 (rs:=[.tmp 4,.tmp 5]) 19 Tryz.func14 rfl rfl rfl ?_
  refine r9_ ?_
  refine ca_ rfl (hcc) ?_
  rintro _ S1 ⟨rfl,h1⟩
  rw [h1];clear h1 S1
  refine r8_ ?_
  refine rC ((ldB zaG hby hov)) ?_
  refine s1_ ?_
  refine ARun.appendNoneS (zab rfl) zaE zaA hk rfl rfl h0 ?_
  refine r2_ ?_
  refine ARun.store1 rfl rfl zc4 rfl hby (by show 1<2;decide) rfl ?_
  try simp only [k_ms,k_sz,k_ss,k_za,Nat.reduceAdd]
  refine r11_ ?_
  refine ⟨_,M S b (self b) o l,⟨_,_,rfl,⟨_,_,rfl,rfl,rfl⟩,rfl⟩,(by rw [show (M S b (self b) o l).set b _=M S b (self b) o l from Mem.set_same _ _ _ (by rw [hby,hov];rfl)];exact Mem.Less.refl _),?_⟩
  exact ⟨rfl,self b,o,.inr rfl,ho,hne,rfl⟩
 ·cases o with
  | none =>
   have hl0:l = []:=List.eq_nil_of_length_eq_zero (ho.nil rfl)
   subst hl0
   refine k_E2 (rs:=[.tmp 4,.tmp 5]) 19 Tryz.func14 rfl rfl rfl ?_
   refine r9_ ?_
   refine ca_ rfl (hcc) ?_
   rintro _ S1 ⟨rfl,h1⟩
   rw [h1];clear h1 S1
   refine r8_ ?_
   refine rC ((ldB zaG hby rfl)) ?_
   refine s1_ ?_
   refine ARun.appendNilS (zab rfl) zaE zaA rfl rfl (by omega) (by omega) (by omega) ?_
   intro b14 c14 f14 hc14
   have g14:Fresh S b14:=(zaa f14).1
   have hbb:b≠b14:=(zaa f14).2.symm
   refine r2_ ?_
   refine ARun.store1 rfl rfl zc4 rfl ((Mem.own_set_other _ _ hbb).trans hby) (by show 1<2;decide) rfl ?_
   try simp only [k_ms,k_sz,k_ss,k_za,Nat.reduceAdd]
   refine r2_ ?_
   refine k_v4 0 1 4 5 ?_
   refine r9_ ?_
   refine ⟨_,M S b (self b) (some (b14,c14)) s.data.toList,⟨_,_,rfl,⟨_,_,rfl,rfl,rfl⟩,rfl⟩,(by unfold M;rw [zq8 hbb,hlen.symm];exact Mem.Less.refl _),?_⟩
   exact ⟨rfl,self b,some (b14,c14),.inr rfl,⟨fun h=>(by cases h),fun g c e=>(by cases e;exact ⟨g14,by simp only [List.nil_append];omega⟩)⟩,fun g c e=>(by cases e;exact ⟨hbb.symm,fun e=>by simp only [List.nil_append] at e;rw [e] at hlen;simp at hlen;omega⟩),rfl⟩
  | some q =>
   obtain ⟨g,c⟩:=q
   have hgb:=(hne g c rfl).1
   have hg:=(ho.own g c rfl)
   have hog:(M S b (self b) (some (g,c)) l).own g=some ⟨5,cellsB l,c⟩:=(Mem.own_set_other _ _ hgb).trans (Mem.own_set_same _ _ _)
   refine k_E2 (rs:=[.tmp 4,.tmp 5]) 19 Tryz.func14 rfl rfl rfl ?_
   refine r9_ ?_
   refine ca_ rfl (hcc) ?_
   rintro _ S1 ⟨rfl,h1⟩
   rw [h1];clear h1 S1
   refine r8_ ?_
   refine rC ((ldB zaG hby rfl)) ?_
   refine s1_ ?_
   refine ARun.appendRunS (zab rfl) zaE zaA rfl hog (zav l) rfl (by omega) (by omega) ?_
   intro b14 c14 f14 hc14
   have hby2:((M S b (self b) (some (g,c)) l).del g).own b=some (blk (self b) (outV (some (g,c)) l.length)):=(Mem.own_del_other _ hgb.symm).trans hby
   have hbb:b≠b14:=fun e=>by rw [← e] at f14;have:=f14.1;rw [hby2] at this;cases this
   have hd14:S.own b14=none:=by
    by_cases e:b14=g
    ·rw [e];exact hg.1.1
    ·have:=f14.1
     rw [Mem.own_del_other _ e] at this
     unfold M at this
     rw [Mem.own_set_other _ _ hbb.symm] at this
     exact (Mem.own_set_other S _ e).symm.trans this
   have g14:Fresh S b14:=⟨hd14,f14.2⟩
   refine r2_ ?_
   refine ARun.store1 rfl rfl zc4 rfl ((Mem.own_set_other _ _ hbb).trans hby2) (by show 1<2;decide) rfl ?_
   try simp only [k_ms,k_sz,k_ss,k_za,Nat.reduceAdd]
   refine r11_ ?_
   refine ⟨_,M S b (self b) (some (b14,c14)) (l ++ s.data.toList),⟨_,_,rfl,⟨_,_,rfl,rfl,rfl⟩,rfl⟩,(by unfold M;show Mem.Less _ (((((S.set g _).set b _).del g).set b14 _).set b _);rw [zq9 hg.1.1 hgb,show cellsB (l ++ s.data.toList)=cellsB l ++ cellsB s.data.toList from List.map_append ..,show (l ++ s.data.toList).length=l.length+s.size from by rw [List.length_append,hlen]];exact Mem.Less.refl _),?_⟩
   exact ⟨rfl,self b,some (b14,c14),.inr rfl,⟨fun h=>(by cases h),fun g c e=>(by cases e;exact ⟨g14,by rw [List.length_append,hlen];exact hc14⟩)⟩,fun g' c' e=>(by cases e;exact ⟨hbb.symm,fun e=>(hne g c rfl).2 (List.append_eq_nil_iff.1 e).1⟩),rfl⟩
theorem String (S:Mem) (b:Nat) (l:List UInt8) (T:Mem) (hf:Fresh S b) (h:R S b l T) (h63:l.length≤9223372036854775807) :
  ACall Tryz.prog 16 #[self b] T fun r S'=>r = .string (bs l)∧F S b l S':=by
 obtain ⟨p,o,hp,ho,hne,rfl⟩:=h
 have hby:(M S b p o l).own b=some (blk p (outV o l.length)):=Mem.own_set_same _ _ _
 cases o with
 | none =>
  have hl0:l = []:=List.eq_nil_of_length_eq_zero (ho.nil rfl)
  subst hl0
  refine k_E1 (rs:=[.tmp 2]) 14 Tryz.func16 rfl rfl rfl ?_
  refine r6_ ?_
  refine AWP.draw [(0,true),(1,true),(2,true),(3,true),(4,true),(5,true),(6,true),(7,true),(8,true),(9,true),(10,false),(11,true)] [10] mixed (by kernel_rfl) ?_
  refine r3_ ?_
  refine dC (hc:=(ldB zaG hby rfl)) (h:=?_)
  refine dC (hc:=Calm.sliceData rfl (.inl rfl)) (h:=?_)
  refine r3_ ?_
  refine dC (hc:=(ldB zaG hby rfl)) (h:=?_)
  refine s1_ ?_
  refine zac rfl ?_
  refine ARun.usNil (zab rfl) rfl rfl ?_
  refine zae ⟨fun h=>absurd h (by decide),?_⟩
  refine r4_ ?_
  refine ⟨_,M S b p none [],⟨_,_,rfl,rfl,rfl⟩,(Mem.Less.refl _),?_⟩
  exact ⟨rfl,p,.inl ⟨rfl,rfl⟩⟩
 | some q =>
  obtain ⟨g,c⟩:=q
  obtain ⟨hgb,hl0⟩:=hne g c rfl
  have hg:=(ho.own g c rfl)
  have hlp:0<l.length:=List.length_pos_iff.2 hl0
  have hog:(M S b p (some (g,c)) l).own g=some ⟨5,cellsB l,c⟩:=(Mem.own_set_other _ _ hgb).trans (Mem.own_set_same _ _ _)
  refine ACall.seen (p:=S.ro.z g=none) (fun w hv=>Mem.z_none hv hog) fun hz=>?_
  refine k_E1 (rs:=[.tmp 2]) 14 Tryz.func16 rfl rfl rfl ?_
  refine r6_ ?_
  refine AWP.draw [(0,true),(1,true),(2,true),(3,true),(4,true),(5,true),(6,true),(7,true),(8,true),(9,true),(10,false),(11,true)] [10] mixed (by kernel_rfl) ?_
  refine r3_ ?_
  refine dC (hc:=(ldB zaG hby rfl)) (h:=?_)
  refine dC (hc:=Calm.sliceData rfl (.inr (by omega))) (h:=?_)
  refine r3_ ?_
  refine dC (hc:=(ldB zaG hby rfl)) (h:=?_)
  refine s1_ ?_
  refine zac rfl ?_
  refine ARun.usOwn (zab rfl) Tryz.underlying103 zql rfl rfl hog hl0 h63 ?_
  refine zae ⟨fun h=>absurd h (by decide),?_⟩
  refine r4_ ?_
  refine ⟨_,((M S b p (some (g,c)) l).del g).fr g l,⟨_,_,rfl,rfl,rfl⟩,(Mem.Less.refl _),?_⟩
  exact ⟨rfl,p,.inr ⟨hl0,g,c,hg.1,hgb,by omega,hz,zq_ hg.1.1 hgb⟩⟩
theorem StringF (S:Mem) (b:Nat) (l:List UInt8) (T:Mem) (h:F S b l T) (h63:l.length≤9223372036854775807) :
  ACall Tryz.prog 16 #[self b] T fun r S'=>r = .string (bs l)∧S'=T:=by
 obtain ⟨p,⟨rfl,rfl⟩ | ⟨hl0,g,c,hg,hgb,hc,hz,rfl⟩⟩:=h
 ·have hby:(S.set b (blk p (.slice none 0 0))).own b=some (blk p (.slice none 0 0)):=Mem.own_set_same _ _ _
  refine k_E1 (rs:=[.tmp 2]) 14 Tryz.func16 rfl rfl rfl ?_
  refine r6_ ?_
  refine AWP.draw [(0,true),(1,true),(2,true),(3,true),(4,true),(5,true),(6,true),(7,true),(8,true),(9,true),(10,false),(11,true)] [10] mixed (by kernel_rfl) ?_
  refine r3_ ?_
  refine dC (hc:=(ldB zaG hby rfl)) (h:=?_)
  refine dC (hc:=Calm.sliceData rfl (.inl rfl)) (h:=?_)
  refine r3_ ?_
  refine dC (hc:=(ldB zaG hby rfl)) (h:=?_)
  refine s1_ ?_
  refine zac rfl ?_
  refine ARun.usNil (zab rfl) rfl rfl ?_
  refine zae ⟨fun h=>absurd h (by decide),?_⟩
  refine r4_ ?_
  refine ⟨_,S.set b (blk p (.slice none 0 0)),⟨_,_,rfl,rfl,rfl⟩,(Mem.Less.refl _),?_⟩
  exact ⟨rfl,rfl⟩
 ·have hby:((S.fr g l).set b (blk p (.slice (some ⟨g,0,none⟩) l.length c))).own b=some (blk p (.slice (some ⟨g,0,none⟩) l.length c)):=Mem.own_set_same _ _ _
  refine k_E1 (rs:=[.tmp 2]) 14 Tryz.func16 rfl rfl rfl ?_
  refine r6_ ?_
  refine AWP.draw [(0,true),(1,true),(2,true),(3,true),(4,true),(5,true),(6,true),(7,true),(8,true),(9,true),(10,false),(11,true)] [10] mixed (by kernel_rfl) ?_
  refine r3_ ?_
  refine dC (hc:=(ldB zaG hby rfl)) (h:=?_)
  refine dC (hc:=Calm.sliceData rfl (.inr hc)) (h:=?_)
  refine r3_ ?_
  refine dC (hc:=(ldB zaG hby rfl)) (h:=?_)
  refine s1_ ?_
  refine zac rfl ?_
  refine ARun.usRo (zab rfl) Tryz.underlying103 zql rfl rfl (show (if g=g then some l else S.ro.z g)=some l from if_pos rfl) hl0 h63 ?_
  refine zae ⟨fun h=>absurd h (by decide),?_⟩
  refine r4_ ?_
  refine ⟨_,(S.fr g l).set b (blk p (.slice (some ⟨g,0,none⟩) l.length c)),⟨_,_,rfl,rfl,rfl⟩,(Mem.Less.refl _),?_⟩
  exact ⟨rfl,rfl⟩
theorem StringE (S:Mem) (b:Nat) (l:List UInt8) (T:Mem) (hf:Fresh S b) (h:R S b l T) (h63:l.length≤9223372036854775807) :
  ACall Tryz.prog 16 #[self b] T fun r S'=>r = .string (bs l)∧S'=S :=
 (String S b l T hf h h63).lose fun v S' ⟨h1,h2⟩=>⟨S,h2.lo hf,h1,rfl⟩
end Bl
end
section
open Go.RowKit
open Mv
namespace Num
def u64s (n:Nat):List Value:=[.int .u64 (n:Int)]
end Num
open Num
theorem zs7 {S:Mem} {b e:Nat} {l:List Nat} {len cap room:Nat} (hb:S.own b=some ⟨e,l.map (fun n:Nat=>.int .u64 (n:Int)),room⟩) (hlen:l.length=len) (hc:len≤cap) (hm:len≤9223372036854775807):Sl 1 u64s S (.slice (some ⟨b,0,none⟩) len cap) l :=
 Sl.own1 (g:=fun n:Nat=>.int .u64 (n:Int)) hb List.prefix_rfl hlen hc hm
abbrev RowR (S:Mem) (v:Value) (l:List Nat):Prop:=Sl 1 u64s S v l
theorem zbN (S S':Mem) (v:Value) (l:List Nat) (h:RowR S v l) (hl:S.Less S'):RowR S' v l:=h.less hl
def idx {α : Type} (p : α→Bool) (l:List α):Int:=match l.findIdx? p with
  | some i=>(i:Nat)
  | none=>-1
theorem zs8 {α : Type} (p : α→Bool) (l:List α) (i:Nat) (h:i<l.length) (hb:∀ j (hj:j<i),p l[j]=false) (hi:p l[i]=true):idx p l=(i:Nat):=by
 have:l.findIdx? p=some i:=List.findIdx?_eq_some_iff_getElem.2 ⟨h,hi,fun j hj=>by simpa using hb j hj⟩
 simp [idx,this]
theorem zoO {α : Type} (p : α→Bool) (l:List α) (hb:∀ j (hj:j<l.length),p l[j]=false):idx p l = -1:=by
 have:l.findIdx? p=none:=List.findIdx?_eq_none_iff.2 fun x hx=>by
  obtain ⟨j,hj,rfl⟩:=List.getElem_of_mem hx
  exact hb j hj
 simp [idx,this]
theorem zra {α : Type} (p : α→Bool) (l:List α):decide (0≤idx p l)=l.any p:=by
 by_cases h:l.any p=true
 ·rw [h]
  have h2:(l.findIdx? p).isSome=true:=by rw [List.findIdx?_isSome];exact h
  obtain ⟨i,hi⟩:=Option.isSome_iff_exists.1 h2
  simp [idx,hi]
 ·have h':l.any p=false:=by simpa using h
  rw [h']
  have h2:(l.findIdx? p).isSome=false:=by rw [List.findIdx?_isSome];exact h'
  have:l.findIdx? p=none:=by simpa using h2
  simp [idx,this]
theorem zcD (l m:List UInt8):cellsB (l ++ m)=cellsB l ++ cellsB m:=by simp [cellsB]
theorem zfP (l:List UInt8):∀ v ∈ cellsB l,v.oneCell'=true:=fun v hv=>by obtain ⟨c,_,rfl⟩:=List.mem_map.1 hv;rfl
end
section
open Go.RowKit
open Mv Num
set_option maxRecDepth 4000
namespace Num
theorem zeH (n k:Nat):IntKind.u8.wrap ((n:Int) / 2 ^ k)=nb (UInt8.ofNat (n / 2 ^ k)):=by
 rw [← zqi];congr 1
theorem zs9 (a:Nat) (c:UInt8) (h:a<4294967296):bits .or .u64 (IntKind.u64.wrap ((a:Int)*2 ^ (8:Int).toNat)) (nb c)=((256*a+c.toNat:Nat):Int):=by
 have hc:=c.toNat_lt
 have e:(a:Int)*2 ^ (8:Int).toNat=((a*2 ^ 8:Nat):Int):=by rw [show (8:Int).toNat=8 from rfl];omega
 rw [e,IntWalk.u64_in _ (by omega),nb_byte,zoJ _ _ (by omega) (by omega),Nat.or_comm,ziw _ _ _ (by omega)]
 omega
end Num
theorem zfb (n:Nat) (S:Mem) (hn:n<18446744073709551616) :
  ACall Tryz.prog 36 #[.int .u64 n] S fun r S'=>r = .agg (cellsB (five n)).toArray∧S'=S:=by
 have e0:=zeH n 32;have e1:=zeH n 24;have e2:=zeH n 16;have e3:=zeH n 8
 have e4:=zqi n
 refine k_E1 (rs:=[.cell 2 95]) 18 Tryz.func36 rfl rfl rfl ?_
 refine r2_ ?_
 refine ARun.alloc (zab rfl) zc5 ?_
 intro b2 f2
 have g2:=f2
 repeat ((with_reducible replace g2:=zaa g2);obtain ⟨g2,_⟩:=g2)
 refine nl_ ?_
 refine r6_ ?_
 refine rC (Calm.conv rfl (zbf Tryz.underlying24 Tryz.underlying5 e0)) ?_
 refine r2_ ?_
 refine rC (Calm.conv rfl (zbf Tryz.underlying24 Tryz.underlying5 e1)) ?_
 refine r2_ ?_
 refine rC (Calm.conv rfl (zbf Tryz.underlying24 Tryz.underlying5 e2)) ?_
 refine r2_ ?_
 refine rC (Calm.conv rfl (zbf Tryz.underlying24 Tryz.underlying5 e3)) ?_
 refine s1_ ?_
 refine rC (Calm.conv rfl (zbf Tryz.underlying24 Tryz.underlying5 e4)) ?_
 refine rC (Calm.buildArr (cs:=[_,_,_,_,_]) zlz rfl rfl) ?_
 refine r4_ ?_
 refine ⟨_,S,⟨_,_,_,rfl,.inr ⟨zg0,[_,_,_,_,_],zea,rds_,rfl⟩,rfl,rfl⟩,zad,?_⟩
 exact ⟨rfl,rfl⟩
theorem ziG (n:Nat) (S:Mem) :
  ACall Tryz.prog 35 #[.int .u64 n] S fun r S'=>r = .bool (decide (top≤n))∧S'=S:=by
 have e:decide ((1099511627776:Int)≤(n:Int))=decide (top≤n):=by rw [Bool.eq_iff_iff];simp [top];omega
 refine k_E1 (rs:=[.tmp 2]) 5 Tryz.func35 rfl rfl rfl ?_
 refine r8_ ?_
 refine rC (Calm.bin rfl rfl (zag (zct _ _) e)) ?_
 refine r4_ ?_
 refine ⟨_,S,⟨_,_,rfl,rfl,rfl⟩,zad,?_⟩
 exact ⟨rfl,rfl⟩
theorem zfu (l:List Nat) (v:Value) (S:Mem) (hv:Sl 1 u64s S v l) :
  ACall Tryz.prog 73 #[v,.func (.func 35) #[] #[]] S fun r S'=>r = .int .i64 (idx (fun n=>decide (top≤n)) l)∧S'=S:=by
 obtain ⟨a,cap,rfl,hlc,hcap,hk⟩:=hv
 refine k_E2 (rs:=[.tmp 4]) 19 Tryz.func73 rfl rfl rfl ?_
 refine r14_ ?_
 refine AWP.loop (X:=Nat) (fun x=>[(0,.slice a l.length cap),(1,.func (.func 35) #[] #[]),(7,.int .i64 l.length),(8,.int .i64 x)]) (fun x=>S) (fun x=>x≤l.length ∧ ∀ j (hj:j<l.length),j<x→decide (top≤l[j])=false) (fun x=>l.length-x) (0) ⟨rfl,rfl,rfl,rfl,trivial⟩ (Mem.Less.refl _) (⟨Nat.zero_le _,fun j _ h=>absurd h (Nat.not_lt_zero _)⟩) ?_
 rintro k ⟨hk1,hk2⟩
 (try dsimp only at *)
 refine r6_ ?_
 refine AWP.condB rfl (fun hl=>?_) (fun hl=>?_)
 ·have hl:k<l.length:=by have:=of_decide_eq_true hl;omega
  obtain ⟨b,off,rfl,hkn⟩:=hk.resolve_left (by intro h;rw [h] at hl;exact absurd hl (Nat.not_lt_zero _))
  have hkk:=hkn k hl
  refine r17_ ?_
  refine ARun.callV (zab rfl) ztW rfl rfl (ziG l[k] S) ?_
  rintro _ S1 ⟨rfl,h1⟩
  rw [h1];clear h1 S1
  refine r2_ ?_
  refine AWP.condB rfl (fun hb=>?_) (fun hb=>?_)
  ·refine r6_ ?_
   refine r6_ ?_
   refine ⟨_,S,⟨_,_,rfl,rfl,rfl⟩,zad,?_⟩
   exact ⟨by rw [zs8 _ _ k hl (fun j hj=>hk2 j (by omega) hj) hb];rfl,rfl⟩
  ·refine r8_ ?_
   refine ⟨k+1,?_,?_,?_,?_⟩
   all_goals (try dsimp only)
   ·exact ⟨rfl,rfl,rfl,rfl,trivial⟩
   ·exact Mem.Less.refl _
   ·exact ⟨hl,fun j hj hj2=>by rcases Nat.lt_or_ge j k with h | h;exact hk2 j hj h;obtain rfl:j=k:=(by omega);exact hb⟩
   ·omega
 ·have hl:k=l.length:=by have:=of_decide_eq_false hl;omega
  refine r11_ ?_
  refine ⟨_,S,⟨_,_,rfl,rfl,rfl⟩,zad,?_⟩
  exact ⟨by rw [zoO _ _ (fun j hj=>hk2 j hj (by omega))];rfl,rfl⟩
theorem zcm (l:List Nat) (v:Value) (S:Mem) (hv:Sl 1 u64s S v l) :
  ACall Tryz.prog 34 #[v,.func (.func 35) #[] #[]] S fun r S'=>r = .bool (l.any fun n=>decide (top≤n))∧S'=S:=by
 have hq:=zra (fun n=>decide (top≤n)) l
 obtain ⟨a,cap,rfl,_⟩:=id hv
 refine k_E2 (rs:=[.tmp 4]) 9 Tryz.func34 rfl rfl rfl ?_
 refine r9_ ?_
 refine ca_ rfl (zfu l _ S hv) ?_
 rintro _ S1 ⟨rfl,h1⟩
 rw [h1];clear h1 S1
 refine rC (Calm.bin rfl rfl (zag (zct _ _) hq)) ?_
 refine r4_ ?_
 refine ⟨_,S,⟨_,_,rfl,rfl,rfl⟩,zad,?_⟩
 exact ⟨rfl,rfl⟩
theorem zkA (l:List Nat):recOK l=(!(decide (l.length<1) || (decide (8<l.length) || l.any fun n=>decide (top≤n)))):=by
 unfold recOK
 rw [Bool.eq_iff_iff]
 simp only [Bool.and_eq_true,decide_eq_true_eq,List.all_eq_true,Bool.not_eq_true',Bool.or_eq_false_iff,decide_eq_false_iff_not,List.any_eq_false]
 constructor
 ·rintro ⟨⟨h1,h2⟩,h3⟩;exact ⟨by omega,by omega,fun x hx=>by have:=h3 x hx;omega⟩
 ·rintro ⟨h1,h2,h3⟩;exact ⟨⟨by omega,by omega⟩,fun x hx=>by have:=h3 x hx;omega⟩
set_option maxHeartbeats 1000000 in
theorem ziH (l:List Nat) (v:Value) (S:Mem) (hv:Sl 1 u64s S v l) (hb:∀ x ∈ l,x<18446744073709551616) :
  ACall Tryz.prog 13 #[v] S fun r S'=>r=pairV (recP l)∧S'=S:=by
 have hq:=zkA l
 unfold recP
 obtain ⟨a,cap,rfl,hlc,hcap,hk⟩:=id hv
 by_cases c1:l.length<1
 ·rw [if_neg (by rw [hq];simp [c1])]
  refine k_E1 (rs:=[.tmp 2,.tmp 3]) 38 Tryz.func13 rfl rfl rfl ?_
  refine r23_ ?_
  refine cT_ ?_
  refine r8_ ?_
  refine ⟨_,S,⟨_,_,rfl,⟨_,_,rfl,rfl,rfl⟩,rfl⟩,zad,?_⟩
  exact ⟨rfl,rfl⟩
 by_cases c2:8<l.length
 ·rw [if_neg (by rw [hq];simp [c2])]
  refine k_E1 (rs:=[.tmp 2,.tmp 3]) 38 Tryz.func13 rfl rfl rfl ?_
  refine r23_ ?_
  refine cT_ ?_
  refine r8_ ?_
  refine ⟨_,S,⟨_,_,rfl,⟨_,_,rfl,rfl,rfl⟩,rfl⟩,zad,?_⟩
  exact ⟨rfl,rfl⟩
 cases c3:l.any fun n=>decide (top≤n) with
 | true =>
  rw [if_neg (by rw [hq,c3];simp)]
  refine k_E1 (rs:=[.tmp 2,.tmp 3]) 38 Tryz.func13 rfl rfl rfl ?_
  refine r19_ ?_
  refine ARun.callG 8 false 16 rfl (zab rfl) rfl (zab rfl) zsN rfl (zcm l _ S hv) ?_
  rintro _ S1 ⟨rfl,h1⟩
  rw [h1,c3];clear h1 S1
  refine r3_ ?_
  refine cT_ ?_
  refine r8_ ?_
  refine ⟨_,S,⟨_,_,rfl,⟨_,_,rfl,rfl,rfl⟩,rfl⟩,zad,?_⟩
  exact ⟨rfl,rfl⟩
 | false =>
  rw [if_pos (by rw [hq,c3];simp only [c1,c2,decide_false];rfl)]
  have c3':=List.any_eq_false.1 c3
  obtain ⟨b0,off,rfl,hkn⟩:=hk.resolve_left (by intro h;rw [h] at c1;simp at c1)
  refine k_E1 (rs:=[.tmp 2,.tmp 3]) 38 Tryz.func13 rfl rfl rfl ?_
  refine r19_ ?_
  refine ARun.callG 8 false 16 rfl (zab rfl) rfl (zab rfl) zsN rfl (zcm l _ S hv) ?_
  rintro _ S1 ⟨rfl,h1⟩
  rw [h1,c3];clear h1 S1
  refine r3_ ?_
  refine cF_ ?_
  refine r7_ ?_
  refine ARun.makeSliceP (zab rfl) zaE rfl rfl (by omega) (by omega) (by omega) (by omega) ?_
  intro b23 f23
  have g23:=f23
  repeat ((with_reducible replace g23:=zaa g23);obtain ⟨g23,_⟩:=g23)
  refine r3_ ?_
  refine k_v5 0 2 3 19 4 ?_
  have em:(5*(l.length:Int)).toNat=5*l.length:=by omega
  simp only [em,Nat.mul_one,za8,Int.toNat_zero,List.replicate_zero]
  refine r9_ ?_
  refine AWP.loop (X:=Nat × Option (Nat × Nat)) (fun x=>[(4,outV x.2 (5*x.1)),(24,.slice (some ⟨b0,off,none⟩) l.length cap),(25,.int .i64 l.length),(26,.int .i64 x.1)]) (fun x=>outM S x.2 5 (cellsB (recB (l.take x.1)))) (fun x=>x.1≤l.length∧OkO S x.2 (5*x.1)) (fun x=>l.length-x.1) ((0,some (b23,5*l.length))) ⟨rfl,rfl,rfl,rfl,trivial⟩ (Mem.Less.refl _) (⟨Nat.zero_le _,zbS g23 (Nat.zero_le _)⟩) ?_
  rintro ⟨k,o⟩ ⟨hk1,ho⟩
  (try dsimp only at *)
  refine r6_ ?_
  refine AWP.condB rfl (fun hl=>?_) (fun hl=>?_)
  ·have hl:k<l.length:=by have:=of_decide_eq_true hl;omega
   have hkk:=(hkn k hl).less (zbu (e:=5) (cs:=cellsB (recB (l.take k))) ho)
   have hlen:(cellsB (recB (l.take k))).length=5*k:=by rw [zav,zaO,List.length_take];omega
   have hx5:=zcC l[k]
   refine r14_ ?_
   refine ca_ rfl (zfb l[k] _ (hb _ (List.getElem_mem _))) ?_
   rintro _ S1 ⟨rfl,h1⟩
   rw [h1];clear h1 S1
   refine ARun.alloc (zab rfl) zc5 ?_
   intro b7 f7
   have g7:=f7
   repeat ((with_reducible replace g7:=zaa g7);obtain ⟨g7,_⟩:=g7)
   refine nl_ ?_
   refine r6_ ?_
   refine ARun.appendO (zab rfl) zaE rfl hlen (zd4 ho hlen g7) rfl (news:=cellsB (five l[k])) rds_ rfl (by omega) (zfP _) (by omega) (by omega) ?_
   intro b34 c34 ho2
   rw [← zcD,← zhj,← List.take_succ_eq_append_getElem hl]
   refine r9_ ?_
   refine ⟨(k+1,some (b34,c34)),?_,?_,?_,?_⟩
   all_goals (try dsimp only)
   ·exact ⟨rfl,rfl,rfl,zai (by omega),trivial⟩
   ·exact Mem.Less.refl _
   ·exact ⟨hl,ho2⟩
   ·omega
  ·have hl:k=l.length:=by have:=of_decide_eq_false hl;omega
   subst hl
   rw [List.take_length]
   obtain ⟨bo,co,rfl⟩:=ho.some (by omega)
   refine r8_ ?_
   refine rC (Calm.toStr zaM zaA rfl (zaO l) (znU _ _ _ _ _)) ?_
   refine r5_ ?_
   refine ⟨_,S,⟨_,_,rfl,⟨_,_,rfl,rfl,rfl⟩,rfl⟩,zbu ho,?_⟩
   exact ⟨rfl,rfl⟩
end
section
open Go.RowKit
open Mv Num
set_option maxRecDepth 4000
set_option maxHeartbeats 400000 in
theorem zmg (s:ByteArray) (S:Mem) (h5:5≤s.size) (hs:s.size≤9223372036854775807) :
  ACall Tryz.prog 64 #[.string s] S fun r S'=>r = .int .u64 (ofB (s.data.toList.take 5):Nat)∧S'=S:=by
 have hsz:=zcW s
 refine k_E1 (rs:=[.tmp 2]) 17 Tryz.func64 rfl rfl rfl ?_
 refine r17_ ?_
 refine AWP.loop (X:=Nat) (fun x=>[(0,.string s),(3,.int .u64 (ofB (s.data.toList.take x):Nat)),(5,.int .i64 x)]) (fun x=>S) (fun x=>x≤5) (fun x=>5-x) (0) ⟨rfl,rfl,rfl,trivial⟩ (Mem.Less.refl _) (Nat.zero_le _) ?_
 rintro k hk
 (try dsimp only at *)
 refine r6_ ?_
 refine AWP.condB rfl (fun hl=>?_) (fun hl=>?_)
 ·have hl:k<5:=by have:=of_decide_eq_true hl;omega
  have hq:=zs9 (ofB (s.data.toList.take k)) (at8 s.data.toList k) (zhi _ _ (by omega))
  rw [← zjv _ _ (by omega)] at hq
  refine r27_ ?_
  refine ⟨k+1,?_,?_,?_,?_⟩
  all_goals (try dsimp only)
  ·exact ⟨rfl,zai hq,zai (by omega),trivial⟩
  ·exact Mem.Less.refl _
  ·exact hl
  ·omega
 ·have hl:k=5:=by have:=of_decide_eq_false hl;omega
  subst hl
  refine r12_ ?_
  refine ⟨_,S,⟨_,_,rfl,rfl,rfl⟩,zad,?_⟩
  exact ⟨rfl,rfl⟩
/-! ### The document's -/
end
end Go.Proofs.YtoaoibeobhcgmaaGreatDoor
