/-
  Texts that belong together: RecL3.
-/
import Derived.Test.YtceikpipmcadmaaGreatDoorBRc7
set_option linter.unusedVariables false
set_option linter.unusedSimpArgs false
set_option linter.unusedSectionVars false
namespace Go.Proofs.YtceikpipmcadmaaGreatDoor
open Go.RowKit
open Mv Disk Num
set_option maxRecDepth 4000
namespace Rec
set_option maxHeartbeats 8000000 in
theorem law_RecsWhole (v vl vk : Value) (d : D) (s : ByteArray) (w : Int) (l : List (List Nat)) (f : Int) (kl : List Bool) (S : Mem) (hd : DkR S v d) (hz : Dz d) (hl : SlOf RowR S vl l) (hb : ∀ x ∈ l, ∀ n ∈ x, n < 18446744073709551616) (hf2 : f ≤ 9223372036854775807) (hk : Sl 1 bools S vk kl) :
  ACall Tryz.prog 6 #[v,.string s,.int .i64 w,vl,.int .i64 f,vk] S fun r S'=>r = .bool true:=by
 have c0:=fun v S h=>disk_Sync v d S h hz
 obtain ⟨pe,ce,pw,cw,rfl,hE,hW⟩:=id hd
 obtain ⟨hs0,hlen0,⟨pa,ca,rfl,ha1,ha2,ha3⟩,hae⟩:=id hl
 obtain ⟨pk,ck,rfl,hk1,hk2,hk3⟩:=id hk
 by_cases q:(opened d (syncD d)).2=0
 ·have hop:Right d∧d.down=false∧opened d (syncD d)=(settleD d (fun _=>true),0):=by
   unfold opened at q ⊢
   rcases openD_or d with ⟨ho,hR'⟩ | ⟨ho,hR,hdn⟩ | ⟨ho,hR,hdn⟩ <;> rw [ho] at q ⊢
   ·simp at q
   ·simp at q
   ·exact ⟨hR,hdn,if_pos rfl⟩
  obtain ⟨hR,hdn,hop⟩:=hop
  rw [hop] at c0
  have hR1:=right_settle hR (fun _=>true)
  have hw1:(settleD d (fun _=>true)).waits = []:=rfl
  have hdn1:(settleD d (fun _=>true)).down=false:=hdn
  have hf1:(settleD d (fun _=>true)).fuse≤9223372036854775807:=hz.f1
  generalize settleD d (fun _=>true)=d1 at *
  clear q hop
  have hz1:=dz_right hR1 hf1
  have c1:=fun v S h=>rec_Head v d1 s S h hz1
  have hno:=fun h=>head_none (s:=s) hR1 hdn1 h
  generalize headP d1 s=u at *
  obtain ⟨ua,ub,uc⟩:=u
  simp only [formV] at c1
  simp only at hno
  by_cases qn:uc=3
  ·subst qn
   by_cases q2:f<0
   ·skip
    refine ACall.enter (rs:=[.tmp 12]) 117 [(0,.agg #[.int .i64 d.size,.slice pe d.ext.length ce,.slice pw d.waits.length cw,.int .i64 d.fuse,.bool d.down]),(1,.string s),(2,.int .i64 w),(3,.slice pa hs0.length ca),(4,.int .i64 f),(5,.slice pk kl.length ck)] Tryz.func6 rfl rfl (Nat.le_of_ble_eq_true rfl) rfl ⟨rfl,rfl,rfl,rfl,rfl,rfl,trivial⟩ ?_
    iterate 2 refine s1_ ?_
    refine k_b5 rfl ?_
    intro b6 f6
    have g6:=f6
    repeat ((with_reducible replace g6:=fresh_set g6);obtain ⟨g6,_⟩:=g6)
    refine nl_ ?_
    iterate 6 refine s1_ ?_
    refine ca_ rfl (rec_lives _) ?_
    rintro _ Sx ⟨rfl,h1⟩
    rw [h1];clear h1 Sx
    iterate 3 refine s1_ ?_
    refine su_ [(0,_),(1,_),(2,_),(3,_),(4,_),(5,_),(6,_),(12,_),(25,_)] ?_
    refine cF_ ?_
    iterate 5 refine s1_ ?_
    refine ca_ rfl ((c0 _ _ hd).frame f6) ?_
    rintro _ Sx ⟨M1,⟨v,rfl,hM1,hd1⟩,fa,h1⟩
    rw [h1];clear h1 Sx
    obtain ⟨p1,q1,r1,s1,rfl,hE1,hW1⟩:=id hd1
    iterate 7 refine s1_ ?_
    refine su_ [(0,_),(1,_),(2,_),(3,_),(4,_),(5,_),(6,_),(12,_),(25,_),(13,_)] ?_
    iterate 4 refine s1_ ?_
    refine ca_ rfl (c1 _ _ (hd1.less less_)) ?_
    rintro _ Sx ⟨rfl,h1⟩
    rw [h1];clear h1 Sx
    iterate 9 refine s1_ ?_
    refine su_ [(0,_),(1,_),(2,_),(3,_),(4,_),(5,_),(6,_),(12,_),(25,_),(13,_),(16,_)] ?_
    iterate 11 refine s1_ ?_
    first|refine k_q 44 ?_|refine rG 44 (Calm.bin rfl rfl (bin_bool (bin_lss _ _) (decide_eq_true q2))) ?_
    iterate 3 refine s1_ ?_
    refine su_ [(0,_),(1,_),(2,_),(3,_),(4,_),(5,_),(6,_),(12,_),(25,_),(13,_),(16,_),(47,_)] ?_
    refine cT_ ?_
    iterate 7 refine s1_ ?_
    refine ⟨_,_,⟨_,_,rfl,rfl,rfl⟩,less_,?_⟩
    rfl
   ·have hno:=hno rfl
    have hR2:Right { d1 with fuse:=f }:=right_fuse hR1 (by omega) d1.down
    have hz2:Dz { d1 with fuse:=f }:=dz_right hR2 hf2
    obtain ⟨hRa,hfa,hAf⟩:=write_whole (s:=s) (w:=w) (l:=l) hR2 hdn1 hf2 hw1 hno (keepK kl)
    have c3:=fun v vl S h hl=>rec_Write v { d1 with fuse:=f } s w l vl S h hz2 hl hb
    generalize writeP { d1 with fuse:=f } s w l=u3 at *
    obtain ⟨a,er⟩:=u3
    simp only at hRa hfa hAf c3
    have c4:=fun v vk S h hk=>disk_Crash v vk a kl S h (dz_right hRa hfa) hk
    have hcd:crashD a kl=(upD (settleD a (keepK kl)),0):=by unfold crashD;rw [chkD_yes hRa,if_pos rfl]
    rw [hcd] at c4
    have hzc:Dz (upD (settleD a (keepK kl))):=dz_right (right_crash hRa _) (by show (-1:Int)≤_;decide)
    have c5:=fun v S h=>rec_Read v (upD (settleD a (keepK kl))) s S h hzc
    unfold AfterW at hAf
    generalize upD (settleD a (keepK kl))=cc at *
    unfold ReadR at c5
    generalize readRP cc s=u5 at *
    obtain ⟨u,l5,e5⟩:=u5
    simp only [Prod.mk.injEq] at hAf c5
    clear hcd hzc hR2 hz2 hno hRa hfa
    by_cases q3:er=0
    ·subst q3
     obtain ⟨⟨h1,h2,h3⟩,h4⟩:=hAf.1 rfl
     subst h1 h2 h3
     obtain ⟨w,rfl⟩:=Int.eq_ofNat_of_zero_le (show 0≤w by omega)
     rw [Int.toNat_natCast] at c5
     clear hAf h4
     refine ACall.enter (rs:=[.tmp 12]) 117 [(0,.agg #[.int .i64 d.size,.slice pe d.ext.length ce,.slice pw d.waits.length cw,.int .i64 d.fuse,.bool d.down]),(1,.string s),(2,.int .i64 w),(3,.slice pa hs0.length ca),(4,.int .i64 f),(5,.slice pk kl.length ck)] Tryz.func6 rfl rfl (Nat.le_of_ble_eq_true rfl) rfl ⟨rfl,rfl,rfl,rfl,rfl,rfl,trivial⟩ ?_
     iterate 2 refine s1_ ?_
     refine k_b5 rfl ?_
     intro b6 f6
     have g6:=f6
     repeat ((with_reducible replace g6:=fresh_set g6);obtain ⟨g6,_⟩:=g6)
     refine nl_ ?_
     iterate 6 refine s1_ ?_
     refine ca_ rfl (rec_lives _) ?_
     rintro _ Sx ⟨rfl,h1⟩
     rw [h1];clear h1 Sx
     iterate 3 refine s1_ ?_
     refine su_ [(0,_),(1,_),(2,_),(3,_),(4,_),(5,_),(6,_),(12,_),(25,_)] ?_
     refine cF_ ?_
     iterate 5 refine s1_ ?_
     refine ca_ rfl ((c0 _ _ hd).frame f6) ?_
     rintro _ Sx ⟨M1,⟨v,rfl,hM1,hd1⟩,fa,h1⟩
     rw [h1];clear h1 Sx
     obtain ⟨p1,q1,r1,s1,rfl,hE1,hW1⟩:=id hd1
     iterate 7 refine s1_ ?_
     refine su_ [(0,_),(1,_),(2,_),(3,_),(4,_),(5,_),(6,_),(12,_),(25,_),(13,_)] ?_
     iterate 4 refine s1_ ?_
     refine ca_ rfl (c1 _ _ (hd1.less less_)) ?_
     rintro _ Sx ⟨rfl,h1⟩
     rw [h1];clear h1 Sx
     iterate 9 refine s1_ ?_
     refine su_ [(0,_),(1,_),(2,_),(3,_),(4,_),(5,_),(6,_),(12,_),(25,_),(13,_),(16,_)] ?_
     iterate 11 refine s1_ ?_
     first|refine k_q 44 ?_|refine rG 44 (Calm.bin rfl rfl (bin_bool (bin_lss _ _) (decide_eq_false q2))) ?_
     iterate 3 refine s1_ ?_
     refine su_ [(0,_),(1,_),(2,_),(3,_),(4,_),(5,_),(6,_),(12,_),(25,_),(13,_),(16,_),(47,_)] ?_
     refine cF_ ?_
     iterate 9 refine s1_ ?_
     refine su_ [(0,_),(1,_),(2,_),(3,_),(4,_),(5,_),(6,_),(12,_),(25,_),(13,_),(16,_),(47,_)] ?_
     have g6:=fa
     have hd2:DkR M1 (.agg #[.int .i64 d1.size,.slice p1 d1.ext.length q1,.slice r1 d1.waits.length s1,.int .i64 f,.bool d1.down]) { d1 with fuse:=f }:=⟨p1,q1,r1,s1,rfl,hE1,hW1⟩
     have hl2:=hl.less rowR_less hM1
     have hk2:=hk.less hM1
     refine named (S:=M1) (b:=b6) g6.1 ?_
     intro T6 hT6 kb6
     replace hd2:=hd2.less hT6
     replace hl2:=hl2.less rowR_less hT6
     replace hk2:=hk2.less hT6
     iterate 6 refine s1_ ?_
     refine ca_ rfl (c3 _ _ _ hd2 hl2) ?_
     rintro _ S2 ⟨v,rfl,hS2,hd3⟩
     obtain ⟨p2,q2',r2,s2,rfl,hE2,hW2⟩:=id hd3
     replace hd2:=hd2.less hS2
     replace hl2:=hl2.less rowR_less hS2
     replace hk2:=hk2.less hS2
     replace kb6:=hS2.own kb6
     iterate 3 refine s1_ ?_
     refine ARun.alloc (lit_lt rfl) ty_zero_25 ?_
     intro b17 f17
     have g17:=f17
     repeat ((with_reducible replace g17:=fresh_set g17);obtain ⟨g17,_⟩:=g17)
     have:=g17.ne kb6;have:=g17.ne' kb6
     refine nl_ ?_
     iterate 4 refine s1_ ?_
     refine su_ [(0,_),(1,_),(2,_),(3,_),(4,_),(5,_),(6,_),(12,_),(25,_),(13,_),(16,_),(47,_),(17,_),(18,_)] ?_
     refine named (S:=S2) (b:=b17) g17.1 ?_
     intro T17 hT17 kb17
     replace hd2:=hd2.less hT17
     replace hl2:=hl2.less rowR_less hT17
     replace hk2:=hk2.less hT17
     replace kb6:=hT17.own kb6
     replace hd3:=hd3.less hT17
     iterate 4 refine s1_ ?_
     refine ca_ rfl (c4 _ _ _ hd3 hk2) ?_
     rintro _ S4 ⟨v,rfl,hS4,hd4⟩
     obtain ⟨p4,q4,r4,s4,rfl,hE4,hW4⟩:=id hd4
     replace hd2:=hd2.less hS4
     replace hl2:=hl2.less rowR_less hS4
     replace hk2:=hk2.less hS4
     replace kb6:=hS4.own kb6
     replace hd3:=hd3.less hS4
     replace kb17:=hS4.own kb17
     iterate 3 refine s1_ ?_
     refine ARun.alloc (lit_lt rfl) ty_zero_25 ?_
     intro b19 f19
     have g19:=f19
     repeat ((with_reducible replace g19:=fresh_set g19);obtain ⟨g19,_⟩:=g19)
     have:=g19.ne kb6;have:=g19.ne' kb6
     have:=g19.ne kb17;have:=g19.ne' kb17
     refine nl_ ?_
     iterate 4 refine s1_ ?_
     refine su_ [(0,_),(1,_),(2,_),(3,_),(4,_),(5,_),(6,_),(12,_),(25,_),(13,_),(16,_),(47,_),(17,_),(18,_),(19,_),(20,_)] ?_
     refine named (S:=S4) (b:=b19) g19.1 ?_
     intro T19 hT19 kb19
     replace hd2:=hd2.less hT19
     replace hl2:=hl2.less rowR_less hT19
     replace hk2:=hk2.less hT19
     replace kb6:=hT19.own kb6
     replace hd3:=hd3.less hT19
     replace kb17:=hT19.own kb17
     replace hd4:=hd4.less hT19
     iterate 4 refine s1_ ?_
     refine ca_ rfl (c5 _ _ hd4) ?_
     rintro _ S5 ⟨v5,rfl,hS5,hr5⟩
     replace hd2:=hd2.less hS5
     replace hl2:=hl2.less rowR_less hS5
     replace hk2:=hk2.less hS5
     replace kb6:=hS5.own kb6
     replace hd3:=hd3.less hS5
     replace kb17:=hS5.own kb17
     replace hd4:=hd4.less hS5
     replace kb19:=hS5.own kb19
     iterate 9 refine s1_ ?_
     refine su_ [(0,_),(1,_),(2,_),(3,_),(4,_),(5,_),(6,_),(12,_),(25,_),(13,_),(16,_),(47,_),(17,_),(18,_),(19,_),(20,_),(21,_),(22,_),(23,_)] ?_
     iterate 7 refine s1_ ?_
     refine su_ [(0,_),(1,_),(2,_),(3,_),(4,_),(5,_),(6,_),(12,_),(25,_),(13,_),(16,_),(47,_),(17,_),(18,_),(19,_),(20,_),(21,_),(22,_),(23,_),(72,_)] ?_
     refine cT_ ?_
     iterate 16 refine s1_ ?_
     refine ARun.callG 11 true 84 rfl (lit_lt rfl) rfl (lit_lt rfl) go_25 rfl (rnumV_Same l5 l5 _ _ _ hl2 hr5) ?_
     rintro _ Sx ⟨rfl,h1⟩
     rw [h1,decide_eq_true rfl];clear h1 Sx
     iterate 4 refine s1_ ?_
     refine su_ [(0,_),(1,_),(2,_),(3,_),(4,_),(5,_),(6,_),(12,_),(25,_),(13,_),(16,_),(47,_),(17,_),(18,_),(19,_),(20,_),(21,_),(22,_),(23,_),(72,_)] ?_
     iterate 2 refine s1_ ?_
     refine ⟨_,_,⟨_,_,rfl,rfl,rfl⟩,less_,?_⟩
     rfl
    ·rcases hAf.2 q3 with h1 | h1 | h1
     ·subst h1
      refine ACall.enter (rs:=[.tmp 12]) 117 [(0,.agg #[.int .i64 d.size,.slice pe d.ext.length ce,.slice pw d.waits.length cw,.int .i64 d.fuse,.bool d.down]),(1,.string s),(2,.int .i64 w),(3,.slice pa hs0.length ca),(4,.int .i64 f),(5,.slice pk kl.length ck)] Tryz.func6 rfl rfl (Nat.le_of_ble_eq_true rfl) rfl ⟨rfl,rfl,rfl,rfl,rfl,rfl,trivial⟩ ?_
      iterate 2 refine s1_ ?_
      refine k_b5 rfl ?_
      intro b6 f6
      have g6:=f6
      repeat ((with_reducible replace g6:=fresh_set g6);obtain ⟨g6,_⟩:=g6)
      refine nl_ ?_
      iterate 6 refine s1_ ?_
      refine ca_ rfl (rec_lives _) ?_
      rintro _ Sx ⟨rfl,h1⟩
      rw [h1];clear h1 Sx
      iterate 3 refine s1_ ?_
      refine su_ [(0,_),(1,_),(2,_),(3,_),(4,_),(5,_),(6,_),(12,_),(25,_)] ?_
      refine cF_ ?_
      iterate 5 refine s1_ ?_
      refine ca_ rfl ((c0 _ _ hd).frame f6) ?_
      rintro _ Sx ⟨M1,⟨v,rfl,hM1,hd1⟩,fa,h1⟩
      rw [h1];clear h1 Sx
      obtain ⟨p1,q1,r1,s1,rfl,hE1,hW1⟩:=id hd1
      iterate 7 refine s1_ ?_
      refine su_ [(0,_),(1,_),(2,_),(3,_),(4,_),(5,_),(6,_),(12,_),(25,_),(13,_)] ?_
      iterate 4 refine s1_ ?_
      refine ca_ rfl (c1 _ _ (hd1.less less_)) ?_
      rintro _ Sx ⟨rfl,h1⟩
      rw [h1];clear h1 Sx
      iterate 9 refine s1_ ?_
      refine su_ [(0,_),(1,_),(2,_),(3,_),(4,_),(5,_),(6,_),(12,_),(25,_),(13,_),(16,_)] ?_
      iterate 11 refine s1_ ?_
      first|refine k_q 44 ?_|refine rG 44 (Calm.bin rfl rfl (bin_bool (bin_lss _ _) (decide_eq_false q2))) ?_
      iterate 3 refine s1_ ?_
      refine su_ [(0,_),(1,_),(2,_),(3,_),(4,_),(5,_),(6,_),(12,_),(25,_),(13,_),(16,_),(47,_)] ?_
      refine cF_ ?_
      iterate 9 refine s1_ ?_
      refine su_ [(0,_),(1,_),(2,_),(3,_),(4,_),(5,_),(6,_),(12,_),(25,_),(13,_),(16,_),(47,_)] ?_
      have g6:=fa
      have hd2:DkR M1 (.agg #[.int .i64 d1.size,.slice p1 d1.ext.length q1,.slice r1 d1.waits.length s1,.int .i64 f,.bool d1.down]) { d1 with fuse:=f }:=⟨p1,q1,r1,s1,rfl,hE1,hW1⟩
      have hl2:=hl.less rowR_less hM1
      have hk2:=hk.less hM1
      refine named (S:=M1) (b:=b6) g6.1 ?_
      intro T6 hT6 kb6
      replace hd2:=hd2.less hT6
      replace hl2:=hl2.less rowR_less hT6
      replace hk2:=hk2.less hT6
      iterate 6 refine s1_ ?_
      refine ca_ rfl (c3 _ _ _ hd2 hl2) ?_
      rintro _ S2 ⟨v,rfl,hS2,hd3⟩
      obtain ⟨p2,q2',r2,s2,rfl,hE2,hW2⟩:=id hd3
      replace hd2:=hd2.less hS2
      replace hl2:=hl2.less rowR_less hS2
      replace hk2:=hk2.less hS2
      replace kb6:=hS2.own kb6
      iterate 3 refine s1_ ?_
      refine ARun.alloc (lit_lt rfl) ty_zero_25 ?_
      intro b17 f17
      have g17:=f17
      repeat ((with_reducible replace g17:=fresh_set g17);obtain ⟨g17,_⟩:=g17)
      have:=g17.ne kb6;have:=g17.ne' kb6
      refine nl_ ?_
      iterate 4 refine s1_ ?_
      refine su_ [(0,_),(1,_),(2,_),(3,_),(4,_),(5,_),(6,_),(12,_),(25,_),(13,_),(16,_),(47,_),(17,_),(18,_)] ?_
      refine named (S:=S2) (b:=b17) g17.1 ?_
      intro T17 hT17 kb17
      replace hd2:=hd2.less hT17
      replace hl2:=hl2.less rowR_less hT17
      replace hk2:=hk2.less hT17
      replace kb6:=hT17.own kb6
      replace hd3:=hd3.less hT17
      iterate 4 refine s1_ ?_
      refine ca_ rfl (c4 _ _ _ hd3 hk2) ?_
      rintro _ S4 ⟨v,rfl,hS4,hd4⟩
      obtain ⟨p4,q4,r4,s4,rfl,hE4,hW4⟩:=id hd4
      replace hd2:=hd2.less hS4
      replace hl2:=hl2.less rowR_less hS4
      replace hk2:=hk2.less hS4
      replace kb6:=hS4.own kb6
      replace hd3:=hd3.less hS4
      replace kb17:=hS4.own kb17
      iterate 3 refine s1_ ?_
      refine ARun.alloc (lit_lt rfl) ty_zero_25 ?_
      intro b19 f19
      have g19:=f19
      repeat ((with_reducible replace g19:=fresh_set g19);obtain ⟨g19,_⟩:=g19)
      have:=g19.ne kb6;have:=g19.ne' kb6
      have:=g19.ne kb17;have:=g19.ne' kb17
      refine nl_ ?_
      iterate 4 refine s1_ ?_
      refine su_ [(0,_),(1,_),(2,_),(3,_),(4,_),(5,_),(6,_),(12,_),(25,_),(13,_),(16,_),(47,_),(17,_),(18,_),(19,_),(20,_)] ?_
      refine named (S:=S4) (b:=b19) g19.1 ?_
      intro T19 hT19 kb19
      replace hd2:=hd2.less hT19
      replace hl2:=hl2.less rowR_less hT19
      replace hk2:=hk2.less hT19
      replace kb6:=hT19.own kb6
      replace hd3:=hd3.less hT19
      replace kb17:=hT19.own kb17
      replace hd4:=hd4.less hT19
      iterate 4 refine s1_ ?_
      refine ca_ rfl (c5 _ _ hd4) ?_
      rintro _ S5 ⟨v5,rfl,hS5,hr5⟩
      replace hd2:=hd2.less hS5
      replace hl2:=hl2.less rowR_less hS5
      replace hk2:=hk2.less hS5
      replace kb6:=hS5.own kb6
      replace hd3:=hd3.less hS5
      replace kb17:=hS5.own kb17
      replace hd4:=hd4.less hS5
      replace kb19:=hS5.own kb19
      iterate 9 refine s1_ ?_
      refine su_ [(0,_),(1,_),(2,_),(3,_),(4,_),(5,_),(6,_),(12,_),(25,_),(13,_),(16,_),(47,_),(17,_),(18,_),(19,_),(20,_),(21,_),(22,_),(23,_)] ?_
      iterate 4 refine s1_ ?_
      refine rC (Calm.bin rfl rfl (bin_bool (bin_eql _ _) (decide_eq_false q3))) ?_
      iterate 2 refine s1_ ?_
      refine su_ [(0,_),(1,_),(2,_),(3,_),(4,_),(5,_),(6,_),(12,_),(25,_),(13,_),(16,_),(47,_),(17,_),(18,_),(19,_),(20,_),(21,_),(22,_),(23,_),(72,_)] ?_
      refine cF_ ?_
      iterate 35 refine s1_ ?_
      refine su_ [(0,_),(1,_),(2,_),(3,_),(4,_),(5,_),(6,_),(12,_),(25,_),(13,_),(16,_),(47,_),(17,_),(18,_),(19,_),(20,_),(21,_),(22,_),(23,_),(72,_)] ?_
      refine s1_ ?_
      refine ⟨_,_,⟨_,_,rfl,rfl,rfl⟩,less_,?_⟩
      rfl
     ·subst h1
      refine ACall.enter (rs:=[.tmp 12]) 117 [(0,.agg #[.int .i64 d.size,.slice pe d.ext.length ce,.slice pw d.waits.length cw,.int .i64 d.fuse,.bool d.down]),(1,.string s),(2,.int .i64 w),(3,.slice pa hs0.length ca),(4,.int .i64 f),(5,.slice pk kl.length ck)] Tryz.func6 rfl rfl (Nat.le_of_ble_eq_true rfl) rfl ⟨rfl,rfl,rfl,rfl,rfl,rfl,trivial⟩ ?_
      iterate 2 refine s1_ ?_
      refine k_b5 rfl ?_
      intro b6 f6
      have g6:=f6
      repeat ((with_reducible replace g6:=fresh_set g6);obtain ⟨g6,_⟩:=g6)
      refine nl_ ?_
      iterate 6 refine s1_ ?_
      refine ca_ rfl (rec_lives _) ?_
      rintro _ Sx ⟨rfl,h1⟩
      rw [h1];clear h1 Sx
      iterate 3 refine s1_ ?_
      refine su_ [(0,_),(1,_),(2,_),(3,_),(4,_),(5,_),(6,_),(12,_),(25,_)] ?_
      refine cF_ ?_
      iterate 5 refine s1_ ?_
      refine ca_ rfl ((c0 _ _ hd).frame f6) ?_
      rintro _ Sx ⟨M1,⟨v,rfl,hM1,hd1⟩,fa,h1⟩
      rw [h1];clear h1 Sx
      obtain ⟨p1,q1,r1,s1,rfl,hE1,hW1⟩:=id hd1
      iterate 7 refine s1_ ?_
      refine su_ [(0,_),(1,_),(2,_),(3,_),(4,_),(5,_),(6,_),(12,_),(25,_),(13,_)] ?_
      iterate 4 refine s1_ ?_
      refine ca_ rfl (c1 _ _ (hd1.less less_)) ?_
      rintro _ Sx ⟨rfl,h1⟩
      rw [h1];clear h1 Sx
      iterate 9 refine s1_ ?_
      refine su_ [(0,_),(1,_),(2,_),(3,_),(4,_),(5,_),(6,_),(12,_),(25,_),(13,_),(16,_)] ?_
      iterate 11 refine s1_ ?_
      first|refine k_q 44 ?_|refine rG 44 (Calm.bin rfl rfl (bin_bool (bin_lss _ _) (decide_eq_false q2))) ?_
      iterate 3 refine s1_ ?_
      refine su_ [(0,_),(1,_),(2,_),(3,_),(4,_),(5,_),(6,_),(12,_),(25,_),(13,_),(16,_),(47,_)] ?_
      refine cF_ ?_
      iterate 9 refine s1_ ?_
      refine su_ [(0,_),(1,_),(2,_),(3,_),(4,_),(5,_),(6,_),(12,_),(25,_),(13,_),(16,_),(47,_)] ?_
      have g6:=fa
      have hd2:DkR M1 (.agg #[.int .i64 d1.size,.slice p1 d1.ext.length q1,.slice r1 d1.waits.length s1,.int .i64 f,.bool d1.down]) { d1 with fuse:=f }:=⟨p1,q1,r1,s1,rfl,hE1,hW1⟩
      have hl2:=hl.less rowR_less hM1
      have hk2:=hk.less hM1
      refine named (S:=M1) (b:=b6) g6.1 ?_
      intro T6 hT6 kb6
      replace hd2:=hd2.less hT6
      replace hl2:=hl2.less rowR_less hT6
      replace hk2:=hk2.less hT6
      iterate 6 refine s1_ ?_
      refine ca_ rfl (c3 _ _ _ hd2 hl2) ?_
      rintro _ S2 ⟨v,rfl,hS2,hd3⟩
      obtain ⟨p2,q2',r2,s2,rfl,hE2,hW2⟩:=id hd3
      replace hd2:=hd2.less hS2
      replace hl2:=hl2.less rowR_less hS2
      replace hk2:=hk2.less hS2
      replace kb6:=hS2.own kb6
      iterate 3 refine s1_ ?_
      refine ARun.alloc (lit_lt rfl) ty_zero_25 ?_
      intro b17 f17
      have g17:=f17
      repeat ((with_reducible replace g17:=fresh_set g17);obtain ⟨g17,_⟩:=g17)
      have:=g17.ne kb6;have:=g17.ne' kb6
      refine nl_ ?_
      iterate 4 refine s1_ ?_
      refine su_ [(0,_),(1,_),(2,_),(3,_),(4,_),(5,_),(6,_),(12,_),(25,_),(13,_),(16,_),(47,_),(17,_),(18,_)] ?_
      refine named (S:=S2) (b:=b17) g17.1 ?_
      intro T17 hT17 kb17
      replace hd2:=hd2.less hT17
      replace hl2:=hl2.less rowR_less hT17
      replace hk2:=hk2.less hT17
      replace kb6:=hT17.own kb6
      replace hd3:=hd3.less hT17
      iterate 4 refine s1_ ?_
      refine ca_ rfl (c4 _ _ _ hd3 hk2) ?_
      rintro _ S4 ⟨v,rfl,hS4,hd4⟩
      obtain ⟨p4,q4,r4,s4,rfl,hE4,hW4⟩:=id hd4
      replace hd2:=hd2.less hS4
      replace hl2:=hl2.less rowR_less hS4
      replace hk2:=hk2.less hS4
      replace kb6:=hS4.own kb6
      replace hd3:=hd3.less hS4
      replace kb17:=hS4.own kb17
      iterate 3 refine s1_ ?_
      refine ARun.alloc (lit_lt rfl) ty_zero_25 ?_
      intro b19 f19
      have g19:=f19
      repeat ((with_reducible replace g19:=fresh_set g19);obtain ⟨g19,_⟩:=g19)
      have:=g19.ne kb6;have:=g19.ne' kb6
      have:=g19.ne kb17;have:=g19.ne' kb17
      refine nl_ ?_
      iterate 4 refine s1_ ?_
      refine su_ [(0,_),(1,_),(2,_),(3,_),(4,_),(5,_),(6,_),(12,_),(25,_),(13,_),(16,_),(47,_),(17,_),(18,_),(19,_),(20,_)] ?_
      refine named (S:=S4) (b:=b19) g19.1 ?_
      intro T19 hT19 kb19
      replace hd2:=hd2.less hT19
      replace hl2:=hl2.less rowR_less hT19
      replace hk2:=hk2.less hT19
      replace kb6:=hT19.own kb6
      replace hd3:=hd3.less hT19
      replace kb17:=hT19.own kb17
      replace hd4:=hd4.less hT19
      iterate 4 refine s1_ ?_
      refine ca_ rfl (c5 _ _ hd4) ?_
      rintro _ S5 ⟨v5,rfl,hS5,hr5⟩
      replace hd2:=hd2.less hS5
      replace hl2:=hl2.less rowR_less hS5
      replace hk2:=hk2.less hS5
      replace kb6:=hS5.own kb6
      replace hd3:=hd3.less hS5
      replace kb17:=hS5.own kb17
      replace hd4:=hd4.less hS5
      replace kb19:=hS5.own kb19
      iterate 9 refine s1_ ?_
      refine su_ [(0,_),(1,_),(2,_),(3,_),(4,_),(5,_),(6,_),(12,_),(25,_),(13,_),(16,_),(47,_),(17,_),(18,_),(19,_),(20,_),(21,_),(22,_),(23,_)] ?_
      iterate 4 refine s1_ ?_
      refine rC (Calm.bin rfl rfl (bin_bool (bin_eql _ _) (decide_eq_false q3))) ?_
      iterate 2 refine s1_ ?_
      refine su_ [(0,_),(1,_),(2,_),(3,_),(4,_),(5,_),(6,_),(12,_),(25,_),(13,_),(16,_),(47,_),(17,_),(18,_),(19,_),(20,_),(21,_),(22,_),(23,_),(72,_)] ?_
      refine cF_ ?_
      iterate 35 refine s1_ ?_
      refine su_ [(0,_),(1,_),(2,_),(3,_),(4,_),(5,_),(6,_),(12,_),(25,_),(13,_),(16,_),(47,_),(17,_),(18,_),(19,_),(20,_),(21,_),(22,_),(23,_),(72,_)] ?_
      refine s1_ ?_
      refine ⟨_,_,⟨_,_,rfl,rfl,rfl⟩,less_,?_⟩
      rfl
     ·obtain ⟨h0,⟨h1,h2,h3⟩,h4⟩:=h1
      subst h0 h1 h2 h3
      obtain ⟨w,rfl⟩:=Int.eq_ofNat_of_zero_le (show 0≤w by omega)
      rw [Int.toNat_natCast] at c5
      clear hAf h4
      refine ACall.enter (rs:=[.tmp 12]) 117 [(0,.agg #[.int .i64 d.size,.slice pe d.ext.length ce,.slice pw d.waits.length cw,.int .i64 d.fuse,.bool d.down]),(1,.string s),(2,.int .i64 w),(3,.slice pa hs0.length ca),(4,.int .i64 f),(5,.slice pk kl.length ck)] Tryz.func6 rfl rfl (Nat.le_of_ble_eq_true rfl) rfl ⟨rfl,rfl,rfl,rfl,rfl,rfl,trivial⟩ ?_
      iterate 2 refine s1_ ?_
      refine k_b5 rfl ?_
      intro b6 f6
      have g6:=f6
      repeat ((with_reducible replace g6:=fresh_set g6);obtain ⟨g6,_⟩:=g6)
      refine nl_ ?_
      iterate 6 refine s1_ ?_
      refine ca_ rfl (rec_lives _) ?_
      rintro _ Sx ⟨rfl,h1⟩
      rw [h1];clear h1 Sx
      iterate 3 refine s1_ ?_
      refine su_ [(0,_),(1,_),(2,_),(3,_),(4,_),(5,_),(6,_),(12,_),(25,_)] ?_
      refine cF_ ?_
      iterate 5 refine s1_ ?_
      refine ca_ rfl ((c0 _ _ hd).frame f6) ?_
      rintro _ Sx ⟨M1,⟨v,rfl,hM1,hd1⟩,fa,h1⟩
      rw [h1];clear h1 Sx
      obtain ⟨p1,q1,r1,s1,rfl,hE1,hW1⟩:=id hd1
      iterate 7 refine s1_ ?_
      refine su_ [(0,_),(1,_),(2,_),(3,_),(4,_),(5,_),(6,_),(12,_),(25,_),(13,_)] ?_
      iterate 4 refine s1_ ?_
      refine ca_ rfl (c1 _ _ (hd1.less less_)) ?_
      rintro _ Sx ⟨rfl,h1⟩
      rw [h1];clear h1 Sx
      iterate 9 refine s1_ ?_
      refine su_ [(0,_),(1,_),(2,_),(3,_),(4,_),(5,_),(6,_),(12,_),(25,_),(13,_),(16,_)] ?_
      iterate 11 refine s1_ ?_
      first|refine k_q 44 ?_|refine rG 44 (Calm.bin rfl rfl (bin_bool (bin_lss _ _) (decide_eq_false q2))) ?_
      iterate 3 refine s1_ ?_
      refine su_ [(0,_),(1,_),(2,_),(3,_),(4,_),(5,_),(6,_),(12,_),(25,_),(13,_),(16,_),(47,_)] ?_
      refine cF_ ?_
      iterate 9 refine s1_ ?_
      refine su_ [(0,_),(1,_),(2,_),(3,_),(4,_),(5,_),(6,_),(12,_),(25,_),(13,_),(16,_),(47,_)] ?_
      have g6:=fa
      have hd2:DkR M1 (.agg #[.int .i64 d1.size,.slice p1 d1.ext.length q1,.slice r1 d1.waits.length s1,.int .i64 f,.bool d1.down]) { d1 with fuse:=f }:=⟨p1,q1,r1,s1,rfl,hE1,hW1⟩
      have hl2:=hl.less rowR_less hM1
      have hk2:=hk.less hM1
      refine named (S:=M1) (b:=b6) g6.1 ?_
      intro T6 hT6 kb6
      replace hd2:=hd2.less hT6
      replace hl2:=hl2.less rowR_less hT6
      replace hk2:=hk2.less hT6
      iterate 6 refine s1_ ?_
      refine ca_ rfl (c3 _ _ _ hd2 hl2) ?_
      rintro _ S2 ⟨v,rfl,hS2,hd3⟩
      obtain ⟨p2,q2',r2,s2,rfl,hE2,hW2⟩:=id hd3
      replace hd2:=hd2.less hS2
      replace hl2:=hl2.less rowR_less hS2
      replace hk2:=hk2.less hS2
      replace kb6:=hS2.own kb6
      iterate 3 refine s1_ ?_
      refine ARun.alloc (lit_lt rfl) ty_zero_25 ?_
      intro b17 f17
      have g17:=f17
      repeat ((with_reducible replace g17:=fresh_set g17);obtain ⟨g17,_⟩:=g17)
      have:=g17.ne kb6;have:=g17.ne' kb6
      refine nl_ ?_
      iterate 4 refine s1_ ?_
      refine su_ [(0,_),(1,_),(2,_),(3,_),(4,_),(5,_),(6,_),(12,_),(25,_),(13,_),(16,_),(47,_),(17,_),(18,_)] ?_
      refine named (S:=S2) (b:=b17) g17.1 ?_
      intro T17 hT17 kb17
      replace hd2:=hd2.less hT17
      replace hl2:=hl2.less rowR_less hT17
      replace hk2:=hk2.less hT17
      replace kb6:=hT17.own kb6
      replace hd3:=hd3.less hT17
      iterate 4 refine s1_ ?_
      refine ca_ rfl (c4 _ _ _ hd3 hk2) ?_
      rintro _ S4 ⟨v,rfl,hS4,hd4⟩
      obtain ⟨p4,q4,r4,s4,rfl,hE4,hW4⟩:=id hd4
      replace hd2:=hd2.less hS4
      replace hl2:=hl2.less rowR_less hS4
      replace hk2:=hk2.less hS4
      replace kb6:=hS4.own kb6
      replace hd3:=hd3.less hS4
      replace kb17:=hS4.own kb17
      iterate 3 refine s1_ ?_
      refine ARun.alloc (lit_lt rfl) ty_zero_25 ?_
      intro b19 f19
      have g19:=f19
      repeat ((with_reducible replace g19:=fresh_set g19);obtain ⟨g19,_⟩:=g19)
      have:=g19.ne kb6;have:=g19.ne' kb6
      have:=g19.ne kb17;have:=g19.ne' kb17
      refine nl_ ?_
      iterate 4 refine s1_ ?_
      refine su_ [(0,_),(1,_),(2,_),(3,_),(4,_),(5,_),(6,_),(12,_),(25,_),(13,_),(16,_),(47,_),(17,_),(18,_),(19,_),(20,_)] ?_
      refine named (S:=S4) (b:=b19) g19.1 ?_
      intro T19 hT19 kb19
      replace hd2:=hd2.less hT19
      replace hl2:=hl2.less rowR_less hT19
      replace hk2:=hk2.less hT19
      replace kb6:=hT19.own kb6
      replace hd3:=hd3.less hT19
      replace kb17:=hT19.own kb17
      replace hd4:=hd4.less hT19
      iterate 4 refine s1_ ?_
      refine ca_ rfl (c5 _ _ hd4) ?_
      rintro _ S5 ⟨v5,rfl,hS5,hr5⟩
      replace hd2:=hd2.less hS5
      replace hl2:=hl2.less rowR_less hS5
      replace hk2:=hk2.less hS5
      replace kb6:=hS5.own kb6
      replace hd3:=hd3.less hS5
      replace kb17:=hS5.own kb17
      replace hd4:=hd4.less hS5
      replace kb19:=hS5.own kb19
      iterate 9 refine s1_ ?_
      refine su_ [(0,_),(1,_),(2,_),(3,_),(4,_),(5,_),(6,_),(12,_),(25,_),(13,_),(16,_),(47,_),(17,_),(18,_),(19,_),(20,_),(21,_),(22,_),(23,_)] ?_
      iterate 7 refine s1_ ?_
      refine su_ [(0,_),(1,_),(2,_),(3,_),(4,_),(5,_),(6,_),(12,_),(25,_),(13,_),(16,_),(47,_),(17,_),(18,_),(19,_),(20,_),(21,_),(22,_),(23,_),(72,_)] ?_
      refine cF_ ?_
      iterate 28 refine s1_ ?_
      refine ARun.callG 21 true 110 rfl (lit_lt rfl) rfl (lit_lt rfl) go_25 rfl (rnumV_Same l5 l5 _ _ _ hl2 hr5) ?_
      rintro _ Sx ⟨rfl,h1⟩
      rw [h1,decide_eq_true rfl];clear h1 Sx
      iterate 6 refine s1_ ?_
      refine su_ [(0,_),(1,_),(2,_),(3,_),(4,_),(5,_),(6,_),(12,_),(25,_),(13,_),(16,_),(47,_),(17,_),(18,_),(19,_),(20,_),(21,_),(22,_),(23,_),(72,_)] ?_
      refine s1_ ?_
      refine ⟨_,_,⟨_,_,rfl,rfl,rfl⟩,less_,?_⟩
      rfl
  ·skip
   refine ACall.enter (rs:=[.tmp 12]) 117 [(0,.agg #[.int .i64 d.size,.slice pe d.ext.length ce,.slice pw d.waits.length cw,.int .i64 d.fuse,.bool d.down]),(1,.string s),(2,.int .i64 w),(3,.slice pa hs0.length ca),(4,.int .i64 f),(5,.slice pk kl.length ck)] Tryz.func6 rfl rfl (Nat.le_of_ble_eq_true rfl) rfl ⟨rfl,rfl,rfl,rfl,rfl,rfl,trivial⟩ ?_
   iterate 2 refine s1_ ?_
   refine k_b5 rfl ?_
   intro b6 f6
   have g6:=f6
   repeat ((with_reducible replace g6:=fresh_set g6);obtain ⟨g6,_⟩:=g6)
   refine nl_ ?_
   iterate 6 refine s1_ ?_
   refine ca_ rfl (rec_lives _) ?_
   rintro _ Sx ⟨rfl,h1⟩
   rw [h1];clear h1 Sx
   iterate 3 refine s1_ ?_
   refine su_ [(0,_),(1,_),(2,_),(3,_),(4,_),(5,_),(6,_),(12,_),(25,_)] ?_
   refine cF_ ?_
   iterate 5 refine s1_ ?_
   refine ca_ rfl ((c0 _ _ hd).frame f6) ?_
   rintro _ Sx ⟨M1,⟨v,rfl,hM1,hd1⟩,fa,h1⟩
   rw [h1];clear h1 Sx
   obtain ⟨p1,q1,r1,s1,rfl,hE1,hW1⟩:=id hd1
   iterate 7 refine s1_ ?_
   refine su_ [(0,_),(1,_),(2,_),(3,_),(4,_),(5,_),(6,_),(12,_),(25,_),(13,_)] ?_
   iterate 4 refine s1_ ?_
   refine ca_ rfl (c1 _ _ (hd1.less less_)) ?_
   rintro _ Sx ⟨rfl,h1⟩
   rw [h1];clear h1 Sx
   iterate 9 refine s1_ ?_
   refine su_ [(0,_),(1,_),(2,_),(3,_),(4,_),(5,_),(6,_),(12,_),(25,_),(13,_),(16,_)] ?_
   iterate 7 refine s1_ ?_
   first|refine k_q 40 ?_|refine rG 40 (Calm.bin rfl rfl (bin_bool (bin_neq _ _) (bnot_dec_true qn))) ?_
   iterate 7 refine s1_ ?_
   refine su_ [(0,_),(1,_),(2,_),(3,_),(4,_),(5,_),(6,_),(12,_),(25,_),(13,_),(16,_),(47,_)] ?_
   refine cT_ ?_
   iterate 7 refine s1_ ?_
   refine ⟨_,_,⟨_,_,rfl,rfl,rfl⟩,less_,?_⟩
   rfl
 ·have hze:Dz (opened d (syncD d)).1:=by
   unfold opened at q ⊢
   rcases openD_or d with ⟨ho,hR'⟩ | ⟨ho,hR,hdn⟩ | ⟨ho,hR,hdn⟩ <;> rw [ho] at q ⊢
   ·rw [if_neg (by simp)]
    exact ⟨by decide,by decide,by decide,by decide,by decide,by decide,fun x hx=>(by cases hx),fun w hw=>(by cases hw)⟩
   ·rw [if_neg (by simp)];exact hz
   ·exact absurd rfl q
  generalize opened d (syncD d)=r at *
  obtain ⟨e,er⟩:=r
  simp only at q c0 hze
  have c1:=fun v S h=>rec_Head v e s S h hze
  simp only [formV] at c1
  generalize headP e s=u at *
  refine ACall.enter (rs:=[.tmp 12]) 117 [(0,.agg #[.int .i64 d.size,.slice pe d.ext.length ce,.slice pw d.waits.length cw,.int .i64 d.fuse,.bool d.down]),(1,.string s),(2,.int .i64 w),(3,.slice pa hs0.length ca),(4,.int .i64 f),(5,.slice pk kl.length ck)] Tryz.func6 rfl rfl (Nat.le_of_ble_eq_true rfl) rfl ⟨rfl,rfl,rfl,rfl,rfl,rfl,trivial⟩ ?_
  iterate 2 refine s1_ ?_
  refine k_b5 rfl ?_
  intro b6 f6
  have g6:=f6
  repeat ((with_reducible replace g6:=fresh_set g6);obtain ⟨g6,_⟩:=g6)
  refine nl_ ?_
  iterate 6 refine s1_ ?_
  refine ca_ rfl (rec_lives _) ?_
  rintro _ Sx ⟨rfl,h1⟩
  rw [h1];clear h1 Sx
  iterate 3 refine s1_ ?_
  refine su_ [(0,_),(1,_),(2,_),(3,_),(4,_),(5,_),(6,_),(12,_),(25,_)] ?_
  refine cF_ ?_
  iterate 5 refine s1_ ?_
  refine ca_ rfl ((c0 _ _ hd).frame f6) ?_
  rintro _ Sx ⟨M1,⟨v,rfl,hM1,hd1⟩,fa,h1⟩
  rw [h1];clear h1 Sx
  obtain ⟨p1,q1,r1,s1,rfl,hE1,hW1⟩:=id hd1
  iterate 7 refine s1_ ?_
  refine su_ [(0,_),(1,_),(2,_),(3,_),(4,_),(5,_),(6,_),(12,_),(25,_),(13,_)] ?_
  iterate 4 refine s1_ ?_
  refine ca_ rfl (c1 _ _ (hd1.less less_)) ?_
  rintro _ Sx ⟨rfl,h1⟩
  rw [h1];clear h1 Sx
  iterate 9 refine s1_ ?_
  refine su_ [(0,_),(1,_),(2,_),(3,_),(4,_),(5,_),(6,_),(12,_),(25,_),(13,_),(16,_)] ?_
  iterate 4 refine s1_ ?_
  refine rC (Calm.bin rfl rfl (bin_bool (bin_neq _ _) (bnot_dec_true q))) ?_
  iterate 10 refine s1_ ?_
  refine su_ [(0,_),(1,_),(2,_),(3,_),(4,_),(5,_),(6,_),(12,_),(25,_),(13,_),(16,_),(47,_)] ?_
  refine cT_ ?_
  iterate 7 refine s1_ ?_
  refine ⟨_,_,⟨_,_,rfl,rfl,rfl⟩,less_,?_⟩
  rfl
end Rec
theorem walk_RecsWhole (cs : List Value) (y : D) (s : ByteArray) (w : Int) (pa : Option Addr) (la ca : Nat) (l : List (List Nat)) (f : Int) (vk : Value) (kl : List Bool) (W : World) (w0 : DkV (roM W) cs y) (w1 : s.size ≤ maxLen) (z1 : s.size < 140737488355328) (w2 : (Lit.int .i64 w).wf = true) (w3 : SlOf (fun S v l => Sl 1 (fun x : Nat => [Value.int .u64 (x : Int)]) S v l) (roM W) (.slice pa la ca) l) (wb : ∀ x ∈ l, ∀ n ∈ x, n < 18446744073709551616) (zl : l.length ≤ 5864062014634) (zr : ∀ x ∈ l, x.length ≤ 17592186043904) (w4 : (Lit.int .i64 f).wf = true) (w5 : BoolsV (roM W) [vk] kl) :
  Calls Tryz.prog 6 #[.agg cs.toArray,.string s,.int .i64 w,.slice pa la ca,.int .i64 f,vk] W fun e w'=>e = .returned (.bool true)∧Below W.heap.size W w':=by
 obtain ⟨v2,e2,hv2⟩:=w5
 cases e2
 exact ACall.callsW (Rec.law_RecsWhole _ _ _ y s w l f kl _ w0.1 w0.2 w3 wb (wfi w4).2 hv2)
end Go.Proofs.YtceikpipmcadmaaGreatDoor
