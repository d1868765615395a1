/-
  Texts that belong together: Sort3OB, OdFB, OrdMath2, Od7, BxMath, Zr1, Sg1, Mt1, BldLib, Bld, Bld2, PkMath4, StMath4, SortS, SortS2, SortS3, SortS4.
-/
import Derived.Test.YtckloanlkpchoaaGreatDoorBTb5
import Derived.Lib.BytesEntry
import Derived.Lib.AppendStr
import Derived.Lib.UnsafeStr
import Derived.Lib.Builder
import Derived.LaidEqlPtr
set_option linter.unusedVariables false
set_option linter.unusedSimpArgs false
set_option linter.unusedSectionVars false
namespace Go.Proofs.YtckloanlkpchoaaGreatDoor
open Go.RowKit
open Mv Srt
open Go.Sort (swp insInner insOuter insertionSort siftDown heapBuild heapPop heapSort scanUp scanDown partLoop partition partEqLoop partitionEqual scanSorted shiftDown shiftUp partialIns partialInsertionSort order2 median medianAdjacent choosePivot reverseLoop reverseRange breakStep breakPatterns pdq bitsLen xorNext Hint)
set_option maxRecDepth 4000
set_option maxHeartbeats 8000000 in
theorem soB_pdq {S : Mem} (b room n cap : Nat) (hb : Fresh S b) (hn : n ≤ 1048576) : ∀ (m : Nat) (d : Array Nat) (R : Rw (fun _ => True) n d) (ia ie il : Int) (a e limit : Nat), ia = a → ie = e → il = limit → a ≤ e → e ≤ n → limit ≤ 1000 → e - a = m →
  ACall Tryz.prog 73 #[.slice (some ⟨b,0,none⟩) n cap,.int .i64 ia,.int .i64 ie,.int .i64 il] (S.set b ⟨5,(d).toList.map encB,room⟩) fun r S'=>S'=S.set b ⟨5,(pdq ltN d a e limit true true).toList.map encB,room⟩∧Rw (fun _=>True) n (pdq ltN d a e limit true true):=by
 intro m
 induction m using Nat.strongRecOn with
 | _ m ih =>
 intro d R ia ie il a e limit ha he hl hae hen hlim hm
 subst ha he hl
 refine ACall.enter (rs:=[]) 134 [(0,.slice (some ⟨b,0,none⟩) n cap),(1,.int .i64 a),(2,.int .i64 e),(3,.int .i64 limit)] Tryz.func73 rfl rfl (Nat.le_of_ble_eq_true rfl) rfl ⟨rfl,rfl,rfl,rfl,trivial⟩ ?_
 iterate 11 refine s1_ ?_
 refine AWP.loop (X:=Nat × Nat × Nat × Bool × Bool × Array Nat) (fun x=>[(0,.slice (some ⟨b,0,none⟩) n cap),(1,.int .i64 x.1),(2,.int .i64 x.2.1),(3,.int .i64 x.2.2.1),(8,.bool x.2.2.2.1),(9,.bool x.2.2.2.2.1)]) (fun x=>S.set b ⟨5,(x.2.2.2.2.2).toList.map encB,room⟩) (fun x=>x.1≤x.2.1∧x.2.1≤e∧Rw (fun _=>True) n x.2.2.2.2.2∧x.2.1-x.1≤m∧x.2.2.1≤limit∧pdq ltN x.2.2.2.2.2 x.1 x.2.1 x.2.2.1 x.2.2.2.1 x.2.2.2.2.1=pdq ltN d a e limit true true) (fun x=>x.2.1-x.1) ((a,e,limit,true,true,d)) ⟨sb_,sb_,sb_,sb_,sb_,sb_,trivial⟩ (Mem.Less.refl _) (⟨hae,Nat.le_refl _,R,by dsimp only;omega,Nat.le_refl _,rfl⟩) ?_
 rintro ⟨a1,e1,l1,w1,w2,d0⟩ ⟨h1,h2,R0,h4,h5,hq⟩
 (try dsimp only at *)
 have z0:=R0.size
 by_cases h12:e1-a1≤12
 ·iterate 9 refine s1_ ?_
  refine su_ [(0,_),(1,_),(2,_),(3,_),(8,_),(9,_),(10,_)] ?_
  iterate 7 refine s1_ ?_
  refine su_ [(0,_),(1,_),(2,_),(3,_),(8,_),(9,_),(10,_),(23,_)] ?_
  refine cT_ ?_
  iterate 5 refine s1_ ?_
  refine ca_ rfl (soB_ins b room n cap hb hn d0 R0 _ _ a1 e1 rfl rfl (by omega) (by omega)) ?_
  rintro _ _ ⟨rfl,R1⟩
  iterate 2 refine s1_ ?_
  refine su_ [(0,_),(1,_),(2,_),(3,_),(8,_),(9,_),(10,_),(23,_)] ?_
  iterate 5 refine s1_ ?_
  refine ⟨_,_,rfl,Mem.Less.refl _,?_⟩
  rw [← hq,pdq_ins ltN h12];exact ⟨rfl,R1⟩
 ·iterate 9 refine s1_ ?_
  refine su_ [(0,_),(1,_),(2,_),(3,_),(8,_),(9,_),(10,_)] ?_
  iterate 7 refine s1_ ?_
  refine su_ [(0,_),(1,_),(2,_),(3,_),(8,_),(9,_),(10,_),(23,_)] ?_
  refine cF_ ?_
  by_cases hl0:l1=0
  ·iterate 9 refine s1_ ?_
   refine su_ [(0,_),(1,_),(2,_),(3,_),(8,_),(9,_),(10,_),(23,_),(29,_)] ?_
   refine cT_ ?_
   iterate 5 refine s1_ ?_
   refine ca_ rfl (soB_heap b room n cap hb hn d0 R0 _ _ a1 e1 rfl rfl (by omega) (by omega)) ?_
   rintro _ _ ⟨rfl,R1⟩
   iterate 2 refine s1_ ?_
   refine su_ [(0,_),(1,_),(2,_),(3,_),(8,_),(9,_),(10,_),(23,_),(29,_)] ?_
   iterate 5 refine s1_ ?_
   refine ⟨_,_,rfl,Mem.Less.refl _,?_⟩
   rw [← hq,pdq_heap ltN h12 hl0];exact ⟨rfl,R1⟩
  ·iterate 9 refine s1_ ?_
   refine su_ [(0,_),(1,_),(2,_),(3,_),(8,_),(9,_),(10,_),(23,_),(29,_)] ?_
   refine cF_ ?_
   rw [pdq_1 ltN h12 hl0] at hq
   iterate 9 refine s1_ ?_
   refine su_ [(0,_),(1,_),(2,_),(3,_),(8,_),(9,_),(10,_),(23,_),(29,_),(35,_)] ?_
   refine AWP.join (X:=Nat × Array Nat) (fun x=>[(0,.slice (some ⟨b,0,none⟩) n cap),(1,.int .i64 a1),(2,.int .i64 e1),(3,.int .i64 x.1),(8,.bool w1),(9,.bool w2),(10,.int .i64 ((e1-a1:Nat):Int))]) (fun x=>S.set b ⟨5,(x.2).toList.map encB,room⟩) (fun x=>x.1≤l1∧Rw (fun _=>True) n x.2∧pdq1 ltN x.2 a1 e1 x.1 w1 w2=pdq ltN d a e limit true true) ?_ ?_
   ·cases w1
    ·refine cT_ ?_
     iterate 5 refine s1_ ?_
     refine ca_ rfl (soB_brk b room n cap hb hn d0 R0 _ _ a1 e1 rfl rfl (by omega) (by omega)) ?_
     rintro _ _ ⟨rfl,R1⟩
     iterate 2 refine s1_ ?_
     refine su_ [(0,_),(1,_),(2,_),(3,_),(8,_),(9,_),(10,_),(23,_),(29,_),(35,_)] ?_
     iterate 5 refine s1_ ?_
     refine ⟨(l1-1,breakPatterns d0 a1 e1),?_,?_,?_⟩
     all_goals (try dsimp only)
     ·exact ⟨by omega,R1,hq⟩
     ·exact ⟨sb_,sb_,sb_,sb_,sb_,sb_,sb_,trivial⟩
     ·exact Mem.Less.refl _
    ·refine cF_ ?_
     refine s1_ ?_
     refine ⟨(l1,d0),?_,?_,?_⟩
     all_goals (try dsimp only)
     ·exact ⟨Nat.le_refl _,R0,hq⟩
     ·exact ⟨sb_,sb_,sb_,sb_,sb_,sb_,sb_,trivial⟩
     ·exact Mem.Less.refl _
   rintro ⟨l2,d1⟩ ⟨k1,R1,hq⟩
   intro _ _ hs_ hl_
   (try dsimp only at *)
   refine athen_n ?_
   refine AWP.sub _ hs_ (AWP.less _ hl_ ?_)
   clear hs_ hl_
   have z1:=R1.size
   obtain ⟨⟨p0,ht⟩,hpc⟩ : ∃ q,q=choosePivot ltN d1 a1 e1:=⟨_,rfl⟩
   iterate 5 refine s1_ ?_
   refine ca_ rfl ((hpc ▸ soB_pivot b room n cap hb hn d1 R1 _ _ a1 e1 rfl rfl (by omega) (by omega))) ?_
   rintro _ _ ⟨rfl,rfl,g1,g2⟩
   dsimp only at g1 g2
   rw [pdq1,← hpc] at hq
   dsimp only at hq
   iterate 7 refine s1_ ?_
   refine su_ [(0,_),(1,_),(2,_),(3,_),(8,_),(9,_),(10,_),(11,_),(12,_)] ?_
   iterate 7 refine s1_ ?_
   refine su_ [(0,_),(1,_),(2,_),(3,_),(8,_),(9,_),(10,_),(11,_),(12,_),(50,_)] ?_
   refine AWP.join (X:=Nat × Hint × Array Nat) (fun x=>[(0,.slice (some ⟨b,0,none⟩) n cap),(1,.int .i64 a1),(2,.int .i64 e1),(3,.int .i64 l2),(8,.bool w1),(9,.bool w2),(10,.int .i64 ((e1-a1:Nat):Int)),(11,.int .i64 x.1),(12,.int .i64 (hintI x.2.1))]) (fun x=>S.set b ⟨5,(x.2.2).toList.map encB,room⟩) (fun x=>a1≤x.1∧x.1<e1∧Rw (fun _=>True) n x.2.2∧pdq2 ltN x.2.2 a1 e1 l2 w1 w2 x.1 x.2.1=pdq ltN d a e limit true true) ?_ ?_
   ·by_cases hde:ht = .decreasing
    ·subst hde
     refine cT_ ?_
     iterate 5 refine s1_ ?_
     refine ca_ rfl (soB_rev b room n cap hb hn d1 R1 _ _ a1 e1 rfl rfl (by omega) (by omega)) ?_
     rintro _ _ ⟨rfl,R2⟩
     iterate 2 refine s1_ ?_
     refine su_ [(0,_),(1,_),(2,_),(3,_),(8,_),(9,_),(10,_),(11,_),(12,_),(50,_)] ?_
     iterate 11 refine s1_ ?_
     refine su_ [(0,_),(1,_),(2,_),(3,_),(8,_),(9,_),(10,_),(11,_),(12,_),(50,_)] ?_
     iterate 3 refine s1_ ?_
     refine ⟨(e1-1-(p0-a1),.increasing,reverseRange d1 a1 e1),?_,?_,?_⟩
     all_goals (try dsimp only)
     ·exact ⟨by omega,by omega,R2,by rw [if_pos rfl] at hq;exact hq⟩
     ·exact ⟨sb_,sb_,sb_,sb_,sb_,sb_,sb_,sb_,sb_,trivial⟩
     ·exact Mem.Less.refl _
    ·have hni:=hint_ne hde
     refine cF_ ?_
     refine s1_ ?_
     refine ⟨(p0,ht,d1),?_,?_,?_⟩
     all_goals (try dsimp only)
     ·exact ⟨g1,g2,R1,by rw [if_neg hde] at hq;exact hq⟩
     ·exact ⟨sb_,sb_,sb_,sb_,sb_,sb_,sb_,sb_,sb_,trivial⟩
     ·exact Mem.Less.refl _
   rintro ⟨pv,hi,d2⟩ ⟨g1,g2,R2,hq⟩
   intro _ _ hs_ hl_
   (try dsimp only at *)
   refine athen_n ?_
   refine AWP.sub _ hs_ (AWP.less _ hl_ ?_)
   clear hs_ hl_
   have z2:=R2.size
   have hh1:=hint_1 hi
   iterate 2 refine s1_ ?_
   refine AWP.join (X:=Bool) (fun x=>[(0,.slice (some ⟨b,0,none⟩) n cap),(1,.int .i64 a1),(2,.int .i64 e1),(3,.int .i64 l2),(8,.bool w1),(9,.bool w2),(10,.int .i64 ((e1-a1:Nat):Int)),(11,.int .i64 pv),(68,.bool x)]) (fun x=>S.set b ⟨5,(d2).toList.map encB,room⟩) (fun x=>x=(w1 && w2 && decide (hi = .increasing))) ?_ ?_
   ·cases w1
    ·iterate 10 refine s1_ ?_
     refine ⟨false,?_,?_,?_⟩
     all_goals (try dsimp only)
     ·rfl
     ·exact ⟨sb_,sb_,sb_,sb_,sb_,sb_,sb_,sb_,sb_,trivial⟩
     ·exact Mem.Less.refl _
    ·cases w2
     ·iterate 10 refine s1_ ?_
      refine ⟨false,?_,?_,?_⟩
      all_goals (try dsimp only)
      ·rfl
      ·exact ⟨sb_,sb_,sb_,sb_,sb_,sb_,sb_,sb_,sb_,trivial⟩
      ·exact Mem.Less.refl _
     ·iterate 7 refine s1_ ?_
      first|refine k_q 65 ?_|refine rG 65 (Calm.bin rfl rfl (bin_bool (bin_eql _ _) hh1)) ?_
      iterate 2 refine s1_ ?_
      refine ⟨(decide (hi = .increasing)),?_,?_,?_⟩
      all_goals (try dsimp only)
      ·simp
      ·exact ⟨sb_,sb_,sb_,sb_,sb_,sb_,sb_,sb_,sb_,trivial⟩
      ·exact Mem.Less.refl _
   rintro x hx
   intro _ _ hs_ hl_
   (try dsimp only at *)
   refine athen_n ?_
   refine AWP.sub _ hs_ (AWP.less _ hl_ ?_)
   clear hs_ hl_
   rw [pdq2,← hx] at hq
   refine AWP.join (X:=Array Nat) (fun x=>[(0,.slice (some ⟨b,0,none⟩) n cap),(1,.int .i64 a1),(2,.int .i64 e1),(3,.int .i64 l2),(8,.bool w1),(9,.bool w2),(10,.int .i64 ((e1-a1:Nat):Int)),(11,.int .i64 pv)]) (fun x=>S.set b ⟨5,(x).toList.map encB,room⟩) (fun x=>Rw (fun _=>True) n x∧pdq3 ltN x a1 e1 l2 w1 w2 pv=pdq ltN d a e limit true true) ?_ ?_
   ·cases x
    ·refine cF_ ?_
     refine s1_ ?_
     refine ⟨d2,?_,?_,?_⟩
     all_goals (try dsimp only)
     ·exact ⟨R2,hq⟩
     ·exact ⟨sb_,sb_,sb_,sb_,sb_,sb_,sb_,sb_,trivial⟩
     ·exact Mem.Less.refl _
    ·refine cT_ ?_
     obtain ⟨⟨d3,pb⟩,hp3⟩ : ∃ q,q=partialInsertionSort ltN d2 a1 e1:=⟨_,rfl⟩
     rw [if_pos rfl,← hp3] at hq
     dsimp only at hq
     iterate 5 refine s1_ ?_
     refine ca_ rfl ((hp3 ▸ soB_pins b room n cap hb hn d2 R2 _ _ a1 e1 rfl rfl (by omega) (by omega))) ?_
     rintro _ _ ⟨rfl,rfl,R3⟩
     iterate 2 refine s1_ ?_
     refine su_ [(0,_),(1,_),(2,_),(3,_),(8,_),(9,_),(10,_),(11,_),(68,_),(72,_)] ?_
     cases pb
     ·refine cF_ ?_
      refine s1_ ?_
      refine ⟨d3,?_,?_,?_⟩
      all_goals (try dsimp only)
      ·exact ⟨R3,hq⟩
      ·exact ⟨sb_,sb_,sb_,sb_,sb_,sb_,sb_,sb_,trivial⟩
      ·exact Mem.Less.refl _
     ·refine cT_ ?_
      iterate 6 refine s1_ ?_
      refine ⟨_,_,rfl,Mem.Less.refl _,?_⟩
      rw [← hq];exact ⟨rfl,R3⟩
   rintro d3 ⟨R3,hq⟩
   intro _ _ hs_ hl_
   (try dsimp only at *)
   refine athen_n ?_
   refine AWP.sub _ hs_ (AWP.less _ hl_ ?_)
   clear hs_ hl_
   clear hx
   have z3:=R3.size
   iterate 2 refine s1_ ?_
   refine AWP.join (X:=Bool) (fun x=>[(0,.slice (some ⟨b,0,none⟩) n cap),(1,.int .i64 a1),(2,.int .i64 e1),(3,.int .i64 l2),(8,.bool w1),(9,.bool w2),(10,.int .i64 ((e1-a1:Nat):Int)),(11,.int .i64 pv),(87,.bool x)]) (fun x=>S.set b ⟨5,(d3).toList.map encB,room⟩) (fun x=>x=(decide (a1 > 0) && !ltN d3[a1-1]! d3[pv]!)) ?_ ?_
   ·by_cases h0:0<a1
    ·refine AWP.draw [(0,true),(1,true),(2,true),(3,true),(4,true),(5,true),(6,true),(7,true),(8,true),(9,true),(10,true),(11,true),(12,false),(13,true),(14,true)] [] mixed (by kernel_rfl) ?_
     iterate 7 refine s1_ ?_
     first|refine k_d ?_|refine dL (hc:=Calm.load ty_plain_5 rfl (rd_row (k:=a1-1) own_ rw_ rw_)) (h:=?_)
     iterate 3 refine s1_ ?_
     first|refine k_d ?_|refine dL (hc:=Calm.load ty_plain_5 rfl (rd_row (k:=pv) own_ rw_ rw_)) (h:=?_)
     refine draw_only rfl ?_
     refine ARun.callG 2 true 75 rfl (lit_lt rfl) rfl (lit_lt rfl) go_75 rfl (soB_less _ _ _) ?_
     rintro _ _ ⟨rfl,rfl⟩
     refine arun_nil ⟨fun _=>less_,?_⟩
     iterate 3 refine s1_ ?_
     refine ⟨(!ltN d3[a1-1]! d3[pv]!),?_,?_,?_⟩
     all_goals (try dsimp only)
     ·rw [decide_eq_true h0];rfl
     ·exact ⟨sb_,sb_,sb_,sb_,sb_,sb_,sb_,sb_,sb_,trivial⟩
     ·exact Mem.Less.refl _
    ·refine AWP.draw [(0,true),(1,true),(2,true),(3,true),(4,true),(5,true),(6,true),(7,true),(8,true),(9,true),(10,true),(11,true),(12,false),(13,true),(14,true)] [] mixed (by kernel_rfl) ?_
     iterate 7 refine s1_ ?_
     first|refine k_d ?_|refine dL (hc:=Calm.load ty_plain_5 rfl (rd_row (k:=a1-1) own_ rw_ rw_)) (h:=?_)
     iterate 3 refine s1_ ?_
     first|refine k_d ?_|refine dL (hc:=Calm.load ty_plain_5 rfl (rd_row (k:=pv) own_ rw_ rw_)) (h:=?_)
     refine draw_only rfl ?_
     refine s1_ ?_
     refine arun_nil ⟨fun _=>less_,?_⟩
     iterate 3 refine s1_ ?_
     refine ⟨false,?_,?_,?_⟩
     all_goals (try dsimp only)
     ·rw [decide_eq_false h0];rfl
     ·exact ⟨sb_,sb_,sb_,sb_,sb_,sb_,sb_,sb_,sb_,trivial⟩
     ·exact Mem.Less.refl _
   rintro x hx
   intro _ _ hs_ hl_
   (try dsimp only at *)
   refine athen_n ?_
   refine AWP.sub _ hs_ (AWP.less _ hl_ ?_)
   clear hs_ hl_
   rw [pdq3,← hx] at hq
   cases x
   ·refine cF_ ?_
    obtain ⟨⟨md,ap,d4⟩,hp4⟩ : ∃ q,q=partition ltN d3 a1 e1 pv:=⟨_,rfl⟩
    rw [if_neg Bool.false_ne_true,← hp4] at hq
    dsimp only at hq
    iterate 8 refine s1_ ?_
    refine ca_ rfl ((hp4 ▸ soB_part b room n cap hb hn d3 R3 _ _ _ a1 e1 pv rfl rfl rfl (by omega) (by omega) (by omega))) ?_
    rintro _ _ ⟨rfl,rfl,R4,g3,g4⟩
    dsimp only at R4 g3 g4
    rw [if_pos ⟨g3,g4⟩] at hq
    iterate 7 refine s1_ ?_
    refine su_ [(0,_),(1,_),(2,_),(3,_),(8,_),(9,_),(10,_),(11,_),(87,_),(14,_),(15,_)] ?_
    by_cases hmd:md-a1<e1-md
    ·rw [if_pos hmd] at hq
     iterate 6 refine s1_ ?_
     refine su_ [(0,_),(1,_),(2,_),(3,_),(8,_),(9,_),(10,_),(11,_),(87,_),(14,_),(15,_)] ?_
     iterate 12 refine s1_ ?_
     refine su_ [(0,_),(1,_),(2,_),(3,_),(8,_),(9,_),(10,_),(11,_),(87,_),(14,_),(15,_),(16,_),(17,_)] ?_
     iterate 7 refine s1_ ?_
     refine su_ [(0,_),(1,_),(2,_),(3,_),(8,_),(9,_),(10,_),(11,_),(87,_),(14,_),(15,_),(16,_),(17,_),(18,_)] ?_
     iterate 7 refine s1_ ?_
     refine su_ [(0,_),(1,_),(2,_),(3,_),(8,_),(9,_),(10,_),(11,_),(87,_),(14,_),(15,_),(16,_),(17,_),(18,_),(113,_)] ?_
     refine cT_ ?_
     iterate 8 refine s1_ ?_
     refine su_ [(0,_),(1,_),(2,_),(3,_),(8,_),(9,_),(10,_),(11,_),(87,_),(14,_),(15,_),(16,_),(17,_),(18,_),(113,_)] ?_
     iterate 6 refine s1_ ?_
     refine ca_ rfl (ih (md-a1) (by omega) d4 R4 _ _ _ a1 md l2 rfl rfl rfl (by omega) (by omega) (by omega) rfl) ?_
     rintro _ _ ⟨rfl,R5⟩
     iterate 2 refine s1_ ?_
     refine su_ [(0,_),(1,_),(2,_),(3,_),(8,_),(9,_),(10,_),(11,_),(87,_),(14,_),(15,_),(16,_),(17,_),(18,_),(113,_)] ?_
     iterate 7 refine s1_ ?_
     refine ⟨(md+1,e1,l2,decide (md-a1 ≥ (e1-a1) / 8),ap,pdq ltN d4 a1 md l2 true true),?_,?_,?_,?_⟩
     all_goals (try dsimp only)
     ·exact ⟨sb_,sb_,sb_,sb_,wbv_ (by omega),sb_,trivial⟩
     ·exact Mem.Less.refl _
     ·exact ⟨by omega,by omega,R5,by omega,by omega,hq⟩
     ·omega
    ·rw [if_neg hmd] at hq
     iterate 6 refine s1_ ?_
     refine su_ [(0,_),(1,_),(2,_),(3,_),(8,_),(9,_),(10,_),(11,_),(87,_),(14,_),(15,_)] ?_
     iterate 12 refine s1_ ?_
     refine su_ [(0,_),(1,_),(2,_),(3,_),(8,_),(9,_),(10,_),(11,_),(87,_),(14,_),(15,_),(16,_),(17,_)] ?_
     iterate 7 refine s1_ ?_
     refine su_ [(0,_),(1,_),(2,_),(3,_),(8,_),(9,_),(10,_),(11,_),(87,_),(14,_),(15,_),(16,_),(17,_),(18,_)] ?_
     iterate 7 refine s1_ ?_
     refine su_ [(0,_),(1,_),(2,_),(3,_),(8,_),(9,_),(10,_),(11,_),(87,_),(14,_),(15,_),(16,_),(17,_),(18,_),(113,_)] ?_
     refine cF_ ?_
     iterate 8 refine s1_ ?_
     refine su_ [(0,_),(1,_),(2,_),(3,_),(8,_),(9,_),(10,_),(11,_),(87,_),(14,_),(15,_),(16,_),(17,_),(18,_),(113,_)] ?_
     iterate 7 refine s1_ ?_
     refine ca_ rfl (ih (e1-(md+1)) (by omega) d4 R4 _ _ _ (md+1) e1 l2 om_ rfl rfl (by omega) (by omega) (by omega) rfl) ?_
     rintro _ _ ⟨rfl,R5⟩
     iterate 2 refine s1_ ?_
     refine su_ [(0,_),(1,_),(2,_),(3,_),(8,_),(9,_),(10,_),(11,_),(87,_),(14,_),(15,_),(16,_),(17,_),(18,_),(113,_)] ?_
     iterate 6 refine s1_ ?_
     refine ⟨(a1,md,l2,decide (e1-md ≥ (e1-a1) / 8),ap,pdq ltN d4 (md+1) e1 l2 true true),?_,?_,?_,?_⟩
     all_goals (try dsimp only)
     ·exact ⟨sb_,sb_,sb_,sb_,wbv_ (by omega),sb_,trivial⟩
     ·exact Mem.Less.refl _
     ·exact ⟨by omega,by omega,R5,by omega,by omega,hq⟩
     ·omega
   ·refine cT_ ?_
    obtain ⟨⟨md,d4⟩,hp4⟩ : ∃ q,q=partitionEqual ltN d3 a1 e1 pv:=⟨_,rfl⟩
    rw [if_pos rfl,← hp4] at hq
    dsimp only at hq
    iterate 6 refine s1_ ?_
    refine ca_ rfl ((hp4 ▸ soB_parteq b room n cap hb hn d3 R3 _ _ _ a1 e1 pv rfl rfl rfl (by omega) (by omega) (by omega))) ?_
    rintro _ _ ⟨rfl,rfl,R4,g3,g4⟩
    dsimp only at R4 g3 g4
    rw [if_pos ⟨g3,g4⟩] at hq
    iterate 3 refine s1_ ?_
    refine su_ [(0,_),(1,_),(2,_),(3,_),(8,_),(9,_),(10,_),(11,_),(87,_),(13,_)] ?_
    iterate 6 refine s1_ ?_
    refine su_ [(0,_),(1,_),(2,_),(3,_),(8,_),(9,_),(10,_),(11,_),(87,_),(13,_)] ?_
    iterate 4 refine s1_ ?_
    refine ⟨(md,e1,l2,w1,w2,d4),?_,?_,?_,?_⟩
    all_goals (try dsimp only)
    ·exact ⟨sb_,sb_,sb_,sb_,sb_,sb_,trivial⟩
    ·exact Mem.Less.refl _
    ·exact ⟨by omega,by omega,R4,by omega,by omega,hq⟩
    ·omega
set_option maxHeartbeats 1000000 in
theorem soB_sort {S : Mem} (b room n cap : Nat) (hb : Fresh S b) (hn : n ≤ 1048576) (d : Array Nat) (R : Rw (fun _ => True) n d) :
  ACall Tryz.prog 41 #[.slice (some ⟨b,0,none⟩) n cap] (S.set b ⟨5,(d).toList.map encB,room⟩) fun r S'=>S'=S.set b ⟨5,(pdq ltN d 0 n (bitsLen n) true true).toList.map encB,room⟩∧Rw (fun _=>True) n (pdq ltN d 0 n (bitsLen n) true true):=by
 have hbl:=bitsLen_small n hn
 refine ACall.enter (rs:=[]) 11 [(0,.slice (some ⟨b,0,none⟩) n cap)] Tryz.func41 rfl rfl (Nat.le_of_ble_eq_true rfl) rfl ⟨rfl,trivial⟩ ?_
 iterate 7 refine s1_ ?_
 refine su_ [(0,_),(2,_)] ?_
 iterate 5 refine s1_ ?_
 refine ca_ rfl (so_Len n (by omega) _) ?_
 rintro _ _ ⟨rfl,rfl⟩
 refine ca_ rfl (soB_pdq b room n cap hb hn (n-0) d R _ _ _ 0 n (bitsLen n) rfl rfl rfl (Nat.zero_le _) (Nat.le_refl _) (by omega) rfl) ?_
 rintro _ _ ⟨rfl,R1⟩
 refine s1_ ?_
 refine ⟨_,_,rfl,Mem.Less.refl _,?_⟩
 exact ⟨rfl,R1⟩
theorem soB_ins0 (S : Mem) : ACall Tryz.prog 99 #[.slice none 0 0, .int .i64 0, .int .i64 0] S fun r S' => S' = S := by
 refine ACall.enter (rs:=[]) 49 [(0,.slice none 0 0),(1,.int .i64 0),(2,.int .i64 0)] Tryz.func99 rfl rfl (Nat.le_of_ble_eq_true rfl) rfl ⟨rfl,rfl,rfl,trivial⟩ ?_
 iterate 7 refine s1_ ?_
 refine su_ [(0,_),(1,_),(2,_),(6,_)] ?_
 refine s1_ ?_
 refine AWP.loop (X:=Unit) (fun _=>[(0,.slice none 0 0),(2,.int .i64 0),(6,.int .i64 1)]) (fun _=>S) (fun _=>True) (fun _=>0) (()) ⟨sb_,sb_,sb_,trivial⟩ (Mem.Less.refl _) (trivial) ?_
 rintro _ _
 (try dsimp only at *)
 iterate 8 refine s1_ ?_
 refine su_ [(0,_),(2,_),(6,_),(12,_)] ?_
 refine cF_ ?_
 iterate 4 refine s1_ ?_
 refine ⟨_,S,rfl,Mem.Less.refl _,?_⟩
 exact rfl
theorem soB_pdq0 (S : Mem) : ACall Tryz.prog 73 #[.slice none 0 0, .int .i64 0, .int .i64 0, .int .i64 0] S fun r S' => S' = S := by
 refine ACall.enter (rs:=[]) 134 [(0,.slice none 0 0),(1,.int .i64 0),(2,.int .i64 0),(3,.int .i64 0)] Tryz.func73 rfl rfl (Nat.le_of_ble_eq_true rfl) rfl ⟨rfl,rfl,rfl,rfl,trivial⟩ ?_
 iterate 11 refine s1_ ?_
 refine AWP.loop (X:=Unit) (fun _=>[(0,.slice none 0 0),(1,.int .i64 0),(2,.int .i64 0)]) (fun _=>S) (fun _=>True) (fun _=>0) (()) ⟨rfl,rfl,rfl,trivial⟩ (Mem.Less.refl _) (trivial) ?_
 rintro _ _
 (try dsimp only at *)
 iterate 9 refine s1_ ?_
 refine su_ [(0,_),(1,_),(2,_),(10,_)] ?_
 iterate 7 refine s1_ ?_
 refine su_ [(0,_),(1,_),(2,_),(10,_),(23,_)] ?_
 refine cT_ ?_
 iterate 5 refine s1_ ?_
 refine ca_ rfl (soB_ins0 S) ?_
 rintro _ S1 h1
 rw [h1];clear h1 S1
 iterate 2 refine s1_ ?_
 refine su_ [(0,_),(1,_),(2,_),(10,_),(23,_)] ?_
 iterate 5 refine s1_ ?_
 refine ⟨_,S,rfl,Mem.Less.refl _,?_⟩
 exact rfl
theorem soB_sort0 (S : Mem) : ACall Tryz.prog 41 #[.slice none 0 0] S fun r S' => S' = S := by
 refine ACall.enter (rs:=[]) 11 [(0,.slice none 0 0)] Tryz.func41 rfl rfl (Nat.le_of_ble_eq_true rfl) rfl ⟨rfl,trivial⟩ ?_
 iterate 7 refine s1_ ?_
 refine su_ [(0,_),(2,_)] ?_
 iterate 5 refine s1_ ?_
 refine ca_ rfl (so_Len 0 (by omega) _) ?_
 rintro _ S1 ⟨rfl,h1⟩
 rw [h1];clear h1 S1
 refine ca_ rfl (soB_pdq0 S) ?_
 rintro _ S1 h1
 rw [h1];clear h1 S1
 refine s1_ ?_
 refine ⟨_,S,rfl,Mem.Less.refl _,?_⟩
 exact rfl
end Go.Proofs.YtckloanlkpchoaaGreatDoor
namespace Go.Proofs.YtckloanlkpchoaaGreatDoor
open Go.RowKit
open Mv Num Loser Srt
set_option maxRecDepth 4000
set_option maxHeartbeats 2000000 in
theorem odB_search (v : Value) (x : Nat) (D : List Nat) (S : Mem) (hv : Sl 1 (fun y => [encB y]) S v D) (hs : D.Pairwise (· < ·)) (hx : x ∈ D) (hl : D.length ≤ 1048576) :
  ACall Tryz.prog 43 #[v,encB x] S fun r S'=>r = .tuple #[.int .i64 (cntL D x:Nat),.bool true]∧S'=S:=by
 obtain ⟨a,cap,rfl,h1,h2,h3⟩:=id hv
 obtain ⟨b,o,rfl,hk⟩:=h3.resolve_left (fun e=>by rw [e] at hx;cases hx)
 refine ACall.enter (rs:=[.tmp 4,.tmp 5]) 54 [(0,.slice (some ⟨b,o,none⟩) D.length cap),(1,encB x)] Tryz.func43 rfl rfl (Nat.le_of_ble_eq_true rfl) rfl ⟨rfl,rfl,trivial⟩ ?_
 iterate 13 refine s1_ ?_
 refine su_ [(0,_),(1,_),(4,_),(5,_),(6,_)] ?_
 iterate 7 refine s1_ ?_
 refine su_ [(0,_),(1,_),(4,_),(5,_),(6,_),(7,_),(8,_)] ?_
 iterate 2 refine s1_ ?_
 refine AWP.loop (X:=Nat × Nat) (fun y=>[(0,.slice (some ⟨b,o,none⟩) D.length cap),(1,encB x),(6,.int .i64 D.length),(7,.int .i64 y.1),(8,.int .i64 y.2)]) (fun y=>S) (fun y=>y.1≤y.2∧y.2≤D.length∧(∀ k (hk:k<D.length),k<y.1→D[k]<x) ∧ ∀ k (hk:k<D.length),y.2≤k→x≤D[k]) (fun y=>y.2-y.1) ((0,D.length)) ⟨rfl,rfl,rfl,rfl,rfl,trivial⟩ (Mem.Less.refl _) (⟨Nat.zero_le _,Nat.le_refl _,fun k _ h=>absurd h (Nat.not_lt_zero _),fun k hk h=>absurd hk (Nat.not_lt.2 h)⟩) ?_
 rintro ⟨i,j⟩ ⟨q1,q2,q3,q4⟩
 (try dsimp only at *)
 by_cases hij:i<j
 ·iterate 8 refine s1_ ?_
  refine su_ [(0,_),(1,_),(6,_),(7,_),(8,_),(15,_)] ?_
  refine cT_ ?_
  obtain ⟨m,hm⟩ : ∃ m,m=(i+j) / 2:=⟨_,rfl⟩
  have hml:m<D.length:=by omega
  have hkm:S.Knows ⟨b,o+m*1,none⟩ [encB D[m]]:=hk m hml
  have e2:((i:Int)+j) / 2 ^ Int.toNat 1=(m:Int):=by rw [hm];show ((i:Int)+j) / 2=_;omega
  have e3:IntKind.i64.wrap (((i:Int)+j) / 2 ^ Int.toNat 1)=(m:Int):=by rw [e2];exact IntWalk.i64_in _ (by omega)
  iterate 14 refine s1_ ?_
  refine su_ [(0,_),(1,_),(6,_),(7,_),(8,_),(15,_),(9,_)] ?_
  refine AWP.sub [(0,.slice (some ⟨b,o,none⟩) D.length cap),(1,encB x),(6,.int .i64 D.length),(7,.int .i64 i),(8,.int .i64 j),(9,.int .i64 m),(15,.bool true)] ⟨rfl,rfl,rfl,rfl,rfl,by first | exact congrArg (fun q=>some (Value.int .i64 q)) e2 | exact congrArg (fun q=>some (Value.int .i64 q)) e3,rfl,trivial⟩ ?_
  iterate 7 refine s1_ ?_
  refine ca_ rfl (soB_less D[m] x _) ?_
  rintro _ S1 ⟨rfl,e1⟩
  rw [e1];clear e1 S1
  iterate 2 refine s1_ ?_
  refine su_ [(0,_),(1,_),(6,_),(7,_),(8,_),(15,_),(9,_),(27,_)] ?_
  refine AWP.condB rfl (fun hlt=>?_) (fun hlt=>?_)
  ·iterate 7 refine s1_ ?_
   refine ⟨(m+1,j),?_,?_,?_,?_⟩
   all_goals (try dsimp only)
   ·exact ⟨sq_,sq_,sq_,sq_,sq_,trivial⟩
   ·exact Mem.Less.refl _
   ·exact ⟨by omega,q2,fun k hk h=>by have hd:D[m]<x:=of_decide_eq_true hlt;rcases Nat.lt_or_ge k m with h' | h';(have:=List.pairwise_iff_getElem.1 hs k m hk hml h';omega);(obtain rfl:k=m:=(by omega);exact hd),q4⟩
   ·omega
  ·iterate 6 refine s1_ ?_
   refine ⟨(i,m),?_,?_,?_,?_⟩
   all_goals (try dsimp only)
   ·exact ⟨sq_,sq_,sq_,sq_,sq_,trivial⟩
   ·exact Mem.Less.refl _
   ·exact ⟨by omega,by omega,q3,fun k hk h=>by have hd : ¬ D[m]<x:=of_decide_eq_false hlt;rcases Nat.lt_or_ge m k with h' | h';(have:=List.pairwise_iff_getElem.1 hs m k hml hk h';omega);(obtain rfl:k=m:=(by omega);omega)⟩
   ·omega
 ·obtain rfl:i=j:=by omega
  iterate 8 refine s1_ ?_
  refine su_ [(0,_),(1,_),(6,_),(7,_),(8,_),(15,_)] ?_
  refine cF_ ?_
  have hci:=cnt_of D x i q2 q3 q4
  obtain ⟨k,hk',hkx⟩:=List.getElem_of_mem hx
  have hin:i<D.length:=by rcases Nat.lt_or_ge i D.length with h | h;(exact h);(have:=q3 k hk' (by omega);omega)
  have hDi:D[i]=x:=by rcases Nat.lt_trichotomy i k with h | h | h;(have:=List.pairwise_iff_getElem.1 hs i k hin hk' h;have:=q4 i hin (Nat.le_refl _);omega);(subst h;exact hkx);(have:=q3 k hk' h;omega)
  have hki:S.Knows ⟨b,o+i*1,none⟩ [encB x]:=by rw [← hDi];exact hk i hin
  rw [hci]
  unfold encB at *
  iterate 34 refine s1_ ?_
  refine su_ [(0,_),(1,_),(6,_),(7,_),(8,_),(15,_),(4,_),(5,_)] ?_
  refine s1_ ?_
  refine ⟨_,S,⟨_,_,rfl,⟨_,_,rfl,rfl,rfl⟩,rfl⟩,less_,?_⟩
  exact ⟨rfl,rfl⟩
set_option maxHeartbeats 1000000 in
theorem odB_clone (v : Value) (l : List Nat) (S : Mem) (hv : Sl 1 (fun y => [encB y]) S v l) (hl : l.length ≤ 4096) :
  ACall Tryz.prog 40 #[v] S fun r S'=>∃ o,OkO S o l.length∧r=outV o l.length∧S'=outM S o 5 (l.map encB):=by
 obtain ⟨a,cap,rfl,h1,h2,h3⟩:=id hv
 cases a with
 | none =>
  obtain rfl:l = []:=h3.resolve_right (fun ⟨b,o,e,_⟩=>by cases e)
  refine ACall.enter (rs:=[.tmp 2]) 8 [(0,.slice none 0 cap)] Tryz.func40 rfl rfl (Nat.le_of_ble_eq_true rfl) rfl ⟨rfl,trivial⟩ ?_
  iterate 12 refine s1_ ?_
  refine su_ [(0,_),(2,_),(4,_)] ?_
  refine cT_ ?_
  iterate 7 refine s1_ ?_
  refine ⟨_,S,⟨_,_,rfl,rfl,rfl⟩,less_,?_⟩
  exact ⟨none,okO_nil _,rfl,rfl⟩
 | some ad =>
  have hsrc:=src_sl hv
  refine ACall.enter (rs:=[.tmp 2]) 8 [(0,.slice (some ad) l.length cap)] Tryz.func40 rfl rfl (Nat.le_of_ble_eq_true rfl) rfl ⟨rfl,trivial⟩ ?_
  iterate 12 refine s1_ ?_
  refine su_ [(0,_),(2,_),(4,_)] ?_
  refine cF_ ?_
  iterate 4 refine s1_ ?_
  refine ARun.build0 (lit_lt rfl) ty_sl_51 ?_
  intro b5 f5
  have g5:=f5
  repeat ((with_reducible replace g5:=fresh_set g5);obtain ⟨g5,_⟩:=g5)
  refine s1_ ?_
  refine ARun.appendOK (n:=1) (o:=some (b5,0)) (k:=0) (m:=l.length) (cs:=[]) (news:=l.map encB) (lit_lt rfl) ty_sl_51 rfl rfl rfl (okO_own f5 (Nat.zero_le _)) (appN1 (okO_own f5 (Nat.zero_le _)) rfl) rfl (hsrc.less (Mem.less_set _ _ _ f5.1)) (by rw [List.length_map,Nat.mul_one]) (one_cells (fun _=>rfl) _) (by omega) (by omega) ?_
  intro o1 ho1
  rw [Nat.zero_add] at ho1
  iterate 3 refine s1_ ?_
  refine su_ [(0,_),(2,_),(4,_)] ?_
  refine s1_ ?_
  refine ⟨_,_,⟨_,_,rfl,rfl,rfl⟩,Mem.Less.refl _,?_⟩
  exact ⟨o1,ho1,by show outV o1 (0+l.length)=_;rw [Nat.zero_add],by rw [outN_one];rfl⟩
theorem odB_tail (A : List Nat) (k : Nat) (zs : List Value) (h : zs.length = A.length - k) : spl (A.map encB) k zs = (A.take k).map encB ++ zs := by
 unfold spl
 rw [List.drop_of_length_le (by rw [List.length_map];omega),List.append_nil,List.map_take]
set_option maxHeartbeats 4000000 in
theorem odB_compact (b room cap : Nat) (L : List Nat) (n : Nat) (hn : L.length = n) (S : Mem) (hb : Fresh S b) (hL : L.Pairwise (· ≤ ·)) (hn2 : n ≤ 4096) (hc : n ≤ cap) :
  ACall Tryz.prog 42 #[.slice (some ⟨b,0,none⟩) n cap] (S.set b ⟨5,L.map encB,room⟩) fun r S'=>∃ (D:List Nat) (zs:List Value),r = .slice (some ⟨b,0,none⟩) D.length cap∧S'=S.set b ⟨5,D.map encB ++ zs,room⟩∧D.Pairwise (· < ·)∧(∀ x ∈ L,x ∈ D)∧D.length≤n:=by
 have hLg:∀ i j (hi:i<L.length) (hj:j<L.length),i<j→L.getD i 0≤L.getD j 0:=fun i j hi hj hij=>by rw [getD_get _ _ _ hi,getD_get _ _ _ hj];exact List.pairwise_iff_getElem.1 hL i j hi hj hij
 have hob:∀ (c:List Value),(S.set b ⟨5,c,room⟩).own b=some ⟨5,c,room⟩:=fun c=>Mem.own_set_same _ _ _
 by_cases h2:n<2
 ·skip
  refine ACall.enter (rs:=[.tmp 2]) 61 [(0,.slice (some ⟨b,0,none⟩) n cap)] Tryz.func42 rfl rfl (Nat.le_of_ble_eq_true rfl) rfl ⟨rfl,trivial⟩ ?_
  iterate 13 refine s1_ ?_
  refine su_ [(0,_),(2,_),(8,_)] ?_
  refine cT_ ?_
  iterate 6 refine s1_ ?_
  refine su_ [(0,_),(2,_),(8,_)] ?_
  iterate 2 refine s1_ ?_
  refine ⟨_,_,⟨_,_,rfl,rfl,rfl⟩,Mem.Less.refl _,?_⟩
  exact ⟨L,[],by rw [hn];rfl,by rw [List.append_nil],by (match L,hn with | [],_=>exact List.Pairwise.nil | [x],_=>exact List.pairwise_singleton _ _ | _ :: _ :: _,h=>simp at h;omega),fun x hx=>hx,by omega⟩
 refine ACall.enter (rs:=[.tmp 2]) 61 [(0,.slice (some ⟨b,0,none⟩) n cap)] Tryz.func42 rfl rfl (Nat.le_of_ble_eq_true rfl) rfl ⟨rfl,trivial⟩ ?_
 iterate 13 refine s1_ ?_
 refine su_ [(0,_),(2,_),(8,_)] ?_
 refine cF_ ?_
 iterate 9 refine s1_ ?_
 refine AWP.loop (X:=Nat) (fun k=>[(0,.slice (some ⟨b,0,none⟩) n cap),(3,.int .i64 k)]) (fun k=>S.set b ⟨5,L.map encB,room⟩) (fun k=>1≤k∧k≤n ∧ ∀ i,i+1<k→L.getD i 0<L.getD (i+1) 0) (fun k=>n-k) (1) ⟨rfl,rfl,trivial⟩ (Mem.Less.refl _) (⟨Nat.le_refl _,by omega,fun i h=>by have h':i+1<1:=h;omega⟩) ?_
 rintro k ⟨q1,q2,q3⟩
 (try dsimp only at *)
 by_cases hk:k<n
 ·iterate 9 refine s1_ ?_
  refine su_ [(0,_),(3,_),(13,_)] ?_
  refine cT_ ?_
  obtain ⟨j,rfl⟩ : ∃ j,k=j+1:=⟨k-1,by omega⟩
  obtain ⟨x,hx⟩ : ∃ x,x=L.getD (j+1) 0:=⟨_,rfl⟩
  obtain ⟨y,hy⟩ : ∃ y,y=L.getD j 0:=⟨_,rfl⟩
  have hxe:L[j+1]'(by omega)=x:=by rw [hx,getD_get _ _ _ (by omega)]
  have hye:L[j]'(by omega)=y:=by rw [hy,getD_get _ _ _ (by omega)]
  have hyx:y≤x:=by rw [hx,hy];exact hLg j (j+1) (by omega) (by omega) (by omega)
  iterate 5 refine s1_ ?_
  refine AWP.draw [(0,true),(1,true),(2,true),(3,true),(4,true),(5,true),(6,true),(7,true),(8,true),(9,true)] [] mixed (by kernel_rfl) ?_
  iterate 3 refine s1_ ?_
  refine dC (hc:=Calm.as (show encB (L[j+1]'(by omega)) = .int .u8 (x:Int) by rw [hxe];rfl) (Calm.load ty_plain_5 rfl (rd_list (g:=encB) (j+1) (by omega) (hob _) rw_))) (h:=?_)
  iterate 4 refine s1_ ?_
  refine dC (hc:=Calm.as (show encB (L[j]'(by omega)) = .int .u8 (y:Int) by rw [hye];rfl) (Calm.load ty_plain_5 rfl (rd_list (g:=encB) j (by omega) (hob _) rw_))) (h:=?_)
  iterate 3 refine s1_ ?_
  refine su_ [(0,_),(3,_),(13,_),(25,_)] ?_
  by_cases he:x=y
  ·refine cT_ ?_
   have hst:=CpI.start (L:=L) (k:=j+1) (by omega) (by omega) q3 (by rw [← hx,he,hy];rfl)
   iterate 8 refine s1_ ?_
   refine su_ [(0,_),(3,_),(13,_),(25,_),(4,_)] ?_
   refine AWP.sub [(0,.slice (some ⟨b,0,none⟩) n cap),(3,.int .i64 ((j+1:Nat):Int)),(4,.slice (some ⟨b,j+1,none⟩) (n-(j+1)) (cap-(j+1)))] ⟨rfl,rfl,by show some _=some _;rw [Int.toNat_natCast,if_neg (by omega),Nat.zero_add,Nat.mul_one],trivial⟩ ?_
   iterate 7 refine s1_ ?_
   refine AWP.loop (X:=List Nat × Nat × Nat) (fun z=>[(0,.slice (some ⟨b,0,none⟩) n cap),(3,.int .i64 z.2.1),(4,.slice (some ⟨b,j+1,none⟩) (n-(j+1)) (cap-(j+1))),(5,.int .i64 z.2.2)]) (fun z=>S.set b ⟨5,z.1.map encB,room⟩) (fun z=>1≤z.2.2∧j+1+z.2.2≤n∧CpI L z.1 z.2.1 (j+1+z.2.2)) (fun z=>n-z.2.2) ((L,j+1,1)) ⟨rfl,rfl,rfl,rfl,trivial⟩ (Mem.Less.refl _) (⟨Nat.le_refl _,hk,hst⟩) ?_
   rintro ⟨A,k,c⟩ ⟨r1,r2,r3⟩
   (try dsimp only at *)
   have rA:=r3.1
   have rk:=r3.2.2.1
   by_cases hcn:c<n-(j+1)
   ·iterate 9 refine s1_ ?_
    refine su_ [(0,_),(3,_),(4,_),(5,_),(32,_)] ?_
    refine cT_ ?_
    obtain ⟨q,hq⟩ : ∃ q,q=j+c:=⟨_,rfl⟩
    have hq1:j+1+c=q+1:=by omega
    rw [hq1] at r3 rk
    have hqn:q+1<L.length:=by omega
    obtain ⟨w,hw⟩ : ∃ w,w=L.getD (q+1) 0:=⟨_,rfl⟩
    obtain ⟨u,hu⟩ : ∃ u,u=L.getD q 0:=⟨_,rfl⟩
    have hwe:A[q+1]'(by omega)=w:=by rw [hw,← r3.2.2.2.2.1 (q+1) (by omega),getD_get _ _ _ (by omega)]
    have hue:A[q]'(by omega)=u:=by rw [hu,← r3.2.2.2.2.1 q (by omega),getD_get _ _ _ (by omega)]
    have huw:u≤w:=by rw [hw,hu];exact hLg q (q+1) (by omega) (by omega) (by omega)
    iterate 5 refine s1_ ?_
    refine AWP.draw [(0,true),(1,true),(2,true),(3,true),(4,true),(5,true),(6,true),(7,true),(8,true),(9,true)] [] mixed (by kernel_rfl) ?_
    iterate 3 refine s1_ ?_
    refine dC (hc:=Calm.as (show encB (A[q+1]'(by omega)) = .int .u8 (w:Int) by rw [hwe];rfl) (Calm.load ty_plain_5 rfl (rd_list (g:=encB) (q+1) (by omega) (hob _) (by omega)))) (h:=?_)
    iterate 4 refine s1_ ?_
    refine dC (hc:=Calm.as (show encB (A[q]'(by omega)) = .int .u8 (u:Int) by rw [hue];rfl) (Calm.load ty_plain_5 rfl (rd_list (g:=encB) q (by omega) (hob _) (by omega)))) (h:=?_)
    iterate 3 refine s1_ ?_
    refine su_ [(0,_),(3,_),(4,_),(5,_),(32,_),(44,_)] ?_
    by_cases hwu:w=u
    ·refine cF_ ?_
     iterate 9 refine s1_ ?_
     refine ⟨(A,k,c+1),?_,?_,?_,?_⟩
     all_goals (try dsimp only)
     ·exact ⟨sq_,sq_,sq_,sq_,trivial⟩
     ·exact Mem.Less.refl _
     ·exact ⟨by omega,by omega,by rw [show j+1+(c+1)=q+1+1 by omega];exact r3.same hqn (by rw [← hw,hwu,hu];rfl)⟩
     ·omega
    ·refine cT_ ?_
     iterate 7 refine s1_ ?_
     refine rC (Calm.as (show encB (A[q+1]'(by omega)) = .int .u8 (w:Int) by rw [hwe];rfl) (Calm.load ty_plain_5 rfl (rd_list (g:=encB) (q+1) (by omega) (hob _) (by omega)))) ?_
     iterate 4 refine s1_ ?_
     refine su_ [(0,_),(3,_),(4,_),(5,_),(32,_),(44,_)] ?_
     rw [Int.toNat_natCast,Nat.mul_one]
     iterate 7 refine s1_ ?_
     refine su_ [(0,_),(3,_),(4,_),(5,_),(32,_),(44,_)] ?_
     iterate 6 refine s1_ ?_
     refine ⟨(A.set k w,k+1,c+1),?_,?_,?_,?_⟩
     all_goals (try dsimp only)
     ·exact ⟨sq_,sq_,sq_,sq_,trivial⟩
     ·rw [List.map_set];exact Mem.Less.refl _
     ·exact ⟨by omega,by omega,by rw [show j+1+(c+1)=q+1+1 by omega,hw];exact r3.more hqn (by rw [← hw,Nat.add_sub_cancel,← hu];omega)⟩
     ·omega
   ·iterate 9 refine s1_ ?_
    refine su_ [(0,_),(3,_),(4,_),(5,_),(32,_)] ?_
    refine cF_ ?_
    have hqn:j+1+c=L.length:=by omega
    rw [hqn] at r3
    obtain ⟨d1,d2,d3,d4⟩:=r3.done
    iterate 10 refine s1_ ?_
    refine ARun.clearK (b:=b) (o:=k) (k:=n-k) (c:=cap-k) ty_sl_51 rfl (fun v hv=>by simp at hv;rw [hv];rfl) (by show some _=some _;rw [Int.toNat_natCast,if_neg (by omega),Nat.zero_add,Nat.mul_one]) (hob _) (by simp;omega) (.inl (by simp;omega)) ?_
    intro zs hzs
    iterate 2 refine s1_ ?_
    refine su_ [(0,_),(3,_),(4,_),(5,_),(32,_)] ?_
    iterate 8 refine s1_ ?_
    refine su_ [(0,_),(3,_),(4,_),(5,_),(32,_),(2,_)] ?_
    iterate 6 refine s1_ ?_
    refine ⟨_,_,⟨_,_,rfl,rfl,rfl⟩,Mem.Less.refl _,?_⟩
    exact ⟨A.take k,zs,by rw [d3];rfl,by rw [odB_tail A k zs (by rw [Nat.mul_one] at hzs;omega),Mem.set_set],d1,d2,by omega⟩
  ·refine cF_ ?_
   iterate 9 refine s1_ ?_
   refine ⟨j+2,?_,?_,?_,?_⟩
   all_goals (try dsimp only)
   ·exact ⟨sq_,sq_,trivial⟩
   ·exact Mem.Less.refl _
   ·exact ⟨by omega,hk,fun i hi=>by rcases Nat.lt_or_ge (i+1) (j+1) with h | h;(exact q3 i h);(obtain rfl:i=j:=(by omega);rw [← hx,← hy];omega)⟩
   ·omega
 ·obtain rfl:k=n:=by omega
  iterate 9 refine s1_ ?_
  refine su_ [(0,_),(3,_),(13,_)] ?_
  refine cF_ ?_
  iterate 11 refine s1_ ?_
  refine su_ [(0,_),(3,_),(13,_),(2,_)] ?_
  refine s1_ ?_
  refine ⟨_,_,⟨_,_,rfl,rfl,rfl⟩,Mem.Less.refl _,?_⟩
  exact ⟨L,[],by rw [hn];rfl,by rw [List.append_nil],up_pairwise L (by rw [hn];exact q3),fun x hx=>hx,by omega⟩
theorem odB_compact0 (S : Mem) : ACall Tryz.prog 42 #[.slice none 0 0] S fun r S' => r = .slice none 0 0 ∧ S' = S := by
 refine ACall.enter (rs:=[.tmp 2]) 61 [(0,.slice none 0 0)] Tryz.func42 rfl rfl (Nat.le_of_ble_eq_true rfl) rfl ⟨rfl,trivial⟩ ?_
 iterate 13 refine s1_ ?_
 refine su_ [(0,_),(2,_),(8,_)] ?_
 refine cT_ ?_
 iterate 6 refine s1_ ?_
 refine su_ [(0,_),(2,_),(8,_)] ?_
 iterate 2 refine s1_ ?_
 refine ⟨_,S,⟨_,_,rfl,rfl,rfl⟩,less_,?_⟩
 exact ⟨rfl,rfl⟩
set_option maxHeartbeats 4000000 in
theorem odB_ranks (v : Value) (l : List Nat) (S : Mem) (hv : Sl 1 (fun y => [encB y]) S v l) (hl : l.length ≤ 4096) :
  ACall Tryz.prog 17 #[v] S fun r S'=>∃ D:List Nat,(∀ x ∈ l,x ∈ D)∧D.length≤l.length∧RdL gI (l.map (cntL D)) S r S':=by
 obtain ⟨a,cap,rfl,h1,h2,h3⟩:=id hv
 obtain ⟨n,hn⟩ : ∃ n,n=l.length:=⟨_,rfl⟩
 have hcl:=odB_clone _ l S hv hl
 rw [← hn] at hcl hl h1 ⊢
 refine ACall.enter (rs:=[.tmp 2]) 34 [(0,.slice a n cap)] Tryz.func17 rfl rfl (Nat.le_of_ble_eq_true rfl) rfl ⟨rfl,trivial⟩ ?_
 iterate 8 refine s1_ ?_
 refine ca_ rfl (hcl) ?_
 rintro _ _ ⟨o,ho,rfl,rfl⟩
 iterate 3 refine s1_ ?_
 refine su_ [(0,_),(2,_),(3,_)] ?_
 cases o
 ·obtain rfl:n=0:=ho.nil rfl
  have hl0:l = []:=List.length_eq_zero_iff.1 hn.symm
  iterate 3 refine s1_ ?_
  refine ca_ rfl (soB_sort0 _) ?_
  rintro _ S1 e1
  rw [e1];clear e1 S1
  iterate 2 refine s1_ ?_
  refine su_ [(0,_),(2,_),(3,_)] ?_
  iterate 3 refine s1_ ?_
  refine ca_ rfl (odB_compact0 _) ?_
  rintro _ S1 ⟨rfl,e1⟩
  rw [e1];clear e1 S1
  iterate 3 refine s1_ ?_
  refine su_ [(0,_),(2,_),(3,_)] ?_
  iterate 4 refine s1_ ?_
  refine ARun.makeSlice (lit_lt rfl) ty_sl_52 rfl rfl (by omega) (by omega) (by omega) (by omega) ?_
  intro b15 f15
  have g15:=f15
  repeat ((with_reducible replace g15:=fresh_set g15);obtain ⟨g15,_⟩:=g15)
  iterate 3 refine s1_ ?_
  refine su_ [(0,_),(2,_),(3,_),(4,_)] ?_
  iterate 9 refine s1_ ?_
  refine AWP.loop (X:=Unit) (fun x=>[(4,.slice (some ⟨b15,0,none⟩) 0 0),(17,.int .i64 0),(18,.int .i64 0)]) (fun x=>S.set b15 ⟨3,[],0⟩) (fun x=>l = []) (fun x=>0) (()) ⟨rfl,rfl,rfl,trivial⟩ (by rw [madeL_one];exact Mem.Less.refl _) (hl0) ?_
  rintro _ _
  (try dsimp only at *)
  iterate 6 refine s1_ ?_
  refine cF_ ?_
  iterate 11 refine s1_ ?_
  refine su_ [(4,_),(17,_),(18,_),(19,_),(2,_)] ?_
  refine s1_ ?_
  refine ⟨_,_,⟨_,_,rfl,rfl,rfl⟩,Mem.Less.refl _,?_⟩
  exact ⟨[],(fun x hx=>absurd (hl0 ▸ hx:x ∈ ([] : List Nat)) (List.not_mem_nil)),Nat.zero_le _,Mem.less_set _ _ _ f15.1,by rw [hl0];exact Sl.own1 (g:=gI) (l:=[]) (Mem.own_set_same _ _ _) List.prefix_rfl rfl (Nat.le_refl _) (by decide)⟩
 ·rename_i q
  obtain ⟨b,c⟩:=q
  obtain ⟨fb,hbc⟩:=ho.own b c rfl
  have hR:Rw (fun _=>True) n l.toArray:=⟨by simp [hn],fun _ _=>trivial⟩
  have hsort:=soB_sort (S:=S) b c n c fb (by omega) l.toArray hR
  obtain ⟨d',hd'⟩ : ∃ d',d'=Go.Sort.pdq ltN l.toArray 0 n (Go.Sort.bitsLen n) true true:=⟨_,rfl⟩
  obtain ⟨hp,hs⟩:=sorted_num l n hn.symm d' hd'
  rw [← hd'] at hsort
  obtain ⟨L,hL⟩ : ∃ L,L=d'.toList:=⟨_,rfl⟩
  rw [← hL] at hsort hp hs
  have hLn:L.length=n:=by rw [hp.length_eq];exact hn.symm
  clear hd' hR hL
  iterate 3 refine s1_ ?_
  refine ca_ rfl (hsort) ?_
  rintro _ _ ⟨rfl,_⟩
  iterate 2 refine s1_ ?_
  refine su_ [(0,_),(2,_),(3,_)] ?_
  iterate 3 refine s1_ ?_
  refine ca_ rfl (odB_compact b c c L n hLn S fb hs hl hbc) ?_
  rintro _ _ ⟨D,zs,rfl,rfl,hD1,hD2,hD3⟩
  have hlD:∀ x ∈ l,x ∈ D:=fun x hx=>hD2 x (hp.mem_iff.2 hx)
  obtain ⟨M,hM⟩ : ∃ M,M=S.set b ⟨5,D.map encB ++ zs,c⟩:=⟨_,rfl⟩
  have hSM:S.Less M:=by rw [hM];exact Mem.less_set _ _ _ fb.1
  have hvD:Sl 1 (fun y=>[encB y]) M (.slice (some ⟨b,0,none⟩) D.length c) D:=by rw [hM];exact Sl.own1 (g:=encB) (l:=D) (Mem.own_set_same _ _ _) (List.prefix_append _ _) rfl (by omega) (by omega)
  rw [← hM]
  iterate 3 refine s1_ ?_
  refine su_ [(0,_),(2,_),(3,_)] ?_
  iterate 4 refine s1_ ?_
  refine ARun.makeSlice (lit_lt rfl) ty_sl_52 rfl rfl (by omega) (by omega) (by omega) (by omega) ?_
  intro b15 f15
  have g15:=f15
  repeat ((with_reducible replace g15:=fresh_set g15);obtain ⟨g15,_⟩:=g15)
  iterate 3 refine s1_ ?_
  refine su_ [(0,_),(2,_),(3,_),(4,_)] ?_
  rw [show madeL [Value.int .i64 0] (((n:Nat):Int).toNat*1)=([] : List Nat).map gI ++ List.replicate (n-0) (gI 0) by rw [madeL_one,Nat.mul_one];rfl,Nat.mul_one,Int.toNat_natCast]
  iterate 9 refine s1_ ?_
  refine AWP.loop (X:=Nat) (fun x=>[(3,.slice (some ⟨b,0,none⟩) D.length c),(4,.slice (some ⟨b15,0,none⟩) n n),(16,.slice a n cap),(17,.int .i64 n),(18,.int .i64 x)]) (fun x=>M.set b15 ⟨3,((l.take x).map (cntL D)).map gI ++ List.replicate (n-x) (gI 0),n⟩) (fun x=>x≤n) (fun x=>n-x) (0) ⟨rfl,rfl,rfl,rfl,rfl,trivial⟩ (Mem.Less.refl _) (Nat.zero_le _) ?_
  rintro i hi
  (try dsimp only at *)
  by_cases hc:i<n
  ·iterate 6 refine s1_ ?_
   refine cT_ ?_
   have hil:i<l.length:=by omega
   obtain ⟨vb,vo,rfl,hk⟩:=h3.resolve_left (fun e=>by rw [e] at hil;exact absurd hil (Nat.not_lt_zero _))
   have hMM:M.Less (M.set b15 ⟨3,((l.take i).map (cntL D)).map gI ++ List.replicate (n-i) (gI 0),n⟩):=Mem.less_set _ _ _ f15.1
   have hki:Mem.Knows (M.set b15 ⟨3,((l.take i).map (cntL D)).map gI ++ List.replicate (n-i) (gI 0),n⟩) ⟨vb,vo+i*1,none⟩ [encB l[i]]:=(hk i hil).less (hSM.trans hMM)
   have hlr:(((l.take i).map (cntL D)).map gI ++ List.replicate (n-i) (gI 0)).length=n:=by simp;omega
   iterate 13 refine s1_ ?_
   refine su_ [(3,_),(4,_),(16,_),(17,_),(18,_),(19,_),(5,_),(6,_)] ?_
   iterate 5 refine s1_ ?_
   refine ca_ rfl (odB_search _ l[i] D _ (hvD.less hMM) hD1 (hlD _ (List.getElem_mem hil)) (by omega)) ?_
   rintro _ S1 ⟨rfl,e1⟩
   rw [e1];clear e1 S1
   iterate 8 refine s1_ ?_
   refine su_ [(3,_),(4,_),(16,_),(17,_),(18,_),(19,_),(5,_),(6,_)] ?_
   simp only [Nat.zero_add,Nat.mul_one,Int.toNat_natCast]
   have key:(((l.take i).map (cntL D)).map gI ++ List.replicate (n-i) (gI 0)).set i (gI (cntL D l[i]))=((l.take (i+1)).map (cntL D)).map gI ++ List.replicate (n-(i+1)) (gI 0):=by rw [fill_map gI ((l.take i).map (cntL D)) 0 n i (cntL D l[i]) (by simp;omega) hc,show (l.take i).map (cntL D) ++ [cntL D l[i]]=(l.take (i+1)).map (cntL D) by rw [List.take_succ_eq_append_getElem hil,List.map_append];rfl]
   refine AWP.less (M.set b15 ⟨3,((l.take (i+1)).map (cntL D)).map gI ++ List.replicate (n-(i+1)) (gI 0),n⟩) (by rw [← key];exact Mem.Less.refl _) ?_
   iterate 5 refine s1_ ?_
   refine ⟨i+1,?_,?_,?_,?_⟩
   all_goals (try dsimp only)
   ·exact ⟨sq_,sq_,sq_,sq_,sq_,trivial⟩
   ·exact Mem.Less.refl _
   ·exact hc
   ·omega
  ·obtain rfl:i=n:=by omega
   iterate 6 refine s1_ ?_
   refine cF_ ?_
   rw [Nat.sub_self,List.replicate_zero,List.append_nil,List.take_of_length_le (by omega)]
   iterate 11 refine s1_ ?_
   refine su_ [(3,_),(4,_),(16,_),(17,_),(18,_),(19,_),(2,_)] ?_
   refine s1_ ?_
   refine ⟨_,_,⟨_,_,rfl,rfl,rfl⟩,Mem.Less.refl _,?_⟩
   exact ⟨D,hlD,hD3,hSM.trans (Mem.less_set _ _ _ f15.1),Sl.own1 (g:=gI) (l:=l.map (cntL D)) (Mem.own_set_same _ _ _) List.prefix_rfl (by rw [List.length_map];exact hn.symm) (Nat.le_refl _) (by omega)⟩
end Go.Proofs.YtckloanlkpchoaaGreatDoor
namespace Go.Proofs.YtckloanlkpchoaaGreatDoor
open Num Loser
namespace Ord
/-! ### Counting -/
theorem countP_lt_range (m : Nat) : ∀ k, m ≤ k → (List.range k).countP (fun x => decide (x < m)) = m
 | 0,h=>by
  obtain rfl:m=0:=by omega
  rfl
 | k+1,h=>by
  rw [List.range_succ,List.countP_append]
  rcases Nat.lt_or_ge k m with h' | h'
  ·obtain rfl:m=k+1:=by omega
   have:(List.range k).countP (fun x=>decide (x<k+1))=(List.range k).length:=List.countP_eq_length.2 fun x hx=>by have:=List.mem_range.1 hx;simp;omega
   rw [this,List.length_range];simp
  ·rw [countP_lt_range m k h']
   simp;omega
theorem range_inj_perm (n : Nat) (f : Nat → Nat) (hf : ∀ a, a < n → f a < n) (hi : ∀ a b, a < n → b < n → f a = f b → a = b) : ((List.range n).map f).Perm (List.range n) := by
 refine pig n _ ?_ (fun y hy=>?_) (by simp)
 ·refine List.pairwise_iff_getElem.2 fun i j h1 h2 hij e=>?_
  simp only [List.length_map,List.length_range] at h1 h2
  simp only [List.getElem_map,List.getElem_range] at e
  have:=hi i j h1 h2 e;omega
 ·obtain ⟨a,ha,rfl⟩:=List.mem_map.1 hy
  exact hf a (List.mem_range.1 ha)
/-! ### Rows: the empty end's is 0 -/
theorem sl_total' (l : List Nat) (a b : Nat) (ha : a ≤ l.length) (hb : b ≤ l.length) (h1 : sl l a b = false) (h2 : sl l b a = false) : a = b := by
 have h:=congrArg List.length (lessB_total _ _ h1 h2)
 simp only [List.length_drop] at h;omega
structure IsRow (s : List Nat) (r : Nat → Nat) : Prop where
  le : ∀ a, a ≤ s.length → r a ≤ s.length
  lt : ∀ a b, a ≤ s.length → b ≤ s.length → (r a < r b ↔ sl s a b = true)
theorem IsRow.inj {s : List Nat} {r : Nat → Nat} (h : IsRow s r) {a b : Nat} (ha : a ≤ s.length) (hb : b ≤ s.length) (e : r a = r b) : a = b := by
 refine sl_total' s a b ha hb ?_ ?_
 ·cases hc:sl s a b with
  | false=>rfl
  | true=>have:=(h.lt a b ha hb).2 hc;omega
 ·cases hc:sl s b a with
  | false=>rfl
  | true=>have:=(h.lt b a hb ha).2 hc;omega
theorem IsRow.one {s : List Nat} {r : Nat → Nat} (h : IsRow s r) (a : Nat) (ha : a ≤ s.length) : r a = (List.range (s.length + 1)).countP (fun b => sl s b a) := by
 have hp:=range_inj_perm (s.length+1) r (fun a ha=>by have:=h.le a (by omega);omega) (fun a b ha hb e=>h.inj (by omega) (by omega) e)
 have h1:=hp.countP_eq (fun x=>decide (x<r a))
 rw [countP_lt_range (r a) (s.length+1) (by have:=h.le a ha;omega),List.countP_map] at h1
 rw [← h1]
 refine List.countP_congr fun b hb=>?_
 have hb':=List.mem_range.1 hb
 rw [← h.lt b a (by omega) ha]
 simp
theorem IsRow.zero {s : List Nat} {r : Nat → Nat} (h : IsRow s r) : r s.length = 0 := by
 rw [h.one _ (Nat.le_refl _)]
 refine List.countP_eq_zero.2 fun b _=>?_
 rw [sl_no s b _ (Nat.le_refl _)];exact Bool.false_ne_true
/-- The rows of ends in order. -/
def rowE (e : List Nat) (n a : Nat) : Nat := if a < n then e.idxOf a + 1 else 0
theorem isRow_sorted {s e : List Nat} (h : SortedE s e) : IsRow s (rowE e s.length) := by
 have hl:=h.len
 have hm:∀ a,a<s.length→a ∈ e:=fun a ha=>h.1.mem_iff.2 (List.mem_range.2 ha)
 refine ⟨fun a ha=>?_,fun a b ha hb=>?_⟩
 ·unfold rowE;split
  ·rename_i h1;have:=List.idxOf_lt_length_of_mem (hm a h1);omega
  ·omega
 ·unfold rowE
  by_cases h1:b<s.length
  ·rw [if_pos h1]
   by_cases h2:a<s.length
   ·rw [if_pos h2]
    have i1:=List.idxOf_lt_length_of_mem (hm a h2)
    have i2:=List.idxOf_lt_length_of_mem (hm b h1)
    have e1:e[e.idxOf a]=a:=List.getElem_idxOf i1
    have e2:e[e.idxOf b]=b:=List.getElem_idxOf i2
    constructor
    ·intro hlt
     have:=List.pairwise_iff_getElem.1 h.2 _ _ i1 i2 (by omega)
     rw [e1,e2] at this;exact this
    ·intro hs
     rcases Nat.lt_trichotomy (e.idxOf a) (e.idxOf b) with h3 | h3 | h3
     ·omega
     ·have:a=b:=by rw [← e1,← e2];simp only [h3]
      subst this;rw [sl_irrefl] at hs;cases hs
     ·have:=List.pairwise_iff_getElem.1 h.2 _ _ i2 i1 h3
      rw [e1,e2] at this
      rw [sl_asymm _ _ _ this] at hs;cases hs
   ·rw [if_neg h2,sl_end s a b (by omega)]
    simp [h1]
  ·rw [if_neg h1,sl_no s a b (by omega)]
   constructor
   ·intro h;omega
   ·intro h;cases h
/-! ### The column, and the way back -/
/-- The place in the column that a row has. -/
def atR (p r : Nat) : Nat := if p < r then r - 1 else r
/-- What is less in a column. -/
def ltC (c : List Nat) (j i : Nat) : Bool := decide (c.getD j 0 < c.getD i 0) || (decide (c.getD j 0 = c.getD i 0) && decide (j < i))
/-- The row of the end that begins with the byte at a place. -/
def toR (c : List Nat) (i : Nat) : Nat := 1 + (List.range c.length).countP (fun j => ltC c j i)
def walkT (c : List Nat) (p : Nat) : Nat → Nat → List Nat → Option (List Nat)
  | 0, r, acc => if r = p then some acc else none
  | k + 1, r, acc => if r = p then none else walkT c p k (toR c (atR p r)) (c.getD (atR p r) 0 :: acc)
theorem atR_lt {n p r : Nat} (hr : r ≤ n) (hp : p ≤ n) (hne : r ≠ p) : atR p r < n := by unfold atR; split <;> omega
theorem atR_mono {p a b : Nat} (ha : a ≠ p) (hb : b ≠ p) : atR p a < atR p b ↔ a < b := by unfold atR; split <;> split <;> omega
theorem atR_inj {p a b : Nat} (ha : a ≠ p) (hb : b ≠ p) (e : atR p a = atR p b) : a = b := by unfold atR at e; split at e <;> split at e <;> omega
/-- c is the column of s, p its primary: by rows. -/
structure ColR (s c : List Nat) (p : Nat) (r : Nat → Nat) : Prop where
  row : IsRow s r
  len : c.length = s.length
  pos : 0 < s.length
  prim : r 0 = p
  byte : ∀ a, a < s.length → c.getD (atR p (r (a + 1))) 0 = s.getD a 0
theorem ColR.ne {s c : List Nat} {p : Nat} {r : Nat → Nat} (h : ColR s c p r) {a : Nat} (ha : a < s.length) : r (a + 1) ≠ p := fun e => by
 have:=h.row.inj (by omega) (by omega) (e.trans h.prim.symm);omega
theorem ColR.le {s c : List Nat} {p : Nat} {r : Nat → Nat} (h : ColR s c p r) : p ≤ s.length := by rw [← h.prim]; exact h.row.le 0 (by omega)
theorem ColR.at {s c : List Nat} {p : Nat} {r : Nat → Nat} (h : ColR s c p r) {a : Nat} (ha : a < s.length) : atR p (r (a + 1)) < s.length := atR_lt (h.row.le _ (by omega)) h.le (h.ne ha)
theorem ColR.step {s c : List Nat} {p : Nat} {r : Nat → Nat} (h : ColR s c p r) (a : Nat) (ha : a < s.length) : toR c (atR p (r (a + 1))) = r a := by
 have hsl:∀ b,b<s.length→ltC c (atR p (r (b+1))) (atR p (r (a+1)))=sl s b a:=fun b hb=>by
  rw [sl_step s b a hb ha]
  unfold ltC
  have e:decide (atR p (r (b+1))<atR p (r (a+1)))=sl s (b+1) (a+1):=by rw [Bool.eq_iff_iff,decide_eq_true_eq,atR_mono (h.ne hb) (h.ne ha),h.row.lt (b+1) (a+1) (by omega) (by omega)]
  rw [h.byte a ha,h.byte b hb,getD_get s a 0 ha,getD_get s b 0 hb,e]
 have hp:=range_inj_perm s.length (fun b=>atR p (r (b+1))) (fun b hb=>h.at hb) (fun b d hb hd e=>by
  have:=h.row.inj (by omega) (by omega) (atR_inj (h.ne hb) (h.ne hd) e);omega)
 rw [h.row.one a (by omega),List.range_succ,List.countP_append]
 unfold toR
 rw [h.len,← hp.countP_eq,List.countP_map]
 have e1:(List.range s.length).countP ((fun j=>ltC c j (atR p (r (a+1)))) ∘ fun b=>atR p (r (b+1)))=(List.range s.length).countP (fun b=>sl s b a):=List.countP_congr fun b hb=>by
  rw [Function.comp_apply,hsl b (List.mem_range.1 hb)]
 rw [e1,List.countP_singleton,sl_end s _ a (Nat.le_refl _),if_pos (by simp [ha])]
 omega
theorem ColR.back {s c : List Nat} {p : Nat} {r : Nat → Nat} (h : ColR s c p r) : ∀ k, k ≤ s.length → walkT c p k (r k) (s.drop k) = some s
 | 0,_=>by rw [walkT,if_pos h.prim];rfl
 | k+1,hk=>by
  rw [walkT,if_neg (h.ne (by omega)),h.step k (by omega),h.byte k (by omega),getD_get s k 0 (by omega),← List.drop_eq_getElem_cons (by omega)]
  exact h.back k (by omega)
/-- The column's text is the text. -/
theorem ColR.text {s c : List Nat} {p : Nat} {r : Nat → Nat} (h : ColR s c p r) : walkT c p c.length 0 [] = some s := by
 have:=h.back s.length (Nat.le_refl _)
 rw [h.row.zero,List.drop_of_length_le (Nat.le_refl _)] at this
 rw [h.len];exact this
/-! ### The column of ends in order -/
def colE (s e : List Nat) : List Nat := s.getD (s.length - 1) 0 :: (e.filter (fun a => decide (a ≠ 0))).map (fun a => s.getD (a - 1) 0)
theorem split_zero {n : Nat} {e : List Nat} (hp : e.Perm (List.range n)) (hn : 0 < n) : ∃ x y, e = x ++ 0 :: y ∧ e.filter (fun a => decide (a ≠ 0)) = x ++ y ∧ e.idxOf 0 = x.length := by
 have hm:0 ∈ e:=hp.mem_iff.2 (List.mem_range.2 hn)
 have hnd:e.Nodup:=hp.nodup_iff.2 List.nodup_range
 obtain ⟨x,y,rfl⟩:=List.append_of_mem hm
 obtain ⟨_,n2,n3⟩:=List.nodup_append.1 hnd
 have hx:∀ a ∈ x,a≠0:=fun a ha=>n3 a ha 0 (List.mem_cons_self ..)
 have hy:∀ a ∈ y,a≠0:=fun a ha e=>by subst e;exact (List.nodup_cons.1 n2).1 ha
 refine ⟨x,y,rfl,?_,?_⟩
 ·rw [List.filter_append,List.filter_cons]
  rw [List.filter_eq_self.2 (fun a ha=>by simp [hx a ha]),List.filter_eq_self.2 (fun a ha=>by simp [hy a ha])]
  simp
 ·rw [List.idxOf_append,if_neg (fun h=>hx 0 h rfl)];simp
theorem colE_ok {s e : List Nat} (h : SortedE s e) (hn : 0 < s.length) : ColR s (colE s e) (e.idxOf 0 + 1) (rowE e s.length) := by
 obtain ⟨x,y,he,hf,hi⟩:=split_zero h.1 hn
 have hl:=h.len
 have hxy:x.length+y.length+1=s.length:=by rw [← hl,he];simp;omega
 refine ⟨isRow_sorted h,?_,hn,by unfold rowE;rw [if_pos hn],fun a ha=>?_⟩
 ·unfold colE;rw [hf];simp;omega
 ·rw [hi]
  unfold colE
  rw [hf]
  by_cases h1:a+1<s.length
  ·have hm:a+1 ∈ e:=h.1.mem_iff.2 (List.mem_range.2 h1)
   have hlt:=List.idxOf_lt_length_of_mem hm
   have hge:e[e.idxOf (a+1)]=a+1:=List.getElem_idxOf hlt
   unfold rowE;rw [if_pos h1]
   generalize e.idxOf (a+1)=q at *
   have hq:(x ++ 0 :: y)[q]?=some (a+1):=by rw [← he,List.getElem?_eq_getElem hlt,hge]
   have key:(x ++ y)[atR (x.length+1) (q+1)-1]?=some (a+1)∧1≤atR (x.length+1) (q+1):=by
    unfold atR
    rcases Nat.lt_trichotomy q x.length with h2 | h2 | h2
    ·rw [if_neg (by omega),Nat.add_sub_cancel]
     rw [List.getElem?_append_left h2] at hq ⊢
     exact ⟨hq,by omega⟩
    ·subst h2
     rw [List.getElem?_append_right (Nat.le_refl _),Nat.sub_self] at hq
     simp at hq
    ·rw [if_pos (by omega),Nat.add_sub_cancel]
     rw [List.getElem?_append_right (by omega)] at hq ⊢
     obtain ⟨d,hd⟩ : ∃ d,q-x.length=d+1:=⟨q-x.length-1,by omega⟩
     rw [hd,List.getElem?_cons_succ] at hq
     rw [show q-1-x.length=d by omega]
     exact ⟨hq,by omega⟩
   obtain ⟨k1,k2⟩:=key
   obtain ⟨z,hz⟩ : ∃ z,atR (x.length+1) (q+1)=z+1:=⟨atR (x.length+1) (q+1)-1,by omega⟩
   rw [hz,Nat.add_sub_cancel] at k1
   rw [hz,List.getD_eq_getElem?_getD,List.getElem?_cons_succ,List.getElem?_map,k1]
   rfl
  ·obtain rfl:a=s.length-1:=by omega
   unfold rowE
   rw [if_neg (by omega)]
   rfl
/-! ### What two ends have in common -/
end Ord
end Go.Proofs.YtckloanlkpchoaaGreatDoor
namespace Go.Proofs.YtckloanlkpchoaaGreatDoor
open Go.RowKit
open Mv Num Loser Srt
set_option maxRecDepth 4000
theorem cb_append (a b : List UInt8) : cellsB (a ++ b) = cellsB a ++ cellsB b := by simp [cellsB]
theorem nums_map (s : ByteArray) : numsT s = s.data.toList.map UInt8.toNat := by
 refine List.ext_getElem (by simp [numsT]) fun i h1 h2=>?_
 have hi:i<s.data.toList.length:=by simpa using h2
 simp only [numsT,List.getElem_map,List.getElem_range]
 unfold byT
 rw [at8_get _ _ hi];unfold nb;rw [Int.toNat_natCast]
theorem nums_bs (l : List UInt8) : numsT (bs l) = l.map UInt8.toNat := by rw [nums_map, bs_data]
theorem nums_cells (s : ByteArray) : cellsB s.data.toList = (numsT s).map encB := by
 rw [nums_map,List.map_map];rfl
theorem nums_inj {s t : ByteArray} (h : numsT s = numsT t) : s = t := by
 rw [nums_map,nums_map] at h
 have:=List.map_inj_right (f:=UInt8.toNat) (fun a b h=>UInt8.toNat_inj.1 h) |>.1 h
 rw [← bs_of s,← bs_of t,this]
theorem nums_getD (s : ByteArray) (i : Nat) : (numsT s).getD i 0 = (at8 s.data.toList i).toNat := by
 rw [nums_map,List.getD_eq_getElem?_getD,List.getElem?_map]
 unfold at8
 rw [List.getD_eq_getElem?_getD]
 cases s.data.toList[i]? <;> rfl
theorem size_z (s : ByteArray) : (s = ByteArray.empty) ↔ s.size = 0 := ⟨fun h => by rw [h]; rfl, fun h => by
 have h2:s.data.toList = []:=List.length_eq_zero_iff.1 (by simpa using h)
 rw [← bs_of s,h2];rfl⟩
/-- The column so far. -/
def colB (s : ByteArray) (e : List Nat) : List UInt8 := at8 s.data.toList (s.size - 1) :: (e.filter (fun a => decide (a ≠ 0))).map (fun a => at8 s.data.toList (a - 1))
def primU (e : List Nat) : Nat → Nat
  | 0 => 0
  | i + 1 => if e.getD i 0 = 0 then i + 1 else primU e i
theorem colB_nums (s : ByteArray) (e : List Nat) : (colB s e).map UInt8.toNat = Ord.colE (numsT s) e := by
 unfold colB Ord.colE
 rw [List.map_cons,List.map_map,nums_getD,numsT_length]
 congr 1
 refine List.map_congr_left fun a _=>?_
 rw [Function.comp_apply,nums_getD]
theorem colB_zero (s : ByteArray) (e : List Nat) (i : Nat) (hi : i < e.length) (h : e[i] = 0) : colB s (e.take (i + 1)) = colB s (e.take i) := by
 unfold colB;rw [List.take_succ_eq_append_getElem hi,List.filter_append,h];simp
theorem colB_more (s : ByteArray) (e : List Nat) (i : Nat) (hi : i < e.length) (h : e[i] ≠ 0) : colB s (e.take (i + 1)) = colB s (e.take i) ++ [at8 s.data.toList (e[i] - 1)] := by
 unfold colB;rw [List.take_succ_eq_append_getElem hi,List.filter_append];simp [h]
theorem colB_len (s : ByteArray) (e : List Nat) (i : Nat) : (colB s (e.take i)).length ≤ i + 1 := by
 unfold colB
 rw [List.length_cons,List.length_map]
 have h1:=List.length_filter_le (fun a=>decide (a≠0)) (e.take i)
 have h2:=List.length_take_le i e
 omega
theorem primU_idx (e : List Nat) (n : Nat) (hp : e.Perm (List.range n)) (hn : 0 < n) : primU e e.length = e.idxOf 0 + 1 := by
 obtain ⟨x,y,he,_,hi⟩:=Ord.split_zero hp hn
 have hnd:e.Nodup:=hp.nodup_iff.2 List.nodup_range
 have hel:e.length=x.length+1+y.length:=by rw [he];simp;omega
 have h0:e.getD x.length 0=0:=by rw [he];simp
 have key:∀ i,x.length<i→i≤e.length→primU e i=x.length+1:=by
  intro i
  induction i with
  | zero=>intro h;omega
  | succ i ih =>
   intro h1 h2
   rw [primU]
   by_cases h3:i=x.length
   ·subst h3;rw [if_pos h0]
   ·have hne:e.getD i 0≠0:=fun h4=>by
     have h4:=h4.trans h0.symm
     rw [getD_get e i 0 (by omega),getD_get e x.length 0 (by omega)] at h4
     exact List.pairwise_iff_getElem.1 hnd x.length i (by omega) (by omega) (by omega) h4.symm
    rw [if_neg hne];exact ih (by omega) (by omega)
 rw [hi];exact key _ (by omega) (Nat.le_refl _)
/-- A text's column, primary and error. -/
def colP (s : ByteArray) : ByteArray × Nat × Nat :=
  if 4096 < s.size then (bs [], 0, 1) else if s.size = 0 then (bs [], 0, 0) else (bs (colB s (Ord.endsR (numsT s) s.size)), (Ord.endsR (numsT s) s.size).idxOf 0 + 1, 0)
def ColPR (s : ByteArray) (S : Mem) (r : Value) (S' : Mem) : Prop := r = .tuple #[.string (colP s).1, .int .i64 ((colP s).2.1 : Nat), .int .i64 ((colP s).2.2 : Nat)] ∧ S' = S
theorem bin_empty {t : TypeId} {x y : Operand} {s : ByteArray} (h : s.size = 0) : Bin Tryz.prog .eql t x y (.string s) (.string ByteArray.empty) (.bool true) := bin_bool (bin_str_eql _ _) (decide_eq_true ((size_z s).2 h))
theorem bin_some {t : TypeId} {x y : Operand} {s : ByteArray} (h : s.size ≠ 0) : Bin Tryz.prog .eql t x y (.string s) (.string ByteArray.empty) (.bool false) := bin_bool (bin_str_eql _ _) (decide_eq_false (fun e => h ((size_z s).1 e)))
theorem byte_at {s : ByteArray} {a : Nat} (h : a ≠ 0) : Value.int .u8 (nb (at8 s.data.toList (((a : Int) - 1).toNat))) = .int .u8 (nb (at8 s.data.toList (a - 1))) := by rw [show ((a : Int) - 1).toNat = a - 1 by omega]
set_option maxHeartbeats 2000000 in
theorem od_Column (s : ByteArray) (S : Mem) (hs : s.size ≤ 140737488355327) :
  ACall Tryz.prog 7 #[.string s] S (ColPR s S):=by
 by_cases hbig:4096<s.size
 ·have hcp:colP s=(bs [],0,1):=by unfold colP;rw [if_pos hbig]
  refine ACall.enter (rs:=[.tmp 2,.tmp 3,.tmp 4]) 50 [(0,.string s)] Tryz.func7 rfl rfl (Nat.le_of_ble_eq_true rfl) rfl ⟨rfl,trivial⟩ ?_
  iterate 15 refine s1_ ?_
  refine su_ [(0,_),(2,_),(3,_),(4,_),(11,_)] ?_
  refine cT_ ?_
  iterate 9 refine s1_ ?_
  refine ⟨_,S,⟨_,_,rfl,⟨_,_,rfl,⟨_,_,rfl,rfl,rfl⟩,rfl⟩,rfl⟩,less_,?_⟩
  exact ⟨by rw [hcp];rfl,rfl⟩
 by_cases hz:s.size=0
 ·have hcp:colP s=(bs [],0,0):=by unfold colP;rw [if_neg hbig,if_pos hz]
  refine ACall.enter (rs:=[.tmp 2,.tmp 3,.tmp 4]) 50 [(0,.string s)] Tryz.func7 rfl rfl (Nat.le_of_ble_eq_true rfl) rfl ⟨rfl,trivial⟩ ?_
  iterate 15 refine s1_ ?_
  refine su_ [(0,_),(2,_),(3,_),(4,_),(11,_)] ?_
  refine cF_ ?_
  iterate 6 refine s1_ ?_
  refine rC (Calm.bin rfl rfl (bin_empty hz)) ?_
  iterate 2 refine s1_ ?_
  refine su_ [(0,_),(2,_),(3,_),(4,_),(11,_),(13,_)] ?_
  refine cT_ ?_
  iterate 9 refine s1_ ?_
  refine ⟨_,S,⟨_,_,rfl,⟨_,_,rfl,⟨_,_,rfl,rfl,rfl⟩,rfl⟩,rfl⟩,less_,?_⟩
  exact ⟨by rw [hcp];rfl,rfl⟩
 obtain ⟨n,hn⟩ : ∃ n,n=s.size:=⟨_,rfl⟩
 obtain ⟨e,he⟩ : ∃ e,e=Ord.endsR (numsT s) s.size:=⟨_,rfl⟩
 have hcp:colP s=(bs (colB s e),e.idxOf 0+1,0):=by unfold colP;rw [if_neg hbig,if_neg hz,he]
 have hse:Ord.SortedE (numsT s) e:=by have:=Ord.endsR_ok (numsT s);rw [numsT_length,← he] at this;exact this
 have hpe:e.Perm (List.range n):=by have:=hse.1;rw [numsT_length,← hn] at this;exact this
 have hel:e.length=n:=by rw [hpe.length_eq,List.length_range]
 have hlt:∀ x ∈ e,x<n:=fun x hx=>List.mem_range.1 (hpe.mem_iff.1 hx)
 refine ACall.enter (rs:=[.tmp 2,.tmp 3,.tmp 4]) 50 [(0,.string s)] Tryz.func7 rfl rfl (Nat.le_of_ble_eq_true rfl) rfl ⟨rfl,trivial⟩ ?_
 iterate 15 refine s1_ ?_
 refine su_ [(0,_),(2,_),(3,_),(4,_),(11,_)] ?_
 refine cF_ ?_
 iterate 6 refine s1_ ?_
 refine rC (Calm.bin rfl rfl (bin_some hz)) ?_
 iterate 2 refine s1_ ?_
 refine su_ [(0,_),(2,_),(3,_),(4,_),(11,_),(13,_)] ?_
 refine cF_ ?_
 iterate 6 refine s1_ ?_
 refine ARun.makeSliceP (lit_lt rfl) ty_sl_51 rfl rfl (by omega) (by omega) (by omega) (by omega) ?_
 intro b16 f16
 have g16:=f16
 repeat ((with_reducible replace g16:=fresh_set g16);obtain ⟨g16,_⟩:=g16)
 iterate 3 refine s1_ ?_
 refine su_ [(0,_),(2,_),(3,_),(4,_),(11,_),(13,_),(5,_)] ?_
 rw [show madeL [Value.int .u8 0] ((0:Int).toNat*1)=cellsB [] by rw [madeL_one];rfl,Nat.mul_one,Int.toNat_natCast]
 iterate 7 refine s1_ ?_
 refine rC (Calm.as (show Value.int .u8 (nb (at8 s.data.toList (((s.size:Int)-1).toNat))) = .int .u8 (nb (at8 s.data.toList (s.size-1))) by rw [show ((s.size:Int)-1).toNat=s.size-1 by omega]) (Calm.indexStr (strT_spec ty_str_9) rfl rfl (by omega) (by omega))) ?_
 refine ARun.build1s (lit_lt rfl) ty_sl_51 rfl rfl ?_
 intro b23 f23
 have g23:=f23
 repeat ((with_reducible replace g23:=fresh_set g23);obtain ⟨g23,_⟩:=g23)
 refine ARun.appendO (o:=some (b16,s.size)) (n:=0) (cs:=cellsB []) (lit_lt rfl) ty_sl_51 rfl rfl (appO_of (okO_own f16 (Nat.zero_le _)) rfl f23) rfl (news:=[_]) rds_ rfl (by omega) (by simp [Value.oneCell']) (by omega) (by omega) ?_
 intro b24 c24 ho24
 iterate 3 refine s1_ ?_
 refine su_ [(0,_),(2,_),(3,_),(4,_),(11,_),(13,_),(5,_)] ?_
 obtain ⟨f24,hc24⟩:=ho24.own b24 c24 rfl
 refine AWP.less (S.set b24 ⟨5,cellsB (colB s (e.take 0)),c24⟩) (Mem.Less.refl _) ?_
 iterate 9 refine s1_ ?_
 refine ARun.toBytes (lit_lt rfl) ty_str_9 ty_bytes_51 rfl ?_
 intro b26 c26 f26 hc26
 have g26:=f26
 repeat ((with_reducible replace g26:=fresh_set g26);obtain ⟨g26,_⟩:=g26)
 obtain ⟨f26a,hne⟩:=fresh_set f26
 rw [Mem.set_comm S _ _ (Ne.symm hne)]
 have f24a:Fresh (S.set b26 ⟨5,cellsB s.data.toList,c26⟩) b24:=fresh_more f24 (Ne.symm hne)
 have hsl:Sl 1 (fun y=>[encB y]) (S.set b26 ⟨5,cellsB s.data.toList,c26⟩) (.slice (some ⟨b26,0,none⟩) s.size c26) (numsT s):=Sl.own1 (g:=encB) (l:=numsT s) (Mem.own_set_same _ _ _) (by rw [nums_cells];exact List.prefix_rfl) (numsT_length s) hc26 (by omega)
 have hS0:S.Less (S.set b26 ⟨5,cellsB s.data.toList,c26⟩):=Mem.less_set _ _ _ f26a.1
 refine ca_ rfl (((odB_ranks _ (numsT s) _ hsl (by rw [numsT_length];omega)).frame f24a)) ?_
 rintro u1 _ ⟨S1,⟨D,hD,hDl,hS1,hu⟩,f24b,rfl⟩
 refine ca_ rfl (((od_ends u1 (numsT s) ((numsT s).map (cntL D)) S1 hu (by rw [List.length_map]) (by rw [numsT_length];omega) (fun x hx=>by obtain ⟨y,_,rfl⟩:=List.mem_map.1 hx;have:=cnt_le D y;rw [numsT_length] at hDl;omega) (rk_cnt _ D hD)).frame f24b)) ?_
 rintro u2 _ ⟨S2,⟨hS2,hu2⟩,f24c,rfl⟩
 rw [numsT_length,← he] at hu2
 have hSS2:=hS0.trans (hS1.trans hS2)
 obtain ⟨ea,ec,rfl,h1,h2,h3⟩:=hu2
 rw [hel] at h1 h2 ⊢
 iterate 4 refine s1_ ?_
 refine su_ [(0,_),(2,_),(3,_),(4,_),(11,_),(13,_),(5,_),(6,_),(28,_),(29,_),(30,_)] ?_
 refine s1_ ?_
 refine AWP.loop (X:=Nat × Nat × Option (Nat × Nat)) (fun x=>[(0,.string s),(5,outV x.2.2 (colB s (e.take x.1)).length),(6,.int .i64 x.2.1),(28,.slice ea n ec),(29,.int .i64 n),(30,.int .i64 x.1)]) (fun x=>outM S2 x.2.2 5 (cellsB (colB s (e.take x.1)))) (fun x=>x.1≤n∧x.2.1=primU e x.1∧OkO S2 x.2.2 (colB s (e.take x.1)).length) (fun x=>n-x.1) ((0,0,some (b24,c24))) ⟨rfl,rfl,rfl,rfl,rfl,rfl,trivial⟩ (Mem.Less.refl _) (⟨Nat.zero_le _,rfl,okO_own f24c hc24⟩) ?_
 rintro ⟨i,p,o⟩ ⟨q1,q2,q3⟩
 (try dsimp only at *)
 have hcl:=colB_len s e i
 have hlen:(cellsB (colB s (e.take i))).length=(colB s (e.take i)).length:=cellsB_length _
 have hSk:S2.Less (outM S2 o 5 (cellsB (colB s (e.take i)))):=outM_over q3
 by_cases hc:i<n
 ·iterate 6 refine s1_ ?_
  refine cT_ ?_
  have hie:i<e.length:=by omega
  obtain ⟨eb,eo,rfl,hk⟩:=h3.resolve_left (fun h=>by rw [h] at hie;exact absurd hie (Nat.not_lt_zero _))
  obtain ⟨a,ha⟩ : ∃ a,a=e[i]:=⟨_,rfl⟩
  have han:a<n:=by rw [ha];exact hlt _ (List.getElem_mem _)
  have hka:Mem.Knows (outM S2 o 5 (cellsB (colB s (e.take i)))) ⟨eb,eo+i*1,none⟩ [.int .i64 (a:Int)]:=by rw [ha];exact (hk i hie).less hSk
  by_cases h0:a=0
  ·have hcz:=colB_zero s e i hie (by rw [← ha];exact h0)
   iterate 13 refine s1_ ?_
   refine su_ [(0,_),(5,_),(6,_),(28,_),(29,_),(30,_),(31,_),(7,_),(8,_)] ?_
   iterate 7 refine s1_ ?_
   refine su_ [(0,_),(5,_),(6,_),(28,_),(29,_),(30,_),(31,_),(7,_),(8,_),(36,_)] ?_
   refine cT_ ?_
   iterate 7 refine s1_ ?_
   refine su_ [(0,_),(5,_),(6,_),(28,_),(29,_),(30,_),(31,_),(7,_),(8,_),(36,_)] ?_
   iterate 9 refine s1_ ?_
   refine ⟨(i+1,i+1,o),?_,?_,?_,?_⟩
   all_goals (try dsimp only)
   ·exact ⟨sq_,by rw [hcz];rfl,sq_,sq_,sq_,sq_,trivial⟩
   ·rw [hcz];exact Mem.Less.refl _
   ·exact ⟨hc,by rw [primU,getD_get e i 0 hie,← ha,if_pos h0],by rw [hcz];exact q3⟩
   ·omega
  ·have hcm:=colB_more s e i hie (by rw [← ha];exact h0)
   iterate 13 refine s1_ ?_
   refine su_ [(0,_),(5,_),(6,_),(28,_),(29,_),(30,_),(31,_),(7,_),(8,_)] ?_
   iterate 7 refine s1_ ?_
   refine su_ [(0,_),(5,_),(6,_),(28,_),(29,_),(30,_),(31,_),(7,_),(8,_),(36,_)] ?_
   refine cF_ ?_
   iterate 7 refine s1_ ?_
   refine rC (Calm.as (byte_at h0) (Calm.indexStr (strT_spec ty_str_9) rfl rfl (by omega) (by omega))) ?_
   refine ARun.build1s (lit_lt rfl) ty_sl_51 rfl rfl ?_
   intro b44 f44
   have g44:=f44
   repeat ((with_reducible replace g44:=fresh_set g44);obtain ⟨g44,_⟩:=g44)
   refine ARun.appendO (lit_lt rfl) ty_sl_51 rfl hlen (appO_of q3 hlen f44) rfl (news:=[_]) rds_ rfl (by omega) (by simp [Value.oneCell']) (by omega) (by omega) ?_
   intro b45 c45 ho2
   have hpush:cellsB (colB s (e.take i)) ++ [.int .u8 (nb (at8 s.data.toList (a-1)))]=cellsB (colB s (e.take (i+1))):=by rw [hcm,cb_append,ha];rfl
   have hpl:(colB s (e.take (i+1))).length=(colB s (e.take i)).length+1:=by rw [hcm,List.length_append];rfl
   iterate 4 refine s1_ ?_
   refine su_ [(0,_),(5,_),(6,_),(28,_),(29,_),(30,_),(31,_),(7,_),(8,_),(36,_)] ?_
   iterate 5 refine s1_ ?_
   refine ⟨(i+1,p,some (b45,c45)),?_,?_,?_,?_⟩
   all_goals (try dsimp only)
   ·exact ⟨sq_,by rw [hpl];rfl,sq_,sq_,sq_,sq_,trivial⟩
   ·rw [hpush];exact Mem.Less.refl _
   ·exact ⟨hc,by rw [primU,getD_get e i 0 hie,← ha,if_neg h0];exact q2,by rw [hpl];exact ho2⟩
   ·omega
 ·obtain rfl:i=n:=by omega
  iterate 6 refine s1_ ?_
  refine cF_ ?_
  rw [List.take_of_length_le (by omega)] at q3 hlen ⊢
  obtain ⟨bo,co,rfl⟩:=q3.some (by unfold colB;simp)
  iterate 8 refine s1_ ?_
  refine rC (Calm.toStr ty_bytes_51 ty_str_9 rfl rfl (rds_outM _ _ _ _ _)) ?_
  iterate 6 refine s1_ ?_
  refine su_ [(0,_),(5,_),(6,_),(28,_),(29,_),(30,_),(31,_),(2,_),(3,_),(4,_)] ?_
  refine s1_ ?_
  refine ⟨_,S,⟨_,_,rfl,⟨_,_,rfl,⟨_,_,rfl,rfl,rfl⟩,rfl⟩,rfl⟩,hSS2.trans (outM_over q3),?_⟩
  exact ⟨by rw [hcp,q2,← hel,primU_idx e e.length (by rw [hel];exact hpe) (by omega)];rfl,rfl⟩
end Go.Proofs.YtckloanlkpchoaaGreatDoor
namespace Go.Proofs.YtckloanlkpchoaaGreatDoor
open Go.RowKit
open Mv Num Bits
namespace Bx
/-- A head's bytes. -/
def hdL (cnt prim sm segs nb : Nat) : List UInt8 := [87, 82, 71, 49] ++ five cnt ++ five prim ++ le4 sm ++ five segs ++ five nb
theorem hdL_length (cnt prim sm segs nb : Nat) : (hdL cnt prim sm segs nb).length = 28 := rfl
def bodyL (cnt prim sm segs : Nat) (L : List Bool) : List UInt8 := hdL cnt prim sm segs L.length ++ pack L
/-- A container. -/
def boxL (cnt prim sm segs : Nat) (L : List Bool) : List UInt8 := bodyL cnt prim sm segs L ++ le4 (sumOf (bs (bodyL cnt prim sm segs L))).toNat
theorem bodyL_length (cnt prim sm segs : Nat) (L : List Bool) : (bodyL cnt prim sm segs L).length = 28 + (L.length + 7) / 8 := by
 unfold bodyL;rw [List.length_append,hdL_length,(right_pack L).1]
theorem boxL_length (cnt prim sm segs : Nat) (L : List Bool) : (boxL cnt prim sm segs L).length = 32 + (L.length + 7) / 8 := by
 unfold boxL;rw [List.length_append,bodyL_length];show _+4=_;omega
theorem five_inj' {n m : Nat} (hn : n < top) (hm : m < top) (h : five n = five m) : n = m := by rw [← ofB_five n hn, ← ofB_five m hm, h]
theorem pack_inj {L M : List Bool} (hl : L.length = M.length) (h : pack L = pack M) : L = M := by
 rw [← upto_pack L,← upto_pack M,h,hl]
/-- What a container tells. -/
theorem boxL_inj {c p s g c' p' s' g' : Nat} {L L' : List Bool} (hc : c < top) (hc' : c' < top) (hp : p < top) (hp' : p' < top) (hL : L.length < top) (hL' : L'.length < top) (h : boxL c p s g L = boxL c' p' s' g' L') : c = c' ∧ p = p' ∧ L = L' := by
 have h0:=congrArg (fun l=>(l.drop 4).take 5) h
 have h1:=congrArg (fun l=>(l.drop 9).take 5) h
 have h2:=congrArg (fun l=>(l.drop 23).take 5) h
 have e0:∀ c p s g L,((boxL c p s g L).drop 4).take 5=five c:=fun _ _ _ _ _=>rfl
 have e1:∀ c p s g L,((boxL c p s g L).drop 9).take 5=five p:=fun _ _ _ _ _=>rfl
 have e2:∀ c p s g L,((boxL c p s g L).drop 23).take 5=five L.length:=fun _ _ _ _ _=>rfl
 simp only [e0,e1,e2] at h0 h1 h2
 have hl:=five_inj' hL hL' h2
 have hb:bodyL c p s g L=bodyL c' p' s' g' L':=(List.append_inj h (by rw [bodyL_length,bodyL_length,hl])).1
 have hk:pack L=pack L':=(List.append_inj hb (by rw [hdL_length,hdL_length])).2
 exact ⟨five_inj' hc hc' h0,five_inj' hp hp' h1,pack_inj hl hk⟩
/-- What a text's column is good for. -/
theorem col_ok (s : ByteArray) (h : s.size ≤ 4096) : (colP s).2.2 = 0 ∧ (colP s).1.size = s.size ∧ (colP s).2.1 ≤ s.size ∧ (0 < s.size → Ord.walkT (numsT (colP s).1) (colP s).2.1 s.size 0 [] = some (numsT s)) := by
 by_cases h0:s.size=0
 ·unfold colP
  rw [if_neg (by omega),if_pos h0]
  exact ⟨rfl,h0.symm,Nat.zero_le _,fun h=>by omega⟩
 ·obtain ⟨e,he⟩ : ∃ e,e=Ord.endsR (numsT s) s.size:=⟨_,rfl⟩
  have hse:Ord.SortedE (numsT s) e:=by have:=Ord.endsR_ok (numsT s);rw [numsT_length,← he] at this;exact this
  have hc:=Ord.colE_ok hse (by rw [numsT_length];omega)
  rw [← colB_nums,← nums_bs] at hc
  have hsz:(bs (colB s e)).size=s.size:=by have:=hc.len;rw [numsT_length,numsT_length] at this;exact this
  have hw:=hc.text
  rw [numsT_length,hsz] at hw
  have hm:0 ∈ e:=hse.1.mem_iff.2 (List.mem_range.2 (by rw [numsT_length];omega))
  have hi:=List.idxOf_lt_length_of_mem hm
  rw [hse.len,numsT_length] at hi
  unfold colP
  rw [if_neg (by omega),if_neg h0,← he]
  exact ⟨rfl,hsz,by show e.idxOf 0+1≤s.size;omega,fun _=>hw⟩
theorem col_inj {s t : ByteArray} (hs : s.size ≤ 4096) (ht : t.size ≤ 4096) (hl : s.size = t.size) (hc : (colP s).1 = (colP t).1) (hp : (colP s).2.1 = (colP t).2.1) : s = t := by
 by_cases h0:s.size=0
 ·apply str_ext
  have e1:s.data.toList.length=s.size:=Array.length_toList (xs:=s.data)
  have e2:t.data.toList.length=t.size:=Array.length_toList (xs:=t.data)
  rw [List.eq_nil_of_length_eq_zero (show s.data.toList.length=0 by omega),List.eq_nil_of_length_eq_zero (show t.data.toList.length=0 by omega)]
 ·have h1:=(col_ok s hs).2.2.2 (by omega)
  have h2:=(col_ok t ht).2.2.2 (by omega)
  rw [hc,hp,hl,h2] at h1
  exact (nums_inj (Option.some.inj h1)).symm
/-- A text's container. -/
def colL (s : ByteArray) : List UInt8 := (colP s).1.data.toList
def boxS (s : ByteArray) : List UInt8 := boxL s.size (colP s).2.1 (sumOf s).toNat (if colL s = [] then 0 else 1) (Sg.segB (colL s))
theorem colL_len (s : ByteArray) (h : s.size ≤ 4096) : (colL s).length = s.size := (Array.length_toList (xs := (colP s).1.data)).trans (col_ok s h).2.1
theorem segB_small {t : List UInt8} (h : t.length ≤ 512) : (Sg.segB t).length ≤ 20000 := by
 unfold Sg.segB
 split
 ·exact Nat.zero_le _
 ·rename_i q
  have h1:=Sg.bitsS_length (Sg.enc_syms (Sg.far_ne q))
  have h2:=Zr.enc_len (Mt.far Mt.row0 t) 0
  rw [Mt.far_length] at h2
  omega
/-- Two texts have one container just if they are one. -/
theorem boxS_inj {s t : ByteArray} (hs : s.size ≤ 300) (ht : t.size ≤ 300) : bs (boxS s) = bs (boxS t) ↔ s = t := by
 constructor
 ·intro h
  have h':boxS s=boxS t:=by
   have:=congrArg (fun b:ByteArray=>b.data.toList) h
   simpa [bs] using this
  have l1:=colL_len s (by omega)
  have l2:=colL_len t (by omega)
  have b1:=segB_small (t:=colL s) (by omega)
  have b2:=segB_small (t:=colL t) (by omega)
  have c1:=(col_ok s (by omega)).2.2.1
  have c2:=(col_ok t (by omega)).2.2.1
  have ht2:top=1099511627776:=rfl
  obtain ⟨e1,e2,e3⟩:=boxL_inj (by omega) (by omega) (by omega) (by omega) (by omega) (by omega) h'
  have e4:colL s=colL t:=Sg.segB_inj (by
   constructor
   ·intro e;rw [e] at l1;exact List.eq_nil_of_length_eq_zero (by rw [l2,← e1,← l1];rfl)
   ·intro e;rw [e] at l2;exact List.eq_nil_of_length_eq_zero (by rw [l1,e1,← l2];rfl)) e3
  exact col_inj (by omega) (by omega) e1 (str_ext e4) e2
 ·intro h;rw [h]
end Bx
end Go.Proofs.YtckloanlkpchoaaGreatDoor
namespace Go.Proofs.YtckloanlkpchoaaGreatDoor
open Go.RowKit
open Mv
set_option maxRecDepth 4000
namespace Zr
/-- What a slice that grows comes to. -/
def GrU (S : Mem) (l : List Nat) (r : Value) (S' : Mem) : Prop := ∃ o, OkO S o l.length ∧ r = outV o l.length ∧ S' = outM S o 26 (l.map gU)
theorem zr_digits (S : Mem) (o : Option (Nat × Nat)) (l : List Nat) (n : Nat) (ho : OkO S o l.length) (hn : n ≤ 1000000) (hl : l.length ≤ 1000000) :
  ACall Tryz.prog 81 #[outV o l.length,.int .u64 (n:Int)] (outM S o 26 (l.map gU)) (GrU S (l ++ digits n)):=by
 refine ACall.enter (rs:=[.tmp 4]) 17 [(0,outV o l.length),(1,.int .u64 (n:Int))] Tryz.func81 rfl rfl (Nat.le_of_ble_eq_true rfl) rfl ⟨rfl,rfl,trivial⟩ ?_
 iterate 7 refine s1_ ?_
 refine AWP.loop (X:=Nat × List Nat × Option (Nat × Nat)) (fun x=>[(0,outV x.2.2 x.2.1.length),(1,.int .u64 (x.1:Int))]) (fun x=>outM S x.2.2 26 (x.2.1.map gU)) (fun x=>x.2.1 ++ digits x.1=l ++ digits n∧x.2.1.length+x.1≤l.length+n∧OkO S x.2.2 x.2.1.length) (fun x=>x.1) ((n,l,o)) ⟨rfl,rfl,trivial⟩ (Mem.Less.refl _) (⟨rfl,Nat.le_refl _,ho⟩) ?_
 rintro ⟨k,L,o2⟩ ⟨h1,h2,h3⟩
 (try dsimp only at *)
 by_cases hk:k=0
 ·subst hk
  iterate 7 refine s1_ ?_
  refine su_ [(0,_),(1,_),(6,_)] ?_
  refine cF_ ?_
  rw [digits_zero,List.append_nil] at h1
  rw [← h1]
  iterate 11 refine s1_ ?_
  refine su_ [(0,_),(1,_),(6,_),(4,_)] ?_
  refine s1_ ?_
  refine ⟨_,_,⟨_,_,rfl,rfl,rfl⟩,Mem.Less.refl _,?_⟩
  exact ⟨o2,h3,rfl,rfl⟩
 ·iterate 7 refine s1_ ?_
  refine su_ [(0,_),(1,_),(6,_)] ?_
  refine cT_ ?_
  iterate 9 refine s1_ ?_
  refine ARun.build1s (lit_lt rfl) ty_sl_108 rfl rfl ?_
  intro b14 f14
  have g14:=f14
  repeat ((with_reducible replace g14:=fresh_set g14);obtain ⟨g14,_⟩:=g14)
  refine ARun.appendO (lit_lt rfl) ty_sl_108 rfl map_len (appO_of h3 map_len f14) rfl (news:=[_]) rds_ rfl (by omega) (by simp [Value.oneCell']) (by omega) (by omega) ?_
  intro b15 c15 ho2
  iterate 4 refine s1_ ?_
  refine su_ [(0,_),(1,_),(6,_)] ?_
  iterate 7 refine s1_ ?_
  refine ⟨((k-1) / 2,L ++ [(k-1) % 2],some (b15,c15)),?_,?_,?_,?_⟩
  all_goals (try dsimp only)
  ·exact ⟨sq_,sq_,trivial⟩
  ·exact push_less (by unfold gU;congr 1;omega)
  ·exact ⟨by rw [← h1,digits_pos hk,List.append_assoc];rfl,by rw [List.length_append];show L.length+1+(k-1) / 2≤_;omega,push_ok ho2 rfl⟩
  ·omega
theorem enc_nil (n : Nat) : enc [] n = digits n ++ [257] := by unfold enc; rfl
theorem enc_step {l : List UInt8} {i n : Nat} (h : i < l.length) : enc (l.drop i) n = if at8 l i = 0 then enc (l.drop (i + 1)) (n + 1) else digits n ++ [(at8 l i).toNat + 1] ++ enc (l.drop (i + 1)) 0 := by
 rw [List.drop_eq_getElem_cons h,at8_get _ _ h];rfl
set_option maxHeartbeats 2000000 in
theorem zr_Encode (s : ByteArray) (S : Mem) (hs : s.size ≤ 65536) :
  ACall Tryz.prog 47 #[.string s] S fun r S'=>∃ v,r = .tuple #[v,.int .i64 0]∧GrU S (enc s.data.toList 0) v S':=by
 have hsl:s.data.toList.length=s.size:=Array.length_toList
 refine ACall.enter (rs:=[.tmp 2,.tmp 3]) 37 [(0,.string s)] Tryz.func47 rfl rfl (Nat.le_of_ble_eq_true rfl) rfl ⟨rfl,trivial⟩ ?_
 iterate 14 refine s1_ ?_
 refine su_ [(0,_),(2,_),(3,_),(9,_)] ?_
 refine cF_ ?_
 iterate 20 refine s1_ ?_
 refine su_ [(0,_),(2,_),(3,_),(9,_),(4,_),(5,_),(11,_),(12,_)] ?_
 refine s1_ ?_
 refine AWP.loop (X:=Nat × List Nat × Option (Nat × Nat) × Nat) (fun x=>[(0,.string s),(4,outV x.2.2.1 x.2.1.length),(5,.int .u64 (x.2.2.2:Int)),(11,.int .i64 (s.size:Int)),(12,.int .i64 (x.1:Int))]) (fun x=>outM S x.2.2.1 26 (x.2.1.map gU)) (fun x=>x.1≤s.size∧x.2.2.2≤x.1∧x.2.1 ++ enc (s.data.toList.drop x.1) x.2.2.2=enc s.data.toList 0∧OkO S x.2.2.1 x.2.1.length) (fun x=>s.size-x.1) ((0,[],none,0)) ⟨rfl,rfl,rfl,rfl,rfl,trivial⟩ (Mem.Less.refl _) (⟨Nat.zero_le _,Nat.le_refl _,rfl,okO_nil _⟩) ?_
 rintro ⟨i,L,o,n⟩ ⟨h1,h2,h3,h4⟩
 (try dsimp only at *)
 have hlen:L.length≤s.size+1:=by have e:=congrArg List.length h3;have:=enc_len s.data.toList 0;rw [List.length_append] at e;omega
 by_cases hi:i<s.size
 ·iterate 6 refine s1_ ?_
  refine cT_ ?_
  have he:=enc_step (l:=s.data.toList) (i:=i) (n:=n) (by omega)
  by_cases hc:at8 s.data.toList i=0
  ·rw [if_pos hc] at he
   iterate 10 refine s1_ ?_
   refine su_ [(0,_),(4,_),(5,_),(11,_),(12,_),(13,_),(6,_)] ?_
   iterate 6 refine s1_ ?_
   refine rC (Calm.bin rfl rfl (bin_bool (bin_eql _ _) (decide_eq_true (by rw [hc];rfl)))) ?_
   iterate 2 refine s1_ ?_
   refine su_ [(0,_),(4,_),(5,_),(11,_),(12,_),(13,_),(6,_),(18,_)] ?_
   refine cT_ ?_
   iterate 7 refine s1_ ?_
   refine su_ [(0,_),(4,_),(5,_),(11,_),(12,_),(13,_),(6,_),(18,_)] ?_
   iterate 9 refine s1_ ?_
   refine ⟨(i+1,L,o,n+1),?_,?_,?_,?_⟩
   all_goals (try dsimp only)
   ·exact ⟨sq_,sq_,sq_,sq_,sq_,trivial⟩
   ·exact Mem.Less.refl _
   ·exact ⟨hi,by omega,by rw [← he];exact h3,h4⟩
   ·omega
  ·rw [if_neg hc] at he
   have hn8:nb (at8 s.data.toList i)≠0:=fun e=>hc (by apply UInt8.toNat_inj.1;unfold nb at e;simpa using e)
   have hdig:=fun (T:Mem) (o:Option (Nat × Nat)) (h:OkO T o L.length)=>zr_digits T o L n h (by omega) (by omega)
   have h257:=UInt8.toNat_lt (at8 s.data.toList i)
   have hlen2:(L ++ digits n).length≤200000:=by rw [List.length_append];have:=digits_len n;omega
   iterate 10 refine s1_ ?_
   refine su_ [(0,_),(4,_),(5,_),(11,_),(12,_),(13,_),(6,_)] ?_
   iterate 6 refine s1_ ?_
   refine rC (Calm.bin rfl rfl (bin_bool (bin_eql _ _) (decide_eq_false hn8))) ?_
   iterate 2 refine s1_ ?_
   refine su_ [(0,_),(4,_),(5,_),(11,_),(12,_),(13,_),(6,_),(18,_)] ?_
   refine cF_ ?_
   iterate 3 refine s1_ ?_
   refine AWP.drawG [2,5,6,8,9] mixed ?_
   refine DG.pure 0 (by kernel_rfl) (by kernel_rfl) rfl rfl rfl rfl (lit_lt rfl) (fun _=>Calm.move rfl) ?_
   refine DG.pure 1 (by kernel_rfl) (by kernel_rfl) rfl rfl rfl rfl (lit_lt rfl) (fun _=>Calm.move rfl) ?_
   refine DG.pure 3 (by kernel_rfl) (by kernel_rfl) rfl rfl rfl rfl (lit_lt rfl) (fun _=>Calm.move rfl) ?_
   refine DG.pure 4 (by kernel_rfl) (by kernel_rfl) rfl rfl rfl rfl (lit_lt rfl) (fun _=>Calm.move rfl) ?_
   refine DG.two 2 5 (by kernel_rfl) rfl ?_ rfl ?_
   ·refine ca_ rfl (hdig S o h4) ?_
    rintro _ _ ⟨o2,ho2,rfl,rfl⟩
    refine arun_nil ⟨fun h=>absurd h (by decide),?_⟩
    refine DG.only 5 (by kernel_rfl) rfl ?_
    refine s1_ ?_
    refine arun_nil ⟨fun h=>absurd h (by decide),?_⟩
    refine DG.only 6 (by kernel_rfl) rfl ?_
    refine s1_ ?_
    refine arun_nil ⟨fun h=>absurd h (by decide),?_⟩
    refine DG.pure 7 (by kernel_rfl) (by kernel_rfl) rfl rfl rfl rfl (lit_lt rfl) (fun _=>Calm.bin rfl rfl b_add_u64) ?_
    refine DG.only 8 (by kernel_rfl) rfl ?_
    refine ARun.build1s (lit_lt rfl) ty_sl_108 rfl rfl ?_
    intro b29 f29
    have g29:=f29
    repeat ((with_reducible replace g29:=fresh_set g29);obtain ⟨g29,_⟩:=g29)
    refine arun_nil ⟨fun h=>absurd h (by decide),?_⟩
    refine DG.only 9 (by kernel_rfl) rfl ?_
    refine ARun.appendO (lit_lt rfl) ty_sl_108 rfl map_len (appO_of ho2 map_len f29) rfl (news:=[_]) rds_ rfl (by omega) (by simp [Value.oneCell']) (by omega) (by omega) ?_
    intro b30 c30 ho3
    refine arun_nil ⟨fun h=>absurd h (by decide),?_⟩
    refine DG.pure 10 (by kernel_rfl) (by kernel_rfl) rfl rfl rfl rfl (lit_lt rfl) (fun _=>Calm.assign rfl) ?_
    refine DG.end_ (by kernel_rfl) ?_
    refine s1_ ?_
    refine su_ [(0,_),(4,_),(5,_),(11,_),(12,_),(13,_),(6,_),(18,_)] ?_
    iterate 10 refine s1_ ?_
    refine ⟨(i+1,L ++ digits n ++ [(at8 s.data.toList i).toNat+1],some (b30,c30),0),?_,?_,?_,?_⟩
    all_goals (try dsimp only)
    ·exact ⟨sq_,sq_,sq_,sq_,sq_,trivial⟩
    ·exact push_less (by unfold gU nb;congr 1;first | omega | (rw [IntWalk.u64_in _ (by omega)];omega))
    ·exact ⟨hi,by omega,by rw [← h3,he];simp only [List.append_assoc],push_ok ho3 rfl⟩
    ·omega
   ·refine s1_ ?_
    refine arun_nil ⟨fun h=>absurd h (by decide),?_⟩
    refine DG.two 2 6 (by kernel_rfl) rfl ?_ rfl ?_
    ·refine ca_ rfl (hdig S o h4) ?_
     rintro _ _ ⟨o2,ho2,rfl,rfl⟩
     refine arun_nil ⟨fun h=>absurd h (by decide),?_⟩
     refine DG.only 6 (by kernel_rfl) rfl ?_
     refine s1_ ?_
     refine arun_nil ⟨fun h=>absurd h (by decide),?_⟩
     refine DG.pure 7 (by kernel_rfl) (by kernel_rfl) rfl rfl rfl rfl (lit_lt rfl) (fun _=>Calm.bin rfl rfl b_add_u64) ?_
     refine DG.only 8 (by kernel_rfl) rfl ?_
     refine ARun.build1s (lit_lt rfl) ty_sl_108 rfl rfl ?_
     intro b29 f29
     have g29:=f29
     repeat ((with_reducible replace g29:=fresh_set g29);obtain ⟨g29,_⟩:=g29)
     refine arun_nil ⟨fun h=>absurd h (by decide),?_⟩
     refine DG.only 9 (by kernel_rfl) rfl ?_
     refine ARun.appendO (lit_lt rfl) ty_sl_108 rfl map_len (appO_of ho2 map_len f29) rfl (news:=[_]) rds_ rfl (by omega) (by simp [Value.oneCell']) (by omega) (by omega) ?_
     intro b30 c30 ho3
     refine arun_nil ⟨fun h=>absurd h (by decide),?_⟩
     refine DG.pure 10 (by kernel_rfl) (by kernel_rfl) rfl rfl rfl rfl (lit_lt rfl) (fun _=>Calm.assign rfl) ?_
     refine DG.end_ (by kernel_rfl) ?_
     refine s1_ ?_
     refine su_ [(0,_),(4,_),(5,_),(11,_),(12,_),(13,_),(6,_),(18,_)] ?_
     iterate 10 refine s1_ ?_
     refine ⟨(i+1,L ++ digits n ++ [(at8 s.data.toList i).toNat+1],some (b30,c30),0),?_,?_,?_,?_⟩
     all_goals (try dsimp only)
     ·exact ⟨sq_,sq_,sq_,sq_,sq_,trivial⟩
     ·exact push_less (by unfold gU nb;congr 1;first | omega | (rw [IntWalk.u64_in _ (by omega)];omega))
     ·exact ⟨hi,by omega,by rw [← h3,he];simp only [List.append_assoc],push_ok ho3 rfl⟩
     ·omega
    ·refine s1_ ?_
     refine arun_nil ⟨fun h=>absurd h (by decide),?_⟩
     refine DG.pure 7 (by kernel_rfl) (by kernel_rfl) rfl rfl rfl rfl (lit_lt rfl) (fun _=>Calm.bin rfl rfl b_add_u64) ?_
     refine DG.two 2 8 (by kernel_rfl) rfl ?_ rfl ?_
     ·refine ca_ rfl (hdig S o h4) ?_
      rintro _ _ ⟨o2,ho2,rfl,rfl⟩
      refine arun_nil ⟨fun h=>absurd h (by decide),?_⟩
      refine DG.only 8 (by kernel_rfl) rfl ?_
      refine ARun.build1s (lit_lt rfl) ty_sl_108 rfl rfl ?_
      intro b29 f29
      have g29:=f29
      repeat ((with_reducible replace g29:=fresh_set g29);obtain ⟨g29,_⟩:=g29)
      refine arun_nil ⟨fun h=>absurd h (by decide),?_⟩
      refine DG.only 9 (by kernel_rfl) rfl ?_
      refine ARun.appendO (lit_lt rfl) ty_sl_108 rfl map_len (appO_of ho2 map_len f29) rfl (news:=[_]) rds_ rfl (by omega) (by simp [Value.oneCell']) (by omega) (by omega) ?_
      intro b30 c30 ho3
      refine arun_nil ⟨fun h=>absurd h (by decide),?_⟩
      refine DG.pure 10 (by kernel_rfl) (by kernel_rfl) rfl rfl rfl rfl (lit_lt rfl) (fun _=>Calm.assign rfl) ?_
      refine DG.end_ (by kernel_rfl) ?_
      refine s1_ ?_
      refine su_ [(0,_),(4,_),(5,_),(11,_),(12,_),(13,_),(6,_),(18,_)] ?_
      iterate 10 refine s1_ ?_
      refine ⟨(i+1,L ++ digits n ++ [(at8 s.data.toList i).toNat+1],some (b30,c30),0),?_,?_,?_,?_⟩
      all_goals (try dsimp only)
      ·exact ⟨sq_,sq_,sq_,sq_,sq_,trivial⟩
      ·exact push_less (by unfold gU nb;congr 1;first | omega | (rw [IntWalk.u64_in _ (by omega)];omega))
      ·exact ⟨hi,by omega,by rw [← h3,he];simp only [List.append_assoc],push_ok ho3 rfl⟩
      ·omega
     ·refine ARun.build1s (lit_lt rfl) ty_sl_108 rfl rfl ?_
      intro b29 f29
      have g29:=f29
      repeat ((with_reducible replace g29:=fresh_set g29);obtain ⟨g29,_⟩:=g29)
      refine arun_nil ⟨fun h=>absurd h (by decide),?_⟩
      refine DG.only 2 (by kernel_rfl) rfl ?_
      refine ca_ rfl ((hdig S o h4).frame f29) ?_
      rintro _ _ ⟨_,⟨o2,ho2,rfl,rfl⟩,f29',rfl⟩
      refine arun_nil ⟨fun h=>absurd h (by decide),?_⟩
      refine DG.only 9 (by kernel_rfl) rfl ?_
      refine ARun.appendO (lit_lt rfl) ty_sl_108 rfl map_len (appO_of ho2 map_len f29') rfl (news:=[_]) rds_ rfl (by omega) (by simp [Value.oneCell']) (by omega) (by omega) ?_
      intro b30 c30 ho3
      refine arun_nil ⟨fun h=>absurd h (by decide),?_⟩
      refine DG.pure 10 (by kernel_rfl) (by kernel_rfl) rfl rfl rfl rfl (lit_lt rfl) (fun _=>Calm.assign rfl) ?_
      refine DG.end_ (by kernel_rfl) ?_
      refine s1_ ?_
      refine su_ [(0,_),(4,_),(5,_),(11,_),(12,_),(13,_),(6,_),(18,_)] ?_
      iterate 10 refine s1_ ?_
      refine ⟨(i+1,L ++ digits n ++ [(at8 s.data.toList i).toNat+1],some (b30,c30),0),?_,?_,?_,?_⟩
      all_goals (try dsimp only)
      ·exact ⟨sq_,sq_,sq_,sq_,sq_,trivial⟩
      ·exact push_less (by unfold gU nb;congr 1;first | omega | (rw [IntWalk.u64_in _ (by omega)];omega))
      ·exact ⟨hi,by omega,by rw [← h3,he];simp only [List.append_assoc],push_ok ho3 rfl⟩
      ·omega
 ·iterate 6 refine s1_ ?_
  refine cF_ ?_
  obtain rfl:i=s.size:=by omega
  rw [List.drop_eq_nil_of_le (by omega)] at h3
  rw [enc_nil,← List.append_assoc] at h3
  have hlen2:(L ++ digits n).length≤200000:=by rw [List.length_append];have:=digits_len n;omega
  iterate 9 refine s1_ ?_
  refine ca_ rfl (zr_digits S o L n h4 (by omega) (by omega)) ?_
  rintro _ _ ⟨o2,ho2,rfl,rfl⟩
  generalize L ++ digits n=L2 at *
  refine ARun.build1s (lit_lt rfl) ty_sl_108 rfl rfl ?_
  intro b35 f35
  have g35:=f35
  repeat ((with_reducible replace g35:=fresh_set g35);obtain ⟨g35,_⟩:=g35)
  refine ARun.appendO (lit_lt rfl) ty_sl_108 rfl map_len (appO_of ho2 map_len f35) rfl (news:=[_]) rds_ rfl (by omega) (by simp [Value.oneCell']) (by omega) (by omega) ?_
  intro b36 c36 ho3
  rw [← h3]
  iterate 4 refine s1_ ?_
  refine su_ [(0,_),(4,_),(5,_),(11,_),(12,_),(13,_),(2,_),(3,_)] ?_
  refine s1_ ?_
  refine ⟨_,_,⟨_,_,rfl,⟨_,_,rfl,rfl,rfl⟩,rfl⟩,Mem.Less.refl _,?_⟩
  exact ⟨_,rfl,some (b36,c36),push_ok ho3 rfl,by rw [List.length_append];rfl,by rw [List.map_append];rfl⟩
end Zr
end Go.Proofs.YtckloanlkpchoaaGreatDoor
namespace Go.Proofs.YtckloanlkpchoaaGreatDoor
open Go.RowKit
open Mv
set_option maxRecDepth 4000
namespace Sg
theorem cntW_nil : cntW [] = List.replicate 258 0 := by
 unfold cntW
 exact List.eq_replicate_iff.2 ⟨by rw [List.length_map,List.length_range],fun x hx=>by obtain ⟨i,_,rfl⟩:=List.mem_map.1 hx;rfl⟩
theorem cntW_snoc (l : List Nat) {x : Nat} (hx : x < 258) : cntW (l ++ [x]) = (cntW l).set x ((cntW l).getD x 0 + 1) := by
 rw [cntW_get l hx]
 refine List.ext_getElem (by rw [List.length_set,cntW_length,cntW_length]) fun i h1 h2=>?_
 rw [cntW_length] at h1
 rw [List.getElem_set]
 unfold cntW
 simp only [List.getElem_map,List.getElem_range,List.countP_append,List.countP_cons,List.countP_nil]
 by_cases e:x=i
 ·subst e;simp
 ·simp [e]
theorem cntW_le (l : List Nat) {x : Nat} (hx : x < 258) : (cntW l).getD x 0 ≤ l.length := by rw [cntW_get l hx]; exact List.countP_le_length
theorem set_gU (l : List Nat) (i n : Nat) : (l.map gU).set i (gU n) = (l.set i n).map gU := by rw [List.map_set]
set_option maxHeartbeats 2000000 in
theorem sg_weights (v : Value) (l : List Nat) (S : Mem) (hv : RowR S v l) (hl : l.length ≤ 1000) (hlt : ∀ x ∈ l, x < 258) :
  ACall Tryz.prog 49 #[v] S fun r S'=>∃ b,Fresh S b∧r = .slice (some ⟨b,0,none⟩) 258 258∧S'=S.set b ⟨26,(cntW l).map gU,258⟩:=by
 obtain ⟨pa,ca,rfl,h1,h1',h3⟩:=id hv
 refine ACall.enter (rs:=[.tmp 2]) 21 [(0,.slice pa l.length ca)] Tryz.func49 rfl rfl (Nat.le_of_ble_eq_true rfl) rfl ⟨rfl,trivial⟩ ?_
 iterate 7 refine s1_ ?_
 refine ARun.makeSlice (lit_lt rfl) ty_sl_108 rfl rfl (by omega) (by omega) (by omega) (by omega) ?_
 intro b6 f6
 have g6:=f6
 repeat ((with_reducible replace g6:=fresh_set g6);obtain ⟨g6,_⟩:=g6)
 iterate 3 refine s1_ ?_
 refine su_ [(0,_),(2,_),(3,_)] ?_
 iterate 9 refine s1_ ?_
 refine AWP.loop (X:=Nat) (fun i=>[(3,.slice (some ⟨b6,0,none⟩) 258 258),(7,.slice pa l.length ca),(8,.int .i64 (l.length:Int)),(9,.int .i64 (i:Int))]) (fun i=>S.set b6 ⟨26,(cntW (l.take i)).map gU,258⟩) (fun i=>i≤l.length) (fun i=>l.length-i) (0) ⟨rfl,rfl,rfl,rfl,trivial⟩ (by rw [List.take_zero,cntW_nil,madeL_one,List.map_replicate];exact Mem.Less.refl _) (Nat.zero_le _) ?_
 rintro i hil
 (try dsimp only at *)
 have hwl:((cntW (l.take i)).map gU).length=258:=by rw [List.length_map,cntW_length]
 by_cases hi:i<l.length
 ·iterate 6 refine s1_ ?_
  refine cT_ ?_
  obtain ⟨b0,off,rfl,hkn⟩:=h3.resolve_left (fun e=>by subst e;exact absurd hi (Nat.not_lt_zero _))
  have ki:=(hkn i hi).less (Mem.less_set S b6 ⟨26,(cntW (l.take i)).map gU,258⟩ f6.1)
  have hx:=hlt _ (List.getElem_mem hi)
  have hsn:=cntW_snoc (l.take i) hx
  have hle:=cntW_le (l.take i) hx
  rw [List.take_append_getElem hi] at hsn
  generalize l[i]=x at *
  have hc:(Mem.set S b6 ⟨26,(cntW (l.take i)).map gU,258⟩).rd ⟨b6,0+(x:Int).toNat*1,none⟩=some (gU ((cntW (l.take i)).getD x 0)):=rd_own' (Mem.own_set_same _ _ _) (by show ((cntW (l.take i)).map gU)[0+(x:Int).toNat*1]?=_;rw [show 0+(x:Int).toNat*1=x from by omega,List.getElem?_map,List.getD_eq_getElem?_getD,List.getElem?_eq_getElem (by rw [cntW_length];exact hx)];rfl)
  rw [List.length_take] at hle
  iterate 11 refine s1_ ?_
  refine su_ [(3,_),(7,_),(8,_),(9,_),(10,_),(5,_)] ?_
  iterate 4 refine s1_ ?_
  refine rC (Calm.load ty_plain_26 rfl hc) ?_
  refine rC (Calm.bin rfl rfl (bin_addW (show IntKind.u64.wrap _=(((cntW (l.take i)).getD x 0+1:Nat):Int) from IntWalk.u64_in _ (by omega)))) ?_
  refine s1_ ?_
  refine ARun.store1 rfl rfl ty_size_26 rfl (Mem.own_set_same _ _ _) (by show 0+(x:Int).toNat*1<((cntW (l.take i)).map gU).length;rw [hwl];omega) rfl ?_
  try simp only [k_ms,k_sz,k_ss,k_za,Nat.reduceAdd]
  iterate 3 refine s1_ ?_
  refine su_ [(3,_),(7,_),(8,_),(9,_),(10,_),(5,_)] ?_
  iterate 5 refine s1_ ?_
  refine ⟨i+1,?_,?_,?_,?_⟩
  all_goals (try dsimp only)
  ·exact ⟨rfl,rfl,rfl,rfl,trivial⟩
  ·(rw [hsn,show (x:Int).toNat*1=x from by omega,← set_gU];exact Mem.Less.refl _)
  ·omega
  ·omega
 ·iterate 6 refine s1_ ?_
  refine cF_ ?_
  obtain rfl:i=l.length:=by omega
  rw [List.take_length]
  iterate 11 refine s1_ ?_
  refine su_ [(3,_),(7,_),(8,_),(9,_),(10,_),(2,_)] ?_
  refine s1_ ?_
  refine ⟨_,_,⟨_,_,rfl,rfl,rfl⟩,Mem.Less.refl _,?_⟩
  exact ⟨b6,f6,rfl,rfl⟩
end Sg
end Go.Proofs.YtckloanlkpchoaaGreatDoor
namespace Go.Proofs.YtckloanlkpchoaaGreatDoor
open Go.RowKit
open Mv
set_option maxRecDepth 4000
namespace Mt
theorem bytesOf_nb (l : List UInt8) : Lib.bytesOf (l.map fun x => nb x) = l := by
 unfold Lib.bytesOf
 rw [List.map_map]
 conv=>rhs;rw [← List.map_id l]
 refine List.map_congr_left fun x _=>?_
 simp [nb]
theorem indexByte_idx : ∀ (l : List UInt8) (c : UInt8), c ∈ l → Lib.indexByte l c = ((l.idxOf c : Nat) : Int)
 | [],c,h=>by cases h
 | b :: l,c,h=>by
  unfold Lib.indexByte
  by_cases q:b=c
  ·subst q;simp
  ·rw [if_neg (by simpa using q)]
   have hm:c ∈ l:=by rcases List.mem_cons.1 h with e | e;exact absurd e.symm q;exact e
   have ih:=indexByte_idx l c hm
   rw [ih,if_neg (by first | omega | (simp)),List.idxOf_cons]
   have:(b == c)=false:=by simpa using q
   simp [this]
section
variable {P : Program} {N : Nat} {ops : Array Oper} {E : Env} {S : Mem} {K : Env → Mem → Prop} {ty : TypeId} {pos : String} {aft : Array Edge} {dst : Option Nat} {gd : Option (Nat × Bool)}
theorem ARun.indexByte {os : List Oper} {f : FuncId} {fn : Func} {xs : List Operand} {ats : Array TypeId} {d b off n cap : Nat} {l : List UInt8} {c : UInt8} (hn : d < N) (hf : P.funcs[f]? = some fn) (hname : (fn.name == "runtime.NumGoroutine") = false) (hb : fn.body.isNone = true)
  (hx':Extern.findNext fn=none) (he:Extern.find fn=some Extern.BytealgIndexByte.indexByte) (hx:evs E xs=some [.slice (some ⟨b,off,none⟩) n cap,.int .u8 (nb c)]) (hl:l.length=n) (hk:S.rds ⟨b,off,none⟩ (cellsB l))
  (h:ARun P N ops os K ((d,.int .i64 (Lib.indexByte l c)) :: E) S):ARun P N ops (⟨some d,.call ⟨.value (.func f),xs.toArray,ats⟩,ty,pos,aft,none⟩ :: os) K E S:=fun a w g hv=>by
 rw [if_pos (by simp [Region.wanted])]
 unfold Oper.wp
 have hc:execOp a.eval ⟨some d,.call ⟨.value (.func f),xs.toArray,ats⟩,ty,pos,aft,none⟩=callFunc f #[.slice (some ⟨b,off,none⟩) n cap,.int .u8 (nb c)]:=by
  rw [execOp_call_go]
  simp [g.evs hx]
 have hr:=Lib.run_indexByteSlice (P:=P) w b off n cap (l.map fun x=>nb x) (by simp [hl]) (fun i hi=>by
  have:=hv.rd (hk i (.int .u8 (nb (l[i]'(by omega)))) (by simp [cellsB,show i<l.length by omega]))
  rw [List.getD_eq_getElem?_getD,List.getElem?_map,List.getElem?_eq_getElem (by omega)]
  have e:(⟨b,off,none⟩ : Addr).add i=⟨b,off+i,none⟩:=by unfold Addr.add;split <;> simp_all
  rw [e] at this
  exact this) (nb c)
 rw [bytesOf_nb,show ((nb c).toNat).toUInt8=c from by simp [nb]] at hr
 rw [hc,run_callFunc_extern hf hname hb hx' he,hr]
 exact ⟨_,_,h,g.put hn _,Step.refl hv⟩
theorem Calm.sliceArrLo {T e : TypeId} {x : Operand} {lo : Option Operand} {b o len n l : Nat} (hT : P.underlying T = some (.array len e)) (he : sizeT P e = some n) (hx : ev E x = some (.pointer (some ⟨b, o, none⟩))) (hh : bnd E lo 0 len l) (hl : l < len) (hn0 : 0 < l * n) :
  ACalm P N ⟨dst,.slice T x lo none none,ty,pos,aft,gd⟩ E S (.slice (some ⟨b,o+l*n,none⟩) (len-l) (len-l)):=fun c w g hv=>by
 have e1:(Instr.sliceBounds false len len (lo.map c.eval) none none).run P w = .ok (l,len,len) w:=by
  unfold Instr.sliceBounds
  cases lo with
  | none=>have hh':l=0:=hh;subst hh';simp
  | some i'=>obtain ⟨k',j',g1',g2',g3',rfl⟩:=hh;simp [g.ev g1',bound_in _ _ rfl g2' g3' w]
 simp only [execOp,g.ev hx,Instr.sliceAt,Sem.run_bind,run_underlying hT w,Instr.sureAddr,e1,Option.map_none,Result.andThen_ok,run_sizeT he w,Sem.run_pure]
 have hz : ¬ (len-l=0):=by omega
 have hz2 : ¬ (l*n=0):=by omega
 have hz3 : ¬ (len=l):=by omega
 simp [hz,hz2,hz3,Addr.add]
end
theorem sz8 : sizeT Tryz.prog 5 = some 1 := by kernel_rfl
theorem pt8 : plainT Tryz.prog 5 = true := by kernel_rfl
theorem zero256 : zeroT Tryz.prog 58 = some (List.replicate 256 (.int .u8 0)) := by kernel_rfl
def rowTo (i : Nat) : List UInt8 := (List.range i).map UInt8.ofNat ++ List.replicate (256 - i) 0
theorem cells_zero : cellsB (rowTo 0) = List.replicate 256 (.int .u8 0) := by
 unfold rowTo cellsB
 simp [nb]
theorem cells_len (l : List UInt8) : (cellsB l).length = l.length := by unfold cellsB; simp
theorem rowTo_len {i : Nat} (h : i ≤ 256) : (rowTo i).length = 256 := by unfold rowTo; simp; omega
theorem rowTo_step {i : Nat} (h : i < 256) : (cellsB (rowTo i)).set i (.int .u8 (i : Int)) = cellsB (rowTo (i + 1)) := by
 unfold rowTo cellsB
 rw [List.map_append,List.set_append_right _ _ (by simp),List.length_map,List.length_map,List.length_range,Nat.sub_self,show 256-i=(256-(i+1))+1 from by omega,List.replicate_succ,List.map_cons,List.set_cons_zero,List.range_succ,List.map_append,List.map_append,List.map_append,List.append_assoc]
 congr 1
 have:nb (UInt8.ofNat i)=(i:Int):=by unfold nb;rw [UInt8.toNat_ofNat'];omega
 simp [this]
theorem rowTo_all : rowTo 256 = row0 := by unfold rowTo row0; simp
theorem cell_at {r : List UInt8} {i : Nat} (h : i < r.length) : (cellsB r)[0 + (i : Int).toNat * 1]? = some (.int .u8 (nb (r.getD i 0))) := by
 rw [show 0+(i:Int).toNat*1=i from by omega,List.getD_eq_getElem?_getD,List.getElem?_eq_getElem h]
 unfold cellsB
 simp [h]
theorem lift_cells {r : List UInt8} {i : Nat} (hr : r.length = 256) (hi : i < 256) : (spl (cellsB r) 1 (cellsB (r.take i))).set 0 (.int .u8 (nb (r.getD i 0))) = cellsB (Mt.lift r i) := by
 match r,hr with
 | a :: t,hr =>
  have ht:t.length=255:=by simpa using hr
  unfold spl Mt.lift cellsB
  rw [List.length_map,List.length_take,Nat.min_eq_left (by rw [List.length_cons];omega)]
  rw [show 1+i=i+1 from by omega]
  simp only [List.map_cons,List.take_succ_cons,List.take_zero,List.cons_append,List.nil_append,List.set_cons_zero,List.map_append,List.drop_succ_cons,List.map_drop]
set_option maxHeartbeats 2000000 in
theorem mt_lift (e : TypeId) (b : Nat) (r : List UInt8) (i : Nat) (S : Mem) (hb : Fresh S b) (hr : r.length = 256) (hi : i < 256) :
  ACall Tryz.prog 87 #[.pointer (some ⟨b,0,none⟩),.int .i64 (i:Int)] (S.set b ⟨e,cellsB r,256⟩) fun v S'=>v = .int .u8 (nb (r.getD i 0))∧S'=S.set b ⟨e,cellsB (Mt.lift r i),256⟩:=by
 have hcell:=cell_at (r:=r) (i:=i) (by omega)
 have hown:(S.set b ⟨e,cellsB r,256⟩).own b=some ⟨e,cellsB r,256⟩:=Mem.own_set_same _ _ _
 have hkn:(S.set b ⟨e,cellsB r,256⟩).Knows ⟨b,0,none⟩ (cellsB (r.take i)):=Mem.own_knows hown 0 _ (fun j v hj=>by
  rw [Nat.zero_add]
  unfold cellsB at hj ⊢
  rw [List.map_take,List.getElem?_take] at hj
  split at hj
  ·exact hj
  ·cases hj)
 refine ACall.enter (rs:=[.tmp 4]) 24 [(0,.pointer (some ⟨b,0,none⟩)),(1,.int .i64 (i:Int))] Tryz.func87 rfl rfl (Nat.le_of_ble_eq_true rfl) rfl ⟨rfl,rfl,trivial⟩ ?_
 iterate 10 refine s1_ ?_
 refine rC (Calm.indexP Tryz.underlying58 sz8 rfl rfl (by omega) (by omega)) ?_
 refine rC (Calm.load pt8 rfl (rd_own' hown hcell)) ?_
 iterate 3 refine s1_ ?_
 refine su_ [(0,_),(1,_),(4,_),(5,_)] ?_
 refine s1_ ?_
 refine AWP.draw [(0,true),(1,true),(2,true),(3,true),(4,true),(5,true),(6,true),(7,false)] [7] mixed (by kernel_rfl) ?_
 iterate 2 refine s1_ ?_
 refine dP (hc:=fun _=>Calm.sliceArrLo (l:=1) Tryz.underlying58 sz8 rfl (show bnd _ (some (.const (.int .i64 1))) 0 256 1 from ⟨.i64,1,rfl,by decide,by decide,rfl⟩) (by decide) (by decide)) (h:=?_)
 iterate 4 refine s1_ ?_
 refine draw_only rfl ?_
 refine ARun.copyK (n:=1) (q:=i) (news:=cellsB (r.take i)) (lit_lt rfl) ty_sl_51 rfl hown (by show 0+1*1≤(cellsB r).length;rw [cells_len,hr];decide) rfl (by omega) hkn (by rw [cells_len,List.length_take];omega) (by unfold cellsB;intro v hv;obtain ⟨x,_,rfl⟩:=List.mem_map.1 hv;rfl) (.inl (by show 0+1*1+(cellsB (r.take i)).length≤(cellsB r).length;rw [cells_len,cells_len,List.length_take];omega)) ?_
 refine arun_nil ⟨fun h=>absurd h (by decide),?_⟩
 iterate 2 refine s1_ ?_
 refine su_ [(0,_),(1,_),(4,_),(5,_)] ?_
 iterate 6 refine s1_ ?_
 refine ARun.store1 rfl rfl sz8 rfl (Mem.own_set_same _ _ _) (by show 0<(spl (cellsB r) (0+1*1) (cellsB (r.take i))).length;rw [spl_length _ _ _ (by rw [cells_len,cells_len,List.length_take];omega),cells_len];omega) rfl ?_
 try simp only [k_ms,k_sz,k_ss,k_za,Nat.reduceAdd]
 iterate 2 refine s1_ ?_
 refine su_ [(0,_),(1,_),(4,_),(5,_)] ?_
 iterate 6 refine s1_ ?_
 refine su_ [(0,_),(1,_),(4,_),(5,_)] ?_
 refine s1_ ?_
 refine ⟨_,_,⟨_,_,rfl,rfl,rfl⟩,Mem.Less.refl _,?_⟩
 exact ⟨rfl,by rw [← lift_cells hr hi];rfl⟩
theorem goIB : goFn Tryz.prog 122 = true := by kernel_rfl
instance : TGo Tryz.prog 122 := ⟨goIB⟩
theorem bt_IndexByte (b off n cap : Nat) (l : List UInt8) (c : UInt8) (S : Mem) (hl : l.length = n) (hk : S.rds ⟨b, off, none⟩ (cellsB l)) :
  ACall Tryz.prog 122 #[.slice (some ⟨b,off,none⟩) n cap,.int .u8 (nb c)] S fun v S'=>v = .int .i64 (Lib.indexByte l c)∧S'=S:=by
 refine ACall.enter (rs:=[.tmp 4]) 8 [(0,.slice (some ⟨b,off,none⟩) n cap),(1,.int .u8 (nb c))] Tryz.func122 rfl rfl (Nat.le_of_ble_eq_true rfl) rfl ⟨rfl,rfl,trivial⟩ ?_
 iterate 9 refine s1_ ?_
 refine ARun.indexByte (lit_lt rfl) Tryz.func142 rfl rfl rfl rfl rfl hl hk ?_
 iterate 3 refine s1_ ?_
 refine su_ [(0,_),(1,_),(4,_)] ?_
 refine s1_ ?_
 refine ⟨_,S,⟨_,_,rfl,rfl,rfl⟩,less_,?_⟩
 exact ⟨rfl,rfl⟩
set_option maxHeartbeats 2000000 in
theorem mt_To (e : TypeId) (b : Nat) (r : List UInt8) (c : UInt8) (S : Mem) (hb : Fresh S b) (hr : Row r) :
  ACall Tryz.prog 89 #[.pointer (some ⟨b,0,none⟩),.int .u8 (nb c)] (S.set b ⟨e,cellsB r,256⟩) fun v S'=>v = .int .u8 (nb (UInt8.ofNat (r.idxOf c)))∧S'=S.set b ⟨e,cellsB (Mt.lift r (r.idxOf c)),256⟩:=by
 have hi:=idx_lt hr c
 have hx:=indexByte_idx r c (hr.all c)
 have hown:(S.set b ⟨e,cellsB r,256⟩).own b=some ⟨e,cellsB r,256⟩:=Mem.own_set_same _ _ _
 have hu:nb (UInt8.ofNat (r.idxOf c))=((r.idxOf c:Nat):Int):=by unfold nb;rw [UInt8.toNat_ofNat'];omega
 refine ACall.enter (rs:=[.tmp 4]) 16 [(0,.pointer (some ⟨b,0,none⟩)),(1,.int .u8 (nb c))] Tryz.func89 rfl rfl (Nat.le_of_ble_eq_true rfl) rfl ⟨rfl,rfl,trivial⟩ ?_
 iterate 11 refine s1_ ?_
 refine ca_ rfl (bt_IndexByte b 0 256 256 r c _ hr.len (rds_own hown)) ?_
 rintro v S1 ⟨rfl,rfl⟩
 rw [hx]
 iterate 3 refine s1_ ?_
 refine su_ [(0,_),(1,_),(4,_),(5,_)] ?_
 iterate 4 refine s1_ ?_
 refine ca_ rfl (mt_lift e b r (r.idxOf c) S hb hr.len hi) ?_
 rintro v S1 ⟨rfl,rfl⟩
 iterate 2 refine s1_ ?_
 refine su_ [(0,_),(1,_),(4,_),(5,_)] ?_
 iterate 3 refine s1_ ?_
 refine rC (Calm.conv rfl (conv_intW Tryz.underlying3 Tryz.underlying5 (show IntKind.u8.wrap _=nb (UInt8.ofNat (r.idxOf c)) from by rw [hu];exact IntWalk.u8_in _ (by omega)))) ?_
 iterate 3 refine s1_ ?_
 refine su_ [(0,_),(1,_),(4,_),(5,_)] ?_
 refine s1_ ?_
 refine ⟨_,_,⟨_,_,rfl,rfl,rfl⟩,Mem.Less.refl _,?_⟩
 exact ⟨rfl,rfl⟩
theorem mt_From (e : TypeId) (b : Nat) (r : List UInt8) (c : UInt8) (S : Mem) (hb : Fresh S b) (hr : Row r) :
  ACall Tryz.prog 51 #[.pointer (some ⟨b,0,none⟩),.int .u8 (nb c)] (S.set b ⟨e,cellsB r,256⟩) fun v S'=>v = .int .u8 (nb (r.getD c.toNat 0))∧S'=S.set b ⟨e,cellsB (Mt.lift r c.toNat),256⟩:=by
 have hi:=c.toNat_lt
 refine ACall.enter (rs:=[.tmp 4]) 9 [(0,.pointer (some ⟨b,0,none⟩)),(1,.int .u8 (nb c))] Tryz.func51 rfl rfl (Nat.le_of_ble_eq_true rfl) rfl ⟨rfl,rfl,trivial⟩ ?_
 iterate 10 refine s1_ ?_
 refine ca_ rfl (mt_lift e b r c.toNat S hb hr.len hi) ?_
 rintro v S1 ⟨rfl,rfl⟩
 iterate 3 refine s1_ ?_
 refine su_ [(0,_),(1,_),(4,_)] ?_
 refine s1_ ?_
 refine ⟨_,_,⟨_,_,rfl,rfl,rfl⟩,Mem.Less.refl _,?_⟩
 exact ⟨rfl,rfl⟩
set_option maxHeartbeats 2000000 in
theorem mt_New (S : Mem) : ACall Tryz.prog 19 #[] S fun v S' => v = .agg (cellsB row0).toArray ∧ S' = S := by
 refine ACall.enter (rs:=[.cell 0 58]) 12 [] Tryz.func19 rfl rfl (Nat.le_of_ble_eq_true rfl) rfl trivial ?_
 iterate 2 refine s1_ ?_
 refine ARun.alloc (lit_lt rfl) zero256 ?_
 intro b0 f0
 have g0:=f0
 repeat ((with_reducible replace g0:=fresh_set g0);obtain ⟨g0,_⟩:=g0)
 iterate 4 refine s1_ ?_
 refine ARun.alloc (lit_lt rfl) zero256 ?_
 intro b1 f1
 have g1:=f1
 repeat ((with_reducible replace g1:=fresh_set g1);obtain ⟨g1,_⟩:=g1)
 iterate 9 refine s1_ ?_
 refine AWP.loop (X:=Nat) (fun i=>[(0,.pointer (some ⟨b0,0,none⟩)),(1,.pointer (some ⟨b1,0,none⟩)),(3,.int .i64 i)]) (fun i=>(S.set b0 ⟨58,List.replicate 256 (.int .u8 0),256⟩).set b1 ⟨58,cellsB (rowTo i),256⟩) (fun i=>i≤256) (fun i=>256-i) (0) ⟨rfl,rfl,rfl,trivial⟩ (by rw [cells_zero];exact Mem.Less.refl _) (Nat.zero_le _) ?_
 rintro i hi
 (try dsimp only at *)
 by_cases hi:i<256
 ·iterate 6 refine s1_ ?_
  refine cT_ ?_
  iterate 10 refine s1_ ?_
  refine su_ [(0,_),(1,_),(3,_),(4,_),(2,_)] ?_
  iterate 3 refine s1_ ?_
  refine rC (Calm.conv rfl (conv_intW Tryz.underlying3 Tryz.underlying5 (IntWalk.u8_in _ (by omega)))) ?_
  refine rC (Calm.indexP Tryz.underlying58 sz8 rfl rfl (by omega) (by omega)) ?_
  refine ARun.store1 rfl rfl sz8 rfl (Mem.own_set_same _ _ _) (by show 0+(i:Int).toNat*1<(cellsB (rowTo i)).length;rw [cells_len,rowTo_len (Nat.le_of_lt hi)];omega) rfl ?_
  try simp only [k_ms,k_sz,k_ss,k_za,Nat.reduceAdd]
  iterate 3 refine s1_ ?_
  refine su_ [(0,_),(1,_),(3,_),(4,_),(2,_)] ?_
  iterate 5 refine s1_ ?_
  refine ⟨i+1,?_,?_,?_,?_⟩
  all_goals (try dsimp only)
  ·exact ⟨rfl,rfl,rfl,trivial⟩
  ·(rw [show (i:Int).toNat*1=i from by omega,rowTo_step (by omega)];exact Mem.Less.refl _)
  ·omega
  ·omega
 ·iterate 6 refine s1_ ?_
  refine cF_ ?_
  obtain rfl:i=256:=by omega
  rw [rowTo_all]
  iterate 7 refine s1_ ?_
  refine rC (ldA_ (cs:=[_,_,_,_,_,_,_,_,_,_,_,_,_,_,_,_,_,_,_,_,_,_,_,_,_,_,_,_,_,_,_,_,_,_,_,_,_,_,_,_,_,_,_,_,_,_,_,_,_,_,_,_,_,_,_,_,_,_,_,_,_,_,_,_,_,_,_,_,_,_,_,_,_,_,_,_,_,_,_,_,_,_,_,_,_,_,_,_,_,_,_,_,_,_,_,_,_,_,_,_,_,_,_,_,_,_,_,_,_,_,_,_,_,_,_,_,_,_,_,_,_,_,_,_,_,_,_,_,_,_,_,_,_,_,_,_,_,_,_,_,_,_,_,_,_,_,_,_,_,_,_,_,_,_,_,_,_,_,_,_,_,_,_,_,_,_,_,_,_,_,_,_,_,_,_,_,_,_,_,_,_,_,_,_,_,_,_,_,_,_,_,_,_,_,_,_,_,_,_,_,_,_,_,_,_,_,_,_,_,_,_,_,_,_,_,_,_,_,_,_,_,_,_,_,_,_,_,_,_,_,_,_,_,_,_,_,_,_,_,_,_,_,_,_,_,_,_,_,_,_,_,_,_,_,_,_]) ty_agg_58 ty_size_58 rfl) ?_
  iterate 3 refine s1_ ?_
  refine su_ [(0,_),(1,_),(3,_),(4,_)] ?_
  refine s1_ ?_
  refine ⟨_,S,⟨_,_,_,rfl,.inr ⟨ty_agg_58,[_,_,_,_,_,_,_,_,_,_,_,_,_,_,_,_,_,_,_,_,_,_,_,_,_,_,_,_,_,_,_,_,_,_,_,_,_,_,_,_,_,_,_,_,_,_,_,_,_,_,_,_,_,_,_,_,_,_,_,_,_,_,_,_,_,_,_,_,_,_,_,_,_,_,_,_,_,_,_,_,_,_,_,_,_,_,_,_,_,_,_,_,_,_,_,_,_,_,_,_,_,_,_,_,_,_,_,_,_,_,_,_,_,_,_,_,_,_,_,_,_,_,_,_,_,_,_,_,_,_,_,_,_,_,_,_,_,_,_,_,_,_,_,_,_,_,_,_,_,_,_,_,_,_,_,_,_,_,_,_,_,_,_,_,_,_,_,_,_,_,_,_,_,_,_,_,_,_,_,_,_,_,_,_,_,_,_,_,_,_,_,_,_,_,_,_,_,_,_,_,_,_,_,_,_,_,_,_,_,_,_,_,_,_,_,_,_,_,_,_,_,_,_,_,_,_,_,_,_,_,_,_,_,_,_,_,_,_,_,_,_,_,_,_,_,_,_,_,_,_,_,_,_,_,_,_],ty_size_58,rds_,rfl⟩,rfl,rfl⟩,less_,?_⟩
  exact ⟨rfl,rfl⟩
end Mt
end Go.Proofs.YtckloanlkpchoaaGreatDoor
namespace Go.Proofs.YtckloanlkpchoaaGreatDoor
open Go.RowKit
namespace Mv
/-! ### Less is known -/
def Mem.Lo (S' S : Mem) : Prop := (∀ b r, S'.own b = some r → S.own b = some r) ∧ (∀ a v, S'.ro a = some v → S.ro a = some v) ∧
  ∀ g l, S'.ro.z g = some l → S.ro.z g = some l ∧ ((∃ v, S.ro ⟨g, 0, none⟩ = some v) → ∃ v, S'.ro ⟨g, 0, none⟩ = some v)
theorem Mem.Less.lo {S S' : Mem} (h : S'.Less S) : S'.Lo S := ⟨h.1, fun a v x => by rw [← h.2]; exact x, fun g l x => by rw [h.2] at x ⊢; exact ⟨x, id⟩⟩
theorem Mem.Lo.refl (S : Mem) : S.Lo S := (Mem.Less.refl S).lo
theorem Mem.Lo.trans {S S' S'' : Mem} (h : S''.Lo S') (k : S'.Lo S) : S''.Lo S :=
 ⟨fun b r x=>k.1 b r (h.1 b r x),fun a v x=>k.2.1 a v (h.2.1 a v x),fun g l x=>by
  obtain ⟨x1,x2⟩:=h.2.2 g l x
  obtain ⟨y1,y2⟩:=k.2.2 g l x1
  exact ⟨y1,fun z=>x2 (y2 z)⟩⟩
theorem View.lo {S S' : Mem} {w : World} (h : View S w) (hl : S'.Lo S) : View S' w :=
 ⟨fun b r hb=>h.own b r (hl.1 b r hb),fun a v ha=>by
  obtain ⟨h1,h2⟩:=h.ro a v (hl.2.1 a v ha)
  refine ⟨h1,?_⟩
  cases e:S'.own a.block with
  | none=>rfl
  | some r=>(have:=hl.1 _ _ e;rw [h2] at this;cases this),fun g l hg=>by
  obtain ⟨q1,q2⟩:=hl.2.2 g l hg
  obtain ⟨h1,h2,h3⟩:=h.fz g l q1
  refine ⟨?_,q2 h2,h3⟩
  cases e:S'.own g with
  | none=>rfl
  | some r=>have:=hl.1 _ _ e;rw [h1] at this;cases this⟩
theorem Step.lo {S S' S'' : Mem} {w w' : World} (h : Step S w S' w') (hl : S''.Lo S') : Step S w S'' w' :=
 ⟨h.view.lo hl,h.os,h.tape,h.output,h.size,h.block,fun k hk=>h.dom k (by
  cases e:S''.own k with
  | none=>exact absurd e hk
  | some r=>rw [hl.1 _ _ e];simp),fun a v hv=>h.ro a v (hl.2.1 a v hv)⟩
theorem Step.loL {S S0 S' : Mem} {w w' : World} (h : Step S0 w S' w') (hl : S0.Lo S) : Step S w S' w' :=
 ⟨h.view,h.os,h.tape,h.output,h.size,fun k hk hn=>h.block k hk (by
  cases e:S0.own k with
  | none=>rfl
  | some r=>have:=hl.1 _ _ e;rw [hn] at this;cases this),fun k hk=>by
   rcases h.dom k hk with x | x
   ·cases e:S0.own k with
    | none=>exact absurd e x
    | some r=>exact .inl (by rw [hl.1 _ _ e];simp)
   ·exact .inr x,fun a v hv=>by
   rcases h.ro a v hv with x | x | x
   ·exact .inl (hl.2.1 _ _ x)
   ·refine .inr (.inl ?_)
    cases e:S0.own a.block with
    | none=>exact absurd e x
    | some r=>rw [hl.1 _ _ e];simp
   ·exact .inr (.inr x)⟩
theorem AWP.lo {P : Program} {N : Nat} {c : Code} {Q : Exit → Env → Mem → Prop} {E : Env} {S : Mem} (S' : Mem) (hl : S'.Lo S) (h : AWP P N c Q E S') : AWP P N c Q E S := fun a w hg hv =>
 wp_mono (h a w hg (hv.lo hl)) fun _ _ _ ⟨E1,S1,k,g,s⟩=>⟨E1,S1,k,g,s.loL hl⟩
theorem ACall.lo {P : Program} {f : FuncId} {args : Array Value} {S S0 : Mem} {R : Value → Mem → Prop} (hl : S0.Lo S) (h : ACall P f args S0 R) : ACall P f args S R := fun w hv =>
 (h w (hv.lo hl)).mono fun e w' ⟨v,S',he,hR,s⟩=>⟨v,S',he,hR,s.loL hl⟩
/-- Behind a call less is known. -/
theorem ACall.lose {P : Program} {f : FuncId} {args : Array Value} {S : Mem} {R R' : Value → Mem → Prop} (h : ACall P f args S R) (k : ∀ v S', R v S' → ∃ S'', S''.Lo S' ∧ R' v S'') : ACall P f args S R' := fun w hv =>
 (h w hv).mono fun e w' ⟨v,S',he,hR,s⟩=>let ⟨S'',h1,h2⟩:=k v S' hR;⟨v,S'',he,h2,s.lo h1⟩
/-- A call knows of less than there is: all else stays. -/
theorem ACall.over {P : Program} {f : FuncId} {args : Array Value} {S T : Mem} {R : Value → Mem → Prop} (h : ACall P f args S R) (hl : S.Less T) :
  ACall P f args T fun v T'=>∃ S',R v S'∧S'.Less T' ∧ ∀ k r,S.own k=none→T.own k=some r→T'.own k=some r∧S'.own k=none:=fun w hv=>by
 classical
 refine (h w (hv.less hl)).mono fun e w' ⟨v,S',he,hR,st⟩=>?_
 have hro:∀ a u,S.ro a=some u→T.ro a=some u:=fun a u hu=>by rw [← hl.2];exact hu
 have hno:∀ k r,S.own k=none→T.own k=some r→S'.own k=none:=fun k r h1 h2=>by
  cases e0:S'.own k with
  | none=>rfl
  | some r0 =>
   rcases st.dom k (by rw [e0];simp) with x | x
   ·exact absurd h1 x
   ·have:=hv.lt h2;omega
 have hso:∀ k,S.own k≠none→T.own k≠none:=fun k hk=>by
  cases e0:S.own k with
  | none=>exact absurd e0 hk
  | some r=>rw [hl.1 k r e0];simp
 have hra:∀ a u,S'.ro a=some u→S.own a.block=none→T.own a.block=none:=fun a u hu hn=>by
  cases e0:T.own a.block with
  | none=>rfl
  | some r =>
   rcases st.ro a u hu with x | x | x
   ·have:=(hv.ro a u (hro a u x)).2;rw [e0] at this;exact this
   ·exact absurd hn x
   ·have:=hv.lt e0;omega
 let T':Mem:=⟨fun k=>if S.own k=none∧T.own k≠none then T.own k else S'.own k,S'.ro⟩
 have hT:∀ k,T'.own k=if S.own k=none∧T.own k≠none then T.own k else S'.own k:=fun _=>rfl
 have hT0:∀ a u,S'.ro a=some u→T'.own a.block=none:=fun a u hu=>by
  rw [hT]
  split
  ·rename_i x;exact hra a u hu x.1
  ·exact (st.view.ro a u hu).2
 refine ⟨v,T',he,⟨S',hR,⟨fun k r hk=>?_,rfl⟩,fun k r h1 h2=>⟨by rw [hT,if_pos ⟨h1,by rw [h2];simp⟩];exact h2,hno k r h1 h2⟩⟩,⟨⟨fun k r hk=>?_,fun a u hu=>⟨(st.view.ro a u hu).1,hT0 a u hu⟩,fun g l hg=>?_⟩,st.os,st.tape,st.output,st.size,fun k hk hn=>?_,fun k hk=>?_,fun a u hu=>?_⟩⟩
 ·rw [hT]
  split
  ·rename_i x
   cases e0:T.own k with
   | none=>exact absurd e0 x.2
   | some r0=>rw [hno k r0 x.1 e0] at hk;cases hk
  ·exact hk
 ·rw [hT] at hk
  split at hk
  ·rename_i x
   rw [st.block k (hv.lt hk) x.1];exact hv.own k r hk
  ·exact st.view.own k r hk
 ·obtain ⟨_,⟨u,hu⟩,h3⟩:=st.view.fz g l hg
  exact ⟨hT0 _ u hu,⟨u,hu⟩,h3⟩
 ·refine st.block k hk ?_
  cases e0:S.own k with
  | none=>rfl
  | some r=>have:=hl.1 k r e0;rw [hn] at this;cases this
 ·rw [hT] at hk
  split at hk
  ·exact .inl hk
  ·rcases st.dom k hk with x | x
   ·exact .inl (hso k x)
   ·exact .inr x
 ·rcases st.ro a u hu with x | x | x
  ·exact .inl (hro a u x)
  ·exact .inr (.inl (hso _ x))
  ·exact .inr (.inr x)
/-- What holds wherever this memory is known. -/
theorem ACall.seen {P : Program} {f : FuncId} {args : Array Value} {S : Mem} {R : Value → Mem → Prop} {p : Prop} (hp : ∀ w, View S w → p) (h : p → ACall P f args S R) : ACall P f args S R := fun w hv => h (hp w hv) w hv
theorem Mem.Knows.lo {S S' : Mem} {a : Addr} {cs : List Value} (h : S.Knows a cs) (hl : S.Lo S') : S'.Knows a cs := fun w hv => h w (hv.lo hl)
/-- A block's first bytes are a text's, from here on. -/
def Mem.fr (S : Mem) (g : Nat) (l : List UInt8) : Mem := ⟨S.own, ⟨fun a => if a.block = g then (if a.spot.isSome then none else (cellsB l)[a.off]?) else S.ro a, fun k => if k = g then some l else S.ro.z k⟩⟩
theorem Mem.lo_fr {S : Mem} {g : Nat} {l : List UInt8} (hf : Fresh S g) (hz : S.ro.z g = none) : S.Lo (S.fr g l) :=
 ⟨fun b r h=>h,fun a v h=>by
  show (if a.block=g then _ else S.ro a)=some v
  rw [if_neg (hf.2 a v h)];exact h,fun k x h=>by
  have hk:k≠g:=fun e=>by rw [e,hz] at h;cases h
  refine ⟨?_,fun ⟨v,hv⟩=>⟨v,?_⟩⟩
  ·show (if k=g then some l else S.ro.z k)=some x
   rw [if_neg hk];exact h
  ·change (if k=g then _ else S.ro ⟨k,0,none⟩)=some v at hv
   rw [if_neg hk] at hv;exact hv⟩
theorem Mem.z_none {S : Mem} {w : World} (hv : View S w) {g : Nat} {r : Blk} (hb : S.own g = some r) : S.ro.z g = none := by
 cases e:S.ro.z g with
 | none=>rfl
 | some l=>have:=(hv.fz g l e).1;rw [hb] at this;cases this
theorem Mem.lo_fr_set {S : Mem} {g b : Nat} {l : List UInt8} {r : Blk} (hf : Fresh S g) (hz : S.ro.z g = none) (hb : Fresh S b) (hne : b ≠ g) : S.Lo ((S.fr g l).set b r) :=
 (Mem.lo_fr hf hz).trans ⟨fun k r' h=>by
  by_cases e:k=b
  ·subst e;have:=hb.1;rw [show (S.fr g l).own k=S.own k from rfl,this] at h;cases h
  ·rw [Mem.own_set_other _ _ e];exact h,fun a v h=>h,fun k x h=>⟨h,id⟩⟩
section
variable {P : Program} {N : Nat} {ops : Array Oper} {E : Env} {S : Mem} {K : Env → Mem → Prop}
variable {dst : Option Nat} {ty : TypeId} {pos : String} {aft : Array Edge} {gd : Option (Nat × Bool)}
theorem Calm.sliceData {x : Operand} {a : Option Addr} {n c : Nat} {ats : Array TypeId} (hx : ev E x = some (.slice a n c)) (hc : a = none ∨ c ≠ 0) : ACalm P N ⟨dst, .call ⟨.builtin .unsafeSliceData, #[x], ats⟩, ty, pos, aft, gd⟩ E S (.pointer a) := fun k w g hv => by
 have h:(Builtin.unsafeSliceData_ ats ty #[.slice a n c]).run P w = .ok (.pointer a) w:=by
  cases a with
  | none=>exact Lib.run_unsafeSliceData_nil _ _ _ _ _
  | some a=>exact Lib.run_unsafeSliceData_row _ _ _ _ _ _ (hc.resolve_left (fun h=>by cases h))
 simp [execOp,resolve,invoke,builtin,g.ev hx,h]
theorem freeze_block {w : World} {g n k : Nat} (h : k ≠ g) : (w.freeze ⟨g, 0, none⟩ n).heap[k]? = w.heap[k]? := by
 unfold World.freeze
 split
 ·rfl
 ·simp only [Array.getElem?_modify]
  rw [if_neg (Ne.symm h)]
theorem freeze_at {w : World} {g n : Nat} {cur : Array Value} {T : TypeId} {fz : Nat × Nat} (h : w.heap[g]? = some (.cells cur T fz)) (hn : n ≠ 0) : ∃ hi, n ≤ hi ∧ (w.freeze ⟨g, 0, none⟩ n).heap[g]? = some (.cells cur T (0, hi)) := by
 obtain ⟨lo,hi⟩:=fz
 unfold World.freeze
 rw [if_neg hn]
 simp only [Array.getElem?_modify,h,if_true,Option.map_some]
 by_cases e:lo=hi
 ·exact ⟨n,Nat.le_refl _,by simp [e]⟩
 ·exact ⟨max hi n,by omega,by simp [e]⟩
theorem freeze_size (w : World) (a : Addr) (n : Nat) : (w.freeze a n).heap.size = w.heap.size := by
 unfold World.freeze;split <;> simp
theorem freeze_rest (w : World) (a : Addr) (n : Nat) : (w.freeze a n).os = w.os ∧ (w.freeze a n).tape = w.tape ∧ (w.freeze a n).output = w.output := by
 unfold World.freeze;split <;> exact ⟨rfl,rfl,rfl⟩
/-- The step of a freeze. -/
theorem Step.fr {w : World} {g room : Nat} {l : List UInt8} (hv : View S w) (hb : S.own g = some ⟨5, cellsB l, room⟩) (h0 : l ≠ []) : Step S w ((S.del g).fr g l) (w.freeze ⟨g, 0, none⟩ l.length) := by
 have hl:l.length≠0:=by simpa using h0
 obtain ⟨cur,fz,e1,e2,e3,e4⟩:=hv.own g _ hb
 obtain ⟨hi,q1,q2⟩:=freeze_at e1 hl
 obtain ⟨r1,r2,r3⟩:=freeze_rest w ⟨g,0,none⟩ l.length
 have hd:∀ k,((S.del g).fr g l).own k=if k=g then none else S.own k:=fun k=>rfl
 have hcell:∀ a v,(if a.block=g then (if a.spot.isSome then none else (cellsB l)[a.off]?) else S.ro a)=some v→(w.freeze ⟨g,0,none⟩ l.length).cell? a=some v:=by
  intro a v h
  by_cases e:a.block=g
  ·rw [if_pos e] at h
   split at h
   ·cases h
   ·rename_i hs
    have:=prefix_get e2 h
    unfold World.cell?
    rw [e,q2]
    simp only [hs]
    simpa using this
  ·rw [if_neg e] at h
   have:=(hv.ro a v h).1
   unfold World.cell? at this ⊢
   rw [freeze_block e];exact this
 refine ⟨⟨fun k r hk=>?_,fun a v h=>⟨hcell a v h,?_⟩,fun k x hk=>?_⟩,r1,r2,r3,by rw [freeze_size];exact Nat.le_refl _,fun k hk hn=>freeze_block (fun e=>by rw [e,hb] at hn;cases hn),fun k hk=>?_,fun a v h=>?_⟩
 ·rw [hd] at hk
  by_cases e:k=g
  ·rw [if_pos e] at hk;cases hk
  ·rw [if_neg e] at hk
   rw [freeze_block e];exact hv.own k r hk
 ·rw [hd]
  by_cases e:a.block=g
  ·rw [if_pos e]
  ·rw [if_neg e]
   change (if a.block=g then _ else S.ro a)=some v at h
   rw [if_neg e] at h
   exact (hv.ro a v h).2
 ·change (if k=g then some l else S.ro.z k)=some x at hk
  rw [hd]
  by_cases e:k=g
  ·rw [if_pos e] at hk ⊢
   obtain rfl:l=x:=Option.some.inj hk
   subst e
   refine ⟨rfl,?_,cur,hi,q2,q1,?_⟩
   ·cases l with
    | nil=>exact absurd rfl h0
    | cons c l=>exact ⟨_,show (if k=k then (if (none:Option _).isSome then none else (cellsB (c :: l))[0]?) else _)=some _ from by rw [if_pos rfl];rfl⟩
   ·exact e2
  ·rw [if_neg e] at hk ⊢
   obtain ⟨z1,⟨v,z2⟩,z3⟩:=hv.fz k x hk
   exact ⟨z1,⟨v,show (if k=g then _ else S.ro ⟨k,0,none⟩)=some v from by rw [if_neg e];exact z2⟩,z3.of_block (freeze_block e)⟩
 ·rw [hd] at hk
  by_cases e:k=g
  ·rw [if_pos e] at hk;exact absurd rfl hk
  ·rw [if_neg e] at hk;exact .inl hk
 ·change (if a.block=g then _ else S.ro a)=some v at h
  by_cases e:a.block=g
  ·exact .inr (.inl (by rw [e,hb];simp))
  ·rw [if_neg e] at h;exact .inl h
theorem run_us {w : World} {g : Nat} {l : List UInt8} {pt it : TypeId} {cur : Array Value} {fz : Nat × Nat} (hpt : P.underlying pt = some (.pointer 5)) (hc : P.cellsOf 5 = 1) (e1 : w.heap[g]? = some (.cells cur 5 fz)) (e2 : cellsB l <+: cur.toList) (h0 : l ≠ []) (h63 : l.length ≤ 9223372036854775807) :
  (Builtin.unsafeString_ #[pt,it] ty #[.pointer (some ⟨g,0,none⟩),.int .i64 l.length]).run P w = .ok (.string (bs l)) (w.freeze ⟨g,0,none⟩ l.length):=by
 refine Lib.run_unsafeString_row w pt it ty _ hpt hc g cur.size (by simp [World.shape?,e1]) l h0 ?_ h63 fun j x hx=>?_
 ·have:=e2.length_le
  rw [cellsB_length] at this
  simpa using this
 ·have:=prefix_get e2 (j:=j) (v:=.int .u8 (nb x)) (by simp [cellsB,hx])
  rw [addr_add]
  unfold World.cell?
  simp only [e1,Nat.zero_add]
  simpa [nb] using this
/-- A text of bytes that are owned: they are so no more. -/
theorem ARun.usOwn {os : List Oper} {x y : Operand} {g room d : Nat} {l : List UInt8} {pt it : TypeId} (hn : d < N) (hpt : P.underlying pt = some (.pointer 5)) (hc : P.cellsOf 5 = 1) (hx : ev E x = some (.pointer (some ⟨g, 0, none⟩))) (hy : ev E y = some (.int .i64 (l.length : Int))) (hb : S.own g = some ⟨5, cellsB l, room⟩) (h0 : l ≠ []) (h63 : l.length ≤ 9223372036854775807)
  (h:ARun P N ops os K ((d,.string (bs l)) :: E) ((S.del g).fr g l)):ARun P N ops (⟨some d,.call ⟨.builtin .unsafeString,#[x,y],#[pt,it]⟩,ty,pos,aft,none⟩ :: os) K E S:=fun a w g' hv=>by
 rw [if_pos (by simp [Region.wanted])]
 unfold Oper.wp
 obtain ⟨cur,fz,e1,e2,e3,e4⟩:=hv.own g _ hb
 have hr:=run_us (ty:=ty) (it:=it) (w:=w) hpt hc e1 e2 h0 h63
 have hex:(execOp a.eval ⟨some d,.call ⟨.builtin .unsafeString,#[x,y],#[pt,it]⟩,ty,pos,aft,none⟩).run P w = .ok (.value (.string (bs l))) (w.freeze ⟨g,0,none⟩ l.length):=by
  simp [execOp,resolve,invoke,builtin,g'.ev hx,g'.ev hy,hr]
 rw [hex]
 exact ⟨_,_,h,g'.put hn _,Step.fr hv hb h0⟩
/-- .. of none. -/
theorem ARun.usNil {os : List Oper} {x y : Operand} {p : Option Addr} {d : Nat} {pt it : TypeId} (hn : d < N) (hx : ev E x = some (.pointer p)) (hy : ev E y = some (.int .i64 0))
  (h:ARun P N ops os K ((d,.string (bs [])) :: E) S):ARun P N ops (⟨some d,.call ⟨.builtin .unsafeString,#[x,y],#[pt,it]⟩,ty,pos,aft,none⟩ :: os) K E S:=fun a w g' hv=>by
 rw [if_pos (by simp [Region.wanted])]
 unfold Oper.wp
 have hr:=Lib.run_unsafeString_none (P:=P) w pt it ty p
 have hex:(execOp a.eval ⟨some d,.call ⟨.builtin .unsafeString,#[x,y],#[pt,it]⟩,ty,pos,aft,none⟩).run P w = .ok (.value (.string (bs []))) w:=by
  simp [execOp,resolve,invoke,builtin,g'.ev hx,g'.ev hy,hr];rfl
 rw [hex]
 exact ⟨_,_,h,g'.put hn _,Step.refl hv⟩
/-! ### Texts that are appended -/
theorem strCells_eq (s : ByteArray) : Lib.strCells s = cellsB s.data.toList := rfl
theorem ARun.appendRunS {os : List Oper} {T U e : TypeId} {y : Nat} {z : Value} {x1 x2 : Operand} {b k c : Nat} {xs : List Value} {s : ByteArray} {d : Nat} (hn : d < N) (hT : slT P T = some (e, 1, y, [z])) (hU : strT P U = true)
  (hx:ev E x1=some (.slice (some ⟨b,0,none⟩) k c)) (hb:S.own b=some ⟨e,xs,c⟩) (hxs:xs.length=k) (hy:ev E x2=some (.string s)) (hfit:(k+s.size)*y≤140737488355328) (h63:k+s.size≤9223372036854775807)
  (h:∀ b' c',Fresh (S.del b) b'→k+s.size≤c'→ARun P N ops os K ((d,.slice (some ⟨b',0,none⟩) (k+s.size) c') :: E) ((S.del b).set b' ⟨e,xs ++ cellsB s.data.toList,c'⟩)) :
  ARun P N ops (⟨some d,.call ⟨.builtin .append,#[x1,x2],#[T,U]⟩,ty,pos,aft,none⟩ :: os) K E S:=fun a w g hv=>by
 rw [if_pos (by simp [Region.wanted])]
 obtain ⟨hu,i,v,e1,e2,hi1,rfl,hv1⟩:=slT_spec hT
 have hz':v.cells.size=1:=by
  have:=congrArg List.length hv1
  simpa using this
 have hlc:(cellsB s.data.toList).length=s.size:=by rw [cellsB_length];exact (Array.length_toList (xs:=s.data))
 have hex:(execOp a.eval ⟨some d,.call ⟨.builtin .append,#[x1,x2],#[T,U]⟩,ty,pos,aft,none⟩).run P w=((Builtin.append_ #[T,U] ty #[.slice (some ⟨b,0,none⟩) k c,.string s]).run P w).andThen fun v w'=>.ok (.value v) w':=by
  simp [execOp,resolve,invoke,builtin,g.ev hx,g.ev hy]
 unfold Oper.wp
 rw [hex]
 by_cases hroom:k+s.size≤c
 ·obtain ⟨q1,q2⟩:=store_cells (P:=P) hv hb (vs:=cellsB s.data.toList) (o:=k) (by simp only;omega) (.inr (by simp only [hlc];omega)) (fun u hu=>by
   unfold cellsB at hu
   obtain ⟨c,_,rfl⟩:=List.mem_map.1 hu
   rfl)
  have hf:=Lib.run_firstCells_string (P:=P) w 1 s
  have hr:(Builtin.append_ #[T,U] ty #[.slice (some ⟨b,0,none⟩) k c,.string s]).run P w = .ok (.slice (some ⟨b,0,none⟩) (k+s.size) c) (w.setCells b k (cellsB s.data.toList)):=by
   rw [strCells_eq] at hf
   simp [Builtin.append_,run_underlying hu,run_underlying (strT_spec hU),sizeOf,typeInfo,e1,hi1,Builtin.lenOf,hroom,hf,addr_add,q1]
  rw [hr]
  have hsp:spl xs k (cellsB s.data.toList)=xs ++ cellsB s.data.toList:=by
   unfold spl
   rw [List.take_of_length_le (by omega),List.drop_of_length_le (by omega),List.append_nil]
  simp only [hsp] at q2
  refine ⟨_,_,h b c (fresh_del (fun a v ha=>(hv.ro a v ha).2) hb) hroom,g.put hn _,?_⟩
  rw [del_set];exact q2
 ·have hfit':Builtin.nextslicecap (k+s.size) c*i.bytes≤281474976710656:=growslice_fits (by omega) hfit
  have hr:=Lib.run_append_grow_string (P:=P) w T U ty e i v hu (strT_spec hU) e1 e2 ⟨b,0,none⟩ k c xs (by rw [hi1,hxs,Nat.mul_one]) (fun j u hj=>hv.rd (by rw [addr_add,Nat.zero_add,rd_own hb];exact hj)) s (by omega) (by omega) hfit'
  rw [hr,strCells_eq]
  have hge:=grownCap_ge w (k+s.size) c e
  have hvd:View S w.drew:=hv.drawn _
  have hst:=Step.allocP hvd e (xs.toArray ++ (cellsB s.data.toList).toArray ++ Builtin.zeroCells v.cells (grownCap w (k+s.size) c e-(k+s.size))) (xs ++ cellsB s.data.toList) (grownCap w (k+s.size) c e) (by simp [List.append_assoc]) (by
   simp only [Array.size_append,List.size_toArray,size_zeroCells,hz',hxs,hlc]
   omega)
  refine ⟨_,_,h w.heap.size (grownCap w (k+s.size) c e) (hv.freshAt.less (Less.del S b)) hge,g.put hn _,?_⟩
  exact ((Step.drawn hv _).trans hst).less (less_del S b _ _)
theorem ARun.appendNilS {os : List Oper} {T U e : TypeId} {y : Nat} {z : Value} {x1 x2 : Operand} {s : ByteArray} {d : Nat} (hn : d < N) (hT : slT P T = some (e, 1, y, [z])) (hU : strT P U = true)
  (hx:ev E x1=some (.slice none 0 0)) (hy:ev E x2=some (.string s)) (h0:0<s.size) (hfit:s.size*y≤140737488355328) (h63:s.size≤9223372036854775807)
  (h:∀ b' c',Fresh S b'→s.size≤c'→ARun P N ops os K ((d,.slice (some ⟨b',0,none⟩) s.size c') :: E) (S.set b' ⟨e,cellsB s.data.toList,c'⟩)) :
  ARun P N ops (⟨some d,.call ⟨.builtin .append,#[x1,x2],#[T,U]⟩,ty,pos,aft,none⟩ :: os) K E S:=fun a w g hv=>by
 rw [if_pos (by simp [Region.wanted])]
 obtain ⟨hu,i,v,e1,e2,hi1,rfl,hv1⟩:=slT_spec hT
 have hz':v.cells.size=1:=by
  have:=congrArg List.length hv1
  simpa using this
 have hlc:(cellsB s.data.toList).length=s.size:=by rw [cellsB_length];exact (Array.length_toList (xs:=s.data))
 have hex:(execOp a.eval ⟨some d,.call ⟨.builtin .append,#[x1,x2],#[T,U]⟩,ty,pos,aft,none⟩).run P w=((Builtin.append_ #[T,U] ty #[.slice none 0 0,.string s]).run P w).andThen fun v w'=>.ok (.value v) w':=by
  simp [execOp,resolve,invoke,builtin,g.ev hx,g.ev hy]
 unfold Oper.wp
 rw [hex,run_append_nil_string (P:=P) w T U ty e i v hu (strT_spec hU) e1 e2 s h0 (by omega) (by omega)]
 have hge:=grownCap_ge w s.size 0 e
 have hvd:View S w.drew:=hv.drawn _
 have hst:=Step.allocP hvd e (s.data.map (fun b=>Value.int .u8 b.toNat) ++ Builtin.zeroCells v.cells (grownCap w s.size 0 e-s.size)) (cellsB s.data.toList) (grownCap w s.size 0 e) (by simp [cellsB,nb]) (by
  have:s.data.size=s.size:=rfl
  simp only [Array.size_append,Array.size_map,size_zeroCells,hz',this]
  omega)
 exact ⟨_,_,h w.heap.size (grownCap w s.size 0 e) hv.freshAt hge,g.put hn _,(Step.drawn hv _).trans hst⟩
/-- No text is put behind. -/
theorem ARun.appendNoneS {os : List Oper} {T U e : TypeId} {y : Nat} {z : Value} {x1 x2 : Operand} {A : Option Addr} {k c d : Nat} {s : ByteArray} (hn : d < N) (hT : slT P T = some (e, 1, y, [z])) (hU : strT P U = true) (hk : k ≤ c)
  (hx:ev E x1=some (.slice A k c)) (hy:ev E x2=some (.string s)) (h0:s.size=0) (h:ARun P N ops os K ((d,.slice A k c) :: E) S) :
  ARun P N ops (⟨some d,.call ⟨.builtin .append,#[x1,x2],#[T,U]⟩,ty,pos,aft,none⟩ :: os) K E S:=fun a w g hv=>by
 rw [if_pos (by simp [Region.wanted])]
 obtain ⟨hu,i,v,e1,e2,hi1,rfl,hv1⟩:=slT_spec hT
 have hr:(execOp a.eval ⟨some d,.call ⟨.builtin .append,#[x1,x2],#[T,U]⟩,ty,pos,aft,none⟩).run P w = .ok (.value (.slice A k c)) w:=by
  have hf:=Lib.run_firstCells_string (P:=P) w 1 s
  have hs:Lib.strCells s = []:=by rw [strCells_eq];exact List.eq_nil_of_length_eq_zero (by rw [cellsB_length,Array.length_toList];exact h0)
  rw [hs,h0] at hf
  cases A with
  | none=>simp [execOp,resolve,invoke,builtin,g.ev hx,g.ev hy,Builtin.append_,run_underlying hu,run_underlying (strT_spec hU),sizeOf,typeInfo,e1,hi1,Builtin.lenOf,h0,hk,hf]
  | some A=>simp [execOp,resolve,invoke,builtin,g.ev hx,g.ev hy,Builtin.append_,run_underlying hu,run_underlying (strT_spec hU),sizeOf,typeInfo,e1,hi1,Builtin.lenOf,h0,hk,hf,storeCells]
 unfold Oper.wp
 rw [hr]
 exact ⟨_,_,h,g.put hn _,Step.refl hv⟩
end
end Mv
end Go.Proofs.YtckloanlkpchoaaGreatDoor
namespace Go.Proofs.YtckloanlkpchoaaGreatDoor
open Go.RowKit
namespace Mv
/-! ### Pointers that go through unsafe.Pointer -/
theorem rowAt_self {P : Program} {fits : TypeId → Bool} {e : TypeId} {n : Nat} (hc : P.cellsOf e ≠ 0) (hn : 1 ≤ n) (hf : fits e = true) : ∀ d, 0 < d → rowAt P fits d e n 0 1 = true := fun d hd => by
 cases d with
 | zero=>omega
 | succ d =>
  unfold rowAt
  simp only
  rw [if_neg hc]
  simp [hf,hn]
theorem liesAt_self {P : Program} {e : TypeId} {n : Nat} (hd : 0 < P.depth) (hc : P.cellsOf e ≠ 0) (hn : 1 ≤ n) (hf : sameLayout P P.depth e e = true) : ∀ d, 0 < d → liesAt P d e n 0 e 1 = true := fun d h => by
 cases d with
 | zero=>omega
 | succ d =>
  unfold liesAt
  rw [rowAt_self (fits:=fun x=>sameLayout P P.depth x e) hc hn hf _ hd]
  rfl
section
variable {P : Program} {N : Nat} {ops : Array Oper} {E : Env} {S : Mem} {K : Env → Mem → Prop}
variable {dst : Option Nat} {ty : TypeId} {pos : String} {aft : Array Edge} {gd : Option (Nat × Bool)}
theorem own_shape {S : Mem} {w : World} {b : Nat} {r : Blk} (hv : View S w) (hb : S.own b = some r) : ∃ n, r.cells.length ≤ n ∧ w.shape? b = some (r.elem, n) := by
 obtain ⟨cur,fz,e1,e2,_⟩:=hv.own b r hb
 exact ⟨cur.size,by have:=e2.length_le;simpa using this,by simp [World.shape?,e1]⟩
theorem Calm.toUnsafe {s t e : TypeId} {x : Operand} {j : TypeInfo} {b : Nat} {r : Blk} (hs : P.underlying s = some (.pointer e)) (hd : P.underlying t = some .unsafePointer) (ht : P.info? e = some j) (hj : j.size ≠ 0) (hx : ev E x = some (.pointer (some ⟨b, 0, none⟩))) (hb : S.own b = some r) (hr : 0 < r.cells.length) :
  ACalm P N ⟨dst,.convert s t x,ty,pos,aft,gd⟩ E S (.pointer (some ⟨b,0,none⟩)):=fun a w g hv=>by
 obtain ⟨n,h1,h2⟩:=own_shape hv hb
 have h:=Lib.run_to_unsafe (P:=P) (w:=w) ⟨b,0,none⟩ hs hd ht hj h2 (by simp only;omega)
 simp only [execOp,g.ev hx]
 rw [Sem.run_bind,h];rfl
theorem Calm.fromUnsafe {s t e : TypeId} {x : Operand} {j : TypeInfo} {b : Nat} {cs : List Value} {m : Nat} (hs : P.underlying s = some .unsafePointer) (hd : P.underlying t = some (.pointer e)) (ht : P.info? e = some j) (h0 : 0 < P.depth) (hc : P.cellsOf e = 2) (hf : sameLayout P P.depth e e = true) (hx : ev E x = some (.pointer (some ⟨b, 0, none⟩))) (hb : S.own b = some ⟨e, cs, m⟩) (hr : 2 ≤ cs.length) :
  ACalm P N ⟨dst,.convert s t x,ty,pos,aft,gd⟩ E S (.pointer (some ⟨b,0,none⟩)):=fun a w g hv=>by
 obtain ⟨n,h1,h2⟩:=own_shape hv hb
 have h1:cs.length≤n:=h1
 have h:=Lib.run_from_unsafe (P:=P) (w:=w) ⟨b,0,none⟩ hs hd ht h2 (liesAt_self h0 (by rw [hc];decide) (by rw [hc];omega) hf _ h0)
 simp only [execOp,g.ev hx]
 rw [Sem.run_bind,h];rfl
/-- A call of the runtime's that hands on what it is given. -/
theorem ARun.extSame {os : List Oper} {f : FuncId} {fn : Func} {x : Operand} {v : Value} {ats : Array TypeId} {d : Nat} (hn : d < N) (hf : P.funcs[f]? = some fn) (hname : (fn.name == "runtime.NumGoroutine") = false) (hb : fn.body.isNone = true)
  (hx':Extern.findNext fn=none) (he:Extern.find fn=some Extern.AbiNoEscape.same) (hx:ev E x=some v)
  (h:ARun P N ops os K ((d,v) :: E) S):ARun P N ops (⟨some d,.call ⟨.value (.func f),#[x],ats⟩,ty,pos,aft,none⟩ :: os) K E S:=fun a w g hv=>by
 rw [if_pos (by simp [Region.wanted])]
 unfold Oper.wp
 have hc:execOp a.eval ⟨some d,.call ⟨.value (.func f),#[x],ats⟩,ty,pos,aft,none⟩=callFunc f #[v]:=by
  rw [execOp_call_go]
  simp [g.ev hx]
 rw [hc,run_callFunc_extern hf hname hb hx' he,Lib.run_noEscape]
 exact ⟨_,_,h,g.put hn _,Step.refl hv⟩
theorem bin_ptr_nil {t e : TypeId} {x y : Operand} {p : Option Addr} (h : P.underlying t = some (.pointer e)) : Bin P .eql t x y (.pointer p) (.pointer none) (.bool p.isNone) := fun w => by
 have hh:∀ d:Nat,(Op.equalIn (d+1) t (.pointer p) (.pointer none)).run P w = .ok p.isNone w:=fun d=>by
  cases p <;> simp [Op.equalIn,run_underlying h]
 have:(binOp .eql t (.pointer p) (.pointer none)).run P w = .ok (.bool p.isNone) w:=by
  simp only [binOp]
  simp [Op.equal,Op.maxDepth,hh 9999]
 simpa [eqGuard] using this
theorem bin_ptr_neq_same {t e : TypeId} {x y : Operand} {a : Addr} {j : TypeInfo} (h : P.underlying t = some (.pointer e)) (hj : P.info? e = some j) : Bin P .neq t x y (.pointer (some a)) (.pointer (some a)) (.bool false) := fun w => by
 have:=Lib.run_neq_ptr_same (P:=P) (w:=w) a h hj
 simpa [eqGuard] using this
end
end Mv
end Go.Proofs.YtckloanlkpchoaaGreatDoor
namespace Go.Proofs.YtckloanlkpchoaaGreatDoor
open Go.RowKit
open Mv
set_option maxRecDepth 4000
namespace Bl
theorem go1 : goFn Tryz.prog 52 = true := by kernel_rfl
theorem go2 : goFn Tryz.prog 22 = true := by kernel_rfl
theorem go3 : goFn Tryz.prog 23 = true := by kernel_rfl
instance : TGo Tryz.prog 52 := ⟨go1⟩
instance : TGo Tryz.prog 22 := ⟨go2⟩
instance : TGo Tryz.prog 23 := ⟨go3⟩
def blk (p v : Value) : Blk := ⟨64, [p, v], 2⟩
def self (b : Nat) : Value := .pointer (some ⟨b, 0, none⟩)
/-- Memory with a builder. -/
def M (S : Mem) (b : Nat) (p : Value) (o : Option (Nat × Nat)) (l : List UInt8) : Mem := (outM S o 5 (cellsB l)).set b (blk p (outV o l.length))
/-- A builder of these bytes, over a memory. -/
def R (S : Mem) (b : Nat) (l : List UInt8) (T : Mem) : Prop := ∃ p o, (p = .pointer none ∨ p = self b) ∧ OkO S o l.length ∧ (∀ g c, o = some (g, c) → g ≠ b ∧ l ≠ []) ∧ T = M S b p o l
/-- .. of which a text was made. -/
def F (S : Mem) (b : Nat) (l : List UInt8) (T : Mem) : Prop := ∃ p, (l = [] ∧ T = S.set b (blk p (.slice none 0 0))) ∨ (l ≠ [] ∧ ∃ g c, Fresh S g ∧ g ≠ b ∧ c ≠ 0 ∧ S.ro.z g = none ∧ T = (S.fr g l).set b (blk p (.slice (some ⟨g, 0, none⟩) l.length c)))
theorem R.new (S : Mem) (b : Nat) : R S b [] (S.set b (blk (.pointer none) (.slice none 0 0))) := ⟨_, none, .inl rfl, ⟨fun _ => rfl, fun _ _ h => (by cases h)⟩, fun _ _ h => (by cases h), rfl⟩
theorem R.less {S T : Mem} {b : Nat} {l : List UInt8} (hf : Fresh S b) (h : R S b l T) : S.Less T := by
 obtain ⟨p,o,_,ho,hne,rfl⟩:=h
 cases o with
 | none=>exact Mem.less_set _ _ _ hf.1
 | some q =>
  obtain ⟨g,c⟩:=q
  have hg:=(ho.own g c rfl).1
  exact (Mem.less_set S g _ hg.1).trans (Mem.less_set _ _ _ (by
   show (S.set g _).own b=none
   rw [Mem.own_set_other _ _ (hne g c rfl).1.symm];exact hf.1))
theorem F.lo {S T : Mem} {b : Nat} {l : List UInt8} (hf : Fresh S b) (h : F S b l T) : S.Lo T := by
 obtain ⟨p,⟨_,rfl⟩ | ⟨_,g,c,hg,hgb,_,hz,rfl⟩⟩:=h
 ·exact (Mem.less_set _ _ _ hf.1).lo
 ·exact Mem.lo_fr_set hg hz hf hgb.symm
theorem lies : sameLayout Tryz.prog Tryz.prog.depth 64 64 = true := by kernel_rfl
theorem deep : 0 < Tryz.prog.depth := Nat.le_of_ble_eq_true (n := 1) (m := Tryz.prog.depth) (by kernel_rfl)
theorem cells2 : Tryz.prog.cellsOf 64 = 2 := by kernel_rfl
theorem cells1 : Tryz.prog.cellsOf 5 = 1 := by kernel_rfl
theorem inf : ∃ j, Tryz.prog.info? 64 = some j ∧ j.size ≠ 0 := by
 have h:(Tryz.prog.info? 64).map (fun j=>j.size)=some 2:=by kernel_rfl
 obtain ⟨j,h1,h2⟩:=Option.map_eq_some_iff.1 h
 exact ⟨j,h1,by omega⟩
theorem ldB {P : Program} {N : Nat} {E : Env} {S : Mem} {dst : Option Nat} {T ty : TypeId} {pos : String} {aft : Array Edge} {gd : Option (Nat × Bool)} {x : Operand} {b : Nat} {p v v' : Value} (hT : plainT P T = true) (hb : S.own b = some (blk p v)) (e : v = v') (hx : ev E x = some (.pointer (some ⟨b, 1, none⟩)) := by exact rfl) :
  ACalm P N ⟨dst,.load T x,ty,pos,aft,gd⟩ E S v':=Calm.load hT hx (by unfold Mem.rd;rw [hb,← e];rfl)
theorem copyCheck (S : Mem) (b : Nat) (p v : Value) (hp : p = .pointer none ∨ p = self b) (hb : S.own b = some (blk p v)) :
  ACall Tryz.prog 52 #[self b] S fun r S'=>r = .tuple #[]∧S'=S.set b (blk (self b) v):=by
 obtain ⟨j,hj,hj0⟩:=inf
 unfold self blk at *
 rcases hp with rfl | rfl
 ·skip
  refine ACall.enter (rs:=[]) 20 [(0,.pointer (some ⟨b,0,none⟩))] Tryz.func52 rfl rfl (Nat.le_of_ble_eq_true rfl) rfl ⟨rfl,trivial⟩ ?_
  iterate 6 refine s1_ ?_
  refine rC (Calm.bin rfl rfl (bin_ptr_nil Tryz.underlying62)) ?_
  iterate 2 refine s1_ ?_
  refine su_ [(0,_),(6,_)] ?_
  refine cT_ ?_
  iterate 3 refine s1_ ?_
  refine rC (Calm.toUnsafe Tryz.underlying62 Tryz.underlying134 hj hj0 rfl hb (by simp)) ?_
  refine ARun.extSame (lit_lt rfl) Tryz.func88 rfl rfl rfl rfl rfl ?_
  refine rC (Calm.fromUnsafe Tryz.underlying134 Tryz.underlying62 hj deep cells2 lies rfl hb (by simp)) ?_
  iterate 4 refine s1_ ?_
  refine ⟨_,_,rfl,less_,?_⟩
  exact ⟨rfl,rfl⟩
 ·skip
  refine ACall.enter (rs:=[]) 20 [(0,.pointer (some ⟨b,0,none⟩))] Tryz.func52 rfl rfl (Nat.le_of_ble_eq_true rfl) rfl ⟨rfl,trivial⟩ ?_
  iterate 6 refine s1_ ?_
  refine rC (Calm.bin rfl rfl (bin_ptr_nil Tryz.underlying62)) ?_
  iterate 2 refine s1_ ?_
  refine su_ [(0,_),(6,_)] ?_
  refine cF_ ?_
  iterate 7 refine s1_ ?_
  refine rC (Calm.bin rfl rfl (bin_ptr_neq_same Tryz.underlying62 hj)) ?_
  iterate 2 refine s1_ ?_
  refine su_ [(0,_),(6,_),(19,_)] ?_
  refine cF_ ?_
  refine s1_ ?_
  refine ⟨_,S,rfl,less_,?_⟩
  exact ⟨rfl,(Mem.set_same _ _ _ hb).symm⟩
theorem mem_eq1 {S : Mem} {b b' : Nat} {X X' Y : Blk} (hne : b ≠ b') : ((S.set b X).set b' Y).set b X' = (S.set b' Y).set b X' := by
 unfold Mem.set;congr 1;funext k;by_cases h1:k=b <;> by_cases h2:k=b' <;> simp_all
theorem mem_eq2 {S : Mem} {b b' g : Nat} {X X' Y Z : Blk} (hf : S.own g = none) (hg : g ≠ b) : ((((S.set g Z).set b X).del g).set b' Y).set b X' = (S.set b' Y).set b X' := by
 unfold Mem.set Mem.del;congr 1;funext k;by_cases h1:k=b <;> by_cases h2:k=b' <;> by_cases h3:k=g <;> simp_all
theorem mem_eq3 {S : Mem} {b g : Nat} {X Z : Blk} {l : List UInt8} (hf : S.own g = none) (hg : g ≠ b) : (((S.set g Z).set b X).del g).fr g l = (S.fr g l).set b X := by
 unfold Mem.set Mem.del Mem.fr;congr 1;funext k;by_cases h1:k=b <;> by_cases h3:k=g <;> simp_all
theorem WriteString (S : Mem) (b : Nat) (l : List UInt8) (T : Mem) (s : ByteArray) (hf : Fresh S b) (h : R S b l T) (hsz : l.length + s.size ≤ 140737488355328) :
  ACall Tryz.prog 22 #[self b,.string s] T fun r S'=>r = .tuple #[.int .i64 s.size,.nilIface]∧R S b (l ++ s.data.toList) S':=by
 obtain ⟨p,o,hp,ho,hne,rfl⟩:=h
 have hlen:s.data.toList.length=s.size:=Array.length_toList (xs:=s.data)
 have hcc:=copyCheck (M S b p o l) b p _ hp (Mem.own_set_same _ _ _)
 have hmm:(M S b p o l).set b (blk (self b) (outV o l.length))=M S b (self b) o l:=Mem.set_set _ _ _ _
 rw [hmm] at hcc
 have hby:(M S b (self b) o l).own b=some (blk (self b) (outV o l.length)):=Mem.own_set_same _ _ _
 by_cases h0:s.size=0
 ·have e0:s.data.toList = []:=List.eq_nil_of_length_eq_zero (by omega)
  obtain ⟨A,k,c,hov,hk⟩ : ∃ A k c,outV o l.length = .slice A k c∧k≤c:=by
   cases o with
   | none=>exact ⟨none,0,0,rfl,Nat.le_refl _⟩
   | some q=>exact ⟨_,_,_,rfl,(ho.own q.1 q.2 rfl).2⟩
  rw [e0,List.append_nil]
  refine ACall.enter (rs:=[.tmp 4,.tmp 5]) 19 [(0,self b),(1,.string s)] Tryz.func22 rfl rfl (Nat.le_of_ble_eq_true rfl) rfl ⟨rfl,rfl,trivial⟩ ?_
  iterate 9 refine s1_ ?_
  refine ca_ rfl (hcc) ?_
  rintro _ S1 ⟨rfl,h1⟩
  rw [h1];clear h1 S1
  iterate 2 refine s1_ ?_
  refine su_ [(0,_),(1,_),(4,_),(5,_)] ?_
  iterate 6 refine s1_ ?_
  refine rC ((ldB ty_plain_51 hby hov)) ?_
  refine s1_ ?_
  refine ARun.appendNoneS (lit_lt rfl) ty_sl_51 ty_str_9 hk rfl rfl h0 ?_
  iterate 2 refine s1_ ?_
  refine ARun.store1 rfl rfl ty_size_51 rfl hby (by show 1<2;decide) rfl ?_
  try simp only [k_ms,k_sz,k_ss,k_za,Nat.reduceAdd]
  iterate 2 refine s1_ ?_
  refine su_ [(0,_),(1,_),(4,_),(5,_)] ?_
  iterate 8 refine s1_ ?_
  refine su_ [(0,_),(1,_),(4,_),(5,_)] ?_
  refine s1_ ?_
  refine ⟨_,M S b (self b) o l,⟨_,_,rfl,⟨_,_,rfl,rfl,rfl⟩,rfl⟩,(by rw [show (M S b (self b) o l).set b _=M S b (self b) o l from Mem.set_same _ _ _ (by rw [hby,hov];rfl)];exact Mem.Less.refl _),?_⟩
  exact ⟨rfl,self b,o,.inr rfl,ho,hne,rfl⟩
 ·cases o with
  | none =>
   have hl0:l = []:=List.eq_nil_of_length_eq_zero (ho.nil rfl)
   subst hl0
   refine ACall.enter (rs:=[.tmp 4,.tmp 5]) 19 [(0,self b),(1,.string s)] Tryz.func22 rfl rfl (Nat.le_of_ble_eq_true rfl) rfl ⟨rfl,rfl,trivial⟩ ?_
   iterate 9 refine s1_ ?_
   refine ca_ rfl (hcc) ?_
   rintro _ S1 ⟨rfl,h1⟩
   rw [h1];clear h1 S1
   iterate 2 refine s1_ ?_
   refine su_ [(0,_),(1,_),(4,_),(5,_)] ?_
   iterate 6 refine s1_ ?_
   refine rC ((ldB ty_plain_51 hby rfl)) ?_
   refine s1_ ?_
   refine ARun.appendNilS (lit_lt rfl) ty_sl_51 ty_str_9 rfl rfl (by omega) (by omega) (by omega) ?_
   intro b14 c14 f14 hc14
   have g14:Fresh S b14:=(fresh_set f14).1
   have hbb:b≠b14:=(fresh_set f14).2.symm
   iterate 2 refine s1_ ?_
   refine ARun.store1 rfl rfl ty_size_51 rfl ((Mem.own_set_other _ _ hbb).trans hby) (by show 1<2;decide) rfl ?_
   try simp only [k_ms,k_sz,k_ss,k_za,Nat.reduceAdd]
   iterate 2 refine s1_ ?_
   refine su_ [(0,_),(1,_),(4,_),(5,_)] ?_
   iterate 8 refine s1_ ?_
   refine su_ [(0,_),(1,_),(4,_),(5,_)] ?_
   refine s1_ ?_
   refine ⟨_,M S b (self b) (some (b14,c14)) s.data.toList,⟨_,_,rfl,⟨_,_,rfl,rfl,rfl⟩,rfl⟩,(by unfold M;rw [mem_eq1 hbb,hlen.symm];exact Mem.Less.refl _),?_⟩
   exact ⟨rfl,self b,some (b14,c14),.inr rfl,⟨fun h=>(by cases h),fun g c e=>(by cases e;exact ⟨g14,by simp only [List.nil_append];omega⟩)⟩,fun g c e=>(by cases e;exact ⟨hbb.symm,fun e=>by simp only [List.nil_append] at e;rw [e] at hlen;simp at hlen;omega⟩),rfl⟩
  | some q =>
   obtain ⟨g,c⟩:=q
   have hgb:=(hne g c rfl).1
   have hg:=(ho.own g c rfl)
   have hog:(M S b (self b) (some (g,c)) l).own g=some ⟨5,cellsB l,c⟩:=(Mem.own_set_other _ _ hgb).trans (Mem.own_set_same _ _ _)
   refine ACall.enter (rs:=[.tmp 4,.tmp 5]) 19 [(0,self b),(1,.string s)] Tryz.func22 rfl rfl (Nat.le_of_ble_eq_true rfl) rfl ⟨rfl,rfl,trivial⟩ ?_
   iterate 9 refine s1_ ?_
   refine ca_ rfl (hcc) ?_
   rintro _ S1 ⟨rfl,h1⟩
   rw [h1];clear h1 S1
   iterate 2 refine s1_ ?_
   refine su_ [(0,_),(1,_),(4,_),(5,_)] ?_
   iterate 6 refine s1_ ?_
   refine rC ((ldB ty_plain_51 hby rfl)) ?_
   refine s1_ ?_
   refine ARun.appendRunS (lit_lt rfl) ty_sl_51 ty_str_9 rfl hog (cellsB_length l) rfl (by omega) (by omega) ?_
   intro b14 c14 f14 hc14
   have hby2:((M S b (self b) (some (g,c)) l).del g).own b=some (blk (self b) (outV (some (g,c)) l.length)):=(Mem.own_del_other _ hgb.symm).trans hby
   have hbb:b≠b14:=fun e=>by rw [← e] at f14;have:=f14.1;rw [hby2] at this;cases this
   have hd14:S.own b14=none:=by
    by_cases e:b14=g
    ·rw [e];exact hg.1.1
    ·have:=f14.1
     rw [Mem.own_del_other _ e] at this
     unfold M at this
     rw [Mem.own_set_other _ _ hbb.symm] at this
     exact (Mem.own_set_other S _ e).symm.trans this
   have g14:Fresh S b14:=⟨hd14,f14.2⟩
   iterate 2 refine s1_ ?_
   refine ARun.store1 rfl rfl ty_size_51 rfl ((Mem.own_set_other _ _ hbb).trans hby2) (by show 1<2;decide) rfl ?_
   try simp only [k_ms,k_sz,k_ss,k_za,Nat.reduceAdd]
   iterate 2 refine s1_ ?_
   refine su_ [(0,_),(1,_),(4,_),(5,_)] ?_
   iterate 8 refine s1_ ?_
   refine su_ [(0,_),(1,_),(4,_),(5,_)] ?_
   refine s1_ ?_
   refine ⟨_,M S b (self b) (some (b14,c14)) (l ++ s.data.toList),⟨_,_,rfl,⟨_,_,rfl,rfl,rfl⟩,rfl⟩,(by unfold M;show Mem.Less _ (((((S.set g _).set b _).del g).set b14 _).set b _);rw [mem_eq2 hg.1.1 hgb,show cellsB (l ++ s.data.toList)=cellsB l ++ cellsB s.data.toList from List.map_append ..,show (l ++ s.data.toList).length=l.length+s.size from by rw [List.length_append,hlen]];exact Mem.Less.refl _),?_⟩
   exact ⟨rfl,self b,some (b14,c14),.inr rfl,⟨fun h=>(by cases h),fun g c e=>(by cases e;exact ⟨g14,by rw [List.length_append,hlen];exact hc14⟩)⟩,fun g' c' e=>(by cases e;exact ⟨hbb.symm,fun e=>(hne g c rfl).2 (List.append_eq_nil_iff.1 e).1⟩),rfl⟩
theorem String (S : Mem) (b : Nat) (l : List UInt8) (T : Mem) (hf : Fresh S b) (h : R S b l T) (h63 : l.length ≤ 9223372036854775807) :
  ACall Tryz.prog 23 #[self b] T fun r S'=>r = .string (bs l)∧F S b l S':=by
 obtain ⟨p,o,hp,ho,hne,rfl⟩:=h
 have hby:(M S b p o l).own b=some (blk p (outV o l.length)):=Mem.own_set_same _ _ _
 cases o with
 | none =>
  have hl0:l = []:=List.eq_nil_of_length_eq_zero (ho.nil rfl)
  subst hl0
  refine ACall.enter (rs:=[.tmp 2]) 14 [(0,self b)] Tryz.func23 rfl rfl (Nat.le_of_ble_eq_true rfl) rfl ⟨rfl,trivial⟩ ?_
  iterate 6 refine s1_ ?_
  refine AWP.draw [(0,true),(1,true),(2,true),(3,true),(4,true),(5,true),(6,true),(7,true),(8,true),(9,true),(10,false),(11,true)] [10] mixed (by kernel_rfl) ?_
  iterate 3 refine s1_ ?_
  refine dC (hc:=(ldB ty_plain_51 hby rfl)) (h:=?_)
  refine dC (hc:=Calm.sliceData rfl (.inl rfl)) (h:=?_)
  iterate 3 refine s1_ ?_
  refine dC (hc:=(ldB ty_plain_51 hby rfl)) (h:=?_)
  refine s1_ ?_
  refine draw_only rfl ?_
  refine ARun.usNil (lit_lt rfl) rfl rfl ?_
  refine arun_nil ⟨fun h=>absurd h (by decide),?_⟩
  iterate 3 refine s1_ ?_
  refine su_ [(0,_),(2,_)] ?_
  refine s1_ ?_
  refine ⟨_,M S b p none [],⟨_,_,rfl,rfl,rfl⟩,(Mem.Less.refl _),?_⟩
  exact ⟨rfl,p,.inl ⟨rfl,rfl⟩⟩
 | some q =>
  obtain ⟨g,c⟩:=q
  obtain ⟨hgb,hl0⟩:=hne g c rfl
  have hg:=(ho.own g c rfl)
  have hlp:0<l.length:=List.length_pos_iff.2 hl0
  have hog:(M S b p (some (g,c)) l).own g=some ⟨5,cellsB l,c⟩:=(Mem.own_set_other _ _ hgb).trans (Mem.own_set_same _ _ _)
  refine ACall.seen (p:=S.ro.z g=none) (fun w hv=>Mem.z_none hv hog) fun hz=>?_
  refine ACall.enter (rs:=[.tmp 2]) 14 [(0,self b)] Tryz.func23 rfl rfl (Nat.le_of_ble_eq_true rfl) rfl ⟨rfl,trivial⟩ ?_
  iterate 6 refine s1_ ?_
  refine AWP.draw [(0,true),(1,true),(2,true),(3,true),(4,true),(5,true),(6,true),(7,true),(8,true),(9,true),(10,false),(11,true)] [10] mixed (by kernel_rfl) ?_
  iterate 3 refine s1_ ?_
  refine dC (hc:=(ldB ty_plain_51 hby rfl)) (h:=?_)
  refine dC (hc:=Calm.sliceData rfl (.inr (by omega))) (h:=?_)
  iterate 3 refine s1_ ?_
  refine dC (hc:=(ldB ty_plain_51 hby rfl)) (h:=?_)
  refine s1_ ?_
  refine draw_only rfl ?_
  refine ARun.usOwn (lit_lt rfl) Tryz.underlying116 cells1 rfl rfl hog hl0 h63 ?_
  refine arun_nil ⟨fun h=>absurd h (by decide),?_⟩
  iterate 3 refine s1_ ?_
  refine su_ [(0,_),(2,_)] ?_
  refine s1_ ?_
  refine ⟨_,((M S b p (some (g,c)) l).del g).fr g l,⟨_,_,rfl,rfl,rfl⟩,(Mem.Less.refl _),?_⟩
  exact ⟨rfl,p,.inr ⟨hl0,g,c,hg.1,hgb,by omega,hz,mem_eq3 hg.1.1 hgb⟩⟩
/-- The last text: the builder is no more. -/
theorem StringE (S : Mem) (b : Nat) (l : List UInt8) (T : Mem) (hf : Fresh S b) (h : R S b l T) (h63 : l.length ≤ 9223372036854775807) :
  ACall Tryz.prog 23 #[self b] T fun r S'=>r = .string (bs l)∧S'=S :=
 (String S b l T hf h h63).lose fun v S' ⟨h1,h2⟩=>⟨S,h2.lo hf,h1,rfl⟩
end Bl
end Go.Proofs.YtckloanlkpchoaaGreatDoor
namespace Go.Proofs.YtckloanlkpchoaaGreatDoor
open Go.RowKit
open Mv
set_option maxRecDepth 4000
namespace Bl
theorem go4 : goFn Tryz.prog 59 = true := by kernel_rfl
theorem go5 : goFn Tryz.prog 90 = true := by kernel_rfl
instance : TGo Tryz.prog 59 := ⟨go4⟩
instance : TGo Tryz.prog 90 := ⟨go5⟩
/-- Another block beside a builder. -/
theorem R.set {S T : Mem} {b q : Nat} {l : List UInt8} {X : Blk} (h : R S b l T) (hf : Fresh S b) (hq : Fresh T q) : R (S.set q X) b l (T.set q X) ∧ Fresh (S.set q X) b ∧ Fresh S q ∧ q ≠ b := by
 obtain ⟨p,o,hp,ho,hne,rfl⟩:=h
 obtain ⟨h1,hqb⟩:=fresh_set hq
 cases o with
 | none =>
  refine ⟨⟨p,none,hp,ho.set (fun _ _ e=>by cases e),fun _ _ e=>(by cases e),?_⟩,fresh_more hf (Ne.symm hqb),h1,hqb⟩
  unfold M
  exact Mem.set_comm _ _ _ (Ne.symm hqb)
 | some w =>
  obtain ⟨g,c⟩:=w
  obtain ⟨h2,hqg⟩:=fresh_set h1
  refine ⟨⟨p,some (g,c),hp,ho.set (fun g' c' e=>by cases e;exact hqg),fun g' c' e=>(by cases e;exact hne g c rfl),?_⟩,fresh_more hf (Ne.symm hqb),h2,hqb⟩
  unfold M
  show ((S.set g _).set b _).set q X=((S.set q X).set g _).set b _
  rw [Mem.set_comm _ _ _ (Ne.symm hqb),Mem.set_comm S _ _ (Ne.symm hqg)]
/-- .. and let go. -/
theorem R.unset {S T : Mem} {b q : Nat} {l : List UInt8} {X : Blk} (h : R (S.set q X) b l T) (hq : Fresh S q) (hqb : q ≠ b) : ∃ T0, R S b l T0 ∧ T0.Less T := by
 obtain ⟨p,o,hp,ho,hne,rfl⟩:=h
 refine ⟨M S b p o l,⟨p,o,hp,ho.unset,hne,rfl⟩,?_⟩
 cases o with
 | none =>
  unfold M
  show (S.set b _).Less ((S.set q X).set b _)
  rw [Mem.set_comm _ _ _ hqb]
  exact Mem.less_set _ _ _ ((Mem.own_set_other _ _ hqb).trans hq.1)
 | some w =>
  obtain ⟨g,c⟩:=w
  have hgq:g≠q:=(fresh_set (ho.own g c rfl).1).2
  unfold M
  show ((S.set g _).set b _).Less (((S.set q X).set g _).set b _)
  rw [Mem.set_comm S _ _ (Ne.symm hgq),Mem.set_comm _ _ _ hqb]
  exact Mem.less_set _ _ _ ((Mem.own_set_other _ _ hqb).trans ((Mem.own_set_other _ _ (Ne.symm hgq)).trans hq.1))
theorem mem_eq4 {S : Mem} {b b' q : Nat} {X X' Y W : Blk} (hne : b ≠ b') (hq : q ≠ b) (hq' : b' ≠ q) : (((S.set b X).set q W).set b' Y).set b X' = ((S.set b' Y).set b X').set q W := by
 unfold Mem.set;congr 1;funext k;by_cases h1:k=b <;> by_cases h2:k=b' <;> by_cases h3:k=q <;> simp_all
theorem mem_eq5 {S : Mem} {b b' g q : Nat} {X X' Y Z W : Blk} (hf : S.own g = none) (hg : g ≠ b) (hne : b ≠ b') (hq : q ≠ b) (hqg : q ≠ g) (hq' : b' ≠ q) : (((((S.set g Z).set b X).set q W).del g).set b' Y).set b X' = ((S.set b' Y).set b X').set q W := by
 unfold Mem.set Mem.del;congr 1;funext k;by_cases h1:k=b <;> by_cases h2:k=b' <;> by_cases h3:k=g <;> by_cases h4:k=q <;> simp_all
theorem Write (S : Mem) (b : Nat) (l : List UInt8) (T : Mem) (q k c2 : Nat) (e : TypeId) (xs : List UInt8) (rq : Nat) (hf : Fresh S b) (h : R S b l T) (hq : S.own q = some ⟨e, cellsB xs, rq⟩) (hk : xs.length = k) (hx : 0 < k) (hsz : l.length + k ≤ 140737488355328) :
  ACall Tryz.prog 59 #[self b,.slice (some ⟨q,0,none⟩) k c2] T fun r S'=>r = .tuple #[.int .i64 k,.nilIface]∧R S b (l ++ xs) S':=by
 have hT:=h.less hf
 obtain ⟨p,o,hp,ho,hne,rfl⟩:=h
 have hcc:=copyCheck (M S b p o l) b p _ hp (Mem.own_set_same _ _ _)
 have hmm:(M S b p o l).set b (blk (self b) (outV o l.length))=M S b (self b) o l:=Mem.set_set _ _ _ _
 rw [hmm] at hcc
 have hby:(M S b (self b) o l).own b=some (blk (self b) (outV o l.length)):=Mem.own_set_same _ _ _
 have hqb:q≠b:=hf.ne hq
 have hql:(M S b (self b) o l).own q=some ⟨e,cellsB xs,rq⟩:=by
  cases o with
  | none=>exact (Mem.own_set_other _ _ hqb).trans hq
  | some w=>exact (Mem.own_set_other _ _ hqb).trans ((Mem.own_set_other _ _ ((ho.own w.1 w.2 rfl).1.ne hq)).trans hq)
 have hrd:(M S b (self b) o l).rds ⟨q,0,none⟩ (cellsB xs):=rds_own hql
 have hlx:(cellsB xs).length=k:=by rw [cellsB_length];exact hk
 cases o with
 | none =>
  have hl0:l = []:=List.eq_nil_of_length_eq_zero (ho.nil rfl)
  subst hl0
  refine ACall.enter (rs:=[.tmp 4,.tmp 5]) 19 [(0,self b),(1,.slice (some ⟨q,0,none⟩) k c2)] Tryz.func59 rfl rfl (Nat.le_of_ble_eq_true rfl) rfl ⟨rfl,rfl,trivial⟩ ?_
  iterate 9 refine s1_ ?_
  refine ca_ rfl (hcc) ?_
  rintro _ S1 ⟨rfl,h1⟩
  rw [h1];clear h1 S1
  iterate 2 refine s1_ ?_
  refine su_ [(0,_),(1,_),(4,_),(5,_)] ?_
  iterate 6 refine s1_ ?_
  refine rC ((ldB ty_plain_51 hby rfl)) ?_
  refine s1_ ?_
  refine ARun.appendNil1 (lit_lt rfl) ty_sl_51 rfl rfl hrd hlx hx (by simp only [List.length_nil] at hsz;omega) (by simp only [List.length_nil] at hsz;omega) ?_
  intro b14 c14 f14 hc14
  have g14:Fresh S b14:=(fresh_set f14).1
  have hbb:b≠b14:=(fresh_set f14).2.symm
  iterate 2 refine s1_ ?_
  refine ARun.store1 rfl rfl ty_size_51 rfl ((Mem.own_set_other _ _ hbb).trans hby) (by show 1<2;decide) rfl ?_
  try simp only [k_ms,k_sz,k_ss,k_za,Nat.reduceAdd]
  iterate 2 refine s1_ ?_
  refine su_ [(0,_),(1,_),(4,_),(5,_)] ?_
  iterate 8 refine s1_ ?_
  refine su_ [(0,_),(1,_),(4,_),(5,_)] ?_
  refine s1_ ?_
  refine ⟨_,M S b (self b) (some (b14,c14)) xs,⟨_,_,rfl,⟨_,_,rfl,rfl,rfl⟩,rfl⟩,(by unfold M;rw [mem_eq1 hbb,← hk];exact Mem.Less.refl _),?_⟩
  exact ⟨rfl,self b,some (b14,c14),.inr rfl,⟨fun h=>(by cases h),fun g c e=>(by cases e;exact ⟨g14,by simp only [List.nil_append];omega⟩)⟩,fun g c e=>(by cases e;exact ⟨hbb.symm,fun e=>by simp only [List.nil_append] at e;rw [e] at hk;simp at hk;omega⟩),rfl⟩
 | some w =>
  obtain ⟨g,c⟩:=w
  have hgb:=(hne g c rfl).1
  have hg:=(ho.own g c rfl)
  have hog:(M S b (self b) (some (g,c)) l).own g=some ⟨5,cellsB l,c*1⟩:=by rw [Nat.mul_one];exact (Mem.own_set_other _ _ hgb).trans (Mem.own_set_same _ _ _)
  refine ACall.enter (rs:=[.tmp 4,.tmp 5]) 19 [(0,self b),(1,.slice (some ⟨q,0,none⟩) k c2)] Tryz.func59 rfl rfl (Nat.le_of_ble_eq_true rfl) rfl ⟨rfl,rfl,trivial⟩ ?_
  iterate 9 refine s1_ ?_
  refine ca_ rfl (hcc) ?_
  rintro _ S1 ⟨rfl,h1⟩
  rw [h1];clear h1 S1
  iterate 2 refine s1_ ?_
  refine su_ [(0,_),(1,_),(4,_),(5,_)] ?_
  iterate 6 refine s1_ ?_
  refine rC ((ldB ty_plain_51 hby rfl)) ?_
  refine s1_ ?_
  refine ARun.appendRun (lit_lt rfl) ty_sl_51 rfl rfl hog (by rw [cellsB_length,Nat.mul_one]) rfl hrd (by rw [hlx,Nat.mul_one]) (fun v hv=>(by unfold cellsB at hv;obtain ⟨x,_,rfl⟩:=List.mem_map.1 hv;rfl)) (by omega) (by omega) ?_
  intro b14 c14 f14 hc14
  rw [Nat.mul_one]
  have hby2:((M S b (self b) (some (g,c)) l).del g).own b=some (blk (self b) (outV (some (g,c)) l.length)):=(Mem.own_del_other _ hgb.symm).trans hby
  have hbb:b≠b14:=fun e=>by rw [← e] at f14;have:=f14.1;rw [hby2] at this;cases this
  have hd14:S.own b14=none:=by
   by_cases e:b14=g
   ·rw [e];exact hg.1.1
   ·have:=f14.1
    rw [Mem.own_del_other _ e] at this
    unfold M at this
    rw [Mem.own_set_other _ _ hbb.symm] at this
    exact (Mem.own_set_other S _ e).symm.trans this
  have g14:Fresh S b14:=⟨hd14,f14.2⟩
  iterate 2 refine s1_ ?_
  refine ARun.store1 rfl rfl ty_size_51 rfl ((Mem.own_set_other _ _ hbb).trans hby2) (by show 1<2;decide) rfl ?_
  try simp only [k_ms,k_sz,k_ss,k_za,Nat.reduceAdd]
  iterate 2 refine s1_ ?_
  refine su_ [(0,_),(1,_),(4,_),(5,_)] ?_
  iterate 8 refine s1_ ?_
  refine su_ [(0,_),(1,_),(4,_),(5,_)] ?_
  refine s1_ ?_
  refine ⟨_,M S b (self b) (some (b14,c14)) (l ++ xs),⟨_,_,rfl,⟨_,_,rfl,rfl,rfl⟩,rfl⟩,(by unfold M;show Mem.Less _ (((((S.set g _).set b _).del g).set b14 _).set b _);rw [mem_eq2 hg.1.1 hgb,← hk,show cellsB (l ++ xs)=cellsB l ++ cellsB xs from List.map_append ..,show (l ++ xs).length=l.length+xs.length from List.length_append];exact Mem.Less.refl _),?_⟩
  exact ⟨rfl,self b,some (b14,c14),.inr rfl,⟨fun h=>(by cases h),fun g c e=>(by cases e;exact ⟨g14,by rw [List.length_append,hk];exact hc14⟩)⟩,fun g' c' e=>(by cases e;exact ⟨hbb.symm,fun e=>(hne g c rfl).2 (List.append_eq_nil_iff.1 e).1⟩),rfl⟩
theorem WriteByte (S : Mem) (b : Nat) (l : List UInt8) (T : Mem) (x : UInt8) (hf : Fresh S b) (h : R S b l T) (hsz : l.length + 1 ≤ 140737488355328) :
  ACall Tryz.prog 90 #[self b,.int .u8 (nb x)] T fun r S'=>r = .nilIface∧R S b (l ++ [x]) S':=by
 obtain ⟨p,o,hp,ho,hne,rfl⟩:=h
 have hcc:=copyCheck (M S b p o l) b p _ hp (Mem.own_set_same _ _ _)
 have hmm:(M S b p o l).set b (blk (self b) (outV o l.length))=M S b (self b) o l:=Mem.set_set _ _ _ _
 rw [hmm] at hcc
 have hby:(M S b (self b) o l).own b=some (blk (self b) (outV o l.length)):=Mem.own_set_same _ _ _
 cases o with
 | none =>
  have hl0:l = []:=List.eq_nil_of_length_eq_zero (ho.nil rfl)
  subst hl0
  refine ACall.enter (rs:=[.tmp 4]) 17 [(0,self b),(1,.int .u8 (nb x))] Tryz.func90 rfl rfl (Nat.le_of_ble_eq_true rfl) rfl ⟨rfl,rfl,trivial⟩ ?_
  iterate 8 refine s1_ ?_
  refine ca_ rfl (hcc) ?_
  rintro _ S1 ⟨rfl,h1⟩
  rw [h1];clear h1 S1
  iterate 2 refine s1_ ?_
  refine su_ [(0,_),(1,_),(4,_)] ?_
  iterate 6 refine s1_ ?_
  refine rC ((ldB ty_plain_51 hby rfl)) ?_
  refine s1_ ?_
  refine ARun.build1s (lit_lt rfl) ty_sl_51 rfl rfl ?_
  intro b13 f13
  have g13:=f13
  repeat ((with_reducible replace g13:=fresh_set g13);obtain ⟨g13,_⟩:=g13)
  refine ARun.appendNil1 (lit_lt rfl) ty_sl_51 rfl rfl (rds_own (Mem.own_set_same _ _ _)) rfl (by decide) (by omega) (by omega) ?_
  intro b14 c14 f14 hc14
  obtain ⟨f14',n14⟩:=fresh_set f14
  have g14:Fresh S b14:=(fresh_set f14').1
  have hbb:b≠b14:=(fresh_set f14').2.symm
  have n13:b13≠b:=(fresh_set f13).2
  iterate 2 refine s1_ ?_
  refine ARun.store1 rfl rfl ty_size_51 rfl ((Mem.own_set_other _ _ hbb).trans ((Mem.own_set_other _ _ n13.symm).trans hby)) (by show 1<2;decide) rfl ?_
  try simp only [k_ms,k_sz,k_ss,k_za,Nat.reduceAdd]
  iterate 2 refine s1_ ?_
  refine su_ [(0,_),(1,_),(4,_)] ?_
  iterate 6 refine s1_ ?_
  refine ⟨_,M S b (self b) (some (b14,c14)) [x],⟨_,_,rfl,rfl,rfl⟩,(by unfold M;show Mem.Less _ ((((S.set b _).set b13 _).set b14 _).set b _);rw [mem_eq4 hbb n13 n14];exact Mem.less_set _ _ _ ((Mem.own_set_other _ _ n13).trans ((Mem.own_set_other _ _ (Ne.symm n14)).trans (fresh_set f13).1.1))),?_⟩
  exact ⟨rfl,self b,some (b14,c14),.inr rfl,⟨fun h=>(by cases h),fun g c e=>(by cases e;exact ⟨g14,hc14⟩)⟩,fun g c e=>(by cases e;exact ⟨hbb.symm,by simp⟩),rfl⟩
 | some w =>
  obtain ⟨g,c⟩:=w
  have hgb:=(hne g c rfl).1
  have hg:=(ho.own g c rfl)
  have hog:(M S b (self b) (some (g,c)) l).own g=some ⟨5,cellsB l,c*1⟩:=by rw [Nat.mul_one];exact (Mem.own_set_other _ _ hgb).trans (Mem.own_set_same _ _ _)
  refine ACall.enter (rs:=[.tmp 4]) 17 [(0,self b),(1,.int .u8 (nb x))] Tryz.func90 rfl rfl (Nat.le_of_ble_eq_true rfl) rfl ⟨rfl,rfl,trivial⟩ ?_
  iterate 8 refine s1_ ?_
  refine ca_ rfl (hcc) ?_
  rintro _ S1 ⟨rfl,h1⟩
  rw [h1];clear h1 S1
  iterate 2 refine s1_ ?_
  refine su_ [(0,_),(1,_),(4,_)] ?_
  iterate 6 refine s1_ ?_
  refine rC ((ldB ty_plain_51 hby rfl)) ?_
  refine s1_ ?_
  refine ARun.build1s (lit_lt rfl) ty_sl_51 rfl rfl ?_
  intro b13 f13
  have g13:=f13
  repeat ((with_reducible replace g13:=fresh_set g13);obtain ⟨g13,_⟩:=g13)
  refine ARun.appendRun (lit_lt rfl) ty_sl_51 rfl rfl ((Mem.own_set_other _ _ (f13.ne hog)).trans hog) (by rw [cellsB_length,Nat.mul_one]) rfl (rds_own (Mem.own_set_same _ _ _)) rfl (fun v hv=>(by simp only [List.mem_cons,List.not_mem_nil,or_false] at hv;subst hv;rfl)) (by omega) (by omega) ?_
  intro b14 c14 f14 hc14
  rw [Nat.mul_one]
  have n13b:b13≠b:=(fresh_set f13).2
  have n13g:b13≠g:=(fresh_set (fresh_set f13).1).2
  have g13:S.own b13=none:=(fresh_set (fresh_set f13).1).1.1
  have hby2:(((M S b (self b) (some (g,c)) l).set b13 ⟨5,[.int .u8 (nb x)],1⟩).del g).own b=some (blk (self b) (outV (some (g,c)) l.length)):=(Mem.own_del_other _ hgb.symm).trans ((Mem.own_set_other _ _ n13b.symm).trans hby)
  have h13:(((M S b (self b) (some (g,c)) l).set b13 ⟨5,[.int .u8 (nb x)],1⟩).del g).own b13=some ⟨5,[.int .u8 (nb x)],1⟩:=(Mem.own_del_other _ n13g).trans (Mem.own_set_same _ _ _)
  have hbb:b≠b14:=fun e=>by rw [← e] at f14;have:=f14.1;rw [hby2] at this;cases this
  have n14:b14≠b13:=fun e=>by rw [e] at f14;have:=f14.1;rw [h13] at this;cases this
  have hd14:S.own b14=none:=by
   by_cases e:b14=g
   ·rw [e];exact hg.1.1
   ·have:=f14.1
    rw [Mem.own_del_other _ e,Mem.own_set_other _ _ n14] at this
    unfold M at this
    rw [Mem.own_set_other _ _ hbb.symm] at this
    exact (Mem.own_set_other S _ e).symm.trans this
  have g14:Fresh S b14:=⟨hd14,f14.2⟩
  iterate 2 refine s1_ ?_
  refine ARun.store1 rfl rfl ty_size_51 rfl ((Mem.own_set_other _ _ hbb).trans hby2) (by show 1<2;decide) rfl ?_
  try simp only [k_ms,k_sz,k_ss,k_za,Nat.reduceAdd]
  iterate 2 refine s1_ ?_
  refine su_ [(0,_),(1,_),(4,_)] ?_
  iterate 6 refine s1_ ?_
  refine ⟨_,M S b (self b) (some (b14,c14)) (l ++ [x]),⟨_,_,rfl,rfl,rfl⟩,(by unfold M;show Mem.Less _ ((((((S.set g _).set b _).set b13 _).del g).set b14 _).set b _);rw [mem_eq5 hg.1.1 hgb hbb n13b n13g n14,show cellsB (l ++ [x])=cellsB l ++ cellsB [x] from List.map_append ..,show (l ++ [x]).length=l.length+1 from List.length_append];exact Mem.less_set _ _ _ ((Mem.own_set_other _ _ n13b).trans ((Mem.own_set_other _ _ (Ne.symm n14)).trans g13))),?_⟩
  exact ⟨rfl,self b,some (b14,c14),.inr rfl,⟨fun h=>(by cases h),fun g c e=>(by cases e;exact ⟨g14,by rw [List.length_append];exact hc14⟩)⟩,fun g' c' e=>(by cases e;exact ⟨hbb.symm,fun e=>(hne g c rfl).2 (List.append_eq_nil_iff.1 e).1⟩),rfl⟩
end Bl
end Go.Proofs.YtckloanlkpchoaaGreatDoor
namespace Go.Proofs.YtckloanlkpchoaaGreatDoor
namespace Pk
theorem A_succ {l : List It} {i : Nat} (h : i < l.length) : A l (i + 1) = A l i + if isL l[i] then 1 else 0 := by
 unfold A
 rw [List.take_succ_eq_append_getElem h,List.countP_append,List.countP_cons,List.countP_nil,Nat.zero_add]
theorem B_succ {l : List It} {i : Nat} (h : i < l.length) : B l (i + 1) = B l i + if isL l[i] then 0 else 1 := by
 unfold B
 rw [List.take_succ_eq_append_getElem h,List.countP_append,List.countP_cons,List.countP_nil,Nat.zero_add]
 congr 1
 cases isL l[i] <;> rfl
/-- The leaves come in their order. -/
theorem leaf_at {ws : List Nat} {l : List It} (h : l.filter isL = lvs ws 0 ws.length) {i : Nat} (hi : i < l.length) (hl : isL l[i] = true) : l[i].leaf = (A l i : Int) ∧ A l i < ws.length := by
 have h1:=(take_leaves h (i+1)).1
 have h2:=(take_leaves h (i+1)).2
 have h3:=(take_leaves h i).1
 have e:=A_succ hi
 rw [if_pos hl] at e
 rw [List.take_succ_eq_append_getElem hi,List.filter_append,h3,e] at h1
 have h4:lvs ws 0 (A l i+1)=lvs ws 0 (A l i) ++ [lf ws (A l i)]:=by
  unfold lvs
  rw [List.range'_concat,List.map_append]
  simp
 rw [h4,List.filter_cons_of_pos hl,List.filter_nil] at h1
 have h5:=List.append_cancel_left h1
 have h6:l[i]=lf ws (A l i):=by simpa using h5
 rw [h6]
 exact ⟨rfl,by omega⟩
/-- How many items of a level are looked at. -/
def nAt (ws : List Nat) (J m : Nat) : Nat → Nat
  | 0 => m
  | k + 1 => 2 * B (lev ws (J - k)) (nAt ws J m k)
/-- What is met in the first k rounds. -/
def cnK (ws : List Nat) (J m k : Nat) : List Nat := (List.range k).map fun k => A (lev ws (J - k)) (nAt ws J m k)
theorem nAt_succ (ws : List Nat) (J m : Nat) : ∀ k, nAt ws (J + 1) m (k + 1) = nAt ws J (2 * B (lev ws (J + 1)) m) k
 | 0=>rfl
 | k+1=>by
  show 2*B (lev ws (J+1-(k+1))) (nAt ws (J+1) m (k+1))=2*B (lev ws (J-k)) (nAt ws J _ k)
  rw [nAt_succ ws J m k,Nat.add_sub_add_right]
theorem cnts_eq (ws : List Nat) : ∀ J m, cnts ws J m = cnK ws J m (J + 1)
 | 0,m=>rfl
 | J+1,m=>by
  rw [cnts,cnts_eq ws J]
  unfold cnK
  rw [show (List.range (J+1+1))=0 :: (List.range (J+1)).map Nat.succ from List.range_succ_eq_map,List.map_cons,List.map_map]
  refine congrArg _ (List.map_congr_left fun k _=>?_)
  show _=A (lev ws (J+1-(k+1))) (nAt ws (J+1) m (k+1))
  rw [nAt_succ,Nat.add_sub_add_right]
theorem nAt_le (ws : List Nat) {J m : Nat} (h : m ≤ (lev ws J).length) : ∀ k, k ≤ J → nAt ws J m k ≤ (lev ws (J - k)).length
 | 0,_=>h
 | k+1,hk=>by
  have e:J-k=(J-(k+1))+1:=by omega
  show 2*B (lev ws (J-k)) (nAt ws J m k)≤_
  rw [e]
  have:=B_le ws (prs (lev ws (J-(k+1)))) (nAt ws J m k)
  rw [prs_length] at this
  have:B (lev ws (J-(k+1)+1)) (nAt ws J m k)≤(lev ws (J-(k+1))).length / 2:=this
  omega
theorem cnK_succ (ws : List Nat) (J m k : Nat) : cnK ws J m (k + 1) = cnK ws J m k ++ [A (lev ws (J - k)) (nAt ws J m k)] := by
 unfold cnK;rw [List.range_succ,List.map_append];rfl
theorem many_snoc (ys : List Nat) (a x : Nat) : many (ys ++ [a]) x = many ys x + if x < a then 1 else 0 := by
 unfold many
 rw [List.countP_append,List.countP_cons,List.countP_nil,Nat.zero_add]
 simp
/-- How often each leaf is met: in rounds that are over, and among the first i items of a level. -/
def tbC (n : Nat) (ys : List Nat) (a : Nat) : List Nat := (List.range n).map fun x => many ys x + if x < a then 1 else 0
theorem tbC_length (n : Nat) (ys : List Nat) (a : Nat) : (tbC n ys a).length = n := by unfold tbC; simp
theorem tbC_get {n : Nat} (ys : List Nat) (a : Nat) {x : Nat} (h : x < n) : (tbC n ys a).getD x 0 = many ys x + if x < a then 1 else 0 := by
 unfold tbC
 rw [List.getD_eq_getElem?_getD,List.getElem?_map,List.getElem?_range h];rfl
theorem tbC_zero (n : Nat) (ys : List Nat) : tbC n ys 0 = (List.range n).map (many ys) := by unfold tbC; simp
theorem tbC_snoc (n : Nat) (ys : List Nat) (a : Nat) : tbC n (ys ++ [a]) 0 = tbC n ys a := by
 rw [tbC_zero];unfold tbC
 exact List.map_congr_left fun x _=>many_snoc ys a x
theorem tbC_step {n : Nat} (ys : List Nat) {a : Nat} (h : a < n) : (tbC n ys a).set a (many ys a + 1) = tbC n ys (a + 1) := by
 refine List.ext_getElem (by rw [List.length_set,tbC_length,tbC_length]) fun x h1 h2=>?_
 have hx:x<n:=by rw [tbC_length] at h2;exact h2
 have e1:∀ b,∀ h:x<(tbC n ys b).length,(tbC n ys b)[x]=many ys x+if x<b then 1 else 0:=fun b h=>by simp [tbC]
 rw [List.getElem_set,e1,e1]
 by_cases e:a=x
 ·subst e;rw [if_pos rfl,if_pos (by omega)]
 ·rw [if_neg e]
  congr 1
  by_cases q:x<a
  ·rw [if_pos q,if_pos (by omega)]
  ·rw [if_neg q,if_neg (by omega)]
end Pk
end Go.Proofs.YtckloanlkpchoaaGreatDoor
namespace Go.Proofs.YtckloanlkpchoaaGreatDoor
open Go.Sort
namespace Sta
variable {α : Type} [Inhabited α]
theorem search_yes {p : Nat → Bool} {i j : Nat} (h : i < j) (hp : p ((i + j) / 2) = true) : search p ((i + j) / 2 + 1) j = search p i j := by
 rw [search.eq_def p i j,if_pos h,if_pos hp]
theorem search_no {p : Nat → Bool} {i j : Nat} (h : i < j) (hp : p ((i + j) / 2) = false) : search p i ((i + j) / 2) = search p i j := by
 rw [search.eq_def p i j,if_pos h,if_neg (by simp [hp])]
theorem search_end {p : Nat → Bool} {i j : Nat} (h : ¬ i < j) : i = search p i j := by
 rw [search,if_neg h]
theorem rot_eq (m i : Nat) (d : Array α) : swr (m - i) m i d = rotL m i i d := by rw [rotL, if_pos rfl]
theorem rot_gt {m i j : Nat} {d : Array α} (h : j < i) (hj : 0 < j) : rotL m (i - j) j (swr (m - i) m j d) = rotL m i j d := by
 rw [rotL.eq_def m i j d,if_neg (by omega),if_pos ⟨by omega,hj⟩,if_pos h]
theorem rot_lt {m i j : Nat} {d : Array α} (h : i < j) (hi : 0 < i) : rotL m i (j - i) (swr (m - i) (m + j - i) i d) = rotL m i j d := by
 rw [rotL.eq_def m i j d,if_neg (by omega),if_pos ⟨hi,by omega⟩,if_neg (by omega)]
theorem insB_go {lt : α → α → Bool} {n a : Nat} {d : Array α} (h : a + 20 ≤ n) : insB lt n (a + 20) (insertionSort lt d a (a + 20)) = insB lt n a d := by
 rw [insB.eq_def lt n a d,if_pos h]
theorem insB_end {lt : α → α → Bool} {n a : Nat} {d : Array α} (h : ¬ a + 20 ≤ n) : insertionSort lt d a n = insB lt n a d := by
 rw [insB,if_neg h]
theorem mergeP_go {lt : α → α → Bool} {n bs a : Nat} {d : Array α} (h : a + 2 * bs ≤ n) (hb : 0 < bs) : mergeP lt n bs (a + 2 * bs) (symM lt n d a (a + bs) (a + 2 * bs)) = mergeP lt n bs a d := by
 rw [mergeP.eq_def lt n bs a d,if_pos ⟨h,hb⟩]
theorem mergeP_last {lt : α → α → Bool} {n bs a : Nat} {d : Array α} (h : ¬ a + 2 * bs ≤ n) (h2 : a + bs < n) : symM lt n d a (a + bs) n = mergeP lt n bs a d := by
 rw [mergeP,if_neg (fun q=>h q.1),if_pos h2]
theorem mergeP_end {lt : α → α → Bool} {n bs a : Nat} {d : Array α} (h : ¬ a + 2 * bs ≤ n) (h2 : ¬ a + bs < n) : d = mergeP lt n bs a d := by
 rw [mergeP,if_neg (fun q=>h q.1),if_neg h2]
theorem stL_go {lt : α → α → Bool} {n bs : Nat} {d : Array α} (h : bs < n) (hb : 0 < bs) : stL lt n (2 * bs) (mergeP lt n bs 0 d) = stL lt n bs d := by
 rw [stL.eq_def lt n bs d,if_pos ⟨h,hb⟩]
theorem stL_end {lt : α → α → Bool} {n bs : Nat} {d : Array α} (h : ¬ bs < n) : d = stL lt n bs d := by
 rw [stL,if_neg (fun q=>h q.1)]
end Sta
end Go.Proofs.YtckloanlkpchoaaGreatDoor
namespace Go.Proofs.YtckloanlkpchoaaGreatDoor
open Go.RowKit
open Mv Srt Sta
open Go.Sort (swp insertionSort)
set_option maxRecDepth 4000
set_option maxHeartbeats 4000000 in
theorem soS_swr {α : Type} [Inhabited α] {enc : α → Value} {cf : α → α → Int} {okP : α → Prop} {g : Nat} {cb : List Value} {S : Mem} (C : CmpC Tryz.prog enc cf okP g cb S) (b room n cap : Nat) (hb : Fresh S b) (hn : n ≤ 1048576) (d : Array α) (R : Rw okP n d) (ia ie ik : Int) (a e k : Nat) (ha : ia = a) (he : ie = e) (hk : ik = k) (h1 : a + k ≤ n) (h2 : e + k ≤ n) (hne : a + k ≤ e) :
  ACall Tryz.prog 151 #[.slice (some ⟨b,0,none⟩) n cap,.int .i64 ia,.int .i64 ie,.int .i64 ik,.func (.func g) #[] cb.toArray] (S.set b ⟨3,(d).toList.map enc,room⟩) fun r S'=>S'=S.set b ⟨3,(swr a e k d).toList.map enc,room⟩∧Rw okP n (swr a e k d):=by
 subst ha he hk
 refine ACall.enter (rs:=[]) 38 [(0,.slice (some ⟨b,0,none⟩) n cap),(1,.int .i64 (a:Int)),(2,.int .i64 (e:Int)),(3,.int .i64 (k:Int)),(4,.func (.func g) #[] cb.toArray)] Tryz.func151 rfl rfl (Nat.le_of_ble_eq_true rfl) rfl ⟨rfl,rfl,rfl,rfl,rfl,trivial⟩ ?_
 iterate 5 refine s1_ ?_
 refine su_ [(0,_),(1,_),(2,_),(3,_),(10,_)] ?_
 refine s1_ ?_
 refine AWP.loop (X:=Nat × Array α) (fun x=>[(0,.slice (some ⟨b,0,none⟩) n cap),(1,.int .i64 ((a:Nat):Int)),(2,.int .i64 ((e:Nat):Int)),(3,.int .i64 ((k:Nat):Int)),(10,.int .i64 (x.1:Int))]) (fun x=>S.set b ⟨3,(x.2).toList.map enc,room⟩) (fun x=>x.1≤k∧Rw okP n x.2∧x.2=swr a e x.1 d) (fun x=>k-x.1) ((0,d)) ⟨sb_,sb_,sb_,sb_,sb_,trivial⟩ (Mem.Less.refl _) (⟨Nat.zero_le _,R,rfl⟩) ?_
 rintro ⟨i,d1⟩ ⟨h1,R1,h3⟩
 (try dsimp only at *)
 have z1:=R1.size
 by_cases hi:i<k
 ·iterate 8 refine s1_ ?_
  refine su_ [(0,_),(1,_),(2,_),(3,_),(10,_),(13,_)] ?_
  refine cT_ ?_
  iterate 4 refine s1_ ?_
  refine AWP.draw [(0,true),(1,true),(2,true),(3,true),(4,true),(5,true),(6,true),(7,true),(8,true),(9,true),(10,true),(11,true),(12,true),(13,true),(14,true),(15,true),(16,true),(17,true),(18,true),(19,true),(20,true),(21,false),(22,true),(23,false)] [21,23] mixed (by kernel_rfl) ?_
  iterate 13 refine s1_ ?_
  refine dC (hc:=Calm.load ty_plain_3 rfl (rd_row (k:=e+i) own_ rw_ rw_)) (h:=?_)
  iterate 5 refine s1_ ?_
  refine dC (hc:=Calm.load ty_plain_3 rfl (rd_row (k:=a+i) own_ rw_ rw_)) (h:=?_)
  refine s1_ ?_
  refine draw_only rfl ?_
  refine ARun.storeRow enc (a+i) rfl rfl ty_size_3 (C.one _) own_ rw_ rw_ ?_
  try simp only [k_ms,k_sz,k_ss,k_za,Nat.reduceAdd]
  refine arun_nil ⟨fun h=>absurd h (by decide),?_⟩
  refine s1_ ?_
  refine draw_only rfl ?_
  refine ARun.storeRow enc (e+i) rfl rfl ty_size_3 (C.one _) own_ rw_ rw_ ?_
  try simp only [k_ms,k_sz,k_ss,k_za,Nat.reduceAdd]
  refine arun_nil ⟨fun h=>absurd h (by decide),?_⟩
  iterate 3 refine s1_ ?_
  refine su_ [(0,_),(1,_),(2,_),(3,_),(10,_),(13,_)] ?_
  iterate 6 refine s1_ ?_
  refine ⟨(i+1,swp d1 (a+i) (e+i)),?_,?_,?_,?_⟩
  all_goals (try dsimp only)
  ·exact ⟨sb_,sb_,sb_,sb_,sb_,trivial⟩
  ·exact Mem.Less.refl _
  ·exact ⟨hi,R1.swp _ _ (by omega) (by omega),by rw [swr,← h3]⟩
  ·omega
 ·obtain rfl:i=k:=by omega
  iterate 8 refine s1_ ?_
  refine su_ [(0,_),(1,_),(2,_),(3,_),(10,_),(13,_)] ?_
  refine cF_ ?_
  iterate 4 refine s1_ ?_
  refine ⟨_,_,rfl,Mem.Less.refl _,?_⟩
  rw [← h3];exact ⟨rfl,R1⟩
set_option maxHeartbeats 4000000 in
theorem soS_rot {α : Type} [Inhabited α] {enc : α → Value} {cf : α → α → Int} {okP : α → Prop} {g : Nat} {cb : List Value} {S : Mem} (C : CmpC Tryz.prog enc cf okP g cb S) (b room n cap : Nat) (hb : Fresh S b) (hn : n ≤ 1048576) (d : Array α) (R : Rw okP n d) (is im ie : Int) (s m e : Nat) (hs : is = s) (hm : im = m) (he : ie = e) (h1 : s < m) (h2 : m < e) (h3 : e ≤ n) :
  ACall Tryz.prog 150 #[.slice (some ⟨b,0,none⟩) n cap,.int .i64 is,.int .i64 im,.int .i64 ie,.func (.func g) #[] cb.toArray] (S.set b ⟨3,(d).toList.map enc,room⟩) fun r S'=>S'=S.set b ⟨3,(rotL m (m-s) (e-m) d).toList.map enc,room⟩∧Rw okP n (rotL m (m-s) (e-m) d):=by
 subst hs hm he
 refine ACall.enter (rs:=[]) 58 [(0,.slice (some ⟨b,0,none⟩) n cap),(1,.int .i64 (s:Int)),(2,.int .i64 (m:Int)),(3,.int .i64 (e:Int)),(4,.func (.func g) #[] cb.toArray)] Tryz.func150 rfl rfl (Nat.le_of_ble_eq_true rfl) rfl ⟨rfl,rfl,rfl,rfl,rfl,trivial⟩ ?_
 iterate 8 refine s1_ ?_
 refine su_ [(0,_),(1,_),(2,_),(3,_),(4,_),(10,_)] ?_
 iterate 8 refine s1_ ?_
 refine su_ [(0,_),(1,_),(2,_),(3,_),(4,_),(10,_),(11,_)] ?_
 iterate 2 refine s1_ ?_
 refine AWP.loop (X:=Nat × Nat × Array α) (fun x=>[(0,.slice (some ⟨b,0,none⟩) n cap),(1,.int .i64 ((s:Nat):Int)),(2,.int .i64 ((m:Nat):Int)),(3,.int .i64 ((e:Nat):Int)),(4,.func (.func g) #[] cb.toArray),(10,.int .i64 (x.1:Int)),(11,.int .i64 (x.2.1:Int))]) (fun x=>S.set b ⟨3,(x.2.2).toList.map enc,room⟩) (fun x=>0<x.1∧0<x.2.1∧x.1≤m∧m+x.2.1≤n∧Rw okP n x.2.2∧rotL m x.1 x.2.1 x.2.2=rotL m (m-s) (e-m) d) (fun x=>x.1+x.2.1) ((m-s,e-m,d)) ⟨sb_,sb_,sb_,sb_,sb_,sb_,sb_,trivial⟩ (Mem.Less.refl _) (⟨by dsimp only;omega,by dsimp only;omega,by dsimp only;omega,by dsimp only;omega,R,rfl⟩) ?_
 rintro ⟨i,j,d1⟩ ⟨h1,h2,h3,h4,R1,h5⟩
 (try dsimp only at *)
 rcases Nat.lt_trichotomy i j with hij | hij | hij
 ·iterate 8 refine s1_ ?_
  refine su_ [(0,_),(1,_),(2,_),(3,_),(4,_),(10,_),(11,_),(20,_)] ?_
  refine cT_ ?_
  iterate 10 refine s1_ ?_
  refine su_ [(0,_),(1,_),(2,_),(3,_),(4,_),(10,_),(11,_),(20,_),(23,_)] ?_
  refine cF_ ?_
  iterate 13 refine s1_ ?_
  refine ca_ rfl (soS_swr C b room n cap hb hn d1 R1 _ _ _ (m-i) (m+j-i) i (by omega) (by omega) rfl (by omega) (by omega) (by omega)) ?_
  rintro _ _ ⟨rfl,R2⟩
  iterate 2 refine s1_ ?_
  refine su_ [(0,_),(1,_),(2,_),(3,_),(4,_),(10,_),(11,_),(20,_),(23,_)] ?_
  iterate 8 refine s1_ ?_
  refine ⟨(i,j-i,swr (m-i) (m+j-i) i d1),?_,?_,?_,?_⟩
  all_goals (try dsimp only)
  ·exact ⟨sb_,sb_,sb_,sb_,sb_,sb_,sb_,trivial⟩
  ·exact Mem.Less.refl _
  ·exact ⟨h1,by omega,h3,by omega,R2,by rw [rot_lt hij h1];exact h5⟩
  ·omega
 ·subst hij
  iterate 8 refine s1_ ?_
  refine su_ [(0,_),(1,_),(2,_),(3,_),(4,_),(10,_),(11,_),(20,_)] ?_
  refine cF_ ?_
  iterate 13 refine s1_ ?_
  refine ca_ rfl (soS_swr C b room n cap hb hn d1 R1 _ _ _ (m-i) m i (by omega) rfl rfl (by omega) (by omega) (by omega)) ?_
  rintro _ _ ⟨rfl,R2⟩
  rw [rot_eq,h5] at R2 ⊢
  refine s1_ ?_
  refine ⟨_,_,rfl,Mem.Less.refl _,?_⟩
  exact ⟨rfl,R2⟩
 ·iterate 8 refine s1_ ?_
  refine su_ [(0,_),(1,_),(2,_),(3,_),(4,_),(10,_),(11,_),(20,_)] ?_
  refine cT_ ?_
  iterate 10 refine s1_ ?_
  refine su_ [(0,_),(1,_),(2,_),(3,_),(4,_),(10,_),(11,_),(20,_),(23,_)] ?_
  refine cT_ ?_
  iterate 9 refine s1_ ?_
  refine ca_ rfl (soS_swr C b room n cap hb hn d1 R1 _ _ _ (m-i) m j (by omega) rfl rfl (by omega) (by omega) (by omega)) ?_
  rintro _ _ ⟨rfl,R2⟩
  iterate 2 refine s1_ ?_
  refine su_ [(0,_),(1,_),(2,_),(3,_),(4,_),(10,_),(11,_),(20,_),(23,_)] ?_
  iterate 8 refine s1_ ?_
  refine ⟨(i-j,j,swr (m-i) m j d1),?_,?_,?_,?_⟩
  all_goals (try dsimp only)
  ·exact ⟨sb_,sb_,sb_,sb_,sb_,sb_,sb_,trivial⟩
  ·exact Mem.Less.refl _
  ·exact ⟨by omega,h2,by omega,h4,R2,by rw [rot_gt hij h2];exact h5⟩
  ·omega
end Go.Proofs.YtckloanlkpchoaaGreatDoor
namespace Go.Proofs.YtckloanlkpchoaaGreatDoor
open Go.RowKit
open Mv Srt Sta
open Go.Sort (swp insertionSort)
set_option maxRecDepth 4000
theorem search_yh {p : Nat → Bool} {i j h : Nat} (hh : (i + j) / 2 = h) (hij : i < j) (hp : p h = true) : search p (h + 1) j = search p i j := by subst hh; exact search_yes hij hp
theorem search_nh {p : Nat → Bool} {i j h : Nat} (hh : (i + j) / 2 = h) (hij : i < j) (hp : p h = false) : search p i h = search p i j := by subst hh; exact search_no hij hp
theorem bin_valS {P : Program} {op : BinOp} {t : TypeId} {x y : Operand} {vx vy : Value} {k : IntKind} {a b : Int} (h : Bin P op t x y vx vy (.int k a)) (e : a = b) : Bin P op t x y vx vy (.int k b) := e ▸ h
theorem half_int {x y h : Nat} (e : (x + y) / 2 = h) : ((x : Int) + (y : Int)) / 2 ^ (1 : Int).toNat = ((h : Nat) : Int) := by
 have:(2:Int) ^ (1:Int).toNat=2:=rfl
 rw [this];omega
set_option maxHeartbeats 4000000 in
theorem soS_sym1 {α : Type} [Inhabited α] {enc : α → Value} {cf : α → α → Int} {okP : α → Prop} {g : Nat} {cb : List Value} {S : Mem} (C : CmpC Tryz.prog enc cf okP g cb S) (b room n cap : Nat) (hb : Fresh S b) (hn : n ≤ 1048576) (d : Array α) (R : Rw okP n d) (ia im ie : Int) (a m e : Nat) (ha : ia = a) (hm : im = m) (he : ie = e) (h1 : a < m) (h2 : m < e) (h3 : e ≤ n) (f : Nat) (q1 : m - a = 1) :
  ACall Tryz.prog 148 #[.slice (some ⟨b,0,none⟩) n cap,.int .i64 ia,.int .i64 im,.int .i64 ie,.func (.func g) #[] cb.toArray] (S.set b ⟨3,(d).toList.map enc,room⟩) fun r S'=>S'=S.set b ⟨3,(symM (lq cf) (f+1) d a m e).toList.map enc,room⟩∧Rw okP n (symM (lq cf) (f+1) d a m e):=by
 subst ha hm he
 have z0:=R.size
 refine ACall.enter (rs:=[]) 220 [(0,.slice (some ⟨b,0,none⟩) n cap),(1,.int .i64 (a:Int)),(2,.int .i64 (m:Int)),(3,.int .i64 (e:Int)),(4,.func (.func g) #[] cb.toArray)] Tryz.func148 rfl rfl (Nat.le_of_ble_eq_true rfl) rfl ⟨rfl,rfl,rfl,rfl,rfl,trivial⟩ ?_
 iterate 9 refine s1_ ?_
 refine su_ [(0,_),(1,_),(2,_),(3,_),(4,_),(28,_)] ?_
 refine cT_ ?_
 iterate 6 refine s1_ ?_
 refine su_ [(0,_),(1,_),(2,_),(3,_),(4,_),(28,_),(10,_)] ?_
 iterate 6 refine s1_ ?_
 refine su_ [(0,_),(1,_),(2,_),(3,_),(4,_),(28,_),(10,_),(11,_)] ?_
 iterate 2 refine s1_ ?_
 refine AWP.loop (X:=Nat × Nat) (fun x=>[(0,.slice (some ⟨b,0,none⟩) n cap),(1,.int .i64 ((a:Nat):Int)),(2,.int .i64 ((m:Nat):Int)),(3,.int .i64 ((e:Nat):Int)),(4,.func (.func g) #[] cb.toArray),(10,.int .i64 ((x.1:Nat):Int)),(11,.int .i64 ((x.2:Nat):Int))]) (fun x=>S.set b ⟨3,(d).toList.map enc,room⟩) (fun x=>m≤x.1∧x.1≤x.2∧x.2≤e∧search (fun h=>lq cf d[h]! d[a]!) x.1 x.2=search (fun h=>lq cf d[h]! d[a]!) (m) (e)) (fun x=>x.2-x.1) ((m,e)) ⟨sb_,sb_,sb_,sb_,sb_,sb_,sb_,trivial⟩ (Mem.Less.refl _) (⟨Nat.le_refl _,by dsimp only;omega,Nat.le_refl _,rfl⟩) ?_
 rintro ⟨x,y⟩ ⟨h1s,h1',h2s,h3s⟩
 (try dsimp only at *)
 by_cases hij:x<y
 ·iterate 8 refine s1_ ?_
  refine su_ [(0,_),(1,_),(2,_),(3,_),(4,_),(10,_),(11,_),(33,_)] ?_
  refine cT_ ?_
  obtain ⟨h,hh⟩ : ∃ h,(x+y) / 2=h:=⟨_,rfl⟩
  iterate 9 refine s1_ ?_
  refine rC (Calm.bin rfl rfl (bin_valS (bin_shr (by decide) (by decide)) (half_int hh))) ?_
  iterate 4 refine s1_ ?_
  refine su_ [(0,_),(1,_),(2,_),(3,_),(4,_),(10,_),(11,_),(33,_),(12,_)] ?_
  refine s1_ ?_
  refine AWP.draw [(0,true),(1,true),(2,true),(3,true),(4,true),(5,true),(6,true),(7,true),(8,true),(9,false),(10,true)] [] mixed (by kernel_rfl) ?_
  iterate 4 refine s1_ ?_
  refine dC (hc:=Calm.load ty_plain_3 rfl (rd_row (k:=h) own_ rw_ rw_)) (h:=?_)
  iterate 3 refine s1_ ?_
  refine dC (hc:=Calm.load ty_plain_3 rfl (rd_row (k:=a) own_ rw_ rw_)) (h:=?_)
  refine draw_only rfl ?_
  refine ARun.callV (first:=[]) (cap:=cb) (lit_lt rfl) C.go rfl rfl (C.call less_ (R.ok (h) rw_) (R.ok (a) rw_)) ?_
  rintro _ _ ⟨rfl,rfl⟩
  refine arun_nil ⟨fun _=>less_,?_⟩
  iterate 3 refine s1_ ?_
  refine su_ [(0,_),(1,_),(2,_),(3,_),(4,_),(10,_),(11,_),(33,_),(12,_),(50,_)] ?_
  refine AWP.condB rfl (fun hl=>?_) (fun hl=>?_)
  ·iterate 7 refine s1_ ?_
   refine ⟨(h+1,y),?_,?_,?_,?_⟩
   all_goals (try dsimp only)
   ·exact ⟨sb_,sb_,sb_,sb_,sb_,sb_,sb_,trivial⟩
   ·exact Mem.Less.refl _
   ·exact ⟨by omega,by omega,h2s,by rw [search_yh hh hij (by first | exact hl | simpa [lq] using hl)];exact h3s⟩
   ·omega
  ·iterate 6 refine s1_ ?_
   refine ⟨(x,h),?_,?_,?_,?_⟩
   all_goals (try dsimp only)
   ·exact ⟨sb_,sb_,sb_,sb_,sb_,sb_,sb_,trivial⟩
   ·exact Mem.Less.refl _
   ·exact ⟨h1s,by omega,by omega,by rw [search_nh hh hij (by first | exact hl | simpa [lq] using hl)];exact h3s⟩
   ·omega
 ·iterate 8 refine s1_ ?_
  refine su_ [(0,_),(1,_),(2,_),(3,_),(4,_),(10,_),(11,_),(33,_)] ?_
  refine cF_ ?_
  have hr:x=search (fun h=>lq cf d[h]! d[a]!) (m) (e):=(search_end hij).trans h3s
  obtain rfl:x=y:=by omega
  iterate 12 refine s1_ ?_
  refine su_ [(0,_),(1,_),(2,_),(3,_),(4,_),(10,_),(11,_),(33,_),(13,_)] ?_
  refine s1_ ?_
  refine AWP.loop (X:=Nat × Array α) (fun z=>[(0,.slice (some ⟨b,0,none⟩) n cap),(10,.int .i64 ((x:Nat):Int)),(13,.int .i64 ((a+z.1:Nat):Int))]) (fun z=>S.set b ⟨3,(z.2).toList.map enc,room⟩) (fun z=>z.1≤x-1-a∧Rw okP n z.2∧z.2=mvU a z.1 d) (fun z=>x-1-a-z.1) ((0,d)) ⟨sb_,sb_,sb_,trivial⟩ (Mem.Less.refl _) (⟨Nat.zero_le _,R,rfl⟩) ?_
  rintro ⟨t,d1⟩ ⟨k1,R1,k3⟩
  (try dsimp only at *)
  have z1:=R1.size
  by_cases hi:t<x-1-a
  ·iterate 9 refine s1_ ?_
   refine su_ [(0,_),(10,_),(13,_),(58,_)] ?_
   refine cT_ ?_
   iterate 4 refine s1_ ?_
   refine AWP.draw [(0,true),(1,true),(2,true),(3,true),(4,true),(5,true),(6,true),(7,true),(8,true),(9,true),(10,true),(11,true),(12,true),(13,true),(14,true),(15,false),(16,true),(17,false)] [15,17] mixed (by kernel_rfl) ?_
   iterate 9 refine s1_ ?_
   refine dC (hc:=Calm.load ty_plain_3 rfl (rd_row (k:=a+t+1) own_ rw_ rw_)) (h:=?_)
   iterate 3 refine s1_ ?_
   refine dC (hc:=Calm.load ty_plain_3 rfl (rd_row (k:=a+t) own_ rw_ rw_)) (h:=?_)
   refine s1_ ?_
   refine draw_only rfl ?_
   refine ARun.storeRow enc (a+t) rfl rfl ty_size_3 (C.one _) own_ rw_ rw_ ?_
   try simp only [k_ms,k_sz,k_ss,k_za,Nat.reduceAdd]
   refine arun_nil ⟨fun h=>absurd h (by decide),?_⟩
   refine s1_ ?_
   refine draw_only rfl ?_
   refine ARun.storeRow enc (a+t+1) rfl rfl ty_size_3 (C.one _) own_ rw_ rw_ ?_
   try simp only [k_ms,k_sz,k_ss,k_za,Nat.reduceAdd]
   refine arun_nil ⟨fun h=>absurd h (by decide),?_⟩
   iterate 3 refine s1_ ?_
   refine su_ [(0,_),(10,_),(13,_),(58,_)] ?_
   iterate 6 refine s1_ ?_
   refine ⟨(t+1,swp d1 (a+t) (a+t+1)),?_,?_,?_,?_⟩
   all_goals (try dsimp only)
   ·exact ⟨sb_,sb_,sb_,trivial⟩
   ·exact Mem.Less.refl _
   ·exact ⟨hi,R1.swp _ _ (by omega) (by omega),by rw [mvU,← k3]⟩
   ·omega
  ·obtain rfl:t=x-1-a:=by omega
   iterate 9 refine s1_ ?_
   refine su_ [(0,_),(10,_),(13,_),(58,_)] ?_
   refine cF_ ?_
   iterate 7 refine s1_ ?_
   refine ⟨_,_,rfl,Mem.Less.refl _,?_⟩
   rw [symM,if_pos q1,← hr,← k3];exact ⟨rfl,R1⟩
set_option maxHeartbeats 4000000 in
theorem soS_sym2 {α : Type} [Inhabited α] {enc : α → Value} {cf : α → α → Int} {okP : α → Prop} {g : Nat} {cb : List Value} {S : Mem} (C : CmpC Tryz.prog enc cf okP g cb S) (b room n cap : Nat) (hb : Fresh S b) (hn : n ≤ 1048576) (d : Array α) (R : Rw okP n d) (ia im ie : Int) (a m e : Nat) (ha : ia = a) (hm : im = m) (he : ie = e) (h1 : a < m) (h2 : m < e) (h3 : e ≤ n) (f : Nat) (q1 : ¬ m - a = 1) (q2 : e - m = 1) :
  ACall Tryz.prog 148 #[.slice (some ⟨b,0,none⟩) n cap,.int .i64 ia,.int .i64 im,.int .i64 ie,.func (.func g) #[] cb.toArray] (S.set b ⟨3,(d).toList.map enc,room⟩) fun r S'=>S'=S.set b ⟨3,(symM (lq cf) (f+1) d a m e).toList.map enc,room⟩∧Rw okP n (symM (lq cf) (f+1) d a m e):=by
 subst ha hm he
 have z0:=R.size
 refine ACall.enter (rs:=[]) 220 [(0,.slice (some ⟨b,0,none⟩) n cap),(1,.int .i64 (a:Int)),(2,.int .i64 (m:Int)),(3,.int .i64 (e:Int)),(4,.func (.func g) #[] cb.toArray)] Tryz.func148 rfl rfl (Nat.le_of_ble_eq_true rfl) rfl ⟨rfl,rfl,rfl,rfl,rfl,trivial⟩ ?_
 iterate 9 refine s1_ ?_
 refine su_ [(0,_),(1,_),(2,_),(3,_),(4,_),(28,_)] ?_
 refine cF_ ?_
 iterate 11 refine s1_ ?_
 refine su_ [(0,_),(1,_),(2,_),(3,_),(4,_),(28,_),(80,_)] ?_
 refine cT_ ?_
 iterate 6 refine s1_ ?_
 refine su_ [(0,_),(1,_),(2,_),(3,_),(4,_),(28,_),(80,_),(14,_)] ?_
 iterate 6 refine s1_ ?_
 refine su_ [(0,_),(1,_),(2,_),(3,_),(4,_),(28,_),(80,_),(14,_),(15,_)] ?_
 iterate 2 refine s1_ ?_
 refine AWP.loop (X:=Nat × Nat) (fun x=>[(0,.slice (some ⟨b,0,none⟩) n cap),(1,.int .i64 ((a:Nat):Int)),(2,.int .i64 ((m:Nat):Int)),(3,.int .i64 ((e:Nat):Int)),(4,.func (.func g) #[] cb.toArray),(14,.int .i64 ((x.1:Nat):Int)),(15,.int .i64 ((x.2:Nat):Int))]) (fun x=>S.set b ⟨3,(d).toList.map enc,room⟩) (fun x=>a≤x.1∧x.1≤x.2∧x.2≤m∧search (fun h=>!lq cf d[m]! d[h]!) x.1 x.2=search (fun h=>!lq cf d[m]! d[h]!) (a) (m)) (fun x=>x.2-x.1) ((a,m)) ⟨sb_,sb_,sb_,sb_,sb_,sb_,sb_,trivial⟩ (Mem.Less.refl _) (⟨Nat.le_refl _,by dsimp only;omega,Nat.le_refl _,rfl⟩) ?_
 rintro ⟨x,y⟩ ⟨h1s,h1',h2s,h3s⟩
 (try dsimp only at *)
 by_cases hij:x<y
 ·iterate 8 refine s1_ ?_
  refine su_ [(0,_),(1,_),(2,_),(3,_),(4,_),(14,_),(15,_),(85,_)] ?_
  refine cT_ ?_
  obtain ⟨h,hh⟩ : ∃ h,(x+y) / 2=h:=⟨_,rfl⟩
  iterate 9 refine s1_ ?_
  refine rC (Calm.bin rfl rfl (bin_valS (bin_shr (by decide) (by decide)) (half_int hh))) ?_
  iterate 4 refine s1_ ?_
  refine su_ [(0,_),(1,_),(2,_),(3,_),(4,_),(14,_),(15,_),(85,_),(16,_)] ?_
  refine s1_ ?_
  refine AWP.draw [(0,true),(1,true),(2,true),(3,true),(4,true),(5,true),(6,true),(7,true),(8,true),(9,false),(10,true),(11,true)] [] mixed (by kernel_rfl) ?_
  iterate 4 refine s1_ ?_
  refine dC (hc:=Calm.load ty_plain_3 rfl (rd_row (k:=m) own_ rw_ rw_)) (h:=?_)
  iterate 3 refine s1_ ?_
  refine dC (hc:=Calm.load ty_plain_3 rfl (rd_row (k:=h) own_ rw_ rw_)) (h:=?_)
  refine draw_only rfl ?_
  refine ARun.callV (first:=[]) (cap:=cb) (lit_lt rfl) C.go rfl rfl (C.call less_ (R.ok (m) rw_) (R.ok (h) rw_)) ?_
  rintro _ _ ⟨rfl,rfl⟩
  refine arun_nil ⟨fun _=>less_,?_⟩
  iterate 4 refine s1_ ?_
  refine su_ [(0,_),(1,_),(2,_),(3,_),(4,_),(14,_),(15,_),(85,_),(16,_),(103,_)] ?_
  refine AWP.condB rfl (fun hl=>?_) (fun hl=>?_)
  ·iterate 7 refine s1_ ?_
   refine ⟨(h+1,y),?_,?_,?_,?_⟩
   all_goals (try dsimp only)
   ·exact ⟨sb_,sb_,sb_,sb_,sb_,sb_,sb_,trivial⟩
   ·exact Mem.Less.refl _
   ·exact ⟨by omega,by omega,h2s,by rw [search_yh hh hij (by first | exact hl | simpa [lq] using hl)];exact h3s⟩
   ·omega
  ·iterate 6 refine s1_ ?_
   refine ⟨(x,h),?_,?_,?_,?_⟩
   all_goals (try dsimp only)
   ·exact ⟨sb_,sb_,sb_,sb_,sb_,sb_,sb_,trivial⟩
   ·exact Mem.Less.refl _
   ·exact ⟨h1s,by omega,by omega,by rw [search_nh hh hij (by first | exact hl | simpa [lq] using hl)];exact h3s⟩
   ·omega
 ·iterate 8 refine s1_ ?_
  refine su_ [(0,_),(1,_),(2,_),(3,_),(4,_),(14,_),(15,_),(85,_)] ?_
  refine cF_ ?_
  have hr:x=search (fun h=>!lq cf d[m]! d[h]!) (a) (m):=(search_end hij).trans h3s
  obtain rfl:x=y:=by omega
  iterate 12 refine s1_ ?_
  refine su_ [(0,_),(1,_),(2,_),(3,_),(4,_),(14,_),(15,_),(85,_),(17,_)] ?_
  refine s1_ ?_
  refine AWP.loop (X:=Nat × Array α) (fun z=>[(0,.slice (some ⟨b,0,none⟩) n cap),(14,.int .i64 ((x:Nat):Int)),(17,.int .i64 ((m-z.1:Nat):Int))]) (fun z=>S.set b ⟨3,(z.2).toList.map enc,room⟩) (fun z=>z.1≤m-x∧Rw okP n z.2∧z.2=mvD m z.1 d) (fun z=>m-x-z.1) ((0,d)) ⟨sb_,sb_,sb_,trivial⟩ (Mem.Less.refl _) (⟨Nat.zero_le _,R,rfl⟩) ?_
  rintro ⟨t,d1⟩ ⟨k1,R1,k3⟩
  (try dsimp only at *)
  have z1:=R1.size
  by_cases hi:t<m-x
  ·iterate 8 refine s1_ ?_
   refine su_ [(0,_),(14,_),(17,_),(110,_)] ?_
   refine cT_ ?_
   iterate 4 refine s1_ ?_
   refine AWP.draw [(0,true),(1,true),(2,true),(3,true),(4,true),(5,true),(6,true),(7,true),(8,true),(9,true),(10,true),(11,true),(12,true),(13,true),(14,true),(15,false),(16,true),(17,false)] [15,17] mixed (by kernel_rfl) ?_
   iterate 9 refine s1_ ?_
   refine dC (hc:=Calm.load ty_plain_3 rfl (rd_row (k:=m-t-1) own_ rw_ rw_)) (h:=?_)
   iterate 3 refine s1_ ?_
   refine dC (hc:=Calm.load ty_plain_3 rfl (rd_row (k:=m-t) own_ rw_ rw_)) (h:=?_)
   refine s1_ ?_
   refine draw_only rfl ?_
   refine ARun.storeRow enc (m-t) rfl rfl ty_size_3 (C.one _) own_ rw_ rw_ ?_
   try simp only [k_ms,k_sz,k_ss,k_za,Nat.reduceAdd]
   refine arun_nil ⟨fun h=>absurd h (by decide),?_⟩
   refine s1_ ?_
   refine draw_only rfl ?_
   refine ARun.storeRow enc (m-t-1) rfl rfl ty_size_3 (C.one _) own_ rw_ rw_ ?_
   try simp only [k_ms,k_sz,k_ss,k_za,Nat.reduceAdd]
   refine arun_nil ⟨fun h=>absurd h (by decide),?_⟩
   iterate 3 refine s1_ ?_
   refine su_ [(0,_),(14,_),(17,_),(110,_)] ?_
   iterate 6 refine s1_ ?_
   refine ⟨(t+1,swp d1 (m-t) (m-t-1)),?_,?_,?_,?_⟩
   all_goals (try dsimp only)
   ·exact ⟨sb_,sb_,sb_,trivial⟩
   ·exact Mem.Less.refl _
   ·exact ⟨hi,R1.swp _ _ (by omega) (by omega),by rw [mvD,← k3]⟩
   ·omega
  ·obtain rfl:t=m-x:=by omega
   iterate 8 refine s1_ ?_
   refine su_ [(0,_),(14,_),(17,_),(110,_)] ?_
   refine cF_ ?_
   iterate 7 refine s1_ ?_
   refine ⟨_,_,rfl,Mem.Less.refl _,?_⟩
   rw [symM,if_neg q1,if_pos q2,← hr,← k3];exact ⟨rfl,R1⟩
end Go.Proofs.YtckloanlkpchoaaGreatDoor
namespace Go.Proofs.YtckloanlkpchoaaGreatDoor
open Go.RowKit
open Mv Srt Sta
open Go.Sort (swp insertionSort)
set_option maxRecDepth 4000
set_option maxHeartbeats 8000000 in
theorem soS_sym {α : Type} [Inhabited α] {enc : α → Value} {cf : α → α → Int} {okP : α → Prop} {g : Nat} {cb : List Value} {S : Mem} (C : CmpC Tryz.prog enc cf okP g cb S) (b room n cap : Nat) (hb : Fresh S b) (hn : n ≤ 1048576) : ∀ (f : Nat) (d : Array α) (R : Rw okP n d) (ia im ie : Int) (a m e : Nat), ia = a → im = m → ie = e → e - a ≤ f → a < m → m < e → e ≤ n →
  ACall Tryz.prog 148 #[.slice (some ⟨b,0,none⟩) n cap,.int .i64 ia,.int .i64 im,.int .i64 ie,.func (.func g) #[] cb.toArray] (S.set b ⟨3,(d).toList.map enc,room⟩) fun r S'=>S'=S.set b ⟨3,(symM (lq cf) f d a m e).toList.map enc,room⟩∧Rw okP n (symM (lq cf) f d a m e)
 | 0,d,R,ia,im,ie,a,m,e,ha,hm,he,h0,h1,h2,h3=>by omega
 | f+1,d,R,ia,im,ie,a,m,e,ha,hm,he,h0,h1,h2,h3=>by
  by_cases q1:m-a=1
  ·exact soS_sym1 C b room n cap hb hn d R ia im ie a m e ha hm he h1 h2 h3 f q1
  by_cases q2:e-m=1
  ·exact soS_sym2 C b room n cap hb hn d R ia im ie a m e ha hm he h1 h2 h3 f q1 q2
  have ih:=soS_sym C b room n cap hb hn f
  subst ha hm he
  have z0:=R.size
  refine ACall.enter (rs:=[]) 220 [(0,.slice (some ⟨b,0,none⟩) n cap),(1,.int .i64 (a:Int)),(2,.int .i64 (m:Int)),(3,.int .i64 (e:Int)),(4,.func (.func g) #[] cb.toArray)] Tryz.func148 rfl rfl (Nat.le_of_ble_eq_true rfl) rfl ⟨rfl,rfl,rfl,rfl,rfl,trivial⟩ ?_
  iterate 9 refine s1_ ?_
  refine su_ [(0,_),(1,_),(2,_),(3,_),(4,_),(28,_)] ?_
  refine cF_ ?_
  iterate 11 refine s1_ ?_
  refine su_ [(0,_),(1,_),(2,_),(3,_),(4,_),(28,_),(80,_)] ?_
  refine cF_ ?_
  obtain ⟨c,hc⟩ : ∃ c,(a+e) / 2=c:=⟨_,rfl⟩
  iterate 8 refine s1_ ?_
  refine rC (Calm.bin rfl rfl (bin_valS (bin_shr (by decide) (by decide)) (half_int hc))) ?_
  iterate 4 refine s1_ ?_
  refine su_ [(0,_),(1,_),(2,_),(3,_),(4,_),(28,_),(80,_),(18,_)] ?_
  obtain ⟨lo,hlo⟩ : ∃ lo,(if c<m then c+m-e else a)=lo:=⟨_,rfl⟩
  obtain ⟨hi,hhi⟩ : ∃ hi,(if c<m then c else m)=hi:=⟨_,rfl⟩
  have hfacts:a≤lo∧lo≤hi∧hi≤m∧hi≤c∧c+m≤lo+e:=by rw [← hlo,← hhi];split <;> omega
  iterate 8 refine s1_ ?_
  refine su_ [(0,_),(1,_),(2,_),(3,_),(4,_),(28,_),(80,_),(18,_),(19,_)] ?_
  iterate 14 refine s1_ ?_
  refine su_ [(0,_),(1,_),(2,_),(3,_),(4,_),(28,_),(80,_),(18,_),(19,_),(20,_),(21,_),(140,_)] ?_
  refine AWP.join (X:=Unit) (fun _=>[(0,.slice (some ⟨b,0,none⟩) n cap),(1,.int .i64 ((a:Nat):Int)),(2,.int .i64 ((m:Nat):Int)),(3,.int .i64 ((e:Nat):Int)),(4,.func (.func g) #[] cb.toArray),(18,.int .i64 ((c:Nat):Int)),(19,.int .i64 ((c+m:Nat):Int)),(20,.int .i64 ((lo:Nat):Int)),(21,.int .i64 ((hi:Nat):Int))]) (fun _=>S.set b ⟨3,(d).toList.map enc,room⟩) (fun _=>e≤n) ?_ ?_
  ·by_cases qm:c<m
   ·rw [if_pos qm] at hlo hhi
    refine cT_ ?_
    iterate 8 refine s1_ ?_
    refine su_ [(0,_),(1,_),(2,_),(3,_),(4,_),(28,_),(80,_),(18,_),(19,_),(20,_),(21,_),(140,_)] ?_
    iterate 4 refine s1_ ?_
    refine ⟨(),?_,?_,?_⟩
    all_goals (try dsimp only)
    ·exact h3
    ·exact ⟨sb_,sb_,sb_,sb_,sb_,sb_,sb_,sb_,sb_,trivial⟩
    ·exact Mem.Less.refl _
   ·rw [if_neg qm] at hlo hhi
    refine cF_ ?_
    iterate 6 refine s1_ ?_
    refine su_ [(0,_),(1,_),(2,_),(3,_),(4,_),(28,_),(80,_),(18,_),(19,_),(20,_),(21,_),(140,_)] ?_
    iterate 4 refine s1_ ?_
    refine ⟨(),?_,?_,?_⟩
    all_goals (try dsimp only)
    ·exact h3
    ·exact ⟨sb_,sb_,sb_,sb_,sb_,sb_,sb_,sb_,sb_,trivial⟩
    ·exact Mem.Less.refl _
  rintro _ _
  intro _ _ hs_ hl_
  (try dsimp only at *)
  refine athen_n ?_
  refine AWP.sub _ hs_ (AWP.less _ hl_ ?_)
  clear hs_ hl_
  iterate 7 refine s1_ ?_
  refine su_ [(0,_),(1,_),(2,_),(3,_),(4,_),(18,_),(19,_),(20,_),(21,_),(22,_)] ?_
  iterate 2 refine s1_ ?_
  refine AWP.loop (X:=Nat × Nat) (fun x=>[(0,.slice (some ⟨b,0,none⟩) n cap),(1,.int .i64 ((a:Nat):Int)),(2,.int .i64 ((m:Nat):Int)),(3,.int .i64 ((e:Nat):Int)),(4,.func (.func g) #[] cb.toArray),(18,.int .i64 ((c:Nat):Int)),(19,.int .i64 ((c+m:Nat):Int)),(22,.int .i64 ((c+m-1:Nat):Int)),(20,.int .i64 ((x.1:Nat):Int)),(21,.int .i64 ((x.2:Nat):Int))]) (fun x=>S.set b ⟨3,(d).toList.map enc,room⟩) (fun x=>lo≤x.1∧x.1≤x.2∧x.2≤hi∧search (fun x=>!lq cf d[c+m-1-x]! d[x]!) x.1 x.2=search (fun x=>!lq cf d[c+m-1-x]! d[x]!) (lo) (hi)) (fun x=>x.2-x.1) ((lo,hi)) ⟨sb_,sb_,sb_,sb_,sb_,sb_,sb_,sb_,sb_,sb_,trivial⟩ (Mem.Less.refl _) (⟨Nat.le_refl _,by dsimp only;omega,Nat.le_refl _,rfl⟩) ?_
  rintro ⟨x,y⟩ ⟨h1s,h1',h2s,h3s⟩
  (try dsimp only at *)
  by_cases hij:x<y
  ·iterate 8 refine s1_ ?_
   refine su_ [(0,_),(1,_),(2,_),(3,_),(4,_),(18,_),(19,_),(22,_),(20,_),(21,_),(151,_)] ?_
   refine cT_ ?_
   obtain ⟨h,hh⟩ : ∃ h,(x+y) / 2=h:=⟨_,rfl⟩
   iterate 9 refine s1_ ?_
   refine rC (Calm.bin rfl rfl (bin_valS (bin_shr (by decide) (by decide)) (half_int hh))) ?_
   iterate 4 refine s1_ ?_
   refine su_ [(0,_),(1,_),(2,_),(3,_),(4,_),(18,_),(19,_),(22,_),(20,_),(21,_),(151,_),(23,_)] ?_
   refine s1_ ?_
   refine AWP.draw [(0,true),(1,true),(2,true),(3,true),(4,true),(5,true),(6,true),(7,true),(8,true),(9,true),(10,true),(11,false),(12,true),(13,true)] [] mixed (by kernel_rfl) ?_
   iterate 6 refine s1_ ?_
   refine dC (hc:=Calm.load ty_plain_3 rfl (rd_row (k:=c+m-1-h) own_ rw_ rw_)) (h:=?_)
   iterate 3 refine s1_ ?_
   refine dC (hc:=Calm.load ty_plain_3 rfl (rd_row (k:=h) own_ rw_ rw_)) (h:=?_)
   refine draw_only rfl ?_
   refine ARun.callV (first:=[]) (cap:=cb) (lit_lt rfl) C.go rfl rfl (C.call less_ (R.ok (c+m-1-h) rw_) (R.ok (h) rw_)) ?_
   rintro _ _ ⟨rfl,rfl⟩
   refine arun_nil ⟨fun _=>less_,?_⟩
   iterate 4 refine s1_ ?_
   refine su_ [(0,_),(1,_),(2,_),(3,_),(4,_),(18,_),(19,_),(22,_),(20,_),(21,_),(151,_),(23,_),(171,_)] ?_
   refine AWP.condB rfl (fun hl=>?_) (fun hl=>?_)
   ·iterate 7 refine s1_ ?_
    refine ⟨(h+1,y),?_,?_,?_,?_⟩
    all_goals (try dsimp only)
    ·exact ⟨sb_,sb_,sb_,sb_,sb_,sb_,sb_,sb_,sb_,sb_,trivial⟩
    ·exact Mem.Less.refl _
    ·exact ⟨by omega,by omega,h2s,by rw [search_yh hh hij (by first | exact hl | simpa [lq] using hl)];exact h3s⟩
    ·omega
   ·iterate 6 refine s1_ ?_
    refine ⟨(x,h),?_,?_,?_,?_⟩
    all_goals (try dsimp only)
    ·exact ⟨sb_,sb_,sb_,sb_,sb_,sb_,sb_,sb_,sb_,sb_,trivial⟩
    ·exact Mem.Less.refl _
    ·exact ⟨h1s,by omega,by omega,by rw [search_nh hh hij (by first | exact hl | simpa [lq] using hl)];exact h3s⟩
    ·omega
  ·iterate 8 refine s1_ ?_
   refine su_ [(0,_),(1,_),(2,_),(3,_),(4,_),(18,_),(19,_),(22,_),(20,_),(21,_),(151,_)] ?_
   refine cF_ ?_
   have hr:x=search (fun x=>!lq cf d[c+m-1-x]! d[x]!) (lo) (hi):=(search_end hij).trans h3s
   obtain rfl:x=y:=by omega
   have hcut:cut (lq cf) d a m e=x:=by unfold cut;rw [hc,hlo,hhi];exact hr.symm
   obtain ⟨d1,hd1⟩ : ∃ d1,(if x<m∧m<c+m-x then rotL m (m-x) (c+m-x-m) d else d)=d1:=⟨_,rfl⟩
   obtain ⟨d2,hd2⟩ : ∃ d2,(if a<x∧x<c then symM (lq cf) f d1 a x c else d1)=d2:=⟨_,rfl⟩
   obtain ⟨d3,hd3⟩ : ∃ d3,(if c<c+m-x∧c+m-x<e then symM (lq cf) f d2 c (c+m-x) e else d2)=d3:=⟨_,rfl⟩
   have hfin:symM (lq cf) (f+1) d a m e=d3:=by rw [symM,if_neg q1,if_neg q2];simp only;rw [hcut,hc];unfold rotM;rw [hd1,hd2];exact hd3
   clear hcut
   iterate 13 refine s1_ ?_
   refine su_ [(0,_),(1,_),(2,_),(3,_),(4,_),(18,_),(19,_),(22,_),(20,_),(21,_),(151,_),(24,_)] ?_
   iterate 2 refine s1_ ?_
   refine AWP.join (X:=Unit) (fun _=>[(0,.slice (some ⟨b,0,none⟩) n cap),(1,.int .i64 ((a:Nat):Int)),(2,.int .i64 ((m:Nat):Int)),(3,.int .i64 ((e:Nat):Int)),(4,.func (.func g) #[] cb.toArray),(18,.int .i64 ((c:Nat):Int)),(20,.int .i64 ((x:Nat):Int)),(24,.int .i64 ((c+m-x:Nat):Int)),(185,.bool (decide (x<m∧m<c+m-x)))]) (fun _=>S.set b ⟨3,(d).toList.map enc,room⟩) (fun _=>e≤n) ?_ ?_
   ·by_cases u1:x<m
    ·by_cases u2:m<c+m-x
     ·iterate 10 refine s1_ ?_
      refine ⟨(),?_,?_,?_⟩
      all_goals (try dsimp only)
      ·exact h3
      ·exact ⟨sb_,sb_,sb_,sb_,sb_,sb_,sb_,sb_,(by rw [decide_eq_true ⟨u1,u2⟩];rfl),trivial⟩
      ·exact Mem.Less.refl _
     ·iterate 10 refine s1_ ?_
      refine ⟨(),?_,?_,?_⟩
      all_goals (try dsimp only)
      ·exact h3
      ·exact ⟨sb_,sb_,sb_,sb_,sb_,sb_,sb_,sb_,(by rw [decide_eq_false (fun h=>u2 h.2)];rfl),trivial⟩
      ·exact Mem.Less.refl _
    ·iterate 10 refine s1_ ?_
     refine ⟨(),?_,?_,?_⟩
     all_goals (try dsimp only)
     ·exact h3
     ·exact ⟨sb_,sb_,sb_,sb_,sb_,sb_,sb_,sb_,(by rw [decide_eq_false (fun h=>u1 h.1)];rfl),trivial⟩
     ·exact Mem.Less.refl _
   rintro _ _
   intro _ _ hs_ hl_
   (try dsimp only at *)
   refine athen_n ?_
   refine AWP.sub _ hs_ (AWP.less _ hl_ ?_)
   clear hs_ hl_
   refine AWP.join (X:=Unit) (fun _=>[(0,.slice (some ⟨b,0,none⟩) n cap),(1,.int .i64 ((a:Nat):Int)),(2,.int .i64 ((m:Nat):Int)),(3,.int .i64 ((e:Nat):Int)),(4,.func (.func g) #[] cb.toArray),(18,.int .i64 ((c:Nat):Int)),(20,.int .i64 ((x:Nat):Int)),(24,.int .i64 ((c+m-x:Nat):Int))]) (fun _=>S.set b ⟨3,(d1).toList.map enc,room⟩) (fun _=>Rw okP n d1) ?_ ?_
   ·by_cases u:x<m∧m<c+m-x
    ·rw [decide_eq_true u]
     refine cT_ ?_
     iterate 6 refine s1_ ?_
     refine ca_ rfl (soS_rot C b room n cap hb hn d R _ _ _ x m (c+m-x) rfl rfl rfl (by omega) (by omega) (by omega)) ?_
     rintro _ _ ⟨rfl,R2⟩
     rw [if_pos u] at hd1
     rw [hd1] at R2 ⊢
     refine s1_ ?_
     refine ⟨(),?_,?_,?_⟩
     all_goals (try dsimp only)
     ·exact R2
     ·exact ⟨sb_,sb_,sb_,sb_,sb_,sb_,sb_,sb_,trivial⟩
     ·exact Mem.Less.refl _
    ·rw [decide_eq_false u]
     refine cF_ ?_
     rw [if_neg u] at hd1
     subst hd1
     refine s1_ ?_
     refine ⟨(),?_,?_,?_⟩
     all_goals (try dsimp only)
     ·exact R
     ·exact ⟨sb_,sb_,sb_,sb_,sb_,sb_,sb_,sb_,trivial⟩
     ·exact Mem.Less.refl _
   rintro _ R1
   intro _ _ hs_ hl_
   (try dsimp only at *)
   refine athen_n ?_
   refine AWP.sub _ hs_ (AWP.less _ hl_ ?_)
   clear hs_ hl_
   iterate 2 refine s1_ ?_
   refine AWP.join (X:=Unit) (fun _=>[(0,.slice (some ⟨b,0,none⟩) n cap),(1,.int .i64 ((a:Nat):Int)),(2,.int .i64 ((m:Nat):Int)),(3,.int .i64 ((e:Nat):Int)),(4,.func (.func g) #[] cb.toArray),(18,.int .i64 ((c:Nat):Int)),(20,.int .i64 ((x:Nat):Int)),(24,.int .i64 ((c+m-x:Nat):Int)),(199,.bool (decide (a<x∧x<c)))]) (fun _=>S.set b ⟨3,(d1).toList.map enc,room⟩) (fun _=>e≤n) ?_ ?_
   ·by_cases u1:a<x
    ·by_cases u2:x<c
     ·iterate 10 refine s1_ ?_
      refine ⟨(),?_,?_,?_⟩
      all_goals (try dsimp only)
      ·exact h3
      ·exact ⟨sb_,sb_,sb_,sb_,sb_,sb_,sb_,sb_,(by rw [decide_eq_true ⟨u1,u2⟩];rfl),trivial⟩
      ·exact Mem.Less.refl _
     ·iterate 10 refine s1_ ?_
      refine ⟨(),?_,?_,?_⟩
      all_goals (try dsimp only)
      ·exact h3
      ·exact ⟨sb_,sb_,sb_,sb_,sb_,sb_,sb_,sb_,(by rw [decide_eq_false (fun h=>u2 h.2)];rfl),trivial⟩
      ·exact Mem.Less.refl _
    ·iterate 10 refine s1_ ?_
     refine ⟨(),?_,?_,?_⟩
     all_goals (try dsimp only)
     ·exact h3
     ·exact ⟨sb_,sb_,sb_,sb_,sb_,sb_,sb_,sb_,(by rw [decide_eq_false (fun h=>u1 h.1)];rfl),trivial⟩
     ·exact Mem.Less.refl _
   rintro _ _
   intro _ _ hs_ hl_
   (try dsimp only at *)
   refine athen_n ?_
   refine AWP.sub _ hs_ (AWP.less _ hl_ ?_)
   clear hs_ hl_
   refine AWP.join (X:=Unit) (fun _=>[(0,.slice (some ⟨b,0,none⟩) n cap),(1,.int .i64 ((a:Nat):Int)),(2,.int .i64 ((m:Nat):Int)),(3,.int .i64 ((e:Nat):Int)),(4,.func (.func g) #[] cb.toArray),(18,.int .i64 ((c:Nat):Int)),(20,.int .i64 ((x:Nat):Int)),(24,.int .i64 ((c+m-x:Nat):Int))]) (fun _=>S.set b ⟨3,(d2).toList.map enc,room⟩) (fun _=>Rw okP n d2) ?_ ?_
   ·by_cases u:a<x∧x<c
    ·rw [decide_eq_true u]
     refine cT_ ?_
     iterate 6 refine s1_ ?_
     refine ca_ rfl (ih d1 R1 _ _ _ a x c rfl rfl rfl (by omega) (by omega) (by omega) (by omega)) ?_
     rintro _ _ ⟨rfl,R2⟩
     rw [if_pos u] at hd2
     rw [hd2] at R2 ⊢
     refine s1_ ?_
     refine ⟨(),?_,?_,?_⟩
     all_goals (try dsimp only)
     ·exact R2
     ·exact ⟨sb_,sb_,sb_,sb_,sb_,sb_,sb_,sb_,trivial⟩
     ·exact Mem.Less.refl _
    ·rw [decide_eq_false u]
     refine cF_ ?_
     rw [if_neg u] at hd2
     subst hd2
     refine s1_ ?_
     refine ⟨(),?_,?_,?_⟩
     all_goals (try dsimp only)
     ·exact R1
     ·exact ⟨sb_,sb_,sb_,sb_,sb_,sb_,sb_,sb_,trivial⟩
     ·exact Mem.Less.refl _
   rintro _ R3
   intro _ _ hs_ hl_
   (try dsimp only at *)
   refine athen_n ?_
   refine AWP.sub _ hs_ (AWP.less _ hl_ ?_)
   clear hs_ hl_
   refine s1_ ?_
   refine AWP.join (X:=Unit) (fun _=>[(0,.slice (some ⟨b,0,none⟩) n cap),(1,.int .i64 ((a:Nat):Int)),(2,.int .i64 ((m:Nat):Int)),(3,.int .i64 ((e:Nat):Int)),(4,.func (.func g) #[] cb.toArray),(18,.int .i64 ((c:Nat):Int)),(20,.int .i64 ((x:Nat):Int)),(24,.int .i64 ((c+m-x:Nat):Int)),(213,.bool (decide (c<c+m-x∧c+m-x<e)))]) (fun _=>S.set b ⟨3,(d2).toList.map enc,room⟩) (fun _=>e≤n) ?_ ?_
   ·by_cases u1:c<c+m-x
    ·by_cases u2:c+m-x<e
     ·iterate 10 refine s1_ ?_
      refine ⟨(),?_,?_,?_⟩
      all_goals (try dsimp only)
      ·exact h3
      ·exact ⟨sb_,sb_,sb_,sb_,sb_,sb_,sb_,sb_,(by rw [decide_eq_true ⟨u1,u2⟩];rfl),trivial⟩
      ·exact Mem.Less.refl _
     ·iterate 10 refine s1_ ?_
      refine ⟨(),?_,?_,?_⟩
      all_goals (try dsimp only)
      ·exact h3
      ·exact ⟨sb_,sb_,sb_,sb_,sb_,sb_,sb_,sb_,(by rw [decide_eq_false (fun h=>u2 h.2)];rfl),trivial⟩
      ·exact Mem.Less.refl _
    ·iterate 10 refine s1_ ?_
     refine ⟨(),?_,?_,?_⟩
     all_goals (try dsimp only)
     ·exact h3
     ·exact ⟨sb_,sb_,sb_,sb_,sb_,sb_,sb_,sb_,(by rw [decide_eq_false (fun h=>u1 h.1)];rfl),trivial⟩
     ·exact Mem.Less.refl _
   rintro _ _
   intro _ _ hs_ hl_
   (try dsimp only at *)
   refine athen_n ?_
   refine AWP.sub _ hs_ (AWP.less _ hl_ ?_)
   clear hs_ hl_
   by_cases u:c<c+m-x∧c+m-x<e
   ·rw [decide_eq_true u]
    refine cT_ ?_
    iterate 6 refine s1_ ?_
    refine ca_ rfl (ih d2 R3 _ _ _ c (c+m-x) e rfl rfl rfl (by omega) (by omega) (by omega) h3) ?_
    rintro _ _ ⟨rfl,R4⟩
    rw [if_pos u] at hd3
    rw [hd3] at R4 ⊢
    refine s1_ ?_
    refine ⟨_,_,rfl,Mem.Less.refl _,?_⟩
    rw [hfin];exact ⟨rfl,R4⟩
   ·rw [decide_eq_false u]
    refine cF_ ?_
    rw [if_neg u] at hd3
    subst hd3
    refine s1_ ?_
    refine ⟨_,_,rfl,Mem.Less.refl _,?_⟩
    rw [hfin];exact ⟨rfl,R3⟩
end Go.Proofs.YtckloanlkpchoaaGreatDoor
namespace Go.Proofs.YtckloanlkpchoaaGreatDoor
open Go.RowKit
open Mv Srt Sta
open Go.Sort (swp insertionSort)
set_option maxRecDepth 4000
set_option maxHeartbeats 8000000 in
theorem soS_stableC {α : Type} [Inhabited α] {enc : α → Value} {cf : α → α → Int} {okP : α → Prop} {g : Nat} {cb : List Value} {S : Mem} (C : CmpC Tryz.prog enc cf okP g cb S) (b room n cap : Nat) (hb : Fresh S b) (hn : n ≤ 1048576) (d : Array α) (R : Rw okP n d) :
  ACall Tryz.prog 139 #[.slice (some ⟨b,0,none⟩) n cap,.int .i64 (n:Int),.func (.func g) #[] cb.toArray] (S.set b ⟨3,(d).toList.map enc,room⟩) fun r S'=>S'=S.set b ⟨3,(stable (lq cf) d n).toList.map enc,room⟩∧Rw okP n (stable (lq cf) d n):=by
 refine ACall.enter (rs:=[]) 63 [(0,.slice (some ⟨b,0,none⟩) n cap),(1,.int .i64 (n:Int)),(2,.func (.func g) #[] cb.toArray)] Tryz.func139 rfl rfl (Nat.le_of_ble_eq_true rfl) rfl ⟨rfl,rfl,rfl,trivial⟩ ?_
 iterate 12 refine s1_ ?_
 refine su_ [(0,_),(1,_),(2,_),(6,_),(7,_),(8,_)] ?_
 iterate 2 refine s1_ ?_
 refine AWP.loop (X:=Nat × Array α) (fun x=>[(0,.slice (some ⟨b,0,none⟩) n cap),(1,.int .i64 (n:Int)),(2,.func (.func g) #[] cb.toArray),(6,.int .i64 20),(7,.int .i64 ((x.1:Nat):Int)),(8,.int .i64 ((x.1+20:Nat):Int))]) (fun x=>S.set b ⟨3,(x.2).toList.map enc,room⟩) (fun x=>x.1≤n∧Rw okP n x.2∧insB (lq cf) n x.1 x.2=insB (lq cf) n 0 d) (fun x=>n-x.1) ((0,d)) ⟨sb_,sb_,sb_,sb_,sb_,sb_,trivial⟩ (Mem.Less.refl _) (⟨Nat.zero_le _,R,rfl⟩) ?_
 rintro ⟨a,d1⟩ ⟨k1,R1,k3⟩
 (try dsimp only at *)
 by_cases q:a+20≤n
 ·iterate 8 refine s1_ ?_
  refine su_ [(0,_),(1,_),(2,_),(6,_),(7,_),(8,_),(13,_)] ?_
  refine cT_ ?_
  iterate 9 refine s1_ ?_
  refine ca_ rfl (soC_ins C b room n cap hb hn d1 R1 _ _ a (a+20) rfl rfl (by omega) q) ?_
  rintro _ _ ⟨rfl,R2⟩
  iterate 2 refine s1_ ?_
  refine su_ [(0,_),(1,_),(2,_),(6,_),(7,_),(8,_),(13,_)] ?_
  iterate 6 refine s1_ ?_
  refine su_ [(0,_),(1,_),(2,_),(6,_),(7,_),(8,_),(13,_)] ?_
  iterate 8 refine s1_ ?_
  refine ⟨(a+20,insertionSort (lq cf) d1 a (a+20)),?_,?_,?_,?_⟩
  all_goals (try dsimp only)
  ·exact ⟨sb_,sb_,sb_,sb_,sb_,sb_,trivial⟩
  ·exact Mem.Less.refl _
  ·exact ⟨q,R2,by rw [insB_go q];exact k3⟩
  ·omega
 ·iterate 8 refine s1_ ?_
  refine su_ [(0,_),(1,_),(2,_),(6,_),(7,_),(8,_),(13,_)] ?_
  refine cF_ ?_
  iterate 11 refine s1_ ?_
  refine ca_ rfl (soC_ins C b room n cap hb hn d1 R1 _ _ a n rfl rfl k1 (Nat.le_refl _)) ?_
  rintro _ _ ⟨rfl,R2⟩
  rw [insB_end q,k3] at R2 ⊢
  have hst:stL (lq cf) n 20 (insB (lq cf) n 0 d)=stable (lq cf) d n:=rfl
  generalize insB (lq cf) n 0 d=e0 at *
  iterate 2 refine s1_ ?_
  refine su_ [(0,_),(1,_),(2,_),(6,_),(7,_),(8,_),(13,_)] ?_
  refine s1_ ?_
  refine AWP.loop (X:=Nat × Array α) (fun x=>[(0,.slice (some ⟨b,0,none⟩) n cap),(1,.int .i64 (n:Int)),(2,.func (.func g) #[] cb.toArray),(6,.int .i64 ((x.1:Nat):Int))]) (fun x=>S.set b ⟨3,(x.2).toList.map enc,room⟩) (fun x=>0<x.1∧x.1≤2*n+20∧Rw okP n x.2∧stL (lq cf) n x.1 x.2=stable (lq cf) d n) (fun x=>n-x.1) ((20,e0)) ⟨sb_,sb_,sb_,sb_,trivial⟩ (Mem.Less.refl _) (⟨show 0<20 by decide,by dsimp only;omega,R2,hst⟩) ?_
  rintro ⟨bs,d2⟩ ⟨l1,l2,R3,l3⟩
  (try dsimp only at *)
  by_cases qb:bs<n
  ·iterate 8 refine s1_ ?_
   refine su_ [(0,_),(1,_),(2,_),(6,_),(30,_)] ?_
   refine cT_ ?_
   iterate 11 refine s1_ ?_
   refine su_ [(0,_),(1,_),(2,_),(6,_),(30,_),(7,_),(8,_)] ?_
   iterate 2 refine s1_ ?_
   refine AWP.loop (X:=Nat × Array α) (fun x=>[(0,.slice (some ⟨b,0,none⟩) n cap),(1,.int .i64 (n:Int)),(2,.func (.func g) #[] cb.toArray),(6,.int .i64 ((bs:Nat):Int)),(7,.int .i64 ((x.1:Nat):Int)),(8,.int .i64 ((x.1+2*bs:Nat):Int))]) (fun x=>S.set b ⟨3,(x.2).toList.map enc,room⟩) (fun x=>x.1≤n∧Rw okP n x.2∧mergeP (lq cf) n bs x.1 x.2=mergeP (lq cf) n bs 0 d2) (fun x=>n-x.1) ((0,d2)) ⟨sb_,sb_,sb_,sb_,sb_,sb_,trivial⟩ (Mem.Less.refl _) (⟨Nat.zero_le _,R3,rfl⟩) ?_
   rintro ⟨a2,d3⟩ ⟨m1,R4,m3⟩
   (try dsimp only at *)
   by_cases q2:a2+2*bs≤n
   ·iterate 8 refine s1_ ?_
    refine su_ [(0,_),(1,_),(2,_),(6,_),(7,_),(8,_),(35,_)] ?_
    refine cT_ ?_
    iterate 12 refine s1_ ?_
    refine ca_ rfl (soS_sym C b room n cap hb hn n d3 R4 _ _ _ a2 (a2+bs) (a2+2*bs) rfl rfl rfl (by omega) (by omega) (by omega) q2) ?_
    rintro _ _ ⟨rfl,R5⟩
    iterate 2 refine s1_ ?_
    refine su_ [(0,_),(1,_),(2,_),(6,_),(7,_),(8,_),(35,_)] ?_
    iterate 6 refine s1_ ?_
    refine su_ [(0,_),(1,_),(2,_),(6,_),(7,_),(8,_),(35,_)] ?_
    iterate 9 refine s1_ ?_
    refine ⟨(a2+2*bs,symM (lq cf) n d3 a2 (a2+bs) (a2+2*bs)),?_,?_,?_,?_⟩
    all_goals (try dsimp only)
    ·exact ⟨sb_,sb_,sb_,sb_,sb_,sb_,trivial⟩
    ·exact Mem.Less.refl _
    ·exact ⟨q2,R5,by rw [mergeP_go q2 l1];exact m3⟩
    ·omega
   ·iterate 8 refine s1_ ?_
    refine su_ [(0,_),(1,_),(2,_),(6,_),(7,_),(8,_),(35,_)] ?_
    refine cF_ ?_
    by_cases q3:a2+bs<n
    ·iterate 14 refine s1_ ?_
     refine su_ [(0,_),(1,_),(2,_),(6,_),(7,_),(8,_),(35,_),(9,_)] ?_
     iterate 7 refine s1_ ?_
     refine su_ [(0,_),(1,_),(2,_),(6,_),(7,_),(8,_),(35,_),(9,_),(54,_)] ?_
     refine cT_ ?_
     iterate 6 refine s1_ ?_
     refine ca_ rfl (soS_sym C b room n cap hb hn n d3 R4 _ _ _ a2 (a2+bs) n rfl rfl rfl (by omega) (by omega) q3 (Nat.le_refl _)) ?_
     rintro _ _ ⟨rfl,R5⟩
     rw [mergeP_last q2 q3,m3] at R5 ⊢
     iterate 2 refine s1_ ?_
     refine su_ [(0,_),(1,_),(2,_),(6,_),(7,_),(8,_),(35,_),(9,_),(54,_)] ?_
     iterate 7 refine s1_ ?_
     refine ⟨(2*bs,mergeP (lq cf) n bs 0 d2),?_,?_,?_,?_⟩
     all_goals (try dsimp only)
     ·exact ⟨sb_,sb_,sb_,sb_,trivial⟩
     ·exact Mem.Less.refl _
     ·exact ⟨by omega,by omega,R5,by rw [stL_go qb l1];exact l3⟩
     ·omega
    ·iterate 14 refine s1_ ?_
     refine su_ [(0,_),(1,_),(2,_),(6,_),(7,_),(8,_),(35,_),(9,_)] ?_
     iterate 7 refine s1_ ?_
     refine su_ [(0,_),(1,_),(2,_),(6,_),(7,_),(8,_),(35,_),(9,_),(54,_)] ?_
     refine cF_ ?_
     have hmd:d3=mergeP (lq cf) n bs 0 d2:=(mergeP_end q2 q3).trans m3
     rw [hmd] at R4 ⊢
     iterate 9 refine s1_ ?_
     refine ⟨(2*bs,mergeP (lq cf) n bs 0 d2),?_,?_,?_,?_⟩
     all_goals (try dsimp only)
     ·exact ⟨sb_,sb_,sb_,sb_,trivial⟩
     ·exact Mem.Less.refl _
     ·exact ⟨by omega,by omega,R4,by rw [stL_go qb l1];exact l3⟩
     ·omega
  ·iterate 8 refine s1_ ?_
   refine su_ [(0,_),(1,_),(2,_),(6,_),(30,_)] ?_
   refine cF_ ?_
   have hfd:d2=stable (lq cf) d n:=(stL_end qb).trans l3
   rw [hfd] at R3 ⊢
   iterate 4 refine s1_ ?_
   refine ⟨_,_,rfl,Mem.Less.refl _,?_⟩
   exact ⟨rfl,R3⟩
theorem soS_stable {α : Type} [Inhabited α] {enc : α → Value} {cf : α → α → Int} {okP : α → Prop} {g : Nat} {cb : List Value} {S : Mem} (C : CmpC Tryz.prog enc cf okP g cb S) (b room n cap : Nat) (hb : Fresh S b) (hn : n ≤ 1048576) (d : Array α) (R : Rw okP n d) :
  ACall Tryz.prog 118 #[.slice (some ⟨b,0,none⟩) n cap,.func (.func g) #[] cb.toArray] (S.set b ⟨3,(d).toList.map enc,room⟩) fun r S'=>S'=S.set b ⟨3,(stable (lq cf) d n).toList.map enc,room⟩∧Rw okP n (stable (lq cf) d n):=by
 refine ACall.enter (rs:=[]) 9 [(0,.slice (some ⟨b,0,none⟩) n cap),(1,.func (.func g) #[] cb.toArray)] Tryz.func118 rfl rfl (Nat.le_of_ble_eq_true rfl) rfl ⟨rfl,rfl,trivial⟩ ?_
 iterate 5 refine s1_ ?_
 refine ca_ rfl (soS_stableC C b room n cap hb hn d R) ?_
 rintro _ _ ⟨rfl,R1⟩
 refine s1_ ?_
 refine ⟨_,_,rfl,Mem.Less.refl _,?_⟩
 exact ⟨rfl,R1⟩
end Go.Proofs.YtckloanlkpchoaaGreatDoor
