/-
  Texts that belong together: Sort3OU, OdFU, Od4, Od5, SortOB.
-/
import Derived.Test.YtgidjbpgkeemiaaBOr4
set_option linter.unusedVariables false
set_option linter.unusedSimpArgs false
set_option linter.unusedSectionVars false
namespace Go.Proofs.Ytgidjbpgkeemiaa
open Go.RowKit
open Mv Srt
open Go.Sort (swp insInner insOuter insertionSort siftDown heapBuild heapPop heapSort scanUp scanDown partLoop partition partEqLoop partitionEqual scanSorted shiftDown shiftUp partialIns partialInsertionSort order2 median medianAdjacent choosePivot reverseLoop reverseRange breakStep breakPatterns pdq bitsLen xorNext Hint)
set_option maxRecDepth 4000
set_option maxHeartbeats 8000000 in
theorem soU_pdq {S : Mem} (b room n cap : Nat) (hb : Fresh S b) (hn : n ≤ 1048576) : ∀ (m : Nat) (d : Array Nat) (R : Rw (fun _ => True) n d) (ia ie il : Int) (a e limit : Nat), ia = a → ie = e → il = limit → a ≤ e → e ≤ n → limit ≤ 1000 → e - a = m →
  ACall Try.prog 159 #[.slice (some ⟨b,0,none⟩) n cap,.int .i64 ia,.int .i64 ie,.int .i64 il] (S.set b ⟨41,(d).toList.map encU,room⟩) fun r S'=>S'=S.set b ⟨41,(pdq ltN d a e limit true true).toList.map encU,room⟩∧Rw (fun _=>True) n (pdq ltN d a e limit true true):=by
 intro m
 induction m using Nat.strongRecOn with
 | _ m ih =>
 intro d R ia ie il a e limit ha he hl hae hen hlim hm
 subst ha he hl
 refine ACall.enter (rs:=[]) 134 [(0,.slice (some ⟨b,0,none⟩) n cap),(1,.int .i64 a),(2,.int .i64 e),(3,.int .i64 limit)] Try.func159 rfl rfl (Nat.le_of_ble_eq_true rfl) rfl ⟨rfl,rfl,rfl,rfl,trivial⟩ ?_
 refine k_a (k_e rfl (k_a (k_e rfl ?_)))
 refine AWP.block ?_
 refine AWP.loop (X:=Nat × Nat × Nat × Bool × Bool × Array Nat) (fun x=>[(0,.slice (some ⟨b,0,none⟩) n cap),(1,.int .i64 x.1),(2,.int .i64 x.2.1),(3,.int .i64 x.2.2.1),(8,.bool x.2.2.2.1),(9,.bool x.2.2.2.2.1)]) (fun x=>S.set b ⟨41,(x.2.2.2.2.2).toList.map encU,room⟩) (fun x=>x.1≤x.2.1∧x.2.1≤e∧Rw (fun _=>True) n x.2.2.2.2.2∧x.2.1-x.1≤m∧x.2.2.1≤limit∧pdq ltN x.2.2.2.2.2 x.1 x.2.1 x.2.2.1 x.2.2.2.1 x.2.2.2.2.1=pdq ltN d a e limit true true) (fun x=>x.2.1-x.1) ((a,e,limit,true,true,d)) ⟨sb_,sb_,sb_,sb_,sb_,sb_,trivial⟩ (Mem.Less.refl _) (⟨hae,Nat.le_refl _,R,by dsimp only;omega,Nat.le_refl _,rfl⟩) ?_
 rintro ⟨a1,e1,l1,w1,w2,d0⟩ ⟨h1,h2,R0,h4,h5,hq⟩
 (try dsimp only at *)
 have z0:=R0.size
 by_cases h12:e1-a1≤12
 ·refine AWP.block ?_
  refine k_a (k_m rfl (k_m rfl ?_))
  refine rC (Calm.bin rfl rfl b_sub_i64) ?_
  refine k_e rfl ?_
  refine k_u [(0,_),(1,_),(2,_),(3,_),(8,_),(9,_),(10,_)] ?_
  refine AWP.seq (k_a (k_m rfl ?_))
  refine rC (Calm.bin rfl rfl b_leq) ?_
  refine k_n ?_
  refine k_u [(0,_),(1,_),(2,_),(3,_),(8,_),(9,_),(10,_),(23,_)] ?_
  refine k_T rfl ?_
  refine k_a (k_m rfl (k_m rfl (k_m rfl ?_)))
  refine ARun.call (lit_lt rfl) go_183 rfl (soU_ins b room n cap hb hn d0 R0 _ _ a1 e1 rfl rfl (by omega) (by omega)) ?_
  rintro _ _ ⟨rfl,R1⟩
  refine k_n ?_
  refine k_u [(0,_),(1,_),(2,_),(3,_),(8,_),(9,_),(10,_),(23,_)] ?_
  refine k_r ?_
  refine ain_ret ?_
  refine athen_ret ?_
  refine ain_ret ?_
  refine ⟨_,_,rfl,Mem.Less.refl _,?_⟩
  rw [← hq,pdq_ins ltN h12];exact ⟨rfl,R1⟩
 ·refine AWP.block ?_
  refine k_a (k_m rfl (k_m rfl ?_))
  refine rC (Calm.bin rfl rfl b_sub_i64) ?_
  refine k_e rfl ?_
  refine k_u [(0,_),(1,_),(2,_),(3,_),(8,_),(9,_),(10,_)] ?_
  refine AWP.seq (k_a (k_m rfl ?_))
  refine rC (Calm.bin rfl rfl b_leq) ?_
  refine k_n ?_
  refine k_u [(0,_),(1,_),(2,_),(3,_),(8,_),(9,_),(10,_),(23,_)] ?_
  refine k_F rfl ?_
  by_cases hl0:l1=0
  ·refine k_k (AWP.seq (k_a (k_m rfl ?_)))
   refine rC (Calm.bin rfl rfl b_eql) ?_
   refine k_n ?_
   refine k_u [(0,_),(1,_),(2,_),(3,_),(8,_),(9,_),(10,_),(23,_),(29,_)] ?_
   refine k_T rfl ?_
   refine k_a (k_m rfl (k_m rfl (k_m rfl ?_)))
   refine ARun.call (lit_lt rfl) go_184 rfl (soU_heap b room n cap hb hn d0 R0 _ _ a1 e1 rfl rfl (by omega) (by omega)) ?_
   rintro _ _ ⟨rfl,R1⟩
   refine k_n ?_
   refine k_u [(0,_),(1,_),(2,_),(3,_),(8,_),(9,_),(10,_),(23,_),(29,_)] ?_
   refine k_r ?_
   refine ain_ret ?_
   refine athen_ret ?_
   refine ain_ret ?_
   refine ⟨_,_,rfl,Mem.Less.refl _,?_⟩
   rw [← hq,pdq_heap ltN h12 hl0];exact ⟨rfl,R1⟩
  ·refine k_k (AWP.seq (k_a (k_m rfl ?_)))
   refine rC (Calm.bin rfl rfl b_eql) ?_
   refine k_n ?_
   refine k_u [(0,_),(1,_),(2,_),(3,_),(8,_),(9,_),(10,_),(23,_),(29,_)] ?_
   refine k_F rfl ?_
   rw [pdq_1 ltN h12 hl0] at hq
   refine k_k (AWP.seq (k_a (k_m rfl ?_)))
   refine rC (Calm.un rfl (una_not _)) ?_
   refine k_n ?_
   refine k_u [(0,_),(1,_),(2,_),(3,_),(8,_),(9,_),(10,_),(23,_),(29,_),(35,_)] ?_
   refine AWP.join (X:=Nat × Array Nat) (fun x=>[(0,.slice (some ⟨b,0,none⟩) n cap),(1,.int .i64 a1),(2,.int .i64 e1),(3,.int .i64 x.1),(8,.bool w1),(9,.bool w2),(10,.int .i64 ((e1-a1:Nat):Int))]) (fun x=>S.set b ⟨41,(x.2).toList.map encU,room⟩) (fun x=>x.1≤l1∧Rw (fun _=>True) n x.2∧pdq1 ltN x.2 a1 e1 x.1 w1 w2=pdq ltN d a e limit true true) ?_ ?_
   ·cases w1
    ·refine k_T rfl ?_
     refine k_a (k_m rfl (k_m rfl (k_m rfl ?_)))
     refine ARun.call (lit_lt rfl) go_185 rfl (soU_brk b room n cap hb hn d0 R0 _ _ a1 e1 rfl rfl (by omega) (by omega)) ?_
     rintro _ _ ⟨rfl,R1⟩
     refine k_n ?_
     refine k_u [(0,_),(1,_),(2,_),(3,_),(8,_),(9,_),(10,_),(23,_),(29,_),(35,_)] ?_
     refine AWP.region ?_
     refine k_m rfl ?_
     refine rC (Calm.bin rfl rfl b_sub_i64) ?_
     refine k_s rfl ?_
     refine arun_nil ?_
     refine ⟨(l1-1,breakPatterns d0 a1 e1),?_,?_,?_⟩
     all_goals (try dsimp only)
     ·exact ⟨by omega,R1,hq⟩
     ·exact ⟨sb_,sb_,sb_,sb_,sb_,sb_,sb_,trivial⟩
     ·exact Mem.Less.refl _
    ·refine k_F rfl ?_
     refine AWP.skip ?_
     refine ⟨(l1,d0),?_,?_,?_⟩
     all_goals (try dsimp only)
     ·exact ⟨Nat.le_refl _,R0,hq⟩
     ·exact ⟨sb_,sb_,sb_,sb_,sb_,sb_,sb_,trivial⟩
     ·exact Mem.Less.refl _
   rintro ⟨l2,d1⟩ ⟨k1,R1,hq⟩
   intro _ _ hs_ hl_
   (try dsimp only at *)
   refine athen_n ?_
   refine AWP.sub _ hs_ (AWP.less _ hl_ ?_)
   clear hs_ hl_
   have z1:=R1.size
   obtain ⟨⟨p0,ht⟩,hpc⟩ : ∃ q,q=choosePivot ltN d1 a1 e1:=⟨_,rfl⟩
   refine k_a (k_m rfl (k_m rfl (k_m rfl ?_)))
   refine ARun.call (lit_lt rfl) go_186 rfl ((hpc ▸ soU_pivot b room n cap hb hn d1 R1 _ _ a1 e1 rfl rfl (by omega) (by omega))) ?_
   rintro _ _ ⟨rfl,rfl,g1,g2⟩
   dsimp only at g1 g2
   rw [pdq1,← hpc] at hq
   dsimp only at hq
   refine k_m rfl ?_
   refine rC (Calm.extract rfl rfl) ?_
   refine rC (Calm.extract rfl rfl) ?_
   refine k_s rfl (k_e rfl ?_)
   refine k_u [(0,_),(1,_),(2,_),(3,_),(8,_),(9,_),(10,_),(11,_),(12,_)] ?_
   refine AWP.seq (k_a (k_m rfl ?_))
   refine rC (Calm.bin rfl rfl b_eql) ?_
   refine k_n ?_
   refine k_u [(0,_),(1,_),(2,_),(3,_),(8,_),(9,_),(10,_),(11,_),(12,_),(50,_)] ?_
   refine AWP.join (X:=Nat × Hint × Array Nat) (fun x=>[(0,.slice (some ⟨b,0,none⟩) n cap),(1,.int .i64 a1),(2,.int .i64 e1),(3,.int .i64 l2),(8,.bool w1),(9,.bool w2),(10,.int .i64 ((e1-a1:Nat):Int)),(11,.int .i64 x.1),(12,.int .i64 (hintI x.2.1))]) (fun x=>S.set b ⟨41,(x.2.2).toList.map encU,room⟩) (fun x=>a1≤x.1∧x.1<e1∧Rw (fun _=>True) n x.2.2∧pdq2 ltN x.2.2 a1 e1 l2 w1 w2 x.1 x.2.1=pdq ltN d a e limit true true) ?_ ?_
   ·by_cases hde:ht = .decreasing
    ·subst hde
     refine k_T rfl ?_
     refine k_a (k_m rfl (k_m rfl (k_m rfl ?_)))
     refine ARun.call (lit_lt rfl) go_187 rfl (soU_rev b room n cap hb hn d1 R1 _ _ a1 e1 rfl rfl (by omega) (by omega)) ?_
     rintro _ _ ⟨rfl,R2⟩
     refine k_n ?_
     refine k_u [(0,_),(1,_),(2,_),(3,_),(8,_),(9,_),(10,_),(11,_),(12,_),(50,_)] ?_
     refine k_a (k_m rfl ?_)
     refine rC (Calm.bin rfl rfl b_sub_i64) ?_
     refine k_m rfl (k_m rfl ?_)
     refine rC (Calm.bin rfl rfl b_sub_i64) ?_
     refine rC (Calm.bin rfl rfl b_sub_i64) ?_
     refine k_e rfl ?_
     refine k_u [(0,_),(1,_),(2,_),(3,_),(8,_),(9,_),(10,_),(11,_),(12,_),(50,_)] ?_
     refine AWP.region ?_
     refine k_s rfl ?_
     refine arun_nil ?_
     refine ⟨(e1-1-(p0-a1),.increasing,reverseRange d1 a1 e1),?_,?_,?_⟩
     all_goals (try dsimp only)
     ·exact ⟨by omega,by omega,R2,by rw [if_pos rfl] at hq;exact hq⟩
     ·exact ⟨sb_,sb_,sb_,sb_,sb_,sb_,sb_,sb_,sb_,trivial⟩
     ·exact Mem.Less.refl _
    ·have hni:=hint_ne hde
     refine k_F rfl ?_
     refine AWP.skip ?_
     refine ⟨(p0,ht,d1),?_,?_,?_⟩
     all_goals (try dsimp only)
     ·exact ⟨g1,g2,R1,by rw [if_neg hde] at hq;exact hq⟩
     ·exact ⟨sb_,sb_,sb_,sb_,sb_,sb_,sb_,sb_,sb_,trivial⟩
     ·exact Mem.Less.refl _
   rintro ⟨pv,hi,d2⟩ ⟨g1,g2,R2,hq⟩
   intro _ _ hs_ hl_
   (try dsimp only at *)
   refine athen_n ?_
   refine AWP.sub _ hs_ (AWP.less _ hl_ ?_)
   clear hs_ hl_
   have z2:=R2.size
   have hh1:=hint_1 hi
   refine AWP.seq (AWP.seq ?_)
   refine AWP.join (X:=Bool) (fun x=>[(0,.slice (some ⟨b,0,none⟩) n cap),(1,.int .i64 a1),(2,.int .i64 e1),(3,.int .i64 l2),(8,.bool w1),(9,.bool w2),(10,.int .i64 ((e1-a1:Nat):Int)),(11,.int .i64 pv),(68,.bool x)]) (fun x=>S.set b ⟨41,(d2).toList.map encU,room⟩) (fun x=>x=(w1 && w2 && decide (hi = .increasing))) ?_ ?_
   ·cases w1
    ·refine AWP.region ?_
     refine k_m rfl (k_m rfl ?_)
     first|refine k_q 62 ?_|refine rG 62 (Calm.move rfl) ?_
     first|refine k_t rfl rfl ?_|refine k_f rfl rfl ?_
     refine k_m rfl ?_
     first|refine k_q 65 ?_|refine rG 65 (Calm.move rfl) ?_
     first|refine k_q 65 ?_|refine rG 65 (Calm.bin rfl rfl b_eql) ?_
     first|refine k_t rfl rfl ?_|refine k_f rfl rfl ?_
     refine arun_nil ?_
     refine ⟨false,?_,?_,?_⟩
     all_goals (try dsimp only)
     ·rfl
     ·exact ⟨sb_,sb_,sb_,sb_,sb_,sb_,sb_,sb_,sb_,trivial⟩
     ·exact Mem.Less.refl _
    ·cases w2
     ·refine AWP.region ?_
      refine k_m rfl (k_m rfl ?_)
      first|refine k_q 62 ?_|refine rG 62 (Calm.move rfl) ?_
      first|refine k_t rfl rfl ?_|refine k_f rfl rfl ?_
      refine k_m rfl ?_
      first|refine k_q 65 ?_|refine rG 65 (Calm.move rfl) ?_
      first|refine k_q 65 ?_|refine rG 65 (Calm.bin rfl rfl b_eql) ?_
      first|refine k_t rfl rfl ?_|refine k_f rfl rfl ?_
      refine arun_nil ?_
      refine ⟨false,?_,?_,?_⟩
      all_goals (try dsimp only)
      ·rfl
      ·exact ⟨sb_,sb_,sb_,sb_,sb_,sb_,sb_,sb_,sb_,trivial⟩
      ·exact Mem.Less.refl _
     ·refine AWP.region ?_
      refine k_m rfl (k_m rfl ?_)
      first|refine k_q 62 ?_|refine rG 62 (Calm.move rfl) ?_
      first|refine k_t rfl rfl ?_|refine k_f rfl rfl ?_
      refine k_m rfl ?_
      first|refine k_q 65 ?_|refine rG 65 (Calm.move rfl) ?_
      first|refine k_q 65 ?_|refine rG 65 (Calm.bin rfl rfl (bin_bool (bin_eql _ _) hh1)) ?_
      first|refine k_t rfl rfl ?_|refine k_f rfl rfl ?_
      refine arun_nil ?_
      refine ⟨(decide (hi = .increasing)),?_,?_,?_⟩
      all_goals (try dsimp only)
      ·simp
      ·exact ⟨sb_,sb_,sb_,sb_,sb_,sb_,sb_,sb_,sb_,trivial⟩
      ·exact Mem.Less.refl _
   rintro x hx
   intro _ _ hs_ hl_
   (try dsimp only at *)
   refine athen_n ?_
   refine AWP.sub _ hs_ (AWP.less _ hl_ ?_)
   clear hs_ hl_
   rw [pdq2,← hx] at hq
   refine AWP.join (X:=Array Nat) (fun x=>[(0,.slice (some ⟨b,0,none⟩) n cap),(1,.int .i64 a1),(2,.int .i64 e1),(3,.int .i64 l2),(8,.bool w1),(9,.bool w2),(10,.int .i64 ((e1-a1:Nat):Int)),(11,.int .i64 pv)]) (fun x=>S.set b ⟨41,(x).toList.map encU,room⟩) (fun x=>Rw (fun _=>True) n x∧pdq3 ltN x a1 e1 l2 w1 w2 pv=pdq ltN d a e limit true true) ?_ ?_
   ·cases x
    ·refine k_F rfl ?_
     refine AWP.skip ?_
     refine ⟨d2,?_,?_,?_⟩
     all_goals (try dsimp only)
     ·exact ⟨R2,hq⟩
     ·exact ⟨sb_,sb_,sb_,sb_,sb_,sb_,sb_,sb_,trivial⟩
     ·exact Mem.Less.refl _
    ·refine k_T rfl ?_
     obtain ⟨⟨d3,pb⟩,hp3⟩ : ∃ q,q=partialInsertionSort ltN d2 a1 e1:=⟨_,rfl⟩
     rw [if_pos rfl,← hp3] at hq
     dsimp only at hq
     refine k_a (k_m rfl (k_m rfl (k_m rfl ?_)))
     refine ARun.call (lit_lt rfl) go_188 rfl ((hp3 ▸ soU_pins b room n cap hb hn d2 R2 _ _ a1 e1 rfl rfl (by omega) (by omega))) ?_
     rintro _ _ ⟨rfl,rfl,R3⟩
     refine k_n ?_
     refine k_u [(0,_),(1,_),(2,_),(3,_),(8,_),(9,_),(10,_),(11,_),(68,_),(72,_)] ?_
     cases pb
     ·refine k_F rfl ?_
      refine AWP.skip ?_
      refine ⟨d3,?_,?_,?_⟩
      all_goals (try dsimp only)
      ·exact ⟨R3,hq⟩
      ·exact ⟨sb_,sb_,sb_,sb_,sb_,sb_,sb_,sb_,trivial⟩
      ·exact Mem.Less.refl _
     ·refine k_T rfl ?_
      refine AWP.ret ?_
      refine join_ret ?_
      refine athen_ret ?_
      refine ain_ret ?_
      refine athen_ret ?_
      refine ain_ret ?_
      refine ⟨_,_,rfl,Mem.Less.refl _,?_⟩
      rw [← hq];exact ⟨rfl,R3⟩
   rintro d3 ⟨R3,hq⟩
   intro _ _ hs_ hl_
   (try dsimp only at *)
   refine athen_n ?_
   refine AWP.sub _ hs_ (AWP.less _ hl_ ?_)
   clear hs_ hl_
   clear hx
   have z3:=R3.size
   refine AWP.seq (AWP.seq ?_)
   refine AWP.join (X:=Bool) (fun x=>[(0,.slice (some ⟨b,0,none⟩) n cap),(1,.int .i64 a1),(2,.int .i64 e1),(3,.int .i64 l2),(8,.bool w1),(9,.bool w2),(10,.int .i64 ((e1-a1:Nat):Int)),(11,.int .i64 pv),(87,.bool x)]) (fun x=>S.set b ⟨41,(d3).toList.map encU,room⟩) (fun x=>x=(decide (a1 > 0) && !ltN d3[a1-1]! d3[pv]!)) ?_ ?_
   ·by_cases h0:0<a1
    ·refine AWP.draw [(0,true),(1,true),(2,true),(3,true),(4,true),(5,true),(6,true),(7,true),(8,true),(9,true),(10,true),(11,true),(12,false),(13,true),(14,true)] [] mixed (by kernel_rfl) ?_
     refine dP (hc:=fun _=>Calm.move rfl) (h:=?_)
     refine dP (hc:=fun _=>Calm.bin rfl rfl b_gtr) (h:=?_)
     refine dP (hc:=fun _=>Calm.move rfl) (h:=?_)
     first|refine k_d ?_|refine dG (hc:=fun _=>Calm.move rfl) (h:=?_)
     first|refine k_d ?_|refine dG (hc:=fun _=>Calm.move rfl) (h:=?_)
     first|refine k_d ?_|refine dG (hc:=fun _=>Calm.bin rfl rfl b_sub_i64) (h:=?_)
     first|refine k_d ?_|refine dG (hc:=fun _=>Calm.indexS Try.underlying22 ty_size_41 rfl rfl (by omega) (by omega)) (h:=?_)
     first|refine k_d ?_|refine dL (hc:=Calm.load ty_plain_41 rfl (rd_row (k:=a1-1) own_ rw_ rw_)) (h:=?_)
     first|refine k_d ?_|refine dG (hc:=fun _=>Calm.move rfl) (h:=?_)
     first|refine k_d ?_|refine dG (hc:=fun _=>Calm.move rfl) (h:=?_)
     first|refine k_d ?_|refine dG (hc:=fun _=>Calm.indexS Try.underlying22 ty_size_41 rfl rfl (by omega) (by omega)) (h:=?_)
     first|refine k_d ?_|refine dL (hc:=Calm.load ty_plain_41 rfl (rd_row (k:=pv) own_ rw_ rw_)) (h:=?_)
     refine draw_only rfl ?_
     refine ARun.callG 2 true 75 rfl (lit_lt rfl) rfl (lit_lt rfl) go_160 rfl (soU_less _ _ _) ?_
     rintro _ _ ⟨rfl,rfl⟩
     refine arun_nil ⟨fun _=>less_,?_⟩
     first|refine k_d ?_|refine dG (hc:=fun _=>Calm.un rfl (una_not _)) (h:=?_)
     refine dP (hc:=fun _=>(by first | exact Calm.pickT rfl rfl | exact Calm.pickF rfl rfl)) (h:=?_)
     refine draw_nil ?_
     refine ⟨(!ltN d3[a1-1]! d3[pv]!),?_,?_,?_⟩
     all_goals (try dsimp only)
     ·rw [decide_eq_true h0];rfl
     ·exact ⟨sb_,sb_,sb_,sb_,sb_,sb_,sb_,sb_,sb_,trivial⟩
     ·exact Mem.Less.refl _
    ·refine AWP.draw [(0,true),(1,true),(2,true),(3,true),(4,true),(5,true),(6,true),(7,true),(8,true),(9,true),(10,true),(11,true),(12,false),(13,true),(14,true)] [] mixed (by kernel_rfl) ?_
     refine dP (hc:=fun _=>Calm.move rfl) (h:=?_)
     refine dP (hc:=fun _=>Calm.bin rfl rfl b_gtr) (h:=?_)
     refine dP (hc:=fun _=>Calm.move rfl) (h:=?_)
     first|refine k_d ?_|refine dG (hc:=fun _=>Calm.move rfl) (h:=?_)
     first|refine k_d ?_|refine dG (hc:=fun _=>Calm.move rfl) (h:=?_)
     first|refine k_d ?_|refine dG (hc:=fun _=>Calm.bin rfl rfl b_sub_i64) (h:=?_)
     first|refine k_d ?_|refine dG (hc:=fun _=>Calm.indexS Try.underlying22 ty_size_41 rfl rfl (by omega) (by omega)) (h:=?_)
     first|refine k_d ?_|refine dL (hc:=Calm.load ty_plain_41 rfl (rd_row (k:=a1-1) own_ rw_ rw_)) (h:=?_)
     first|refine k_d ?_|refine dG (hc:=fun _=>Calm.move rfl) (h:=?_)
     first|refine k_d ?_|refine dG (hc:=fun _=>Calm.move rfl) (h:=?_)
     first|refine k_d ?_|refine dG (hc:=fun _=>Calm.indexS Try.underlying22 ty_size_41 rfl rfl (by omega) (by omega)) (h:=?_)
     first|refine k_d ?_|refine dL (hc:=Calm.load ty_plain_41 rfl (rd_row (k:=pv) own_ rw_ rw_)) (h:=?_)
     refine draw_only rfl ?_
     first | refine rS 75 ?_ | refine rU 75 ?_
     refine arun_nil ⟨fun _=>less_,?_⟩
     first|refine k_d ?_|refine dG (hc:=fun _=>Calm.un rfl (una_not _)) (h:=?_)
     refine dP (hc:=fun _=>(by first | exact Calm.pickT rfl rfl | exact Calm.pickF rfl rfl)) (h:=?_)
     refine draw_nil ?_
     refine ⟨false,?_,?_,?_⟩
     all_goals (try dsimp only)
     ·rw [decide_eq_false h0];rfl
     ·exact ⟨sb_,sb_,sb_,sb_,sb_,sb_,sb_,sb_,sb_,trivial⟩
     ·exact Mem.Less.refl _
   rintro x hx
   intro _ _ hs_ hl_
   (try dsimp only at *)
   refine athen_n ?_
   refine AWP.sub _ hs_ (AWP.less _ hl_ ?_)
   clear hs_ hl_
   rw [pdq3,← hx] at hq
   cases x
   ·refine k_F rfl ?_
    obtain ⟨⟨md,ap,d4⟩,hp4⟩ : ∃ q,q=partition ltN d3 a1 e1 pv:=⟨_,rfl⟩
    rw [if_neg Bool.false_ne_true,← hp4] at hq
    dsimp only at hq
    refine k_k (k_a (k_m rfl (k_m rfl (k_m rfl ?_))))
    refine k_m rfl ?_
    refine ARun.call (lit_lt rfl) go_190 rfl ((hp4 ▸ soU_part b room n cap hb hn d3 R3 _ _ _ a1 e1 pv rfl rfl rfl (by omega) (by omega) (by omega))) ?_
    rintro _ _ ⟨rfl,rfl,R4,g3,g4⟩
    dsimp only at R4 g3 g4
    rw [if_pos ⟨g3,g4⟩] at hq
    refine k_m rfl ?_
    refine rC (Calm.extract rfl rfl) ?_
    refine rC (Calm.extract rfl rfl) ?_
    refine k_s rfl (k_e rfl ?_)
    refine k_u [(0,_),(1,_),(2,_),(3,_),(8,_),(9,_),(10,_),(11,_),(87,_),(14,_),(15,_)] ?_
    by_cases hmd:md-a1<e1-md
    ·rw [if_pos hmd] at hq
     refine k_a (k_m rfl (k_e rfl ?_))
     refine k_u [(0,_),(1,_),(2,_),(3,_),(8,_),(9,_),(10,_),(11,_),(87,_),(14,_),(15,_)] ?_
     refine k_a (k_m rfl (k_m rfl ?_))
     refine rC (Calm.bin rfl rfl b_sub_i64) ?_
     refine k_m rfl (k_m rfl ?_)
     refine rC (Calm.bin rfl rfl b_sub_i64) ?_
     refine k_s rfl (k_e rfl ?_)
     refine k_u [(0,_),(1,_),(2,_),(3,_),(8,_),(9,_),(10,_),(11,_),(87,_),(14,_),(15,_),(16,_),(17,_)] ?_
     refine k_a (k_m rfl ?_)
     refine rC (Calm.bin rfl rfl b_quo_i64) ?_
     refine k_e rfl ?_
     refine k_u [(0,_),(1,_),(2,_),(3,_),(8,_),(9,_),(10,_),(11,_),(87,_),(14,_),(15,_),(16,_),(17,_),(18,_)] ?_
     refine k_a (k_m rfl (k_m rfl ?_))
     refine rC (Calm.bin rfl rfl b_lss) ?_
     refine k_n ?_
     refine k_u [(0,_),(1,_),(2,_),(3,_),(8,_),(9,_),(10,_),(11,_),(87,_),(14,_),(15,_),(16,_),(17,_),(18,_),(113,_)] ?_
     refine k_T rfl ?_
     refine k_a (k_m rfl (k_m rfl ?_))
     refine rC (Calm.bin rfl rfl b_geq) ?_
     refine k_e rfl ?_
     refine k_u [(0,_),(1,_),(2,_),(3,_),(8,_),(9,_),(10,_),(11,_),(87,_),(14,_),(15,_),(16,_),(17,_),(18,_),(113,_)] ?_
     refine k_a (k_m rfl (k_m rfl (k_m rfl (k_m rfl ?_))))
     refine ARun.call (lit_lt rfl) go_159 rfl (ih (md-a1) (by omega) d4 R4 _ _ _ a1 md l2 rfl rfl rfl (by omega) (by omega) (by omega) rfl) ?_
     rintro _ _ ⟨rfl,R5⟩
     refine k_n ?_
     refine k_u [(0,_),(1,_),(2,_),(3,_),(8,_),(9,_),(10,_),(11,_),(87,_),(14,_),(15,_),(16,_),(17,_),(18,_),(113,_)] ?_
     refine AWP.region ?_
     refine k_m rfl ?_
     refine rC (Calm.bin rfl rfl b_add_i64) ?_
     refine k_s rfl ?_
     refine arun_nil ?_
     refine ain_n ?_
     refine athen_n ?_
     refine ⟨(md+1,e1,l2,decide (md-a1 ≥ (e1-a1) / 8),ap,pdq ltN d4 a1 md l2 true true),?_,?_,?_,?_⟩
     all_goals (try dsimp only)
     ·exact ⟨sb_,sb_,sb_,sb_,wbv_ (by omega),sb_,trivial⟩
     ·exact Mem.Less.refl _
     ·exact ⟨by omega,by omega,R5,by omega,by omega,hq⟩
     ·omega
    ·rw [if_neg hmd] at hq
     refine k_a (k_m rfl (k_e rfl ?_))
     refine k_u [(0,_),(1,_),(2,_),(3,_),(8,_),(9,_),(10,_),(11,_),(87,_),(14,_),(15,_)] ?_
     refine k_a (k_m rfl (k_m rfl ?_))
     refine rC (Calm.bin rfl rfl b_sub_i64) ?_
     refine k_m rfl (k_m rfl ?_)
     refine rC (Calm.bin rfl rfl b_sub_i64) ?_
     refine k_s rfl (k_e rfl ?_)
     refine k_u [(0,_),(1,_),(2,_),(3,_),(8,_),(9,_),(10,_),(11,_),(87,_),(14,_),(15,_),(16,_),(17,_)] ?_
     refine k_a (k_m rfl ?_)
     refine rC (Calm.bin rfl rfl b_quo_i64) ?_
     refine k_e rfl ?_
     refine k_u [(0,_),(1,_),(2,_),(3,_),(8,_),(9,_),(10,_),(11,_),(87,_),(14,_),(15,_),(16,_),(17,_),(18,_)] ?_
     refine k_a (k_m rfl (k_m rfl ?_))
     refine rC (Calm.bin rfl rfl b_lss) ?_
     refine k_n ?_
     refine k_u [(0,_),(1,_),(2,_),(3,_),(8,_),(9,_),(10,_),(11,_),(87,_),(14,_),(15,_),(16,_),(17,_),(18,_),(113,_)] ?_
     refine k_F rfl ?_
     refine k_a (k_m rfl (k_m rfl ?_))
     refine rC (Calm.bin rfl rfl b_geq) ?_
     refine k_e rfl ?_
     refine k_u [(0,_),(1,_),(2,_),(3,_),(8,_),(9,_),(10,_),(11,_),(87,_),(14,_),(15,_),(16,_),(17,_),(18,_),(113,_)] ?_
     refine k_a (k_m rfl (k_m rfl ?_))
     refine rC (Calm.bin rfl rfl b_add_i64) ?_
     refine k_m rfl (k_m rfl ?_)
     refine ARun.call (lit_lt rfl) go_159 rfl (ih (e1-(md+1)) (by omega) d4 R4 _ _ _ (md+1) e1 l2 om_ rfl rfl (by omega) (by omega) (by omega) rfl) ?_
     rintro _ _ ⟨rfl,R5⟩
     refine k_n ?_
     refine k_u [(0,_),(1,_),(2,_),(3,_),(8,_),(9,_),(10,_),(11,_),(87,_),(14,_),(15,_),(16,_),(17,_),(18,_),(113,_)] ?_
     refine AWP.region ?_
     refine k_m rfl (k_s rfl ?_)
     refine arun_nil ?_
     refine ain_n ?_
     refine athen_n ?_
     refine ⟨(a1,md,l2,decide (e1-md ≥ (e1-a1) / 8),ap,pdq ltN d4 (md+1) e1 l2 true true),?_,?_,?_,?_⟩
     all_goals (try dsimp only)
     ·exact ⟨sb_,sb_,sb_,sb_,wbv_ (by omega),sb_,trivial⟩
     ·exact Mem.Less.refl _
     ·exact ⟨by omega,by omega,R5,by omega,by omega,hq⟩
     ·omega
   ·refine k_T rfl ?_
    obtain ⟨⟨md,d4⟩,hp4⟩ : ∃ q,q=partitionEqual ltN d3 a1 e1 pv:=⟨_,rfl⟩
    rw [if_pos rfl,← hp4] at hq
    dsimp only at hq
    refine k_a (k_m rfl (k_m rfl (k_m rfl (k_m rfl ?_))))
    refine ARun.call (lit_lt rfl) go_189 rfl ((hp4 ▸ soU_parteq b room n cap hb hn d3 R3 _ _ _ a1 e1 pv rfl rfl rfl (by omega) (by omega) (by omega))) ?_
    rintro _ _ ⟨rfl,rfl,R4,g3,g4⟩
    dsimp only at R4 g3 g4
    rw [if_pos ⟨g3,g4⟩] at hq
    refine k_e rfl ?_
    refine k_u [(0,_),(1,_),(2,_),(3,_),(8,_),(9,_),(10,_),(11,_),(87,_),(13,_)] ?_
    refine k_a (k_m rfl (k_e rfl ?_))
    refine k_u [(0,_),(1,_),(2,_),(3,_),(8,_),(9,_),(10,_),(11,_),(87,_),(13,_)] ?_
    refine AWP.exit ?_
    refine athen_exit ?_
    refine ain_same ?_
    refine athen_n ?_
    refine ⟨(md,e1,l2,w1,w2,d4),?_,?_,?_,?_⟩
    all_goals (try dsimp only)
    ·exact ⟨sb_,sb_,sb_,sb_,sb_,sb_,trivial⟩
    ·exact Mem.Less.refl _
    ·exact ⟨by omega,by omega,R4,by omega,by omega,hq⟩
    ·omega
set_option maxHeartbeats 1000000 in
theorem soU_sort {S : Mem} (b room n cap : Nat) (hb : Fresh S b) (hn : n ≤ 1048576) (d : Array Nat) (R : Rw (fun _ => True) n d) :
  ACall Try.prog 126 #[.slice (some ⟨b,0,none⟩) n cap] (S.set b ⟨41,(d).toList.map encU,room⟩) fun r S'=>S'=S.set b ⟨41,(pdq ltN d 0 n (bitsLen n) true true).toList.map encU,room⟩∧Rw (fun _=>True) n (pdq ltN d 0 n (bitsLen n) true true):=by
 have hbl:=bitsLen_small n hn
 refine ACall.enter (rs:=[]) 11 [(0,.slice (some ⟨b,0,none⟩) n cap)] Try.func126 rfl rfl (Nat.le_of_ble_eq_true rfl) rfl ⟨rfl,trivial⟩ ?_
 refine k_a (k_m rfl ?_)
 refine rC (Calm.lenSl Try.underlying22 rfl) ?_
 refine k_e rfl ?_
 refine k_u [(0,_),(2,_)] ?_
 refine AWP.region ?_
 refine k_m rfl (k_m rfl (k_m rfl ?_))
 refine rC (Calm.conv rfl (by first | exact conv_intW Try.underlying3 Try.underlying139 (IntWalk.u64_in _ (by omega)) | exact conv_int Try.underlying3 Try.underlying139)) ?_
 refine ARun.call (lit_lt rfl) go_122 rfl (so_Len n (by omega) _) ?_
 rintro _ _ ⟨rfl,rfl⟩
 refine ARun.call (lit_lt rfl) go_159 rfl (soU_pdq b room n cap hb hn (n-0) d R _ _ _ 0 n (bitsLen n) rfl rfl rfl (Nat.zero_le _) (Nat.le_refl _) (by omega) rfl) ?_
 rintro _ _ ⟨rfl,R1⟩
 refine arun_nil ?_
 refine ⟨_,_,rfl,Mem.Less.refl _,?_⟩
 exact ⟨rfl,R1⟩
theorem soU_ins0 (S : Mem) : ACall Try.prog 183 #[.slice none 0 0, .int .i64 0, .int .i64 0] S fun r S' => S' = S := by
 refine ACall.enter (rs:=[]) 49 [(0,.slice none 0 0),(1,.int .i64 0),(2,.int .i64 0)] Try.func183 rfl rfl (Nat.le_of_ble_eq_true rfl) rfl ⟨rfl,rfl,rfl,trivial⟩ ?_
 refine k_a (k_m rfl ?_)
 refine rC (Calm.bin rfl rfl b_add_i64) ?_
 refine k_e rfl ?_
 refine k_u [(0,_),(1,_),(2,_),(6,_)] ?_
 refine AWP.block ?_
 refine AWP.loop (X:=Unit) (fun _=>[(0,.slice none 0 0),(2,.int .i64 0),(6,.int .i64 1)]) (fun _=>S) (fun _=>True) (fun _=>0) (()) ⟨sb_,sb_,sb_,trivial⟩ (Mem.Less.refl _) (trivial) ?_
 rintro _ _
 (try dsimp only at *)
 refine AWP.seq (k_a (k_m rfl (k_m rfl ?_)))
 refine rC (Calm.bin rfl rfl b_lss) ?_
 refine k_n ?_
 refine k_u [(0,_),(2,_),(6,_),(12,_)] ?_
 refine k_F rfl ?_
 refine AWP.exit ?_
 refine athen_exit ?_
 refine athen_exit ?_
 refine ain_same ?_
 refine ⟨_,S,rfl,Mem.Less.refl _,?_⟩
 exact rfl
theorem soU_pdq0 (S : Mem) : ACall Try.prog 159 #[.slice none 0 0, .int .i64 0, .int .i64 0, .int .i64 0] S fun r S' => S' = S := by
 refine ACall.enter (rs:=[]) 134 [(0,.slice none 0 0),(1,.int .i64 0),(2,.int .i64 0),(3,.int .i64 0)] Try.func159 rfl rfl (Nat.le_of_ble_eq_true rfl) rfl ⟨rfl,rfl,rfl,rfl,trivial⟩ ?_
 refine k_a (k_e rfl (k_a (k_e rfl ?_)))
 refine AWP.block ?_
 refine AWP.loop (X:=Unit) (fun _=>[(0,.slice none 0 0),(1,.int .i64 0),(2,.int .i64 0)]) (fun _=>S) (fun _=>True) (fun _=>0) (()) ⟨rfl,rfl,rfl,trivial⟩ (Mem.Less.refl _) (trivial) ?_
 rintro _ _
 (try dsimp only at *)
 refine AWP.block ?_
 refine k_a (k_m rfl (k_m rfl ?_))
 refine rC (Calm.bin rfl rfl b_sub_i64) ?_
 refine k_e rfl ?_
 refine k_u [(0,_),(1,_),(2,_),(10,_)] ?_
 refine AWP.seq (k_a (k_m rfl ?_))
 refine rC (Calm.bin rfl rfl b_leq) ?_
 refine k_n ?_
 refine k_u [(0,_),(1,_),(2,_),(10,_),(23,_)] ?_
 refine k_T rfl ?_
 refine k_a (k_m rfl (k_m rfl (k_m rfl ?_)))
 refine ARun.call (lit_lt rfl) go_183 rfl (soU_ins0 S) ?_
 rintro _ S1 h1
 rw [h1];clear h1 S1
 refine k_n ?_
 refine k_u [(0,_),(1,_),(2,_),(10,_),(23,_)] ?_
 refine k_r ?_
 refine ain_ret ?_
 refine athen_ret ?_
 refine ain_ret ?_
 refine ⟨_,S,rfl,Mem.Less.refl _,?_⟩
 exact rfl
theorem soU_sort0 (S : Mem) : ACall Try.prog 126 #[.slice none 0 0] S fun r S' => S' = S := by
 refine ACall.enter (rs:=[]) 11 [(0,.slice none 0 0)] Try.func126 rfl rfl (Nat.le_of_ble_eq_true rfl) rfl ⟨rfl,trivial⟩ ?_
 refine k_a (k_m rfl ?_)
 refine rC (Calm.lenSl Try.underlying22 rfl) ?_
 refine k_e rfl ?_
 refine k_u [(0,_),(2,_)] ?_
 refine AWP.region ?_
 refine k_m rfl (k_m rfl (k_m rfl ?_))
 refine rC (Calm.conv rfl (by first | exact conv_intW Try.underlying3 Try.underlying139 (IntWalk.u64_in _ (by omega)) | exact conv_int Try.underlying3 Try.underlying139)) ?_
 refine ARun.call (lit_lt rfl) go_122 rfl (so_Len 0 (by omega) _) ?_
 rintro _ S1 ⟨rfl,h1⟩
 rw [h1];clear h1 S1
 refine ARun.call (lit_lt rfl) go_159 rfl (soU_pdq0 S) ?_
 rintro _ S1 h1
 rw [h1];clear h1 S1
 refine arun_nil ?_
 refine ⟨_,S,rfl,Mem.Less.refl _,?_⟩
 exact rfl
end Go.Proofs.Ytgidjbpgkeemiaa
namespace Go.Proofs.Ytgidjbpgkeemiaa
open Go.RowKit
open Mv Num Loser Srt
set_option maxRecDepth 4000
set_option maxHeartbeats 2000000 in
theorem odU_search (v : Value) (x : Nat) (D : List Nat) (S : Mem) (hv : Sl 1 (fun y => [encU y]) S v D) (hs : D.Pairwise (· < ·)) (hx : x ∈ D) (hl : D.length ≤ 1048576) :
  ACall Try.prog 128 #[v,encU x] S fun r S'=>r = .tuple #[.int .i64 (cntL D x:Nat),.bool true]∧S'=S:=by
 obtain ⟨a,cap,rfl,h1,h2,h3⟩:=id hv
 obtain ⟨b,o,rfl,hk⟩:=h3.resolve_left (fun e=>by rw [e] at hx;cases hx)
 refine ACall.enter (rs:=[.tmp 4,.tmp 5]) 54 [(0,.slice (some ⟨b,o,none⟩) D.length cap),(1,encU x)] Try.func128 rfl rfl (Nat.le_of_ble_eq_true rfl) rfl ⟨rfl,rfl,trivial⟩ ?_
 refine k_a (k_s rfl (k_e rfl (k_a (k_m rfl ?_))))
 refine rC (Calm.lenSl Try.underlying22 rfl) ?_
 refine k_e rfl ?_
 refine k_u [(0,_),(1,_),(4,_),(5,_),(6,_)] ?_
 refine k_a (k_m rfl (k_s rfl (k_e rfl ?_)))
 refine k_u [(0,_),(1,_),(4,_),(5,_),(6,_),(7,_),(8,_)] ?_
 refine AWP.seq ?_
 refine AWP.block ?_
 refine AWP.loop (X:=Nat × Nat) (fun y=>[(0,.slice (some ⟨b,o,none⟩) D.length cap),(1,encU x),(6,.int .i64 D.length),(7,.int .i64 y.1),(8,.int .i64 y.2)]) (fun y=>S) (fun y=>y.1≤y.2∧y.2≤D.length∧(∀ k (hk:k<D.length),k<y.1→D[k]<x) ∧ ∀ k (hk:k<D.length),y.2≤k→x≤D[k]) (fun y=>y.2-y.1) ((0,D.length)) ⟨rfl,rfl,rfl,rfl,rfl,trivial⟩ (Mem.Less.refl _) (⟨Nat.zero_le _,Nat.le_refl _,fun k _ h=>absurd h (Nat.not_lt_zero _),fun k hk h=>absurd hk (Nat.not_lt.2 h)⟩) ?_
 rintro ⟨i,j⟩ ⟨q1,q2,q3,q4⟩
 (try dsimp only at *)
 by_cases hij:i<j
 ·refine AWP.seq (k_a (k_m rfl (k_m rfl ?_)))
  refine rC (Calm.bin rfl rfl b_lss) ?_
  refine k_n ?_
  refine k_u [(0,_),(1,_),(6,_),(7,_),(8,_),(15,_)] ?_
  refine k_T rfl ?_
  obtain ⟨m,hm⟩ : ∃ m,m=(i+j) / 2:=⟨_,rfl⟩
  have hml:m<D.length:=by omega
  have hkm:S.Knows ⟨b,o+m*1,none⟩ [encU D[m]]:=hk m hml
  have e2:((i:Int)+j) / 2 ^ Int.toNat 1=(m:Int):=by rw [hm];show ((i:Int)+j) / 2=_;omega
  have e3:IntKind.i64.wrap (((i:Int)+j) / 2 ^ Int.toNat 1)=(m:Int):=by rw [e2];exact IntWalk.i64_in _ (by omega)
  refine k_k ?_
  refine AWP.block ?_
  refine k_a (k_m rfl (k_m rfl ?_))
  refine rC (Calm.bin rfl rfl b_add_i64) ?_
  refine rC (Calm.conv rfl (by first | exact conv_intW Try.underlying3 Try.underlying139 (IntWalk.u64_in _ (by omega)) | exact conv_int Try.underlying3 Try.underlying139)) ?_
  refine rC (Calm.bin rfl rfl b_shr) ?_
  refine rC (Calm.conv rfl (by first | exact conv_intW Try.underlying139 Try.underlying3 (IntWalk.i64_in _ (by omega)) | exact conv_int Try.underlying139 Try.underlying3)) ?_
  refine k_e rfl ?_
  refine k_u [(0,_),(1,_),(6,_),(7,_),(8,_),(15,_),(9,_)] ?_
  refine AWP.sub [(0,.slice (some ⟨b,o,none⟩) D.length cap),(1,encU x),(6,.int .i64 D.length),(7,.int .i64 i),(8,.int .i64 j),(9,.int .i64 m),(15,.bool true)] ⟨rfl,rfl,rfl,rfl,rfl,by first | exact congrArg (fun q=>some (Value.int .i64 q)) e2 | exact congrArg (fun q=>some (Value.int .i64 q)) e3,rfl,trivial⟩ ?_
  refine k_a (k_m rfl (k_m rfl ?_))
  refine rC (Calm.indexS Try.underlying22 ty_size_41 rfl rfl (by omega) (by omega)) ?_
  refine rC (ld_ ty_plain_41 rfl) ?_
  refine k_m rfl ?_
  refine ARun.call (lit_lt rfl) go_160 rfl (soU_less D[m] x _) ?_
  rintro _ S1 ⟨rfl,e1⟩
  rw [e1];clear e1 S1
  refine k_n ?_
  refine k_u [(0,_),(1,_),(6,_),(7,_),(8,_),(15,_),(9,_),(27,_)] ?_
  refine AWP.condB rfl (fun hlt=>?_) (fun hlt=>?_)
  ·refine AWP.region ?_
   refine k_m rfl ?_
   refine rC (Calm.bin rfl rfl b_add_i64) ?_
   refine k_s rfl ?_
   refine arun_nil ?_
   refine ain_n ?_
   refine athen_n ?_
   refine ⟨(m+1,j),?_,?_,?_,?_⟩
   all_goals (try dsimp only)
   ·exact ⟨sq_,sq_,sq_,sq_,sq_,trivial⟩
   ·exact Mem.Less.refl _
   ·exact ⟨by omega,q2,fun k hk h=>by have hd:D[m]<x:=of_decide_eq_true hlt;rcases Nat.lt_or_ge k m with h' | h';(have:=List.pairwise_iff_getElem.1 hs k m hk hml h';omega);(obtain rfl:k=m:=(by omega);exact hd),q4⟩
   ·omega
  ·refine AWP.region ?_
   refine k_m rfl (k_s rfl ?_)
   refine arun_nil ?_
   refine ain_n ?_
   refine athen_n ?_
   refine ⟨(i,m),?_,?_,?_,?_⟩
   all_goals (try dsimp only)
   ·exact ⟨sq_,sq_,sq_,sq_,sq_,trivial⟩
   ·exact Mem.Less.refl _
   ·exact ⟨by omega,by omega,q3,fun k hk h=>by have hd : ¬ D[m]<x:=of_decide_eq_false hlt;rcases Nat.lt_or_ge m k with h' | h';(have:=List.pairwise_iff_getElem.1 hs m k hml hk h';omega);(obtain rfl:k=m:=(by omega);omega)⟩
   ·omega
 ·obtain rfl:i=j:=by omega
  refine AWP.seq (k_a (k_m rfl (k_m rfl ?_)))
  refine rC (Calm.bin rfl rfl b_lss) ?_
  refine k_n ?_
  refine k_u [(0,_),(1,_),(6,_),(7,_),(8,_),(15,_)] ?_
  refine k_F rfl ?_
  have hci:=cnt_of D x i q2 q3 q4
  obtain ⟨k,hk',hkx⟩:=List.getElem_of_mem hx
  have hin:i<D.length:=by rcases Nat.lt_or_ge i D.length with h | h;(exact h);(have:=q3 k hk' (by omega);omega)
  have hDi:D[i]=x:=by rcases Nat.lt_trichotomy i k with h | h | h;(have:=List.pairwise_iff_getElem.1 hs i k hin hk' h;have:=q4 i hin (Nat.le_refl _);omega);(subst h;exact hkx);(have:=q3 k hk' h;omega)
  have hki:S.Knows ⟨b,o+i*1,none⟩ [encU x]:=by rw [← hDi];exact hk i hin
  rw [hci]
  unfold encU at *
  refine AWP.exit ?_
  refine athen_exit ?_
  refine athen_exit ?_
  refine ain_same ?_
  refine athen_n ?_
  refine k_a (k_m rfl (k_m rfl (k_m rfl ?_)))
  refine rC (Calm.bin rfl rfl b_lss) ?_
  refine k_m rfl ?_
  first|refine k_q 35 ?_|refine rG 35 (Calm.move rfl) ?_
  first|refine k_q 35 ?_|refine rG 35 (Calm.move rfl) ?_
  first|refine k_q 35 ?_|refine rG 35 (Calm.indexS Try.underlying22 ty_size_41 rfl rfl (by omega) (by omega)) ?_
  first|refine k_q 35 ?_|refine rG 35 (ld_ ty_plain_41 rfl) ?_
  first|refine k_q 35 ?_|refine rG 35 (Calm.move rfl) ?_
  first|refine k_q 35 ?_|refine rG 35 (Calm.bin rfl rfl b_eql) ?_
  first|refine k_q 35 ?_|refine rG 35 (Calm.move rfl) ?_
  first|refine k_q 42 ?_|refine rG 42 (Calm.move rfl) ?_
  first|refine k_q 42 ?_|refine rG 42 (Calm.move rfl) ?_
  first|refine k_q 42 ?_|refine rG 42 (Calm.indexS Try.underlying22 ty_size_41 rfl rfl (by omega) (by omega)) ?_
  first|refine k_q 42 ?_|refine rG 42 (ld_ ty_plain_41 rfl) ?_
  first | refine rS 42 ?_ | refine rU 42 ?_
  first|refine k_q 42 ?_|refine rG 42 (Calm.move rfl) ?_
  first|refine k_q 48 ?_|refine rG 48 (Calm.move rfl) ?_
  first | refine rS 48 ?_ | refine rU 48 ?_
  first|refine k_q 42 ?_|refine rG 42 ((by first | exact Calm.pickT rfl rfl | exact Calm.pickF rfl rfl)) ?_
  first|refine k_q 35 ?_|refine rG 35 ((by first | exact Calm.pickT rfl rfl | exact Calm.pickF rfl rfl)) ?_
  first|refine k_t rfl rfl ?_|refine k_f rfl rfl ?_
  refine k_s rfl (k_e rfl ?_)
  refine k_u [(0,_),(1,_),(6,_),(7,_),(8,_),(15,_),(4,_),(5,_)] ?_
  refine AWP.ret ?_
  refine ⟨_,S,⟨_,_,rfl,⟨_,_,rfl,rfl,rfl⟩,rfl⟩,less_,?_⟩
  exact ⟨rfl,rfl⟩
set_option maxHeartbeats 1000000 in
theorem odU_clone (v : Value) (l : List Nat) (S : Mem) (hv : Sl 1 (fun y => [encU y]) S v l) (hl : l.length ≤ 4096) :
  ACall Try.prog 125 #[v] S fun r S'=>∃ o,OkO S o l.length∧r=outV o l.length∧S'=outM S o 41 (l.map encU):=by
 obtain ⟨a,cap,rfl,h1,h2,h3⟩:=id hv
 cases a with
 | none =>
  obtain rfl:l = []:=h3.resolve_right (fun ⟨b,o,e,_⟩=>by cases e)
  refine ACall.enter (rs:=[.tmp 2]) 8 [(0,.slice none 0 cap)] Try.func125 rfl rfl (Nat.le_of_ble_eq_true rfl) rfl ⟨rfl,trivial⟩ ?_
  refine k_a (k_e rfl (AWP.seq (k_a (k_m rfl ?_))))
  refine rC (Calm.bin rfl rfl (bin_nil_eql Try.underlying22)) ?_
  refine k_n ?_
  refine k_u [(0,_),(2,_),(4,_)] ?_
  refine k_T rfl ?_
  refine k_a (k_e rfl ?_)
  refine k_r ?_
  refine ⟨_,S,⟨_,_,rfl,rfl,rfl⟩,less_,?_⟩
  exact ⟨none,okO_nil _,rfl,rfl⟩
 | some ad =>
  have hsrc:=src_sl hv
  refine ACall.enter (rs:=[.tmp 2]) 8 [(0,.slice (some ad) l.length cap)] Try.func125 rfl rfl (Nat.le_of_ble_eq_true rfl) rfl ⟨rfl,trivial⟩ ?_
  refine k_a (k_e rfl (AWP.seq (k_a (k_m rfl ?_))))
  refine rC (Calm.bin rfl rfl (bin_nil_eql Try.underlying22)) ?_
  refine k_n ?_
  refine k_u [(0,_),(2,_),(4,_)] ?_
  refine k_F rfl ?_
  refine k_k (k_a ?_)
  refine ARun.build0 (lit_lt rfl) ty_sl_22 ?_
  intro b5 f5
  have g5:=f5
  repeat ((with_reducible replace g5:=fresh_set g5);obtain ⟨g5,_⟩:=g5)
  refine k_m rfl ?_
  refine ARun.appendOK (n:=1) (o:=some (b5,0)) (k:=0) (m:=l.length) (cs:=[]) (news:=l.map encU) (lit_lt rfl) ty_sl_22 rfl rfl rfl (okO_own f5 (Nat.zero_le _)) (appN1 (okO_own f5 (Nat.zero_le _)) rfl) rfl (hsrc.less (Mem.less_set _ _ _ f5.1)) (by rw [List.length_map,Nat.mul_one]) (one_cells (fun _=>rfl) _) (by omega) (by omega) ?_
  intro o1 ho1
  rw [Nat.zero_add] at ho1
  refine k_e rfl ?_
  refine k_u [(0,_),(2,_),(4,_)] ?_
  refine AWP.ret ?_
  refine ⟨_,_,⟨_,_,rfl,rfl,rfl⟩,Mem.Less.refl _,?_⟩
  exact ⟨o1,ho1,by show outV o1 (0+l.length)=_;rw [Nat.zero_add],by rw [outN_one];rfl⟩
theorem odU_tail (A : List Nat) (k : Nat) (zs : List Value) (h : zs.length = A.length - k) : spl (A.map encU) k zs = (A.take k).map encU ++ zs := by
 unfold spl
 rw [List.drop_of_length_le (by rw [List.length_map];omega),List.append_nil,List.map_take]
set_option maxHeartbeats 4000000 in
theorem odU_compact (b room cap : Nat) (L : List Nat) (n : Nat) (hn : L.length = n) (S : Mem) (hb : Fresh S b) (hL : L.Pairwise (· ≤ ·)) (hn2 : n ≤ 4096) (hc : n ≤ cap) :
  ACall Try.prog 127 #[.slice (some ⟨b,0,none⟩) n cap] (S.set b ⟨41,L.map encU,room⟩) fun r S'=>∃ (D:List Nat) (zs:List Value),r = .slice (some ⟨b,0,none⟩) D.length cap∧S'=S.set b ⟨41,D.map encU ++ zs,room⟩∧D.Pairwise (· < ·)∧(∀ x ∈ L,x ∈ D)∧D.length≤n:=by
 have hLg:∀ i j (hi:i<L.length) (hj:j<L.length),i<j→L.getD i 0≤L.getD j 0:=fun i j hi hj hij=>by rw [getD_get _ _ _ hi,getD_get _ _ _ hj];exact List.pairwise_iff_getElem.1 hL i j hi hj hij
 have hob:∀ (c:List Value),(S.set b ⟨41,c,room⟩).own b=some ⟨41,c,room⟩:=fun c=>Mem.own_set_same _ _ _
 by_cases h2:n<2
 ·skip
  refine ACall.enter (rs:=[.tmp 2]) 61 [(0,.slice (some ⟨b,0,none⟩) n cap)] Try.func127 rfl rfl (Nat.le_of_ble_eq_true rfl) rfl ⟨rfl,trivial⟩ ?_
  refine k_a (k_e rfl (AWP.seq (k_a (k_m rfl ?_))))
  refine rC (Calm.lenSl Try.underlying22 rfl) ?_
  refine rC (Calm.bin rfl rfl b_lss) ?_
  refine k_n ?_
  refine k_u [(0,_),(2,_),(8,_)] ?_
  refine k_T rfl ?_
  refine k_a (k_m rfl (k_e rfl ?_))
  refine k_u [(0,_),(2,_),(8,_)] ?_
  refine k_r ?_
  refine ⟨_,_,⟨_,_,rfl,rfl,rfl⟩,Mem.Less.refl _,?_⟩
  exact ⟨L,[],by rw [hn];rfl,by rw [List.append_nil],by (match L,hn with | [],_=>exact List.Pairwise.nil | [x],_=>exact List.pairwise_singleton _ _ | _ :: _ :: _,h=>simp at h;omega),fun x hx=>hx,by omega⟩
 refine ACall.enter (rs:=[.tmp 2]) 61 [(0,.slice (some ⟨b,0,none⟩) n cap)] Try.func127 rfl rfl (Nat.le_of_ble_eq_true rfl) rfl ⟨rfl,trivial⟩ ?_
 refine k_a (k_e rfl (AWP.seq (k_a (k_m rfl ?_))))
 refine rC (Calm.lenSl Try.underlying22 rfl) ?_
 refine rC (Calm.bin rfl rfl b_lss) ?_
 refine k_n ?_
 refine k_u [(0,_),(2,_),(8,_)] ?_
 refine k_F rfl ?_
 refine k_k (AWP.seq (k_a (k_e rfl ?_)))
 refine AWP.block ?_
 refine AWP.loop (X:=Nat) (fun k=>[(0,.slice (some ⟨b,0,none⟩) n cap),(3,.int .i64 k)]) (fun k=>S.set b ⟨41,L.map encU,room⟩) (fun k=>1≤k∧k≤n ∧ ∀ i,i+1<k→L.getD i 0<L.getD (i+1) 0) (fun k=>n-k) (1) ⟨rfl,rfl,trivial⟩ (Mem.Less.refl _) (⟨Nat.le_refl _,by omega,fun i h=>by have h':i+1<1:=h;omega⟩) ?_
 rintro k ⟨q1,q2,q3⟩
 (try dsimp only at *)
 by_cases hk:k<n
 ·refine AWP.seq (k_a (k_m rfl (k_m rfl ?_)))
  refine rC (Calm.lenSl Try.underlying22 rfl) ?_
  refine rC (Calm.bin rfl rfl b_lss) ?_
  refine k_n ?_
  refine k_u [(0,_),(3,_),(13,_)] ?_
  refine k_T rfl ?_
  obtain ⟨j,rfl⟩ : ∃ j,k=j+1:=⟨k-1,by omega⟩
  obtain ⟨x,hx⟩ : ∃ x,x=L.getD (j+1) 0:=⟨_,rfl⟩
  obtain ⟨y,hy⟩ : ∃ y,y=L.getD j 0:=⟨_,rfl⟩
  have hxe:L[j+1]'(by omega)=x:=by rw [hx,getD_get _ _ _ (by omega)]
  have hye:L[j]'(by omega)=y:=by rw [hy,getD_get _ _ _ (by omega)]
  have hyx:y≤x:=by rw [hx,hy];exact hLg j (j+1) (by omega) (by omega) (by omega)
  refine k_k (AWP.seq ?_)
  refine AWP.block ?_
  refine AWP.seq ?_
  refine AWP.draw [(0,true),(1,true),(2,true),(3,true),(4,true),(5,true),(6,true),(7,true),(8,true),(9,true)] [] mixed (by kernel_rfl) ?_
  refine dP (hc:=fun _=>Calm.move rfl) (h:=?_)
  refine dP (hc:=fun _=>Calm.move rfl) (h:=?_)
  refine dP (hc:=fun _=>Calm.indexS Try.underlying22 ty_size_41 rfl rfl (by omega) (by omega)) (h:=?_)
  refine dC (hc:=Calm.as (show encU (L[j+1]'(by omega)) = .int .u64 (x:Int) by rw [hxe];rfl) (Calm.load ty_plain_41 rfl (rd_list (g:=encU) (j+1) (by omega) (hob _) rw_))) (h:=?_)
  refine dP (hc:=fun _=>Calm.move rfl) (h:=?_)
  refine dP (hc:=fun _=>Calm.move rfl) (h:=?_)
  refine dP (hc:=fun _=>Calm.bin rfl rfl b_sub_i64) (h:=?_)
  refine dP (hc:=fun _=>Calm.indexS Try.underlying22 ty_size_41 rfl rfl (by omega) (by omega)) (h:=?_)
  refine dC (hc:=Calm.as (show encU (L[j]'(by omega)) = .int .u64 (y:Int) by rw [hye];rfl) (Calm.load ty_plain_41 rfl (rd_list (g:=encU) j (by omega) (hob _) rw_))) (h:=?_)
  refine dP (hc:=fun _=>Calm.bin rfl rfl b_eql) (h:=?_)
  refine draw_nil ?_
  refine athen_n ?_
  refine k_u [(0,_),(3,_),(13,_),(25,_)] ?_
  by_cases he:x=y
  ·refine k_T rfl ?_
   have hst:=CpI.start (L:=L) (k:=j+1) (by omega) (by omega) q3 (by rw [← hx,he,hy];rfl)
   refine k_a (k_m rfl (k_m rfl ?_))
   refine rC ((by first | exact Calm.sliceSl Try.underlying22 ty_size_41 rfl (bnd_none _ _) (by simp) (bnd_none _ _) (bnd_some _ _ rfl (by omega) (by omega)) | exact Calm.sliceNil Try.underlying22 ty_size_41 rfl (bnd_none _ _) (by simp) (bnd_none _ _) (bnd_zero _ _ rfl))) ?_
   refine k_e rfl ?_
   refine k_u [(0,_),(3,_),(13,_),(25,_),(4,_)] ?_
   refine AWP.sub [(0,.slice (some ⟨b,0,none⟩) n cap),(3,.int .i64 ((j+1:Nat):Int)),(4,.slice (some ⟨b,j+1,none⟩) (n-(j+1)) (cap-(j+1)))] ⟨rfl,rfl,by show some _=some _;rw [Int.toNat_natCast,if_neg (by omega),Nat.zero_add,Nat.mul_one],trivial⟩ ?_
   refine AWP.seq (k_a (k_e rfl ?_))
   refine AWP.block ?_
   refine AWP.loop (X:=List Nat × Nat × Nat) (fun z=>[(0,.slice (some ⟨b,0,none⟩) n cap),(3,.int .i64 z.2.1),(4,.slice (some ⟨b,j+1,none⟩) (n-(j+1)) (cap-(j+1))),(5,.int .i64 z.2.2)]) (fun z=>S.set b ⟨41,z.1.map encU,room⟩) (fun z=>1≤z.2.2∧j+1+z.2.2≤n∧CpI L z.1 z.2.1 (j+1+z.2.2)) (fun z=>n-z.2.2) ((L,j+1,1)) ⟨rfl,rfl,rfl,rfl,trivial⟩ (Mem.Less.refl _) (⟨Nat.le_refl _,hk,hst⟩) ?_
   rintro ⟨A,k,c⟩ ⟨r1,r2,r3⟩
   (try dsimp only at *)
   have rA:=r3.1
   have rk:=r3.2.2.1
   by_cases hcn:c<n-(j+1)
   ·refine AWP.seq (k_a (k_m rfl (k_m rfl ?_)))
    refine rC (Calm.lenSl Try.underlying22 rfl) ?_
    refine rC (Calm.bin rfl rfl b_lss) ?_
    refine k_n ?_
    refine k_u [(0,_),(3,_),(4,_),(5,_),(32,_)] ?_
    refine k_T rfl ?_
    obtain ⟨q,hq⟩ : ∃ q,q=j+c:=⟨_,rfl⟩
    have hq1:j+1+c=q+1:=by omega
    rw [hq1] at r3 rk
    have hqn:q+1<L.length:=by omega
    obtain ⟨w,hw⟩ : ∃ w,w=L.getD (q+1) 0:=⟨_,rfl⟩
    obtain ⟨u,hu⟩ : ∃ u,u=L.getD q 0:=⟨_,rfl⟩
    have hwe:A[q+1]'(by omega)=w:=by rw [hw,← r3.2.2.2.2.1 (q+1) (by omega),getD_get _ _ _ (by omega)]
    have hue:A[q]'(by omega)=u:=by rw [hu,← r3.2.2.2.2.1 q (by omega),getD_get _ _ _ (by omega)]
    have huw:u≤w:=by rw [hw,hu];exact hLg q (q+1) (by omega) (by omega) (by omega)
    refine k_k (AWP.seq ?_)
    refine AWP.block ?_
    refine AWP.seq ?_
    refine AWP.draw [(0,true),(1,true),(2,true),(3,true),(4,true),(5,true),(6,true),(7,true),(8,true),(9,true)] [] mixed (by kernel_rfl) ?_
    refine dP (hc:=fun _=>Calm.move rfl) (h:=?_)
    refine dP (hc:=fun _=>Calm.move rfl) (h:=?_)
    refine dP (hc:=fun _=>Calm.indexS Try.underlying22 ty_size_41 rfl rfl (by omega) (by omega)) (h:=?_)
    refine dC (hc:=Calm.as (show encU (A[q+1]'(by omega)) = .int .u64 (w:Int) by rw [hwe];rfl) (Calm.load ty_plain_41 rfl (rd_list (g:=encU) (q+1) (by omega) (hob _) (by omega)))) (h:=?_)
    refine dP (hc:=fun _=>Calm.move rfl) (h:=?_)
    refine dP (hc:=fun _=>Calm.move rfl) (h:=?_)
    refine dP (hc:=fun _=>Calm.bin rfl rfl b_sub_i64) (h:=?_)
    refine dP (hc:=fun _=>Calm.indexS Try.underlying22 ty_size_41 rfl rfl (by omega) (by omega)) (h:=?_)
    refine dC (hc:=Calm.as (show encU (A[q]'(by omega)) = .int .u64 (u:Int) by rw [hue];rfl) (Calm.load ty_plain_41 rfl (rd_list (g:=encU) q (by omega) (hob _) (by omega)))) (h:=?_)
    refine dP (hc:=fun _=>Calm.bin rfl rfl b_neq) (h:=?_)
    refine draw_nil ?_
    refine athen_n ?_
    refine k_u [(0,_),(3,_),(4,_),(5,_),(32,_),(44,_)] ?_
    by_cases hwu:w=u
    ·refine k_F rfl ?_
     refine AWP.skip ?_
     refine ain_n ?_
     refine athen_n ?_
     refine AWP.region ?_
     refine k_m rfl ?_
     refine rC (Calm.bin rfl rfl b_add_i64) ?_
     refine k_e rfl ?_
     refine ⟨(A,k,c+1),?_,?_,?_,?_⟩
     all_goals (try dsimp only)
     ·exact ⟨sq_,sq_,sq_,sq_,trivial⟩
     ·exact Mem.Less.refl _
     ·exact ⟨by omega,by omega,by rw [show j+1+(c+1)=q+1+1 by omega];exact r3.same hqn (by rw [← hw,hwu,hu];rfl)⟩
     ·omega
    ·refine k_T rfl ?_
     refine k_a (k_m rfl (k_m rfl (k_m rfl (k_m rfl ?_))))
     refine rC (Calm.indexS Try.underlying22 ty_size_41 rfl rfl (by omega) (by omega)) ?_
     refine rC (Calm.as (show encU (A[q+1]'(by omega)) = .int .u64 (w:Int) by rw [hwe];rfl) (Calm.load ty_plain_41 rfl (rd_list (g:=encU) (q+1) (by omega) (hob _) (by omega)))) ?_
     refine rC (Calm.indexS Try.underlying22 ty_size_41 rfl rfl (by omega) (by omega)) ?_
     refine ARun.store1 rfl rfl ty_size_41 rfl own_ lens_ rfl ?_
     try simp only [k_ms,k_sz,k_ss,k_za,Nat.reduceAdd]
     refine k_n ?_
     refine k_u [(0,_),(3,_),(4,_),(5,_),(32,_),(44,_)] ?_
     rw [Int.toNat_natCast,Nat.mul_one]
     refine AWP.region ?_
     refine k_m rfl ?_
     refine rC (Calm.bin rfl rfl b_add_i64) ?_
     refine k_s rfl ?_
     refine arun_nil ?_
     refine ain_n ?_
     refine athen_n ?_
     refine k_u [(0,_),(3,_),(4,_),(5,_),(32,_),(44,_)] ?_
     refine AWP.region ?_
     refine k_m rfl ?_
     refine rC (Calm.bin rfl rfl b_add_i64) ?_
     refine k_e rfl ?_
     refine ⟨(A.set k w,k+1,c+1),?_,?_,?_,?_⟩
     all_goals (try dsimp only)
     ·exact ⟨sq_,sq_,sq_,sq_,trivial⟩
     ·rw [List.map_set];exact Mem.Less.refl _
     ·exact ⟨by omega,by omega,by rw [show j+1+(c+1)=q+1+1 by omega,hw];exact r3.more hqn (by rw [← hw,Nat.add_sub_cancel,← hu];omega)⟩
     ·omega
   ·refine AWP.seq (k_a (k_m rfl (k_m rfl ?_)))
    refine rC (Calm.lenSl Try.underlying22 rfl) ?_
    refine rC (Calm.bin rfl rfl b_lss) ?_
    refine k_n ?_
    refine k_u [(0,_),(3,_),(4,_),(5,_),(32,_)] ?_
    refine k_F rfl ?_
    have hqn:j+1+c=L.length:=by omega
    rw [hqn] at r3
    obtain ⟨d1,d2,d3,d4⟩:=r3.done
    refine AWP.exit ?_
    refine athen_exit ?_
    refine athen_exit ?_
    refine ain_same ?_
    refine athen_n ?_
    refine k_a (k_m rfl (k_m rfl ?_))
    refine rC ((by first | exact Calm.sliceSl Try.underlying22 ty_size_41 rfl (bnd_none _ _) (by simp) (bnd_none _ _) (bnd_some _ _ rfl (by omega) (by omega)) | exact Calm.sliceNil Try.underlying22 ty_size_41 rfl (bnd_none _ _) (by simp) (bnd_none _ _) (bnd_zero _ _ rfl))) ?_
    refine ARun.clearK (b:=b) (o:=k) (k:=n-k) (c:=cap-k) ty_sl_22 rfl (fun v hv=>by simp at hv;rw [hv];rfl) (by show some _=some _;rw [Int.toNat_natCast,if_neg (by omega),Nat.zero_add,Nat.mul_one]) (hob _) (by simp;omega) (.inl (by simp;omega)) ?_
    intro zs hzs
    refine k_n ?_
    refine k_u [(0,_),(3,_),(4,_),(5,_),(32,_)] ?_
    refine k_a (k_m rfl (k_m rfl ?_))
    refine rC ((by first | exact Calm.sliceHead Try.underlying22 ty_size_41 rfl (bnd_none _ _) (fun _=>rfl) (bnd_some _ _ rfl (by omega) (by omega)) | exact Calm.sliceNil Try.underlying22 ty_size_41 rfl (bnd_none _ _) (by simp) (bnd_zero _ _ rfl) (bnd_none _ _))) ?_
    refine k_e rfl ?_
    refine k_u [(0,_),(3,_),(4,_),(5,_),(32,_),(2,_)] ?_
    refine AWP.ret ?_
    refine ain_ret ?_
    refine athen_ret ?_
    refine athen_ret ?_
    refine ain_ret ?_
    refine athen_ret ?_
    refine ⟨_,_,⟨_,_,rfl,rfl,rfl⟩,Mem.Less.refl _,?_⟩
    exact ⟨A.take k,zs,by rw [d3];rfl,by rw [odU_tail A k zs (by rw [Nat.mul_one] at hzs;omega),Mem.set_set],d1,d2,by omega⟩
  ·refine k_F rfl ?_
   refine AWP.skip ?_
   refine ain_n ?_
   refine athen_n ?_
   refine AWP.region ?_
   refine k_m rfl ?_
   refine rC (Calm.bin rfl rfl b_add_i64) ?_
   refine k_e rfl ?_
   refine ⟨j+2,?_,?_,?_,?_⟩
   all_goals (try dsimp only)
   ·exact ⟨sq_,sq_,trivial⟩
   ·exact Mem.Less.refl _
   ·exact ⟨by omega,hk,fun i hi=>by rcases Nat.lt_or_ge (i+1) (j+1) with h | h;(exact q3 i h);(obtain rfl:i=j:=(by omega);rw [← hx,← hy];omega)⟩
   ·omega
 ·obtain rfl:k=n:=by omega
  refine AWP.seq (k_a (k_m rfl (k_m rfl ?_)))
  refine rC (Calm.lenSl Try.underlying22 rfl) ?_
  refine rC (Calm.bin rfl rfl b_lss) ?_
  refine k_n ?_
  refine k_u [(0,_),(3,_),(13,_)] ?_
  refine k_F rfl ?_
  refine AWP.exit ?_
  refine athen_exit ?_
  refine athen_exit ?_
  refine ain_same ?_
  refine athen_n ?_
  refine k_a (k_m rfl (k_e rfl ?_))
  refine k_u [(0,_),(3,_),(13,_),(2,_)] ?_
  refine AWP.ret ?_
  refine ⟨_,_,⟨_,_,rfl,rfl,rfl⟩,Mem.Less.refl _,?_⟩
  exact ⟨L,[],by rw [hn];rfl,by rw [List.append_nil],up_pairwise L (by rw [hn];exact q3),fun x hx=>hx,by omega⟩
theorem odU_compact0 (S : Mem) : ACall Try.prog 127 #[.slice none 0 0] S fun r S' => r = .slice none 0 0 ∧ S' = S := by
 refine ACall.enter (rs:=[.tmp 2]) 61 [(0,.slice none 0 0)] Try.func127 rfl rfl (Nat.le_of_ble_eq_true rfl) rfl ⟨rfl,trivial⟩ ?_
 refine k_a (k_e rfl (AWP.seq (k_a (k_m rfl ?_))))
 refine rC (Calm.lenSl Try.underlying22 rfl) ?_
 refine rC (Calm.bin rfl rfl b_lss) ?_
 refine k_n ?_
 refine k_u [(0,_),(2,_),(8,_)] ?_
 refine k_T rfl ?_
 refine k_a (k_m rfl (k_e rfl ?_))
 refine k_u [(0,_),(2,_),(8,_)] ?_
 refine k_r ?_
 refine ⟨_,S,⟨_,_,rfl,rfl,rfl⟩,less_,?_⟩
 exact ⟨rfl,rfl⟩
set_option maxHeartbeats 4000000 in
theorem odU_ranks (v : Value) (l : List Nat) (S : Mem) (hv : Sl 1 (fun y => [encU y]) S v l) (hl : l.length ≤ 4096) :
  ACall Try.prog 90 #[v] S fun r S'=>∃ D:List Nat,(∀ x ∈ l,x ∈ D)∧D.length≤l.length∧RdL gI (l.map (cntL D)) S r S':=by
 obtain ⟨a,cap,rfl,h1,h2,h3⟩:=id hv
 obtain ⟨n,hn⟩ : ∃ n,n=l.length:=⟨_,rfl⟩
 have hcl:=odU_clone _ l S hv hl
 rw [← hn] at hcl hl h1 ⊢
 refine ACall.enter (rs:=[.tmp 2]) 34 [(0,.slice a n cap)] Try.func90 rfl rfl (Nat.le_of_ble_eq_true rfl) rfl ⟨rfl,trivial⟩ ?_
 refine k_a (k_e rfl (k_a (k_m rfl ?_)))
 refine ARun.call (lit_lt rfl) go_125 rfl (hcl) ?_
 rintro _ _ ⟨o,ho,rfl,rfl⟩
 refine k_e rfl ?_
 refine k_u [(0,_),(2,_),(3,_)] ?_
 cases o
 ·obtain rfl:n=0:=ho.nil rfl
  have hl0:l = []:=List.length_eq_zero_iff.1 hn.symm
  refine k_a (k_m rfl ?_)
  refine ARun.call (lit_lt rfl) go_126 rfl (soU_sort0 _) ?_
  rintro _ S1 e1
  rw [e1];clear e1 S1
  refine k_n ?_
  refine k_u [(0,_),(2,_),(3,_)] ?_
  refine k_a (k_m rfl ?_)
  refine ARun.call (lit_lt rfl) go_127 rfl (odU_compact0 _) ?_
  rintro _ S1 ⟨rfl,e1⟩
  rw [e1];clear e1 S1
  refine k_e rfl ?_
  refine k_u [(0,_),(2,_),(3,_)] ?_
  refine k_a (k_m rfl ?_)
  refine rC (Calm.lenSl Try.underlying22 rfl) ?_
  refine ARun.makeSlice (lit_lt rfl) ty_sl_24 rfl rfl (by omega) (by omega) (by omega) (by omega) ?_
  intro b15 f15
  have g15:=f15
  repeat ((with_reducible replace g15:=fresh_set g15);obtain ⟨g15,_⟩:=g15)
  refine k_e rfl ?_
  refine k_u [(0,_),(2,_),(3,_),(4,_)] ?_
  refine AWP.seq (k_a (k_m rfl ?_))
  refine rC (Calm.lenSl Try.underlying22 rfl) ?_
  refine k_m rfl (k_n ?_)
  refine AWP.block ?_
  refine AWP.loop (X:=Unit) (fun x=>[(4,.slice (some ⟨b15,0,none⟩) 0 0),(17,.int .i64 0),(18,.int .i64 0)]) (fun x=>S.set b15 ⟨3,[],0⟩) (fun x=>l = []) (fun x=>0) (()) ⟨rfl,rfl,rfl,trivial⟩ (by rw [madeL_one];exact Mem.Less.refl _) (hl0) ?_
  rintro _ _
  (try dsimp only at *)
  refine k_a ?_
  refine rC (Calm.bin rfl rfl b_lss) ?_
  refine k_n (AWP.seq ?_)
  refine k_F rfl ?_
  refine AWP.exit ?_
  refine athen_exit ?_
  refine athen_exit ?_
  refine ain_same ?_
  refine athen_n ?_
  refine k_a (k_m rfl (k_e rfl ?_))
  refine k_u [(4,_),(17,_),(18,_),(19,_),(2,_)] ?_
  refine AWP.ret ?_
  refine ⟨_,_,⟨_,_,rfl,rfl,rfl⟩,Mem.Less.refl _,?_⟩
  exact ⟨[],(fun x hx=>absurd (hl0 ▸ hx:x ∈ ([] : List Nat)) (List.not_mem_nil)),Nat.zero_le _,Mem.less_set _ _ _ f15.1,by rw [hl0];exact Sl.own1 (g:=gI) (l:=[]) (Mem.own_set_same _ _ _) List.prefix_rfl rfl (Nat.le_refl _) (by decide)⟩
 ·rename_i q
  obtain ⟨b,c⟩:=q
  obtain ⟨fb,hbc⟩:=ho.own b c rfl
  have hR:Rw (fun _=>True) n l.toArray:=⟨by simp [hn],fun _ _=>trivial⟩
  have hsort:=soU_sort (S:=S) b c n c fb (by omega) l.toArray hR
  obtain ⟨d',hd'⟩ : ∃ d',d'=Go.Sort.pdq ltN l.toArray 0 n (Go.Sort.bitsLen n) true true:=⟨_,rfl⟩
  obtain ⟨hp,hs⟩:=sorted_num l n hn.symm d' hd'
  rw [← hd'] at hsort
  obtain ⟨L,hL⟩ : ∃ L,L=d'.toList:=⟨_,rfl⟩
  rw [← hL] at hsort hp hs
  have hLn:L.length=n:=by rw [hp.length_eq];exact hn.symm
  clear hd' hR hL
  refine k_a (k_m rfl ?_)
  refine ARun.call (lit_lt rfl) go_126 rfl (hsort) ?_
  rintro _ _ ⟨rfl,_⟩
  refine k_n ?_
  refine k_u [(0,_),(2,_),(3,_)] ?_
  refine k_a (k_m rfl ?_)
  refine ARun.call (lit_lt rfl) go_127 rfl (odU_compact b c c L n hLn S fb hs hl hbc) ?_
  rintro _ _ ⟨D,zs,rfl,rfl,hD1,hD2,hD3⟩
  have hlD:∀ x ∈ l,x ∈ D:=fun x hx=>hD2 x (hp.mem_iff.2 hx)
  obtain ⟨M,hM⟩ : ∃ M,M=S.set b ⟨41,D.map encU ++ zs,c⟩:=⟨_,rfl⟩
  have hSM:S.Less M:=by rw [hM];exact Mem.less_set _ _ _ fb.1
  have hvD:Sl 1 (fun y=>[encU y]) M (.slice (some ⟨b,0,none⟩) D.length c) D:=by rw [hM];exact Sl.own1 (g:=encU) (l:=D) (Mem.own_set_same _ _ _) (List.prefix_append _ _) rfl (by omega) (by omega)
  rw [← hM]
  refine k_e rfl ?_
  refine k_u [(0,_),(2,_),(3,_)] ?_
  refine k_a (k_m rfl ?_)
  refine rC (Calm.lenSl Try.underlying22 rfl) ?_
  refine ARun.makeSlice (lit_lt rfl) ty_sl_24 rfl rfl (by omega) (by omega) (by omega) (by omega) ?_
  intro b15 f15
  have g15:=f15
  repeat ((with_reducible replace g15:=fresh_set g15);obtain ⟨g15,_⟩:=g15)
  refine k_e rfl ?_
  refine k_u [(0,_),(2,_),(3,_),(4,_)] ?_
  rw [show madeL [Value.int .i64 0] (((n:Nat):Int).toNat*1)=([] : List Nat).map gI ++ List.replicate (n-0) (gI 0) by rw [madeL_one,Nat.mul_one];rfl,Nat.mul_one,Int.toNat_natCast]
  refine AWP.seq (k_a (k_m rfl ?_))
  refine rC (Calm.lenSl Try.underlying22 rfl) ?_
  refine k_m rfl (k_n ?_)
  refine AWP.block ?_
  refine AWP.loop (X:=Nat) (fun x=>[(3,.slice (some ⟨b,0,none⟩) D.length c),(4,.slice (some ⟨b15,0,none⟩) n n),(16,.slice a n cap),(17,.int .i64 n),(18,.int .i64 x)]) (fun x=>M.set b15 ⟨3,((l.take x).map (cntL D)).map gI ++ List.replicate (n-x) (gI 0),n⟩) (fun x=>x≤n) (fun x=>n-x) (0) ⟨rfl,rfl,rfl,rfl,rfl,trivial⟩ (Mem.Less.refl _) (Nat.zero_le _) ?_
  rintro i hi
  (try dsimp only at *)
  by_cases hc:i<n
  ·refine k_a ?_
   refine rC (Calm.bin rfl rfl b_lss) ?_
   refine k_n (AWP.seq ?_)
   refine k_T rfl ?_
   have hil:i<l.length:=by omega
   obtain ⟨vb,vo,rfl,hk⟩:=h3.resolve_left (fun e=>by rw [e] at hil;exact absurd hil (Nat.not_lt_zero _))
   have hMM:M.Less (M.set b15 ⟨3,((l.take i).map (cntL D)).map gI ++ List.replicate (n-i) (gI 0),n⟩):=Mem.less_set _ _ _ f15.1
   have hki:Mem.Knows (M.set b15 ⟨3,((l.take i).map (cntL D)).map gI ++ List.replicate (n-i) (gI 0),n⟩) ⟨vb,vo+i*1,none⟩ [encU l[i]]:=(hk i hil).less (hSM.trans hMM)
   have hlr:(((l.take i).map (cntL D)).map gI ++ List.replicate (n-i) (gI 0)).length=n:=by simp;omega
   refine k_k (AWP.seq ?_)
   refine AWP.block ?_
   refine k_a (k_m rfl ?_)
   refine rC (Calm.indexS Try.underlying22 ty_size_41 rfl rfl (by omega) (by omega)) ?_
   refine rC (ld_ ty_plain_41 rfl) ?_
   refine k_s rfl (k_e rfl ?_)
   refine k_u [(3,_),(4,_),(16,_),(17,_),(18,_),(19,_),(5,_),(6,_)] ?_
   refine AWP.region ?_
   refine k_m rfl (k_m rfl (k_m rfl (k_m rfl ?_)))
   refine ARun.call (lit_lt rfl) go_128 rfl (odU_search _ l[i] D _ (hvD.less hMM) hD1 (hlD _ (List.getElem_mem hil)) (by omega)) ?_
   rintro _ S1 ⟨rfl,e1⟩
   rw [e1];clear e1 S1
   refine k_m rfl ?_
   refine rC (Calm.extract rfl rfl) ?_
   refine rC (Calm.extract rfl rfl) ?_
   refine rC (Calm.indexS Try.underlying24 ty_size_3 rfl rfl (by omega) (by omega)) ?_
   refine ARun.store1 rfl rfl ty_size_3 rfl own_ lens_ rfl ?_
   try simp only [k_ms,k_sz,k_ss,k_za,Nat.reduceAdd]
   refine arun_nil ?_
   refine ain_n ?_
   refine athen_n ?_
   refine k_u [(3,_),(4,_),(16,_),(17,_),(18,_),(19,_),(5,_),(6,_)] ?_
   simp only [Nat.zero_add,Nat.mul_one,Int.toNat_natCast]
   have key:(((l.take i).map (cntL D)).map gI ++ List.replicate (n-i) (gI 0)).set i (gI (cntL D l[i]))=((l.take (i+1)).map (cntL D)).map gI ++ List.replicate (n-(i+1)) (gI 0):=by rw [fill_map gI ((l.take i).map (cntL D)) 0 n i (cntL D l[i]) (by simp;omega) hc,show (l.take i).map (cntL D) ++ [cntL D l[i]]=(l.take (i+1)).map (cntL D) by rw [List.take_succ_eq_append_getElem hil,List.map_append];rfl]
   refine AWP.less (M.set b15 ⟨3,((l.take (i+1)).map (cntL D)).map gI ++ List.replicate (n-(i+1)) (gI 0),n⟩) (by rw [← key];exact Mem.Less.refl _) ?_
   refine AWP.region ?_
   refine rC (Calm.bin rfl rfl b_add_i64) ?_
   refine k_m rfl (k_n ?_)
   refine ⟨i+1,?_,?_,?_,?_⟩
   all_goals (try dsimp only)
   ·exact ⟨sq_,sq_,sq_,sq_,sq_,trivial⟩
   ·exact Mem.Less.refl _
   ·exact hc
   ·omega
  ·obtain rfl:i=n:=by omega
   refine k_a ?_
   refine rC (Calm.bin rfl rfl b_lss) ?_
   refine k_n (AWP.seq ?_)
   refine k_F rfl ?_
   rw [Nat.sub_self,List.replicate_zero,List.append_nil,List.take_of_length_le (by omega)]
   refine AWP.exit ?_
   refine athen_exit ?_
   refine athen_exit ?_
   refine ain_same ?_
   refine athen_n ?_
   refine k_a (k_m rfl (k_e rfl ?_))
   refine k_u [(3,_),(4,_),(16,_),(17,_),(18,_),(19,_),(2,_)] ?_
   refine AWP.ret ?_
   refine ⟨_,_,⟨_,_,rfl,rfl,rfl⟩,Mem.Less.refl _,?_⟩
   exact ⟨D,hlD,hD3,hSM.trans (Mem.less_set _ _ _ f15.1),Sl.own1 (g:=gI) (l:=l.map (cntL D)) (Mem.own_set_same _ _ _) List.prefix_rfl (by rw [List.length_map];exact hn.symm) (Nat.le_refl _) (by omega)⟩
end Go.Proofs.Ytgidjbpgkeemiaa
namespace Go.Proofs.Ytgidjbpgkeemiaa
open Go.RowKit
open Mv Num Loser Srt
set_option maxRecDepth 4000
/-- What the program's Ends hands back, its own. -/
def EndsN (l : List Nat) (S : Mem) (r : Value) (S' : Mem) : Prop := (l.length ≤ 4096 ∧ ∃ u, r = .tuple #[u, .int .i64 0] ∧ OwnL gI 3 (Ord.endsR l l.length) S u S') ∨ (4096 < l.length ∧ r = .tuple #[.slice none 0 0, .int .i64 1] ∧ S' = S)
theorem od_EndsN (v : Value) (l : List Nat) (S : Mem) (hv : RowR S v l) :
  ACall Try.prog 47 #[v] S (EndsN l S):=by
 obtain ⟨va,vc,rfl,v1,v2,v3⟩:=id hv
 by_cases hbig:4096<l.length
 ·skip
  refine ACall.enter (rs:=[.tmp 2,.tmp 3]) 10 [(0,.slice va l.length vc)] Try.func47 rfl rfl (Nat.le_of_ble_eq_true rfl) rfl ⟨rfl,trivial⟩ ?_
  refine k_a (k_s rfl (k_e rfl (AWP.seq (k_a ?_))))
  refine k_m rfl ?_
  refine rC (Calm.lenSl Try.underlying22 rfl) ?_
  refine rC (Calm.bin rfl rfl b_gtr) ?_
  refine k_n ?_
  refine k_u [(0,_),(2,_),(3,_),(6,_)] ?_
  refine k_T rfl ?_
  refine k_a (k_s rfl (k_e rfl ?_))
  refine k_r ?_
  refine ⟨_,S,⟨_,_,rfl,⟨_,_,rfl,rfl,rfl⟩,rfl⟩,less_,?_⟩
  exact .inr ⟨hbig,rfl,rfl⟩
 ·skip
  refine ACall.enter (rs:=[.tmp 2,.tmp 3]) 10 [(0,.slice va l.length vc)] Try.func47 rfl rfl (Nat.le_of_ble_eq_true rfl) rfl ⟨rfl,trivial⟩ ?_
  refine k_a (k_s rfl (k_e rfl (AWP.seq (k_a ?_))))
  refine k_m rfl ?_
  refine rC (Calm.lenSl Try.underlying22 rfl) ?_
  refine rC (Calm.bin rfl rfl b_gtr) ?_
  refine k_n ?_
  refine k_u [(0,_),(2,_),(3,_),(6,_)] ?_
  refine k_F rfl ?_
  refine k_k (k_a (k_m rfl ?_))
  refine ARun.call (lit_lt rfl) go_90 rfl (odU_ranks _ l S hv (by omega)) ?_
  rintro u S1 ⟨D,hD,hDl,hS1,hu⟩
  refine ARun.call (lit_lt rfl) go_89 rfl (od_endsN u l (l.map (cntL D)) S1 hu (by rw [List.length_map]) (by omega) (fun x hx=>by obtain ⟨y,_,rfl⟩:=List.mem_map.1 hx;have:=cnt_le D y;omega) (rk_cnt l D hD)) ?_
  rintro u2 S2 ⟨M2,hM2,hN2⟩
  refine k_s rfl (k_e rfl ?_)
  refine k_u [(0,_),(2,_),(3,_),(6,_)] ?_
  refine AWP.ret ?_
  refine ⟨_,S2,⟨_,_,rfl,⟨_,_,rfl,rfl,rfl⟩,rfl⟩,Mem.Less.refl _,?_⟩
  exact .inl ⟨by omega,u2,rfl,M2,hS1.trans hM2,hN2⟩
theorem od_Ends (v : Value) (l : List Nat) (S : Mem) (hv : RowR S v l) :
  ACall Try.prog 47 #[v] S (EndsR l S):=(od_EndsN v l S hv).mono fun r S' h=>by
 rcases h with ⟨h,u,e,hN⟩ | h
 ·exact .inl ⟨h,u,e,hN.rd (by rw [(Ord.endsR_ok l).len];omega)⟩
 ·exact .inr h
end Go.Proofs.Ytgidjbpgkeemiaa
namespace Go.Proofs.Ytgidjbpgkeemiaa
open Go.RowKit
open Mv Num Loser Srt
set_option maxRecDepth 4000
/-- The byte at a place, as a number. -/
def byT (s : ByteArray) (i : Nat) : Nat := (nb (at8 s.data.toList i)).toNat
theorem byT_nb (s : ByteArray) (i : Nat) : nb (at8 s.data.toList i) = (byT s i : Int) := by unfold byT; rw [Int.toNat_of_nonneg]; unfold nb; omega
def numsT (s : ByteArray) : List Nat := (List.range s.size).map (byT s)
theorem numsT_length (s : ByteArray) : (numsT s).length = s.size := by simp [numsT]
set_option maxHeartbeats 1000000 in
theorem rr_Numbers (s : ByteArray) (S : Mem) (hs : s.size ≤ 1048576) :
  ACall Try.prog 88 #[.string s] S (RdL gU (numsT s) S):=by
 refine ACall.enter (rs:=[.tmp 2]) 19 [(0,.string s)] Try.func88 rfl rfl (Nat.le_of_ble_eq_true rfl) rfl ⟨rfl,trivial⟩ ?_
 refine k_a (k_e rfl (k_a (k_e rfl (AWP.seq ?_))))
 refine k_a (k_e rfl ?_)
 refine AWP.block ?_
 refine AWP.loop (X:=Nat × Option (Nat × Nat)) (fun x=>[(0,.string s),(3,outV x.2 x.1),(4,.int .i64 x.1)]) (fun x=>outM S x.2 41 (((List.range x.1).map (byT s)).map gU)) (fun x=>x.1≤s.size∧OkO S x.2 x.1) (fun x=>s.size-x.1) ((0,none)) ⟨rfl,rfl,rfl,trivial⟩ (Mem.Less.refl _) (⟨Nat.zero_le _,okO_nil _⟩) ?_
 rintro ⟨i,o⟩ ⟨q1,q2⟩
 (try dsimp only at *)
 by_cases hi:i<s.size
 ·refine AWP.seq (k_a (k_m rfl (k_m rfl ?_)))
  refine rC (Calm.lenStr (strT_spec ty_str_9) rfl) ?_
  refine rC (Calm.bin rfl rfl b_lss) ?_
  refine k_n ?_
  refine k_u [(0,_),(3,_),(4,_),(8,_)] ?_
  refine k_T rfl ?_
  have hlen:(((List.range i).map (byT s)).map gU).length=i:=by simp
  refine k_k (AWP.seq ?_)
  refine AWP.block ?_
  refine AWP.region ?_
  refine k_m rfl (k_m rfl (k_m rfl ?_))
  refine rC ((by first | exact Calm.indexStrN (strT_spec ty_str_9) rfl rfl (by omega) | exact Calm.indexStr (strT_spec ty_str_9) rfl rfl (by omega) (by omega))) ?_
  refine rC (Calm.conv rfl (by first | exact conv_intW Try.underlying5 Try.underlying41 (IntWalk.u64_in _ (by omega)) | exact conv_intW Try.underlying5 Try.underlying41 (wrap_nb_u64 _) | exact conv_int Try.underlying5 Try.underlying41)) ?_
  refine ARun.build1s (lit_lt rfl) ty_sl_22 rfl rfl ?_
  intro b16 f16
  have g16:=f16
  repeat ((with_reducible replace g16:=fresh_set g16);obtain ⟨g16,_⟩:=g16)
  refine ARun.appendO (lit_lt rfl) ty_sl_22 rfl hlen (appO_of q2 hlen f16) rfl (news:=[_]) rds_ rfl (by omega) (by simp [Value.oneCell']) (by omega) (by omega) ?_
  intro b17 c17 ho2
  have hpush:((List.range i).map (byT s)).map gU ++ [gU (byT s i)]=((List.range (i+1)).map (byT s)).map gU:=by rw [List.range_succ];simp
  refine k_s rfl ?_
  refine arun_nil ?_
  refine ain_n ?_
  refine athen_n ?_
  refine k_u [(0,_),(3,_),(4,_),(8,_)] ?_
  refine AWP.region ?_
  refine k_m rfl ?_
  refine rC (Calm.bin rfl rfl b_add_i64) ?_
  refine k_e rfl ?_
  refine ⟨(i+1,some (b17,c17)),?_,?_,?_,?_⟩
  all_goals (try dsimp only)
  ·exact ⟨sq_,rfl,sq_,trivial⟩
  ·rw [← hpush,byT_nb];exact Mem.Less.refl _
  ·exact ⟨hi,ho2⟩
  ·omega
 ·obtain rfl:i=s.size:=by omega
  refine AWP.seq (k_a (k_m rfl (k_m rfl ?_)))
  refine rC (Calm.lenStr (strT_spec ty_str_9) rfl) ?_
  refine rC (Calm.bin rfl rfl b_lss) ?_
  refine k_n ?_
  refine k_u [(0,_),(3,_),(4,_),(8,_)] ?_
  refine k_F rfl ?_
  refine AWP.exit ?_
  refine athen_exit ?_
  refine athen_exit ?_
  refine ain_same ?_
  refine athen_n ?_
  refine k_a (k_m rfl (k_e rfl ?_))
  refine k_u [(0,_),(3,_),(4,_),(8,_),(2,_)] ?_
  refine AWP.ret ?_
  refine ⟨_,_,⟨_,_,rfl,rfl,rfl⟩,Mem.Less.refl _,?_⟩
  exact RdL.of_out q2 (numsT_length s) (by omega)
end Go.Proofs.Ytgidjbpgkeemiaa
namespace Go.Proofs.Ytgidjbpgkeemiaa
open Go.RowKit
open Mv Srt
open Go.Sort (swp insInner insOuter insertionSort siftDown heapBuild heapPop heapSort scanUp scanDown partLoop partition partEqLoop partitionEqual scanSorted shiftDown shiftUp partialIns partialInsertionSort order2 median medianAdjacent choosePivot reverseLoop reverseRange breakStep breakPatterns pdq bitsLen xorNext Hint)
set_option maxRecDepth 4000
def encB (x : Nat) : Value := .int .u8 (x : Int)
theorem soB_nan (x : Nat) (S : Mem) : ACall Try.prog 199 #[encB x] S fun r S' => r = .bool false ∧ S' = S := by
 unfold encB
 refine ACall.enter (rs:=[.tmp 2]) 6 [(0,.int .u8 x)] Try.func199 rfl rfl (Nat.le_of_ble_eq_true rfl) rfl ⟨rfl,trivial⟩ ?_
 refine k_a (k_e rfl (k_a (k_m rfl (k_m rfl ?_))))
 refine rC (Calm.bin rfl rfl b_neq) ?_
 refine k_e rfl ?_
 refine k_u [(0,_),(2,_)] ?_
 refine AWP.ret ?_
 refine ⟨_,S,⟨_,_,rfl,rfl,rfl⟩,less_,?_⟩
 exact ⟨rfl,rfl⟩
theorem soB_less (x y : Nat) (S : Mem) : ACall Try.prog 165 #[encB x, encB y] S fun r S' => r = .bool (ltN x y) ∧ S' = S := by
 have hlt:decide ((x:Int)<(y:Int))=ltN x y:=by unfold ltN;rw [Bool.eq_iff_iff];simp
 have hx:=soB_nan x S
 unfold encB at *
 refine ACall.enter (rs:=[.tmp 4]) 17 [(0,.int .u8 x),(1,.int .u8 y)] Try.func165 rfl rfl (Nat.le_of_ble_eq_true rfl) rfl ⟨rfl,rfl,trivial⟩ ?_
 refine k_a (k_e rfl (k_a (k_m rfl ?_)))
 refine ARun.call (lit_lt rfl) go_199 rfl (hx) ?_
 rintro _ S1 ⟨rfl,h1⟩
 rw [h1];clear h1 S1
 refine k_m rfl ?_
 first|refine k_q 7 ?_|refine rG 7 (Calm.move rfl) ?_
 first | refine rS 7 ?_ | refine rU 7 ?_
 first|refine k_q 7 ?_|refine rG 7 (Calm.un rfl (una_not _)) ?_
 first|refine k_t rfl rfl ?_|refine k_f rfl rfl ?_
 refine k_m rfl ?_
 first|refine k_q 12 ?_|refine rG 12 (Calm.move rfl) ?_
 first|refine k_q 12 ?_|refine rG 12 (Calm.move rfl) ?_
 first|refine k_q 12 ?_|refine rG 12 (Calm.bin rfl rfl (bin_bool (bin_lss _ _) hlt)) ?_
 first|refine k_t rfl rfl ?_|refine k_f rfl rfl ?_
 refine k_e rfl ?_
 refine k_u [(0,_),(1,_),(4,_)] ?_
 refine AWP.ret ?_
 refine ⟨_,S,⟨_,_,rfl,rfl,rfl⟩,less_,?_⟩
 exact ⟨rfl,rfl⟩
set_option maxHeartbeats 4000000 in
theorem soB_ins {S : Mem} (b room n cap : Nat) (hb : Fresh S b) (hn : n ≤ 1048576) (d : Array Nat) (R : Rw (fun _ => True) n d) (ia ie : Int) (a e : Nat) (ha : ia = a) (he : ie = e) (han : a ≤ n) (hen : e ≤ n) :
  ACall Try.prog 191 #[.slice (some ⟨b,0,none⟩) n cap,.int .i64 ia,.int .i64 ie] (S.set b ⟨5,(d).toList.map encB,room⟩) fun r S'=>S'=S.set b ⟨5,(insertionSort ltN d a e).toList.map encB,room⟩∧Rw (fun _=>True) n (insertionSort ltN d a e):=by
 subst ha he
 refine ACall.enter (rs:=[]) 49 [(0,.slice (some ⟨b,0,none⟩) n cap),(1,.int .i64 a),(2,.int .i64 e)] Try.func191 rfl rfl (Nat.le_of_ble_eq_true rfl) rfl ⟨rfl,rfl,rfl,trivial⟩ ?_
 refine k_a (k_m rfl ?_)
 refine rC (Calm.bin rfl rfl b_add_i64) ?_
 refine k_e rfl ?_
 refine k_u [(0,_),(1,_),(2,_),(6,_)] ?_
 refine AWP.block ?_
 refine AWP.loop (X:=Nat × Array Nat) (fun x=>[(0,.slice (some ⟨b,0,none⟩) n cap),(1,.int .i64 a),(2,.int .i64 e),(6,.int .i64 x.1)]) (fun x=>S.set b ⟨5,(x.2).toList.map encB,room⟩) (fun x=>a<x.1∧(x.1≤n∨e≤x.1)∧Rw (fun _=>True) n x.2∧insOuter ltN a e x.1 x.2=insertionSort ltN d a e) (fun x=>e-x.1) ((a+1,d)) ⟨sb_,sb_,sb_,sb_,trivial⟩ (Mem.Less.refl _) (⟨by omega,by omega,R,rfl⟩) ?_
 rintro ⟨i,d1⟩ ⟨h1,h2,R1,h3⟩
 (try dsimp only at *)
 have z1:=R1.size
 by_cases hi:i<e
 ·refine AWP.seq (k_a (k_m rfl (k_m rfl ?_)))
  refine rC (Calm.bin rfl rfl b_lss) ?_
  refine k_n ?_
  refine k_u [(0,_),(1,_),(2,_),(6,_),(12,_)] ?_
  refine k_T rfl ?_
  refine k_k (AWP.seq ?_)
  refine AWP.block ?_
  refine k_a (k_m rfl (k_e rfl ?_))
  refine k_u [(0,_),(1,_),(2,_),(6,_),(12,_),(7,_)] ?_
  refine AWP.block ?_
  refine AWP.loop (X:=Nat × Array Nat) (fun x=>[(0,.slice (some ⟨b,0,none⟩) n cap),(1,.int .i64 a),(2,.int .i64 e),(6,.int .i64 i),(7,.int .i64 x.1)]) (fun x=>S.set b ⟨5,(x.2).toList.map encB,room⟩) (fun x=>x.1≤i∧Rw (fun _=>True) n x.2∧insInner ltN a x.1 x.2=insInner ltN a i d1) (fun x=>x.1) ((i,d1)) ⟨rfl,rfl,rfl,rfl,rfl,trivial⟩ (Mem.Less.refl _) (⟨Nat.le_refl _,R1,rfl⟩) ?_
  rintro ⟨j,d2⟩ ⟨k1,R2,k3⟩
  (try dsimp only at *)
  have z2:=R2.size
  have q0:=outer_go ltN (a:=a) (d:=d1) hi
  by_cases ha:a<j
  ·obtain ⟨j,rfl⟩ : ∃ q,j=q+1:=⟨j-1,by omega⟩
   refine AWP.seq (AWP.seq ?_)
   refine AWP.draw [(0,true),(1,true),(2,true),(3,true),(4,true),(5,true),(6,true),(7,true),(8,true),(9,true),(10,true),(11,true),(12,true),(13,false),(14,true)] [] mixed (by kernel_rfl) ?_
   refine dP (hc:=fun _=>Calm.move rfl) (h:=?_)
   refine dP (hc:=fun _=>Calm.move rfl) (h:=?_)
   refine dP (hc:=fun _=>Calm.bin rfl rfl b_gtr) (h:=?_)
   refine dP (hc:=fun _=>Calm.move rfl) (h:=?_)
   first|refine k_d ?_|refine dG (hc:=fun _=>Calm.move rfl) (h:=?_)
   first|refine k_d ?_|refine dG (hc:=fun _=>Calm.move rfl) (h:=?_)
   first|refine k_d ?_|refine dG (hc:=fun _=>Calm.indexS Try.underlying107 ty_size_5 rfl rfl (by omega) (by omega)) (h:=?_)
   first|refine k_d ?_|refine dL (hc:=Calm.load ty_plain_5 rfl (rd_row (k:=j+1) own_ rw_ rw_)) (h:=?_)
   first|refine k_d ?_|refine dG (hc:=fun _=>Calm.move rfl) (h:=?_)
   first|refine k_d ?_|refine dG (hc:=fun _=>Calm.move rfl) (h:=?_)
   first|refine k_d ?_|refine dG (hc:=fun _=>Calm.bin rfl rfl b_sub_i64) (h:=?_)
   first|refine k_d ?_|refine dG (hc:=fun _=>Calm.indexS Try.underlying107 ty_size_5 rfl rfl (by omega) (by omega)) (h:=?_)
   first|refine k_d ?_|refine dL (hc:=Calm.load ty_plain_5 rfl (rd_row (k:=j) own_ rw_ rw_)) (h:=?_)
   refine draw_only rfl ?_
   refine ARun.callG 3 true 19 rfl (lit_lt rfl) rfl (lit_lt rfl) go_165 rfl (soB_less _ _ _) ?_
   rintro _ _ ⟨rfl,rfl⟩
   refine arun_nil ⟨fun _=>less_,?_⟩
   refine dP (hc:=fun _=>(by first | exact Calm.pickT rfl rfl | exact Calm.pickF rfl rfl)) (h:=?_)
   refine draw_nil ?_
   refine athen_n ?_
   refine k_u [(0,_),(1,_),(2,_),(6,_),(7,_),(30,_)] ?_
   refine AWP.condB rfl (fun hl=>?_) (fun hl=>?_)
   ·refine k_k (AWP.seq ?_)
    refine AWP.block ?_
    refine AWP.draw [(0,true),(1,true),(2,true),(3,true),(4,true),(5,true),(6,true),(7,true),(8,true),(9,true),(10,true),(11,true),(12,true),(13,true),(14,true),(15,false),(16,true),(17,false)] [15,17] mixed (by kernel_rfl) ?_
    refine dP (hc:=fun _=>Calm.move rfl) (h:=?_)
    refine dP (hc:=fun _=>Calm.move rfl) (h:=?_)
    refine dP (hc:=fun _=>Calm.move rfl) (h:=?_)
    refine dP (hc:=fun _=>Calm.move rfl) (h:=?_)
    refine dP (hc:=fun _=>Calm.bin rfl rfl b_sub_i64) (h:=?_)
    refine dP (hc:=fun _=>Calm.move rfl) (h:=?_)
    refine dP (hc:=fun _=>Calm.move rfl) (h:=?_)
    refine dP (hc:=fun _=>Calm.bin rfl rfl b_sub_i64) (h:=?_)
    refine dP (hc:=fun _=>Calm.indexS Try.underlying107 ty_size_5 rfl rfl (by omega) (by omega)) (h:=?_)
    refine dC (hc:=Calm.load ty_plain_5 rfl (rd_row (k:=j) own_ rw_ rw_)) (h:=?_)
    refine dP (hc:=fun _=>Calm.move rfl) (h:=?_)
    refine dP (hc:=fun _=>Calm.move rfl) (h:=?_)
    refine dP (hc:=fun _=>Calm.indexS Try.underlying107 ty_size_5 rfl rfl (by omega) (by omega)) (h:=?_)
    refine dC (hc:=Calm.load ty_plain_5 rfl (rd_row (k:=j+1) own_ rw_ rw_)) (h:=?_)
    refine dP (hc:=fun _=>Calm.indexS Try.underlying107 ty_size_5 rfl rfl (by omega) (by omega)) (h:=?_)
    refine draw_only rfl ?_
    refine ARun.storeRow encB (j+1) rfl rfl ty_size_5 ⟨rfl,rfl⟩ own_ rw_ rw_ ?_
    try simp only [k_ms,k_sz,k_ss,k_za,Nat.reduceAdd]
    refine arun_nil ⟨fun h=>absurd h (by decide),?_⟩
    refine dP (hc:=fun _=>Calm.indexS Try.underlying107 ty_size_5 rfl rfl (by omega) (by omega)) (h:=?_)
    refine draw_only rfl ?_
    refine ARun.storeRow encB (j) rfl rfl ty_size_5 ⟨rfl,rfl⟩ own_ rw_ rw_ ?_
    try simp only [k_ms,k_sz,k_ss,k_za,Nat.reduceAdd]
    refine arun_nil ⟨fun h=>absurd h (by decide),?_⟩
    refine draw_nil ?_
    refine ain_n ?_
    refine athen_n ?_
    refine k_u [(0,_),(1,_),(2,_),(6,_),(7,_),(30,_)] ?_
    refine AWP.region ?_
    refine k_m rfl ?_
    refine rC (Calm.bin rfl rfl b_sub_i64) ?_
    refine k_e rfl ?_
    refine ⟨(j,swp d2 (j+1) j),?_,?_,?_,?_⟩
    all_goals (try dsimp only)
    ·exact ⟨sb_,sb_,sb_,sb_,sb_,trivial⟩
    ·exact Mem.Less.refl _
    ·exact ⟨by omega,R2.swp _ _ (by omega) (by omega),(ins_go ltN ha hl).trans k3⟩
    ·omega
   ·refine AWP.exit ?_
    refine athen_exit ?_
    refine athen_exit ?_
    refine ain_same ?_
    refine ain_n ?_
    refine athen_n ?_
    refine AWP.region ?_
    refine k_m rfl ?_
    refine rC (Calm.bin rfl rfl b_add_i64) ?_
    refine k_e rfl ?_
    refine ⟨(i+1,d2),?_,?_,?_,?_⟩
    all_goals (try dsimp only)
    ·exact ⟨sb_,sb_,sb_,sb_,trivial⟩
    ·exact Mem.Less.refl _
    ·exact ⟨by omega,by omega,R2,by rw [← k3,← ins_no ltN hl] at q0;exact q0.trans h3⟩
    ·omega
  ·refine AWP.seq (AWP.seq ?_)
   refine AWP.draw [(0,true),(1,true),(2,true),(3,true),(4,true),(5,true),(6,true),(7,true),(8,true),(9,true),(10,true),(11,true),(12,true),(13,false),(14,true)] [] mixed (by kernel_rfl) ?_
   refine dP (hc:=fun _=>Calm.move rfl) (h:=?_)
   refine dP (hc:=fun _=>Calm.move rfl) (h:=?_)
   refine dP (hc:=fun _=>Calm.bin rfl rfl b_gtr) (h:=?_)
   refine dP (hc:=fun _=>Calm.move rfl) (h:=?_)
   first|refine k_d ?_|refine dG (hc:=fun _=>Calm.move rfl) (h:=?_)
   first|refine k_d ?_|refine dG (hc:=fun _=>Calm.move rfl) (h:=?_)
   first|refine k_d ?_|refine dG (hc:=fun _=>Calm.indexS Try.underlying107 ty_size_5 rfl rfl (by omega) (by omega)) (h:=?_)
   first|refine k_d ?_|refine dL (hc:=Calm.load ty_plain_5 rfl (rd_row (k:=j+1) own_ rw_ rw_)) (h:=?_)
   first|refine k_d ?_|refine dG (hc:=fun _=>Calm.move rfl) (h:=?_)
   first|refine k_d ?_|refine dG (hc:=fun _=>Calm.move rfl) (h:=?_)
   first|refine k_d ?_|refine dG (hc:=fun _=>Calm.bin rfl rfl b_sub_i64) (h:=?_)
   first|refine k_d ?_|refine dG (hc:=fun _=>Calm.indexS Try.underlying107 ty_size_5 rfl rfl (by omega) (by omega)) (h:=?_)
   first|refine k_d ?_|refine dL (hc:=Calm.load ty_plain_5 rfl (rd_row (k:=j) own_ rw_ rw_)) (h:=?_)
   refine draw_only rfl ?_
   first | refine rS 19 ?_ | refine rU 19 ?_
   refine arun_nil ⟨fun _=>less_,?_⟩
   refine dP (hc:=fun _=>(by first | exact Calm.pickT rfl rfl | exact Calm.pickF rfl rfl)) (h:=?_)
   refine draw_nil ?_
   refine athen_n ?_
   refine k_u [(0,_),(1,_),(2,_),(6,_),(7,_),(30,_)] ?_
   refine k_F rfl ?_
   refine AWP.exit ?_
   refine athen_exit ?_
   refine athen_exit ?_
   refine ain_same ?_
   refine ain_n ?_
   refine athen_n ?_
   refine AWP.region ?_
   refine k_m rfl ?_
   refine rC (Calm.bin rfl rfl b_add_i64) ?_
   refine k_e rfl ?_
   refine ⟨(i+1,d2),?_,?_,?_,?_⟩
   all_goals (try dsimp only)
   ·exact ⟨sb_,sb_,sb_,sb_,trivial⟩
   ·exact Mem.Less.refl _
   ·exact ⟨by omega,by omega,R2,by rw [← k3,← ins_end ltN ha] at q0;exact q0.trans h3⟩
   ·omega
 ·refine AWP.seq (k_a (k_m rfl (k_m rfl ?_)))
  refine rC (Calm.bin rfl rfl b_lss) ?_
  refine k_n ?_
  refine k_u [(0,_),(1,_),(2,_),(6,_),(12,_)] ?_
  refine k_F rfl ?_
  refine AWP.exit ?_
  refine athen_exit ?_
  refine athen_exit ?_
  refine ain_same ?_
  refine ⟨_,_,rfl,Mem.Less.refl _,?_⟩
  rw [← h3,← outer_end ltN hi];exact ⟨rfl,R1⟩
set_option maxHeartbeats 4000000 in
theorem soB_sift {S : Mem} (b room n cap : Nat) (hb : Fresh S b) (hn : n ≤ 1048576) (d : Array Nat) (R : Rw (fun _ => True) n d) (il ih iF : Int) (lo hi first : Nat) (el : il = lo) (eh : ih = hi) (ef : iF = first) (hlo : lo ≤ n) (hfn : first + hi ≤ n) :
  ACall Try.prog 207 #[.slice (some ⟨b,0,none⟩) n cap,.int .i64 il,.int .i64 ih,.int .i64 iF] (S.set b ⟨5,(d).toList.map encB,room⟩) fun r S'=>S'=S.set b ⟨5,(siftDown ltN hi first lo d).toList.map encB,room⟩∧Rw (fun _=>True) n (siftDown ltN hi first lo d):=by
 subst el eh ef
 refine ACall.enter (rs:=[]) 76 [(0,.slice (some ⟨b,0,none⟩) n cap),(1,.int .i64 lo),(2,.int .i64 hi),(3,.int .i64 first)] Try.func207 rfl rfl (Nat.le_of_ble_eq_true rfl) rfl ⟨rfl,rfl,rfl,rfl,trivial⟩ ?_
 refine k_a (k_m rfl (k_e rfl ?_))
 refine k_u [(0,_),(1,_),(2,_),(3,_),(8,_)] ?_
 refine AWP.block ?_
 refine AWP.loop (X:=Nat × Array Nat) (fun x=>[(0,.slice (some ⟨b,0,none⟩) n cap),(2,.int .i64 hi),(3,.int .i64 first),(8,.int .i64 x.1)]) (fun x=>S.set b ⟨5,(x.2).toList.map encB,room⟩) (fun x=>x.1≤n∧Rw (fun _=>True) n x.2∧siftDown ltN hi first x.1 x.2=siftDown ltN hi first lo d) (fun x=>n+1-x.1) ((lo,d)) ⟨rfl,rfl,rfl,rfl,trivial⟩ (Mem.Less.refl _) (⟨hlo,R,rfl⟩) ?_
 rintro ⟨r,d1⟩ ⟨h1,R1,h3⟩
 (try dsimp only at *)
 have z1:=R1.size
 by_cases hc:hi≤2*r+1
 ·refine AWP.block ?_
  refine k_a (k_m rfl ?_)
  refine rC (Calm.bin rfl rfl b_mul_i64) ?_
  refine rC (Calm.bin rfl rfl b_add_i64) ?_
  refine k_e rfl ?_
  refine k_u [(0,_),(2,_),(3,_),(8,_),(9,_)] ?_
  refine AWP.seq (k_a (k_m rfl (k_m rfl ?_)))
  refine rC (Calm.bin rfl rfl b_geq) ?_
  refine k_n ?_
  refine k_u [(0,_),(2,_),(3,_),(8,_),(9,_),(16,_)] ?_
  refine k_T rfl ?_
  refine AWP.exit ?_
  refine athen_exit ?_
  refine ain_other rfl ?_
  refine athen_exit ?_
  refine ain_same ?_
  refine ⟨_,_,rfl,Mem.Less.refl _,?_⟩
  rw [← h3,← sift_leaf ltN hc];exact ⟨rfl,R1⟩
 ·refine AWP.block ?_
  refine k_a (k_m rfl ?_)
  refine rC (Calm.bin rfl rfl b_mul_i64) ?_
  refine rC (Calm.bin rfl rfl b_add_i64) ?_
  refine k_e rfl ?_
  refine k_u [(0,_),(2,_),(3,_),(8,_),(9,_)] ?_
  refine AWP.seq (k_a (k_m rfl (k_m rfl ?_)))
  refine rC (Calm.bin rfl rfl b_geq) ?_
  refine k_n ?_
  refine k_u [(0,_),(2,_),(3,_),(8,_),(9,_),(16,_)] ?_
  refine k_F rfl ?_
  by_cases h2:2*r+2<hi
  ·refine k_k (AWP.seq (AWP.seq ?_))
   refine AWP.draw [(0,true),(1,true),(2,true),(3,true),(4,true),(5,true),(6,true),(7,true),(8,true),(9,true),(10,true),(11,true),(12,true),(13,true),(14,true),(15,true),(16,true),(17,true),(18,false),(19,true)] [] mixed (by kernel_rfl) ?_
   refine dP (hc:=fun _=>Calm.move rfl) (h:=?_)
   refine dP (hc:=fun _=>Calm.bin rfl rfl b_add_i64) (h:=?_)
   refine dP (hc:=fun _=>Calm.move rfl) (h:=?_)
   refine dP (hc:=fun _=>Calm.bin rfl rfl b_lss) (h:=?_)
   refine dP (hc:=fun _=>Calm.move rfl) (h:=?_)
   first|refine k_d ?_|refine dG (hc:=fun _=>Calm.move rfl) (h:=?_)
   first|refine k_d ?_|refine dG (hc:=fun _=>Calm.move rfl) (h:=?_)
   first|refine k_d ?_|refine dG (hc:=fun _=>Calm.move rfl) (h:=?_)
   first|refine k_d ?_|refine dG (hc:=fun _=>Calm.bin rfl rfl b_add_i64) (h:=?_)
   first|refine k_d ?_|refine dG (hc:=fun _=>Calm.indexS Try.underlying107 ty_size_5 rfl rfl (by omega) (by omega)) (h:=?_)
   first|refine k_d ?_|refine dL (hc:=Calm.load ty_plain_5 rfl (rd_row (k:=first+(2*r+1)) own_ rw_ rw_)) (h:=?_)
   first|refine k_d ?_|refine dG (hc:=fun _=>Calm.move rfl) (h:=?_)
   first|refine k_d ?_|refine dG (hc:=fun _=>Calm.move rfl) (h:=?_)
   first|refine k_d ?_|refine dG (hc:=fun _=>Calm.move rfl) (h:=?_)
   first|refine k_d ?_|refine dG (hc:=fun _=>Calm.bin rfl rfl b_add_i64) (h:=?_)
   first|refine k_d ?_|refine dG (hc:=fun _=>Calm.bin rfl rfl b_add_i64) (h:=?_)
   first|refine k_d ?_|refine dG (hc:=fun _=>Calm.indexS Try.underlying107 ty_size_5 rfl rfl (by omega) (by omega)) (h:=?_)
   first|refine k_d ?_|refine dL (hc:=Calm.load ty_plain_5 rfl (rd_row (k:=first+(2*r+2)) own_ rw_ rw_)) (h:=?_)
   refine draw_only rfl ?_
   refine ARun.callG 4 true 21 rfl (lit_lt rfl) rfl (lit_lt rfl) go_165 rfl (soB_less _ _ _) ?_
   rintro _ _ ⟨rfl,rfl⟩
   refine arun_nil ⟨fun _=>less_,?_⟩
   refine dP (hc:=fun _=>(by first | exact Calm.pickT rfl rfl | exact Calm.pickF rfl rfl)) (h:=?_)
   refine draw_nil ?_
   refine athen_n ?_
   refine k_u [(0,_),(2,_),(3,_),(8,_),(9,_),(16,_),(36,_)] ?_
   refine AWP.condB rfl (fun hl=>?_) (fun hl=>?_)
   ·have ch:child ltN hi first r d1=2*r+2:=if_pos ⟨h2,hl⟩
    refine AWP.region ?_
    refine k_m rfl ?_
    refine rC (Calm.bin rfl rfl b_add_i64) ?_
    refine k_e rfl ?_
    refine k_u [(0,_),(2,_),(3,_),(8,_),(9,_),(16,_),(36,_)] ?_
    refine AWP.seq (AWP.seq ?_)
    refine AWP.draw [(0,true),(1,true),(2,true),(3,true),(4,true),(5,true),(6,true),(7,true),(8,true),(9,true),(10,true),(11,true),(12,false),(13,true)] [] mixed (by kernel_rfl) ?_
    refine dP (hc:=fun _=>Calm.move rfl) (h:=?_)
    refine dP (hc:=fun _=>Calm.move rfl) (h:=?_)
    refine dP (hc:=fun _=>Calm.move rfl) (h:=?_)
    refine dP (hc:=fun _=>Calm.bin rfl rfl b_add_i64) (h:=?_)
    refine dP (hc:=fun _=>Calm.indexS Try.underlying107 ty_size_5 rfl rfl (by omega) (by omega)) (h:=?_)
    refine dC (hc:=Calm.load ty_plain_5 rfl (rd_row (k:=first+r) own_ rw_ rw_)) (h:=?_)
    refine dP (hc:=fun _=>Calm.move rfl) (h:=?_)
    refine dP (hc:=fun _=>Calm.move rfl) (h:=?_)
    refine dP (hc:=fun _=>Calm.move rfl) (h:=?_)
    refine dP (hc:=fun _=>Calm.bin rfl rfl b_add_i64) (h:=?_)
    refine dP (hc:=fun _=>Calm.indexS Try.underlying107 ty_size_5 rfl rfl (by omega) (by omega)) (h:=?_)
    refine dC (hc:=Calm.load ty_plain_5 rfl (rd_row (k:=first+(2*r+2)) own_ rw_ rw_)) (h:=?_)
    refine draw_only rfl ?_
    refine ARun.call (lit_lt rfl) go_165 rfl (soB_less _ _ _) ?_
    rintro _ _ ⟨rfl,rfl⟩
    refine arun_nil ⟨fun _=>less_,?_⟩
    refine dP (hc:=fun _=>Calm.un rfl (una_not _)) (h:=?_)
    refine draw_nil ?_
    refine athen_n ?_
    refine k_u [(0,_),(2,_),(3,_),(8,_),(9,_),(16,_),(36,_),(52,_)] ?_
    refine AWP.condB rfl (fun hl2=>?_) (fun hl2=>?_)
    ·have hl2:=nt_ hl2
     refine k_r ?_
     refine ain_ret ?_
     refine athen_ret ?_
     refine ain_ret ?_
     refine ⟨_,_,rfl,Mem.Less.refl _,?_⟩
     rw [← h3,← sift_stop ltN hc (by rw [ch];exact hl2)];exact ⟨rfl,R1⟩
    ·have hl2:=nf_ hl2
     refine k_k (AWP.seq ?_)
     refine AWP.draw [(0,true),(1,true),(2,true),(3,true),(4,true),(5,true),(6,true),(7,true),(8,true),(9,true),(10,true),(11,true),(12,true),(13,true),(14,true),(15,true),(16,true),(17,true),(18,true),(19,true),(20,true),(21,false),(22,true),(23,false)] [21,23] mixed (by kernel_rfl) ?_
     refine dP (hc:=fun _=>Calm.move rfl) (h:=?_)
     refine dP (hc:=fun _=>Calm.move rfl) (h:=?_)
     refine dP (hc:=fun _=>Calm.move rfl) (h:=?_)
     refine dP (hc:=fun _=>Calm.bin rfl rfl b_add_i64) (h:=?_)
     refine dP (hc:=fun _=>Calm.move rfl) (h:=?_)
     refine dP (hc:=fun _=>Calm.move rfl) (h:=?_)
     refine dP (hc:=fun _=>Calm.move rfl) (h:=?_)
     refine dP (hc:=fun _=>Calm.bin rfl rfl b_add_i64) (h:=?_)
     refine dP (hc:=fun _=>Calm.move rfl) (h:=?_)
     refine dP (hc:=fun _=>Calm.move rfl) (h:=?_)
     refine dP (hc:=fun _=>Calm.move rfl) (h:=?_)
     refine dP (hc:=fun _=>Calm.bin rfl rfl b_add_i64) (h:=?_)
     refine dP (hc:=fun _=>Calm.indexS Try.underlying107 ty_size_5 rfl rfl (by omega) (by omega)) (h:=?_)
     refine dC (hc:=Calm.load ty_plain_5 rfl (rd_row (k:=first+(2*r+2)) own_ rw_ rw_)) (h:=?_)
     refine dP (hc:=fun _=>Calm.move rfl) (h:=?_)
     refine dP (hc:=fun _=>Calm.move rfl) (h:=?_)
     refine dP (hc:=fun _=>Calm.move rfl) (h:=?_)
     refine dP (hc:=fun _=>Calm.bin rfl rfl b_add_i64) (h:=?_)
     refine dP (hc:=fun _=>Calm.indexS Try.underlying107 ty_size_5 rfl rfl (by omega) (by omega)) (h:=?_)
     refine dC (hc:=Calm.load ty_plain_5 rfl (rd_row (k:=first+r) own_ rw_ rw_)) (h:=?_)
     refine dP (hc:=fun _=>Calm.indexS Try.underlying107 ty_size_5 rfl rfl (by omega) (by omega)) (h:=?_)
     refine draw_only rfl ?_
     refine ARun.storeRow encB (first+r) rfl rfl ty_size_5 ⟨rfl,rfl⟩ own_ rw_ rw_ ?_
     try simp only [k_ms,k_sz,k_ss,k_za,Nat.reduceAdd]
     refine arun_nil ⟨fun h=>absurd h (by decide),?_⟩
     refine dP (hc:=fun _=>Calm.indexS Try.underlying107 ty_size_5 rfl rfl (by omega) (by omega)) (h:=?_)
     refine draw_only rfl ?_
     refine ARun.storeRow encB (first+(2*r+2)) rfl rfl ty_size_5 ⟨rfl,rfl⟩ own_ rw_ rw_ ?_
     try simp only [k_ms,k_sz,k_ss,k_za,Nat.reduceAdd]
     refine arun_nil ⟨fun h=>absurd h (by decide),?_⟩
     refine draw_nil ?_
     refine athen_n ?_
     refine k_u [(0,_),(2,_),(3,_),(8,_),(9,_),(16,_),(36,_),(52,_)] ?_
     refine AWP.region ?_
     refine k_m rfl (k_s rfl ?_)
     refine arun_nil ?_
     refine ain_n ?_
     refine athen_n ?_
     refine ⟨(2*r+2,swp d1 (first+r) (first+(2*r+2))),?_,?_,?_,?_⟩
     all_goals (try dsimp only)
     ·exact ⟨sb_,sb_,sb_,sb_,trivial⟩
     ·exact Mem.Less.refl _
     ·exact ⟨by omega,R1.swp _ _ (by omega) (by omega),by have q0:=sift_go ltN hc (by rw [ch];exact hl2);rw [ch] at q0;exact q0.trans h3⟩
     ·omega
   ·have ch:child ltN hi first r d1=2*r+1:=if_neg (fun h=>Bool.noConfusion (hl.symm.trans h.2))
    refine k_k (AWP.seq (AWP.seq ?_))
    refine AWP.draw [(0,true),(1,true),(2,true),(3,true),(4,true),(5,true),(6,true),(7,true),(8,true),(9,true),(10,true),(11,true),(12,false),(13,true)] [] mixed (by kernel_rfl) ?_
    refine dP (hc:=fun _=>Calm.move rfl) (h:=?_)
    refine dP (hc:=fun _=>Calm.move rfl) (h:=?_)
    refine dP (hc:=fun _=>Calm.move rfl) (h:=?_)
    refine dP (hc:=fun _=>Calm.bin rfl rfl b_add_i64) (h:=?_)
    refine dP (hc:=fun _=>Calm.indexS Try.underlying107 ty_size_5 rfl rfl (by omega) (by omega)) (h:=?_)
    refine dC (hc:=Calm.load ty_plain_5 rfl (rd_row (k:=first+r) own_ rw_ rw_)) (h:=?_)
    refine dP (hc:=fun _=>Calm.move rfl) (h:=?_)
    refine dP (hc:=fun _=>Calm.move rfl) (h:=?_)
    refine dP (hc:=fun _=>Calm.move rfl) (h:=?_)
    refine dP (hc:=fun _=>Calm.bin rfl rfl b_add_i64) (h:=?_)
    refine dP (hc:=fun _=>Calm.indexS Try.underlying107 ty_size_5 rfl rfl (by omega) (by omega)) (h:=?_)
    refine dC (hc:=Calm.load ty_plain_5 rfl (rd_row (k:=first+(2*r+1)) own_ rw_ rw_)) (h:=?_)
    refine draw_only rfl ?_
    refine ARun.call (lit_lt rfl) go_165 rfl (soB_less _ _ _) ?_
    rintro _ _ ⟨rfl,rfl⟩
    refine arun_nil ⟨fun _=>less_,?_⟩
    refine dP (hc:=fun _=>Calm.un rfl (una_not _)) (h:=?_)
    refine draw_nil ?_
    refine athen_n ?_
    refine k_u [(0,_),(2,_),(3,_),(8,_),(9,_),(16,_),(36,_),(52,_)] ?_
    refine AWP.condB rfl (fun hl2=>?_) (fun hl2=>?_)
    ·have hl2:=nt_ hl2
     refine k_r ?_
     refine ain_ret ?_
     refine athen_ret ?_
     refine ain_ret ?_
     refine ⟨_,_,rfl,Mem.Less.refl _,?_⟩
     rw [← h3,← sift_stop ltN hc (by rw [ch];exact hl2)];exact ⟨rfl,R1⟩
    ·have hl2:=nf_ hl2
     refine k_k (AWP.seq ?_)
     refine AWP.draw [(0,true),(1,true),(2,true),(3,true),(4,true),(5,true),(6,true),(7,true),(8,true),(9,true),(10,true),(11,true),(12,true),(13,true),(14,true),(15,true),(16,true),(17,true),(18,true),(19,true),(20,true),(21,false),(22,true),(23,false)] [21,23] mixed (by kernel_rfl) ?_
     refine dP (hc:=fun _=>Calm.move rfl) (h:=?_)
     refine dP (hc:=fun _=>Calm.move rfl) (h:=?_)
     refine dP (hc:=fun _=>Calm.move rfl) (h:=?_)
     refine dP (hc:=fun _=>Calm.bin rfl rfl b_add_i64) (h:=?_)
     refine dP (hc:=fun _=>Calm.move rfl) (h:=?_)
     refine dP (hc:=fun _=>Calm.move rfl) (h:=?_)
     refine dP (hc:=fun _=>Calm.move rfl) (h:=?_)
     refine dP (hc:=fun _=>Calm.bin rfl rfl b_add_i64) (h:=?_)
     refine dP (hc:=fun _=>Calm.move rfl) (h:=?_)
     refine dP (hc:=fun _=>Calm.move rfl) (h:=?_)
     refine dP (hc:=fun _=>Calm.move rfl) (h:=?_)
     refine dP (hc:=fun _=>Calm.bin rfl rfl b_add_i64) (h:=?_)
     refine dP (hc:=fun _=>Calm.indexS Try.underlying107 ty_size_5 rfl rfl (by omega) (by omega)) (h:=?_)
     refine dC (hc:=Calm.load ty_plain_5 rfl (rd_row (k:=first+(2*r+1)) own_ rw_ rw_)) (h:=?_)
     refine dP (hc:=fun _=>Calm.move rfl) (h:=?_)
     refine dP (hc:=fun _=>Calm.move rfl) (h:=?_)
     refine dP (hc:=fun _=>Calm.move rfl) (h:=?_)
     refine dP (hc:=fun _=>Calm.bin rfl rfl b_add_i64) (h:=?_)
     refine dP (hc:=fun _=>Calm.indexS Try.underlying107 ty_size_5 rfl rfl (by omega) (by omega)) (h:=?_)
     refine dC (hc:=Calm.load ty_plain_5 rfl (rd_row (k:=first+r) own_ rw_ rw_)) (h:=?_)
     refine dP (hc:=fun _=>Calm.indexS Try.underlying107 ty_size_5 rfl rfl (by omega) (by omega)) (h:=?_)
     refine draw_only rfl ?_
     refine ARun.storeRow encB (first+r) rfl rfl ty_size_5 ⟨rfl,rfl⟩ own_ rw_ rw_ ?_
     try simp only [k_ms,k_sz,k_ss,k_za,Nat.reduceAdd]
     refine arun_nil ⟨fun h=>absurd h (by decide),?_⟩
     refine dP (hc:=fun _=>Calm.indexS Try.underlying107 ty_size_5 rfl rfl (by omega) (by omega)) (h:=?_)
     refine draw_only rfl ?_
     refine ARun.storeRow encB (first+(2*r+1)) rfl rfl ty_size_5 ⟨rfl,rfl⟩ own_ rw_ rw_ ?_
     try simp only [k_ms,k_sz,k_ss,k_za,Nat.reduceAdd]
     refine arun_nil ⟨fun h=>absurd h (by decide),?_⟩
     refine draw_nil ?_
     refine athen_n ?_
     refine k_u [(0,_),(2,_),(3,_),(8,_),(9,_),(16,_),(36,_),(52,_)] ?_
     refine AWP.region ?_
     refine k_m rfl (k_s rfl ?_)
     refine arun_nil ?_
     refine ain_n ?_
     refine athen_n ?_
     refine ⟨(2*r+1,swp d1 (first+r) (first+(2*r+1))),?_,?_,?_,?_⟩
     all_goals (try dsimp only)
     ·exact ⟨sb_,sb_,sb_,sb_,trivial⟩
     ·exact Mem.Less.refl _
     ·exact ⟨by omega,R1.swp _ _ (by omega) (by omega),by have q0:=sift_go ltN hc (by rw [ch];exact hl2);rw [ch] at q0;exact q0.trans h3⟩
     ·omega
  ·refine k_k (AWP.seq (AWP.seq ?_))
   refine AWP.draw [(0,true),(1,true),(2,true),(3,true),(4,true),(5,true),(6,true),(7,true),(8,true),(9,true),(10,true),(11,true),(12,true),(13,true),(14,true),(15,true),(16,true),(17,true),(18,false),(19,true)] [] mixed (by kernel_rfl) ?_
   refine dP (hc:=fun _=>Calm.move rfl) (h:=?_)
   refine dP (hc:=fun _=>Calm.bin rfl rfl b_add_i64) (h:=?_)
   refine dP (hc:=fun _=>Calm.move rfl) (h:=?_)
   refine dP (hc:=fun _=>Calm.bin rfl rfl b_lss) (h:=?_)
   refine dP (hc:=fun _=>Calm.move rfl) (h:=?_)
   first|refine k_d ?_|refine dG (hc:=fun _=>Calm.move rfl) (h:=?_)
   first|refine k_d ?_|refine dG (hc:=fun _=>Calm.move rfl) (h:=?_)
   first|refine k_d ?_|refine dG (hc:=fun _=>Calm.move rfl) (h:=?_)
   first|refine k_d ?_|refine dG (hc:=fun _=>Calm.bin rfl rfl b_add_i64) (h:=?_)
   first|refine k_d ?_|refine dG (hc:=fun _=>Calm.indexS Try.underlying107 ty_size_5 rfl rfl (by omega) (by omega)) (h:=?_)
   first|refine k_d ?_|refine dL (hc:=Calm.load ty_plain_5 rfl (rd_row (k:=first+(2*r+1)) own_ rw_ rw_)) (h:=?_)
   first|refine k_d ?_|refine dG (hc:=fun _=>Calm.move rfl) (h:=?_)
   first|refine k_d ?_|refine dG (hc:=fun _=>Calm.move rfl) (h:=?_)
   first|refine k_d ?_|refine dG (hc:=fun _=>Calm.move rfl) (h:=?_)
   first|refine k_d ?_|refine dG (hc:=fun _=>Calm.bin rfl rfl b_add_i64) (h:=?_)
   first|refine k_d ?_|refine dG (hc:=fun _=>Calm.bin rfl rfl b_add_i64) (h:=?_)
   first|refine k_d ?_|refine dG (hc:=fun _=>Calm.indexS Try.underlying107 ty_size_5 rfl rfl (by omega) (by omega)) (h:=?_)
   first|refine k_d ?_|refine dL (hc:=Calm.load ty_plain_5 rfl (rd_row (k:=first+(2*r+2)) own_ rw_ rw_)) (h:=?_)
   refine draw_only rfl ?_
   first | refine rS 21 ?_ | refine rU 21 ?_
   refine arun_nil ⟨fun _=>less_,?_⟩
   refine dP (hc:=fun _=>(by first | exact Calm.pickT rfl rfl | exact Calm.pickF rfl rfl)) (h:=?_)
   refine draw_nil ?_
   refine athen_n ?_
   refine k_u [(0,_),(2,_),(3,_),(8,_),(9,_),(16,_),(36,_)] ?_
   refine k_F rfl ?_
   have ch:child ltN hi first r d1=2*r+1:=if_neg (fun h=>h2 h.1)
   refine k_k (AWP.seq (AWP.seq ?_))
   refine AWP.draw [(0,true),(1,true),(2,true),(3,true),(4,true),(5,true),(6,true),(7,true),(8,true),(9,true),(10,true),(11,true),(12,false),(13,true)] [] mixed (by kernel_rfl) ?_
   refine dP (hc:=fun _=>Calm.move rfl) (h:=?_)
   refine dP (hc:=fun _=>Calm.move rfl) (h:=?_)
   refine dP (hc:=fun _=>Calm.move rfl) (h:=?_)
   refine dP (hc:=fun _=>Calm.bin rfl rfl b_add_i64) (h:=?_)
   refine dP (hc:=fun _=>Calm.indexS Try.underlying107 ty_size_5 rfl rfl (by omega) (by omega)) (h:=?_)
   refine dC (hc:=Calm.load ty_plain_5 rfl (rd_row (k:=first+r) own_ rw_ rw_)) (h:=?_)
   refine dP (hc:=fun _=>Calm.move rfl) (h:=?_)
   refine dP (hc:=fun _=>Calm.move rfl) (h:=?_)
   refine dP (hc:=fun _=>Calm.move rfl) (h:=?_)
   refine dP (hc:=fun _=>Calm.bin rfl rfl b_add_i64) (h:=?_)
   refine dP (hc:=fun _=>Calm.indexS Try.underlying107 ty_size_5 rfl rfl (by omega) (by omega)) (h:=?_)
   refine dC (hc:=Calm.load ty_plain_5 rfl (rd_row (k:=first+(2*r+1)) own_ rw_ rw_)) (h:=?_)
   refine draw_only rfl ?_
   refine ARun.call (lit_lt rfl) go_165 rfl (soB_less _ _ _) ?_
   rintro _ _ ⟨rfl,rfl⟩
   refine arun_nil ⟨fun _=>less_,?_⟩
   refine dP (hc:=fun _=>Calm.un rfl (una_not _)) (h:=?_)
   refine draw_nil ?_
   refine athen_n ?_
   refine k_u [(0,_),(2,_),(3,_),(8,_),(9,_),(16,_),(36,_),(52,_)] ?_
   refine AWP.condB rfl (fun hl2=>?_) (fun hl2=>?_)
   ·have hl2:=nt_ hl2
    refine k_r ?_
    refine ain_ret ?_
    refine athen_ret ?_
    refine ain_ret ?_
    refine ⟨_,_,rfl,Mem.Less.refl _,?_⟩
    rw [← h3,← sift_stop ltN hc (by rw [ch];exact hl2)];exact ⟨rfl,R1⟩
   ·have hl2:=nf_ hl2
    refine k_k (AWP.seq ?_)
    refine AWP.draw [(0,true),(1,true),(2,true),(3,true),(4,true),(5,true),(6,true),(7,true),(8,true),(9,true),(10,true),(11,true),(12,true),(13,true),(14,true),(15,true),(16,true),(17,true),(18,true),(19,true),(20,true),(21,false),(22,true),(23,false)] [21,23] mixed (by kernel_rfl) ?_
    refine dP (hc:=fun _=>Calm.move rfl) (h:=?_)
    refine dP (hc:=fun _=>Calm.move rfl) (h:=?_)
    refine dP (hc:=fun _=>Calm.move rfl) (h:=?_)
    refine dP (hc:=fun _=>Calm.bin rfl rfl b_add_i64) (h:=?_)
    refine dP (hc:=fun _=>Calm.move rfl) (h:=?_)
    refine dP (hc:=fun _=>Calm.move rfl) (h:=?_)
    refine dP (hc:=fun _=>Calm.move rfl) (h:=?_)
    refine dP (hc:=fun _=>Calm.bin rfl rfl b_add_i64) (h:=?_)
    refine dP (hc:=fun _=>Calm.move rfl) (h:=?_)
    refine dP (hc:=fun _=>Calm.move rfl) (h:=?_)
    refine dP (hc:=fun _=>Calm.move rfl) (h:=?_)
    refine dP (hc:=fun _=>Calm.bin rfl rfl b_add_i64) (h:=?_)
    refine dP (hc:=fun _=>Calm.indexS Try.underlying107 ty_size_5 rfl rfl (by omega) (by omega)) (h:=?_)
    refine dC (hc:=Calm.load ty_plain_5 rfl (rd_row (k:=first+(2*r+1)) own_ rw_ rw_)) (h:=?_)
    refine dP (hc:=fun _=>Calm.move rfl) (h:=?_)
    refine dP (hc:=fun _=>Calm.move rfl) (h:=?_)
    refine dP (hc:=fun _=>Calm.move rfl) (h:=?_)
    refine dP (hc:=fun _=>Calm.bin rfl rfl b_add_i64) (h:=?_)
    refine dP (hc:=fun _=>Calm.indexS Try.underlying107 ty_size_5 rfl rfl (by omega) (by omega)) (h:=?_)
    refine dC (hc:=Calm.load ty_plain_5 rfl (rd_row (k:=first+r) own_ rw_ rw_)) (h:=?_)
    refine dP (hc:=fun _=>Calm.indexS Try.underlying107 ty_size_5 rfl rfl (by omega) (by omega)) (h:=?_)
    refine draw_only rfl ?_
    refine ARun.storeRow encB (first+r) rfl rfl ty_size_5 ⟨rfl,rfl⟩ own_ rw_ rw_ ?_
    try simp only [k_ms,k_sz,k_ss,k_za,Nat.reduceAdd]
    refine arun_nil ⟨fun h=>absurd h (by decide),?_⟩
    refine dP (hc:=fun _=>Calm.indexS Try.underlying107 ty_size_5 rfl rfl (by omega) (by omega)) (h:=?_)
    refine draw_only rfl ?_
    refine ARun.storeRow encB (first+(2*r+1)) rfl rfl ty_size_5 ⟨rfl,rfl⟩ own_ rw_ rw_ ?_
    try simp only [k_ms,k_sz,k_ss,k_za,Nat.reduceAdd]
    refine arun_nil ⟨fun h=>absurd h (by decide),?_⟩
    refine draw_nil ?_
    refine athen_n ?_
    refine k_u [(0,_),(2,_),(3,_),(8,_),(9,_),(16,_),(36,_),(52,_)] ?_
    refine AWP.region ?_
    refine k_m rfl (k_s rfl ?_)
    refine arun_nil ?_
    refine ain_n ?_
    refine athen_n ?_
    refine ⟨(2*r+1,swp d1 (first+r) (first+(2*r+1))),?_,?_,?_,?_⟩
    all_goals (try dsimp only)
    ·exact ⟨sb_,sb_,sb_,sb_,trivial⟩
    ·exact Mem.Less.refl _
    ·exact ⟨by omega,R1.swp _ _ (by omega) (by omega),by have q0:=sift_go ltN hc (by rw [ch];exact hl2);rw [ch] at q0;exact q0.trans h3⟩
    ·omega
set_option maxHeartbeats 4000000 in
theorem soB_heap {S : Mem} (b room n cap : Nat) (hb : Fresh S b) (hn : n ≤ 1048576) (d : Array Nat) (R : Rw (fun _ => True) n d) (ia ie : Int) (a e : Nat) (ha : ia = a) (he : ie = e) (hae : a < e) (hen : e ≤ n) :
  ACall Try.prog 192 #[.slice (some ⟨b,0,none⟩) n cap,.int .i64 ia,.int .i64 ie] (S.set b ⟨5,(d).toList.map encB,room⟩) fun r S'=>S'=S.set b ⟨5,(heapSort ltN d a e).toList.map encB,room⟩∧Rw (fun _=>True) n (heapSort ltN d a e):=by
 subst ha he
 obtain ⟨L,rfl⟩ : ∃ L,e=a+L:=⟨e-a,by omega⟩
 have hH:heapPop ltN a L (heapBuild ltN L a ((L-1) / 2+1) d)=heapSort ltN d a (a+L):=by unfold heapSort;rw [Nat.add_sub_cancel_left]
 refine ACall.enter (rs:=[]) 56 [(0,.slice (some ⟨b,0,none⟩) n cap),(1,.int .i64 a),(2,.int .i64 ((a+L:Nat):Int))] Try.func192 rfl rfl (Nat.le_of_ble_eq_true rfl) rfl ⟨rfl,rfl,rfl,trivial⟩ ?_
 refine k_a (k_m rfl (k_e rfl ?_))
 refine k_u [(0,_),(1,_),(2,_),(6,_)] ?_
 refine k_a (k_e rfl (k_a (k_m rfl (k_m rfl ?_))))
 refine rC (Calm.bin rfl rfl b_sub_i64) ?_
 refine k_e rfl ?_
 refine k_u [(0,_),(1,_),(2,_),(6,_),(7,_),(8,_)] ?_
 refine AWP.seq (k_a (k_m rfl ?_))
 refine rC (Calm.bin rfl rfl b_sub_i64) ?_
 refine rC (Calm.bin rfl rfl b_quo_i64) ?_
 refine k_e rfl ?_
 refine k_u [(0,_),(1,_),(2,_),(6,_),(7,_),(8,_),(9,_)] ?_
 refine AWP.block ?_
 refine AWP.loop (X:=Nat × Array Nat) (fun x=>[(0,.slice (some ⟨b,0,none⟩) n cap),(6,.int .i64 a),(7,.int .i64 0),(8,.int .i64 L),(9,.int .i64 ((x.1:Int)-1))]) (fun x=>S.set b ⟨5,(x.2).toList.map encB,room⟩) (fun x=>x.1≤L∧Rw (fun _=>True) n x.2∧heapPop ltN a L (heapBuild ltN L a x.1 x.2)=heapSort ltN d a (a+L)) (fun x=>x.1) (((L-1) / 2+1,d)) ⟨sb_,sb_,sb_,sb_,sb_,trivial⟩ (Mem.Less.refl _) (⟨by omega,R,hH⟩) ?_
 rintro ⟨k,d1⟩ ⟨h1,R1,h3⟩
 (try dsimp only at *)
 by_cases hk:0<k
 ·obtain ⟨k,rfl⟩ : ∃ q,k=q+1:=⟨k-1,by omega⟩
  refine AWP.seq (k_a (k_m rfl ?_))
  refine rC (Calm.bin rfl rfl b_geq) ?_
  refine k_n ?_
  refine k_u [(0,_),(6,_),(7,_),(8,_),(9,_),(19,_)] ?_
  refine k_T rfl ?_
  refine k_k (AWP.seq ?_)
  refine AWP.block ?_
  refine AWP.region ?_
  refine k_m rfl (k_m rfl (k_m rfl (k_m rfl ?_)))
  refine ARun.call (lit_lt rfl) go_207 rfl (soB_sift b room n cap hb hn d1 R1 _ _ _ k L a rw_ rw_ rfl (by omega) (by omega)) ?_
  rintro _ _ ⟨rfl,R2⟩
  refine arun_nil ?_
  refine ain_n ?_
  refine athen_n ?_
  refine k_u [(0,_),(6,_),(7,_),(8,_),(9,_),(19,_)] ?_
  refine AWP.region ?_
  refine k_m rfl ?_
  refine rC (Calm.bin rfl rfl b_sub_i64) ?_
  refine k_e rfl ?_
  refine ⟨(k,siftDown ltN L a k d1),?_,?_,?_,?_⟩
  all_goals (try dsimp only)
  ·exact ⟨sb_,sb_,sb_,sb_,sb_,trivial⟩
  ·exact Mem.Less.refl _
  ·exact ⟨by omega,R2,h3⟩
  ·omega
 ·obtain rfl:k=0:=by omega
  refine AWP.seq (k_a (k_m rfl ?_))
  refine rC (Calm.bin rfl rfl b_geq) ?_
  refine k_n ?_
  refine k_u [(0,_),(6,_),(7,_),(8,_),(9,_),(19,_)] ?_
  refine k_F rfl ?_
  refine AWP.exit ?_
  refine athen_exit ?_
  refine athen_exit ?_
  refine ain_same ?_
  refine athen_n ?_
  refine k_a (k_m rfl ?_)
  refine rC (Calm.bin rfl rfl b_sub_i64) ?_
  refine k_e rfl ?_
  refine k_u [(0,_),(6,_),(7,_),(8,_),(9,_),(19,_),(10,_)] ?_
  refine AWP.block ?_
  refine AWP.loop (X:=Nat × Array Nat) (fun x=>[(0,.slice (some ⟨b,0,none⟩) n cap),(6,.int .i64 a),(7,.int .i64 0),(10,.int .i64 ((x.1:Int)-1))]) (fun x=>S.set b ⟨5,(x.2).toList.map encB,room⟩) (fun x=>x.1≤L∧Rw (fun _=>True) n x.2∧heapPop ltN a x.1 x.2=heapSort ltN d a (a+L)) (fun x=>x.1) ((L,d1)) ⟨sb_,sb_,sb_,sb_,trivial⟩ (Mem.Less.refl _) (⟨Nat.le_refl _,R1,h3⟩) ?_
  rintro ⟨k,d2⟩ ⟨k1,R2,k3⟩
  (try dsimp only at *)
  have z2:=R2.size
  by_cases hk:0<k
  ·obtain ⟨k,rfl⟩ : ∃ q,k=q+1:=⟨k-1,by omega⟩
   refine AWP.seq (k_a (k_m rfl ?_))
   refine rC (Calm.bin rfl rfl b_geq) ?_
   refine k_n ?_
   refine k_u [(0,_),(6,_),(7,_),(10,_),(30,_)] ?_
   refine k_T rfl ?_
   refine k_k (AWP.seq ?_)
   refine AWP.block ?_
   refine AWP.seq ?_
   refine AWP.draw [(0,true),(1,true),(2,true),(3,true),(4,true),(5,true),(6,true),(7,true),(8,true),(9,true),(10,true),(11,true),(12,true),(13,true),(14,true),(15,true),(16,true),(17,false),(18,true),(19,false)] [17,19] mixed (by kernel_rfl) ?_
   refine dP (hc:=fun _=>Calm.move rfl) (h:=?_)
   refine dP (hc:=fun _=>Calm.move rfl) (h:=?_)
   refine dP (hc:=fun _=>Calm.move rfl) (h:=?_)
   refine dP (hc:=fun _=>Calm.move rfl) (h:=?_)
   refine dP (hc:=fun _=>Calm.move rfl) (h:=?_)
   refine dP (hc:=fun _=>Calm.bin rfl rfl b_add_i64) (h:=?_)
   refine dP (hc:=fun _=>Calm.move rfl) (h:=?_)
   refine dP (hc:=fun _=>Calm.move rfl) (h:=?_)
   refine dP (hc:=fun _=>Calm.move rfl) (h:=?_)
   refine dP (hc:=fun _=>Calm.bin rfl rfl b_add_i64) (h:=?_)
   refine dP (hc:=fun _=>Calm.indexS Try.underlying107 ty_size_5 rfl rfl (by omega) (by omega)) (h:=?_)
   refine dC (hc:=Calm.load ty_plain_5 rfl (rd_row (k:=a+k) own_ rw_ rw_)) (h:=?_)
   refine dP (hc:=fun _=>Calm.move rfl) (h:=?_)
   refine dP (hc:=fun _=>Calm.move rfl) (h:=?_)
   refine dP (hc:=fun _=>Calm.indexS Try.underlying107 ty_size_5 rfl rfl (by omega) (by omega)) (h:=?_)
   refine dC (hc:=Calm.load ty_plain_5 rfl (rd_row (k:=a) own_ rw_ rw_)) (h:=?_)
   refine dP (hc:=fun _=>Calm.indexS Try.underlying107 ty_size_5 rfl rfl (by omega) (by omega)) (h:=?_)
   refine draw_only rfl ?_
   refine ARun.storeRow encB (a) rfl rfl ty_size_5 ⟨rfl,rfl⟩ own_ rw_ rw_ ?_
   try simp only [k_ms,k_sz,k_ss,k_za,Nat.reduceAdd]
   refine arun_nil ⟨fun h=>absurd h (by decide),?_⟩
   refine dP (hc:=fun _=>Calm.indexS Try.underlying107 ty_size_5 rfl rfl (by omega) (by omega)) (h:=?_)
   refine draw_only rfl ?_
   refine ARun.storeRow encB (a+k) rfl rfl ty_size_5 ⟨rfl,rfl⟩ own_ rw_ rw_ ?_
   try simp only [k_ms,k_sz,k_ss,k_za,Nat.reduceAdd]
   refine arun_nil ⟨fun h=>absurd h (by decide),?_⟩
   refine draw_nil ?_
   refine athen_n ?_
   refine k_u [(0,_),(6,_),(7,_),(10,_),(30,_)] ?_
   refine AWP.region ?_
   refine k_m rfl (k_m rfl (k_m rfl (k_m rfl ?_)))
   refine ARun.call (lit_lt rfl) go_207 rfl (soB_sift b room n cap hb hn (swp d2 a (a+k)) (R2.swp _ _ (by omega) (by omega)) _ _ _ 0 k a rfl rw_ rfl (by omega) (by omega)) ?_
   rintro _ _ ⟨rfl,R3⟩
   refine arun_nil ?_
   refine ain_n ?_
   refine athen_n ?_
   refine k_u [(0,_),(6,_),(7,_),(10,_),(30,_)] ?_
   refine AWP.region ?_
   refine k_m rfl ?_
   refine rC (Calm.bin rfl rfl b_sub_i64) ?_
   refine k_e rfl ?_
   refine ⟨(k,siftDown ltN k a 0 (swp d2 a (a+k))),?_,?_,?_,?_⟩
   all_goals (try dsimp only)
   ·exact ⟨sb_,sb_,sb_,sb_,trivial⟩
   ·exact Mem.Less.refl _
   ·exact ⟨by omega,R3,k3⟩
   ·omega
  ·obtain rfl:k=0:=by omega
   refine AWP.seq (k_a (k_m rfl ?_))
   refine rC (Calm.bin rfl rfl b_geq) ?_
   refine k_n ?_
   refine k_u [(0,_),(6,_),(7,_),(10,_),(30,_)] ?_
   refine k_F rfl ?_
   refine AWP.exit ?_
   refine athen_exit ?_
   refine athen_exit ?_
   refine ain_same ?_
   refine ⟨_,_,rfl,Mem.Less.refl _,?_⟩
   rw [← k3];exact ⟨rfl,R2⟩
set_option maxHeartbeats 4000000 in
theorem soB_part {S : Mem} (b room n cap : Nat) (hb : Fresh S b) (hn : n ≤ 1048576) (d : Array Nat) (R : Rw (fun _ => True) n d) (ia ie ip : Int) (a e p : Nat) (ha : ia = a) (he : ie = e) (hpp : ip = p) (hap : a ≤ p) (hpe : p < e) (hen : e ≤ n) :
  ACall Try.prog 198 #[.slice (some ⟨b,0,none⟩) n cap,.int .i64 ia,.int .i64 ie,.int .i64 ip] (S.set b ⟨5,(d).toList.map encB,room⟩) fun r S'=>PartR Nat (fun x:Array Nat=>S.set b ⟨5,(x).toList.map encB,room⟩) (fun _=>True) n (partition ltN d a e p) a e r S':=by
 subst ha he hpp
 obtain ⟨J,rfl⟩ : ∃ J,e=J+1:=⟨e-1,by omega⟩
 have R0:=R.swp a p (by omega) (by omega)
 have z:=R.size
 obtain ⟨d0,hd0⟩ : ∃ d0,d0=swp d a p:=⟨_,rfl⟩
 rw [← hd0] at R0
 have z0:=R0.size
 refine ACall.enter (rs:=[.tmp 8,.tmp 9]) 168 [(0,.slice (some ⟨b,0,none⟩) n cap),(1,.int .i64 a),(2,.int .i64 ((J+1:Nat):Int)),(3,.int .i64 p)] Try.func198 rfl rfl (Nat.le_of_ble_eq_true rfl) rfl ⟨rfl,rfl,rfl,rfl,trivial⟩ ?_
 refine k_a (k_s rfl (k_e rfl (AWP.seq ?_)))
 refine AWP.draw [(0,true),(1,true),(2,true),(3,true),(4,true),(5,true),(6,true),(7,true),(8,true),(9,true),(10,true),(11,true),(12,true),(13,false),(14,true),(15,false)] [13,15] mixed (by kernel_rfl) ?_
 refine dP (hc:=fun _=>Calm.move rfl) (h:=?_)
 refine dP (hc:=fun _=>Calm.move rfl) (h:=?_)
 refine dP (hc:=fun _=>Calm.move rfl) (h:=?_)
 refine dP (hc:=fun _=>Calm.move rfl) (h:=?_)
 refine dP (hc:=fun _=>Calm.move rfl) (h:=?_)
 refine dP (hc:=fun _=>Calm.move rfl) (h:=?_)
 refine dP (hc:=fun _=>Calm.indexS Try.underlying107 ty_size_5 rfl rfl (by omega) (by omega)) (h:=?_)
 refine dC (hc:=Calm.load ty_plain_5 rfl (rd_row (k:=p) own_ rw_ rw_)) (h:=?_)
 refine dP (hc:=fun _=>Calm.move rfl) (h:=?_)
 refine dP (hc:=fun _=>Calm.move rfl) (h:=?_)
 refine dP (hc:=fun _=>Calm.indexS Try.underlying107 ty_size_5 rfl rfl (by omega) (by omega)) (h:=?_)
 refine dC (hc:=Calm.load ty_plain_5 rfl (rd_row (k:=a) own_ rw_ rw_)) (h:=?_)
 refine dP (hc:=fun _=>Calm.indexS Try.underlying107 ty_size_5 rfl rfl (by omega) (by omega)) (h:=?_)
 refine draw_only rfl ?_
 refine ARun.storeRow encB (a) rfl rfl ty_size_5 ⟨rfl,rfl⟩ own_ rw_ rw_ ?_
 try simp only [k_ms,k_sz,k_ss,k_za,Nat.reduceAdd]
 refine arun_nil ⟨fun h=>absurd h (by decide),?_⟩
 refine dP (hc:=fun _=>Calm.indexS Try.underlying107 ty_size_5 rfl rfl (by omega) (by omega)) (h:=?_)
 refine draw_only rfl ?_
 refine ARun.storeRow encB (p) rfl rfl ty_size_5 ⟨rfl,rfl⟩ own_ rw_ rw_ ?_
 try simp only [k_ms,k_sz,k_ss,k_za,Nat.reduceAdd]
 refine arun_nil ⟨fun h=>absurd h (by decide),?_⟩
 refine draw_nil ?_
 refine athen_n ?_
 refine k_u [(0,_),(1,_),(2,_),(3,_),(8,_),(9,_)] ?_
 refine AWP.less (S.set b ⟨5,(d0).toList.map encB,room⟩) (by rw [hd0];exact Mem.Less.refl _) ?_
 refine k_a (k_m rfl ?_)
 refine rC (Calm.bin rfl rfl b_add_i64) ?_
 refine k_m rfl ?_
 refine rC (Calm.bin rfl rfl b_sub_i64) ?_
 refine k_s rfl (k_e rfl ?_)
 refine k_u [(0,_),(1,_),(2,_),(3,_),(8,_),(9,_),(10,_),(11,_)] ?_
 refine AWP.seq ?_
 refine AWP.join (X:=Nat) (fun x=>[(0,.slice (some ⟨b,0,none⟩) n cap),(1,.int .i64 a),(10,.int .i64 x),(11,.int .i64 J)]) (fun _=>S.set b ⟨5,(d0).toList.map encB,room⟩) (fun x=>a+1≤x∧x≤J+1∧x=scanUp (fun x=>ltN x d0[a]!) d0 (J) (a+1)) ?_ ?_
 ·refine AWP.block ?_
  refine AWP.loop (X:=Nat) (fun x=>[(0,.slice (some ⟨b,0,none⟩) n cap),(1,.int .i64 a),(10,.int .i64 x),(11,.int .i64 J)]) (fun _=>S.set b ⟨5,(d0).toList.map encB,room⟩) (fun x=>a+1≤x∧x≤J+1∧scanUp (fun x=>ltN x d0[a]!) d0 (J) x=scanUp (fun x=>ltN x d0[a]!) d0 (J) (a+1)) (fun x=>J+1-x) ((a+1)) ⟨sb_,sb_,sb_,sb_,trivial⟩ (Mem.Less.refl _) (⟨by omega,by omega,rfl⟩) ?_
  rintro i ⟨q1,q2,q3⟩
  (try dsimp only at *)
  by_cases hij:i≤J
  ·refine AWP.seq (AWP.seq ?_)
   refine AWP.draw [(0,true),(1,true),(2,true),(3,true),(4,true),(5,true),(6,true),(7,true),(8,true),(9,true),(10,true),(11,true),(12,false),(13,true)] [] mixed (by kernel_rfl) ?_
   refine dP (hc:=fun _=>Calm.move rfl) (h:=?_)
   refine dP (hc:=fun _=>Calm.move rfl) (h:=?_)
   refine dP (hc:=fun _=>Calm.bin rfl rfl b_leq) (h:=?_)
   refine dP (hc:=fun _=>Calm.move rfl) (h:=?_)
   first|refine k_d ?_|refine dG (hc:=fun _=>Calm.move rfl) (h:=?_)
   first|refine k_d ?_|refine dG (hc:=fun _=>Calm.move rfl) (h:=?_)
   first|refine k_d ?_|refine dG (hc:=fun _=>Calm.indexS Try.underlying107 ty_size_5 rfl rfl (by omega) (by omega)) (h:=?_)
   first|refine k_d ?_|refine dL (hc:=Calm.load ty_plain_5 rfl (rd_row (k:=i) own_ rw_ rw_)) (h:=?_)
   first|refine k_d ?_|refine dG (hc:=fun _=>Calm.move rfl) (h:=?_)
   first|refine k_d ?_|refine dG (hc:=fun _=>Calm.move rfl) (h:=?_)
   first|refine k_d ?_|refine dG (hc:=fun _=>Calm.indexS Try.underlying107 ty_size_5 rfl rfl (by omega) (by omega)) (h:=?_)
   first|refine k_d ?_|refine dL (hc:=Calm.load ty_plain_5 rfl (rd_row (k:=a) own_ rw_ rw_)) (h:=?_)
   refine draw_only rfl ?_
   refine ARun.callG 3 true 33 rfl (lit_lt rfl) rfl (lit_lt rfl) go_165 rfl (soB_less _ _ _) ?_
   rintro _ _ ⟨rfl,rfl⟩
   refine arun_nil ⟨fun _=>less_,?_⟩
   refine dP (hc:=fun _=>(by first | exact Calm.pickT rfl rfl | exact Calm.pickF rfl rfl)) (h:=?_)
   refine draw_nil ?_
   refine athen_n ?_
   refine k_u [(0,_),(1,_),(10,_),(11,_),(43,_)] ?_
   refine AWP.condB rfl (fun hl=>?_) (fun hl=>?_)
   ·refine k_k ?_
    refine AWP.block ?_
    refine AWP.region ?_
    refine k_m rfl ?_
    refine rC (Calm.bin rfl rfl b_add_i64) ?_
    refine k_s rfl ?_
    refine arun_nil ?_
    refine ain_n ?_
    refine athen_n ?_
    refine ⟨i+1,?_,?_,?_,?_⟩
    all_goals (try dsimp only)
    ·exact ⟨sb_,sb_,sb_,sb_,trivial⟩
    ·exact Mem.Less.refl _
    ·exact ⟨by omega,by omega,(up_go (p:=(fun x=>ltN x d0[a]!)) hij (by simp only [hl,Bool.not_true,Bool.not_false])).trans q3⟩
    ·omega
   ·refine AWP.exit ?_
    refine athen_exit ?_
    refine athen_exit ?_
    refine ain_same ?_
    refine ⟨i,?_,?_,?_⟩
    all_goals (try dsimp only)
    ·exact ⟨by omega,by omega,(up_no (p:=(fun x=>ltN x d0[a]!)) (by simp only [hl,Bool.not_true,Bool.not_false])).trans q3⟩
    ·exact ⟨sb_,sb_,sb_,sb_,trivial⟩
    ·exact Mem.Less.refl _
  ·refine AWP.seq (AWP.seq ?_)
   refine AWP.draw [(0,true),(1,true),(2,true),(3,true),(4,true),(5,true),(6,true),(7,true),(8,true),(9,true),(10,true),(11,true),(12,false),(13,true)] [] mixed (by kernel_rfl) ?_
   refine dP (hc:=fun _=>Calm.move rfl) (h:=?_)
   refine dP (hc:=fun _=>Calm.move rfl) (h:=?_)
   refine dP (hc:=fun _=>Calm.bin rfl rfl b_leq) (h:=?_)
   refine dP (hc:=fun _=>Calm.move rfl) (h:=?_)
   first|refine k_d ?_|refine dG (hc:=fun _=>Calm.move rfl) (h:=?_)
   first|refine k_d ?_|refine dG (hc:=fun _=>Calm.move rfl) (h:=?_)
   first|refine k_d ?_|refine dG (hc:=fun _=>Calm.indexS Try.underlying107 ty_size_5 rfl rfl (by omega) (by omega)) (h:=?_)
   first|refine k_d ?_|refine dL (hc:=Calm.load ty_plain_5 rfl (rd_row (k:=i) own_ rw_ rw_)) (h:=?_)
   first|refine k_d ?_|refine dG (hc:=fun _=>Calm.move rfl) (h:=?_)
   first|refine k_d ?_|refine dG (hc:=fun _=>Calm.move rfl) (h:=?_)
   first|refine k_d ?_|refine dG (hc:=fun _=>Calm.indexS Try.underlying107 ty_size_5 rfl rfl (by omega) (by omega)) (h:=?_)
   first|refine k_d ?_|refine dL (hc:=Calm.load ty_plain_5 rfl (rd_row (k:=a) own_ rw_ rw_)) (h:=?_)
   refine draw_only rfl ?_
   first | refine rS 33 ?_ | refine rU 33 ?_
   refine arun_nil ⟨fun _=>less_,?_⟩
   refine dP (hc:=fun _=>(by first | exact Calm.pickT rfl rfl | exact Calm.pickF rfl rfl)) (h:=?_)
   refine draw_nil ?_
   refine athen_n ?_
   refine k_u [(0,_),(1,_),(10,_),(11,_),(43,_)] ?_
   refine k_F rfl ?_
   refine AWP.exit ?_
   refine athen_exit ?_
   refine athen_exit ?_
   refine ain_same ?_
   refine ⟨i,?_,?_,?_⟩
   all_goals (try dsimp only)
   ·exact ⟨by omega,by omega,(up_end (p:=(fun x=>ltN x d0[a]!)) hij).trans q3⟩
   ·exact ⟨sb_,sb_,sb_,sb_,trivial⟩
   ·exact Mem.Less.refl _
 rintro i2 ⟨b1,b2,hU⟩
 intro _ _ hs_ hl_
 (try dsimp only at *)
 refine athen_n ?_
 refine AWP.sub _ hs_ (AWP.less _ hl_ ?_)
 clear hs_ hl_
 refine AWP.seq ?_
 refine AWP.join (X:=Nat) (fun x=>[(0,.slice (some ⟨b,0,none⟩) n cap),(1,.int .i64 a),(10,.int .i64 i2),(11,.int .i64 x)]) (fun _=>S.set b ⟨5,(d0).toList.map encB,room⟩) (fun x=>a≤x∧x≤J∧x=scanDown (fun x=>!ltN x d0[a]!) d0 i2 J) ?_ ?_
 ·refine AWP.block ?_
  refine AWP.loop (X:=Nat) (fun x=>[(0,.slice (some ⟨b,0,none⟩) n cap),(1,.int .i64 a),(10,.int .i64 i2),(11,.int .i64 x)]) (fun _=>S.set b ⟨5,(d0).toList.map encB,room⟩) (fun x=>a≤x∧x≤J∧scanDown (fun x=>!ltN x d0[a]!) d0 i2 x=scanDown (fun x=>!ltN x d0[a]!) d0 i2 J) (fun x=>x) (J) ⟨sb_,sb_,sb_,sb_,trivial⟩ (Mem.Less.refl _) (⟨by omega,by omega,rfl⟩) ?_
  rintro j ⟨q1,q2,q3⟩
  (try dsimp only at *)
  by_cases hij:i2≤j
  ·obtain ⟨j,rfl⟩ : ∃ q,j=q+1:=⟨j-1,by omega⟩
   refine AWP.seq (AWP.seq ?_)
   refine AWP.draw [(0,true),(1,true),(2,true),(3,true),(4,true),(5,true),(6,true),(7,true),(8,true),(9,true),(10,true),(11,true),(12,false),(13,true),(14,true)] [] mixed (by kernel_rfl) ?_
   refine dP (hc:=fun _=>Calm.move rfl) (h:=?_)
   refine dP (hc:=fun _=>Calm.move rfl) (h:=?_)
   refine dP (hc:=fun _=>Calm.bin rfl rfl b_leq) (h:=?_)
   refine dP (hc:=fun _=>Calm.move rfl) (h:=?_)
   first|refine k_d ?_|refine dG (hc:=fun _=>Calm.move rfl) (h:=?_)
   first|refine k_d ?_|refine dG (hc:=fun _=>Calm.move rfl) (h:=?_)
   first|refine k_d ?_|refine dG (hc:=fun _=>Calm.indexS Try.underlying107 ty_size_5 rfl rfl (by omega) (by omega)) (h:=?_)
   first|refine k_d ?_|refine dL (hc:=Calm.load ty_plain_5 rfl (rd_row (k:=j+1) own_ rw_ rw_)) (h:=?_)
   first|refine k_d ?_|refine dG (hc:=fun _=>Calm.move rfl) (h:=?_)
   first|refine k_d ?_|refine dG (hc:=fun _=>Calm.move rfl) (h:=?_)
   first|refine k_d ?_|refine dG (hc:=fun _=>Calm.indexS Try.underlying107 ty_size_5 rfl rfl (by omega) (by omega)) (h:=?_)
   first|refine k_d ?_|refine dL (hc:=Calm.load ty_plain_5 rfl (rd_row (k:=a) own_ rw_ rw_)) (h:=?_)
   refine draw_only rfl ?_
   refine ARun.callG 3 true 49 rfl (lit_lt rfl) rfl (lit_lt rfl) go_165 rfl (soB_less _ _ _) ?_
   rintro _ _ ⟨rfl,rfl⟩
   refine arun_nil ⟨fun _=>less_,?_⟩
   first|refine k_d ?_|refine dG (hc:=fun _=>Calm.un rfl (una_not _)) (h:=?_)
   refine dP (hc:=fun _=>(by first | exact Calm.pickT rfl rfl | exact Calm.pickF rfl rfl)) (h:=?_)
   refine draw_nil ?_
   refine athen_n ?_
   refine k_u [(0,_),(1,_),(10,_),(11,_),(60,_)] ?_
   refine AWP.condB rfl (fun hl=>?_) (fun hl=>?_)
   ·have hl:=nt_ hl
    refine k_k ?_
    refine AWP.block ?_
    refine AWP.region ?_
    refine k_m rfl ?_
    refine rC (Calm.bin rfl rfl b_sub_i64) ?_
    refine k_s rfl ?_
    refine arun_nil ?_
    refine ain_n ?_
    refine athen_n ?_
    refine ⟨j,?_,?_,?_,?_⟩
    all_goals (try dsimp only)
    ·exact ⟨sb_,sb_,sb_,sb_,trivial⟩
    ·exact Mem.Less.refl _
    ·exact ⟨by omega,by omega,(down_go (p:=(fun x=>!ltN x d0[a]!)) hij (by simp only [hl,Bool.not_true,Bool.not_false])).trans q3⟩
    ·omega
   ·have hl:=nf_ hl
    refine AWP.exit ?_
    refine athen_exit ?_
    refine athen_exit ?_
    refine ain_same ?_
    refine ⟨(j+1),?_,?_,?_⟩
    all_goals (try dsimp only)
    ·exact ⟨by omega,by omega,(down_no (p:=(fun x=>!ltN x d0[a]!)) (by omega) (by simp only [hl,Bool.not_true,Bool.not_false])).trans q3⟩
    ·exact ⟨sb_,sb_,sb_,sb_,trivial⟩
    ·exact Mem.Less.refl _
  ·refine AWP.seq (AWP.seq ?_)
   refine AWP.draw [(0,true),(1,true),(2,true),(3,true),(4,true),(5,true),(6,true),(7,true),(8,true),(9,true),(10,true),(11,true),(12,false),(13,true),(14,true)] [] mixed (by kernel_rfl) ?_
   refine dP (hc:=fun _=>Calm.move rfl) (h:=?_)
   refine dP (hc:=fun _=>Calm.move rfl) (h:=?_)
   refine dP (hc:=fun _=>Calm.bin rfl rfl b_leq) (h:=?_)
   refine dP (hc:=fun _=>Calm.move rfl) (h:=?_)
   first|refine k_d ?_|refine dG (hc:=fun _=>Calm.move rfl) (h:=?_)
   first|refine k_d ?_|refine dG (hc:=fun _=>Calm.move rfl) (h:=?_)
   first|refine k_d ?_|refine dG (hc:=fun _=>Calm.indexS Try.underlying107 ty_size_5 rfl rfl (by omega) (by omega)) (h:=?_)
   first|refine k_d ?_|refine dL (hc:=Calm.load ty_plain_5 rfl (rd_row (k:=j+1) own_ rw_ rw_)) (h:=?_)
   first|refine k_d ?_|refine dG (hc:=fun _=>Calm.move rfl) (h:=?_)
   first|refine k_d ?_|refine dG (hc:=fun _=>Calm.move rfl) (h:=?_)
   first|refine k_d ?_|refine dG (hc:=fun _=>Calm.indexS Try.underlying107 ty_size_5 rfl rfl (by omega) (by omega)) (h:=?_)
   first|refine k_d ?_|refine dL (hc:=Calm.load ty_plain_5 rfl (rd_row (k:=a) own_ rw_ rw_)) (h:=?_)
   refine draw_only rfl ?_
   first | refine rS 49 ?_ | refine rU 49 ?_
   refine arun_nil ⟨fun _=>less_,?_⟩
   first|refine k_d ?_|refine dG (hc:=fun _=>Calm.un rfl (una_not _)) (h:=?_)
   refine dP (hc:=fun _=>(by first | exact Calm.pickT rfl rfl | exact Calm.pickF rfl rfl)) (h:=?_)
   refine draw_nil ?_
   refine athen_n ?_
   refine k_u [(0,_),(1,_),(10,_),(11,_),(60,_)] ?_
   refine k_F rfl ?_
   refine AWP.exit ?_
   refine athen_exit ?_
   refine athen_exit ?_
   refine ain_same ?_
   refine ⟨j,?_,?_,?_⟩
   all_goals (try dsimp only)
   ·exact ⟨by omega,by omega,(down_end (p:=(fun x=>!ltN x d0[a]!)) hij).trans q3⟩
   ·exact ⟨sb_,sb_,sb_,sb_,trivial⟩
   ·exact Mem.Less.refl _
 rintro j2 ⟨b3,b4,hD⟩
 intro _ _ hs_ hl_
 (try dsimp only at *)
 refine athen_n ?_
 refine AWP.sub _ hs_ (AWP.less _ hl_ ?_)
 clear hs_ hl_
 by_cases hx:j2<i2
 ·refine AWP.seq (k_a (k_m rfl (k_m rfl ?_)))
  refine rC (Calm.bin rfl rfl b_gtr) ?_
  refine k_n ?_
  refine k_u [(0,_),(1,_),(10,_),(11,_),(65,_)] ?_
  refine k_T rfl ?_
  refine AWP.seq ?_
  refine AWP.draw [(0,true),(1,true),(2,true),(3,true),(4,true),(5,true),(6,true),(7,true),(8,true),(9,true),(10,true),(11,true),(12,true),(13,false),(14,true),(15,false)] [13,15] mixed (by kernel_rfl) ?_
  refine dP (hc:=fun _=>Calm.move rfl) (h:=?_)
  refine dP (hc:=fun _=>Calm.move rfl) (h:=?_)
  refine dP (hc:=fun _=>Calm.move rfl) (h:=?_)
  refine dP (hc:=fun _=>Calm.move rfl) (h:=?_)
  refine dP (hc:=fun _=>Calm.move rfl) (h:=?_)
  refine dP (hc:=fun _=>Calm.move rfl) (h:=?_)
  refine dP (hc:=fun _=>Calm.indexS Try.underlying107 ty_size_5 rfl rfl (by omega) (by omega)) (h:=?_)
  refine dC (hc:=Calm.load ty_plain_5 rfl (rd_row (k:=a) own_ rw_ rw_)) (h:=?_)
  refine dP (hc:=fun _=>Calm.move rfl) (h:=?_)
  refine dP (hc:=fun _=>Calm.move rfl) (h:=?_)
  refine dP (hc:=fun _=>Calm.indexS Try.underlying107 ty_size_5 rfl rfl (by omega) (by omega)) (h:=?_)
  refine dC (hc:=Calm.load ty_plain_5 rfl (rd_row (k:=j2) own_ rw_ rw_)) (h:=?_)
  refine dP (hc:=fun _=>Calm.indexS Try.underlying107 ty_size_5 rfl rfl (by omega) (by omega)) (h:=?_)
  refine draw_only rfl ?_
  refine ARun.storeRow encB (j2) rfl rfl ty_size_5 ⟨rfl,rfl⟩ own_ rw_ rw_ ?_
  try simp only [k_ms,k_sz,k_ss,k_za,Nat.reduceAdd]
  refine arun_nil ⟨fun h=>absurd h (by decide),?_⟩
  refine dP (hc:=fun _=>Calm.indexS Try.underlying107 ty_size_5 rfl rfl (by omega) (by omega)) (h:=?_)
  refine draw_only rfl ?_
  refine ARun.storeRow encB (a) rfl rfl ty_size_5 ⟨rfl,rfl⟩ own_ rw_ rw_ ?_
  try simp only [k_ms,k_sz,k_ss,k_za,Nat.reduceAdd]
  refine arun_nil ⟨fun h=>absurd h (by decide),?_⟩
  refine draw_nil ?_
  refine athen_n ?_
  refine k_u [(0,_),(1,_),(10,_),(11,_),(65,_)] ?_
  refine k_a (k_m rfl (k_s rfl (k_e rfl ?_)))
  refine k_u [(0,_),(1,_),(10,_),(11,_),(65,_),(8,_),(9,_)] ?_
  refine k_r ?_
  refine ⟨_,_,⟨_,_,rfl,⟨_,_,rfl,rfl,rfl⟩,rfl⟩,Mem.Less.refl _,?_⟩
  exact part_res1 ltN hd0 hU hD hx (R0.swp _ _ (by omega) (by omega)) (by omega) (by omega)
 ·refine AWP.seq (k_a (k_m rfl (k_m rfl ?_)))
  refine rC (Calm.bin rfl rfl b_gtr) ?_
  refine k_n ?_
  refine k_u [(0,_),(1,_),(10,_),(11,_),(65,_)] ?_
  refine k_F rfl ?_
  refine k_k (AWP.seq ?_)
  refine AWP.draw [(0,true),(1,true),(2,true),(3,true),(4,true),(5,true),(6,true),(7,true),(8,true),(9,true),(10,true),(11,true),(12,true),(13,false),(14,true),(15,false)] [13,15] mixed (by kernel_rfl) ?_
  have R1:=R0.swp i2 j2 (by omega) (by omega)
  have hst:partLoop ltN a (i2+1) (j2-1) (swp d0 i2 j2)=partLoop ltN a (i2+1) (j2-1) (swp d0 i2 j2):=rfl
  refine dP (hc:=fun _=>Calm.move rfl) (h:=?_)
  refine dP (hc:=fun _=>Calm.move rfl) (h:=?_)
  refine dP (hc:=fun _=>Calm.move rfl) (h:=?_)
  refine dP (hc:=fun _=>Calm.move rfl) (h:=?_)
  refine dP (hc:=fun _=>Calm.move rfl) (h:=?_)
  refine dP (hc:=fun _=>Calm.move rfl) (h:=?_)
  refine dP (hc:=fun _=>Calm.indexS Try.underlying107 ty_size_5 rfl rfl (by omega) (by omega)) (h:=?_)
  refine dC (hc:=Calm.load ty_plain_5 rfl (rd_row (k:=j2) own_ rw_ rw_)) (h:=?_)
  refine dP (hc:=fun _=>Calm.move rfl) (h:=?_)
  refine dP (hc:=fun _=>Calm.move rfl) (h:=?_)
  refine dP (hc:=fun _=>Calm.indexS Try.underlying107 ty_size_5 rfl rfl (by omega) (by omega)) (h:=?_)
  refine dC (hc:=Calm.load ty_plain_5 rfl (rd_row (k:=i2) own_ rw_ rw_)) (h:=?_)
  refine dP (hc:=fun _=>Calm.indexS Try.underlying107 ty_size_5 rfl rfl (by omega) (by omega)) (h:=?_)
  refine draw_only rfl ?_
  refine ARun.storeRow encB (i2) rfl rfl ty_size_5 ⟨rfl,rfl⟩ own_ rw_ rw_ ?_
  try simp only [k_ms,k_sz,k_ss,k_za,Nat.reduceAdd]
  refine arun_nil ⟨fun h=>absurd h (by decide),?_⟩
  refine dP (hc:=fun _=>Calm.indexS Try.underlying107 ty_size_5 rfl rfl (by omega) (by omega)) (h:=?_)
  refine draw_only rfl ?_
  refine ARun.storeRow encB (j2) rfl rfl ty_size_5 ⟨rfl,rfl⟩ own_ rw_ rw_ ?_
  try simp only [k_ms,k_sz,k_ss,k_za,Nat.reduceAdd]
  refine arun_nil ⟨fun h=>absurd h (by decide),?_⟩
  refine draw_nil ?_
  refine athen_n ?_
  refine k_u [(0,_),(1,_),(10,_),(11,_),(65,_)] ?_
  refine k_a (k_m rfl ?_)
  refine rC (Calm.bin rfl rfl b_add_i64) ?_
  refine k_e rfl ?_
  refine k_u [(0,_),(1,_),(10,_),(11,_),(65,_)] ?_
  refine k_a (k_m rfl ?_)
  refine rC (Calm.bin rfl rfl b_sub_i64) ?_
  refine k_e rfl ?_
  refine k_u [(0,_),(1,_),(10,_),(11,_),(65,_)] ?_
  refine AWP.seq ?_
  refine AWP.join (X:=Nat × Array Nat) (fun x=>[(0,.slice (some ⟨b,0,none⟩) n cap),(1,.int .i64 a),(11,.int .i64 x.1)]) (fun x=>S.set b ⟨5,(x.2).toList.map encB,room⟩) (fun x=>a≤x.1∧x.1≤J∧Rw (fun _=>True) n x.2∧(x.1,x.2)=partLoop ltN a (i2+1) (j2-1) (swp d0 i2 j2)) ?_ ?_
  ·refine AWP.block ?_
   refine AWP.loop (X:=Nat × Nat × Array Nat) (fun x=>[(0,.slice (some ⟨b,0,none⟩) n cap),(1,.int .i64 a),(10,.int .i64 x.1),(11,.int .i64 x.2.1)]) (fun x=>S.set b ⟨5,(x.2.2).toList.map encB,room⟩) (fun x=>a+1≤x.1∧x.1≤J+1∧a≤x.2.1∧x.2.1≤J∧Rw (fun _=>True) n x.2.2∧partLoop ltN a x.1 x.2.1 x.2.2=partLoop ltN a (i2+1) (j2-1) (swp d0 i2 j2)) (fun x=>J+1-x.1) ((i2+1,j2-1,swp d0 i2 j2)) ⟨sb_,sb_,sb_,sb_,trivial⟩ (Mem.Less.refl _) (⟨by dsimp only;omega,by dsimp only;omega,by dsimp only;omega,by dsimp only;omega,R1,rfl⟩) ?_
   rintro ⟨I2,J2,d2⟩ ⟨m1,m2,m4,m5,R2,m3⟩
   (try dsimp only at *)
   have z2:=R2.size
   refine AWP.block ?_
   refine AWP.seq ?_
   refine AWP.join (X:=Nat) (fun x=>[(0,.slice (some ⟨b,0,none⟩) n cap),(1,.int .i64 a),(10,.int .i64 x),(11,.int .i64 J2)]) (fun _=>S.set b ⟨5,(d2).toList.map encB,room⟩) (fun x=>a+1≤x∧x≤J+1∧x=scanUp (fun x=>ltN x d2[a]!) d2 (J2) I2) ?_ ?_
   ·refine AWP.block ?_
    refine AWP.loop (X:=Nat) (fun x=>[(0,.slice (some ⟨b,0,none⟩) n cap),(1,.int .i64 a),(10,.int .i64 x),(11,.int .i64 J2)]) (fun _=>S.set b ⟨5,(d2).toList.map encB,room⟩) (fun x=>a+1≤x∧x≤J+1∧scanUp (fun x=>ltN x d2[a]!) d2 (J2) x=scanUp (fun x=>ltN x d2[a]!) d2 (J2) I2) (fun x=>J+1-x) (I2) ⟨sb_,sb_,sb_,sb_,trivial⟩ (Mem.Less.refl _) (⟨by omega,by omega,rfl⟩) ?_
    rintro i ⟨q1,q2,q3⟩
    (try dsimp only at *)
    by_cases hij:i≤J2
    ·refine AWP.seq (AWP.seq ?_)
     refine AWP.draw [(0,true),(1,true),(2,true),(3,true),(4,true),(5,true),(6,true),(7,true),(8,true),(9,true),(10,true),(11,true),(12,false),(13,true)] [] mixed (by kernel_rfl) ?_
     refine dP (hc:=fun _=>Calm.move rfl) (h:=?_)
     refine dP (hc:=fun _=>Calm.move rfl) (h:=?_)
     refine dP (hc:=fun _=>Calm.bin rfl rfl b_leq) (h:=?_)
     refine dP (hc:=fun _=>Calm.move rfl) (h:=?_)
     first|refine k_d ?_|refine dG (hc:=fun _=>Calm.move rfl) (h:=?_)
     first|refine k_d ?_|refine dG (hc:=fun _=>Calm.move rfl) (h:=?_)
     first|refine k_d ?_|refine dG (hc:=fun _=>Calm.indexS Try.underlying107 ty_size_5 rfl rfl (by omega) (by omega)) (h:=?_)
     first|refine k_d ?_|refine dL (hc:=Calm.load ty_plain_5 rfl (rd_row (k:=i) own_ rw_ rw_)) (h:=?_)
     first|refine k_d ?_|refine dG (hc:=fun _=>Calm.move rfl) (h:=?_)
     first|refine k_d ?_|refine dG (hc:=fun _=>Calm.move rfl) (h:=?_)
     first|refine k_d ?_|refine dG (hc:=fun _=>Calm.indexS Try.underlying107 ty_size_5 rfl rfl (by omega) (by omega)) (h:=?_)
     first|refine k_d ?_|refine dL (hc:=Calm.load ty_plain_5 rfl (rd_row (k:=a) own_ rw_ rw_)) (h:=?_)
     refine draw_only rfl ?_
     refine ARun.callG 3 true 102 rfl (lit_lt rfl) rfl (lit_lt rfl) go_165 rfl (soB_less _ _ _) ?_
     rintro _ _ ⟨rfl,rfl⟩
     refine arun_nil ⟨fun _=>less_,?_⟩
     refine dP (hc:=fun _=>(by first | exact Calm.pickT rfl rfl | exact Calm.pickF rfl rfl)) (h:=?_)
     refine draw_nil ?_
     refine athen_n ?_
     refine k_u [(0,_),(1,_),(10,_),(11,_),(112,_)] ?_
     refine AWP.condB rfl (fun hl=>?_) (fun hl=>?_)
     ·refine k_k ?_
      refine AWP.block ?_
      refine AWP.region ?_
      refine k_m rfl ?_
      refine rC (Calm.bin rfl rfl b_add_i64) ?_
      refine k_s rfl ?_
      refine arun_nil ?_
      refine ain_n ?_
      refine athen_n ?_
      refine ⟨i+1,?_,?_,?_,?_⟩
      all_goals (try dsimp only)
      ·exact ⟨sb_,sb_,sb_,sb_,trivial⟩
      ·exact Mem.Less.refl _
      ·exact ⟨by omega,by omega,(up_go (p:=(fun x=>ltN x d2[a]!)) hij (by simp only [hl,Bool.not_true,Bool.not_false])).trans q3⟩
      ·omega
     ·refine AWP.exit ?_
      refine athen_exit ?_
      refine athen_exit ?_
      refine ain_same ?_
      refine ⟨i,?_,?_,?_⟩
      all_goals (try dsimp only)
      ·exact ⟨by omega,by omega,(up_no (p:=(fun x=>ltN x d2[a]!)) (by simp only [hl,Bool.not_true,Bool.not_false])).trans q3⟩
      ·exact ⟨sb_,sb_,sb_,sb_,trivial⟩
      ·exact Mem.Less.refl _
    ·refine AWP.seq (AWP.seq ?_)
     refine AWP.draw [(0,true),(1,true),(2,true),(3,true),(4,true),(5,true),(6,true),(7,true),(8,true),(9,true),(10,true),(11,true),(12,false),(13,true)] [] mixed (by kernel_rfl) ?_
     refine dP (hc:=fun _=>Calm.move rfl) (h:=?_)
     refine dP (hc:=fun _=>Calm.move rfl) (h:=?_)
     refine dP (hc:=fun _=>Calm.bin rfl rfl b_leq) (h:=?_)
     refine dP (hc:=fun _=>Calm.move rfl) (h:=?_)
     first|refine k_d ?_|refine dG (hc:=fun _=>Calm.move rfl) (h:=?_)
     first|refine k_d ?_|refine dG (hc:=fun _=>Calm.move rfl) (h:=?_)
     first|refine k_d ?_|refine dG (hc:=fun _=>Calm.indexS Try.underlying107 ty_size_5 rfl rfl (by omega) (by omega)) (h:=?_)
     first|refine k_d ?_|refine dL (hc:=Calm.load ty_plain_5 rfl (rd_row (k:=i) own_ rw_ rw_)) (h:=?_)
     first|refine k_d ?_|refine dG (hc:=fun _=>Calm.move rfl) (h:=?_)
     first|refine k_d ?_|refine dG (hc:=fun _=>Calm.move rfl) (h:=?_)
     first|refine k_d ?_|refine dG (hc:=fun _=>Calm.indexS Try.underlying107 ty_size_5 rfl rfl (by omega) (by omega)) (h:=?_)
     first|refine k_d ?_|refine dL (hc:=Calm.load ty_plain_5 rfl (rd_row (k:=a) own_ rw_ rw_)) (h:=?_)
     refine draw_only rfl ?_
     first | refine rS 102 ?_ | refine rU 102 ?_
     refine arun_nil ⟨fun _=>less_,?_⟩
     refine dP (hc:=fun _=>(by first | exact Calm.pickT rfl rfl | exact Calm.pickF rfl rfl)) (h:=?_)
     refine draw_nil ?_
     refine athen_n ?_
     refine k_u [(0,_),(1,_),(10,_),(11,_),(112,_)] ?_
     refine k_F rfl ?_
     refine AWP.exit ?_
     refine athen_exit ?_
     refine athen_exit ?_
     refine ain_same ?_
     refine ⟨i,?_,?_,?_⟩
     all_goals (try dsimp only)
     ·exact ⟨by omega,by omega,(up_end (p:=(fun x=>ltN x d2[a]!)) hij).trans q3⟩
     ·exact ⟨sb_,sb_,sb_,sb_,trivial⟩
     ·exact Mem.Less.refl _
   rintro i2 ⟨b1,b2,hU⟩
   intro _ _ hs_ hl_
   (try dsimp only at *)
   refine athen_n ?_
   refine AWP.sub _ hs_ (AWP.less _ hl_ ?_)
   clear hs_ hl_
   refine AWP.seq ?_
   refine AWP.join (X:=Nat) (fun x=>[(0,.slice (some ⟨b,0,none⟩) n cap),(1,.int .i64 a),(10,.int .i64 i2),(11,.int .i64 x)]) (fun _=>S.set b ⟨5,(d2).toList.map encB,room⟩) (fun x=>a≤x∧x≤J∧x=scanDown (fun x=>!ltN x d2[a]!) d2 i2 J2) ?_ ?_
   ·refine AWP.block ?_
    refine AWP.loop (X:=Nat) (fun x=>[(0,.slice (some ⟨b,0,none⟩) n cap),(1,.int .i64 a),(10,.int .i64 i2),(11,.int .i64 x)]) (fun _=>S.set b ⟨5,(d2).toList.map encB,room⟩) (fun x=>a≤x∧x≤J∧scanDown (fun x=>!ltN x d2[a]!) d2 i2 x=scanDown (fun x=>!ltN x d2[a]!) d2 i2 J2) (fun x=>x) (J2) ⟨sb_,sb_,sb_,sb_,trivial⟩ (Mem.Less.refl _) (⟨by omega,by omega,rfl⟩) ?_
    rintro j ⟨q1,q2,q3⟩
    (try dsimp only at *)
    by_cases hij:i2≤j
    ·obtain ⟨j,rfl⟩ : ∃ q,j=q+1:=⟨j-1,by omega⟩
     refine AWP.seq (AWP.seq ?_)
     refine AWP.draw [(0,true),(1,true),(2,true),(3,true),(4,true),(5,true),(6,true),(7,true),(8,true),(9,true),(10,true),(11,true),(12,false),(13,true),(14,true)] [] mixed (by kernel_rfl) ?_
     refine dP (hc:=fun _=>Calm.move rfl) (h:=?_)
     refine dP (hc:=fun _=>Calm.move rfl) (h:=?_)
     refine dP (hc:=fun _=>Calm.bin rfl rfl b_leq) (h:=?_)
     refine dP (hc:=fun _=>Calm.move rfl) (h:=?_)
     first|refine k_d ?_|refine dG (hc:=fun _=>Calm.move rfl) (h:=?_)
     first|refine k_d ?_|refine dG (hc:=fun _=>Calm.move rfl) (h:=?_)
     first|refine k_d ?_|refine dG (hc:=fun _=>Calm.indexS Try.underlying107 ty_size_5 rfl rfl (by omega) (by omega)) (h:=?_)
     first|refine k_d ?_|refine dL (hc:=Calm.load ty_plain_5 rfl (rd_row (k:=j+1) own_ rw_ rw_)) (h:=?_)
     first|refine k_d ?_|refine dG (hc:=fun _=>Calm.move rfl) (h:=?_)
     first|refine k_d ?_|refine dG (hc:=fun _=>Calm.move rfl) (h:=?_)
     first|refine k_d ?_|refine dG (hc:=fun _=>Calm.indexS Try.underlying107 ty_size_5 rfl rfl (by omega) (by omega)) (h:=?_)
     first|refine k_d ?_|refine dL (hc:=Calm.load ty_plain_5 rfl (rd_row (k:=a) own_ rw_ rw_)) (h:=?_)
     refine draw_only rfl ?_
     refine ARun.callG 3 true 118 rfl (lit_lt rfl) rfl (lit_lt rfl) go_165 rfl (soB_less _ _ _) ?_
     rintro _ _ ⟨rfl,rfl⟩
     refine arun_nil ⟨fun _=>less_,?_⟩
     first|refine k_d ?_|refine dG (hc:=fun _=>Calm.un rfl (una_not _)) (h:=?_)
     refine dP (hc:=fun _=>(by first | exact Calm.pickT rfl rfl | exact Calm.pickF rfl rfl)) (h:=?_)
     refine draw_nil ?_
     refine athen_n ?_
     refine k_u [(0,_),(1,_),(10,_),(11,_),(129,_)] ?_
     refine AWP.condB rfl (fun hl=>?_) (fun hl=>?_)
     ·have hl:=nt_ hl
      refine k_k ?_
      refine AWP.block ?_
      refine AWP.region ?_
      refine k_m rfl ?_
      refine rC (Calm.bin rfl rfl b_sub_i64) ?_
      refine k_s rfl ?_
      refine arun_nil ?_
      refine ain_n ?_
      refine athen_n ?_
      refine ⟨j,?_,?_,?_,?_⟩
      all_goals (try dsimp only)
      ·exact ⟨sb_,sb_,sb_,sb_,trivial⟩
      ·exact Mem.Less.refl _
      ·exact ⟨by omega,by omega,(down_go (p:=(fun x=>!ltN x d2[a]!)) hij (by simp only [hl,Bool.not_true,Bool.not_false])).trans q3⟩
      ·omega
     ·have hl:=nf_ hl
      refine AWP.exit ?_
      refine athen_exit ?_
      refine athen_exit ?_
      refine ain_same ?_
      refine ⟨(j+1),?_,?_,?_⟩
      all_goals (try dsimp only)
      ·exact ⟨by omega,by omega,(down_no (p:=(fun x=>!ltN x d2[a]!)) (by omega) (by simp only [hl,Bool.not_true,Bool.not_false])).trans q3⟩
      ·exact ⟨sb_,sb_,sb_,sb_,trivial⟩
      ·exact Mem.Less.refl _
    ·refine AWP.seq (AWP.seq ?_)
     refine AWP.draw [(0,true),(1,true),(2,true),(3,true),(4,true),(5,true),(6,true),(7,true),(8,true),(9,true),(10,true),(11,true),(12,false),(13,true),(14,true)] [] mixed (by kernel_rfl) ?_
     refine dP (hc:=fun _=>Calm.move rfl) (h:=?_)
     refine dP (hc:=fun _=>Calm.move rfl) (h:=?_)
     refine dP (hc:=fun _=>Calm.bin rfl rfl b_leq) (h:=?_)
     refine dP (hc:=fun _=>Calm.move rfl) (h:=?_)
     first|refine k_d ?_|refine dG (hc:=fun _=>Calm.move rfl) (h:=?_)
     first|refine k_d ?_|refine dG (hc:=fun _=>Calm.move rfl) (h:=?_)
     first|refine k_d ?_|refine dG (hc:=fun _=>Calm.indexS Try.underlying107 ty_size_5 rfl rfl (by omega) (by omega)) (h:=?_)
     first|refine k_d ?_|refine dL (hc:=Calm.load ty_plain_5 rfl (rd_row (k:=j+1) own_ rw_ rw_)) (h:=?_)
     first|refine k_d ?_|refine dG (hc:=fun _=>Calm.move rfl) (h:=?_)
     first|refine k_d ?_|refine dG (hc:=fun _=>Calm.move rfl) (h:=?_)
     first|refine k_d ?_|refine dG (hc:=fun _=>Calm.indexS Try.underlying107 ty_size_5 rfl rfl (by omega) (by omega)) (h:=?_)
     first|refine k_d ?_|refine dL (hc:=Calm.load ty_plain_5 rfl (rd_row (k:=a) own_ rw_ rw_)) (h:=?_)
     refine draw_only rfl ?_
     first | refine rS 118 ?_ | refine rU 118 ?_
     refine arun_nil ⟨fun _=>less_,?_⟩
     first|refine k_d ?_|refine dG (hc:=fun _=>Calm.un rfl (una_not _)) (h:=?_)
     refine dP (hc:=fun _=>(by first | exact Calm.pickT rfl rfl | exact Calm.pickF rfl rfl)) (h:=?_)
     refine draw_nil ?_
     refine athen_n ?_
     refine k_u [(0,_),(1,_),(10,_),(11,_),(129,_)] ?_
     refine k_F rfl ?_
     refine AWP.exit ?_
     refine athen_exit ?_
     refine athen_exit ?_
     refine ain_same ?_
     refine ⟨j,?_,?_,?_⟩
     all_goals (try dsimp only)
     ·exact ⟨by omega,by omega,(down_end (p:=(fun x=>!ltN x d2[a]!)) hij).trans q3⟩
     ·exact ⟨sb_,sb_,sb_,sb_,trivial⟩
     ·exact Mem.Less.refl _
   rintro j2 ⟨b3,b4,hD⟩
   intro _ _ hs_ hl_
   (try dsimp only at *)
   refine athen_n ?_
   refine AWP.sub _ hs_ (AWP.less _ hl_ ?_)
   clear hs_ hl_
   by_cases hx:j2<i2
   ·refine AWP.seq (k_a (k_m rfl (k_m rfl ?_)))
    refine rC (Calm.bin rfl rfl b_gtr) ?_
    refine k_n ?_
    refine k_u [(0,_),(1,_),(10,_),(11,_),(134,_)] ?_
    refine k_T rfl ?_
    refine AWP.exit ?_
    refine athen_exit ?_
    refine ain_other rfl ?_
    refine athen_exit ?_
    refine ain_same ?_
    refine ⟨(j2,d2),?_,?_,?_⟩
    all_goals (try dsimp only)
    ·exact ⟨by omega,by omega,R2,(part_stop ltN hU hD hx).trans m3⟩
    ·exact ⟨sb_,sb_,sb_,trivial⟩
    ·exact Mem.Less.refl _
   ·refine AWP.seq (k_a (k_m rfl (k_m rfl ?_)))
    refine rC (Calm.bin rfl rfl b_gtr) ?_
    refine k_n ?_
    refine k_u [(0,_),(1,_),(10,_),(11,_),(134,_)] ?_
    refine k_F rfl ?_
    refine k_k (AWP.seq ?_)
    refine AWP.draw [(0,true),(1,true),(2,true),(3,true),(4,true),(5,true),(6,true),(7,true),(8,true),(9,true),(10,true),(11,true),(12,true),(13,false),(14,true),(15,false)] [13,15] mixed (by kernel_rfl) ?_
    refine dP (hc:=fun _=>Calm.move rfl) (h:=?_)
    refine dP (hc:=fun _=>Calm.move rfl) (h:=?_)
    refine dP (hc:=fun _=>Calm.move rfl) (h:=?_)
    refine dP (hc:=fun _=>Calm.move rfl) (h:=?_)
    refine dP (hc:=fun _=>Calm.move rfl) (h:=?_)
    refine dP (hc:=fun _=>Calm.move rfl) (h:=?_)
    refine dP (hc:=fun _=>Calm.indexS Try.underlying107 ty_size_5 rfl rfl (by omega) (by omega)) (h:=?_)
    refine dC (hc:=Calm.load ty_plain_5 rfl (rd_row (k:=j2) own_ rw_ rw_)) (h:=?_)
    refine dP (hc:=fun _=>Calm.move rfl) (h:=?_)
    refine dP (hc:=fun _=>Calm.move rfl) (h:=?_)
    refine dP (hc:=fun _=>Calm.indexS Try.underlying107 ty_size_5 rfl rfl (by omega) (by omega)) (h:=?_)
    refine dC (hc:=Calm.load ty_plain_5 rfl (rd_row (k:=i2) own_ rw_ rw_)) (h:=?_)
    refine dP (hc:=fun _=>Calm.indexS Try.underlying107 ty_size_5 rfl rfl (by omega) (by omega)) (h:=?_)
    refine draw_only rfl ?_
    refine ARun.storeRow encB (i2) rfl rfl ty_size_5 ⟨rfl,rfl⟩ own_ rw_ rw_ ?_
    try simp only [k_ms,k_sz,k_ss,k_za,Nat.reduceAdd]
    refine arun_nil ⟨fun h=>absurd h (by decide),?_⟩
    refine dP (hc:=fun _=>Calm.indexS Try.underlying107 ty_size_5 rfl rfl (by omega) (by omega)) (h:=?_)
    refine draw_only rfl ?_
    refine ARun.storeRow encB (j2) rfl rfl ty_size_5 ⟨rfl,rfl⟩ own_ rw_ rw_ ?_
    try simp only [k_ms,k_sz,k_ss,k_za,Nat.reduceAdd]
    refine arun_nil ⟨fun h=>absurd h (by decide),?_⟩
    refine draw_nil ?_
    refine athen_n ?_
    refine k_u [(0,_),(1,_),(10,_),(11,_),(134,_)] ?_
    refine k_a (k_m rfl ?_)
    refine rC (Calm.bin rfl rfl b_add_i64) ?_
    refine k_e rfl ?_
    refine k_u [(0,_),(1,_),(10,_),(11,_),(134,_)] ?_
    refine AWP.region ?_
    refine k_m rfl ?_
    refine rC (Calm.bin rfl rfl b_sub_i64) ?_
    refine k_s rfl ?_
    refine arun_nil ?_
    refine ain_n ?_
    refine athen_n ?_
    refine ⟨(i2+1,j2-1,swp d2 i2 j2),?_,?_,?_,?_⟩
    all_goals (try dsimp only)
    ·exact ⟨sb_,sb_,sb_,sb_,trivial⟩
    ·exact Mem.Less.refl _
    ·exact ⟨by omega,by omega,by omega,by omega,R2.swp _ _ (by omega) (by omega),(part_go ltN hU hD hx).trans m3⟩
    ·(have:I2≤i2:=by rw [hU];exact Go.Sort.scanUp_ge _ _ _ _);omega
  rintro ⟨j3,d3⟩ ⟨t1,t2,R3,t3⟩
  intro _ _ hs_ hl_
  (try dsimp only at *)
  refine athen_n ?_
  refine AWP.sub _ hs_ (AWP.less _ hl_ ?_)
  clear hs_ hl_
  have z3:=R3.size
  refine AWP.seq ?_
  refine AWP.draw [(0,true),(1,true),(2,true),(3,true),(4,true),(5,true),(6,true),(7,true),(8,true),(9,true),(10,true),(11,true),(12,true),(13,false),(14,true),(15,false)] [13,15] mixed (by kernel_rfl) ?_
  refine dP (hc:=fun _=>Calm.move rfl) (h:=?_)
  refine dP (hc:=fun _=>Calm.move rfl) (h:=?_)
  refine dP (hc:=fun _=>Calm.move rfl) (h:=?_)
  refine dP (hc:=fun _=>Calm.move rfl) (h:=?_)
  refine dP (hc:=fun _=>Calm.move rfl) (h:=?_)
  refine dP (hc:=fun _=>Calm.move rfl) (h:=?_)
  refine dP (hc:=fun _=>Calm.indexS Try.underlying107 ty_size_5 rfl rfl (by omega) (by omega)) (h:=?_)
  refine dC (hc:=Calm.load ty_plain_5 rfl (rd_row (k:=a) own_ rw_ rw_)) (h:=?_)
  refine dP (hc:=fun _=>Calm.move rfl) (h:=?_)
  refine dP (hc:=fun _=>Calm.move rfl) (h:=?_)
  refine dP (hc:=fun _=>Calm.indexS Try.underlying107 ty_size_5 rfl rfl (by omega) (by omega)) (h:=?_)
  refine dC (hc:=Calm.load ty_plain_5 rfl (rd_row (k:=j3) own_ rw_ rw_)) (h:=?_)
  refine dP (hc:=fun _=>Calm.indexS Try.underlying107 ty_size_5 rfl rfl (by omega) (by omega)) (h:=?_)
  refine draw_only rfl ?_
  refine ARun.storeRow encB (j3) rfl rfl ty_size_5 ⟨rfl,rfl⟩ own_ rw_ rw_ ?_
  try simp only [k_ms,k_sz,k_ss,k_za,Nat.reduceAdd]
  refine arun_nil ⟨fun h=>absurd h (by decide),?_⟩
  refine dP (hc:=fun _=>Calm.indexS Try.underlying107 ty_size_5 rfl rfl (by omega) (by omega)) (h:=?_)
  refine draw_only rfl ?_
  refine ARun.storeRow encB (a) rfl rfl ty_size_5 ⟨rfl,rfl⟩ own_ rw_ rw_ ?_
  try simp only [k_ms,k_sz,k_ss,k_za,Nat.reduceAdd]
  refine arun_nil ⟨fun h=>absurd h (by decide),?_⟩
  refine draw_nil ?_
  refine athen_n ?_
  refine k_u [(0,_),(1,_),(11,_)] ?_
  refine k_a (k_m rfl (k_s rfl (k_e rfl ?_)))
  refine k_u [(0,_),(1,_),(11,_),(8,_),(9,_)] ?_
  refine AWP.ret ?_
  refine ⟨_,_,⟨_,_,rfl,⟨_,_,rfl,rfl,rfl⟩,rfl⟩,Mem.Less.refl _,?_⟩
  exact part_res2 ltN hd0 hU hD hx t3 (R3.swp _ _ (by omega) (by omega)) (by omega) (by omega)
set_option maxHeartbeats 4000000 in
theorem soB_parteq {S : Mem} (b room n cap : Nat) (hb : Fresh S b) (hn : n ≤ 1048576) (d : Array Nat) (R : Rw (fun _ => True) n d) (ia ie ip : Int) (a e p : Nat) (ha : ia = a) (he : ie = e) (hpp : ip = p) (hap : a ≤ p) (hpe : p < e) (hen : e ≤ n) :
  ACall Try.prog 197 #[.slice (some ⟨b,0,none⟩) n cap,.int .i64 ia,.int .i64 ie,.int .i64 ip] (S.set b ⟨5,(d).toList.map encB,room⟩) fun r S'=>PartEqR Nat (fun x:Array Nat=>S.set b ⟨5,(x).toList.map encB,room⟩) (fun _=>True) n (partitionEqual ltN d a e p) a e r S':=by
 subst ha he hpp
 obtain ⟨J,rfl⟩ : ∃ J,e=J+1:=⟨e-1,by omega⟩
 have R0:=R.swp a p (by omega) (by omega)
 have z:=R.size
 obtain ⟨d0,hd0⟩ : ∃ d0,d0=swp d a p:=⟨_,rfl⟩
 rw [← hd0] at R0
 have z0:=R0.size
 refine ACall.enter (rs:=[.tmp 8]) 84 [(0,.slice (some ⟨b,0,none⟩) n cap),(1,.int .i64 a),(2,.int .i64 ((J+1:Nat):Int)),(3,.int .i64 p)] Try.func197 rfl rfl (Nat.le_of_ble_eq_true rfl) rfl ⟨rfl,rfl,rfl,rfl,trivial⟩ ?_
 refine k_a (k_e rfl (AWP.seq ?_))
 refine AWP.draw [(0,true),(1,true),(2,true),(3,true),(4,true),(5,true),(6,true),(7,true),(8,true),(9,true),(10,true),(11,true),(12,true),(13,false),(14,true),(15,false)] [13,15] mixed (by kernel_rfl) ?_
 refine dP (hc:=fun _=>Calm.move rfl) (h:=?_)
 refine dP (hc:=fun _=>Calm.move rfl) (h:=?_)
 refine dP (hc:=fun _=>Calm.move rfl) (h:=?_)
 refine dP (hc:=fun _=>Calm.move rfl) (h:=?_)
 refine dP (hc:=fun _=>Calm.move rfl) (h:=?_)
 refine dP (hc:=fun _=>Calm.move rfl) (h:=?_)
 refine dP (hc:=fun _=>Calm.indexS Try.underlying107 ty_size_5 rfl rfl (by omega) (by omega)) (h:=?_)
 refine dC (hc:=Calm.load ty_plain_5 rfl (rd_row (k:=p) own_ rw_ rw_)) (h:=?_)
 refine dP (hc:=fun _=>Calm.move rfl) (h:=?_)
 refine dP (hc:=fun _=>Calm.move rfl) (h:=?_)
 refine dP (hc:=fun _=>Calm.indexS Try.underlying107 ty_size_5 rfl rfl (by omega) (by omega)) (h:=?_)
 refine dC (hc:=Calm.load ty_plain_5 rfl (rd_row (k:=a) own_ rw_ rw_)) (h:=?_)
 refine dP (hc:=fun _=>Calm.indexS Try.underlying107 ty_size_5 rfl rfl (by omega) (by omega)) (h:=?_)
 refine draw_only rfl ?_
 refine ARun.storeRow encB (a) rfl rfl ty_size_5 ⟨rfl,rfl⟩ own_ rw_ rw_ ?_
 try simp only [k_ms,k_sz,k_ss,k_za,Nat.reduceAdd]
 refine arun_nil ⟨fun h=>absurd h (by decide),?_⟩
 refine dP (hc:=fun _=>Calm.indexS Try.underlying107 ty_size_5 rfl rfl (by omega) (by omega)) (h:=?_)
 refine draw_only rfl ?_
 refine ARun.storeRow encB (p) rfl rfl ty_size_5 ⟨rfl,rfl⟩ own_ rw_ rw_ ?_
 try simp only [k_ms,k_sz,k_ss,k_za,Nat.reduceAdd]
 refine arun_nil ⟨fun h=>absurd h (by decide),?_⟩
 refine draw_nil ?_
 refine athen_n ?_
 refine k_u [(0,_),(1,_),(2,_),(3,_),(8,_)] ?_
 refine AWP.less (S.set b ⟨5,(d0).toList.map encB,room⟩) (by rw [hd0];exact Mem.Less.refl _) ?_
 refine k_a (k_m rfl ?_)
 refine rC (Calm.bin rfl rfl b_add_i64) ?_
 refine k_m rfl ?_
 refine rC (Calm.bin rfl rfl b_sub_i64) ?_
 refine k_s rfl (k_e rfl ?_)
 refine k_u [(0,_),(1,_),(2,_),(3,_),(8,_),(9,_),(10,_)] ?_
 refine AWP.seq ?_
 refine AWP.block ?_
 refine AWP.loop (X:=Nat × Nat × Array Nat) (fun x=>[(0,.slice (some ⟨b,0,none⟩) n cap),(1,.int .i64 a),(9,.int .i64 x.1),(10,.int .i64 x.2.1)]) (fun x=>S.set b ⟨5,(x.2.2).toList.map encB,room⟩) (fun x=>a+1≤x.1∧x.1≤J+1∧a≤x.2.1∧x.2.1≤J∧Rw (fun _=>True) n x.2.2∧partEqLoop ltN a x.1 x.2.1 x.2.2=partEqLoop ltN a (a+1) J d0) (fun x=>J+1-x.1) ((a+1,J,d0)) ⟨sb_,sb_,sb_,sb_,trivial⟩ (Mem.Less.refl _) (⟨by dsimp only;omega,by dsimp only;omega,by dsimp only;omega,by dsimp only;omega,R0,rfl⟩) ?_
 rintro ⟨I2,J2,d2⟩ ⟨m1,m2,m4,m5,R2,m3⟩
 (try dsimp only at *)
 have z2:=R2.size
 refine AWP.block ?_
 refine AWP.seq ?_
 refine AWP.join (X:=Nat) (fun x=>[(0,.slice (some ⟨b,0,none⟩) n cap),(1,.int .i64 a),(9,.int .i64 x),(10,.int .i64 J2)]) (fun _=>S.set b ⟨5,(d2).toList.map encB,room⟩) (fun x=>a+1≤x∧x≤J+1∧x=scanUp (fun x=>!ltN d2[a]! x) d2 (J2) I2) ?_ ?_
 ·refine AWP.block ?_
  refine AWP.loop (X:=Nat) (fun x=>[(0,.slice (some ⟨b,0,none⟩) n cap),(1,.int .i64 a),(9,.int .i64 x),(10,.int .i64 J2)]) (fun _=>S.set b ⟨5,(d2).toList.map encB,room⟩) (fun x=>a+1≤x∧x≤J+1∧scanUp (fun x=>!ltN d2[a]! x) d2 (J2) x=scanUp (fun x=>!ltN d2[a]! x) d2 (J2) I2) (fun x=>J+1-x) (I2) ⟨sb_,sb_,sb_,sb_,trivial⟩ (Mem.Less.refl _) (⟨by omega,by omega,rfl⟩) ?_
  rintro i ⟨q1,q2,q3⟩
  (try dsimp only at *)
  by_cases hij:i≤J2
  ·refine AWP.seq (AWP.seq ?_)
   refine AWP.draw [(0,true),(1,true),(2,true),(3,true),(4,true),(5,true),(6,true),(7,true),(8,true),(9,true),(10,true),(11,true),(12,false),(13,true),(14,true)] [] mixed (by kernel_rfl) ?_
   refine dP (hc:=fun _=>Calm.move rfl) (h:=?_)
   refine dP (hc:=fun _=>Calm.move rfl) (h:=?_)
   refine dP (hc:=fun _=>Calm.bin rfl rfl b_leq) (h:=?_)
   refine dP (hc:=fun _=>Calm.move rfl) (h:=?_)
   first|refine k_d ?_|refine dG (hc:=fun _=>Calm.move rfl) (h:=?_)
   first|refine k_d ?_|refine dG (hc:=fun _=>Calm.move rfl) (h:=?_)
   first|refine k_d ?_|refine dG (hc:=fun _=>Calm.indexS Try.underlying107 ty_size_5 rfl rfl (by omega) (by omega)) (h:=?_)
   first|refine k_d ?_|refine dL (hc:=Calm.load ty_plain_5 rfl (rd_row (k:=a) own_ rw_ rw_)) (h:=?_)
   first|refine k_d ?_|refine dG (hc:=fun _=>Calm.move rfl) (h:=?_)
   first|refine k_d ?_|refine dG (hc:=fun _=>Calm.move rfl) (h:=?_)
   first|refine k_d ?_|refine dG (hc:=fun _=>Calm.indexS Try.underlying107 ty_size_5 rfl rfl (by omega) (by omega)) (h:=?_)
   first|refine k_d ?_|refine dL (hc:=Calm.load ty_plain_5 rfl (rd_row (k:=i) own_ rw_ rw_)) (h:=?_)
   refine draw_only rfl ?_
   refine ARun.callG 3 true 32 rfl (lit_lt rfl) rfl (lit_lt rfl) go_165 rfl (soB_less _ _ _) ?_
   rintro _ _ ⟨rfl,rfl⟩
   refine arun_nil ⟨fun _=>less_,?_⟩
   first|refine k_d ?_|refine dG (hc:=fun _=>Calm.un rfl (una_not _)) (h:=?_)
   refine dP (hc:=fun _=>(by first | exact Calm.pickT rfl rfl | exact Calm.pickF rfl rfl)) (h:=?_)
   refine draw_nil ?_
   refine athen_n ?_
   refine k_u [(0,_),(1,_),(9,_),(10,_),(43,_)] ?_
   refine AWP.condB rfl (fun hl=>?_) (fun hl=>?_)
   ·have hl:=nt_ hl
    refine k_k ?_
    refine AWP.block ?_
    refine AWP.region ?_
    refine k_m rfl ?_
    refine rC (Calm.bin rfl rfl b_add_i64) ?_
    refine k_s rfl ?_
    refine arun_nil ?_
    refine ain_n ?_
    refine athen_n ?_
    refine ⟨i+1,?_,?_,?_,?_⟩
    all_goals (try dsimp only)
    ·exact ⟨sb_,sb_,sb_,sb_,trivial⟩
    ·exact Mem.Less.refl _
    ·exact ⟨by omega,by omega,(up_go (p:=(fun x=>!ltN d2[a]! x)) hij (by simp only [hl,Bool.not_true,Bool.not_false])).trans q3⟩
    ·omega
   ·have hl:=nf_ hl
    refine AWP.exit ?_
    refine athen_exit ?_
    refine athen_exit ?_
    refine ain_same ?_
    refine ⟨i,?_,?_,?_⟩
    all_goals (try dsimp only)
    ·exact ⟨by omega,by omega,(up_no (p:=(fun x=>!ltN d2[a]! x)) (by simp only [hl,Bool.not_true,Bool.not_false])).trans q3⟩
    ·exact ⟨sb_,sb_,sb_,sb_,trivial⟩
    ·exact Mem.Less.refl _
  ·refine AWP.seq (AWP.seq ?_)
   refine AWP.draw [(0,true),(1,true),(2,true),(3,true),(4,true),(5,true),(6,true),(7,true),(8,true),(9,true),(10,true),(11,true),(12,false),(13,true),(14,true)] [] mixed (by kernel_rfl) ?_
   refine dP (hc:=fun _=>Calm.move rfl) (h:=?_)
   refine dP (hc:=fun _=>Calm.move rfl) (h:=?_)
   refine dP (hc:=fun _=>Calm.bin rfl rfl b_leq) (h:=?_)
   refine dP (hc:=fun _=>Calm.move rfl) (h:=?_)
   first|refine k_d ?_|refine dG (hc:=fun _=>Calm.move rfl) (h:=?_)
   first|refine k_d ?_|refine dG (hc:=fun _=>Calm.move rfl) (h:=?_)
   first|refine k_d ?_|refine dG (hc:=fun _=>Calm.indexS Try.underlying107 ty_size_5 rfl rfl (by omega) (by omega)) (h:=?_)
   first|refine k_d ?_|refine dL (hc:=Calm.load ty_plain_5 rfl (rd_row (k:=a) own_ rw_ rw_)) (h:=?_)
   first|refine k_d ?_|refine dG (hc:=fun _=>Calm.move rfl) (h:=?_)
   first|refine k_d ?_|refine dG (hc:=fun _=>Calm.move rfl) (h:=?_)
   first|refine k_d ?_|refine dG (hc:=fun _=>Calm.indexS Try.underlying107 ty_size_5 rfl rfl (by omega) (by omega)) (h:=?_)
   first|refine k_d ?_|refine dL (hc:=Calm.load ty_plain_5 rfl (rd_row (k:=i) own_ rw_ rw_)) (h:=?_)
   refine draw_only rfl ?_
   first | refine rS 32 ?_ | refine rU 32 ?_
   refine arun_nil ⟨fun _=>less_,?_⟩
   first|refine k_d ?_|refine dG (hc:=fun _=>Calm.un rfl (una_not _)) (h:=?_)
   refine dP (hc:=fun _=>(by first | exact Calm.pickT rfl rfl | exact Calm.pickF rfl rfl)) (h:=?_)
   refine draw_nil ?_
   refine athen_n ?_
   refine k_u [(0,_),(1,_),(9,_),(10,_),(43,_)] ?_
   refine k_F rfl ?_
   refine AWP.exit ?_
   refine athen_exit ?_
   refine athen_exit ?_
   refine ain_same ?_
   refine ⟨i,?_,?_,?_⟩
   all_goals (try dsimp only)
   ·exact ⟨by omega,by omega,(up_end (p:=(fun x=>!ltN d2[a]! x)) hij).trans q3⟩
   ·exact ⟨sb_,sb_,sb_,sb_,trivial⟩
   ·exact Mem.Less.refl _
 rintro i2 ⟨b1,b2,hU⟩
 intro _ _ hs_ hl_
 (try dsimp only at *)
 refine athen_n ?_
 refine AWP.sub _ hs_ (AWP.less _ hl_ ?_)
 clear hs_ hl_
 refine AWP.seq ?_
 refine AWP.join (X:=Nat) (fun x=>[(0,.slice (some ⟨b,0,none⟩) n cap),(1,.int .i64 a),(9,.int .i64 i2),(10,.int .i64 x)]) (fun _=>S.set b ⟨5,(d2).toList.map encB,room⟩) (fun x=>a≤x∧x≤J∧x=scanDown (fun x=>ltN d2[a]! x) d2 i2 J2) ?_ ?_
 ·refine AWP.block ?_
  refine AWP.loop (X:=Nat) (fun x=>[(0,.slice (some ⟨b,0,none⟩) n cap),(1,.int .i64 a),(9,.int .i64 i2),(10,.int .i64 x)]) (fun _=>S.set b ⟨5,(d2).toList.map encB,room⟩) (fun x=>a≤x∧x≤J∧scanDown (fun x=>ltN d2[a]! x) d2 i2 x=scanDown (fun x=>ltN d2[a]! x) d2 i2 J2) (fun x=>x) (J2) ⟨sb_,sb_,sb_,sb_,trivial⟩ (Mem.Less.refl _) (⟨by omega,by omega,rfl⟩) ?_
  rintro j ⟨q1,q2,q3⟩
  (try dsimp only at *)
  by_cases hij:i2≤j
  ·obtain ⟨j,rfl⟩ : ∃ q,j=q+1:=⟨j-1,by omega⟩
   refine AWP.seq (AWP.seq ?_)
   refine AWP.draw [(0,true),(1,true),(2,true),(3,true),(4,true),(5,true),(6,true),(7,true),(8,true),(9,true),(10,true),(11,true),(12,false),(13,true)] [] mixed (by kernel_rfl) ?_
   refine dP (hc:=fun _=>Calm.move rfl) (h:=?_)
   refine dP (hc:=fun _=>Calm.move rfl) (h:=?_)
   refine dP (hc:=fun _=>Calm.bin rfl rfl b_leq) (h:=?_)
   refine dP (hc:=fun _=>Calm.move rfl) (h:=?_)
   first|refine k_d ?_|refine dG (hc:=fun _=>Calm.move rfl) (h:=?_)
   first|refine k_d ?_|refine dG (hc:=fun _=>Calm.move rfl) (h:=?_)
   first|refine k_d ?_|refine dG (hc:=fun _=>Calm.indexS Try.underlying107 ty_size_5 rfl rfl (by omega) (by omega)) (h:=?_)
   first|refine k_d ?_|refine dL (hc:=Calm.load ty_plain_5 rfl (rd_row (k:=a) own_ rw_ rw_)) (h:=?_)
   first|refine k_d ?_|refine dG (hc:=fun _=>Calm.move rfl) (h:=?_)
   first|refine k_d ?_|refine dG (hc:=fun _=>Calm.move rfl) (h:=?_)
   first|refine k_d ?_|refine dG (hc:=fun _=>Calm.indexS Try.underlying107 ty_size_5 rfl rfl (by omega) (by omega)) (h:=?_)
   first|refine k_d ?_|refine dL (hc:=Calm.load ty_plain_5 rfl (rd_row (k:=j+1) own_ rw_ rw_)) (h:=?_)
   refine draw_only rfl ?_
   refine ARun.callG 3 true 49 rfl (lit_lt rfl) rfl (lit_lt rfl) go_165 rfl (soB_less _ _ _) ?_
   rintro _ _ ⟨rfl,rfl⟩
   refine arun_nil ⟨fun _=>less_,?_⟩
   refine dP (hc:=fun _=>(by first | exact Calm.pickT rfl rfl | exact Calm.pickF rfl rfl)) (h:=?_)
   refine draw_nil ?_
   refine athen_n ?_
   refine k_u [(0,_),(1,_),(9,_),(10,_),(59,_)] ?_
   refine AWP.condB rfl (fun hl=>?_) (fun hl=>?_)
   ·refine k_k ?_
    refine AWP.block ?_
    refine AWP.region ?_
    refine k_m rfl ?_
    refine rC (Calm.bin rfl rfl b_sub_i64) ?_
    refine k_s rfl ?_
    refine arun_nil ?_
    refine ain_n ?_
    refine athen_n ?_
    refine ⟨j,?_,?_,?_,?_⟩
    all_goals (try dsimp only)
    ·exact ⟨sb_,sb_,sb_,sb_,trivial⟩
    ·exact Mem.Less.refl _
    ·exact ⟨by omega,by omega,(down_go (p:=(fun x=>ltN d2[a]! x)) hij (by simp only [hl,Bool.not_true,Bool.not_false])).trans q3⟩
    ·omega
   ·refine AWP.exit ?_
    refine athen_exit ?_
    refine athen_exit ?_
    refine ain_same ?_
    refine ⟨(j+1),?_,?_,?_⟩
    all_goals (try dsimp only)
    ·exact ⟨by omega,by omega,(down_no (p:=(fun x=>ltN d2[a]! x)) (by omega) (by simp only [hl,Bool.not_true,Bool.not_false])).trans q3⟩
    ·exact ⟨sb_,sb_,sb_,sb_,trivial⟩
    ·exact Mem.Less.refl _
  ·refine AWP.seq (AWP.seq ?_)
   refine AWP.draw [(0,true),(1,true),(2,true),(3,true),(4,true),(5,true),(6,true),(7,true),(8,true),(9,true),(10,true),(11,true),(12,false),(13,true)] [] mixed (by kernel_rfl) ?_
   refine dP (hc:=fun _=>Calm.move rfl) (h:=?_)
   refine dP (hc:=fun _=>Calm.move rfl) (h:=?_)
   refine dP (hc:=fun _=>Calm.bin rfl rfl b_leq) (h:=?_)
   refine dP (hc:=fun _=>Calm.move rfl) (h:=?_)
   first|refine k_d ?_|refine dG (hc:=fun _=>Calm.move rfl) (h:=?_)
   first|refine k_d ?_|refine dG (hc:=fun _=>Calm.move rfl) (h:=?_)
   first|refine k_d ?_|refine dG (hc:=fun _=>Calm.indexS Try.underlying107 ty_size_5 rfl rfl (by omega) (by omega)) (h:=?_)
   first|refine k_d ?_|refine dL (hc:=Calm.load ty_plain_5 rfl (rd_row (k:=a) own_ rw_ rw_)) (h:=?_)
   first|refine k_d ?_|refine dG (hc:=fun _=>Calm.move rfl) (h:=?_)
   first|refine k_d ?_|refine dG (hc:=fun _=>Calm.move rfl) (h:=?_)
   first|refine k_d ?_|refine dG (hc:=fun _=>Calm.indexS Try.underlying107 ty_size_5 rfl rfl (by omega) (by omega)) (h:=?_)
   first|refine k_d ?_|refine dL (hc:=Calm.load ty_plain_5 rfl (rd_row (k:=j+1) own_ rw_ rw_)) (h:=?_)
   refine draw_only rfl ?_
   first | refine rS 49 ?_ | refine rU 49 ?_
   refine arun_nil ⟨fun _=>less_,?_⟩
   refine dP (hc:=fun _=>(by first | exact Calm.pickT rfl rfl | exact Calm.pickF rfl rfl)) (h:=?_)
   refine draw_nil ?_
   refine athen_n ?_
   refine k_u [(0,_),(1,_),(9,_),(10,_),(59,_)] ?_
   refine k_F rfl ?_
   refine AWP.exit ?_
   refine athen_exit ?_
   refine athen_exit ?_
   refine ain_same ?_
   refine ⟨j,?_,?_,?_⟩
   all_goals (try dsimp only)
   ·exact ⟨by omega,by omega,(down_end (p:=(fun x=>ltN d2[a]! x)) hij).trans q3⟩
   ·exact ⟨sb_,sb_,sb_,sb_,trivial⟩
   ·exact Mem.Less.refl _
 rintro j2 ⟨b3,b4,hD⟩
 intro _ _ hs_ hl_
 (try dsimp only at *)
 refine athen_n ?_
 refine AWP.sub _ hs_ (AWP.less _ hl_ ?_)
 clear hs_ hl_
 by_cases hx:j2<i2
 ·refine AWP.seq (k_a (k_m rfl (k_m rfl ?_)))
  refine rC (Calm.bin rfl rfl b_gtr) ?_
  refine k_n ?_
  refine k_u [(0,_),(1,_),(9,_),(10,_),(64,_)] ?_
  refine k_T rfl ?_
  refine AWP.exit ?_
  refine athen_exit ?_
  refine ain_other rfl ?_
  refine athen_exit ?_
  refine ain_same ?_
  refine athen_n ?_
  refine k_a (k_m rfl (k_e rfl ?_))
  refine k_u [(0,_),(1,_),(9,_),(10,_),(64,_),(8,_)] ?_
  refine AWP.ret ?_
  refine ⟨_,_,⟨_,_,rfl,rfl,rfl⟩,Mem.Less.refl _,?_⟩
  exact parteq_res ltN hd0 ((parteq_stop ltN hU hD hx).trans m3) R2 (by omega) (by omega)
 ·refine AWP.seq (k_a (k_m rfl (k_m rfl ?_)))
  refine rC (Calm.bin rfl rfl b_gtr) ?_
  refine k_n ?_
  refine k_u [(0,_),(1,_),(9,_),(10,_),(64,_)] ?_
  refine k_F rfl ?_
  refine k_k (AWP.seq ?_)
  refine AWP.draw [(0,true),(1,true),(2,true),(3,true),(4,true),(5,true),(6,true),(7,true),(8,true),(9,true),(10,true),(11,true),(12,true),(13,false),(14,true),(15,false)] [13,15] mixed (by kernel_rfl) ?_
  refine dP (hc:=fun _=>Calm.move rfl) (h:=?_)
  refine dP (hc:=fun _=>Calm.move rfl) (h:=?_)
  refine dP (hc:=fun _=>Calm.move rfl) (h:=?_)
  refine dP (hc:=fun _=>Calm.move rfl) (h:=?_)
  refine dP (hc:=fun _=>Calm.move rfl) (h:=?_)
  refine dP (hc:=fun _=>Calm.move rfl) (h:=?_)
  refine dP (hc:=fun _=>Calm.indexS Try.underlying107 ty_size_5 rfl rfl (by omega) (by omega)) (h:=?_)
  refine dC (hc:=Calm.load ty_plain_5 rfl (rd_row (k:=j2) own_ rw_ rw_)) (h:=?_)
  refine dP (hc:=fun _=>Calm.move rfl) (h:=?_)
  refine dP (hc:=fun _=>Calm.move rfl) (h:=?_)
  refine dP (hc:=fun _=>Calm.indexS Try.underlying107 ty_size_5 rfl rfl (by omega) (by omega)) (h:=?_)
  refine dC (hc:=Calm.load ty_plain_5 rfl (rd_row (k:=i2) own_ rw_ rw_)) (h:=?_)
  refine dP (hc:=fun _=>Calm.indexS Try.underlying107 ty_size_5 rfl rfl (by omega) (by omega)) (h:=?_)
  refine draw_only rfl ?_
  refine ARun.storeRow encB (i2) rfl rfl ty_size_5 ⟨rfl,rfl⟩ own_ rw_ rw_ ?_
  try simp only [k_ms,k_sz,k_ss,k_za,Nat.reduceAdd]
  refine arun_nil ⟨fun h=>absurd h (by decide),?_⟩
  refine dP (hc:=fun _=>Calm.indexS Try.underlying107 ty_size_5 rfl rfl (by omega) (by omega)) (h:=?_)
  refine draw_only rfl ?_
  refine ARun.storeRow encB (j2) rfl rfl ty_size_5 ⟨rfl,rfl⟩ own_ rw_ rw_ ?_
  try simp only [k_ms,k_sz,k_ss,k_za,Nat.reduceAdd]
  refine arun_nil ⟨fun h=>absurd h (by decide),?_⟩
  refine draw_nil ?_
  refine athen_n ?_
  refine k_u [(0,_),(1,_),(9,_),(10,_),(64,_)] ?_
  refine k_a (k_m rfl ?_)
  refine rC (Calm.bin rfl rfl b_add_i64) ?_
  refine k_e rfl ?_
  refine k_u [(0,_),(1,_),(9,_),(10,_),(64,_)] ?_
  refine AWP.region ?_
  refine k_m rfl ?_
  refine rC (Calm.bin rfl rfl b_sub_i64) ?_
  refine k_s rfl ?_
  refine arun_nil ?_
  refine ain_n ?_
  refine athen_n ?_
  refine ⟨(i2+1,j2-1,swp d2 i2 j2),?_,?_,?_,?_⟩
  all_goals (try dsimp only)
  ·exact ⟨sb_,sb_,sb_,sb_,trivial⟩
  ·exact Mem.Less.refl _
  ·exact ⟨by omega,by omega,by omega,by omega,R2.swp _ _ (by omega) (by omega),(parteq_go ltN hU hD hx).trans m3⟩
  ·(have:I2≤i2:=by rw [hU];exact Go.Sort.scanUp_ge _ _ _ _);omega
end Go.Proofs.Ytgidjbpgkeemiaa
