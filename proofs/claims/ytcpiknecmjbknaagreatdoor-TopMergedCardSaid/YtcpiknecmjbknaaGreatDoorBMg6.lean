/-
  Texts that belong together: SortCR, SortY, Sort2CR, Sort3CR, LoserMath, Run3, Flw2, DrawS, Flw3, Run4, Run5, Run6, Flw4, Run7.
-/
import Derived.Test.YtcpiknecmjbknaaGreatDoorBMg5
set_option linter.unusedVariables false
set_option linter.unusedSimpArgs false
set_option linter.unusedSectionVars false
namespace Go.Proofs.YtcpiknecmjbknaaGreatDoor
section
open Go.RowKit
open Mv Srt
open Go.Sort (swp insInner insOuter insertionSort siftDown heapBuild heapPop heapSort scanUp scanDown partLoop partition partEqLoop partitionEqual scanSorted shiftDown shiftUp partialIns partialInsertionSort order2 median medianAdjacent choosePivot reverseLoop reverseRange breakStep breakPatterns pdq bitsLen xorNext Hint)
set_option maxRecDepth 4000
set_option maxHeartbeats 4000000 in
theorem soR_ins {α : Type} [Inhabited α] {enc : α→Value} {cf : α → α→Int} {okP : α→Prop} {g:Nat} {cb:List Value} {S:Mem} (C:CmpC Tryz.prog enc cf okP g cb S) (b room n cap:Nat) (hb:Fresh S b) (hn:n≤1048576) (d:Array α) (R:Rw okP n d) (ia ie:Int) (a e:Nat) (ha:ia=a) (he:ie=e) (han:a≤n) (hen:e≤n) :
  ACall Tryz.prog 183 #[.slice (some ⟨b,0,none⟩) n cap,.int .i64 ia,.int .i64 ie,.func (.func g) #[] cb.toArray] (S.set b ⟨46,(d).toList.map enc,room⟩) fun r S'=>S'=S.set b ⟨46,(insertionSort (lq cf) d a e).toList.map enc,room⟩∧Rw okP n (insertionSort (lq cf) d a e):=by
 subst ha he
 refine k_E4 (rs:=[]) 53 Tryz.func183 rfl rfl rfl ?_
 iterate 8 refine s1_ ?_
 refine AWP.loop (X:=Nat × Array α) (fun x=>[(0,.slice (some ⟨b,0,none⟩) n cap),(1,.int .i64 a),(2,.int .i64 e),(3,.func (.func g) #[] cb.toArray),(8,.int .i64 x.1)]) (fun x=>S.set b ⟨46,(x.2).toList.map enc,room⟩) (fun x=>a<x.1∧(x.1≤n∨e≤x.1)∧Rw okP n x.2∧insOuter (lq cf) a e x.1 x.2=insertionSort (lq cf) d a e) (fun x=>e-x.1) ((a+1,d)) ⟨sb_,sb_,sb_,sb_,sb_,trivial⟩ (Mem.Less.refl _) (⟨by omega,by omega,R,rfl⟩) ?_
 rintro ⟨i,d1⟩ ⟨h1,h2,R1,h3⟩
 (try dsimp only at *)
 have z1:=R1.size
 by_cases hi:i<e
 ·iterate 8 refine s1_ ?_
  refine cT_ ?_
  iterate 11 refine s1_ ?_
  refine AWP.loop (X:=Nat × Array α) (fun x=>[(0,.slice (some ⟨b,0,none⟩) n cap),(1,.int .i64 a),(2,.int .i64 e),(3,.func (.func g) #[] cb.toArray),(8,.int .i64 i),(9,.int .i64 x.1)]) (fun x=>S.set b ⟨46,(x.2).toList.map enc,room⟩) (fun x=>x.1≤i∧Rw okP n x.2∧insInner (lq cf) a x.1 x.2=insInner (lq cf) a i d1) (fun x=>x.1) ((i,d1)) ⟨rfl,rfl,rfl,rfl,rfl,rfl,trivial⟩ (Mem.Less.refl _) (⟨Nat.le_refl _,R1,rfl⟩) ?_
  rintro ⟨j,d2⟩ ⟨k1,R2,k3⟩
  (try dsimp only at *)
  have z2:=R2.size
  have q0:=outer_go (lq cf) (a:=a) (d:=d1) hi
  by_cases ha:a<j
  ·obtain ⟨j,rfl⟩ : ∃ q,j=q+1:=⟨j-1,by omega⟩
   iterate 2 refine s1_ ?_
   refine AWP.draw [(0,true),(1,true),(2,true),(3,true),(4,true),(5,true),(6,true),(7,true),(8,true),(9,true),(10,true),(11,true),(12,true),(13,true),(14,false),(15,true),(16,true)] [] mixed (by kernel_rfl) ?_
   iterate 8 refine s1_ ?_
   first|refine k_d ?_|refine dL (hc:=Calm.load ty_plain_46 rfl (rd_row (k:=j+1) own_ rw_ rw_)) (h:=?_)
   iterate 4 refine s1_ ?_
   first|refine k_d ?_|refine dL (hc:=Calm.load ty_plain_46 rfl (rd_row (k:=j) own_ rw_ rw_)) (h:=?_)
   refine draw_only rfl ?_
   refine rUn 21 ?_
   refine ARun.callV (first:=[]) (cap:=cb) (lit_lt rfl) C.go rfl rfl (C.call less_ (R2.ok (j+1) rw_) (R2.ok (j) rw_)) ?_
   rintro _ _ ⟨rfl,rfl⟩
   refine arun_nil ⟨fun _=>less_,?_⟩
   iterate 4 refine s1_ ?_
   refine AWP.condB rfl (fun hl=>?_) (fun hl=>?_)
   ·iterate 4 refine s1_ ?_
    refine AWP.draw [(0,true),(1,true),(2,true),(3,true),(4,true),(5,true),(6,true),(7,true),(8,true),(9,true),(10,true),(11,true),(12,true),(13,true),(14,true),(15,false),(16,true),(17,false)] [15,17] mixed (by kernel_rfl) ?_
    iterate 9 refine s1_ ?_
    refine dC (hc:=Calm.load ty_plain_46 rfl (rd_row (k:=j) own_ rw_ rw_)) (h:=?_)
    iterate 3 refine s1_ ?_
    refine dC (hc:=Calm.load ty_plain_46 rfl (rd_row (k:=j+1) own_ rw_ rw_)) (h:=?_)
    refine s1_ ?_
    refine draw_only rfl ?_
    refine ARun.storeRow enc (j+1) rfl rfl ty_size_46 (C.one _) own_ rw_ rw_ ?_
    try simp only [k_ms,k_sz,k_ss,k_za,Nat.reduceAdd]
    refine arun_nil ⟨fun h=>absurd h (by decide),?_⟩
    refine s1_ ?_
    refine draw_only rfl ?_
    refine ARun.storeRow enc (j) rfl rfl ty_size_46 (C.one _) own_ rw_ rw_ ?_
    try simp only [k_ms,k_sz,k_ss,k_za,Nat.reduceAdd]
    refine arun_nil ⟨fun h=>absurd h (by decide),?_⟩
    iterate 3 refine s1_ ?_
    refine k_v7 0 1 2 3 8 9 34 ?_
    iterate 6 refine s1_ ?_
    refine ⟨(j,swp d2 (j+1) j),?_,?_,?_,?_⟩
    all_goals (try dsimp only)
    ·exact ⟨sb_,sb_,sb_,sb_,sb_,sb_,trivial⟩
    ·exact Mem.Less.refl _
    ·exact ⟨by omega,R2.swp _ _ (by omega) (by omega),(ins_go (lq cf) ha hl).trans k3⟩
    ·omega
   ·iterate 12 refine s1_ ?_
    refine ⟨(i+1,d2),?_,?_,?_,?_⟩
    all_goals (try dsimp only)
    ·exact ⟨sb_,sb_,sb_,sb_,sb_,trivial⟩
    ·exact Mem.Less.refl _
    ·exact ⟨by omega,by omega,R2,by rw [← k3,← ins_no (lq cf) hl] at q0;exact q0.trans h3⟩
    ·omega
  ·iterate 2 refine s1_ ?_
   refine AWP.draw [(0,true),(1,true),(2,true),(3,true),(4,true),(5,true),(6,true),(7,true),(8,true),(9,true),(10,true),(11,true),(12,true),(13,true),(14,false),(15,true),(16,true)] [] mixed (by kernel_rfl) ?_
   iterate 8 refine s1_ ?_
   first|refine k_d ?_|refine dL (hc:=Calm.load ty_plain_46 rfl (rd_row (k:=j+1) own_ rw_ rw_)) (h:=?_)
   iterate 4 refine s1_ ?_
   first|refine k_d ?_|refine dL (hc:=Calm.load ty_plain_46 rfl (rd_row (k:=j) own_ rw_ rw_)) (h:=?_)
   refine draw_only rfl ?_
   refine s1_ ?_
   refine arun_nil ⟨fun _=>less_,?_⟩
   iterate 4 refine s1_ ?_
   refine cF_ ?_
   iterate 12 refine s1_ ?_
   refine ⟨(i+1,d2),?_,?_,?_,?_⟩
   all_goals (try dsimp only)
   ·exact ⟨sb_,sb_,sb_,sb_,sb_,trivial⟩
   ·exact Mem.Less.refl _
   ·exact ⟨by omega,by omega,R2,by rw [← k3,← ins_end (lq cf) ha] at q0;exact q0.trans h3⟩
   ·omega
 ·iterate 8 refine s1_ ?_
  refine cF_ ?_
  iterate 4 refine s1_ ?_
  refine ⟨_,_,rfl,Mem.Less.refl _,?_⟩
  rw [← h3,← outer_end (lq cf) hi];exact ⟨rfl,R1⟩
set_option maxHeartbeats 4000000 in
theorem soR_sift {α : Type} [Inhabited α] {enc : α→Value} {cf : α → α→Int} {okP : α→Prop} {g:Nat} {cb:List Value} {S:Mem} (C:CmpC Tryz.prog enc cf okP g cb S) (b room n cap:Nat) (hb:Fresh S b) (hn:n≤1048576) (d:Array α) (R:Rw okP n d) (il ih iF:Int) (lo hi first:Nat) (el:il=lo) (eh:ih=hi) (ef:iF=first) (hlo:lo≤n) (hfn:first+hi≤n) :
  ACall Tryz.prog 195 #[.slice (some ⟨b,0,none⟩) n cap,.int .i64 il,.int .i64 ih,.int .i64 iF,.func (.func g) #[] cb.toArray] (S.set b ⟨46,(d).toList.map enc,room⟩) fun r S'=>S'=S.set b ⟨46,(siftDown (lq cf) hi first lo d).toList.map enc,room⟩∧Rw okP n (siftDown (lq cf) hi first lo d):=by
 subst el eh ef
 refine k_E5 (rs:=[]) 82 Tryz.func195 rfl rfl rfl ?_
 iterate 7 refine s1_ ?_
 refine AWP.loop (X:=Nat × Array α) (fun x=>[(0,.slice (some ⟨b,0,none⟩) n cap),(2,.int .i64 hi),(3,.int .i64 first),(4,.func (.func g) #[] cb.toArray),(10,.int .i64 x.1)]) (fun x=>S.set b ⟨46,(x.2).toList.map enc,room⟩) (fun x=>x.1≤n∧Rw okP n x.2∧siftDown (lq cf) hi first x.1 x.2=siftDown (lq cf) hi first lo d) (fun x=>n+1-x.1) ((lo,d)) ⟨rfl,rfl,rfl,rfl,rfl,trivial⟩ (Mem.Less.refl _) (⟨hlo,R,rfl⟩) ?_
 rintro ⟨r,d1⟩ ⟨h1,R1,h3⟩
 (try dsimp only at *)
 have z1:=R1.size
 by_cases hc:hi≤2*r+1
 ·iterate 9 refine s1_ ?_
  iterate 8 refine s1_ ?_
  refine cT_ ?_
  iterate 5 refine s1_ ?_
  refine ⟨_,_,rfl,Mem.Less.refl _,?_⟩
  rw [← h3,← sift_leaf (lq cf) hc];exact ⟨rfl,R1⟩
 ·iterate 9 refine s1_ ?_
  iterate 8 refine s1_ ?_
  refine k_v7 0 2 3 4 10 11 18 ?_
  refine cF_ ?_
  by_cases h2:2*r+2<hi
  ·iterate 4 refine s1_ ?_
   refine AWP.draw [(0,true),(1,true),(2,true),(3,true),(4,true),(5,true),(6,true),(7,true),(8,true),(9,true),(10,true),(11,true),(12,true),(13,true),(14,true),(15,true),(16,true),(17,true),(18,true),(19,false),(20,true),(21,true)] [] mixed (by kernel_rfl) ?_
   iterate 11 refine s1_ ?_
   first|refine k_d ?_|refine dL (hc:=Calm.load ty_plain_46 rfl (rd_row (k:=first+(2*r+1)) own_ rw_ rw_)) (h:=?_)
   iterate 6 refine s1_ ?_
   first|refine k_d ?_|refine dL (hc:=Calm.load ty_plain_46 rfl (rd_row (k:=first+(2*r+2)) own_ rw_ rw_)) (h:=?_)
   refine draw_only rfl ?_
   refine rUn 23 ?_
   refine ARun.callV (first:=[]) (cap:=cb) (lit_lt rfl) C.go rfl rfl (C.call less_ (R1.ok (first+(2*r+1)) rw_) (R1.ok (first+(2*r+2)) rw_)) ?_
   rintro _ _ ⟨rfl,rfl⟩
   refine arun_nil ⟨fun _=>less_,?_⟩
   iterate 4 refine s1_ ?_
   refine AWP.condB rfl (fun hl=>?_) (fun hl=>?_)
   ·have ch:child (lq cf) hi first r d1=2*r+2:=if_pos ⟨h2,hl⟩
    iterate 8 refine s1_ ?_
    refine AWP.draw [(0,true),(1,true),(2,true),(3,true),(4,true),(5,true),(6,true),(7,true),(8,true),(9,true),(10,true),(11,true),(12,true),(13,false),(14,true),(15,true)] [] mixed (by kernel_rfl) ?_
    iterate 6 refine s1_ ?_
    refine dC (hc:=Calm.load ty_plain_46 rfl (rd_row (k:=first+r) own_ rw_ rw_)) (h:=?_)
    iterate 5 refine s1_ ?_
    refine dC (hc:=Calm.load ty_plain_46 rfl (rd_row (k:=first+(2*r+2)) own_ rw_ rw_)) (h:=?_)
    refine draw_only rfl ?_
    refine ARun.callV (first:=[]) (cap:=cb) (lit_lt rfl) C.go rfl rfl (C.call less_ (R1.ok (first+r) rw_) (R1.ok (first+(2*r+2)) rw_)) ?_
    rintro _ _ ⟨rfl,rfl⟩
    refine arun_nil ⟨fun _=>less_,?_⟩
    iterate 4 refine s1_ ?_
    refine AWP.condB rfl (fun hl2=>?_) (fun hl2=>?_)
    ·have hl2:=nt_ hl2
     iterate 5 refine s1_ ?_
     refine ⟨_,_,rfl,Mem.Less.refl _,?_⟩
     rw [← h3,← sift_stop (lq cf) hc (by rw [ch];exact hl2)];exact ⟨rfl,R1⟩
    ·have hl2:=nf_ hl2
     iterate 3 refine s1_ ?_
     refine AWP.draw [(0,true),(1,true),(2,true),(3,true),(4,true),(5,true),(6,true),(7,true),(8,true),(9,true),(10,true),(11,true),(12,true),(13,true),(14,true),(15,true),(16,true),(17,true),(18,true),(19,true),(20,true),(21,false),(22,true),(23,false)] [21,23] mixed (by kernel_rfl) ?_
     iterate 13 refine s1_ ?_
     refine dC (hc:=Calm.load ty_plain_46 rfl (rd_row (k:=first+(2*r+2)) own_ rw_ rw_)) (h:=?_)
     iterate 5 refine s1_ ?_
     refine dC (hc:=Calm.load ty_plain_46 rfl (rd_row (k:=first+r) own_ rw_ rw_)) (h:=?_)
     refine s1_ ?_
     refine draw_only rfl ?_
     refine ARun.storeRow enc (first+r) rfl rfl ty_size_46 (C.one _) own_ rw_ rw_ ?_
     try simp only [k_ms,k_sz,k_ss,k_za,Nat.reduceAdd]
     refine arun_nil ⟨fun h=>absurd h (by decide),?_⟩
     refine s1_ ?_
     refine draw_only rfl ?_
     refine ARun.storeRow enc (first+(2*r+2)) rfl rfl ty_size_46 (C.one _) own_ rw_ rw_ ?_
     try simp only [k_ms,k_sz,k_ss,k_za,Nat.reduceAdd]
     refine arun_nil ⟨fun h=>absurd h (by decide),?_⟩
     iterate 8 refine s1_ ?_
     refine ⟨(2*r+2,swp d1 (first+r) (first+(2*r+2))),?_,?_,?_,?_⟩
     all_goals (try dsimp only)
     ·exact ⟨sb_,sb_,sb_,sb_,sb_,trivial⟩
     ·exact Mem.Less.refl _
     ·exact ⟨by omega,R1.swp _ _ (by omega) (by omega),by have q0:=sift_go (lq cf) hc (by rw [ch];exact hl2);rw [ch] at q0;exact q0.trans h3⟩
     ·omega
   ·have ch:child (lq cf) hi first r d1=2*r+1:=if_neg (fun h=>Bool.noConfusion (hl.symm.trans h.2))
    iterate 4 refine s1_ ?_
    refine AWP.draw [(0,true),(1,true),(2,true),(3,true),(4,true),(5,true),(6,true),(7,true),(8,true),(9,true),(10,true),(11,true),(12,true),(13,false),(14,true),(15,true)] [] mixed (by kernel_rfl) ?_
    iterate 6 refine s1_ ?_
    refine dC (hc:=Calm.load ty_plain_46 rfl (rd_row (k:=first+r) own_ rw_ rw_)) (h:=?_)
    iterate 5 refine s1_ ?_
    refine dC (hc:=Calm.load ty_plain_46 rfl (rd_row (k:=first+(2*r+1)) own_ rw_ rw_)) (h:=?_)
    refine draw_only rfl ?_
    refine ARun.callV (first:=[]) (cap:=cb) (lit_lt rfl) C.go rfl rfl (C.call less_ (R1.ok (first+r) rw_) (R1.ok (first+(2*r+1)) rw_)) ?_
    rintro _ _ ⟨rfl,rfl⟩
    refine arun_nil ⟨fun _=>less_,?_⟩
    iterate 4 refine s1_ ?_
    refine k_v9 0 2 3 4 10 11 18 40 58 ?_
    refine AWP.condB rfl (fun hl2=>?_) (fun hl2=>?_)
    ·have hl2:=nt_ hl2
     iterate 5 refine s1_ ?_
     refine ⟨_,_,rfl,Mem.Less.refl _,?_⟩
     rw [← h3,← sift_stop (lq cf) hc (by rw [ch];exact hl2)];exact ⟨rfl,R1⟩
    ·have hl2:=nf_ hl2
     iterate 3 refine s1_ ?_
     refine AWP.draw [(0,true),(1,true),(2,true),(3,true),(4,true),(5,true),(6,true),(7,true),(8,true),(9,true),(10,true),(11,true),(12,true),(13,true),(14,true),(15,true),(16,true),(17,true),(18,true),(19,true),(20,true),(21,false),(22,true),(23,false)] [21,23] mixed (by kernel_rfl) ?_
     iterate 13 refine s1_ ?_
     refine dC (hc:=Calm.load ty_plain_46 rfl (rd_row (k:=first+(2*r+1)) own_ rw_ rw_)) (h:=?_)
     iterate 5 refine s1_ ?_
     refine dC (hc:=Calm.load ty_plain_46 rfl (rd_row (k:=first+r) own_ rw_ rw_)) (h:=?_)
     refine s1_ ?_
     refine draw_only rfl ?_
     refine ARun.storeRow enc (first+r) rfl rfl ty_size_46 (C.one _) own_ rw_ rw_ ?_
     try simp only [k_ms,k_sz,k_ss,k_za,Nat.reduceAdd]
     refine arun_nil ⟨fun h=>absurd h (by decide),?_⟩
     refine s1_ ?_
     refine draw_only rfl ?_
     refine ARun.storeRow enc (first+(2*r+1)) rfl rfl ty_size_46 (C.one _) own_ rw_ rw_ ?_
     try simp only [k_ms,k_sz,k_ss,k_za,Nat.reduceAdd]
     refine arun_nil ⟨fun h=>absurd h (by decide),?_⟩
     iterate 8 refine s1_ ?_
     refine ⟨(2*r+1,swp d1 (first+r) (first+(2*r+1))),?_,?_,?_,?_⟩
     all_goals (try dsimp only)
     ·exact ⟨sb_,sb_,sb_,sb_,sb_,trivial⟩
     ·exact Mem.Less.refl _
     ·exact ⟨by omega,R1.swp _ _ (by omega) (by omega),by have q0:=sift_go (lq cf) hc (by rw [ch];exact hl2);rw [ch] at q0;exact q0.trans h3⟩
     ·omega
  ·iterate 4 refine s1_ ?_
   refine AWP.draw [(0,true),(1,true),(2,true),(3,true),(4,true),(5,true),(6,true),(7,true),(8,true),(9,true),(10,true),(11,true),(12,true),(13,true),(14,true),(15,true),(16,true),(17,true),(18,true),(19,false),(20,true),(21,true)] [] mixed (by kernel_rfl) ?_
   iterate 11 refine s1_ ?_
   first|refine k_d ?_|refine dL (hc:=Calm.load ty_plain_46 rfl (rd_row (k:=first+(2*r+1)) own_ rw_ rw_)) (h:=?_)
   iterate 6 refine s1_ ?_
   first|refine k_d ?_|refine dL (hc:=Calm.load ty_plain_46 rfl (rd_row (k:=first+(2*r+2)) own_ rw_ rw_)) (h:=?_)
   refine draw_only rfl ?_
   refine s1_ ?_
   refine arun_nil ⟨fun _=>less_,?_⟩
   iterate 4 refine s1_ ?_
   refine cF_ ?_
   have ch:child (lq cf) hi first r d1=2*r+1:=if_neg (fun h=>h2 h.1)
   iterate 4 refine s1_ ?_
   refine AWP.draw [(0,true),(1,true),(2,true),(3,true),(4,true),(5,true),(6,true),(7,true),(8,true),(9,true),(10,true),(11,true),(12,true),(13,false),(14,true),(15,true)] [] mixed (by kernel_rfl) ?_
   iterate 6 refine s1_ ?_
   refine dC (hc:=Calm.load ty_plain_46 rfl (rd_row (k:=first+r) own_ rw_ rw_)) (h:=?_)
   iterate 5 refine s1_ ?_
   refine dC (hc:=Calm.load ty_plain_46 rfl (rd_row (k:=first+(2*r+1)) own_ rw_ rw_)) (h:=?_)
   refine draw_only rfl ?_
   refine ARun.callV (first:=[]) (cap:=cb) (lit_lt rfl) C.go rfl rfl (C.call less_ (R1.ok (first+r) rw_) (R1.ok (first+(2*r+1)) rw_)) ?_
   rintro _ _ ⟨rfl,rfl⟩
   refine arun_nil ⟨fun _=>less_,?_⟩
   iterate 4 refine s1_ ?_
   refine AWP.condB rfl (fun hl2=>?_) (fun hl2=>?_)
   ·have hl2:=nt_ hl2
    iterate 5 refine s1_ ?_
    refine ⟨_,_,rfl,Mem.Less.refl _,?_⟩
    rw [← h3,← sift_stop (lq cf) hc (by rw [ch];exact hl2)];exact ⟨rfl,R1⟩
   ·have hl2:=nf_ hl2
    iterate 3 refine s1_ ?_
    refine AWP.draw [(0,true),(1,true),(2,true),(3,true),(4,true),(5,true),(6,true),(7,true),(8,true),(9,true),(10,true),(11,true),(12,true),(13,true),(14,true),(15,true),(16,true),(17,true),(18,true),(19,true),(20,true),(21,false),(22,true),(23,false)] [21,23] mixed (by kernel_rfl) ?_
    iterate 13 refine s1_ ?_
    refine dC (hc:=Calm.load ty_plain_46 rfl (rd_row (k:=first+(2*r+1)) own_ rw_ rw_)) (h:=?_)
    iterate 5 refine s1_ ?_
    refine dC (hc:=Calm.load ty_plain_46 rfl (rd_row (k:=first+r) own_ rw_ rw_)) (h:=?_)
    refine s1_ ?_
    refine draw_only rfl ?_
    refine ARun.storeRow enc (first+r) rfl rfl ty_size_46 (C.one _) own_ rw_ rw_ ?_
    try simp only [k_ms,k_sz,k_ss,k_za,Nat.reduceAdd]
    refine arun_nil ⟨fun h=>absurd h (by decide),?_⟩
    refine s1_ ?_
    refine draw_only rfl ?_
    refine ARun.storeRow enc (first+(2*r+1)) rfl rfl ty_size_46 (C.one _) own_ rw_ rw_ ?_
    try simp only [k_ms,k_sz,k_ss,k_za,Nat.reduceAdd]
    refine arun_nil ⟨fun h=>absurd h (by decide),?_⟩
    iterate 8 refine s1_ ?_
    refine ⟨(2*r+1,swp d1 (first+r) (first+(2*r+1))),?_,?_,?_,?_⟩
    all_goals (try dsimp only)
    ·exact ⟨sb_,sb_,sb_,sb_,sb_,trivial⟩
    ·exact Mem.Less.refl _
    ·exact ⟨by omega,R1.swp _ _ (by omega) (by omega),by have q0:=sift_go (lq cf) hc (by rw [ch];exact hl2);rw [ch] at q0;exact q0.trans h3⟩
    ·omega
set_option maxHeartbeats 4000000 in
theorem soR_heap {α : Type} [Inhabited α] {enc : α→Value} {cf : α → α→Int} {okP : α→Prop} {g:Nat} {cb:List Value} {S:Mem} (C:CmpC Tryz.prog enc cf okP g cb S) (b room n cap:Nat) (hb:Fresh S b) (hn:n≤1048576) (d:Array α) (R:Rw okP n d) (ia ie:Int) (a e:Nat) (ha:ia=a) (he:ie=e) (hae:a<e) (hen:e≤n) :
  ACall Tryz.prog 184 #[.slice (some ⟨b,0,none⟩) n cap,.int .i64 ia,.int .i64 ie,.func (.func g) #[] cb.toArray] (S.set b ⟨46,(d).toList.map enc,room⟩) fun r S'=>S'=S.set b ⟨46,(heapSort (lq cf) d a e).toList.map enc,room⟩∧Rw okP n (heapSort (lq cf) d a e):=by
 subst ha he
 obtain ⟨L,rfl⟩ : ∃ L,e=a+L:=⟨e-a,by omega⟩
 have hH:heapPop (lq cf) a L (heapBuild (lq cf) L a ((L-1) / 2+1) d)=heapSort (lq cf) d a (a+L):=by unfold heapSort;rw [Nat.add_sub_cancel_left]
 refine k_E4 (rs:=[]) 60 Tryz.func184 rfl rfl rfl ?_
 iterate 29 refine s1_ ?_
 refine AWP.loop (X:=Nat × Array α) (fun x=>[(0,.slice (some ⟨b,0,none⟩) n cap),(3,.func (.func g) #[] cb.toArray),(8,.int .i64 a),(9,.int .i64 0),(10,.int .i64 L),(11,.int .i64 ((x.1:Int)-1))]) (fun x=>S.set b ⟨46,(x.2).toList.map enc,room⟩) (fun x=>x.1≤L∧Rw okP n x.2∧heapPop (lq cf) a L (heapBuild (lq cf) L a x.1 x.2)=heapSort (lq cf) d a (a+L)) (fun x=>x.1) (((L-1) / 2+1,d)) ⟨sb_,sb_,sb_,sb_,sb_,sb_,trivial⟩ (Mem.Less.refl _) (⟨by omega,R,hH⟩) ?_
 rintro ⟨k,d1⟩ ⟨h1,R1,h3⟩
 (try dsimp only at *)
 by_cases hk:0<k
 ·obtain ⟨k,rfl⟩ : ∃ q,k=q+1:=⟨k-1,by omega⟩
  iterate 7 refine s1_ ?_
  refine cT_ ?_
  iterate 10 refine s1_ ?_
  refine ca_ rfl (soR_sift C b room n cap hb hn d1 R1 _ _ _ k L a rw_ rw_ rfl (by omega) (by omega)) ?_
  rintro _ _ ⟨rfl,R2⟩
  iterate 3 refine s1_ ?_
  refine k_v7 0 3 8 9 10 11 21 ?_
  iterate 6 refine s1_ ?_
  refine ⟨(k,siftDown (lq cf) L a k d1),?_,?_,?_,?_⟩
  all_goals (try dsimp only)
  ·exact ⟨sb_,sb_,sb_,sb_,sb_,sb_,trivial⟩
  ·exact Mem.Less.refl _
  ·exact ⟨by omega,R2,h3⟩
  ·omega
 ·obtain rfl:k=0:=by omega
  iterate 7 refine s1_ ?_
  refine cF_ ?_
  iterate 13 refine s1_ ?_
  refine AWP.loop (X:=Nat × Array α) (fun x=>[(0,.slice (some ⟨b,0,none⟩) n cap),(3,.func (.func g) #[] cb.toArray),(8,.int .i64 a),(9,.int .i64 0),(12,.int .i64 ((x.1:Int)-1))]) (fun x=>S.set b ⟨46,(x.2).toList.map enc,room⟩) (fun x=>x.1≤L∧Rw okP n x.2∧heapPop (lq cf) a x.1 x.2=heapSort (lq cf) d a (a+L)) (fun x=>x.1) ((L,d1)) ⟨sb_,sb_,sb_,sb_,sb_,trivial⟩ (Mem.Less.refl _) (⟨Nat.le_refl _,R1,h3⟩) ?_
  rintro ⟨k,d2⟩ ⟨k1,R2,k3⟩
  (try dsimp only at *)
  have z2:=R2.size
  by_cases hk:0<k
  ·obtain ⟨k,rfl⟩ : ∃ q,k=q+1:=⟨k-1,by omega⟩
   iterate 7 refine s1_ ?_
   refine cT_ ?_
   iterate 5 refine s1_ ?_
   refine AWP.draw [(0,true),(1,true),(2,true),(3,true),(4,true),(5,true),(6,true),(7,true),(8,true),(9,true),(10,true),(11,true),(12,true),(13,true),(14,true),(15,true),(16,true),(17,false),(18,true),(19,false)] [17,19] mixed (by kernel_rfl) ?_
   iterate 11 refine s1_ ?_
   refine dC (hc:=Calm.load ty_plain_46 rfl (rd_row (k:=a+k) own_ rw_ rw_)) (h:=?_)
   iterate 3 refine s1_ ?_
   refine dC (hc:=Calm.load ty_plain_46 rfl (rd_row (k:=a) own_ rw_ rw_)) (h:=?_)
   refine s1_ ?_
   refine draw_only rfl ?_
   refine ARun.storeRow enc (a) rfl rfl ty_size_46 (C.one _) own_ rw_ rw_ ?_
   try simp only [k_ms,k_sz,k_ss,k_za,Nat.reduceAdd]
   refine arun_nil ⟨fun h=>absurd h (by decide),?_⟩
   refine s1_ ?_
   refine draw_only rfl ?_
   refine ARun.storeRow enc (a+k) rfl rfl ty_size_46 (C.one _) own_ rw_ rw_ ?_
   try simp only [k_ms,k_sz,k_ss,k_za,Nat.reduceAdd]
   refine arun_nil ⟨fun h=>absurd h (by decide),?_⟩
   iterate 8 refine s1_ ?_
   refine ca_ rfl (soR_sift C b room n cap hb hn (swp d2 a (a+k)) (R2.swp _ _ (by omega) (by omega)) _ _ _ 0 k a rfl rw_ rfl (by omega) (by omega)) ?_
   rintro _ _ ⟨rfl,R3⟩
   iterate 3 refine s1_ ?_
   refine k_v6 0 3 8 9 12 33 ?_
   iterate 6 refine s1_ ?_
   refine ⟨(k,siftDown (lq cf) k a 0 (swp d2 a (a+k))),?_,?_,?_,?_⟩
   all_goals (try dsimp only)
   ·exact ⟨sb_,sb_,sb_,sb_,sb_,trivial⟩
   ·exact Mem.Less.refl _
   ·exact ⟨by omega,R3,k3⟩
   ·omega
  ·obtain rfl:k=0:=by omega
   iterate 7 refine s1_ ?_
   refine cF_ ?_
   iterate 4 refine s1_ ?_
   refine ⟨_,_,rfl,Mem.Less.refl _,?_⟩
   rw [← k3];exact ⟨rfl,R2⟩
set_option maxHeartbeats 4000000 in
theorem soR_part {α : Type} [Inhabited α] {enc : α→Value} {cf : α → α→Int} {okP : α→Prop} {g:Nat} {cb:List Value} {S:Mem} (C:CmpC Tryz.prog enc cf okP g cb S) (b room n cap:Nat) (hb:Fresh S b) (hn:n≤1048576) (d:Array α) (R:Rw okP n d) (ia ie ip:Int) (a e p:Nat) (ha:ia=a) (he:ie=e) (hpp:ip=p) (hap:a≤p) (hpe:p<e) (hen:e≤n) :
  ACall Tryz.prog 190 #[.slice (some ⟨b,0,none⟩) n cap,.int .i64 ia,.int .i64 ie,.int .i64 ip,.func (.func g) #[] cb.toArray] (S.set b ⟨46,(d).toList.map enc,room⟩) fun r S'=>PartR α (fun x:Array α=>S.set b ⟨46,(x).toList.map enc,room⟩) okP n (partition (lq cf) d a e p) a e r S':=by
 subst ha he hpp
 obtain ⟨J,rfl⟩ : ∃ J,e=J+1:=⟨e-1,by omega⟩
 have R0:=R.swp a p (by omega) (by omega)
 have z:=R.size
 obtain ⟨d0,hd0⟩ : ∃ d0,d0=swp d a p:=⟨_,rfl⟩
 rw [← hd0] at R0
 have z0:=R0.size
 refine k_E5 (rs:=[.tmp 10,.tmp 11]) 178 Tryz.func190 rfl rfl rfl ?_
 iterate 7 refine s1_ ?_
 refine AWP.draw [(0,true),(1,true),(2,true),(3,true),(4,true),(5,true),(6,true),(7,true),(8,true),(9,true),(10,true),(11,true),(12,true),(13,false),(14,true),(15,false)] [13,15] mixed (by kernel_rfl) ?_
 iterate 7 refine s1_ ?_
 refine dC (hc:=Calm.load ty_plain_46 rfl (rd_row (k:=p) own_ rw_ rw_)) (h:=?_)
 iterate 3 refine s1_ ?_
 refine dC (hc:=Calm.load ty_plain_46 rfl (rd_row (k:=a) own_ rw_ rw_)) (h:=?_)
 refine s1_ ?_
 refine draw_only rfl ?_
 refine ARun.storeRow enc (a) rfl rfl ty_size_46 (C.one _) own_ rw_ rw_ ?_
 try simp only [k_ms,k_sz,k_ss,k_za,Nat.reduceAdd]
 refine arun_nil ⟨fun h=>absurd h (by decide),?_⟩
 refine s1_ ?_
 refine draw_only rfl ?_
 refine ARun.storeRow enc (p) rfl rfl ty_size_46 (C.one _) own_ rw_ rw_ ?_
 try simp only [k_ms,k_sz,k_ss,k_za,Nat.reduceAdd]
 refine arun_nil ⟨fun h=>absurd h (by decide),?_⟩
 iterate 2 refine s1_ ?_
 refine AWP.less (S.set b ⟨46,(d0).toList.map enc,room⟩) (by rw [hd0];exact Mem.Less.refl _) ?_
 iterate 11 refine s1_ ?_
 refine AWP.join (X:=Nat) (fun x=>[(0,.slice (some ⟨b,0,none⟩) n cap),(1,.int .i64 a),(4,.func (.func g) #[] cb.toArray),(12,.int .i64 x),(13,.int .i64 J)]) (fun _=>S.set b ⟨46,(d0).toList.map enc,room⟩) (fun x=>a+1≤x∧x≤J+1∧x=scanUp (fun x=>(lq cf) x d0[a]!) d0 (J) (a+1)) ?_ ?_
 ·refine s1_ ?_
  refine AWP.loop (X:=Nat) (fun x=>[(0,.slice (some ⟨b,0,none⟩) n cap),(1,.int .i64 a),(4,.func (.func g) #[] cb.toArray),(12,.int .i64 x),(13,.int .i64 J)]) (fun _=>S.set b ⟨46,(d0).toList.map enc,room⟩) (fun x=>a+1≤x∧x≤J+1∧scanUp (fun x=>(lq cf) x d0[a]!) d0 (J) x=scanUp (fun x=>(lq cf) x d0[a]!) d0 (J) (a+1)) (fun x=>J+1-x) ((a+1)) ⟨sb_,sb_,sb_,sb_,sb_,trivial⟩ (Mem.Less.refl _) (⟨by omega,by omega,rfl⟩) ?_
  rintro i ⟨q1,q2,q3⟩
  (try dsimp only at *)
  by_cases hij:i≤J
  ·iterate 2 refine s1_ ?_
   refine AWP.draw [(0,true),(1,true),(2,true),(3,true),(4,true),(5,true),(6,true),(7,true),(8,true),(9,true),(10,true),(11,true),(12,true),(13,false),(14,true),(15,true)] [] mixed (by kernel_rfl) ?_
   iterate 8 refine s1_ ?_
   first|refine k_d ?_|refine dL (hc:=Calm.load ty_plain_46 rfl (rd_row (k:=i) own_ rw_ rw_)) (h:=?_)
   iterate 3 refine s1_ ?_
   first|refine k_d ?_|refine dL (hc:=Calm.load ty_plain_46 rfl (rd_row (k:=a) own_ rw_ rw_)) (h:=?_)
   refine draw_only rfl ?_
   refine rUn 35 ?_
   refine ARun.callV (first:=[]) (cap:=cb) (lit_lt rfl) C.go rfl rfl (C.call less_ (R0.ok (i) rw_) (R0.ok (a) rw_)) ?_
   rintro _ _ ⟨rfl,rfl⟩
   refine arun_nil ⟨fun _=>less_,?_⟩
   iterate 4 refine s1_ ?_
   refine AWP.condB rfl (fun hl=>?_) (fun hl=>?_)
   ·iterate 10 refine s1_ ?_
    refine ⟨i+1,?_,?_,?_,?_⟩
    all_goals (try dsimp only)
    ·exact ⟨sb_,sb_,sb_,sb_,sb_,trivial⟩
    ·exact Mem.Less.refl _
    ·exact ⟨by omega,by omega,(up_go (p:=(fun x=>(lq cf) x d0[a]!)) hij (by simp only [lq_,hl,Bool.not_true,Bool.not_false])).trans q3⟩
    ·omega
   ·iterate 4 refine s1_ ?_
    refine ⟨i,?_,?_,?_⟩
    all_goals (try dsimp only)
    ·exact ⟨by omega,by omega,(up_no (p:=(fun x=>(lq cf) x d0[a]!)) (by simp only [lq_,hl,Bool.not_true,Bool.not_false])).trans q3⟩
    ·exact ⟨sb_,sb_,sb_,sb_,sb_,trivial⟩
    ·exact Mem.Less.refl _
  ·iterate 2 refine s1_ ?_
   refine AWP.draw [(0,true),(1,true),(2,true),(3,true),(4,true),(5,true),(6,true),(7,true),(8,true),(9,true),(10,true),(11,true),(12,true),(13,false),(14,true),(15,true)] [] mixed (by kernel_rfl) ?_
   iterate 8 refine s1_ ?_
   first|refine k_d ?_|refine dL (hc:=Calm.load ty_plain_46 rfl (rd_row (k:=i) own_ rw_ rw_)) (h:=?_)
   iterate 3 refine s1_ ?_
   first|refine k_d ?_|refine dL (hc:=Calm.load ty_plain_46 rfl (rd_row (k:=a) own_ rw_ rw_)) (h:=?_)
   refine draw_only rfl ?_
   refine s1_ ?_
   refine arun_nil ⟨fun _=>less_,?_⟩
   iterate 4 refine s1_ ?_
   refine cF_ ?_
   iterate 4 refine s1_ ?_
   refine ⟨i,?_,?_,?_⟩
   all_goals (try dsimp only)
   ·exact ⟨by omega,by omega,(up_end (p:=(fun x=>(lq cf) x d0[a]!)) hij).trans q3⟩
   ·exact ⟨sb_,sb_,sb_,sb_,sb_,trivial⟩
   ·exact Mem.Less.refl _
 rintro i2 ⟨b1,b2,hU⟩
 intro _ _ hs_ hl_
 (try dsimp only at *)
 refine athen_n ?_
 refine AWP.sub _ hs_ (AWP.less _ hl_ ?_)
 clear hs_ hl_
 refine s1_ ?_
 refine AWP.join (X:=Nat) (fun x=>[(0,.slice (some ⟨b,0,none⟩) n cap),(1,.int .i64 a),(4,.func (.func g) #[] cb.toArray),(12,.int .i64 i2),(13,.int .i64 x)]) (fun _=>S.set b ⟨46,(d0).toList.map enc,room⟩) (fun x=>a≤x∧x≤J∧x=scanDown (fun x=>!(lq cf) x d0[a]!) d0 i2 J) ?_ ?_
 ·refine s1_ ?_
  refine AWP.loop (X:=Nat) (fun x=>[(0,.slice (some ⟨b,0,none⟩) n cap),(1,.int .i64 a),(4,.func (.func g) #[] cb.toArray),(12,.int .i64 i2),(13,.int .i64 x)]) (fun _=>S.set b ⟨46,(d0).toList.map enc,room⟩) (fun x=>a≤x∧x≤J∧scanDown (fun x=>!(lq cf) x d0[a]!) d0 i2 x=scanDown (fun x=>!(lq cf) x d0[a]!) d0 i2 J) (fun x=>x) (J) ⟨sb_,sb_,sb_,sb_,sb_,trivial⟩ (Mem.Less.refl _) (⟨by omega,by omega,rfl⟩) ?_
  rintro j ⟨q1,q2,q3⟩
  (try dsimp only at *)
  by_cases hij:i2≤j
  ·obtain ⟨j,rfl⟩ : ∃ q,j=q+1:=⟨j-1,by omega⟩
   iterate 2 refine s1_ ?_
   refine AWP.draw [(0,true),(1,true),(2,true),(3,true),(4,true),(5,true),(6,true),(7,true),(8,true),(9,true),(10,true),(11,true),(12,true),(13,false),(14,true),(15,true),(16,true)] [] mixed (by kernel_rfl) ?_
   iterate 8 refine s1_ ?_
   first|refine k_d ?_|refine dL (hc:=Calm.load ty_plain_46 rfl (rd_row (k:=j+1) own_ rw_ rw_)) (h:=?_)
   iterate 3 refine s1_ ?_
   first|refine k_d ?_|refine dL (hc:=Calm.load ty_plain_46 rfl (rd_row (k:=a) own_ rw_ rw_)) (h:=?_)
   refine draw_only rfl ?_
   refine rUn 53 ?_
   refine ARun.callV (first:=[]) (cap:=cb) (lit_lt rfl) C.go rfl rfl (C.call less_ (R0.ok (j+1) rw_) (R0.ok (a) rw_)) ?_
   rintro _ _ ⟨rfl,rfl⟩
   refine arun_nil ⟨fun _=>less_,?_⟩
   iterate 5 refine s1_ ?_
   refine k_v6 0 1 4 12 13 66 ?_
   refine AWP.condB rfl (fun hl=>?_) (fun hl=>?_)
   ·have hl:=nt_ hl
    iterate 10 refine s1_ ?_
    refine ⟨j,?_,?_,?_,?_⟩
    all_goals (try dsimp only)
    ·exact ⟨sb_,sb_,sb_,sb_,sb_,trivial⟩
    ·exact Mem.Less.refl _
    ·exact ⟨by omega,by omega,(down_go (p:=(fun x=>!(lq cf) x d0[a]!)) hij (by simp only [lq_,hl,Bool.not_true,Bool.not_false])).trans q3⟩
    ·omega
   ·have hl:=nf_ hl
    iterate 4 refine s1_ ?_
    refine ⟨(j+1),?_,?_,?_⟩
    all_goals (try dsimp only)
    ·exact ⟨by omega,by omega,(down_no (p:=(fun x=>!(lq cf) x d0[a]!)) (by omega) (by simp only [lq_,hl,Bool.not_true,Bool.not_false])).trans q3⟩
    ·exact ⟨sb_,sb_,sb_,sb_,sb_,trivial⟩
    ·exact Mem.Less.refl _
  ·iterate 2 refine s1_ ?_
   refine AWP.draw [(0,true),(1,true),(2,true),(3,true),(4,true),(5,true),(6,true),(7,true),(8,true),(9,true),(10,true),(11,true),(12,true),(13,false),(14,true),(15,true),(16,true)] [] mixed (by kernel_rfl) ?_
   iterate 8 refine s1_ ?_
   first|refine k_d ?_|refine dL (hc:=Calm.load ty_plain_46 rfl (rd_row (k:=j+1) own_ rw_ rw_)) (h:=?_)
   iterate 3 refine s1_ ?_
   first|refine k_d ?_|refine dL (hc:=Calm.load ty_plain_46 rfl (rd_row (k:=a) own_ rw_ rw_)) (h:=?_)
   refine draw_only rfl ?_
   refine s1_ ?_
   refine arun_nil ⟨fun _=>less_,?_⟩
   iterate 5 refine s1_ ?_
   refine cF_ ?_
   iterate 4 refine s1_ ?_
   refine ⟨j,?_,?_,?_⟩
   all_goals (try dsimp only)
   ·exact ⟨by omega,by omega,(down_end (p:=(fun x=>!(lq cf) x d0[a]!)) hij).trans q3⟩
   ·exact ⟨sb_,sb_,sb_,sb_,sb_,trivial⟩
   ·exact Mem.Less.refl _
 rintro j2 ⟨b3,b4,hD⟩
 intro _ _ hs_ hl_
 (try dsimp only at *)
 refine athen_n ?_
 refine AWP.sub _ hs_ (AWP.less _ hl_ ?_)
 clear hs_ hl_
 by_cases hx:j2<i2
 ·iterate 8 refine s1_ ?_
  refine cT_ ?_
  refine s1_ ?_
  refine AWP.draw [(0,true),(1,true),(2,true),(3,true),(4,true),(5,true),(6,true),(7,true),(8,true),(9,true),(10,true),(11,true),(12,true),(13,false),(14,true),(15,false)] [13,15] mixed (by kernel_rfl) ?_
  iterate 7 refine s1_ ?_
  refine dC (hc:=Calm.load ty_plain_46 rfl (rd_row (k:=a) own_ rw_ rw_)) (h:=?_)
  iterate 3 refine s1_ ?_
  refine dC (hc:=Calm.load ty_plain_46 rfl (rd_row (k:=j2) own_ rw_ rw_)) (h:=?_)
  refine s1_ ?_
  refine draw_only rfl ?_
  refine ARun.storeRow enc (j2) rfl rfl ty_size_46 (C.one _) own_ rw_ rw_ ?_
  try simp only [k_ms,k_sz,k_ss,k_za,Nat.reduceAdd]
  refine arun_nil ⟨fun h=>absurd h (by decide),?_⟩
  refine s1_ ?_
  refine draw_only rfl ?_
  refine ARun.storeRow enc (a) rfl rfl ty_size_46 (C.one _) own_ rw_ rw_ ?_
  try simp only [k_ms,k_sz,k_ss,k_za,Nat.reduceAdd]
  refine arun_nil ⟨fun h=>absurd h (by decide),?_⟩
  iterate 11 refine s1_ ?_
  refine ⟨_,_,⟨_,_,rfl,⟨_,_,rfl,rfl,rfl⟩,rfl⟩,Mem.Less.refl _,?_⟩
  exact part_res1 (lq cf) hd0 hU hD hx (R0.swp _ _ (by omega) (by omega)) (by omega) (by omega)
 ·iterate 8 refine s1_ ?_
  refine k_v6 0 1 4 12 13 71 ?_
  refine cF_ ?_
  iterate 3 refine s1_ ?_
  refine AWP.draw [(0,true),(1,true),(2,true),(3,true),(4,true),(5,true),(6,true),(7,true),(8,true),(9,true),(10,true),(11,true),(12,true),(13,false),(14,true),(15,false)] [13,15] mixed (by kernel_rfl) ?_
  have R1:=R0.swp i2 j2 (by omega) (by omega)
  have hst:partLoop (lq cf) a (i2+1) (j2-1) (swp d0 i2 j2)=partLoop (lq cf) a (i2+1) (j2-1) (swp d0 i2 j2):=rfl
  iterate 7 refine s1_ ?_
  refine dC (hc:=Calm.load ty_plain_46 rfl (rd_row (k:=j2) own_ rw_ rw_)) (h:=?_)
  iterate 3 refine s1_ ?_
  refine dC (hc:=Calm.load ty_plain_46 rfl (rd_row (k:=i2) own_ rw_ rw_)) (h:=?_)
  refine s1_ ?_
  refine draw_only rfl ?_
  refine ARun.storeRow enc (i2) rfl rfl ty_size_46 (C.one _) own_ rw_ rw_ ?_
  try simp only [k_ms,k_sz,k_ss,k_za,Nat.reduceAdd]
  refine arun_nil ⟨fun h=>absurd h (by decide),?_⟩
  refine s1_ ?_
  refine draw_only rfl ?_
  refine ARun.storeRow enc (j2) rfl rfl ty_size_46 (C.one _) own_ rw_ rw_ ?_
  try simp only [k_ms,k_sz,k_ss,k_za,Nat.reduceAdd]
  refine arun_nil ⟨fun h=>absurd h (by decide),?_⟩
  iterate 17 refine s1_ ?_
  refine AWP.join (X:=Nat × Array α) (fun x=>[(0,.slice (some ⟨b,0,none⟩) n cap),(1,.int .i64 a),(13,.int .i64 x.1)]) (fun x=>S.set b ⟨46,(x.2).toList.map enc,room⟩) (fun x=>a≤x.1∧x.1≤J∧Rw okP n x.2∧(x.1,x.2)=partLoop (lq cf) a (i2+1) (j2-1) (swp d0 i2 j2)) ?_ ?_
  ·refine s1_ ?_
   refine AWP.loop (X:=Nat × Nat × Array α) (fun x=>[(0,.slice (some ⟨b,0,none⟩) n cap),(1,.int .i64 a),(4,.func (.func g) #[] cb.toArray),(12,.int .i64 x.1),(13,.int .i64 x.2.1)]) (fun x=>S.set b ⟨46,(x.2.2).toList.map enc,room⟩) (fun x=>a+1≤x.1∧x.1≤J+1∧a≤x.2.1∧x.2.1≤J∧Rw okP n x.2.2∧partLoop (lq cf) a x.1 x.2.1 x.2.2=partLoop (lq cf) a (i2+1) (j2-1) (swp d0 i2 j2)) (fun x=>J+1-x.1) ((i2+1,j2-1,swp d0 i2 j2)) ⟨sb_,sb_,sb_,sb_,sb_,trivial⟩ (Mem.Less.refl _) (⟨by dsimp only;omega,by dsimp only;omega,by dsimp only;omega,by dsimp only;omega,R1,rfl⟩) ?_
   rintro ⟨I2,J2,d2⟩ ⟨m1,m2,m4,m5,R2,m3⟩
   (try dsimp only at *)
   have z2:=R2.size
   iterate 2 refine s1_ ?_
   refine AWP.join (X:=Nat) (fun x=>[(0,.slice (some ⟨b,0,none⟩) n cap),(1,.int .i64 a),(4,.func (.func g) #[] cb.toArray),(12,.int .i64 x),(13,.int .i64 J2)]) (fun _=>S.set b ⟨46,(d2).toList.map enc,room⟩) (fun x=>a+1≤x∧x≤J+1∧x=scanUp (fun x=>(lq cf) x d2[a]!) d2 (J2) I2) ?_ ?_
   ·refine s1_ ?_
    refine AWP.loop (X:=Nat) (fun x=>[(0,.slice (some ⟨b,0,none⟩) n cap),(1,.int .i64 a),(4,.func (.func g) #[] cb.toArray),(12,.int .i64 x),(13,.int .i64 J2)]) (fun _=>S.set b ⟨46,(d2).toList.map enc,room⟩) (fun x=>a+1≤x∧x≤J+1∧scanUp (fun x=>(lq cf) x d2[a]!) d2 (J2) x=scanUp (fun x=>(lq cf) x d2[a]!) d2 (J2) I2) (fun x=>J+1-x) (I2) ⟨sb_,sb_,sb_,sb_,sb_,trivial⟩ (Mem.Less.refl _) (⟨by omega,by omega,rfl⟩) ?_
    rintro i ⟨q1,q2,q3⟩
    (try dsimp only at *)
    by_cases hij:i≤J2
    ·iterate 2 refine s1_ ?_
     refine AWP.draw [(0,true),(1,true),(2,true),(3,true),(4,true),(5,true),(6,true),(7,true),(8,true),(9,true),(10,true),(11,true),(12,true),(13,false),(14,true),(15,true)] [] mixed (by kernel_rfl) ?_
     iterate 8 refine s1_ ?_
     first|refine k_d ?_|refine dL (hc:=Calm.load ty_plain_46 rfl (rd_row (k:=i) own_ rw_ rw_)) (h:=?_)
     iterate 3 refine s1_ ?_
     first|refine k_d ?_|refine dL (hc:=Calm.load ty_plain_46 rfl (rd_row (k:=a) own_ rw_ rw_)) (h:=?_)
     refine draw_only rfl ?_
     refine rUn 108 ?_
     refine ARun.callV (first:=[]) (cap:=cb) (lit_lt rfl) C.go rfl rfl (C.call less_ (R2.ok (i) rw_) (R2.ok (a) rw_)) ?_
     rintro _ _ ⟨rfl,rfl⟩
     refine arun_nil ⟨fun _=>less_,?_⟩
     iterate 4 refine s1_ ?_
     refine AWP.condB rfl (fun hl=>?_) (fun hl=>?_)
     ·iterate 10 refine s1_ ?_
      refine ⟨i+1,?_,?_,?_,?_⟩
      all_goals (try dsimp only)
      ·exact ⟨sb_,sb_,sb_,sb_,sb_,trivial⟩
      ·exact Mem.Less.refl _
      ·exact ⟨by omega,by omega,(up_go (p:=(fun x=>(lq cf) x d2[a]!)) hij (by simp only [lq_,hl,Bool.not_true,Bool.not_false])).trans q3⟩
      ·omega
     ·iterate 4 refine s1_ ?_
      refine ⟨i,?_,?_,?_⟩
      all_goals (try dsimp only)
      ·exact ⟨by omega,by omega,(up_no (p:=(fun x=>(lq cf) x d2[a]!)) (by simp only [lq_,hl,Bool.not_true,Bool.not_false])).trans q3⟩
      ·exact ⟨sb_,sb_,sb_,sb_,sb_,trivial⟩
      ·exact Mem.Less.refl _
    ·iterate 2 refine s1_ ?_
     refine AWP.draw [(0,true),(1,true),(2,true),(3,true),(4,true),(5,true),(6,true),(7,true),(8,true),(9,true),(10,true),(11,true),(12,true),(13,false),(14,true),(15,true)] [] mixed (by kernel_rfl) ?_
     iterate 8 refine s1_ ?_
     first|refine k_d ?_|refine dL (hc:=Calm.load ty_plain_46 rfl (rd_row (k:=i) own_ rw_ rw_)) (h:=?_)
     iterate 3 refine s1_ ?_
     first|refine k_d ?_|refine dL (hc:=Calm.load ty_plain_46 rfl (rd_row (k:=a) own_ rw_ rw_)) (h:=?_)
     refine draw_only rfl ?_
     refine s1_ ?_
     refine arun_nil ⟨fun _=>less_,?_⟩
     iterate 4 refine s1_ ?_
     refine k_v6 0 1 4 12 13 120 ?_
     refine cF_ ?_
     iterate 4 refine s1_ ?_
     refine ⟨i,?_,?_,?_⟩
     all_goals (try dsimp only)
     ·exact ⟨by omega,by omega,(up_end (p:=(fun x=>(lq cf) x d2[a]!)) hij).trans q3⟩
     ·exact ⟨sb_,sb_,sb_,sb_,sb_,trivial⟩
     ·exact Mem.Less.refl _
   rintro i2 ⟨b1,b2,hU⟩
   intro _ _ hs_ hl_
   (try dsimp only at *)
   refine athen_n ?_
   refine AWP.sub _ hs_ (AWP.less _ hl_ ?_)
   clear hs_ hl_
   refine s1_ ?_
   refine AWP.join (X:=Nat) (fun x=>[(0,.slice (some ⟨b,0,none⟩) n cap),(1,.int .i64 a),(4,.func (.func g) #[] cb.toArray),(12,.int .i64 i2),(13,.int .i64 x)]) (fun _=>S.set b ⟨46,(d2).toList.map enc,room⟩) (fun x=>a≤x∧x≤J∧x=scanDown (fun x=>!(lq cf) x d2[a]!) d2 i2 J2) ?_ ?_
   ·refine s1_ ?_
    refine AWP.loop (X:=Nat) (fun x=>[(0,.slice (some ⟨b,0,none⟩) n cap),(1,.int .i64 a),(4,.func (.func g) #[] cb.toArray),(12,.int .i64 i2),(13,.int .i64 x)]) (fun _=>S.set b ⟨46,(d2).toList.map enc,room⟩) (fun x=>a≤x∧x≤J∧scanDown (fun x=>!(lq cf) x d2[a]!) d2 i2 x=scanDown (fun x=>!(lq cf) x d2[a]!) d2 i2 J2) (fun x=>x) (J2) ⟨sb_,sb_,sb_,sb_,sb_,trivial⟩ (Mem.Less.refl _) (⟨by omega,by omega,rfl⟩) ?_
    rintro j ⟨q1,q2,q3⟩
    (try dsimp only at *)
    by_cases hij:i2≤j
    ·obtain ⟨j,rfl⟩ : ∃ q,j=q+1:=⟨j-1,by omega⟩
     iterate 2 refine s1_ ?_
     refine AWP.draw [(0,true),(1,true),(2,true),(3,true),(4,true),(5,true),(6,true),(7,true),(8,true),(9,true),(10,true),(11,true),(12,true),(13,false),(14,true),(15,true),(16,true)] [] mixed (by kernel_rfl) ?_
     iterate 8 refine s1_ ?_
     first|refine k_d ?_|refine dL (hc:=Calm.load ty_plain_46 rfl (rd_row (k:=j+1) own_ rw_ rw_)) (h:=?_)
     iterate 3 refine s1_ ?_
     first|refine k_d ?_|refine dL (hc:=Calm.load ty_plain_46 rfl (rd_row (k:=a) own_ rw_ rw_)) (h:=?_)
     refine draw_only rfl ?_
     refine rUn 126 ?_
     refine ARun.callV (first:=[]) (cap:=cb) (lit_lt rfl) C.go rfl rfl (C.call less_ (R2.ok (j+1) rw_) (R2.ok (a) rw_)) ?_
     rintro _ _ ⟨rfl,rfl⟩
     refine arun_nil ⟨fun _=>less_,?_⟩
     iterate 5 refine s1_ ?_
     refine AWP.condB rfl (fun hl=>?_) (fun hl=>?_)
     ·have hl:=nt_ hl
      iterate 10 refine s1_ ?_
      refine ⟨j,?_,?_,?_,?_⟩
      all_goals (try dsimp only)
      ·exact ⟨sb_,sb_,sb_,sb_,sb_,trivial⟩
      ·exact Mem.Less.refl _
      ·exact ⟨by omega,by omega,(down_go (p:=(fun x=>!(lq cf) x d2[a]!)) hij (by simp only [lq_,hl,Bool.not_true,Bool.not_false])).trans q3⟩
      ·omega
     ·have hl:=nf_ hl
      iterate 4 refine s1_ ?_
      refine ⟨(j+1),?_,?_,?_⟩
      all_goals (try dsimp only)
      ·exact ⟨by omega,by omega,(down_no (p:=(fun x=>!(lq cf) x d2[a]!)) (by omega) (by simp only [lq_,hl,Bool.not_true,Bool.not_false])).trans q3⟩
      ·exact ⟨sb_,sb_,sb_,sb_,sb_,trivial⟩
      ·exact Mem.Less.refl _
    ·iterate 2 refine s1_ ?_
     refine AWP.draw [(0,true),(1,true),(2,true),(3,true),(4,true),(5,true),(6,true),(7,true),(8,true),(9,true),(10,true),(11,true),(12,true),(13,false),(14,true),(15,true),(16,true)] [] mixed (by kernel_rfl) ?_
     iterate 8 refine s1_ ?_
     first|refine k_d ?_|refine dL (hc:=Calm.load ty_plain_46 rfl (rd_row (k:=j+1) own_ rw_ rw_)) (h:=?_)
     iterate 3 refine s1_ ?_
     first|refine k_d ?_|refine dL (hc:=Calm.load ty_plain_46 rfl (rd_row (k:=a) own_ rw_ rw_)) (h:=?_)
     refine draw_only rfl ?_
     refine s1_ ?_
     refine arun_nil ⟨fun _=>less_,?_⟩
     iterate 5 refine s1_ ?_
     refine cF_ ?_
     iterate 4 refine s1_ ?_
     refine ⟨j,?_,?_,?_⟩
     all_goals (try dsimp only)
     ·exact ⟨by omega,by omega,(down_end (p:=(fun x=>!(lq cf) x d2[a]!)) hij).trans q3⟩
     ·exact ⟨sb_,sb_,sb_,sb_,sb_,trivial⟩
     ·exact Mem.Less.refl _
   rintro j2 ⟨b3,b4,hD⟩
   intro _ _ hs_ hl_
   (try dsimp only at *)
   refine athen_n ?_
   refine AWP.sub _ hs_ (AWP.less _ hl_ ?_)
   clear hs_ hl_
   by_cases hx:j2<i2
   ·iterate 8 refine s1_ ?_
    refine cT_ ?_
    iterate 5 refine s1_ ?_
    refine ⟨(j2,d2),?_,?_,?_⟩
    all_goals (try dsimp only)
    ·exact ⟨by omega,by omega,R2,(part_stop (lq cf) hU hD hx).trans m3⟩
    ·exact ⟨sb_,sb_,sb_,trivial⟩
    ·exact Mem.Less.refl _
   ·iterate 8 refine s1_ ?_
    refine cF_ ?_
    iterate 3 refine s1_ ?_
    refine AWP.draw [(0,true),(1,true),(2,true),(3,true),(4,true),(5,true),(6,true),(7,true),(8,true),(9,true),(10,true),(11,true),(12,true),(13,false),(14,true),(15,false)] [13,15] mixed (by kernel_rfl) ?_
    iterate 7 refine s1_ ?_
    refine dC (hc:=Calm.load ty_plain_46 rfl (rd_row (k:=j2) own_ rw_ rw_)) (h:=?_)
    iterate 3 refine s1_ ?_
    refine dC (hc:=Calm.load ty_plain_46 rfl (rd_row (k:=i2) own_ rw_ rw_)) (h:=?_)
    refine s1_ ?_
    refine draw_only rfl ?_
    refine ARun.storeRow enc (i2) rfl rfl ty_size_46 (C.one _) own_ rw_ rw_ ?_
    try simp only [k_ms,k_sz,k_ss,k_za,Nat.reduceAdd]
    refine arun_nil ⟨fun h=>absurd h (by decide),?_⟩
    refine s1_ ?_
    refine draw_only rfl ?_
    refine ARun.storeRow enc (j2) rfl rfl ty_size_46 (C.one _) own_ rw_ rw_ ?_
    try simp only [k_ms,k_sz,k_ss,k_za,Nat.reduceAdd]
    refine arun_nil ⟨fun h=>absurd h (by decide),?_⟩
    iterate 2 refine s1_ ?_
    refine k_v6 0 1 4 12 13 144 ?_
    iterate 14 refine s1_ ?_
    refine ⟨(i2+1,j2-1,swp d2 i2 j2),?_,?_,?_,?_⟩
    all_goals (try dsimp only)
    ·exact ⟨sb_,sb_,sb_,sb_,sb_,trivial⟩
    ·exact Mem.Less.refl _
    ·exact ⟨by omega,by omega,by omega,by omega,R2.swp _ _ (by omega) (by omega),(part_go (lq cf) hU hD hx).trans m3⟩
    ·(have:I2≤i2:=by rw [hU];exact Go.Sort.scanUp_ge _ _ _ _);omega
  rintro ⟨j3,d3⟩ ⟨t1,t2,R3,t3⟩
  intro _ _ hs_ hl_
  (try dsimp only at *)
  refine athen_n ?_
  refine AWP.sub _ hs_ (AWP.less _ hl_ ?_)
  clear hs_ hl_
  have z3:=R3.size
  refine s1_ ?_
  refine AWP.draw [(0,true),(1,true),(2,true),(3,true),(4,true),(5,true),(6,true),(7,true),(8,true),(9,true),(10,true),(11,true),(12,true),(13,false),(14,true),(15,false)] [13,15] mixed (by kernel_rfl) ?_
  iterate 7 refine s1_ ?_
  refine dC (hc:=Calm.load ty_plain_46 rfl (rd_row (k:=a) own_ rw_ rw_)) (h:=?_)
  iterate 3 refine s1_ ?_
  refine dC (hc:=Calm.load ty_plain_46 rfl (rd_row (k:=j3) own_ rw_ rw_)) (h:=?_)
  refine s1_ ?_
  refine draw_only rfl ?_
  refine ARun.storeRow enc (j3) rfl rfl ty_size_46 (C.one _) own_ rw_ rw_ ?_
  try simp only [k_ms,k_sz,k_ss,k_za,Nat.reduceAdd]
  refine arun_nil ⟨fun h=>absurd h (by decide),?_⟩
  refine s1_ ?_
  refine draw_only rfl ?_
  refine ARun.storeRow enc (a) rfl rfl ty_size_46 (C.one _) own_ rw_ rw_ ?_
  try simp only [k_ms,k_sz,k_ss,k_za,Nat.reduceAdd]
  refine arun_nil ⟨fun h=>absurd h (by decide),?_⟩
  iterate 10 refine s1_ ?_
  refine ⟨_,_,⟨_,_,rfl,⟨_,_,rfl,rfl,rfl⟩,rfl⟩,Mem.Less.refl _,?_⟩
  exact part_res2 (lq cf) hd0 hU hD hx t3 (R3.swp _ _ (by omega) (by omega)) (by omega) (by omega)
set_option maxHeartbeats 4000000 in
theorem soR_parteq {α : Type} [Inhabited α] {enc : α→Value} {cf : α → α→Int} {okP : α→Prop} {g:Nat} {cb:List Value} {S:Mem} (C:CmpC Tryz.prog enc cf okP g cb S) (b room n cap:Nat) (hb:Fresh S b) (hn:n≤1048576) (d:Array α) (R:Rw okP n d) (ia ie ip:Int) (a e p:Nat) (ha:ia=a) (he:ie=e) (hpp:ip=p) (hap:a≤p) (hpe:p<e) (hen:e≤n) :
  ACall Tryz.prog 189 #[.slice (some ⟨b,0,none⟩) n cap,.int .i64 ia,.int .i64 ie,.int .i64 ip,.func (.func g) #[] cb.toArray] (S.set b ⟨46,(d).toList.map enc,room⟩) fun r S'=>PartEqR α (fun x:Array α=>S.set b ⟨46,(x).toList.map enc,room⟩) okP n (partitionEqual (lq cf) d a e p) a e r S':=by
 subst ha he hpp
 obtain ⟨J,rfl⟩ : ∃ J,e=J+1:=⟨e-1,by omega⟩
 have R0:=R.swp a p (by omega) (by omega)
 have z:=R.size
 obtain ⟨d0,hd0⟩ : ∃ d0,d0=swp d a p:=⟨_,rfl⟩
 rw [← hd0] at R0
 have z0:=R0.size
 refine k_E5 (rs:=[.tmp 10]) 90 Tryz.func189 rfl rfl rfl ?_
 iterate 6 refine s1_ ?_
 refine AWP.draw [(0,true),(1,true),(2,true),(3,true),(4,true),(5,true),(6,true),(7,true),(8,true),(9,true),(10,true),(11,true),(12,true),(13,false),(14,true),(15,false)] [13,15] mixed (by kernel_rfl) ?_
 iterate 7 refine s1_ ?_
 refine dC (hc:=Calm.load ty_plain_46 rfl (rd_row (k:=p) own_ rw_ rw_)) (h:=?_)
 iterate 3 refine s1_ ?_
 refine dC (hc:=Calm.load ty_plain_46 rfl (rd_row (k:=a) own_ rw_ rw_)) (h:=?_)
 refine s1_ ?_
 refine draw_only rfl ?_
 refine ARun.storeRow enc (a) rfl rfl ty_size_46 (C.one _) own_ rw_ rw_ ?_
 try simp only [k_ms,k_sz,k_ss,k_za,Nat.reduceAdd]
 refine arun_nil ⟨fun h=>absurd h (by decide),?_⟩
 refine s1_ ?_
 refine draw_only rfl ?_
 refine ARun.storeRow enc (p) rfl rfl ty_size_46 (C.one _) own_ rw_ rw_ ?_
 try simp only [k_ms,k_sz,k_ss,k_za,Nat.reduceAdd]
 refine arun_nil ⟨fun h=>absurd h (by decide),?_⟩
 iterate 2 refine s1_ ?_
 refine AWP.less (S.set b ⟨46,(d0).toList.map enc,room⟩) (by rw [hd0];exact Mem.Less.refl _) ?_
 iterate 12 refine s1_ ?_
 refine AWP.loop (X:=Nat × Nat × Array α) (fun x=>[(0,.slice (some ⟨b,0,none⟩) n cap),(1,.int .i64 a),(4,.func (.func g) #[] cb.toArray),(11,.int .i64 x.1),(12,.int .i64 x.2.1)]) (fun x=>S.set b ⟨46,(x.2.2).toList.map enc,room⟩) (fun x=>a+1≤x.1∧x.1≤J+1∧a≤x.2.1∧x.2.1≤J∧Rw okP n x.2.2∧partEqLoop (lq cf) a x.1 x.2.1 x.2.2=partEqLoop (lq cf) a (a+1) J d0) (fun x=>J+1-x.1) ((a+1,J,d0)) ⟨sb_,sb_,sb_,sb_,sb_,trivial⟩ (Mem.Less.refl _) (⟨by dsimp only;omega,by dsimp only;omega,by dsimp only;omega,by dsimp only;omega,R0,rfl⟩) ?_
 rintro ⟨I2,J2,d2⟩ ⟨m1,m2,m4,m5,R2,m3⟩
 (try dsimp only at *)
 have z2:=R2.size
 iterate 2 refine s1_ ?_
 refine AWP.join (X:=Nat) (fun x=>[(0,.slice (some ⟨b,0,none⟩) n cap),(1,.int .i64 a),(4,.func (.func g) #[] cb.toArray),(11,.int .i64 x),(12,.int .i64 J2)]) (fun _=>S.set b ⟨46,(d2).toList.map enc,room⟩) (fun x=>a+1≤x∧x≤J+1∧x=scanUp (fun x=>!(lq cf) d2[a]! x) d2 (J2) I2) ?_ ?_
 ·refine s1_ ?_
  refine AWP.loop (X:=Nat) (fun x=>[(0,.slice (some ⟨b,0,none⟩) n cap),(1,.int .i64 a),(4,.func (.func g) #[] cb.toArray),(11,.int .i64 x),(12,.int .i64 J2)]) (fun _=>S.set b ⟨46,(d2).toList.map enc,room⟩) (fun x=>a+1≤x∧x≤J+1∧scanUp (fun x=>!(lq cf) d2[a]! x) d2 (J2) x=scanUp (fun x=>!(lq cf) d2[a]! x) d2 (J2) I2) (fun x=>J+1-x) (I2) ⟨sb_,sb_,sb_,sb_,sb_,trivial⟩ (Mem.Less.refl _) (⟨by omega,by omega,rfl⟩) ?_
  rintro i ⟨q1,q2,q3⟩
  (try dsimp only at *)
  by_cases hij:i≤J2
  ·iterate 2 refine s1_ ?_
   refine AWP.draw [(0,true),(1,true),(2,true),(3,true),(4,true),(5,true),(6,true),(7,true),(8,true),(9,true),(10,true),(11,true),(12,true),(13,false),(14,true),(15,true),(16,true)] [] mixed (by kernel_rfl) ?_
   iterate 8 refine s1_ ?_
   first|refine k_d ?_|refine dL (hc:=Calm.load ty_plain_46 rfl (rd_row (k:=a) own_ rw_ rw_)) (h:=?_)
   iterate 3 refine s1_ ?_
   first|refine k_d ?_|refine dL (hc:=Calm.load ty_plain_46 rfl (rd_row (k:=i) own_ rw_ rw_)) (h:=?_)
   refine draw_only rfl ?_
   refine rUn 34 ?_
   refine ARun.callV (first:=[]) (cap:=cb) (lit_lt rfl) C.go rfl rfl (C.call less_ (R2.ok (a) rw_) (R2.ok (i) rw_)) ?_
   rintro _ _ ⟨rfl,rfl⟩
   refine arun_nil ⟨fun _=>less_,?_⟩
   iterate 5 refine s1_ ?_
   refine AWP.condB rfl (fun hl=>?_) (fun hl=>?_)
   ·have hl:=nt_ hl
    iterate 10 refine s1_ ?_
    refine ⟨i+1,?_,?_,?_,?_⟩
    all_goals (try dsimp only)
    ·exact ⟨sb_,sb_,sb_,sb_,sb_,trivial⟩
    ·exact Mem.Less.refl _
    ·exact ⟨by omega,by omega,(up_go (p:=(fun x=>!(lq cf) d2[a]! x)) hij (by simp only [lq_,hl,Bool.not_true,Bool.not_false])).trans q3⟩
    ·omega
   ·have hl:=nf_ hl
    iterate 4 refine s1_ ?_
    refine ⟨i,?_,?_,?_⟩
    all_goals (try dsimp only)
    ·exact ⟨by omega,by omega,(up_no (p:=(fun x=>!(lq cf) d2[a]! x)) (by simp only [lq_,hl,Bool.not_true,Bool.not_false])).trans q3⟩
    ·exact ⟨sb_,sb_,sb_,sb_,sb_,trivial⟩
    ·exact Mem.Less.refl _
  ·iterate 2 refine s1_ ?_
   refine AWP.draw [(0,true),(1,true),(2,true),(3,true),(4,true),(5,true),(6,true),(7,true),(8,true),(9,true),(10,true),(11,true),(12,true),(13,false),(14,true),(15,true),(16,true)] [] mixed (by kernel_rfl) ?_
   iterate 8 refine s1_ ?_
   first|refine k_d ?_|refine dL (hc:=Calm.load ty_plain_46 rfl (rd_row (k:=a) own_ rw_ rw_)) (h:=?_)
   iterate 3 refine s1_ ?_
   first|refine k_d ?_|refine dL (hc:=Calm.load ty_plain_46 rfl (rd_row (k:=i) own_ rw_ rw_)) (h:=?_)
   refine draw_only rfl ?_
   refine s1_ ?_
   refine arun_nil ⟨fun _=>less_,?_⟩
   iterate 5 refine s1_ ?_
   refine cF_ ?_
   iterate 4 refine s1_ ?_
   refine ⟨i,?_,?_,?_⟩
   all_goals (try dsimp only)
   ·exact ⟨by omega,by omega,(up_end (p:=(fun x=>!(lq cf) d2[a]! x)) hij).trans q3⟩
   ·exact ⟨sb_,sb_,sb_,sb_,sb_,trivial⟩
   ·exact Mem.Less.refl _
 rintro i2 ⟨b1,b2,hU⟩
 intro _ _ hs_ hl_
 (try dsimp only at *)
 refine athen_n ?_
 refine AWP.sub _ hs_ (AWP.less _ hl_ ?_)
 clear hs_ hl_
 refine s1_ ?_
 refine AWP.join (X:=Nat) (fun x=>[(0,.slice (some ⟨b,0,none⟩) n cap),(1,.int .i64 a),(4,.func (.func g) #[] cb.toArray),(11,.int .i64 i2),(12,.int .i64 x)]) (fun _=>S.set b ⟨46,(d2).toList.map enc,room⟩) (fun x=>a≤x∧x≤J∧x=scanDown (fun x=>(lq cf) d2[a]! x) d2 i2 J2) ?_ ?_
 ·refine s1_ ?_
  refine AWP.loop (X:=Nat) (fun x=>[(0,.slice (some ⟨b,0,none⟩) n cap),(1,.int .i64 a),(4,.func (.func g) #[] cb.toArray),(11,.int .i64 i2),(12,.int .i64 x)]) (fun _=>S.set b ⟨46,(d2).toList.map enc,room⟩) (fun x=>a≤x∧x≤J∧scanDown (fun x=>(lq cf) d2[a]! x) d2 i2 x=scanDown (fun x=>(lq cf) d2[a]! x) d2 i2 J2) (fun x=>x) (J2) ⟨sb_,sb_,sb_,sb_,sb_,trivial⟩ (Mem.Less.refl _) (⟨by omega,by omega,rfl⟩) ?_
  rintro j ⟨q1,q2,q3⟩
  (try dsimp only at *)
  by_cases hij:i2≤j
  ·obtain ⟨j,rfl⟩ : ∃ q,j=q+1:=⟨j-1,by omega⟩
   iterate 2 refine s1_ ?_
   refine AWP.draw [(0,true),(1,true),(2,true),(3,true),(4,true),(5,true),(6,true),(7,true),(8,true),(9,true),(10,true),(11,true),(12,true),(13,false),(14,true),(15,true)] [] mixed (by kernel_rfl) ?_
   iterate 8 refine s1_ ?_
   first|refine k_d ?_|refine dL (hc:=Calm.load ty_plain_46 rfl (rd_row (k:=a) own_ rw_ rw_)) (h:=?_)
   iterate 3 refine s1_ ?_
   first|refine k_d ?_|refine dL (hc:=Calm.load ty_plain_46 rfl (rd_row (k:=j+1) own_ rw_ rw_)) (h:=?_)
   refine draw_only rfl ?_
   refine rUn 53 ?_
   refine ARun.callV (first:=[]) (cap:=cb) (lit_lt rfl) C.go rfl rfl (C.call less_ (R2.ok (a) rw_) (R2.ok (j+1) rw_)) ?_
   rintro _ _ ⟨rfl,rfl⟩
   refine arun_nil ⟨fun _=>less_,?_⟩
   iterate 4 refine s1_ ?_
   refine k_v6 0 1 4 11 12 65 ?_
   refine AWP.condB rfl (fun hl=>?_) (fun hl=>?_)
   ·iterate 10 refine s1_ ?_
    refine ⟨j,?_,?_,?_,?_⟩
    all_goals (try dsimp only)
    ·exact ⟨sb_,sb_,sb_,sb_,sb_,trivial⟩
    ·exact Mem.Less.refl _
    ·exact ⟨by omega,by omega,(down_go (p:=(fun x=>(lq cf) d2[a]! x)) hij (by simp only [lq_,hl,Bool.not_true,Bool.not_false])).trans q3⟩
    ·omega
   ·iterate 4 refine s1_ ?_
    refine ⟨(j+1),?_,?_,?_⟩
    all_goals (try dsimp only)
    ·exact ⟨by omega,by omega,(down_no (p:=(fun x=>(lq cf) d2[a]! x)) (by omega) (by simp only [lq_,hl,Bool.not_true,Bool.not_false])).trans q3⟩
    ·exact ⟨sb_,sb_,sb_,sb_,sb_,trivial⟩
    ·exact Mem.Less.refl _
  ·iterate 2 refine s1_ ?_
   refine AWP.draw [(0,true),(1,true),(2,true),(3,true),(4,true),(5,true),(6,true),(7,true),(8,true),(9,true),(10,true),(11,true),(12,true),(13,false),(14,true),(15,true)] [] mixed (by kernel_rfl) ?_
   iterate 8 refine s1_ ?_
   first|refine k_d ?_|refine dL (hc:=Calm.load ty_plain_46 rfl (rd_row (k:=a) own_ rw_ rw_)) (h:=?_)
   iterate 3 refine s1_ ?_
   first|refine k_d ?_|refine dL (hc:=Calm.load ty_plain_46 rfl (rd_row (k:=j+1) own_ rw_ rw_)) (h:=?_)
   refine draw_only rfl ?_
   refine s1_ ?_
   refine arun_nil ⟨fun _=>less_,?_⟩
   iterate 4 refine s1_ ?_
   refine cF_ ?_
   iterate 4 refine s1_ ?_
   refine ⟨j,?_,?_,?_⟩
   all_goals (try dsimp only)
   ·exact ⟨by omega,by omega,(down_end (p:=(fun x=>(lq cf) d2[a]! x)) hij).trans q3⟩
   ·exact ⟨sb_,sb_,sb_,sb_,sb_,trivial⟩
   ·exact Mem.Less.refl _
 rintro j2 ⟨b3,b4,hD⟩
 intro _ _ hs_ hl_
 (try dsimp only at *)
 refine athen_n ?_
 refine AWP.sub _ hs_ (AWP.less _ hl_ ?_)
 clear hs_ hl_
 by_cases hx:j2<i2
 ·iterate 8 refine s1_ ?_
  refine cT_ ?_
  iterate 13 refine s1_ ?_
  refine ⟨_,_,⟨_,_,rfl,rfl,rfl⟩,Mem.Less.refl _,?_⟩
  exact parteq_res (lq cf) hd0 ((parteq_stop (lq cf) hU hD hx).trans m3) R2 (by omega) (by omega)
 ·iterate 8 refine s1_ ?_
  refine cF_ ?_
  iterate 3 refine s1_ ?_
  refine AWP.draw [(0,true),(1,true),(2,true),(3,true),(4,true),(5,true),(6,true),(7,true),(8,true),(9,true),(10,true),(11,true),(12,true),(13,false),(14,true),(15,false)] [13,15] mixed (by kernel_rfl) ?_
  iterate 7 refine s1_ ?_
  refine dC (hc:=Calm.load ty_plain_46 rfl (rd_row (k:=j2) own_ rw_ rw_)) (h:=?_)
  iterate 3 refine s1_ ?_
  refine dC (hc:=Calm.load ty_plain_46 rfl (rd_row (k:=i2) own_ rw_ rw_)) (h:=?_)
  refine s1_ ?_
  refine draw_only rfl ?_
  refine ARun.storeRow enc (i2) rfl rfl ty_size_46 (C.one _) own_ rw_ rw_ ?_
  try simp only [k_ms,k_sz,k_ss,k_za,Nat.reduceAdd]
  refine arun_nil ⟨fun h=>absurd h (by decide),?_⟩
  refine s1_ ?_
  refine draw_only rfl ?_
  refine ARun.storeRow enc (j2) rfl rfl ty_size_46 (C.one _) own_ rw_ rw_ ?_
  try simp only [k_ms,k_sz,k_ss,k_za,Nat.reduceAdd]
  refine arun_nil ⟨fun h=>absurd h (by decide),?_⟩
  iterate 2 refine s1_ ?_
  refine k_v6 0 1 4 11 12 70 ?_
  iterate 14 refine s1_ ?_
  refine ⟨(i2+1,j2-1,swp d2 i2 j2),?_,?_,?_,?_⟩
  all_goals (try dsimp only)
  ·exact ⟨sb_,sb_,sb_,sb_,sb_,trivial⟩
  ·exact Mem.Less.refl _
  ·exact ⟨by omega,by omega,by omega,by omega,R2.swp _ _ (by omega) (by omega),(parteq_go (lq cf) hU hD hx).trans m3⟩
  ·(have:I2≤i2:=by rw [hU];exact Go.Sort.scanUp_ge _ _ _ _);omega
end
section
open Go.RowKit
open Mv
namespace Srt
open Go.Sort (swp order2 median medianAdjacent choosePivot breakStep breakPatterns scanSorted shiftDown shiftUp partialIns partialInsertionSort bitsLen xorNext Hint)
theorem set_over (S:Mem) {b c:Nat} (r r' x:Blk) (h:b≠c):((S.set b r).set c x).set b r'=(S.set b r').set c x:=by
 rw [Mem.set_comm _ _ _ (Ne.symm h),Mem.set_set]
def hintI:Hint→Int
  | .unknown=>0
  | .increasing=>1
  | .decreasing=>2
section
variable {α : Type} [Inhabited α] (lt : α → α→Bool)
theorem ord2_lt {d:Array α} {a e k n x y k':Nat} (h:(x,y,k')=order2 lt d a e k) (ha:a<n) (he:e<n):x<n∧y<n∧k'≤k+1:=by
 unfold order2 at h
 split at h <;> (simp only [Prod.mk.injEq] at h;omega)
theorem median_lt {d:Array α} {a e o k p k' lo hi:Nat} (h:(p,k')=median lt d a e o k) (ha:lo≤a∧a<hi) (he:lo≤e∧e<hi) (ho:lo≤o∧o<hi):(lo≤p∧p<hi)∧k'≤k+3:=by
 have hm:=Go.Sort.median_mem lt d a e o k
 rw [← h] at hm
 have hk:k'≤k+3:=by
  unfold median at h
  simp only [Prod.mk.injEq] at h
  rw [h.2]
  have h1:∀ x y z,(order2 lt d x y z).2.2≤z+1:=fun x y z=>by unfold order2;split <;> simp
  have:=h1 (order2 lt d a e k).1 (order2 lt d (order2 lt d a e k).2.1 o (order2 lt d a e k).2.2).1 (order2 lt d (order2 lt d a e k).2.1 o (order2 lt d a e k).2.2).2.2
  have:=h1 (order2 lt d a e k).2.1 o (order2 lt d a e k).2.2
  have:=h1 a e k
  omega
 refine ⟨?_,hk⟩
 simp only at hm
 omega
theorem medadj_lt {d:Array α} {a k p k' lo hi:Nat} (h:(p,k')=medianAdjacent lt d a k) (ha:lo<a) (he:a+1<hi):(lo≤p∧p<hi)∧k'≤k+3 :=
 median_lt lt (h.trans rfl) (by omega) (by omega) (by omega)
end
theorem piv_hint {k:Nat} (h0 : ¬ k=0) (h1 : ¬ k=12):(if k=0 then Hint.increasing else if k=12 then Hint.decreasing else Hint.unknown) = .unknown:=by rw [if_neg h0,if_neg h1]
theorem piv_val {i j h:Int} (e:i=j):one [.int .i64 i,.int .i64 h] = .tuple #[.int .i64 j,.int .i64 h]:=by rw [e];rfl
theorem and_n64 (a b:Nat) (ha:a<18446744073709551616) (hb:b<18446744073709551616):bits .and .u64 (a:Int) (b:Int)=((a &&& b:Nat):Int):=by
 have h:a &&& b<2 ^ 64:=Nat.and_lt_two_pow _ (by omega)
 show IntKind.u64.wrap (((BitVec.ofInt 64 (a:Int)) &&& (BitVec.ofInt 64 (b:Int))).toNat:Int)=_
 rw [BitVec.ofInt_natCast,BitVec.ofInt_natCast,BitVec.toNat_and,BitVec.toNat_ofNat,BitVec.toNat_ofNat,Nat.mod_eq_of_lt (by omega),Nat.mod_eq_of_lt (by omega)]
 exact IntWalk.u64_in _ (by omega)
theorem sub_u64 (m:Nat) (h0:1≤m) (h1:m<18446744073709551616):IntKind.u64.wrap ((m:Int)-1)=((m-1:Nat):Int):=by
 rw [show ((m:Int)-1)=((m-1:Nat):Int) by omega];exact IntWalk.u64_in _ (by omega)
section
variable {α : Type} [Inhabited α]
def bpR (a L mo ba:Nat):Nat→UInt64 × Array α→UInt64 × Array α
  | 0,st=>st
  | k+1,st=>bpR a L mo ba k (breakStep a L mo st (ba+(2-k)))
theorem bpR_succ (a L mo ba k:Nat) (r:UInt64) (d:Array α):bpR a L mo ba (k+1) (r,d)=bpR a L mo ba k (xorNext r,swp d (ba+(2-k)) (a+(if L≤(xorNext r).toNat &&& (mo-1) then ((xorNext r).toNat &&& (mo-1))-L else (xorNext r).toNat &&& (mo-1)))):=rfl
theorem bp_eq {d:Array α} {a L:Nat} (h8:8≤L):breakPatterns d a (a+L)=(bpR a L (1 <<< bitsLen L) (a+L / 4*2-1) 3 (UInt64.ofNat L,d)).2:=by
 unfold breakPatterns
 simp only [Nat.add_sub_cancel_left]
 rw [if_pos h8]
 rfl
end
theorem bp_mod (L:Nat) (h0:0<L) (h:L≤1048576):1≤1 <<< bitsLen L∧1 <<< bitsLen L≤2*L:=by
 rw [Nat.one_shiftLeft]
 exact ⟨Nat.one_le_two_pow,Go.Sort.two_pow_bitsLen_le h0⟩
section
variable {α : Type} [Inhabited α] (lt : α → α→Bool)
theorem pis_res {okP : α→Prop} {n a e s i:Nat} {d d1:Array α} {M:Array α→Mem} {r:Value} {S':Mem} (h3:partialIns lt a e (s+1) i d1=partialInsertionSort lt d a e)
  (h:(scanSorted lt d1 e i=e∧r = .bool true∧S'=M d1)∨(¬ scanSorted lt d1 e i=e∧e-a<50∧r = .bool false∧S'=M d1)) (R:Rw okP n d1) :
  r = .bool (partialInsertionSort lt d a e).2∧S'=M (partialInsertionSort lt d a e).1∧Rw okP n (partialInsertionSort lt d a e).1:=by
 rw [← h3]
 unfold partialIns
 rcases h with ⟨h,rfl,rfl⟩ | ⟨h,h5,rfl,rfl⟩
 ·simp only [if_pos h];exact ⟨trivial,trivial,R⟩
 ·simp only [if_neg h,if_pos h5];exact ⟨trivial,trivial,R⟩
theorem pi_step {a e s i w:Nat} {d1 d2 d3 d4:Array α} (hS:w+1=scanSorted lt d1 e i) (hne : ¬ w+1=e) (h50 : ¬ e-a<50) (hd2:d2=swp d1 (w+1) w) (hd3:d3=if w+1-a ≥ 2 then shiftDown lt w d2 else d2)
  (hd4:d4=if e-(w+1) ≥ 2 then shiftUp lt e (w+1+1) d3 else d3):partialIns lt a e s (w+1) d4=partialIns lt a e (s+1) i d1:=by
 rw [partialIns.eq_def lt a e (s+1) i d1]
 simp only [← hS,if_neg hne,if_neg h50,Nat.add_sub_cancel,← hd2,← hd3,← hd4]
end
/-! ### The recursion, stage by stage -/
section
open Go.Sort (pdq insertionSort heapSort reverseRange partition partitionEqual)
variable {α : Type} [Inhabited α] (lt : α → α→Bool)
def pdq3 (d3:Array α) (a b l:Nat) (w1 w2:Bool) (pv:Nat):Array α :=
  if (decide (a > 0) && !lt d3[a-1]! d3[pv]!)=true then
    (if a<(partitionEqual lt d3 a b pv).1∧(partitionEqual lt d3 a b pv).1≤b then pdq lt (partitionEqual lt d3 a b pv).2 (partitionEqual lt d3 a b pv).1 b l w1 w2 else (partitionEqual lt d3 a b pv).2)
  else
    (if a≤(partition lt d3 a b pv).1∧(partition lt d3 a b pv).1<b then
      (if (partition lt d3 a b pv).1-a<b-(partition lt d3 a b pv).1 then
        pdq lt (pdq lt (partition lt d3 a b pv).2.2 a (partition lt d3 a b pv).1 l true true) ((partition lt d3 a b pv).1+1) b l (decide ((partition lt d3 a b pv).1-a ≥ (b-a) / 8)) (partition lt d3 a b pv).2.1
      else
        pdq lt (pdq lt (partition lt d3 a b pv).2.2 ((partition lt d3 a b pv).1+1) b l true true) a (partition lt d3 a b pv).1 l (decide (b-(partition lt d3 a b pv).1 ≥ (b-a) / 8)) (partition lt d3 a b pv).2.1)
    else (partition lt d3 a b pv).2.2)
def pdq2 (d2:Array α) (a b l:Nat) (w1 w2:Bool) (pv:Nat) (hi:Hint):Array α :=
  if (w1 && w2 && decide (hi = .increasing))=true then (if (partialInsertionSort lt d2 a b).2=true then (partialInsertionSort lt d2 a b).1 else pdq3 lt (partialInsertionSort lt d2 a b).1 a b l w1 w2 pv)
  else pdq3 lt d2 a b l w1 w2 pv
def pdq1 (d1:Array α) (a b l:Nat) (w1 w2:Bool):Array α :=
  if (choosePivot lt d1 a b).2 = .decreasing then pdq2 lt (reverseRange d1 a b) a b l w1 w2 (b-1-((choosePivot lt d1 a b).1-a)) .increasing
  else pdq2 lt d1 a b l w1 w2 (choosePivot lt d1 a b).1 (choosePivot lt d1 a b).2
theorem pdq_ins {d:Array α} {a b l:Nat} {w1 w2:Bool} (h:b-a≤12):pdq lt d a b l w1 w2=insertionSort lt d a b:=by rw [pdq,if_pos h]
theorem pdq_heap {d:Array α} {a b l:Nat} {w1 w2:Bool} (h : ¬ b-a≤12) (h0:l=0):pdq lt d a b l w1 w2=heapSort lt d a b:=by rw [pdq,if_neg h,if_pos h0]
theorem pdq_1 {d:Array α} {a b l:Nat} {w1 w2:Bool} (h : ¬ b-a≤12) (h0 : ¬ l=0):pdq lt d a b l w1 w2=pdq1 lt (if !w1 then breakPatterns d a b else d) a b (if !w1 then l-1 else l) w1 w2:=by
 rw [pdq,if_neg h,if_neg h0]
 dsimp only
 unfold pdq1 pdq2 pdq3
 generalize (if (!w1)=true then breakPatterns d a b else d)=d1
 generalize (if (!w1)=true then l-1 else l)=l2
 generalize choosePivot lt d1 a b=c
 obtain ⟨p0,hn⟩:=c
 dsimp only
 by_cases hd:hn = .decreasing
 ·subst hd
  simp only [if_true]
  generalize partialInsertionSort lt (reverseRange d1 a b) a b=q
  obtain ⟨d3,pb⟩:=q
  cases w1 <;> cases w2 <;> cases pb <;> simp
 ·simp only [if_neg hd]
  by_cases hx:(w1 && w2 && decide (hn=Hint.increasing))=true
  ·simp only [if_pos hx]
   generalize partialInsertionSort lt d1 a b=q
   obtain ⟨d3,pb⟩:=q
   cases pb <;> simp
  ·simp only [if_neg hx];simp
end
theorem hint_ne {h:Hint} (hd : ¬ h = .decreasing):hintI h<2∧0≤hintI h:=by cases h <;> simp_all [hintI]
theorem hint_1 (h:Hint):decide (hintI h=1)=decide (h = .increasing):=by cases h <;> rfl
theorem wbv_ {p q:Prop} [Decidable p] [Decidable q] (h:p ↔ q):some (Value.bool (decide p))=some (Value.bool (decide q)):=by
 congr 2;rw [decide_eq_decide];exact h
end Srt
end
section
open Go.RowKit
open Mv Srt
open Go.Sort (swp insInner insOuter insertionSort siftDown heapBuild heapPop heapSort scanUp scanDown partLoop partition partEqLoop partitionEqual scanSorted shiftDown shiftUp partialIns partialInsertionSort order2 median medianAdjacent choosePivot reverseLoop reverseRange breakStep breakPatterns pdq bitsLen xorNext Hint)
set_option maxRecDepth 4000
set_option maxHeartbeats 4000000 in
theorem soR_rev {α : Type} [Inhabited α] {enc : α→Value} {cf : α → α→Int} {okP : α→Prop} {g:Nat} {cb:List Value} {S:Mem} (C:CmpC Tryz.prog enc cf okP g cb S) (b room n cap:Nat) (hb:Fresh S b) (hn:n≤1048576) (d:Array α) (R:Rw okP n d) (ia ie:Int) (a e:Nat) (ha:ia=a) (he:ie=e) (hae:a<e) (hen:e≤n) :
  ACall Tryz.prog 187 #[.slice (some ⟨b,0,none⟩) n cap,.int .i64 ia,.int .i64 ie,.func (.func g) #[] cb.toArray] (S.set b ⟨46,(d).toList.map enc,room⟩) fun r S'=>S'=S.set b ⟨46,(reverseRange d a e).toList.map enc,room⟩∧Rw okP n (reverseRange d a e):=by
 subst ha he
 refine k_E4 (rs:=[]) 34 Tryz.func187 rfl rfl rfl ?_
 iterate 14 refine s1_ ?_
 refine AWP.loop (X:=Nat × Nat × Array α) (fun x=>[(0,.slice (some ⟨b,0,none⟩) n cap),(8,.int .i64 x.1),(9,.int .i64 x.2.1)]) (fun x=>S.set b ⟨46,(x.2.2).toList.map enc,room⟩) (fun x=>x.1≤n∧x.2.1<e∧Rw okP n x.2.2∧reverseLoop x.1 x.2.1 x.2.2=reverseRange d a e) (fun x=>x.2.1) ((a,e-1,d)) ⟨sb_,sb_,sb_,trivial⟩ (Mem.Less.refl _) (⟨by dsimp only;omega,by dsimp only;omega,R,rfl⟩) ?_
 rintro ⟨i,j,d1⟩ ⟨h1,h2,R1,h3⟩
 (try dsimp only at *)
 have z1:=R1.size
 by_cases hij:i<j
 ·iterate 8 refine s1_ ?_
  refine cT_ ?_
  iterate 4 refine s1_ ?_
  refine AWP.draw [(0,true),(1,true),(2,true),(3,true),(4,true),(5,true),(6,true),(7,true),(8,true),(9,true),(10,true),(11,true),(12,true),(13,false),(14,true),(15,false)] [13,15] mixed (by kernel_rfl) ?_
  iterate 7 refine s1_ ?_
  refine dC (hc:=Calm.load ty_plain_46 rfl (rd_row (k:=j) own_ rw_ rw_)) (h:=?_)
  iterate 3 refine s1_ ?_
  refine dC (hc:=Calm.load ty_plain_46 rfl (rd_row (k:=i) own_ rw_ rw_)) (h:=?_)
  refine s1_ ?_
  refine draw_only rfl ?_
  refine ARun.storeRow enc (i) rfl rfl ty_size_46 (C.one _) own_ rw_ rw_ ?_
  try simp only [k_ms,k_sz,k_ss,k_za,Nat.reduceAdd]
  refine arun_nil ⟨fun h=>absurd h (by decide),?_⟩
  refine s1_ ?_
  refine draw_only rfl ?_
  refine ARun.storeRow enc (j) rfl rfl ty_size_46 (C.one _) own_ rw_ rw_ ?_
  try simp only [k_ms,k_sz,k_ss,k_za,Nat.reduceAdd]
  refine arun_nil ⟨fun h=>absurd h (by decide),?_⟩
  iterate 9 refine s1_ ?_
  refine k_v4 0 8 9 15 ?_
  iterate 7 refine s1_ ?_
  refine ⟨(i+1,j-1,swp d1 i j),?_,?_,?_,?_⟩
  all_goals (try dsimp only)
  ·exact ⟨sb_,sb_,sb_,trivial⟩
  ·exact Mem.Less.refl _
  ·exact ⟨by omega,by omega,R1.swp _ _ (by omega) (by omega),(rev_go hij).trans h3⟩
  ·omega
 ·iterate 8 refine s1_ ?_
  refine cF_ ?_
  iterate 4 refine s1_ ?_
  refine ⟨_,_,rfl,Mem.Less.refl _,?_⟩
  rw [← h3,← rev_end hij];exact ⟨rfl,R1⟩
set_option maxHeartbeats 1000000 in
theorem soR_order2 {α : Type} [Inhabited α] {enc : α→Value} {cf : α → α→Int} {okP : α→Prop} {g:Nat} {cb:List Value} {S:Mem} (C:CmpC Tryz.prog enc cf okP g cb S) (b room n cap:Nat) (hb:Fresh S b) (hn:n≤1048576) (d:Array α) (R:Rw okP n d) (c:Nat) (hc:Fresh S c) (hcb:c≠b) (ia ie:Int) (a e k:Nat) (ea:ia=a) (ee:ie=e) (ha:a<n) (he:e<n) (hk:k≤1000) :
  ACall Tryz.prog 204 #[.slice (some ⟨b,0,none⟩) n cap,.int .i64 ia,.int .i64 ie,.pointer (some ⟨c,0,none⟩),.func (.func g) #[] cb.toArray] ((S.set b ⟨46,(d).toList.map enc,room⟩).set c ⟨3,[.int .i64 ((k:Nat):Int)],1⟩) fun r S'=>r = .tuple #[.int .i64 ((order2 (lq cf) d a e k).1:Nat),.int .i64 ((order2 (lq cf) d a e k).2.1:Nat)]∧S'=(S.set b ⟨46,(d).toList.map enc,room⟩).set c ⟨3,[.int .i64 (((order2 (lq cf) d a e k).2.2:Nat):Int)],1⟩:=by
 subst ea ee
 have z:=R.size
 refine k_E5 (rs:=[.tmp 10,.tmp 11]) 32 Tryz.func204 rfl rfl rfl ?_
 iterate 8 refine s1_ ?_
 refine AWP.draw [(0,true),(1,true),(2,true),(3,true),(4,true),(5,true),(6,true),(7,true),(8,true),(9,false),(10,true)] [] mixed (by kernel_rfl) ?_
 iterate 4 refine s1_ ?_
 refine dC (hc:=Calm.load ty_plain_46 rfl (rd_row (k:=e) own_ rw_ rw_)) (h:=?_)
 iterate 3 refine s1_ ?_
 refine dC (hc:=Calm.load ty_plain_46 rfl (rd_row (k:=a) own_ rw_ rw_)) (h:=?_)
 refine draw_only rfl ?_
 refine ARun.callV (first:=[]) (cap:=cb) (lit_lt rfl) C.go rfl rfl (C.call less_ (R.ok (e) rw_) (R.ok (a) rw_)) ?_
 rintro _ _ ⟨rfl,rfl⟩
 refine arun_nil ⟨fun _=>less_,?_⟩
 iterate 3 refine s1_ ?_
 refine AWP.condB rfl (fun hl=>?_) (fun hl=>?_)
 ·have hl:(lq cf) d[e]! d[a]! = true:=hl
  iterate 20 refine s1_ ?_
  refine ⟨_,_,⟨_,_,rfl,⟨_,_,rfl,rfl,rfl⟩,rfl⟩,Mem.Less.refl _,?_⟩
  exact ⟨by rw [order2,if_pos hl];rfl,by rw [order2,if_pos hl];rfl⟩
 ·have hl:(lq cf) d[e]! d[a]! = false:=hl
  iterate 11 refine s1_ ?_
  refine ⟨_,_,⟨_,_,rfl,⟨_,_,rfl,rfl,rfl⟩,rfl⟩,Mem.Less.refl _,?_⟩
  exact ⟨by rw [order2,if_neg (by intro h;exact Bool.noConfusion (hl.symm.trans h))];rfl,by rw [order2,if_neg (by intro h;exact Bool.noConfusion (hl.symm.trans h))]⟩
set_option maxHeartbeats 1000000 in
theorem soR_median {α : Type} [Inhabited α] {enc : α→Value} {cf : α → α→Int} {okP : α→Prop} {g:Nat} {cb:List Value} {S:Mem} (C:CmpC Tryz.prog enc cf okP g cb S) (b room n cap:Nat) (hb:Fresh S b) (hn:n≤1048576) (d:Array α) (R:Rw okP n d) (c:Nat) (hc:Fresh S c) (hcb:c≠b) (ia ie io:Int) (a e o k:Nat) (ea:ia=a) (ee:ie=e) (eo:io=o) (ha:a<n) (he:e<n) (ho:o<n) (hk:k≤900) :
  ACall Tryz.prog 199 #[.slice (some ⟨b,0,none⟩) n cap,.int .i64 ia,.int .i64 ie,.int .i64 io,.pointer (some ⟨c,0,none⟩),.func (.func g) #[] cb.toArray] ((S.set b ⟨46,(d).toList.map enc,room⟩).set c ⟨3,[.int .i64 ((k:Nat):Int)],1⟩) fun r S'=>r = .int .i64 ((median (lq cf) d a e o k).1:Nat)∧S'=(S.set b ⟨46,(d).toList.map enc,room⟩).set c ⟨3,[.int .i64 (((median (lq cf) d a e o k).2:Nat):Int)],1⟩:=by
 subst ea ee eo
 obtain ⟨⟨x1,y1,k1⟩,h1⟩ : ∃ q,q=order2 (lq cf) d a e k:=⟨_,rfl⟩
 obtain ⟨⟨x2,y2,k2⟩,h2⟩ : ∃ q,q=order2 (lq cf) d y1 o k1:=⟨_,rfl⟩
 obtain ⟨⟨x3,y3,k3⟩,h3⟩ : ∃ q,q=order2 (lq cf) d x1 x2 k2:=⟨_,rfl⟩
 have m1:=ord2_lt (lq cf) h1 ha he
 have m2:=ord2_lt (lq cf) h2 m1.2.1 ho
 have m3:=ord2_lt (lq cf) h3 m1.1 m2.1
 have c1:=soR_order2 C b room n cap hb hn d R c hc hcb a e a e k rfl rfl ha he (by omega)
 have c2:=soR_order2 C b room n cap hb hn d R c hc hcb y1 o y1 o k1 rfl rfl m1.2.1 ho (by omega)
 have c3:=soR_order2 C b room n cap hb hn d R c hc hcb x1 x2 x1 x2 k2 rfl rfl m1.1 m2.1 (by omega)
 have hm:median (lq cf) d a e o k=(y3,k3):=by
  unfold median;simp only [← h1,← h2,← h3]
 rw [hm]
 rw [← h1] at c1;rw [← h2] at c2;rw [← h3] at c3
 dsimp only at c1 c2 c3 ⊢
 clear h1 h2 h3 hm
 refine k_E6 (rs:=[.tmp 12]) 41 Tryz.func199 rfl rfl rfl ?_
 iterate 12 refine s1_ ?_
 refine ca_ rfl (c1) ?_
 rintro _ _ ⟨rfl,rfl⟩
 iterate 14 refine s1_ ?_
 refine ca_ rfl (c2) ?_
 rintro _ _ ⟨rfl,rfl⟩
 iterate 14 refine s1_ ?_
 refine ca_ rfl (c3) ?_
 rintro _ _ ⟨rfl,rfl⟩
 iterate 14 refine s1_ ?_
 refine ⟨_,_,⟨_,_,rfl,rfl,rfl⟩,Mem.Less.refl _,?_⟩
 exact ⟨rfl,rfl⟩
set_option maxHeartbeats 1000000 in
theorem soR_medadj {α : Type} [Inhabited α] {enc : α→Value} {cf : α → α→Int} {okP : α→Prop} {g:Nat} {cb:List Value} {S:Mem} (C:CmpC Tryz.prog enc cf okP g cb S) (b room n cap:Nat) (hb:Fresh S b) (hn:n≤1048576) (d:Array α) (R:Rw okP n d) (c:Nat) (hc:Fresh S c) (hcb:c≠b) (ia:Int) (a k:Nat) (ea:ia=a) (ha:0<a) (ha2:a+1<n) (hk:k≤900) :
  ACall Tryz.prog 198 #[.slice (some ⟨b,0,none⟩) n cap,.int .i64 ia,.pointer (some ⟨c,0,none⟩),.func (.func g) #[] cb.toArray] ((S.set b ⟨46,(d).toList.map enc,room⟩).set c ⟨3,[.int .i64 ((k:Nat):Int)],1⟩) fun r S'=>r = .int .i64 ((medianAdjacent (lq cf) d a k).1:Nat)∧S'=(S.set b ⟨46,(d).toList.map enc,room⟩).set c ⟨3,[.int .i64 (((medianAdjacent (lq cf) d a k).2:Nat):Int)],1⟩:=by
 subst ea
 obtain ⟨a,rfl⟩ : ∃ q,a=q+1:=⟨a-1,by omega⟩
 refine k_E4 (rs:=[.tmp 8]) 18 Tryz.func198 rfl rfl rfl ?_
 iterate 15 refine s1_ ?_
 refine ca_ rfl (soR_median C b room n cap hb hn d R c hc hcb _ _ _ a (a+1) (a+2) k om_ rfl om_ (by omega) (by omega) (by omega) hk) ?_
 rintro _ _ ⟨rfl,rfl⟩
 iterate 4 refine s1_ ?_
 refine ⟨_,_,⟨_,_,rfl,rfl,rfl⟩,Mem.Less.refl _,?_⟩
 exact ⟨rfl,rfl⟩
set_option maxHeartbeats 4000000 in
theorem soR_pivot {α : Type} [Inhabited α] {enc : α→Value} {cf : α → α→Int} {okP : α→Prop} {g:Nat} {cb:List Value} {S:Mem} (C:CmpC Tryz.prog enc cf okP g cb S) (b room n cap:Nat) (hb:Fresh S b) (hn:n≤1048576) (d:Array α) (R:Rw okP n d) (ia ie:Int) (a e:Nat) (ha:ia=a) (he:ie=e) (hae:a<e) (hen:e≤n) :
  ACall Tryz.prog 186 #[.slice (some ⟨b,0,none⟩) n cap,.int .i64 ia,.int .i64 ie,.func (.func g) #[] cb.toArray] (S.set b ⟨46,(d).toList.map enc,room⟩) fun r S'=>r = .tuple #[.int .i64 ((choosePivot (lq cf) d a e).1:Nat),.int .i64 (hintI (choosePivot (lq cf) d a e).2)]∧S'=S.set b ⟨46,(d).toList.map enc,room⟩∧a≤(choosePivot (lq cf) d a e).1∧(choosePivot (lq cf) d a e).1<e:=by
 subst ha he
 obtain ⟨L,rfl⟩ : ∃ L,e=a+L:=⟨e-a,by omega⟩
 have z:=R.size
 refine k_E4 (rs:=[.tmp 8,.tmp 9]) 63 Tryz.func186 rfl rfl rfl ?_
 by_cases h8:8≤L
 ·iterate 14 refine s1_ ?_
  iterate 2 refine s1_ ?_
  refine ARun.alloc (lit_lt rfl) ty_zero_3 ?_
  intro b11 f11
  have g11:=f11
  repeat ((with_reducible replace g11:=fresh_set g11);obtain ⟨g11,_⟩:=g11)
  refine nl_ ?_
  iterate 39 refine s1_ ?_
  refine k_v12 0 1 2 3 8 9 10 11 12 13 14 34 ?_
  refine cT_ ?_
  by_cases h50:50≤L
  ·iterate 7 refine s1_ ?_
   refine cT_ ?_
   obtain ⟨⟨i1,k1⟩,q1⟩ : ∃ q,q=medianAdjacent (lq cf) d (a+L / 4*1) 0:=⟨_,rfl⟩
   obtain ⟨⟨j1,k2⟩,q2⟩ : ∃ q,q=medianAdjacent (lq cf) d (a+L / 4*2) k1:=⟨_,rfl⟩
   obtain ⟨⟨o1,k3⟩,q3⟩ : ∃ q,q=medianAdjacent (lq cf) d (a+L / 4*3) k2:=⟨_,rfl⟩
   obtain ⟨⟨pv,k⟩,q4⟩ : ∃ q,q=median (lq cf) d i1 j1 o1 k3:=⟨_,rfl⟩
   have m1:=medadj_lt (lq cf) q1 (lo:=a) (hi:=a+L) (by omega) (by omega)
   have m2:=medadj_lt (lq cf) q2 (lo:=a) (hi:=a+L) (by omega) (by omega)
   have m3:=medadj_lt (lq cf) q3 (lo:=a) (hi:=a+L) (by omega) (by omega)
   have hr:=median_lt (lq cf) q4 (lo:=a) (hi:=a+L) m1.1 m2.1 m3.1
   have n1:=m1.2;have n2:=m2.2;have n3:=m3.2;have n4:=hr.2
   have hp:choosePivot (lq cf) d a (a+L)=(pv,if k=0 then .increasing else if k=12 then .decreasing else .unknown):=by unfold choosePivot;simp only [Nat.add_sub_cancel_left,if_pos h8,if_pos h50,← q1,← q2,← q3,← q4]
   replace hr:=hr.1
   iterate 5 refine s1_ ?_
   refine ca_ rfl ((q1 ▸ soR_medadj C b room n cap hb hn d R b11 g11 (by assumption) _ (a+L / 4*1) 0 om_ (by omega) (by omega) (by omega))) ?_
   rintro _ _ ⟨rfl,rfl⟩
   iterate 8 refine s1_ ?_
   refine ca_ rfl ((q2 ▸ soR_medadj C b room n cap hb hn d R b11 g11 (by assumption) _ (a+L / 4*2) k1 om_ (by omega) (by omega) (by omega))) ?_
   rintro _ _ ⟨rfl,rfl⟩
   iterate 7 refine s1_ ?_
   refine ca_ rfl ((q3 ▸ soR_medadj C b room n cap hb hn d R b11 g11 (by assumption) _ (a+L / 4*3) k2 om_ (by omega) (by omega) (by omega))) ?_
   rintro _ _ ⟨rfl,rfl⟩
   iterate 9 refine s1_ ?_
   refine ca_ rfl ((q4 ▸ soR_median C b room n cap hb hn d R b11 g11 (by assumption) _ _ _ i1 j1 o1 k3 rfl rfl rfl (by omega) (by omega) (by omega) (by omega))) ?_
   rintro _ _ ⟨rfl,rfl⟩
   iterate 3 refine s1_ ?_
   refine k_v13 0 1 2 3 8 9 10 11 12 13 14 34 36 ?_
   by_cases k0:k=0
   ·subst k0
    iterate 12 refine s1_ ?_
    refine cT_ ?_
    iterate 9 refine s1_ ?_
    refine ⟨_,S.set b ⟨46,(d).toList.map enc,room⟩,⟨_,_,rfl,⟨_,_,rfl,rfl,rfl⟩,rfl⟩,less_,?_⟩
    exact ⟨by rw [hp];rfl,rfl,by rw [hp];exact hr⟩
   ·iterate 12 refine s1_ ?_
    refine cF_ ?_
    by_cases k1:k=12
    ·subst k1
     iterate 6 refine s1_ ?_
     refine cT_ ?_
     iterate 7 refine s1_ ?_
     refine k_v16 0 1 2 3 8 9 10 11 12 13 14 34 36 55 57 60 ?_
     iterate 2 refine s1_ ?_
     refine ⟨_,S.set b ⟨46,(d).toList.map enc,room⟩,⟨_,_,rfl,⟨_,_,rfl,rfl,rfl⟩,rfl⟩,less_,?_⟩
     exact ⟨by rw [hp];rfl,rfl,by rw [hp];exact hr⟩
    ·iterate 6 refine s1_ ?_
     refine cF_ ?_
     iterate 9 refine s1_ ?_
     refine ⟨_,S.set b ⟨46,(d).toList.map enc,room⟩,⟨_,_,rfl,⟨_,_,rfl,rfl,rfl⟩,rfl⟩,less_,?_⟩
     exact ⟨by rw [hp,piv_hint k0 k1];rfl,rfl,by rw [hp];exact hr⟩
  ·iterate 7 refine s1_ ?_
   refine cF_ ?_
   obtain ⟨⟨pv,k⟩,q4⟩ : ∃ q,q=median (lq cf) d (a+L / 4*1) (a+L / 4*2) (a+L / 4*3) 0:=⟨_,rfl⟩
   have hr:=median_lt (lq cf) q4 (lo:=a) (hi:=a+L) (by omega) (by omega) (by omega)
   have n4:=hr.2
   have hp:choosePivot (lq cf) d a (a+L)=(pv,if k=0 then .increasing else if k=12 then .decreasing else .unknown):=by unfold choosePivot;simp only [Nat.add_sub_cancel_left,if_pos h8,if_neg h50,← q4]
   replace hr:=hr.1
   iterate 8 refine s1_ ?_
   refine ca_ rfl ((q4 ▸ soR_median C b room n cap hb hn d R b11 g11 (by assumption) _ _ _ (a+L / 4*1) (a+L / 4*2) (a+L / 4*3) 0 om_ om_ om_ (by omega) (by omega) (by omega) (by omega))) ?_
   rintro _ _ ⟨rfl,rfl⟩
   iterate 3 refine s1_ ?_
   by_cases k0:k=0
   ·subst k0
    iterate 12 refine s1_ ?_
    refine k_v15 0 1 2 3 8 9 10 11 12 13 14 34 36 55 57 ?_
    refine cT_ ?_
    iterate 9 refine s1_ ?_
    refine ⟨_,S.set b ⟨46,(d).toList.map enc,room⟩,⟨_,_,rfl,⟨_,_,rfl,rfl,rfl⟩,rfl⟩,less_,?_⟩
    exact ⟨by rw [hp];rfl,rfl,by rw [hp];exact hr⟩
   ·iterate 12 refine s1_ ?_
    refine cF_ ?_
    by_cases k1:k=12
    ·subst k1
     iterate 6 refine s1_ ?_
     refine cT_ ?_
     iterate 9 refine s1_ ?_
     refine ⟨_,S.set b ⟨46,(d).toList.map enc,room⟩,⟨_,_,rfl,⟨_,_,rfl,rfl,rfl⟩,rfl⟩,less_,?_⟩
     exact ⟨by rw [hp];rfl,rfl,by rw [hp];exact hr⟩
    ·iterate 6 refine s1_ ?_
     refine k_v16 0 1 2 3 8 9 10 11 12 13 14 34 36 55 57 60 ?_
     refine cF_ ?_
     iterate 9 refine s1_ ?_
     refine ⟨_,S.set b ⟨46,(d).toList.map enc,room⟩,⟨_,_,rfl,⟨_,_,rfl,rfl,rfl⟩,rfl⟩,less_,?_⟩
     exact ⟨by rw [hp,piv_hint k0 k1];rfl,rfl,by rw [hp];exact hr⟩
 ·iterate 14 refine s1_ ?_
  iterate 2 refine s1_ ?_
  refine ARun.alloc (lit_lt rfl) ty_zero_3 ?_
  intro b11 f11
  have g11:=f11
  repeat ((with_reducible replace g11:=fresh_set g11);obtain ⟨g11,_⟩:=g11)
  refine nl_ ?_
  iterate 32 refine s1_ ?_
  refine k_v11 0 1 2 3 8 9 10 11 12 13 14 ?_
  iterate 7 refine s1_ ?_
  refine cF_ ?_
  have hp:choosePivot (lq cf) d a (a+L)=(a+L / 4*2,.increasing):=by unfold choosePivot;simp only [Nat.add_sub_cancel_left,if_neg h8];rfl
  iterate 14 refine s1_ ?_
  refine cT_ ?_
  iterate 9 refine s1_ ?_
  refine ⟨_,S.set b ⟨46,(d).toList.map enc,room⟩,⟨_,_,rfl,⟨_,_,rfl,rfl,rfl⟩,rfl⟩,less_,?_⟩
  exact ⟨by rw [hp];exact piv_val om_,rfl,by rw [hp];exact ⟨by show a≤a+L / 4*2;omega,by show a+L / 4*2<a+L;omega⟩⟩
set_option maxHeartbeats 4000000 in
theorem soR_brk {α : Type} [Inhabited α] {enc : α→Value} {cf : α → α→Int} {okP : α→Prop} {g:Nat} {cb:List Value} {S:Mem} (C:CmpC Tryz.prog enc cf okP g cb S) (b room n cap:Nat) (hb:Fresh S b) (hn:n≤1048576) (d:Array α) (R:Rw okP n d) (ia ie:Int) (a e:Nat) (ha:ia=a) (he:ie=e) (hae:a≤e) (hen:e≤n) :
  ACall Tryz.prog 185 #[.slice (some ⟨b,0,none⟩) n cap,.int .i64 ia,.int .i64 ie,.func (.func g) #[] cb.toArray] (S.set b ⟨46,(d).toList.map enc,room⟩) fun r S'=>S'=S.set b ⟨46,(breakPatterns d a e).toList.map enc,room⟩∧Rw okP n (breakPatterns d a e):=by
 subst ha he
 obtain ⟨L,rfl⟩ : ∃ L,e=a+L:=⟨e-a,by omega⟩
 have z:=R.size
 by_cases h8:8≤L
 ·have hbp:=bp_eq (d:=d) (a:=a) h8
  have hmb:=bp_mod L (by omega) (by omega)
  generalize hmo:1 <<< bitsLen L=mo at *
  generalize hba:a+L / 4*2-1=ba at *
  have hoL:((UInt64.ofNat L).toNat:Nat)=L:=by rw [UInt64.toNat_ofNat'];exact Nat.mod_eq_of_lt (by omega)
  refine k_E4 (rs:=[]) 67 Tryz.func185 rfl rfl rfl ?_
  iterate 14 refine s1_ ?_
  refine cT_ ?_
  iterate 3 refine s1_ ?_
  refine rC (Calm.conv rfl (conv_intW Tryz.underlying3 Tryz.underlying295 (IntWalk.u64_in _ (by omega)))) ?_
  refine ARun.alloc (lit_lt rfl) ty_zero_295 ?_
  intro b9 f9
  have g9:=f9
  repeat ((with_reducible replace g9:=fresh_set g9);obtain ⟨g9,_⟩:=g9)
  refine nl_ ?_
  iterate 3 refine s1_ ?_
  refine AWP.less ((S.set b ⟨46,(d).toList.map enc,room⟩).set b9 (xorB (UInt64.ofNat L).toNat)) (by unfold xorB;rw [hoL,show ((a+L:Nat):Int)-(a:Int)=(L:Int) by omega];exact Mem.Less.refl _) ?_
  iterate 3 refine s1_ ?_
  refine ca_ rfl ((hmo ▸ so_pow _ L om_ (by omega) _)) ?_
  rintro _ _ ⟨rfl,rfl⟩
  iterate 14 refine s1_ ?_
  refine k_v8 0 1 2 8 17 9 10 11 ?_
  refine s1_ ?_
  refine AWP.loop (X:=Nat × UInt64 × Array α) (fun x=>[(0,.slice (some ⟨b,0,none⟩) n cap),(1,.int .i64 a),(8,.int .i64 L),(9,.pointer (some ⟨b9,0,none⟩)),(10,.int .u64 mo),(11,.int .i64 ((ba+(3-x.1):Nat):Int))]) (fun x=>(S.set b ⟨46,(x.2.2).toList.map enc,room⟩).set b9 (xorB (x.2.1).toNat)) (fun x=>x.1≤3∧Rw okP n x.2.2∧bpR a L mo ba x.1 x.2=bpR a L mo ba 3 (UInt64.ofNat L,d)) (fun x=>x.1) ((3,UInt64.ofNat L,d)) ⟨sb_,sb_,sb_,sb_,sb_,sb_,trivial⟩ (Mem.Less.refl _) (⟨Nat.le_refl _,R,rfl⟩) ?_
  rintro ⟨k,r,d1⟩ ⟨h1,R1,h3⟩
  (try dsimp only at *)
  have z1:=R1.size
  by_cases hk:0<k
  ·obtain ⟨k,rfl⟩ : ∃ q,k=q+1:=⟨k-1,by omega⟩
   iterate 13 refine s1_ ?_
   refine cT_ ?_
   obtain ⟨r',hr'⟩ : ∃ r',r'=xorNext r:=⟨_,rfl⟩
   obtain ⟨o,ho⟩ : ∃ o,o=r'.toNat &&& (mo-1):=⟨_,rfl⟩
   have ho1:o≤mo-1:=by rw [ho];exact Nat.and_le_right
   have han:=and_n64 r'.toNat (mo-1) r'.toNat_lt (by omega)
   rw [← ho] at han
   iterate 6 refine s1_ ?_
   refine ca_ rfl ((hr' ▸ so_next b9 r _ (fresh_more g9 (by assumption)))) ?_
   rintro _ _ ⟨rfl,rfl⟩
   refine s1_ ?_
   refine rC (Calm.bin rfl rfl (bin_subW (sub_u64 mo (by omega) (by omega)))) ?_
   refine rC (Calm.bin rfl rfl (bin_andE han)) ?_
   iterate 4 refine s1_ ?_
   by_cases hoL2:L≤o
   ·iterate 8 refine s1_ ?_
    refine cT_ ?_
    iterate 7 refine s1_ ?_
    refine AWP.draw [(0,true),(1,true),(2,true),(3,true),(4,true),(5,true),(6,true),(7,true),(8,true),(9,true),(10,true),(11,true),(12,true),(13,true),(14,true),(15,true),(16,true),(17,false),(18,true),(19,false)] [17,19] mixed (by kernel_rfl) ?_
    iterate 11 refine s1_ ?_
    refine dC (hc:=Calm.load ty_plain_46 rfl (rd_row (k:=a+(o-L)) own_ rw_ rw_)) (h:=?_)
    iterate 3 refine s1_ ?_
    refine dC (hc:=Calm.load ty_plain_46 rfl (rd_row (k:=ba+(2-k)) own_ rw_ rw_)) (h:=?_)
    refine s1_ ?_
    refine draw_only rfl ?_
    refine ARun.storeRow enc (ba+(2-k)) rfl rfl ty_size_46 (C.one _) own_ rw_ rw_ ?_
    try simp only [k_ms,k_sz,k_ss,k_za,Nat.reduceAdd]
    refine arun_nil ⟨fun h=>absurd h (by decide),?_⟩
    refine s1_ ?_
    refine draw_only rfl ?_
    refine ARun.storeRow enc (a+(o-L)) rfl rfl ty_size_46 (C.one _) own_ rw_ rw_ ?_
    try simp only [k_ms,k_sz,k_ss,k_za,Nat.reduceAdd]
    refine arun_nil ⟨fun h=>absurd h (by decide),?_⟩
    iterate 3 refine s1_ ?_
    refine k_v9 0 1 8 9 10 11 35 12 45 ?_
    iterate 6 refine s1_ ?_
    refine ⟨(k,r',swp d1 (ba+(2-k)) (a+(o-L))),?_,?_,?_,?_⟩
    all_goals (try dsimp only)
    ·exact ⟨sb_,sb_,sb_,sb_,sb_,sb_,trivial⟩
    ·rw [set_over _ _ _ _ (by first | assumption | (apply Ne.symm;assumption))];exact Mem.Less.refl _
    ·exact ⟨by omega,R1.swp _ _ (by omega) (by omega),by rw [← h3,bpR_succ,← hr',← ho,if_pos hoL2]⟩
    ·omega
   ·iterate 8 refine s1_ ?_
    refine cF_ ?_
    iterate 2 refine s1_ ?_
    refine AWP.draw [(0,true),(1,true),(2,true),(3,true),(4,true),(5,true),(6,true),(7,true),(8,true),(9,true),(10,true),(11,true),(12,true),(13,true),(14,true),(15,true),(16,true),(17,false),(18,true),(19,false)] [17,19] mixed (by kernel_rfl) ?_
    iterate 11 refine s1_ ?_
    refine dC (hc:=Calm.load ty_plain_46 rfl (rd_row (k:=a+o) own_ rw_ rw_)) (h:=?_)
    iterate 3 refine s1_ ?_
    refine dC (hc:=Calm.load ty_plain_46 rfl (rd_row (k:=ba+(2-k)) own_ rw_ rw_)) (h:=?_)
    refine s1_ ?_
    refine draw_only rfl ?_
    refine ARun.storeRow enc (ba+(2-k)) rfl rfl ty_size_46 (C.one _) own_ rw_ rw_ ?_
    try simp only [k_ms,k_sz,k_ss,k_za,Nat.reduceAdd]
    refine arun_nil ⟨fun h=>absurd h (by decide),?_⟩
    refine s1_ ?_
    refine draw_only rfl ?_
    refine ARun.storeRow enc (a+o) rfl rfl ty_size_46 (C.one _) own_ rw_ rw_ ?_
    try simp only [k_ms,k_sz,k_ss,k_za,Nat.reduceAdd]
    refine arun_nil ⟨fun h=>absurd h (by decide),?_⟩
    iterate 9 refine s1_ ?_
    refine ⟨(k,r',swp d1 (ba+(2-k)) (a+o)),?_,?_,?_,?_⟩
    all_goals (try dsimp only)
    ·exact ⟨sb_,sb_,sb_,sb_,sb_,sb_,trivial⟩
    ·rw [set_over _ _ _ _ (by first | assumption | (apply Ne.symm;assumption))];exact Mem.Less.refl _
    ·exact ⟨by omega,R1.swp _ _ (by omega) (by omega),by rw [← h3,bpR_succ,← hr',← ho,if_neg hoL2]⟩
    ·omega
  ·obtain rfl:k=0:=by omega
   iterate 13 refine s1_ ?_
   refine cF_ ?_
   iterate 4 refine s1_ ?_
   refine ⟨_,S.set b ⟨46,(d1).toList.map enc,room⟩,rfl,less_,?_⟩
   rw [hbp,← h3];exact ⟨rfl,R1⟩
 ·have hbp:breakPatterns d a (a+L)=d:=by unfold breakPatterns;simp only [Nat.add_sub_cancel_left];rw [if_neg (by omega)]
  rw [hbp]
  refine k_E4 (rs:=[]) 67 Tryz.func185 rfl rfl rfl ?_
  iterate 14 refine s1_ ?_
  refine k_v5 0 1 2 8 17 ?_
  refine cF_ ?_
  refine s1_ ?_
  refine ⟨_,_,rfl,Mem.Less.refl _,?_⟩
  exact ⟨rfl,R⟩
set_option maxHeartbeats 4000000 in
theorem soR_pins {α : Type} [Inhabited α] {enc : α→Value} {cf : α → α→Int} {okP : α→Prop} {g:Nat} {cb:List Value} {S:Mem} (C:CmpC Tryz.prog enc cf okP g cb S) (b room n cap:Nat) (hb:Fresh S b) (hn:n≤1048576) (d:Array α) (R:Rw okP n d) (ia ie:Int) (a e:Nat) (ha:ia=a) (he:ie=e) (hae:a<e) (hen:e≤n) :
  ACall Tryz.prog 188 #[.slice (some ⟨b,0,none⟩) n cap,.int .i64 ia,.int .i64 ie,.func (.func g) #[] cb.toArray] (S.set b ⟨46,(d).toList.map enc,room⟩) fun r S'=>r = .bool (partialInsertionSort (lq cf) d a e).2∧S'=S.set b ⟨46,((partialInsertionSort (lq cf) d a e).1).toList.map enc,room⟩∧Rw okP n (partialInsertionSort (lq cf) d a e).1:=by
 subst ha he
 refine k_E4 (rs:=[.tmp 8]) 141 Tryz.func188 rfl rfl rfl ?_
 iterate 19 refine s1_ ?_
 refine AWP.loop (X:=Nat × Nat × Array α) (fun x=>[(0,.slice (some ⟨b,0,none⟩) n cap),(1,.int .i64 a),(2,.int .i64 e),(3,.func (.func g) #[] cb.toArray),(9,.int .i64 x.2.1),(10,.int .i64 ((5-x.1:Nat):Int))]) (fun x=>S.set b ⟨46,(x.2.2).toList.map enc,room⟩) (fun x=>x.1≤5∧a+1≤x.2.1∧x.2.1≤e∧Rw okP n x.2.2∧partialIns (lq cf) a e x.1 x.2.1 x.2.2=partialInsertionSort (lq cf) d a e) (fun x=>x.1) ((5,a+1,d)) ⟨sb_,sb_,sb_,sb_,sb_,sb_,trivial⟩ (Mem.Less.refl _) (⟨Nat.le_refl _,by dsimp only;omega,by dsimp only;omega,R,rfl⟩) ?_
 rintro ⟨s,i,d1⟩ ⟨h1,h2,h4,R1,h3⟩
 (try dsimp only at *)
 have z1:=R1.size
 by_cases hs:0<s
 ·obtain ⟨s,rfl⟩ : ∃ q,s=q+1:=⟨s-1,by omega⟩
  iterate 7 refine s1_ ?_
  refine cT_ ?_
  iterate 5 refine s1_ ?_
  refine AWP.join (X:=Nat) (fun x=>[(0,.slice (some ⟨b,0,none⟩) n cap),(1,.int .i64 a),(2,.int .i64 e),(3,.func (.func g) #[] cb.toArray),(9,.int .i64 x),(10,.int .i64 ((5-(s+1):Nat):Int))]) (fun _=>S.set b ⟨46,(d1).toList.map enc,room⟩) (fun x=>a+1≤x∧x≤e∧x=scanSorted (lq cf) d1 e i) ?_ ?_
  ·refine s1_ ?_
   refine AWP.loop (X:=Nat) (fun x=>[(0,.slice (some ⟨b,0,none⟩) n cap),(1,.int .i64 a),(2,.int .i64 e),(3,.func (.func g) #[] cb.toArray),(9,.int .i64 x),(10,.int .i64 ((5-(s+1):Nat):Int))]) (fun _=>S.set b ⟨46,(d1).toList.map enc,room⟩) (fun x=>a+1≤x∧x≤e∧scanSorted (lq cf) d1 e x=scanSorted (lq cf) d1 e i) (fun x=>e-x) (i) ⟨sb_,sb_,sb_,sb_,sb_,sb_,trivial⟩ (Mem.Less.refl _) (⟨h2,h4,rfl⟩) ?_
   rintro x ⟨q1,q2,q3⟩
   (try dsimp only at *)
   by_cases hx:x<e
   ·obtain ⟨x,rfl⟩ : ∃ q,x=q+1:=⟨x-1,by omega⟩
    iterate 2 refine s1_ ?_
    refine AWP.draw [(0,true),(1,true),(2,true),(3,true),(4,true),(5,true),(6,true),(7,true),(8,true),(9,true),(10,true),(11,true),(12,true),(13,true),(14,false),(15,true),(16,true),(17,true)] [] mixed (by kernel_rfl) ?_
    iterate 8 refine s1_ ?_
    first|refine k_d ?_|refine dL (hc:=Calm.load ty_plain_46 rfl (rd_row (k:=x+1) own_ rw_ rw_)) (h:=?_)
    iterate 4 refine s1_ ?_
    first|refine k_d ?_|refine dL (hc:=Calm.load ty_plain_46 rfl (rd_row (k:=x) own_ rw_ rw_)) (h:=?_)
    refine draw_only rfl ?_
    refine rUn 22 ?_
    refine ARun.callV (first:=[]) (cap:=cb) (lit_lt rfl) C.go rfl rfl (C.call less_ (R1.ok (x+1) rw_) (R1.ok (x) rw_)) ?_
    rintro _ _ ⟨rfl,rfl⟩
    refine arun_nil ⟨fun _=>less_,?_⟩
    iterate 5 refine s1_ ?_
    refine AWP.condB rfl (fun hl=>?_) (fun hl=>?_)
    ·have hl:=nt_ hl
     iterate 10 refine s1_ ?_
     refine ⟨x+1+1,?_,?_,?_,?_⟩
     all_goals (try dsimp only)
     ·exact ⟨sb_,sb_,sb_,sb_,sb_,sb_,trivial⟩
     ·exact Mem.Less.refl _
     ·exact ⟨by omega,by omega,(ss_go (lq cf) hx (by rw [Nat.add_sub_cancel];exact hl)).trans q3⟩
     ·omega
    ·have hl:=nf_ hl
     iterate 4 refine s1_ ?_
     refine ⟨(x+1),?_,?_,?_⟩
     all_goals (try dsimp only)
     ·exact ⟨by omega,by omega,(ss_no (lq cf) (by rw [Nat.add_sub_cancel];exact hl)).trans q3⟩
     ·exact ⟨sb_,sb_,sb_,sb_,sb_,sb_,trivial⟩
     ·exact Mem.Less.refl _
   ·iterate 2 refine s1_ ?_
    refine AWP.draw [(0,true),(1,true),(2,true),(3,true),(4,true),(5,true),(6,true),(7,true),(8,true),(9,true),(10,true),(11,true),(12,true),(13,true),(14,false),(15,true),(16,true),(17,true)] [] mixed (by kernel_rfl) ?_
    iterate 8 refine s1_ ?_
    first|refine k_d ?_|refine dL (hc:=Calm.load ty_plain_46 rfl (rd_row (k:=x+1) own_ rw_ rw_)) (h:=?_)
    iterate 4 refine s1_ ?_
    first|refine k_d ?_|refine dL (hc:=Calm.load ty_plain_46 rfl (rd_row (k:=x) own_ rw_ rw_)) (h:=?_)
    refine draw_only rfl ?_
    refine s1_ ?_
    refine arun_nil ⟨fun _=>less_,?_⟩
    iterate 5 refine s1_ ?_
    refine cF_ ?_
    iterate 4 refine s1_ ?_
    refine ⟨x,?_,?_,?_⟩
    all_goals (try dsimp only)
    ·exact ⟨by omega,by omega,(ss_end (lq cf) hx).trans q3⟩
    ·exact ⟨sb_,sb_,sb_,sb_,sb_,sb_,trivial⟩
    ·exact Mem.Less.refl _
  rintro x ⟨b1,b2,hS⟩
  intro _ _ hs_ hl_
  (try dsimp only at *)
  refine athen_n ?_
  refine AWP.sub _ hs_ (AWP.less _ hl_ ?_)
  clear hs_ hl_
  by_cases hxe:x=e
  ·iterate 8 refine s1_ ?_
   refine k_v7 0 1 2 3 9 10 41 ?_
   refine cT_ ?_
   iterate 12 refine s1_ ?_
   refine ⟨_,_,⟨_,_,rfl,rfl,rfl⟩,Mem.Less.refl _,?_⟩
   exact pis_res (M:=fun x=>S.set b ⟨46,(x).toList.map enc,room⟩) (lq cf) h3 (.inl ⟨hS ▸ hxe,rfl,rfl⟩) R1
  ·iterate 8 refine s1_ ?_
   refine cF_ ?_
   by_cases h50:e-a<50
   ·iterate 11 refine s1_ ?_
    refine cT_ ?_
    iterate 12 refine s1_ ?_
    refine ⟨_,_,⟨_,_,rfl,rfl,rfl⟩,Mem.Less.refl _,?_⟩
    exact pis_res (M:=fun x=>S.set b ⟨46,(x).toList.map enc,room⟩) (lq cf) h3 (.inr ⟨hS ▸ hxe,h50,rfl,rfl⟩) R1
   ·iterate 11 refine s1_ ?_
    refine cF_ ?_
    obtain ⟨w,rfl⟩ : ∃ q,x=q+1:=⟨x-1,by omega⟩
    iterate 3 refine s1_ ?_
    refine AWP.draw [(0,true),(1,true),(2,true),(3,true),(4,true),(5,true),(6,true),(7,true),(8,true),(9,true),(10,true),(11,true),(12,true),(13,true),(14,true),(15,false),(16,true),(17,false)] [15,17] mixed (by kernel_rfl) ?_
    have R2:=R1.swp (w+1) w (by omega) (by omega)
    obtain ⟨d2,hd2⟩ : ∃ d2,d2=swp d1 (w+1) w:=⟨_,rfl⟩
    rw [← hd2] at R2
    iterate 9 refine s1_ ?_
    refine dC (hc:=Calm.load ty_plain_46 rfl (rd_row (k:=w) own_ rw_ rw_)) (h:=?_)
    iterate 3 refine s1_ ?_
    refine dC (hc:=Calm.load ty_plain_46 rfl (rd_row (k:=w+1) own_ rw_ rw_)) (h:=?_)
    refine s1_ ?_
    refine draw_only rfl ?_
    refine ARun.storeRow enc (w+1) rfl rfl ty_size_46 (C.one _) own_ rw_ rw_ ?_
    try simp only [k_ms,k_sz,k_ss,k_za,Nat.reduceAdd]
    refine arun_nil ⟨fun h=>absurd h (by decide),?_⟩
    refine s1_ ?_
    refine draw_only rfl ?_
    refine ARun.storeRow enc (w) rfl rfl ty_size_46 (C.one _) own_ rw_ rw_ ?_
    try simp only [k_ms,k_sz,k_ss,k_za,Nat.reduceAdd]
    refine arun_nil ⟨fun h=>absurd h (by decide),?_⟩
    iterate 2 refine s1_ ?_
    refine AWP.less (S.set b ⟨46,(d2).toList.map enc,room⟩) (by rw [hd2];exact Mem.Less.refl _) ?_
    have z2:=R2.size
    iterate 9 refine s1_ ?_
    refine k_v9 0 1 2 3 9 10 41 45 65 ?_
    refine AWP.join (X:=Array α) (fun x=>[(0,.slice (some ⟨b,0,none⟩) n cap),(1,.int .i64 a),(2,.int .i64 e),(3,.func (.func g) #[] cb.toArray),(9,.int .i64 ((w+1:Nat):Int)),(10,.int .i64 ((5-(s+1):Nat):Int))]) (fun x=>S.set b ⟨46,(x).toList.map enc,room⟩) (fun x=>Rw okP n x∧x=(if w+1-a ≥ 2 then shiftDown (lq cf) w d2 else d2)) ?_ ?_
    ·by_cases hw:2≤w+1-a
     ·refine cT_ ?_
      iterate 8 refine s1_ ?_
      refine AWP.loop (X:=Nat × Array α) (fun x=>[(0,.slice (some ⟨b,0,none⟩) n cap),(1,.int .i64 a),(2,.int .i64 e),(3,.func (.func g) #[] cb.toArray),(9,.int .i64 ((w+1:Nat):Int)),(10,.int .i64 ((5-(s+1):Nat):Int)),(11,.int .i64 x.1)]) (fun x=>S.set b ⟨46,(x.2).toList.map enc,room⟩) (fun x=>x.1≤w∧Rw okP n x.2∧shiftDown (lq cf) x.1 x.2=shiftDown (lq cf) w d2) (fun x=>x.1) ((w,d2)) ⟨sb_,sb_,sb_,sb_,sb_,sb_,sb_,trivial⟩ (Mem.Less.refl _) (⟨Nat.le_refl _,R2,rfl⟩) ?_
      rintro ⟨j,d3⟩ ⟨k1,R3,k3⟩
      (try dsimp only at *)
      have z3:=R3.size
      by_cases hj:0<j
      ·obtain ⟨j,rfl⟩ : ∃ q,j=q+1:=⟨j-1,by omega⟩
       iterate 7 refine s1_ ?_
       refine cT_ ?_
       iterate 6 refine s1_ ?_
       refine AWP.draw [(0,true),(1,true),(2,true),(3,true),(4,true),(5,true),(6,true),(7,true),(8,true),(9,true),(10,false),(11,true),(12,true)] [] mixed (by kernel_rfl) ?_
       iterate 4 refine s1_ ?_
       refine dC (hc:=Calm.load ty_plain_46 rfl (rd_row (k:=j+1) own_ rw_ rw_)) (h:=?_)
       iterate 4 refine s1_ ?_
       refine dC (hc:=Calm.load ty_plain_46 rfl (rd_row (k:=j) own_ rw_ rw_)) (h:=?_)
       refine draw_only rfl ?_
       refine ARun.callV (first:=[]) (cap:=cb) (lit_lt rfl) C.go rfl rfl (C.call less_ (R3.ok (j+1) rw_) (R3.ok (j) rw_)) ?_
       rintro _ _ ⟨rfl,rfl⟩
       refine arun_nil ⟨fun _=>less_,?_⟩
       iterate 4 refine s1_ ?_
       refine AWP.condB rfl (fun hl=>?_) (fun hl=>?_)
       ·have hl:=nt_ hl
        iterate 6 refine s1_ ?_
        refine ⟨d3,?_,?_,?_⟩
        all_goals (try dsimp only)
        ·exact ⟨R3,by rw [if_pos hw,← k3,← sd_no (lq cf) hl]⟩
        ·exact ⟨sb_,sb_,sb_,sb_,sb_,sb_,trivial⟩
        ·exact Mem.Less.refl _
       ·have hl:=nf_ hl
        iterate 2 refine s1_ ?_
        refine AWP.draw [(0,true),(1,true),(2,true),(3,true),(4,true),(5,true),(6,true),(7,true),(8,true),(9,true),(10,true),(11,true),(12,true),(13,true),(14,true),(15,false),(16,true),(17,false)] [15,17] mixed (by kernel_rfl) ?_
        iterate 9 refine s1_ ?_
        refine dC (hc:=Calm.load ty_plain_46 rfl (rd_row (k:=j) own_ rw_ rw_)) (h:=?_)
        iterate 3 refine s1_ ?_
        refine dC (hc:=Calm.load ty_plain_46 rfl (rd_row (k:=j+1) own_ rw_ rw_)) (h:=?_)
        refine s1_ ?_
        refine draw_only rfl ?_
        refine ARun.storeRow enc (j+1) rfl rfl ty_size_46 (C.one _) own_ rw_ rw_ ?_
        try simp only [k_ms,k_sz,k_ss,k_za,Nat.reduceAdd]
        refine arun_nil ⟨fun h=>absurd h (by decide),?_⟩
        refine s1_ ?_
        refine draw_only rfl ?_
        refine ARun.storeRow enc (j) rfl rfl ty_size_46 (C.one _) own_ rw_ rw_ ?_
        try simp only [k_ms,k_sz,k_ss,k_za,Nat.reduceAdd]
        refine arun_nil ⟨fun h=>absurd h (by decide),?_⟩
        iterate 9 refine s1_ ?_
        refine ⟨(j,swp d3 (j+1) j),?_,?_,?_,?_⟩
        all_goals (try dsimp only)
        ·exact ⟨sb_,sb_,sb_,sb_,sb_,sb_,sb_,trivial⟩
        ·exact Mem.Less.refl _
        ·exact ⟨by omega,R3.swp _ _ (by omega) (by omega),(sd_go (lq cf) hl).trans k3⟩
        ·omega
      ·obtain rfl:j=0:=by omega
       iterate 7 refine s1_ ?_
       refine k_v8 0 1 2 3 9 10 11 69 ?_
       refine cF_ ?_
       iterate 4 refine s1_ ?_
       refine ⟨d3,?_,?_,?_⟩
       all_goals (try dsimp only)
       ·exact ⟨R3,by rw [if_pos hw,← k3];rfl⟩
       ·exact ⟨sb_,sb_,sb_,sb_,sb_,sb_,trivial⟩
       ·exact Mem.Less.refl _
     ·refine cF_ ?_
      refine s1_ ?_
      refine ⟨d2,?_,?_,?_⟩
      all_goals (try dsimp only)
      ·exact ⟨R2,by rw [if_neg hw]⟩
      ·exact ⟨sb_,sb_,sb_,sb_,sb_,sb_,trivial⟩
      ·exact Mem.Less.refl _
    rintro d3 ⟨R3,hd3⟩
    intro _ _ hs_ hl_
    (try dsimp only at *)
    refine athen_n ?_
    refine AWP.sub _ hs_ (AWP.less _ hl_ ?_)
    clear hs_ hl_
    have z3:=R3.size
    iterate 8 refine s1_ ?_
    refine AWP.join (X:=Array α) (fun x=>[(0,.slice (some ⟨b,0,none⟩) n cap),(1,.int .i64 a),(2,.int .i64 e),(3,.func (.func g) #[] cb.toArray),(9,.int .i64 ((w+1:Nat):Int)),(10,.int .i64 ((5-(s+1):Nat):Int))]) (fun x=>S.set b ⟨46,(x).toList.map enc,room⟩) (fun x=>Rw okP n x∧x=(if e-(w+1) ≥ 2 then shiftUp (lq cf) e (w+1+1) d3 else d3)) ?_ ?_
    ·by_cases hw:2≤e-(w+1)
     ·refine cT_ ?_
      iterate 8 refine s1_ ?_
      refine AWP.loop (X:=Nat × Array α) (fun x=>[(0,.slice (some ⟨b,0,none⟩) n cap),(1,.int .i64 a),(2,.int .i64 e),(3,.func (.func g) #[] cb.toArray),(9,.int .i64 ((w+1:Nat):Int)),(10,.int .i64 ((5-(s+1):Nat):Int)),(12,.int .i64 x.1)]) (fun x=>S.set b ⟨46,(x.2).toList.map enc,room⟩) (fun x=>w+1+1≤x.1∧x.1≤e∧Rw okP n x.2∧shiftUp (lq cf) e x.1 x.2=shiftUp (lq cf) e (w+1+1) d3) (fun x=>e-x.1) ((w+1+1,d3)) ⟨sb_,sb_,sb_,sb_,sb_,sb_,sb_,trivial⟩ (Mem.Less.refl _) (⟨Nat.le_refl _,by dsimp only;omega,R3,rfl⟩) ?_
      rintro ⟨j,d4⟩ ⟨k1,k2,R4,k3⟩
      (try dsimp only at *)
      have z4:=R4.size
      by_cases hj:j<e
      ·obtain ⟨j,rfl⟩ : ∃ q,j=q+1:=⟨j-1,by omega⟩
       iterate 8 refine s1_ ?_
       refine cT_ ?_
       iterate 6 refine s1_ ?_
       refine AWP.draw [(0,true),(1,true),(2,true),(3,true),(4,true),(5,true),(6,true),(7,true),(8,true),(9,true),(10,false),(11,true),(12,true)] [] mixed (by kernel_rfl) ?_
       iterate 4 refine s1_ ?_
       refine dC (hc:=Calm.load ty_plain_46 rfl (rd_row (k:=j+1) own_ rw_ rw_)) (h:=?_)
       iterate 4 refine s1_ ?_
       refine dC (hc:=Calm.load ty_plain_46 rfl (rd_row (k:=j) own_ rw_ rw_)) (h:=?_)
       refine draw_only rfl ?_
       refine ARun.callV (first:=[]) (cap:=cb) (lit_lt rfl) C.go rfl rfl (C.call less_ (R4.ok (j+1) rw_) (R4.ok (j) rw_)) ?_
       rintro _ _ ⟨rfl,rfl⟩
       refine arun_nil ⟨fun _=>less_,?_⟩
       iterate 4 refine s1_ ?_
       refine AWP.condB rfl (fun hl=>?_) (fun hl=>?_)
       ·have hl:=nt_ hl
        iterate 6 refine s1_ ?_
        refine ⟨d4,?_,?_,?_⟩
        all_goals (try dsimp only)
        ·exact ⟨R4,by rw [if_pos hw,← k3,← su_no (lq cf) (by rw [Nat.add_sub_cancel];exact hl)]⟩
        ·exact ⟨sb_,sb_,sb_,sb_,sb_,sb_,trivial⟩
        ·exact Mem.Less.refl _
       ·have hl:=nf_ hl
        iterate 2 refine s1_ ?_
        refine AWP.draw [(0,true),(1,true),(2,true),(3,true),(4,true),(5,true),(6,true),(7,true),(8,true),(9,true),(10,true),(11,true),(12,true),(13,true),(14,true),(15,false),(16,true),(17,false)] [15,17] mixed (by kernel_rfl) ?_
        iterate 9 refine s1_ ?_
        refine dC (hc:=Calm.load ty_plain_46 rfl (rd_row (k:=j) own_ rw_ rw_)) (h:=?_)
        iterate 3 refine s1_ ?_
        refine dC (hc:=Calm.load ty_plain_46 rfl (rd_row (k:=j+1) own_ rw_ rw_)) (h:=?_)
        refine s1_ ?_
        refine draw_only rfl ?_
        refine ARun.storeRow enc (j+1) rfl rfl ty_size_46 (C.one _) own_ rw_ rw_ ?_
        try simp only [k_ms,k_sz,k_ss,k_za,Nat.reduceAdd]
        refine arun_nil ⟨fun h=>absurd h (by decide),?_⟩
        refine s1_ ?_
        refine draw_only rfl ?_
        refine ARun.storeRow enc (j) rfl rfl ty_size_46 (C.one _) own_ rw_ rw_ ?_
        try simp only [k_ms,k_sz,k_ss,k_za,Nat.reduceAdd]
        refine arun_nil ⟨fun h=>absurd h (by decide),?_⟩
        iterate 3 refine s1_ ?_
        refine k_v9 0 1 2 3 9 10 12 109 124 ?_
        iterate 6 refine s1_ ?_
        refine ⟨(j+1+1,swp d4 (j+1) j),?_,?_,?_,?_⟩
        all_goals (try dsimp only)
        ·exact ⟨sb_,sb_,sb_,sb_,sb_,sb_,sb_,trivial⟩
        ·exact Mem.Less.refl _
        ·exact ⟨by omega,by omega,R4.swp _ _ (by omega) (by omega),(su_go (lq cf) (j:=j+1) hj (by rw [Nat.add_sub_cancel];exact hl)).trans k3⟩
        ·omega
      ·iterate 8 refine s1_ ?_
       refine cF_ ?_
       iterate 4 refine s1_ ?_
       refine ⟨d4,?_,?_,?_⟩
       all_goals (try dsimp only)
       ·exact ⟨R4,by rw [if_pos hw,← k3,← su_end (lq cf) hj]⟩
       ·exact ⟨sb_,sb_,sb_,sb_,sb_,sb_,trivial⟩
       ·exact Mem.Less.refl _
     ·refine cF_ ?_
      refine s1_ ?_
      refine ⟨d3,?_,?_,?_⟩
      all_goals (try dsimp only)
      ·exact ⟨R3,by rw [if_neg hw]⟩
      ·exact ⟨sb_,sb_,sb_,sb_,sb_,sb_,trivial⟩
      ·exact Mem.Less.refl _
    rintro d4 ⟨R4,hd4⟩
    intro _ _ hs_ hl_
    (try dsimp only at *)
    refine ain_n ?_
    refine athen_n ?_
    refine AWP.sub _ hs_ (AWP.less _ hl_ ?_)
    clear hs_ hl_
    iterate 6 refine s1_ ?_
    refine ⟨(s,w+1,d4),?_,?_,?_,?_⟩
    all_goals (try dsimp only)
    ·exact ⟨sb_,sb_,sb_,sb_,sb_,sb_,trivial⟩
    ·exact Mem.Less.refl _
    ·exact ⟨by omega,by omega,by omega,R4,(pi_step (lq cf) hS (by omega) h50 hd2 hd3 hd4).trans h3⟩
    ·omega
 ·obtain rfl:s=0:=by omega
  iterate 7 refine s1_ ?_
  refine cF_ ?_
  iterate 11 refine s1_ ?_
  refine ⟨_,_,⟨_,_,rfl,rfl,rfl⟩,Mem.Less.refl _,?_⟩
  rw [← h3];exact ⟨rfl,rfl,R1⟩
end
section
open Go.RowKit
open Mv Srt
open Go.Sort (swp insInner insOuter insertionSort siftDown heapBuild heapPop heapSort scanUp scanDown partLoop partition partEqLoop partitionEqual scanSorted shiftDown shiftUp partialIns partialInsertionSort order2 median medianAdjacent choosePivot reverseLoop reverseRange breakStep breakPatterns pdq bitsLen xorNext Hint)
set_option maxRecDepth 4000
set_option maxHeartbeats 8000000 in
theorem soR_pdq {α : Type} [Inhabited α] {enc : α→Value} {cf : α → α→Int} {okP : α→Prop} {g:Nat} {cb:List Value} {S:Mem} (C:CmpC Tryz.prog enc cf okP g cb S) (b room n cap:Nat) (hb:Fresh S b) (hn:n≤1048576):∀ (m:Nat) (d:Array α) (R:Rw okP n d) (ia ie il:Int) (a e limit:Nat),ia=a→ie=e→il=limit→a≤e→e≤n→limit≤1000→e-a=m →
  ACall Tryz.prog 168 #[.slice (some ⟨b,0,none⟩) n cap,.int .i64 ia,.int .i64 ie,.int .i64 il,.func (.func g) #[] cb.toArray] (S.set b ⟨46,(d).toList.map enc,room⟩) fun r S'=>S'=S.set b ⟨46,(pdq (lq cf) d a e limit true true).toList.map enc,room⟩∧Rw okP n (pdq (lq cf) d a e limit true true):=by
 intro m
 induction m using Nat.strongRecOn with
 | _ m ih =>
 intro d R ia ie il a e limit ha he hl hae hen hlim hm
 subst ha he hl
 refine k_E5 (rs:=[]) 148 Tryz.func168 rfl rfl rfl ?_
 iterate 11 refine s1_ ?_
 refine AWP.loop (X:=Nat × Nat × Nat × Bool × Bool × Array α) (fun x=>[(0,.slice (some ⟨b,0,none⟩) n cap),(1,.int .i64 x.1),(2,.int .i64 x.2.1),(3,.int .i64 x.2.2.1),(4,.func (.func g) #[] cb.toArray),(10,.bool x.2.2.2.1),(11,.bool x.2.2.2.2.1)]) (fun x=>S.set b ⟨46,(x.2.2.2.2.2).toList.map enc,room⟩) (fun x=>x.1≤x.2.1∧x.2.1≤e∧Rw okP n x.2.2.2.2.2∧x.2.1-x.1≤m∧x.2.2.1≤limit∧pdq (lq cf) x.2.2.2.2.2 x.1 x.2.1 x.2.2.1 x.2.2.2.1 x.2.2.2.2.1=pdq (lq cf) d a e limit true true) (fun x=>x.2.1-x.1) ((a,e,limit,true,true,d)) ⟨sb_,sb_,sb_,sb_,sb_,sb_,sb_,trivial⟩ (Mem.Less.refl _) (⟨hae,Nat.le_refl _,R,by dsimp only;omega,Nat.le_refl _,rfl⟩) ?_
 rintro ⟨a1,e1,l1,w1,w2,d0⟩ ⟨h1,h2,R0,h4,h5,hq⟩
 (try dsimp only at *)
 have z0:=R0.size
 by_cases h12:e1-a1≤12
 ·iterate 9 refine s1_ ?_
  iterate 7 refine s1_ ?_
  refine cT_ ?_
  iterate 6 refine s1_ ?_
  refine ca_ rfl (soR_ins C b room n cap hb hn d0 R0 _ _ a1 e1 rfl rfl (by omega) (by omega)) ?_
  rintro _ _ ⟨rfl,R1⟩
  iterate 7 refine s1_ ?_
  refine ⟨_,_,rfl,Mem.Less.refl _,?_⟩
  rw [← hq,pdq_ins (lq cf) h12];exact ⟨rfl,R1⟩
 ·iterate 9 refine s1_ ?_
  iterate 7 refine s1_ ?_
  refine k_v9 0 1 2 3 4 10 11 12 25 ?_
  refine cF_ ?_
  by_cases hl0:l1=0
  ·iterate 9 refine s1_ ?_
   refine cT_ ?_
   iterate 6 refine s1_ ?_
   refine ca_ rfl (soR_heap C b room n cap hb hn d0 R0 _ _ a1 e1 rfl rfl (by omega) (by omega)) ?_
   rintro _ _ ⟨rfl,R1⟩
   iterate 7 refine s1_ ?_
   refine ⟨_,_,rfl,Mem.Less.refl _,?_⟩
   rw [← hq,pdq_heap (lq cf) h12 hl0];exact ⟨rfl,R1⟩
  ·iterate 9 refine s1_ ?_
   refine cF_ ?_
   rw [pdq_1 (lq cf) h12 hl0] at hq
   iterate 9 refine s1_ ?_
   refine AWP.join (X:=Nat × Array α) (fun x=>[(0,.slice (some ⟨b,0,none⟩) n cap),(1,.int .i64 a1),(2,.int .i64 e1),(3,.int .i64 x.1),(4,.func (.func g) #[] cb.toArray),(10,.bool w1),(11,.bool w2),(12,.int .i64 ((e1-a1:Nat):Int))]) (fun x=>S.set b ⟨46,(x.2).toList.map enc,room⟩) (fun x=>x.1≤l1∧Rw okP n x.2∧pdq1 (lq cf) x.2 a1 e1 x.1 w1 w2=pdq (lq cf) d a e limit true true) ?_ ?_
   ·cases w1
    ·refine cT_ ?_
     iterate 6 refine s1_ ?_
     refine ca_ rfl (soR_brk C b room n cap hb hn d0 R0 _ _ a1 e1 rfl rfl (by omega) (by omega)) ?_
     rintro _ _ ⟨rfl,R1⟩
     iterate 2 refine s1_ ?_
     refine k_v11 0 1 2 3 4 10 11 12 25 32 39 ?_
     iterate 5 refine s1_ ?_
     refine ⟨(l1-1,breakPatterns d0 a1 e1),?_,?_,?_⟩
     all_goals (try dsimp only)
     ·exact ⟨by omega,R1,hq⟩
     ·exact ⟨sb_,sb_,sb_,sb_,sb_,sb_,sb_,sb_,trivial⟩
     ·exact Mem.Less.refl _
    ·refine cF_ ?_
     refine s1_ ?_
     refine ⟨(l1,d0),?_,?_,?_⟩
     all_goals (try dsimp only)
     ·exact ⟨Nat.le_refl _,R0,hq⟩
     ·exact ⟨sb_,sb_,sb_,sb_,sb_,sb_,sb_,sb_,trivial⟩
     ·exact Mem.Less.refl _
   rintro ⟨l2,d1⟩ ⟨k1,R1,hq⟩
   intro _ _ hs_ hl_
   (try dsimp only at *)
   refine athen_n ?_
   refine AWP.sub _ hs_ (AWP.less _ hl_ ?_)
   clear hs_ hl_
   have z1:=R1.size
   obtain ⟨⟨p0,ht⟩,hpc⟩ : ∃ q,q=choosePivot (lq cf) d1 a1 e1:=⟨_,rfl⟩
   iterate 6 refine s1_ ?_
   refine ca_ rfl ((hpc ▸ soR_pivot C b room n cap hb hn d1 R1 _ _ a1 e1 rfl rfl (by omega) (by omega))) ?_
   rintro _ _ ⟨rfl,rfl,g1,g2⟩
   dsimp only at g1 g2
   rw [pdq1,← hpc] at hq
   dsimp only at hq
   iterate 14 refine s1_ ?_
   refine AWP.join (X:=Nat × Hint × Array α) (fun x=>[(0,.slice (some ⟨b,0,none⟩) n cap),(1,.int .i64 a1),(2,.int .i64 e1),(3,.int .i64 l2),(4,.func (.func g) #[] cb.toArray),(10,.bool w1),(11,.bool w2),(12,.int .i64 ((e1-a1:Nat):Int)),(13,.int .i64 x.1),(14,.int .i64 (hintI x.2.1))]) (fun x=>S.set b ⟨46,(x.2.2).toList.map enc,room⟩) (fun x=>a1≤x.1∧x.1<e1∧Rw okP n x.2.2∧pdq2 (lq cf) x.2.2 a1 e1 l2 w1 w2 x.1 x.2.1=pdq (lq cf) d a e limit true true) ?_ ?_
   ·by_cases hde:ht = .decreasing
    ·subst hde
     refine cT_ ?_
     iterate 6 refine s1_ ?_
     refine ca_ rfl (soR_rev C b room n cap hb hn d1 R1 _ _ a1 e1 rfl rfl (by omega) (by omega)) ?_
     rintro _ _ ⟨rfl,R2⟩
     iterate 16 refine s1_ ?_
     refine ⟨(e1-1-(p0-a1),.increasing,reverseRange d1 a1 e1),?_,?_,?_⟩
     all_goals (try dsimp only)
     ·exact ⟨by omega,by omega,R2,by rw [if_pos rfl] at hq;exact hq⟩
     ·exact ⟨sb_,sb_,sb_,sb_,sb_,sb_,sb_,sb_,sb_,sb_,trivial⟩
     ·exact Mem.Less.refl _
    ·have hni:=hint_ne hde
     refine cF_ ?_
     refine s1_ ?_
     refine ⟨(p0,ht,d1),?_,?_,?_⟩
     all_goals (try dsimp only)
     ·exact ⟨g1,g2,R1,by rw [if_neg hde] at hq;exact hq⟩
     ·exact ⟨sb_,sb_,sb_,sb_,sb_,sb_,sb_,sb_,sb_,sb_,trivial⟩
     ·exact Mem.Less.refl _
   rintro ⟨pv,hi,d2⟩ ⟨g1,g2,R2,hq⟩
   intro _ _ hs_ hl_
   (try dsimp only at *)
   refine athen_n ?_
   refine AWP.sub _ hs_ (AWP.less _ hl_ ?_)
   clear hs_ hl_
   have z2:=R2.size
   have hh1:=hint_1 hi
   iterate 2 refine s1_ ?_
   refine AWP.join (X:=Bool) (fun x=>[(0,.slice (some ⟨b,0,none⟩) n cap),(1,.int .i64 a1),(2,.int .i64 e1),(3,.int .i64 l2),(4,.func (.func g) #[] cb.toArray),(10,.bool w1),(11,.bool w2),(12,.int .i64 ((e1-a1:Nat):Int)),(13,.int .i64 pv),(75,.bool x)]) (fun x=>S.set b ⟨46,(d2).toList.map enc,room⟩) (fun x=>x=(w1 && w2 && decide (hi = .increasing))) ?_ ?_
   ·cases w1
    ·iterate 10 refine s1_ ?_
     refine ⟨false,?_,?_,?_⟩
     all_goals (try dsimp only)
     ·rfl
     ·exact ⟨sb_,sb_,sb_,sb_,sb_,sb_,sb_,sb_,sb_,sb_,trivial⟩
     ·exact Mem.Less.refl _
    ·cases w2
     ·iterate 10 refine s1_ ?_
      refine ⟨false,?_,?_,?_⟩
      all_goals (try dsimp only)
      ·rfl
      ·exact ⟨sb_,sb_,sb_,sb_,sb_,sb_,sb_,sb_,sb_,sb_,trivial⟩
      ·exact Mem.Less.refl _
     ·iterate 7 refine s1_ ?_
      first|refine k_q 72 ?_|refine rG 72 (Calm.bin rfl rfl (bin_bool (bin_eql _ _) hh1)) ?_
      iterate 2 refine s1_ ?_
      refine ⟨(decide (hi = .increasing)),?_,?_,?_⟩
      all_goals (try dsimp only)
      ·simp
      ·exact ⟨sb_,sb_,sb_,sb_,sb_,sb_,sb_,sb_,sb_,sb_,trivial⟩
      ·exact Mem.Less.refl _
   rintro x hx
   intro _ _ hs_ hl_
   (try dsimp only at *)
   refine athen_n ?_
   refine AWP.sub _ hs_ (AWP.less _ hl_ ?_)
   clear hs_ hl_
   rw [pdq2,← hx] at hq
   refine AWP.join (X:=Array α) (fun x=>[(0,.slice (some ⟨b,0,none⟩) n cap),(1,.int .i64 a1),(2,.int .i64 e1),(3,.int .i64 l2),(4,.func (.func g) #[] cb.toArray),(10,.bool w1),(11,.bool w2),(12,.int .i64 ((e1-a1:Nat):Int)),(13,.int .i64 pv)]) (fun x=>S.set b ⟨46,(x).toList.map enc,room⟩) (fun x=>Rw okP n x∧pdq3 (lq cf) x a1 e1 l2 w1 w2 pv=pdq (lq cf) d a e limit true true) ?_ ?_
   ·cases x
    ·refine cF_ ?_
     refine s1_ ?_
     refine ⟨d2,?_,?_,?_⟩
     all_goals (try dsimp only)
     ·exact ⟨R2,hq⟩
     ·exact ⟨sb_,sb_,sb_,sb_,sb_,sb_,sb_,sb_,sb_,trivial⟩
     ·exact Mem.Less.refl _
    ·refine cT_ ?_
     obtain ⟨⟨d3,pb⟩,hp3⟩ : ∃ q,q=partialInsertionSort (lq cf) d2 a1 e1:=⟨_,rfl⟩
     rw [if_pos rfl,← hp3] at hq
     dsimp only at hq
     iterate 6 refine s1_ ?_
     refine ca_ rfl ((hp3 ▸ soR_pins C b room n cap hb hn d2 R2 _ _ a1 e1 rfl rfl (by omega) (by omega))) ?_
     rintro _ _ ⟨rfl,rfl,R3⟩
     iterate 2 refine s1_ ?_
     refine k_v11 0 1 2 3 4 10 11 12 13 75 80 ?_
     cases pb
     ·refine cF_ ?_
      refine s1_ ?_
      refine ⟨d3,?_,?_,?_⟩
      all_goals (try dsimp only)
      ·exact ⟨R3,hq⟩
      ·exact ⟨sb_,sb_,sb_,sb_,sb_,sb_,sb_,sb_,sb_,trivial⟩
      ·exact Mem.Less.refl _
     ·refine cT_ ?_
      iterate 6 refine s1_ ?_
      refine ⟨_,_,rfl,Mem.Less.refl _,?_⟩
      rw [← hq];exact ⟨rfl,R3⟩
   rintro d3 ⟨R3,hq⟩
   intro _ _ hs_ hl_
   (try dsimp only at *)
   refine athen_n ?_
   refine AWP.sub _ hs_ (AWP.less _ hl_ ?_)
   clear hs_ hl_
   clear hx
   have z3:=R3.size
   iterate 2 refine s1_ ?_
   refine AWP.join (X:=Bool) (fun x=>[(0,.slice (some ⟨b,0,none⟩) n cap),(1,.int .i64 a1),(2,.int .i64 e1),(3,.int .i64 l2),(4,.func (.func g) #[] cb.toArray),(10,.bool w1),(11,.bool w2),(12,.int .i64 ((e1-a1:Nat):Int)),(13,.int .i64 pv),(97,.bool x)]) (fun x=>S.set b ⟨46,(d3).toList.map enc,room⟩) (fun x=>x=(decide (a1 > 0) && !(lq cf) d3[a1-1]! d3[pv]!)) ?_ ?_
   ·by_cases h0:0<a1
    ·refine AWP.draw [(0,true),(1,true),(2,true),(3,true),(4,true),(5,true),(6,true),(7,true),(8,true),(9,true),(10,true),(11,true),(12,true),(13,false),(14,true),(15,true),(16,true)] [] mixed (by kernel_rfl) ?_
     iterate 8 refine s1_ ?_
     first|refine k_d ?_|refine dL (hc:=Calm.load ty_plain_46 rfl (rd_row (k:=a1-1) own_ rw_ rw_)) (h:=?_)
     iterate 3 refine s1_ ?_
     first|refine k_d ?_|refine dL (hc:=Calm.load ty_plain_46 rfl (rd_row (k:=pv) own_ rw_ rw_)) (h:=?_)
     refine draw_only rfl ?_
     refine rUn 83 ?_
     refine ARun.callV (first:=[]) (cap:=cb) (lit_lt rfl) C.go rfl rfl (C.call less_ (R3.ok (a1-1) rw_) (R3.ok (pv) rw_)) ?_
     rintro _ _ ⟨rfl,rfl⟩
     refine arun_nil ⟨fun _=>less_,?_⟩
     iterate 4 refine s1_ ?_
     refine ⟨(!(lq cf) d3[a1-1]! d3[pv]!),?_,?_,?_⟩
     all_goals (try dsimp only)
     ·rw [decide_eq_true h0];rfl
     ·exact ⟨sb_,sb_,sb_,sb_,sb_,sb_,sb_,sb_,sb_,sb_,trivial⟩
     ·exact Mem.Less.refl _
    ·refine AWP.draw [(0,true),(1,true),(2,true),(3,true),(4,true),(5,true),(6,true),(7,true),(8,true),(9,true),(10,true),(11,true),(12,true),(13,false),(14,true),(15,true),(16,true)] [] mixed (by kernel_rfl) ?_
     iterate 8 refine s1_ ?_
     first|refine k_d ?_|refine dL (hc:=Calm.load ty_plain_46 rfl (rd_row (k:=a1-1) own_ rw_ rw_)) (h:=?_)
     iterate 3 refine s1_ ?_
     first|refine k_d ?_|refine dL (hc:=Calm.load ty_plain_46 rfl (rd_row (k:=pv) own_ rw_ rw_)) (h:=?_)
     refine draw_only rfl ?_
     refine s1_ ?_
     refine arun_nil ⟨fun _=>less_,?_⟩
     iterate 4 refine s1_ ?_
     refine ⟨false,?_,?_,?_⟩
     all_goals (try dsimp only)
     ·rw [decide_eq_false h0];rfl
     ·exact ⟨sb_,sb_,sb_,sb_,sb_,sb_,sb_,sb_,sb_,sb_,trivial⟩
     ·exact Mem.Less.refl _
   rintro x hx
   intro _ _ hs_ hl_
   (try dsimp only at *)
   refine athen_n ?_
   refine AWP.sub _ hs_ (AWP.less _ hl_ ?_)
   clear hs_ hl_
   rw [pdq3,← hx] at hq
   cases x
   ·refine cF_ ?_
    obtain ⟨⟨md,ap,d4⟩,hp4⟩ : ∃ q,q=partition (lq cf) d3 a1 e1 pv:=⟨_,rfl⟩
    rw [if_neg Bool.false_ne_true,← hp4] at hq
    dsimp only at hq
    iterate 9 refine s1_ ?_
    refine ca_ rfl ((hp4 ▸ soR_part C b room n cap hb hn d3 R3 _ _ _ a1 e1 pv rfl rfl rfl (by omega) (by omega) (by omega))) ?_
    rintro _ _ ⟨rfl,rfl,R4,g3,g4⟩
    dsimp only at R4 g3 g4
    rw [if_pos ⟨g3,g4⟩] at hq
    iterate 7 refine s1_ ?_
    by_cases hmd:md-a1<e1-md
    ·rw [if_pos hmd] at hq
     iterate 32 refine s1_ ?_
     refine k_v16 0 1 2 3 4 10 11 12 13 97 16 17 18 19 20 125 ?_
     refine cT_ ?_
     iterate 15 refine s1_ ?_
     refine ca_ rfl (ih (md-a1) (by omega) d4 R4 _ _ _ a1 md l2 rfl rfl rfl (by omega) (by omega) (by omega) rfl) ?_
     rintro _ _ ⟨rfl,R5⟩
     iterate 9 refine s1_ ?_
     refine ⟨(md+1,e1,l2,decide (md-a1 ≥ (e1-a1) / 8),ap,pdq (lq cf) d4 a1 md l2 true true),?_,?_,?_,?_⟩
     all_goals (try dsimp only)
     ·exact ⟨sb_,sb_,sb_,sb_,sb_,wbv_ (by omega),sb_,trivial⟩
     ·exact Mem.Less.refl _
     ·exact ⟨by omega,by omega,R5,by omega,by omega,hq⟩
     ·omega
    ·rw [if_neg hmd] at hq
     iterate 25 refine s1_ ?_
     refine k_v15 0 1 2 3 4 10 11 12 13 97 16 17 18 19 20 ?_
     iterate 7 refine s1_ ?_
     refine cF_ ?_
     iterate 16 refine s1_ ?_
     refine ca_ rfl (ih (e1-(md+1)) (by omega) d4 R4 _ _ _ (md+1) e1 l2 om_ rfl rfl (by omega) (by omega) (by omega) rfl) ?_
     rintro _ _ ⟨rfl,R5⟩
     iterate 8 refine s1_ ?_
     refine ⟨(a1,md,l2,decide (e1-md ≥ (e1-a1) / 8),ap,pdq (lq cf) d4 (md+1) e1 l2 true true),?_,?_,?_,?_⟩
     all_goals (try dsimp only)
     ·exact ⟨sb_,sb_,sb_,sb_,sb_,wbv_ (by omega),sb_,trivial⟩
     ·exact Mem.Less.refl _
     ·exact ⟨by omega,by omega,R5,by omega,by omega,hq⟩
     ·omega
   ·refine cT_ ?_
    obtain ⟨⟨md,d4⟩,hp4⟩ : ∃ q,q=partitionEqual (lq cf) d3 a1 e1 pv:=⟨_,rfl⟩
    rw [if_pos rfl,← hp4] at hq
    dsimp only at hq
    iterate 7 refine s1_ ?_
    refine ca_ rfl ((hp4 ▸ soR_parteq C b room n cap hb hn d3 R3 _ _ _ a1 e1 pv rfl rfl rfl (by omega) (by omega) (by omega))) ?_
    rintro _ _ ⟨rfl,rfl,R4,g3,g4⟩
    dsimp only at R4 g3 g4
    rw [if_pos ⟨g3,g4⟩] at hq
    iterate 9 refine s1_ ?_
    refine k_v11 0 1 2 3 4 10 11 12 13 97 15 ?_
    iterate 4 refine s1_ ?_
    refine ⟨(md,e1,l2,w1,w2,d4),?_,?_,?_,?_⟩
    all_goals (try dsimp only)
    ·exact ⟨sb_,sb_,sb_,sb_,sb_,sb_,sb_,trivial⟩
    ·exact Mem.Less.refl _
    ·exact ⟨by omega,by omega,R4,by omega,by omega,hq⟩
    ·omega
set_option maxHeartbeats 1000000 in
theorem soR_sort {α : Type} [Inhabited α] {enc : α→Value} {cf : α → α→Int} {okP : α→Prop} {g:Nat} {cb:List Value} {S:Mem} (C:CmpC Tryz.prog enc cf okP g cb S) (b room n cap:Nat) (hb:Fresh S b) (hn:n≤1048576) (d:Array α) (R:Rw okP n d) :
  ACall Tryz.prog 131 #[.slice (some ⟨b,0,none⟩) n cap,.func (.func g) #[] cb.toArray] (S.set b ⟨46,(d).toList.map enc,room⟩) fun r S'=>S'=S.set b ⟨46,(pdq (lq cf) d 0 n (bitsLen n) true true).toList.map enc,room⟩∧Rw okP n (pdq (lq cf) d 0 n (bitsLen n) true true):=by
 have hbl:=bitsLen_small n hn
 refine k_E2 (rs:=[]) 14 Tryz.func131 rfl rfl rfl ?_
 iterate 12 refine s1_ ?_
 refine ca_ rfl (so_Len n (by omega) _) ?_
 rintro _ _ ⟨rfl,rfl⟩
 refine s1_ ?_
 refine ca_ rfl (soR_pdq C b room n cap hb hn (n-0) d R _ _ _ 0 n (bitsLen n) rfl rfl rfl (Nat.zero_le _) (Nat.le_refl _) (by omega) rfl) ?_
 rintro _ _ ⟨rfl,R1⟩
 refine s1_ ?_
 refine ⟨_,_,rfl,Mem.Less.refl _,?_⟩
 exact ⟨rfl,R1⟩
end
section
namespace Loser
open Num
def kLess (x y:List Nat):Bool:=match x,y with
  | [],_=>false
  | _ :: _,[]=>true
  | x,y=>lessB x y
theorem lessB_trans (a b c:List Nat) (h1:lessB a b=true) (h2:lessB b c=true):lessB a c=true:=by
 induction a generalizing b c with
 | nil=>cases b with
  | nil=>simp [lessB] at h1
  | cons y b=>cases c with
   | nil=>simp [lessB] at h2
   | cons z c=>rfl
 | cons x a ih =>
  cases b with
  | nil=>simp [lessB] at h1
  | cons y b =>
   cases c with
   | nil=>simp [lessB] at h2
   | cons z c =>
    simp only [lessB,Bool.or_eq_true,decide_eq_true_eq,Bool.and_eq_true] at h1 h2 ⊢
    rcases h1 with h1 | ⟨h1,h1'⟩ <;> rcases h2 with h2 | ⟨h2,h2'⟩
    ·left;omega
    ·left;omega
    ·left;omega
    ·right;exact ⟨by omega,ih b c h1' h2'⟩
theorem kLess_irrefl (x:List Nat):kLess x x=false:=by cases x with
 | nil=>rfl
 | cons a x=>exact lessB_irrefl _
theorem kLess_trans (x y z:List Nat) (h1:kLess x y=true) (h2:kLess y z=true):kLess x z=true:=by
 cases x with
 | nil=>simp [kLess] at h1
 | cons a x=>cases y with
  | nil=>simp [kLess] at h2
  | cons b y=>cases z with
   | nil=>rfl
   | cons c z=>exact lessB_trans _ _ _ h1 h2
theorem kLess_total (x y:List Nat) (h1:kLess x y=false) (h2:kLess y x=false):x=y:=by
 cases x with
 | nil=>cases y with
  | nil=>rfl
  | cons b y=>simp [kLess] at h2
 | cons a x=>cases y with
  | nil=>simp [kLess] at h1
  | cons b y=>exact lessB_total _ _ h1 h2
def key (ks:List (List Nat)) (a:Nat):List Nat:=ks.getD a []
def beatsP (ks:List (List Nat)) (a b:Nat):Bool:=kLess (key ks a) (key ks b) || (decide (key ks a=key ks b) && decide (a<b))
theorem beats_irrefl (ks:List (List Nat)) (a:Nat):beatsP ks a a=false:=by simp [beatsP,kLess_irrefl]
theorem beats_trans (ks:List (List Nat)) (a b c:Nat) (h1:beatsP ks a b=true) (h2:beatsP ks b c=true):beatsP ks a c=true:=by
 simp only [beatsP,Bool.or_eq_true,Bool.and_eq_true,decide_eq_true_eq] at h1 h2 ⊢
 rcases h1 with h1 | ⟨h1,h1'⟩ <;> rcases h2 with h2 | ⟨h2,h2'⟩
 ·exact .inl (kLess_trans _ _ _ h1 h2)
 ·left;rw [← h2];exact h1
 ·left;rw [h1];exact h2
 ·right;exact ⟨h1.trans h2,by omega⟩
theorem beats_asymm (ks:List (List Nat)) (a b:Nat) (h1:beatsP ks a b=true):beatsP ks b a=false:=by
 cases h:beatsP ks b a with
 | false=>rfl
 | true=>have:=beats_trans ks a b a h1 h;rw [beats_irrefl] at this;cases this
theorem beats_total (ks:List (List Nat)) (a b:Nat) (hne:a≠b):beatsP ks a b=true∨beatsP ks b a=true:=by
 simp only [beatsP,Bool.or_eq_true,Bool.and_eq_true,decide_eq_true_eq]
 cases h1:kLess (key ks a) (key ks b) with
 | true=>simp
 | false =>
  cases h2:kLess (key ks b) (key ks a) with
  | true=>simp
  | false =>
   have:=kLess_total _ _ h1 h2
   rw [this];simp;omega
theorem beats_not (ks:List (List Nat)) (a b:Nat) (hne:a≠b):beatsP ks a b = !beatsP ks b a:=by
 rcases beats_total ks a b hne with h | h
 ·rw [h,beats_asymm ks a b h];rfl
 ·rw [h,beats_asymm ks b a h];rfl
def winF (ks:List (List Nat)):Nat→Nat→Nat
  | 0,n=>n-ks.length
  | f+1,n=>if ks.length≤n then n-ks.length else
    if beatsP ks (winF ks f (2*n+1)) (winF ks f (2*n)) then winF ks f (2*n+1) else winF ks f (2*n)
theorem winF_more (ks:List (List Nat)) (f g n:Nat) (hn:1≤n) (hf:ks.length≤f+n) (hg:ks.length≤g+n):winF ks f n=winF ks g n:=by
 induction f generalizing g n with
 | zero=>cases g with
  | zero=>rfl
  | succ g=>rw [winF,winF,if_pos (by omega)]
 | succ f ih=>cases g with
  | zero=>rw [winF,winF,if_pos (by omega)]
  | succ g =>
   rw [winF,winF]
   split
   ·rfl
   ·rw [ih g (2*n) (by omega) (by omega) (by omega),ih g (2*n+1) (by omega) (by omega) (by omega)]
def win (ks:List (List Nat)) (n:Nat):Nat:=winF ks ks.length n
def los (ks:List (List Nat)) (n:Nat):Nat:=if beatsP ks (win ks (2*n+1)) (win ks (2*n)) then win ks (2*n) else win ks (2*n+1)
theorem win_leaf (ks:List (List Nat)) (n:Nat) (h:ks.length≤n):win ks n=n-ks.length:=by
 have:∀ f,winF ks f n=n-ks.length:=fun f=>by
  cases f with
  | zero=>rfl
  | succ f=>rw [winF,if_pos h]
 exact this _
theorem win_node (ks:List (List Nat)) (n:Nat) (hn:1≤n) (h:n<ks.length):win ks n=if beatsP ks (win ks (2*n+1)) (win ks (2*n)) then win ks (2*n+1) else win ks (2*n):=by
 unfold win
 obtain ⟨f,hf⟩ : ∃ f,ks.length=f+1:=⟨ks.length-1,by omega⟩
 conv=>lhs;rw [hf,winF]
 rw [if_neg (by omega),winF_more ks f ks.length (2*n) (by omega) (by omega) (by omega),winF_more ks f ks.length (2*n+1) (by omega) (by omega) (by omega)]
def under (k n i:Nat):Prop:=∃ j,(k+i) / 2 ^ j=n
theorem div_pow_succ (x j:Nat):x / 2 ^ (j+1)=x / 2 ^ j / 2:=by rw [Nat.pow_succ,Nat.div_div_eq_div_mul]
theorem under_leaf {k n i:Nat} (hi:i<k) (hn:k≤n):under k n i ↔ n=k+i:=by
 constructor
 ·rintro ⟨j,h⟩
  cases j with
  | zero=>simpa using h.symm
  | succ j =>
   have h1:(k+i) / 2 ^ (j+1)≤(k+i) / 2:=by
    rw [Nat.pow_succ,Nat.mul_comm,← Nat.div_div_eq_div_mul];exact Nat.div_le_self _ _
   omega
 ·rintro rfl;exact ⟨0,by simp⟩
theorem under_node {k n i:Nat} (hn:n<k):under k n i ↔ under k (2*n) i∨under k (2*n+1) i:=by
 constructor
 ·rintro ⟨j,h⟩
  cases j with
  | zero=>simp at h;omega
  | succ j =>
   rw [div_pow_succ] at h
   have:(k+i) / 2 ^ j=2*n∨(k+i) / 2 ^ j=2*n+1:=by omega
   rcases this with h | h
   ·exact .inl ⟨j,h⟩
   ·exact .inr ⟨j,h⟩
 ·rintro (⟨j,h⟩ | ⟨j,h⟩) <;> exact ⟨j+1,by rw [div_pow_succ,h];omega⟩
theorem under_order {k a b i:Nat} (ha:under k a i) (hb:under k b i) (h:b<a):b≤a / 2:=by
 obtain ⟨j,rfl⟩:=ha
 obtain ⟨j',rfl⟩:=hb
 have hlt:j<j':=by
  rcases Nat.lt_or_ge j j' with h' | h'
  ·exact h'
  ·exfalso
   have:=Nat.div_le_div_left (Nat.pow_le_pow_right (by decide) h':2 ^ j'≤2 ^ j) (Nat.pow_pos (by decide:0<2)) (a:=k+i)
   omega
 obtain ⟨d,rfl⟩ : ∃ d,j'=j+1+d:=⟨j'-j-1,by omega⟩
 rw [Nat.pow_add,← Nat.div_div_eq_div_mul,div_pow_succ]
 exact Nat.div_le_self _ _
theorem under_apart {k n i:Nat} (hn:1≤n) (h1:under k (2*n) i) (h2:under k (2*n+1) i):False:=by
 have:=under_order h2 h1 (by omega);omega
theorem under_top {k i:Nat} (hi:i<k):under k 1 i:=by
 have:∀ x,1≤x → ∃ j,x / 2 ^ j=1:=by
  intro x
  induction x using Nat.strongRecOn with
  | _ x ih =>
   intro hx
   by_cases h:x=1
   ·exact ⟨0,by simpa using h⟩
   ·obtain ⟨j,hj⟩:=ih (x / 2) (by omega) (by omega)
    exact ⟨j+1,by rw [Nat.pow_succ,Nat.mul_comm,← Nat.div_div_eq_div_mul];exact hj⟩
 exact this (k+i) (by omega)
theorem win_spec (ks:List (List Nat)):∀ (d n:Nat),2*ks.length≤d+n→1≤n→n<2*ks.length→win ks n<ks.length∧under ks.length n (win ks n) ∧ ∀ i,i<ks.length→under ks.length n i→i≠win ks n→beatsP ks (win ks n) i=true:=by
 intro d
 induction d with
 | zero=>intro n h _ h2;omega
 | succ d ih =>
  intro n hd hn h2
  by_cases hk:ks.length≤n
  ·rw [win_leaf ks n hk]
   refine ⟨by omega,(under_leaf (by omega) hk).2 (by omega),fun i hi hu hne=>?_⟩
   have:=(under_leaf hi hk).1 hu;omega
  ·have hk':n<ks.length:=by omega
   obtain ⟨a1,a2,a3⟩:=ih (2*n) (by omega) (by omega) (by omega)
   obtain ⟨b1,b2,b3⟩:=ih (2*n+1) (by omega) (by omega) (by omega)
   have hab:win ks (2*n+1)≠win ks (2*n):=fun e=>under_apart hn a2 (e ▸ b2)
   rw [win_node ks n hn hk']
   split
   ·rename_i hb
    refine ⟨b1,(under_node hk').2 (.inr b2),fun i hi hu hne=>?_⟩
    rcases (under_node hk').1 hu with hu | hu
    ·by_cases e:i=win ks (2*n)
     ·subst e;exact hb
     ·exact beats_trans _ _ _ _ hb (a3 i hi hu e)
    ·exact b3 i hi hu hne
   ·rename_i hb
    have hb':beatsP ks (win ks (2*n)) (win ks (2*n+1))=true:=by rw [beats_not ks _ _ (Ne.symm hab)];simpa using hb
    refine ⟨a1,(under_node hk').2 (.inl a2),fun i hi hu hne=>?_⟩
    rcases (under_node hk').1 hu with hu | hu
    ·exact a3 i hi hu hne
    ·by_cases e:i=win ks (2*n+1)
     ·subst e;exact hb'
     ·exact beats_trans _ _ _ _ hb' (b3 i hi hu e)
theorem win_lt {ks:List (List Nat)} {n:Nat} (hn:1≤n) (h:n<2*ks.length):win ks n<ks.length:=(win_spec ks (2*ks.length) n (by omega) hn h).1
theorem win_under {ks:List (List Nat)} {n:Nat} (hn:1≤n) (h:n<2*ks.length):under ks.length n (win ks n):=(win_spec ks (2*ks.length) n (by omega) hn h).2.1
theorem win_beats {ks:List (List Nat)} {n i:Nat} (hn:1≤n) (h:n<2*ks.length) (hi:i<ks.length) (hu:under ks.length n i) (hne:i≠win ks n):beatsP ks (win ks n) i=true:=(win_spec ks (2*ks.length) n (by omega) hn h).2.2 i hi hu hne
theorem win_ne {ks:List (List Nat)} {n:Nat} (hn:1≤n) (h:n<ks.length):win ks (2*n+1)≠win ks (2*n):=fun e=>under_apart hn (win_under (by omega) (by omega)) (e ▸ win_under (n:=2*n+1) (by omega) (by omega))
theorem win_only {ks:List (List Nat)} {n w:Nat} (hn:1≤n) (h:n<2*ks.length) (hw:w<ks.length) (hu:under ks.length n w) (hb:∀ i,i<ks.length→under ks.length n i→i≠w→beatsP ks w i=true):win ks n=w:=by
 by_cases e:w=win ks n
 ·exact e.symm
 ·have h1:=win_beats hn h hw hu e
  have h2:=hb (win ks n) (win_lt hn h) (win_under hn h) (Ne.symm e)
  rw [beats_asymm _ _ _ h1] at h2;cases h2
def treeOf (ks:List (List Nat)):List Int:=(List.range ks.length).map fun n=>if n=0 then (win ks 1:Int) else (los ks n:Int)
theorem treeOf_length (ks:List (List Nat)):(treeOf ks).length=ks.length:=by simp [treeOf]
end Loser
end
section
open Go.RowKit
open Mv Disk Num Srt Loser
set_option maxRecDepth 4000
namespace Sto
structure RowV where
  p:Option Addr
  n:Nat
  c:Nat
  l:List Nat
instance : Inhabited RowV := ⟨⟨none, 0, 0, []⟩⟩
def RowV.v (z:RowV):Value:=.slice z.p z.n z.c
def cfR (x y:RowV):Int:=cmpB x.l y.l
theorem lq_cfR (x y:RowV):lq cfR x y=lessB x.l y.l:=cmpB_lt x.l y.l
theorem lessB_neg' (a b c:List Nat) (h1:lessB a b=false) (h2:lessB b c=false):lessB a c=false:=by
 cases e:lessB a c with
 | false=>rfl
 | true =>
  exfalso
  cases e1:lessB b a with
  | true =>
   have:=lessB_trans _ _ _ e1 e
   rw [h2] at this;cases this
  | false =>
   have:=lessB_total _ _ h1 e1
   subst this
   rw [h2] at e;cases e
theorem swoR:Go.Sort.SWO (lq cfR) :=
 ⟨fun a=>by rw [lq_cfR];exact lessB_irrefl _,fun a b c h1 h2=>by rw [lq_cfR] at *;exact lessB_trans _ _ _ h1 h2,fun a b c h1 h2=>by rw [lq_cfR] at *;exact lessB_neg' _ _ _ h1 h2⟩
def SortedR (l:List (List Nat)):Prop:=l.Pairwise fun a b=>lessB b a=false
theorem sort_rows (L:List RowV) {L':List RowV} (h:L'=(Go.Sort.pdq (lq cfR) L.toArray 0 L.length (Go.Sort.bitsLen L.length) true true).toList):L'.Perm L∧SortedR (L'.map (·.l)):=by
 obtain ⟨p1,p2⟩:=Go.Sort.pdq_sorts _ swoR L.toArray 0 L.length (Go.Sort.bitsLen L.length) true true (Nat.zero_le _) (by simp) (Or.inl rfl)
 generalize Go.Sort.pdq (lq cfR) L.toArray 0 L.length (Go.Sort.bitsLen L.length) true true=d at *
 subst h
 have hs:d.size=L.length:=by rw [p1.1];simp
 refine ⟨?_,?_⟩
 ·have:=p1.2.2
  rw [show d.extract 0 L.length=d by rw [← hs];simp,show L.toArray.extract 0 L.length=L.toArray by simp] at this
  simpa using this
 ·unfold SortedR
  rw [List.pairwise_map,List.pairwise_iff_getElem]
  intro i j hi hj hij
  have hi':i<d.size:=by simpa using hi
  have hj':j<d.size:=by simpa using hj
  have:=p2 i j (Nat.zero_le _) hij (by omega)
  rw [lq_cfR,getElem!_pos d j hj',getElem!_pos d i hi'] at this
  simpa using this
theorem rowVs {R:Mem}:∀ (hs:List Value) (rows:List (List Nat)),hs.length=rows.length→(∀ i (h:i<hs.length),RowR R hs[i] (rows.getD i [])) → ∃ L:List RowV,L.map RowV.v=hs∧L.map (·.l)=rows ∧ ∀ z ∈ L,RowR R z.v z.l
 | [],[],_,_=>⟨[],rfl,rfl,fun z h=>by cases h⟩
 | [],_ :: _,h,_=>by simp at h
 | _ :: _,[],h,_=>by simp at h
 | v :: hs,r :: rows,h,g=>by
  obtain ⟨L,h1,h2,h3⟩:=rowVs hs rows (by simpa using h) (fun i hi=>by have:=g (i+1) (by simpa using hi);simpa using this)
  have hv:RowR R v r:=g 0 (Nat.succ_pos _)
  obtain ⟨p,c,e,_⟩:=id hv
  refine ⟨⟨p,r.length,c,r⟩ :: L,by rw [List.map_cons,h1,e];rfl,by rw [List.map_cons,h2],fun z hz=>?_⟩
  rcases List.mem_cons.1 hz with rfl | hz
  ·show RowR R (.slice p r.length c) r;rw [← e];exact hv
  ·exact h3 z hz
theorem run_less (x y:RowV) (S:Mem) (hx:RowR S x.v x.l) (hy:RowR S y.v y.l):ACall Tryz.prog 132 #[x.v,y.v] S fun r S'=>r = .int .i64 (cfR x y)∧S'=S:=by
 have h:=numV_Compare x.l y.l x.v y.v S hx hy
 unfold RowV.v at *
 refine k_E2 (rs:=[.tmp 4]) 8 Tryz.func132 rfl rfl rfl ?_
 iterate 9 refine s1_ ?_
 refine ca_ rfl (h) ?_
 rintro _ S1 ⟨rfl,h1⟩
 rw [h1];clear h1 S1
 iterate 4 refine s1_ ?_
 refine ⟨_,S,⟨_,_,rfl,rfl,rfl⟩,less_,?_⟩
 exact ⟨rfl,rfl⟩
theorem cmpR (S:Mem):CmpC Tryz.prog RowV.v cfR (fun z=>RowR S z.v z.l) 132 [] S where
 one:=fun x=>⟨rfl,rfl⟩
 go:=by kernel_rfl
 cmp:=fun x y hx hy=>run_less x y S hx hy
theorem Sealed.of {S:Mem} {a p b c q:Nat} {r r':Wt} {x y z:Pl} {n B w ct:Nat} {L L':List UInt8} {T:Mem} (h:WtT S a p b c q r r' x y n B L T) (g:Sealed y z r'.nm w ct B L'):Sealed x z r.nm w ct B L':=by
 have e:=h.nm
 rw [e] at g
 exact ⟨g.ps,h.st.trans g.st,fun o f hl ho hu=>g.us o f hl ho (hu.oth h.ot ho h.st.l),g.hd,g.wr,g.cl,g.nb⟩
theorem flat_snoc (l:List RowV) {k:Nat} (h:k<(l.map (·.l)).length):((l.map (·.l)).take k).flatMap recB ++ recB (l[k]'(by simpa using h)).l=((l.map (·.l)).take (k+1)).flatMap recB:=by
 rw [List.take_succ_eq_append_getElem h,List.flatMap_append,List.getElem_map]
 simp
structure QX where
  T:Mem
  y:Pl
  f:Nat
  hd:Nat
  k:Nat
set_option maxHeartbeats 4000000 in
theorem run_pour (S:Mem) (a p b c q:Nat) (s:ByteArray) (w:Nat) (x:Pl) (n B:Nat) (M R:Mem) (g cc room:Nat) (hs:List Value) (rows:List (List Nat)) (h:WtS S a p b c q ⟨s,w,0,0,0,0⟩ x n B [] M) (hg:Fresh M g) (hR:R.Less S) (hRq:R.own q=none) (hl:hs.length=rows.length) (hrr:∀ i (h:i<hs.length),RowR R hs[i] (rows.getD i []))
  (hr:RowsOK w rows) (h1:1≤w) (h8:w≤8) (hc:rows.length≤65536) (hns:ns x.d s=Rec.needN w rows.length) (hn:n+5*w*rows.length+x.fr.length≤16384) (hB:B<x.fr.length) :
  ACall Tryz.prog 94 #[self q,.slice (some ⟨g,0,none⟩) rows.length cc] (M.set g ⟨46,hs,room⟩) fun v T'=>v = .nilIface ∧ ∃ r' y rows',rows'.Perm rows∧SortedR rows'∧ArS (S.set q (wtB a r')) a p b c y T'∧Sealed x y s w rows.length B (rows'.flatMap recB):=by
 obtain ⟨V,v1,v2,v3⟩:=rowVs hs rows hl hrr
 have vl:V.length=rows.length:=by rw [← v2,List.length_map]
 have hRM:R.Less M:=hR.trans (ar_less h.ar)
 have hsort:=soR_sort (cmpR M) g room rows.length cc hg (by omega) V.toArray ⟨by rw [List.size_toArray];exact vl,fun i hi=>by
  have hi':i<V.toArray.size:=by rw [List.size_toArray];omega
  rw [getElem!_pos V.toArray i hi',List.getElem_toArray]
  exact (v3 _ (List.getElem_mem _)).less hRM⟩
 obtain ⟨V',hV'⟩ : ∃ V',V'=(Go.Sort.pdq (lq cfR) V.toArray 0 V.length (Go.Sort.bitsLen V.length) true true).toList:=⟨_,rfl⟩
 obtain ⟨s1,s2⟩:=sort_rows V hV'
 rw [← vl,← hV',vl,v1] at hsort
 have u1:(V'.map (·.l)).Perm rows:=by rw [← v2];exact s1.map _
 have ul:V'.length=rows.length:=by rw [s1.length_eq,vl]
 have u3:∀ z ∈ V',RowR R z.v z.l:=fun z hz=>v3 z (s1.mem_iff.1 hz)
 have hr':RowsOK w (V'.map (·.l)):=fun r hm=>hr r (u1.mem_iff.1 hm)
 have hrl:∀ i (hi:i<V'.length),V'[i].l.length=w ∧ ∀ n ∈ V'[i].l,n<Num.top:=fun i hi=>hr' _ (List.mem_map_of_mem (List.getElem_mem hi))
 clear hV' s1 v1 v2 v3 hrr
 have hmul:5*w*rows.length≤40*65536:=Nat.mul_le_mul (by omega) hc
 refine k_E2 (rs:=[.tmp 4]) 27 Tryz.func94 rfl rfl rfl ?_
 iterate 8 refine s1_ ?_
 refine ca_ rfl (hsort) ?_
 rintro _ S1 ⟨h1,_⟩
 rw [h1];clear h1 S1
 iterate 11 refine s1_ ?_
 refine AWP.loop (X:=QX) (fun X=>[(0,self q),(10,.slice (some ⟨g,0,none⟩) rows.length cc),(11,.int .i64 (rows.length:Nat)),(12,.int .i64 (X.k:Nat))]) (fun X=>X.T.set g ⟨46,V'.map RowV.v,room⟩) (fun X=>WtT S a p b c q ⟨s,w,0,0,0,0⟩ ⟨s,w,X.k,5*w*X.k,X.f,X.hd⟩ x X.y (n+5*w*X.k) B (((V'.map (·.l)).take X.k).flatMap recB) X.T∧Fresh X.T g∧X.k≤rows.length) (fun X=>rows.length-X.k) (⟨M,x,0,0,0⟩) ⟨rfl,rfl,rfl,rfl,trivial⟩ (Mem.Less.refl _) (⟨WtT.refl h,hg,Nat.zero_le _⟩) ?_
 rintro ⟨T,y,f,hd,k⟩ ⟨hT,hf,hk⟩
 (try dsimp only at *)
 replace hT:WtT S a p b c q ⟨s,w,0,0,0,0⟩ ⟨s,w,k,5*w*k,f,hd⟩ x y (n+5*w*k) B (((V'.map (·.l)).take k).flatMap recB) T:=hT
 replace hf:Fresh T g:=hf
 replace hk:k≤rows.length:=hk
 by_cases q1:k<rows.length
 ·have hkV:k<V'.length:=by omega
  obtain ⟨e1,e2⟩:=hrl k hkV
  have hmk:5*w*(k+1)≤5*w*rows.length:=Nat.mul_le_mul_left _ q1
  rw [Nat.mul_add,Nat.mul_one] at hmk
  have hRT:R.Less T:=(less_set_skip hR hRq).trans (ar_less hT.s.ar)
  have hput:=(wt_Put (S.set q (wtB a ⟨s,w,k,5*w*k,f,hd⟩)) a p b c q _ y (n+5*w*k) B _ (V'[k].v) (V'[k].l) T hT.s ((u3 _ (List.getElem_mem hkV)).less hRT) (by omega) (by omega) (fun z hz=>Nat.lt_of_lt_of_le (e2 z hz) (by decide)) (by show k≤_;omega) (by rw [e1];show 5*w*k+5*w≤_;omega) (by rw [e1,hT.st.n,hns];show 1+(5*w*k+5*w-1) / 64<_;unfold Rec.needN Rec.eachN;rw [if_neg (by omega)];omega) (by rw [e1];omega) (by rw [hT.st.l];exact hB)).frame (r:=⟨46,V'.map RowV.v,room⟩) hf
  iterate 6 refine s1_ ?_
  refine cT_ ?_
  iterate 7 refine s1_ ?_
  refine rC (Calm.load ty_plain_46 rfl (v:=V'[k].v) (rd_own' (Mem.own_set_same _ _ _) (by show (V'.map RowV.v)[0+(k:Int).toNat*1]?=_;rw [show 0+(k:Int).toNat*1=k from by omega,List.getElem?_map,List.getElem?_eq_getElem hkV];rfl))) ?_
  iterate 7 refine s1_ ?_
  refine ca_ rfl (hput) ?_
  rintro _ S1 ⟨Sa,⟨rfl,z,f',hd',hU⟩,hfa,h1⟩
  rw [h1];clear h1 S1
  refine ca_ rfl (fl_Fail _ _) ?_
  rintro _ S1 ⟨rfl,h1⟩
  rw [h1];clear h1 S1
  iterate 6 refine s1_ ?_
  refine rC (Calm.bin rfl rfl Er.neNil) ?_
  iterate 2 refine s1_ ?_
  refine cF_ ?_
  rw [e1,flat_snoc _ (by rw [List.length_map];exact hkV),show n+5*w*k+5*w=n+5*w*(k+1) from by rw [Nat.mul_add,Nat.mul_one,Nat.add_assoc]] at hU
  iterate 8 refine s1_ ?_
  refine ⟨⟨Sa,z,f',hd',k+1⟩,?_,?_,?_,?_⟩
  all_goals (try dsimp only)
  ·exact ⟨rfl,rfl,rfl,rfl,trivial⟩
  ·exact Mem.Less.refl _
  ·exact ⟨by rw [show 5*w*(k+1)=5*w*k+5*w from by rw [Nat.mul_add,Nat.mul_one]];exact hT.trans hU,hfa,q1⟩
  ·omega
 ·obtain rfl:k=rows.length:=by omega
  have hse:=(wt_Seal (S.set q (wtB a ⟨s,w,rows.length,5*w*rows.length,f,hd⟩)) a p b c q _ y (n+5*w*rows.length) B _ T hT.s h1 h8 (by show rows.length<_;omega) (by rw [hT.st.l];omega) (by rw [hT.st.n,hns];exact Rec.needN_pos _ _)).frame (r:=⟨46,V'.map RowV.v,room⟩) hf
  iterate 6 refine s1_ ?_
  refine cF_ ?_
  iterate 8 refine s1_ ?_
  refine ca_ rfl (hse) ?_
  rintro _ S1 ⟨Sa,⟨rfl,z,hA,hS⟩,hfa,h1⟩
  rw [h1];clear h1 S1
  refine ca_ rfl (fl_Fail _ _) ?_
  rintro _ S1 ⟨rfl,h1⟩
  rw [h1];clear h1 S1
  rw [Mem.set_set] at hA
  rw [List.take_of_length_le (by rw [List.length_map];omega)] at hS
  iterate 3 refine s1_ ?_
  refine k_v6 0 10 11 12 13 4 ?_
  refine s1_ ?_
  refine ⟨_,Sa,⟨_,_,rfl,rfl,rfl⟩,Mem.less_set _ _ _ hfa.1,?_⟩
  exact ⟨rfl,_,z,V'.map (·.l),u1,s2,hA,Sealed.of hT hS⟩
end Sto
end
section
open Go.RowKit
open Mv Disk Num
set_option maxRecDepth 4000
namespace Sto
set_option maxHeartbeats 4000000 in
theorem fl_From (S:Mem) (a p b c wk:Nat) (u:W5) (tm:Value) (x:Pl) (s:ByteArray) (n w ct:Nat) (T:Mem) (h:ArS S a p b c x T) (hw:S.own wk=some (wkB a u tm)) (hp:Ps x n) (hh:Rec.headD x.d s=(w,ct,0)) (h1:1≤w) (hs:s.size≤1024) :
  ACall Tryz.prog 52 #[self wk,.string s] T fun v T'=>∃ q y,v = .tuple #[self q,.nilIface]∧Fresh S q∧ArS (S.set q (rdB a ⟨s,w,ct,0,0,0⟩)) a p b c y T'∧y.d=x.d∧y.fr=x.fr:=by
 have hq:=ar_own0 h hw
 unfold wkB at hq
 have hfr:=rd_From S a p b c x s n w ct T h hp hh
 refine k_E2 (rs:=[.tmp 4,.tmp 5]) 41 Tryz.func52 rfl rfl rfl ?_
 iterate 13 refine s1_ ?_
 refine ca_ rfl (hfr) ?_
 rintro _ S1 ⟨q,rfl,hg,h1⟩
 rw [h1];clear h1 S1
 obtain ⟨k1,k2⟩:=ar_new h hg (rdB a ⟨s,w,ct,0,0,0⟩)
 have o1:=(Mem.own_set_other T (rdB a ⟨s,w,ct,0,0,0⟩) (hg.ne hq)).trans hq
 obtain ⟨i,hA⟩:=ar_ownA k2
 unfold arB at hA
 have oq:=Mem.own_set_same T q (rdB a ⟨s,w,ct,0,0,0⟩)
 have hqa:=ar_ne k2 (Mem.own_set_same S q (rdB a ⟨s,w,ct,0,0,0⟩))
 generalize T.set q (rdB a ⟨s,w,ct,0,0,0⟩)=T1 at *
 unfold rdB at oq
 iterate 22 refine s1_ ?_
 have k3:=ar_cnt k2 (x':={ x with reads:=up1 x.reads }) rfl rfl i
 iterate 14 refine s1_ ?_
 refine cF_ ?_
 iterate 6 refine s1_ ?_
 refine rC (Calm.bin rfl rfl (bin_str_add (by show 5+s.size≤_;omega))) ?_
 refine s1_ ?_
 refine ca_ rfl (fl_Fail _ _) ?_
 rintro _ S1 ⟨rfl,h1⟩
 rw [h1];clear h1 S1
 iterate 5 refine s1_ ?_
 refine ⟨_,_,⟨_,_,rfl,⟨_,_,rfl,rfl,rfl⟩,rfl⟩,Mem.Less.refl _,?_⟩
 exact ⟨q,{ x with reads:=up1 x.reads },rfl,k1,k3,rfl,rfl⟩
set_option maxHeartbeats 4000000 in
theorem fl_To (S:Mem) (a p b c wk:Nat) (u:W5) (tm:Value) (x:Pl) (s:ByteArray) (w ct n B:Nat) (T:Mem) (h:ArS S a p b c x T) (hwk:S.own wk=some (wkB a u tm)) (hp:Ps x n) (hs:nm s) (h0:ns x.d s=0) (hw:w≤8) (hct:ct≤65536) (hr:(used x.d.ext:Int)+(Rec.needN w ct:Nat)≤x.d.size) (hB:nb x.fr≤B) :
  ACall Tryz.prog 28 #[self wk,.string s,.int .i64 (w:Nat),.int .u64 (ct:Nat)] T fun v T'=>∃ q y,v = .tuple #[self q,.nilIface]∧Fresh S q∧WtS (S.set q (wtB a ⟨s,w,0,0,0,0⟩)) a p b c q ⟨s,w,0,0,0,0⟩ y n B [] T'∧Made x y s (Rec.needN w ct):=by
 have hq:=ar_own0 h hwk
 unfold wkB at hq
 have hto:=wt_To S a p b c x s w ct n B T h hp hs h0 hw hct hr hB
 have hsz:=hs.2
 refine k_E4 (rs:=[.tmp 8,.tmp 9]) 28 Tryz.func28 rfl rfl rfl ?_
 iterate 15 refine s1_ ?_
 refine ca_ rfl (hto) ?_
 rintro _ T1 ⟨q,y,rfl,k1,k2,k3⟩
 iterate 11 refine s1_ ?_
 refine rC (Calm.bin rfl rfl (bin_str_add (by show 6+s.size≤_;omega))) ?_
 refine s1_ ?_
 refine ca_ rfl (fl_Fail _ _) ?_
 rintro _ S1 ⟨rfl,h1⟩
 rw [h1];clear h1 S1
 iterate 5 refine s1_ ?_
 refine ⟨_,T1,⟨_,_,rfl,⟨_,_,rfl,rfl,rfl⟩,rfl⟩,less_,?_⟩
 exact ⟨q,y,rfl,k1,k2,k3⟩
end Sto
end
section
open Go.RowKit
namespace Mv
section
variable {P:Program} {N:Nat}
theorem draw_GS {l:List Oper} {W:List Nat} {S0 SB:Mem} {w0:World} {K:Env→Mem→Prop} (hsel:Region.noSelect l.toArray=true):∀ (st:List (Nat × Bool)) (listed:Array Bool) (E:Env) (S:Mem) (a:Act) (w:World),
  stepsOK l W st listed=true→Closed l.toArray listed→DrawRun P N l W S0 st K E S→Good N E a→View S w→Step SB w0 S w→wpAnyG P l.toArray (Q0 N K SB w0) (fun i=>W.contains i) (View S0) st.length listed a w:=by
 intro st
 induction st with
 | nil =>
  intro listed E S a w hr hcl h g hv hs
  exact ⟨by simpa [stepsOK] using hr,E,S,h,g,hs⟩
 | cons p is ih =>
  obtain ⟨i,b⟩:=p
  intro listed E S a w hr hcl h g hv hs
  cases b with
  | false =>
   simp only [stepsOK,Bool.and_eq_true,beq_iff_eq,Bool.false_eq_true,if_false] at hr
   obtain ⟨hr1,hr2⟩:=hr
   refine ⟨fun h0=>(by rw [hr1] at h0;cases h0),fun j hj=>?_⟩
   have hj':=hj
   rw [hr1] at hj
   obtain rfl:j=i:=by simpa using hj
   obtain ⟨o,ho,hop⟩:=h
   have h1:=hop a w g hv
   unfold wpOp
   have ho':l.toArray[j]?=some o:=by simpa using ho
   simp only [ho']
   have next:∀ a1 w1,Post N (fun E' S'=>(W.contains j=false→S0.Less S')∧DrawRun P N l W S0 is K E' S') S w a1 w1→(W.contains j=false→View S0 w→View S0 w1)∧wpAnyG P l.toArray (Q0 N K SB w0) (fun i=>W.contains i) (View S0) is.length (listed.setIfInBounds j true) a1 w1:=fun a1 w1 ⟨E1,S1,⟨k1,k2⟩,g1,s1⟩ =>
    ⟨fun hw _=>s1.view.less (k1 hw),ih _ E1 S1 a1 w1 hr2 (closed_put hcl hj') k2 g1 s1.view (hs.trans s1)⟩
   split
   ·rename_i hw;rw [if_pos hw] at h1
    exact .inl (upon_noQ (Oper.wp_mono next h1))
   ·rename_i hw;rw [if_neg hw] at h1
    exact next _ _ h1
  | true =>
   simp only [stepsOK,Bool.and_eq_true,if_true] at hr
   obtain ⟨hc1,hc2⟩:=hr
   obtain ⟨o,d,v,ho,hd,hn,hless,hcalm,hrest⟩:=h
   simp only [mayFirst,Bool.and_eq_true,Bool.or_eq_true] at hc1
   obtain ⟨⟨hr,hf⟩,hp⟩:=hc1
   have ho':l.toArray[i]?=some o:=by simpa using ho
   have hri:i ∈ Region.ready .any l.toArray listed:=by simpa using hr
   let D:World→Prop:=fun w'=>if pureOp o=true then True else View S0 w'
   have hDw:D w:=by
    simp only [D]
    split
    ·trivial
    ·rename_i hx
     exact hv.less (hless.resolve_left hx)
   have hmem:∀ w',D w'→View (if pureOp o then noMem else S0) w':=fun w' h=>by
    simp only [D] at h
    split
    ·exact view_noMem _
    ·rename_i hx;rw [if_neg hx] at h;exact h
   refine wpAnyG_first (D:=D) (v:=v) ho' (Region.noSelect_spec hsel) (fun c a w h=>h) ?_ is.length listed a w hcl (Region.free_spec ho' hf) hri ?_ hDw ?_
   ·intro j w1 w2 listed' hcl' hun hj hD1 hpres
    simp only [D] at hD1 ⊢
    split
    ·trivial
    ·rename_i hx
     rw [if_neg hx] at hD1
     refine hpres ?_ hD1
     rcases hp with hp | hp
     ·rw [ho] at hp;exact absurd (by simpa using hp) hx
     ·cases hwc:W.contains j with
      | false=>rfl
      | true =>
       have h1:=List.all_eq_true.1 hp j (by simpa using hwc)
       obtain ⟨hju,oj,hoj,hall⟩:=mem_ready.1 hj
       have h2:=waitsFor_spec h1 listed' hcl' fun o2 ho2 e he hb=>by
        obtain rfl:oj=o2:=Option.some.inj (hoj.symm.trans ho2)
        exact hall e he hb
       rcases Nat.lt_or_ge i listed'.size with hlt | hge
       ·simp [hlt] at hun h2;rw [hun] at h2;cases h2
       ·simp [Array.getElem?_eq_none hge] at h2
   ·by_cases hw:Region.wanted o (yielded l.toArray a.tmps)=true
    ·refine .inl ⟨hw,fun w' hD'=>?_⟩
     rcases hcalm a w' g (hmem w' hD') with h1 | h1
     ·exact h1.2
     ·rw [hw] at h1;cases h1.1
    ·rcases hcalm a w g (hmem w hDw) with h1 | h1
     ·exact absurd h1.1 hw
     ·exact .inr h1
   ·rw [hd]
    exact ih (listed.setIfInBounds i true) _ S _ w hc2 (closed_put hcl hri) hrest (g.put hn v) hv hs
theorem AWP.drawS {id:Nat} {l:List Oper} {Q:Exit→Env→Mem→Prop} {E:Env} {S:Mem} (S0:Mem) (hl:S0.Less S) (st:List (Nat × Bool)) (W:List Nat) (hm:P.follows .mixedOrders=true) (hok:drawOK l st W=true)
  (h:DrawRun P N l W S0 st (Q .normal) E S):AWP P N (.region id l.toArray true) Q E S:=fun a w g hv=>by
 simp only [drawOK,Bool.and_eq_true,beq_iff_eq] at hok
 obtain ⟨⟨h1,h2⟩,h3⟩:=hok
 refine wp_mono (Q:=Q0 N (Q .normal) S w) ?_ (fun e a' w' x=>by cases e <;> first | exact x | exact x.elim)
 refine wp_region_any hm ?_
 refine wpAny_of_G (W:=fun i=>W.contains i) (C:=View S0) _ _ _ _ ?_
 have hsz:l.toArray.size=st.length:=by simp [h2]
 rw [hsz]
 have hst:Step S w S { w with drawn:=w.drawn+1 }:=Step.drawn hv _
 exact draw_GS h1 st _ E S a _ (by rw [h2];exact h3) (closed_start _ _) h g hst.view hst
end
end Mv
end
section
open Go.RowKit
open Mv Disk Num
set_option maxRecDepth 4000
namespace Sto
theorem set_ext {S:Mem} {t:Nat} {k:Blk} (h:S.own t=some k):(S.del t).set t k=S:=by
 have:(S.del t).set t k=S.set t k:=by
  cases S
  simp only [Mem.set,Mem.del,Mem.mk.injEq,and_true]
  funext i
  by_cases e:i=t
  ·simp [e]
  ·simp [e]
 rw [this,Mem.set_same _ _ _ h]
theorem del_less {S:Mem} (t:Nat):(S.del t).Less S:=⟨fun b r h=>by
 by_cases e:b=t
 ·subst e;simp [Mem.del] at h
 ·rwa [Mem.own_del_other _ e] at h,rfl⟩
theorem okO_less {S S':Mem} {o:Option (Nat × Nat)} {n:Nat} (h:OkO S o n) (hl:S'.Less S):OkO S' o n:=⟨h.nil,fun b c e=>⟨(h.own b c e).1.less hl,(h.own b c e).2⟩⟩
theorem outN_mono {n:Nat} {S S':Mem} {o:Option (Nat × Nat)} {e:TypeId} {cs:List Value} (hl:S'.Less S):(outN n S' o e cs).Less (outN n S o e cs):=by
 cases o with
 | none=>exact hl
 | some q=>exact Mv.Less.set hl _ _
theorem outN_none {n:Nat} {S:Mem} {o:Option (Nat × Nat)} {e:TypeId} {cs:List Value} {t:Nat} (h:S.own t=none) (hne:∀ q c,o=some (q,c)→t≠q):(outN n S o e cs).own t=none:=by
 cases o with
 | none=>exact h
 | some q=>exact (Mem.own_set_other _ _ (hne q.1 q.2 rfl)).trans h
theorem ar_del {S T:Mem} {a p b c:Nat} {x:Pl} {t:Nat} {k:Blk} (h:ArS S a p b c x T) (ht:S.own t=some k):∃ T0,ArS (S.del t) a p b c x T0∧T=T0.set t k∧T0.own t=none:=by
 obtain ⟨i,oE,oW,ok,rfl⟩:=h
 have hb:=beside_own ok ht
 have hl:=del_less (S:=S) t
 have l1:(outN 2 (S.del t) oE extT (x.d.ext.flatMap extF)).Less (outN 2 S oE extT (x.d.ext.flatMap extF)):=outN_mono hl
 have l2:(dkM (S.del t) x.d oE oW).Less (dkM S x.d oE oW):=outN_mono l1
 have l3:(devM (S.del t) p x.d oE oW).Less (devM S p x.d oE oW):=Mv.Less.set l2 _ _
 have ok':OkA (S.del t) a p b c x oE oW:=⟨⟨⟨okO_less ok.v.dk.e hl,okO_less ok.v.dk.w l1⟩,ok.v.fr.less l2⟩,ok.fb.less l3,ok.fa.less l3,ok.ab,ok.l⟩
 obtain ⟨_,g2⟩:=ar_core (k:=i) ok' ⟨hb.e,hb.w,hb.p,hb.b,hb.a⟩ k
 rw [set_ext ht] at g2
 have hd:(S.del t).own t=none:=by simp [Mem.del]
 have hn:(arM (devM (S.del t) p x.d oE oW) a p b c x i).own t=none:=by
  unfold arM devM
  rw [Mem.own_set_other _ _ hb.a,Mem.own_set_other _ _ hb.b,Mem.own_set_other _ _ hb.p]
  exact outN_none (outN_none hd hb.e) hb.w
 exact ⟨_,⟨i,oE,oW,ok',rfl⟩,g2.symm,hn⟩
structure WkS (S:Mem) (a wk:Nat) (u:W5) (o:Option (Nat × Nat)) (ts:List ByteArray):Prop where
  own:S.own wk=some (wkB a u (outV o ts.length))
  gro:Gro S o 9 (ts.map Value.string)
theorem WkS.away {S:Mem} {a wk:Nat} {u:W5} {o:Option (Nat × Nat)} {ts:List ByteArray} (h:WkS S a wk u o ts) {t:Nat} {k:Blk} (hk:S.own t=some k) (hne:k.elem≠9):Away o t:=fun q c e eq=>by
 subst eq
 have:=(h.gro.own q c e).1
 rw [hk] at this
 exact hne (by rw [Option.some.inj this])
theorem WkS.awk {S:Mem} {a wk:Nat} {u:W5} {o:Option (Nat × Nat)} {ts:List ByteArray} (h:WkS S a wk u o ts):Away o wk:=h.away h.own (by show ¬ 113=9;decide)
theorem WkS.set {S:Mem} {a wk:Nat} {u:W5} {o:Option (Nat × Nat)} {ts:List ByteArray} (h:WkS S a wk u o ts) {t:Nat} (k:Blk) (h1:t≠wk) (h2:Away o t):WkS (S.set t k) a wk u o ts:=⟨(Mem.own_set_other _ _ (Ne.symm h1)).trans h.own,h.gro.set k h2⟩
theorem wk_cut {S T:Mem} {a p b c:Nat} {x:Pl} {wk:Nat} {u:W5} {o:Option (Nat × Nat)} {ts:List ByteArray} (h:ArS S a p b c x T) (hw:WkS S a wk u o ts):∃ T0,ArS (delo S o) a p b c x T0∧T0.Less T ∧ ∀ t r,Fresh T t→AppO (T.set t r) T0 o 9 (ts.map Value.string):=by
 cases o with
 | none=>exact ⟨T,h,Mem.Less.refl _,fun t r ht=>⟨fun _=>⟨hw.gro.nil rfl,Mem.less_set _ _ _ ht.1⟩,fun b c e=>(by cases e)⟩⟩
 | some q =>
  obtain ⟨b1,b2,b3⟩:=hw.gro.own q.1 q.2 rfl
  obtain ⟨T0,g1,g2,g3⟩:=ar_del h b1
  refine ⟨T0,g1,by rw [g2];exact Mem.less_set _ _ _ g3,fun t r ht=>⟨fun e=>(by cases e),fun b' c' e=>?_⟩⟩
  cases e
  dsimp only at *
  have ho:T.own b'=some ⟨9,ts.map Value.string,c'⟩:=ar_own0 h b1
  have hne:b'≠t:=ht.ne ho
  refine ⟨(Mem.own_set_other _ _ hne).trans ho,⟨fun i k hi=>?_,by rw [g2];rfl⟩⟩
  have hiq:i≠b':=fun e=>by rw [e,g3] at hi;cases hi
  have hiT:T.own i=some k:=by rw [g2];exact (Mem.own_set_other _ _ hiq).trans hi
  have hit:i≠t:=ht.ne hiT
  rw [Mem.own_del_other _ hiq,Mem.own_set_other _ _ hit]
  exact hiT
structure Temped (S:Mem) (a p b c wk:Nat) (u:W5) (o:Option (Nat × Nat)) (ts:List ByteArray) (x:Pl) (s:ByteArray) (w ct n B:Nat) (T':Mem) (q:Nat) (y:Pl) (S':Mem) (o':Option (Nat × Nat)):Prop where
  wt:WtS S' a p b c q ⟨s,w,0,0,0,0⟩ y n B [] T'
  md:Made x y s (Rec.needN w ct)
  wks:WkS S' a wk u o' (ts ++ [s])
  kp:∀ t k,S.own t=some k→Away o t→t≠wk→S'.own t=some k∧t≠q
  ro:S'.ro=S.ro
  new:S.own q=none
  na:∀ t c,o'=some (t,c)→S.own t=none ∨ ∃ c',o=some (t,c')
theorem temped {S T1 T2:Mem} {a p b c wk q bn cn:Nat} {u:W5} {o:Option (Nat × Nat)} {ts:List ByteArray} {x y:Pl} {s:ByteArray} {w ct n B:Nat} (k2:WtS (S.set q (wtB a ⟨s,w,0,0,0,0⟩)) a p b c q ⟨s,w,0,0,0,0⟩ y n B [] T1) (k3:Made x y s (Rec.needN w ct)) (hwk:WkS S a wk u o ts) (hqw:q≠wk) (hqa:Away o q) (k1:Fresh S q)
  (m1:Fresh (delo (S.set q (wtB a ⟨s,w,0,0,0,0⟩)) o) bn) (hwd:(delo (S.set q (wtB a ⟨s,w,0,0,0,0⟩)) o).own wk=some (wkB a u (outV o ts.length))) (hqd:(delo (S.set q (wtB a ⟨s,w,0,0,0,0⟩)) o).own q=some (wtB a ⟨s,w,0,0,0,0⟩)) (hwb:wk≠bn) (hqb:q≠bn) (hc:ts.length+1≤cn)
  (m3:ArS (((delo (S.set q (wtB a ⟨s,w,0,0,0,0⟩)) o).set bn ⟨9,ts.map Value.string ++ [.string s],cn⟩).set wk (wkB a u (outV (some (bn,cn)) (ts.length+1)))) a p b c y T2) :
  Temped S a p b c wk u o ts x s w ct n B T2 q y (((delo (S.set q (wtB a ⟨s,w,0,0,0,0⟩)) o).set bn ⟨9,ts.map Value.string ++ [.string s],cn⟩).set wk (wkB a u (outV (some (bn,cn)) (ts.length+1)))) (some (bn,cn)) where
 wt:=⟨m3,(Mem.own_set_other _ _ hqw).trans ((Mem.own_set_other _ _ hqb).trans hqd),k2.ps,k2.us,k2.nb,k2.at_,k2.wr⟩
 md:=k3
 wks:=⟨by rw [List.length_append];exact Mem.own_set_same _ _ _,⟨fun e=>(by cases e),fun q' c' e=>by
  cases e
  refine ⟨(Mem.own_set_other _ _ (Ne.symm hwb)).trans ?_,by rw [List.length_map,List.length_append];exact hc,fun a v hv=>m1.2 a v hv⟩
  rw [List.map_append];exact Mem.own_set_same _ _ _⟩⟩
 kp:=fun t k ht ha hne=>by
  have htq:t≠q:=k1.ne ht
  have hd:(delo (S.set q (wtB a ⟨s,w,0,0,0,0⟩)) o).own t=some k:=delo_own ((Mem.own_set_other _ _ htq).trans ht) (fun c e=>ha t c e rfl)
  exact ⟨(Mem.own_set_other _ _ hne).trans ((Mem.own_set_other _ _ (m1.ne hd)).trans hd),htq⟩
 ro:=by
  show (delo (S.set q (wtB a ⟨s,w,0,0,0,0⟩)) o).ro=S.ro
  rw [delo_ro];rfl
 new:=k1.1
 na:=fun t c e=>by
  cases e
  by_cases h:∃ c',o=some (bn,c')
  ·exact .inr h
  ·refine .inl ?_
   cases e:S.own bn with
   | none=>rfl
   | some k =>
    have htq:bn≠q:=k1.ne e
    have hd:(delo (S.set q (wtB a ⟨s,w,0,0,0,0⟩)) o).own bn=some k:=delo_own ((Mem.own_set_other _ _ htq).trans e) (fun c e'=>h ⟨c,e'⟩)
    rw [m1.1] at hd;cases hd
set_option maxHeartbeats 4000000 in
theorem fl_Temp (S:Mem) (a p b c wk:Nat) (u:W5) (o:Option (Nat × Nat)) (ts:List ByteArray) (x:Pl) (s:ByteArray) (w ct n B:Nat) (T:Mem) (h:ArS S a p b c x T) (hwk:WkS S a wk u o ts) (hts:ts.length≤10000) (hp:Ps x n) (hs:nm s) (h0:ns x.d s=0) (hw:w≤8) (hct:ct≤65536) (hr:(used x.d.ext:Int)+(Rec.needN w ct:Nat)≤x.d.size) (hB:nb x.fr≤B) :
  ACall Tryz.prog 93 #[self wk,.string s,.int .i64 (w:Nat),.int .u64 (ct:Nat)] T fun v T'=>∃ q y S' o',v = .tuple #[self q,.nilIface]∧Temped S a p b c wk u o ts x s w ct n B T' q y S' o':=by
 have hto:=fl_To S a p b c wk u _ x s w ct n B T h hwk.own hp hs h0 hw hct hr hB
 refine k_E4 (rs:=[.tmp 8,.tmp 9]) 34 Tryz.func93 rfl rfl rfl ?_
 iterate 12 refine s1_ ?_
 refine ca_ rfl (hto) ?_
 rintro _ T1 ⟨q,y,rfl,k1,k2,k3⟩
 have hqw:q≠wk:=Ne.symm (k1.ne hwk.own)
 have hqa:Away o q:=fun t c e eq=>k1.ne (hwk.gro.own t c e).1 eq
 have hw2:=hwk.set (wtB a ⟨s,w,0,0,0,0⟩) hqw hqa
 obtain ⟨T0,g1,g2,g3⟩:=wk_cut k2.ar hw2
 have o1:=ar_own0 k2.ar hw2.own
 unfold wkB at o1
 iterate 11 refine s1_ ?_
 refine rC (Calm.bin rfl rfl Er.eqNil) ?_
 iterate 2 refine s1_ ?_
 refine cT_ ?_
 iterate 7 refine s1_ ?_
 refine ARun.build1s (lit_lt rfl) ty_sl_38 rfl rfl ?_
 intro b28 f28
 have g28:=f28
 repeat ((with_reducible replace g28:=fresh_set g28);obtain ⟨g28,_⟩:=g28)
 have:=g28.ne o1;have:=g28.ne' o1
 refine ARun.appendO (S:=T0) (lit_lt rfl) ty_sl_38 rfl (by rw [List.length_map]) (g3 _ _ f28) rfl (news:=[.string s]) (rds_own (r:=⟨9,[.string s],1⟩) (Mem.own_set_same _ _ _)) rfl (by decide) (fun v hv=>by rw [List.mem_singleton.1 hv];rfl) (by omega) (by omega) ?_
 intro bn cn hok
 obtain ⟨j1,j2⟩:=hok.own bn cn rfl
 obtain ⟨m1,m2⟩:=ar_new g1 j1 ⟨9,ts.map Value.string ++ [.string s],cn⟩
 have hwd:(delo (S.set q (wtB a ⟨s,w,0,0,0,0⟩)) o).own wk=some (wkB a u (outV o ts.length)):=delo_own hw2.own (fun c e=>hw2.awk wk c e rfl)
 have hqd:(delo (S.set q (wtB a ⟨s,w,0,0,0,0⟩)) o).own q=some (wtB a ⟨s,w,0,0,0,0⟩):=delo_own (Mem.own_set_same _ _ _) (fun c e=>hqa q c e rfl)
 have hwb:wk≠bn:=m1.ne hwd
 have hqb:q≠bn:=m1.ne hqd
 have o2:=ar_own0 m2 ((Mem.own_set_other _ _ hwb).trans hwd)
 have m3:=ar_put m2 ((Mem.own_set_other _ _ hwb).trans hwd) (wkB a u (outV (some (bn,cn)) (ts.length+1)))
 unfold wkB at o2
 unfold outM
 skip
 iterate 2 refine s1_ ?_
 refine ARun.store1 rfl rfl ty_size_38 rfl o2 (show 6<10 by decide) rfl ?_
 try simp only [k_ms,k_sz,k_ss,k_za,Nat.reduceAdd]
 iterate 2 refine s1_ ?_
 have hfin:=temped (n:=n) (B:=B) k2 k3 hwk hqw hqa k1 m1 hwd hqd hwb hqb j2 m3
 iterate 9 refine s1_ ?_
 refine ⟨_,_,⟨_,_,rfl,⟨_,_,rfl,rfl,rfl⟩,rfl⟩,Mem.Less.refl _,?_⟩
 exact ⟨q,y,_,_,rfl,hfin⟩
end Sto
end
section
open Go.RowKit
open Mv Disk Num
set_option maxRecDepth 4000
namespace Sto
def blk (i j:Nat):List Fr:=List.replicate i F1 ++ List.replicate j F0
theorem blk_len (i j:Nat):(blk i j).length=i+j:=by unfold blk;simp
theorem blk_at (i j k:Nat):(blk i j).getD k F0=if k<i then F1 else F0:=by
 unfold blk
 rw [List.getD_eq_getElem?_getD]
 by_cases q:k<i
 ·rw [List.getElem?_append_left (by simpa using q),List.getElem?_replicate,if_pos q,if_pos q];rfl
 ·rw [List.getElem?_append_right (by simpa using q),List.getElem?_replicate,if_neg q]
  split <;> rfl
theorem F10:F1≠F0:=fun e=>by have:=congrArg Fr.leased e;cases this
theorem blk_take {p:Pl} {i j:Nat} (h:p.fr=blk i (j+1)):takeP p=(p,i,0):=by
 have hf:p.fr.findIdx (fun x=>decide (x=F0))=i:=by
  rw [h,List.findIdx_eq (by rw [blk_len];omega)]
  have e:∀ k (hk:k<(blk i (j+1)).length),(blk i (j+1))[k]=if k<i then F1 else F0:=fun k hk=>by
   have:=blk_at i (j+1) k
   rwa [List.getD_eq_getElem?_getD,List.getElem?_eq_getElem hk,Option.getD_some] at this
  refine ⟨by rw [e,if_neg (Nat.lt_irrefl i)];simp,fun k hk=>?_⟩
  rw [e k (by rw [blk_len];omega),if_pos hk]
  simp [F10]
 unfold takeP
 rw [hf,if_pos (by rw [h,blk_len];omega)]
theorem blk_set (i j:Nat):(blk i (j+1)).set i F1=blk (i+1) j:=by
 unfold blk
 rw [List.set_append_right _ _ (by simp),List.length_replicate,Nat.sub_self,List.replicate_succ,List.set_cons_zero,List.replicate_succ',List.append_assoc]
 rfl
theorem lease_blk:∀ (k i j:Nat) (p:Pl) (l:List Int),p.fr=blk i (j+k) → ∃ l',leaseN k p l=({ p with fr:=blk (i+k) j },l',0)∧l'.length=l.length+k
 | 0,i,j,p,l,h=>⟨l,by
  unfold leaseN
  rw [show blk (i+0) j=p.fr from h.symm],rfl⟩
 | k+1,i,j,p,l,h=>by
  have ht:=blk_take (p:=p) (i:=i) (j:=j+k) h
  obtain ⟨l',e,el⟩:=lease_blk k (i+1) j { p with fr:=blk (i+1) (j+k) } (l ++ [(i:Int)]) rfl
  refine ⟨l',?_,by rw [el,List.length_append,List.length_singleton];omega⟩
  unfold leaseN
  rw [ht]
  simp only [if_pos]
  have hs:setP p i F1 = { p with fr:=blk (i+1) (j+k) }:=by unfold setP;rw [h,show j+(k+1)=j+k+1 from rfl,blk_set]
  rw [hs,e,show i+1+k=i+(k+1) from by omega]
theorem blk_nb (i j:Nat):nb (blk i j)=i:=by
 unfold nb blk
 rw [List.countP_append,List.countP_replicate,List.countP_replicate,if_pos (by simp [busy1]),if_neg (by simp [show F0.idle from .inl rfl])]
 rfl
theorem blk_idles (p:Pl) (i j:Nat) (h:p.fr=blk i j):idlesP p=j:=by
 unfold idlesP
 rw [h]
 unfold blk
 rw [List.countP_append,List.countP_replicate,List.countP_replicate,if_neg (by simp [busy1]),if_pos (by simp [show F0.idle from .inl rfl]),Nat.zero_add]
theorem lease_ok {p:Pl} {i k m:Nat} (h:p.fr=blk i (m+k)):∃ l',leaseP p (k:Int)=({ p with fr:=blk (i+k) m },l',0)∧l'.length=k:=by
 obtain ⟨l',e,el⟩:=lease_blk k i m p [] h
 refine ⟨l',?_,by rw [el];simp⟩
 unfold leaseP
 rw [if_neg (by omega),blk_idles p i (m+k) h,if_neg (by omega),Int.toNat_natCast,e]
theorem blk_f (p:Pl) {i j:Nat} (h:p.fr=blk i j) (k:Nat):atF p k=F0∨atF p k=F1:=by
 unfold atF
 rw [h,blk_at]
 split
 ·exact .inr rfl
 ·exact .inl rfl
theorem blk_ps {p:Pl} {i j n:Nat} (h:p.fr=blk i j) (hd:Dw p.d n) (h1:1≤i+j) (h2:i+j≤256):Ps p n where
 d:=hd
 ok:=fun k _=>by rcases blk_f p h k with e | e;exact .inl e;exact .inr (.inl e)
 ap:=fun k l _ _ _ hs=>by
  rcases blk_f p h k with e | e
  ·rw [e] at hs;exact n0 hs.1
  ·rw [e] at hs;exact n1 hs.1
 l1:=by rw [h,blk_len];exact h1
 l2:=by rw [h,blk_len];exact h2
theorem blk_no {p:Pl} {i j:Nat} (h:p.fr=blk i j) (s:ByteArray) (k:Int) (l:Nat):isF s k (atF p l)=false:=by
 rcases blk_f p h l with e | e
 ·rw [e];exact isF_f0 _ _
 ·rw [e];exact isF_f1 _ _
theorem blk_use {p:Pl} {i j:Nat} (h:p.fr=blk i j) (s:ByteArray):Use p s 0 0 where
 pins:=fun k _ hh _=>by
  rcases blk_f p h k with e | e
  ·rw [e] at hh;exact absurd hh n0
  ·rw [e] at hh;exact absurd hh n1
 at_:=fun h=>absurd h (Nat.lt_irrefl 0)
 z0:=fun k _=>blk_no h s 0 k
theorem blk_vw {p:Pl} {i j:Nat} (h:p.fr=blk i j) (s:ByteArray) (k:Int):vw p s k=seen p.d s k:=vw_no fun l _=>blk_no h s k l
theorem blk_clean {p:Pl} {i j:Nat} (h:p.fr=blk i j) (k:Nat):(atF p k).dirty=false:=by
 rcases blk_f p h k with e | e <;> rw [e] <;> rfl
theorem Has.blank {x y:Pl} {s:ByteArray} {w c i j i' j':Nat} {L:List UInt8} (h:Has x s w c L) (hx:x.fr=blk i j) (hy:y.fr=blk i' j') (hd:y.d=x.d):Has y s w c L:=by
 have e:∀ s k,vw y s k=vw x s k:=fun s k=>by rw [blk_vw hx,blk_vw hy,hd]
 refine ⟨by rw [hd];exact h.n,by rw [e];exact h.h,fun j hj=>?_,h.l⟩
 rw [hd] at hj
 rw [← h.b j hj]
 unfold byt
 rw [e]
theorem ret_cl {p q:Pl} {i e:Int} (h:ret1 p i=(q,e)) (hc:∀ j,j<p.fr.length→(atF p j).dirty=false):∀ j,j<q.fr.length→(atF q j).dirty=false:=by
 unfold ret1 at h
 split at h
 ·rw [← (Prod.mk.inj h).1];exact hc
 ·split at h
  ·rw [← (Prod.mk.inj h).1];exact hc
  ·rename_i h1 _
   rw [← (Prod.mk.inj h).1]
   intro j hj
   rw [set_len] at hj
   rw [atF_set F0 (by omega)]
   split
   ·rfl
   ·exact hc j hj
/-! ### Names -/
open Run (nameS dig)
theorem nameS_size (s:ByteArray) (i:Nat):(nameS s i).size=s.size+4:=by
 unfold Run.nameS
 rw [ByteArray.size_append,size_bs];rfl
theorem dig_inj {i j k:Nat} (h:dig i k=dig j k):i / 10 ^ k % 10=j / 10 ^ k % 10:=by
 unfold Run.dig at h
 have:=congrArg UInt8.toNat h
 rw [UInt8.toNat_ofNat',UInt8.toNat_ofNat'] at this
 generalize i / 10 ^ k=a at *
 generalize j / 10 ^ k=b at *
 omega
theorem nameS_inj {s:ByteArray} {i j:Nat} (hi:i≤9999) (hj:j≤9999) (h:nameS s i=nameS s j):i=j:=by
 unfold Run.nameS at h
 have h2:=congrArg (fun b:ByteArray=>b.data.toList) h
 simp only [ByteArray.data_append,Array.toList_append,bs_data] at h2
 have h3:=List.append_cancel_left h2
 simp only [List.cons.injEq,and_true] at h3
 obtain ⟨a3,a2,a1,a0⟩:=h3
 have b3:=dig_inj a3
 have b2:=dig_inj a2
 have b1:=dig_inj a1
 have b0:=dig_inj a0
 omega
theorem nameS_nm {s:ByteArray} (h1:s.size≤12) (i:Nat):nm (nameS s i):=by
 unfold nm
 rw [nameS_size];omega
theorem need_le {w c:Nat} (h:w≤8):Rec.needN w c≤2+c:=by
 unfold Rec.needN
 have:=Nat.mul_le_mul_right c (Rec.eachN_le h)
 omega
end Sto
end
section
open Go.RowKit
open Mv Disk Num
set_option maxRecDepth 4000
namespace Sto
open Run (nameS)
theorem WkS.grew {S S':Mem} {a wk q:Nat} {u:W5} {o:Option (Nat × Nat)} {ts:List ByteArray} (h:WkS S a wk u o ts) (g:Grew S S' q) (h1:q≠wk) (h2:Away o q):WkS S' a wk u o ts where
 own:=g.own wk _ (Ne.symm h1) h.own
 gro:=⟨h.gro.nil,fun t c e=>by
  obtain ⟨a1,a2,a3⟩:=h.gro.own t c e
  exact ⟨g.own t _ (h2 t c e) a1,a2,fun z v hz=>a3 z v (by rw [← g.ro];exact hz)⟩⟩
theorem rd_wt {S:Mem} {t t' a:Nat} {r:Rd} {k:Blk} (h:S.own t=some (rdB a r)) (h':S.own t'=some k) (hne:k.elem≠124):t≠t':=fun e=>by
 subst e
 rw [h] at h'
 exact hne (by rw [← Option.some.inj h'];rfl)
structure RunI (a p b c wk q:Nat) (u:W5) (fn pre:ByteArray) (w m N:Nat) (rows:List (List Nat)) (x0:Pl) (Z M:Mem) (y:Pl) (f:Nat) (o:Option (Nat × Nat)) (ts:List ByteArray) (done:List (List (List Nat))) (i0:Nat) (K:Mem):Prop where
  e0:i0=min (done.length*N) rows.length
  ar:ArS Z a p b c y M
  ps:Ps y 0
  ow:Z.own q=some (rdB a ⟨fn,w,rows.length,5*w*i0,f,0⟩)
  wks:WkS Z a wk u o ts
  tl:ts.length=done.length
  us:Use y fn f 0
  nb:nb y.fr≤m-8
  ln:y.fr.length=m
  hs:Has y fn w rows.length (rows.flatMap recB)
  dn:∀ j (h:j<done.length),Has y (nameS pre j) w done[j].length (done[j].flatMap recB)
  no:∀ j,done.length≤j→j≤9999→ns y.d (nameS pre j)=0
  z:y.d.size=x0.d.size
  ud:used y.d.ext≤used x0.d.ext+2*done.length+i0
  pm:done.flatten.Perm (rows.take i0)
  so:∀ r ∈ done,SortedR r∧RowsOK w r∧r ≠ []
  cl:∀ j,j<y.fr.length→(atF y j).dirty=false
  ot:∀ s,(∀ j,s≠nameS pre j)→ns y.d s=ns x0.d s
  mn:done.length=0∨(done.length-1)*N<rows.length
  kb:K.Less Z
  kq:K.own q=none
  kw:K.own wk=none
  ko:∀ t c,o=some (t,c)→K.own t=none
theorem RunI.qwk {a p b c wk q:Nat} {u:W5} {fn pre:ByteArray} {w m N:Nat} {rows:List (List Nat)} {x0:Pl} {Z M:Mem} {y:Pl} {f:Nat} {o:Option (Nat × Nat)} {ts:List ByteArray} {done:List (List (List Nat))} {i0:Nat} {K:Mem} (h:RunI a p b c wk q u fn pre w m N rows x0 Z M y f o ts done i0 K):q≠wk∧Away o q :=
 ⟨rd_wt h.ow h.wks.own (by show ¬ 113=124;decide),h.wks.away h.ow (by show ¬ 124=9;decide)⟩
theorem RunI.rd {a p b c wk q:Nat} {u:W5} {fn pre:ByteArray} {w m N:Nat} {rows:List (List Nat)} {x0:Pl} {Z M:Mem} {y:Pl} {f:Nat} {o:Option (Nat × Nat)} {ts:List ByteArray} {done:List (List (List Nat))} {i0:Nat} {K:Mem} (h:RunI a p b c wk q u fn pre w m N rows x0 Z M y f o ts done i0 K):RdS Z a p b c q ⟨fn,w,rows.length,5*w*i0,f,0⟩ y 0 (m-8) M :=
 ⟨h.ar,h.ow,h.ps,h.us,by show _≤_+if 0<0 then 1 else 0;rw [if_neg (Nat.lt_irrefl 0)];exact h.nb⟩
theorem RunI.next {a p b c wk q:Nat} {u:W5} {fn pre:ByteArray} {w m N:Nat} {rows:List (List Nat)} {x0:Pl} {Z M:Mem} {y:Pl} {f:Nat} {o:Option (Nat × Nat)} {ts:List ByteArray} {done:List (List (List Nat))} {i0:Nat} {K:Mem} (h:RunI a p b c wk q u fn pre w m N rows x0 Z M y f o ts done i0 K)
  {X:GX} (hG:GI Z a p b c q ⟨fn,w,rows.length,5*w*i0,f,0⟩ y 0 (m-8) rows i0 X.Z X.M X.R X.r X.y X.o X.hs) (hk:X.hs.length=min N (rows.length-i0)) (hh:X.r.held=0) (hlt:i0<rows.length) (hN:1≤N) (h8:w≤8) (h1:1≤w) (hr:RowsOK w rows) (hdl:done.length≤9999) (hfn:∀ j,fn≠nameS pre j)
  {S' T2 T3:Mem} {y2 y3:Pl} {q2 n2:Nat} {o2:Option (Nat × Nat)} (hT:Temped X.Z a p b c wk u o ts X.y (nameS pre done.length) w X.hs.length n2 (m-8) T2 q2 y2 S' o2)
  {r':Wt} {rows':List (List Nat)} (hp:rows'.Perm ((rows.drop i0).take X.hs.length)) (hso:SortedR rows') (hA:ArS (S'.set q2 (wtB a r')) a p b c y3 T3) (hS:Sealed y2 y3 (nameS pre done.length) w X.hs.length (m-8) (rows'.flatMap recB)) :
  RunI a p b c wk q u fn pre w m N rows x0 (S'.set q2 (wtB a r')) T3 y3 X.r.fr o2 (ts ++ [nameS pre done.length]) (done ++ [rows']) (i0+X.hs.length) K:=by
 obtain ⟨d1,d2⟩:=h.qwk
 have hl:rows'.length=X.hs.length:=by rw [hp.length_eq,List.length_take,List.length_drop];omega
 have hXr:X.r=⟨fn,w,rows.length,5*w*(i0+X.hs.length),X.r.fr,0⟩:=by
  have e1:=hG.nm
  have e2:=hG.w
  have e3:=hG.ct
  have e4:=hG.at_
  dsimp only at e1 e2 e3 e4
  cases e:X.r with
  | mk a1 a2 a3 a4 a5 a6 =>
   rw [e] at e1 e2 e3 e4 hh
   dsimp only at e1 e2 e3 e4 hh
   rw [e1,e2,e3,e4,hh]
 have hqX:=hG.rd.ow
 have hwX:=h.wks.grew hG.gr d1 d2
 obtain ⟨k1,k2⟩:=hT.kp q _ hqX (hwX.away hqX (by show ¬ 124=9;decide)) d1
 have hq2:q2≠wk:=fun e=>by
  have:=hT.wt.ow
  rw [e,hT.wks.own] at this
  have:=congrArg Blk.elem (Option.some.inj this)
  exact absurd (show 113=201 from this) (by decide)
 have hnX:∀ s,ns X.y.d s=ns y.d s:=hG.st.n
 have hne:∀ j,j<done.length→nameS pre j≠nameS pre done.length:=fun j hj e=>by have:=nameS_inj (by omega) hdl e;omega
 have hnd:=need_le (c:=X.hs.length) h8
 have hkey:∀ {s:ByteArray} {cc:Nat} {L:List UInt8},s≠nameS pre done.length→Has y s w cc L→Has y3 s w cc L:=fun hs hH=>((hH.stays hG.st).made hT.md hs).near hS.st hs
 have hrow':RowsOK w rows':=fun r hm=>hr r (List.mem_of_mem_drop (List.mem_of_mem_take (hp.mem_iff.1 hm)))
 have hnew:Has y3 (nameS pre done.length) w rows'.length (rows'.flatMap recB):=by
  refine ⟨?_,by rw [hl];exact hS.hd,hS.wr,rows_len h1 hrow'⟩
  rw [hS.st.n,hT.md.n,if_pos rfl,hl]
 have hdl':(done ++ [rows']).length=done.length+1:=by rw [List.length_append];rfl
 have e0:=h.e0
 have hi0:i0=done.length*N:=by omega
 have hKX:K.Less X.Z:=⟨fun t k ht=>hG.gr.own t k (fun e=>by rw [e,h.kq] at ht;cases ht) (h.kb.own ht),h.kb.2.trans hG.gr.ro.symm⟩
 have hKS:K.Less S':=⟨fun t k ht=>(hT.kp t k (hKX.own ht) (fun g cc e eq=>by subst eq;rw [h.ko g cc e] at ht;cases ht) (fun eq=>by rw [eq,h.kw] at ht;cases ht)).1,hKX.2.trans hT.ro.symm⟩
 have hKq2:K.own q2=none:=by
  cases e:K.own q2 with
  | none=>rfl
  | some k =>
   have:=hKX.own e
   rw [hT.new] at this;cases this
 refine ⟨?_,hA,hS.ps,?_,hT.wks.set _ hq2 (hT.wks.away hT.wt.ow (by show ¬ 201=9;decide)),by rw [List.length_append,List.length_append,h.tl];rfl,?_,hS.nb,hS.st.l.trans ((congrArg List.length hT.md.fr).trans (hG.st.l.trans h.ln)),hkey (hfn _) h.hs,fun j hj=>?_,fun j hj hj2=>?_,?_,?_,?_,fun r hm=>?_,hS.cl,fun s hs=>?_,.inr (by rw [hdl',Nat.add_sub_cancel,← hi0];exact hlt),?_,h.kq,h.kw,fun t c e=>?_⟩
 ·rw [hdl',Nat.add_mul,Nat.one_mul];omega
 ·rw [← hXr]
  exact (Mem.own_set_other _ _ k2).trans k1
 ·refine hS.us _ _ _ (hfn _) ?_
  have hu:=hG.rd.us
  rw [hh,hG.nm] at hu
  have hfr:∀ i,atF y2 i=atF X.y i:=fun i=>by unfold atF;rw [hT.md.fr]
  exact ⟨fun i hi hh hn=>by rw [hfr] at hh hn ⊢;exact hu.pins i (by rw [hT.md.fr] at hi;exact hi) hh hn,fun h=>absurd h (Nat.lt_irrefl 0),fun i hi=>by rw [hfr];exact hu.z0 i (by rw [hT.md.fr] at hi;exact hi)⟩
 ·by_cases q1:j<done.length
  ·rw [List.getElem_append_left q1]
   exact hkey (hne j q1) (h.dn j q1)
  ·obtain rfl:j=done.length:=by rw [hdl'] at hj;omega
   rw [List.getElem_append_right (Nat.le_refl _)]
   simp only [Nat.sub_self,List.getElem_cons_zero]
   exact hnew
 ·rw [hdl'] at hj
  rw [hS.st.n,hT.md.n,if_neg (fun e=>by have:=nameS_inj hdl hj2 e;omega),hnX]
  exact h.no j (by omega) hj2
 ·rw [hS.st.z,hT.md.z,hG.st.z,h.z]
 ·rw [hS.st.u,hT.md.u,hG.st.u,hdl']
  have:=h.ud
  omega
 ·rw [List.flatten_append,List.flatten_singleton,List.take_add]
  exact h.pm.append hp
 ·rcases List.mem_append.1 hm with hm | hm
  ·exact h.so r hm
  ·rw [List.mem_singleton.1 hm]
   exact ⟨hso,hrow',fun e=>by rw [e] at hl;simp at hl;omega⟩
 ·rw [hS.st.n,hT.md.n,if_neg (fun e=>hs _ e.symm),hnX]
  exact h.ot s hs
 ·exact less_set_skip hKS hKq2
 ·rcases hT.na t c e with h' | ⟨c',h'⟩
  ·cases e2:K.own t with
   | none=>rfl
   | some k=>rw [hKX.own e2] at h';cases h'
  ·exact h.ko t c' h'
end Sto
end
section
open Go.RowKit
open Mv Disk Num
set_option maxRecDepth 4000
namespace Sto
open Run (nameS sizeN)
structure RuX where
  Z:Mem
  M:Mem
  y:Pl
  f:Nat
  o:Option (Nat × Nat)
  ts:List ByteArray
  done:List (List (List Nat))
  i0:Nat
structure RunE (a p b c wk:Nat) (u:W5) (pre:ByteArray) (w N:Nat) (rows:List (List Nat)) (x0:Pl) (Z M:Mem) (y:Pl) (o:Option (Nat × Nat)) (ts:List ByteArray) (done:List (List (List Nat))) (K:Mem):Prop where
  ar:ArS Z a p b c y M
  ps:Ps y 0
  wks:WkS Z a wk u o ts
  dn:∀ j (h:j<done.length),Has y (nameS pre j) w done[j].length (done[j].flatMap recB)
  z:y.d.size=x0.d.size
  ud:used y.d.ext≤used x0.d.ext+2*done.length+rows.length
  pm:done.flatten.Perm rows
  so:∀ r ∈ done,SortedR r∧RowsOK w r∧r ≠ []
  cl:∀ j,j<y.fr.length→(atF y j).dirty=false
  ot:∀ s,(∀ j,s≠nameS pre j)→ns y.d s=ns x0.d s
  mn:done.length=0∨(done.length-1)*N<rows.length
  kb:K.Less Z
theorem RunE.ret {a p b c wk:Nat} {u:W5} {pre:ByteArray} {w N:Nat} {rows:List (List Nat)} {x0:Pl} {Z M M':Mem} {y z:Pl} {o:Option (Nat × Nat)} {ts:List ByteArray} {done:List (List (List Nat))} {i e:Int} {K:Mem} (h:RunE a p b c wk u pre w N rows x0 Z M y o ts done K) (hr:ret1 y i=(z,e)) (hp:Ps z 0) (hs:Stays y z) (hA:ArS Z a p b c z M'):RunE a p b c wk u pre w N rows x0 Z M' z o ts done K :=
 ⟨hA,hp,h.wks,fun j hj=>(h.dn j hj).stays hs,hs.z.trans h.z,by rw [hs.u];exact h.ud,h.pm,h.so,ret_cl hr h.cl,fun s hs'=>(hs.n s).trans (h.ot s hs'),h.mn,h.kb⟩
theorem RunI.done {a p b c wk q:Nat} {u:W5} {fn pre:ByteArray} {w m N:Nat} {rows:List (List Nat)} {x0:Pl} {Z M:Mem} {y:Pl} {f:Nat} {o:Option (Nat × Nat)} {ts:List ByteArray} {done:List (List (List Nat))} {i0:Nat} {K:Mem} (h:RunI a p b c wk q u fn pre w m N rows x0 Z M y f o ts done i0 K) (hi : ¬ i0<rows.length):RunE a p b c wk u pre w N rows x0 Z M y o ts done K:=by
 have e:=h.e0
 have hi:i0=rows.length:=by omega
 subst hi
 exact ⟨h.ar,h.ps,h.wks,h.dn,h.z,h.ud,by have:=h.pm;rwa [List.take_length] at this,h.so,h.cl,h.ot,h.mn,h.kb⟩
theorem RunI.start {S T:Mem} {a p b c wk q:Nat} {u:W5} {fn pre:ByteArray} {w m N:Nat} {rows:List (List Nat)} {x:Pl} {y:Pl} (h:ArS S a p b c y T) (hq:S.own q=some (rdB a ⟨fn,w,rows.length,0,0,0⟩)) (hwk:WkS S a wk u none []) (hx:x.fr=blk 0 m) (hy:y.fr=blk (m-8) 8) (hyd:y.d=x.d) (hd:Dw x.d 0)
  (hH:Has x fn w rows.length (rows.flatMap recB)) (hm1:24≤m) (hm2:m≤256) (hno:∀ j,ns x.d (nameS pre j)=0) {K:Mem} (k1:K.Less S) (k2:K.own q=none) (k3:K.own wk=none):RunI a p b c wk q u fn pre w m N rows x S T y 0 none [] [] 0 K where
 e0:=by simp
 ar:=h
 ps:=blk_ps hy (by rw [hyd];exact hd) (by omega) (by omega)
 ow:=hq
 wks:=hwk
 tl:=rfl
 us:=blk_use hy fn
 nb:=by rw [hy,blk_nb];exact Nat.le_refl _
 ln:=by rw [hy,blk_len];omega
 hs:=hH.blank hx hy hyd
 dn:=fun j h=>absurd h (Nat.not_lt_zero j)
 no:=fun j _ _=>by rw [hyd];exact hno j
 z:=by rw [hyd]
 ud:=by rw [hyd];exact Nat.le_refl _
 pm:=by simp
 so:=fun r hr=>by cases hr
 cl:=fun j _=>blk_clean hy j
 ot:=fun s _=>by rw [hyd]
 mn:=.inl rfl
 kb:=k1
 kq:=k2
 kw:=k3
 ko:=fun t c e=>by cases e
theorem rows_keep {Z Z' S' M T' R:Mem} {a p b c wk q q2:Nat} {u:W5} {o o2 oh:Option (Nat × Nat)} {ts:List ByteArray} {r r1:Rd} {x y y2:Pl} {n n2 B B2 i0 w ct:Nat} {rows:List (List Nat)} {hs:List Value} {s:ByteArray} (hw:WkS Z a wk u o ts) (hG:GI Z a p b c q r x n B rows i0 Z' M R r1 y oh hs) (hT:Temped Z' a p b c wk u o ts y s w ct n2 B2 T' q2 y2 S' o2):R.Less S'∧R.own q2=none:=by
 refine ⟨⟨fun t k ht=>(hT.kp t k (hG.rl.own ht) (fun g cc e eq=>?_) (fun eq=>?_)).1,hG.rl.2.trans hT.ro.symm⟩,?_⟩
 ·subst eq
  have:=hG.rn _ _ (hw.gro.own g cc e).1
  rw [ht] at this;cases this
 ·subst eq
  have:=hG.rn _ _ hw.own
  rw [ht] at this;cases this
 ·cases e:R.own q2 with
  | none=>rfl
  | some k =>
   have:=hG.rl.own e
   rw [hT.new] at this;cases this
theorem chunk_at (rows:List (List Nat)) (i0 k:Nat) {i:Nat} (h:i<k):((rows.drop i0).take k).getD i []=rows.getD (i0+i) []:=by
 rw [List.getD_eq_getElem?_getD,List.getD_eq_getElem?_getD,List.getElem?_take_of_lt h,List.getElem?_drop]
set_option maxHeartbeats 8000000 in
theorem run_Runs (S:Mem) (a p b c wk q:Nat) (u:W5) (fn pre:ByteArray) (w m:Nat) (rows:List (List Nat)) (x:Pl) (T:Mem) (h:ArS S a p b c x T) (hq:S.own q=some (rdB a ⟨fn,w,rows.length,0,0,0⟩)) (hwk:WkS S a wk u none []) (hx:x.fr=blk 0 m) (hd:Dw x.d 0)
  (hH:Has x fn w rows.length (rows.flatMap recB)) (hm1:24≤m) (hm2:m≤256) (h1:1≤w) (h8:w≤8) (hr:RowsOK w rows) (hc:rows.length≤9999) (hsm:5*w*rows.length+5*w*rows.length+512≤16384) (hp1:pre.size≠0) (hp2:pre.size≤12) (hfn:∀ j,fn≠nameS pre j) (hno:∀ j,ns x.d (nameS pre j)=0) (hroom:(used x.d.ext:Int)+3*rows.length+2≤x.d.size) (K:Mem) (k1:K.Less S) (k2:K.own q=none) (k3:K.own wk=none) :
  ACall Tryz.prog 56 #[self wk,self q,.string pre] T fun v T'=>∃ Z y o ts done,v = .tuple #[.int .i64 (List.length done:Nat),.nilIface]∧RunE a p b c wk u pre w (sizeN m w) rows x Z T' y o ts done K:=by
 have hps:Ps x 0:=blk_ps hx hd (by omega) (by omega)
 have hlen:x.fr.length=m:=by rw [hx,blk_len];omega
 have hsz:=Run.run_Size m w
 have hN:=Run.size_pos hm1 h8 h1
 have hN2:=Run.size_le m w hm2
 obtain ⟨l,hle,hll⟩:=lease_ok (p:=x) (i:=0) (k:=m-8) (m:=8) (by rw [hx];congr 1;omega)
 rw [show ((m-8:Nat):Int)=(m:Int)-8 from by omega] at hle
 have hle2:=ar_use h (fun k oE oW ok=>pl_LeaseA a p b c x ((m:Int)-8) k S oE oW ok (ps_pw hps))
 rw [hle] at hle2
 have hqw:=rd_wt hq hwk.own (by show ¬ 113=124;decide)
 have oT:=ar_own0 h hwk.own
 obtain ⟨i1,hA1⟩:=ar_ownA h
 have oq:=ar_own0 h hq
 unfold wkB at oT
 unfold arB at hA1
 unfold rdB at oq
 dsimp only at oq
 rw [hlen] at hA1
 generalize sizeN m w=N at *
 refine k_E3 (rs:=[.tmp 6,.tmp 7]) 120 Tryz.func56 rfl rfl rfl ?_
 iterate 26 refine s1_ ?_
 refine ca_ rfl (hsz _ hm1 hm2 h1 h8) ?_
 rintro _ S1 ⟨rfl,h1'⟩
 rw [h1'];clear h1' S1
 iterate 15 refine s1_ ?_
 refine ca_ rfl (hle2) ?_
 rintro _ S1 ⟨v,rfl,i2,oE2,oW2,ol,ok2,hol,rfl,h1'⟩
 rw [h1'];clear h1' S1
 dsimp only at ok2 hol ⊢
 rw [hll] at hol ⊢
 obtain ⟨gl,gc,rfl⟩:=hol.some (by omega)
 obtain ⟨hgl,hgc⟩:=hol.own gl gc rfl
 have hA0:ArS S a p b c { x with fr:=blk (0+(m-8)) 8 } (arM (devM S p x.d oE2 oW2) a p b c { x with fr:=blk (0+(m-8)) 8 } i2):=⟨i2,oE2,oW2,ok2,rfl⟩
 have hI0:RunI a p b c wk q u fn pre w m N rows x S _ _ 0 none [] [] 0 K:=RunI.start hA0 hq hwk hx (by show blk (0+(m-8)) 8=_;rw [Nat.zero_add]) rfl hd hH hm1 hm2 hno k1 k2 k3
 clear ok2 hol hA0 hle2
 generalize arM (devM S p x.d oE2 oW2) a p b c { x with fr:=blk (0+(m-8)) 8 } i2=M0 at *
 iterate 7 refine s1_ ?_
 refine AWP.less (M0.set gl ⟨3,l.flatMap i64s,gc*1⟩) (Mem.Less.refl _) ?_
 have oq0:=ar_own0 hI0.ar hq
 (unfold rdB at oq0;dsimp only at oq0)
 have hqg:q≠gl:=hgl.ne' oq0 |>.symm
 have oq1:=(Mem.own_set_other M0 ⟨3,l.flatMap i64s,gc*1⟩ hqg).trans oq0
 iterate 7 refine s1_ ?_
 refine cF_ ?_
 iterate 18 refine s1_ ?_
 refine k_v12 0 1 2 6 7 8 9 11 12 51 13 14 ?_
 refine s1_ ?_
 refine AWP.loop (X:=RuX) (fun X=>[(0,self wk),(1,self q),(2,.string pre),(9,.int .i64 (N:Nat)),(11,.slice (some ⟨gl,0,none⟩) (m-8) gc),(13,.int .i64 (X.done.length:Nat)),(14,.int .i64 ((rows.length:Int)-((X.done.length*N:Nat):Int)))]) (fun X=>X.M.set gl ⟨3,l.flatMap i64s,gc*1⟩) (fun X=>RunI a p b c wk q u fn pre w m N rows x X.Z X.M X.y X.f X.o X.ts X.done X.i0 K∧Fresh X.M gl) (fun X=>rows.length-X.i0) (⟨S,M0,{ x with fr:=blk (0+(m-8)) 8 },0,none,[],[],0⟩) ⟨rfl,rfl,rfl,rfl,rfl,rfl,some_int (by simp),trivial⟩ (Mem.Less.refl _) (⟨hI0,hgl⟩) ?_
 rintro ⟨Z,M,y,f,o,ts,done,i0⟩ ⟨hI,hf⟩
 (try dsimp only at *)
 clear hI0 hgl oq0 oq1
 replace hI:RunI a p b c wk q u fn pre w m N rows x Z M y f o ts done i0 K:=hI
 replace hf:Fresh M gl:=hf
 have e0:=hI.e0
 by_cases q1:i0<rows.length
 ·have hi0:i0=done.length*N:=by omega
  have hdl:done.length≤i0:=by rw [hi0];exact Nat.le_mul_of_pos_right _ (by omega)
  have hga:=(run_gather Z a p b c q _ y 0 (m-8) N i0 M rows hI.rd hI.hs hr rfl h1 h8 (by omega) rfl (by omega) (by omega) (by show 0+5*w*rows.length≤_;omega) (by rw [hI.ln];omega)).frame (r:=⟨3,l.flatMap i64s,gc*1⟩) hf
  iterate 7 refine s1_ ?_
  refine cT_ ?_
  iterate 8 refine s1_ ?_
  refine ca_ rfl (hga) ?_
  rintro _ S1 ⟨Sa,⟨⟨Z1,M1,R1,r1,y1,oh,hs1⟩,rfl,hXk,hSa,hG,hXh⟩,hf1,h1'⟩
  rw [h1'];clear h1' S1
  dsimp only at hXk hSa hG hXh hf1 ⊢
  obtain ⟨g,ch,rfl⟩:=hG.oo.some (by omega)
  obtain ⟨hg,hgc1⟩:=hG.oo.own g ch rfl
  replace hSa:Sa=M1.set g ⟨46,hs1,ch*1⟩:=hSa
  subst hSa
  obtain ⟨hfg,hgg⟩:=fresh_set hf1
  obtain ⟨d1,d2⟩:=hI.qwk
  have hqX:=hG.rd.ow
  have hwX:=hI.wks.grew hG.gr d1 d2
  have r1w:r1.w=w:=hG.w
  have or0:=ar_own0 hG.rd.ar hqX
  (unfold rdB at or0;rw [r1w] at or0)
  have qg:q≠g:=(hg.ne or0)
  have qgl:q≠gl:=(hfg.ne or0)
  have or1:=(Mem.own_set_other M1 ⟨46,hs1,ch*1⟩ qg).trans or0
  have or2:=(Mem.own_set_other (M1.set g ⟨46,hs1,ch*1⟩) ⟨3,l.flatMap i64s,gc*1⟩ qgl).trans or1
  have hchl:((rows.drop i0).take hs1.length).length=hs1.length:=by rw [List.length_take,List.length_drop];omega
  have hnds:=need_le (c:=hs1.length) h8
  have hud:=hI.ud
  iterate 10 refine s1_ ?_
  refine ca_ rfl (fl_Fail _ _) ?_
  rintro _ S1 ⟨rfl,h1'⟩
  rw [h1'];clear h1' S1
  iterate 6 refine s1_ ?_
  refine rC (Calm.bin rfl rfl Er.neNil) ?_
  iterate 2 refine s1_ ?_
  refine cF_ ?_
  iterate 6 refine s1_ ?_
  refine ca_ rfl (Run.run_Name pre done.length _ hp1 hp2 (by omega)) ?_
  rintro _ S1 ⟨rfl,h1'⟩
  rw [h1'];clear h1' S1
  have htp:=((fl_Temp Z1 a p b c wk u o ts y1 (nameS pre done.length) w hs1.length (0+5*w*hs1.length) (m-8) M1 hG.rd.ar hwX (by rw [hI.tl];omega) hG.rd.ps (nameS_nm hp2 _) (by rw [hG.st.n];exact hI.no _ (Nat.le_refl _) (by omega)) h8 (by omega) (by rw [hG.st.u,hG.st.z,hI.z];omega) (by have:=hG.rd.nb;rw [hXh,if_neg (Nat.lt_irrefl 0)] at this;exact this)).frame (r:=⟨46,hs1,ch*1⟩) hg).frame (r:=⟨3,l.flatMap i64s,gc*1⟩) hf1
  iterate 7 refine s1_ ?_
  refine k_v12 0 1 2 9 11 13 14 60 15 16 73 17 ?_
  iterate 11 refine s1_ ?_
  refine ca_ rfl (htp) ?_
  rintro _ S1 ⟨Sb,⟨Sc,⟨q2,y2,S',o2,rfl,hT⟩,hgS,hSb⟩,hf2,h1'⟩
  rw [h1'];clear h1' S1
  subst hSb
  iterate 11 refine s1_ ?_
  refine rC (Calm.bin rfl rfl Er.eqNil) ?_
  iterate 2 refine s1_ ?_
  refine cT_ ?_
  obtain ⟨hRS,hRq2⟩:=rows_keep hI.wks hG hT
  have hy2:y2.fr.length=m:=(congrArg List.length hT.md.fr).trans (hG.st.l.trans hI.ln)
  have hmk:5*w*hs1.length≤5*w*rows.length:=Nat.mul_le_mul_left _ (by omega)
  have hpo:=(run_pour S' a p b c q2 (nameS pre done.length) w y2 (0+5*w*hs1.length) (m-8) Sc R1 g ch (ch*1) hs1 ((rows.drop i0).take hs1.length) hT.wt hgS hRS hRq2 hchl.symm (fun i hi=>by rw [chunk_at rows i0 _ hi];exact hG.rr i hi) (fun r hm=>hr r (List.mem_of_mem_drop (List.mem_of_mem_take hm))) h1 h8 (by omega) (by rw [hT.md.n,if_pos rfl,hchl]) (by rw [hchl,hy2];omega) (by rw [hy2];omega)).frame (r:=⟨3,l.flatMap i64s,gc*1⟩) hf2
  rw [hchl] at hpo
  iterate 3 refine s1_ ?_
  refine ca_ rfl (hpo) ?_
  rintro _ S1 ⟨Sd,⟨rfl,r',y3,rows',hp,hso,hA,hS⟩,hf3,h1'⟩
  rw [h1'];clear h1' S1
  iterate 7 refine s1_ ?_
  refine rC (Calm.bin rfl rfl Er.neNil) ?_
  iterate 2 refine s1_ ?_
  refine cF_ ?_
  iterate 9 refine s1_ ?_
  refine k_v16 0 1 2 9 11 13 14 60 15 16 73 17 19 20 96 101 ?_
  iterate 7 refine s1_ ?_
  refine ⟨⟨S'.set q2 (wtB a r'),Sd,y3,r1.fr,o2,ts ++ [nameS pre done.length],done ++ [rows'],i0+hs1.length⟩,?_,?_,?_,?_⟩
  all_goals (try dsimp only)
  ·exact ⟨rfl,rfl,rfl,rfl,rfl,some_int (by rw [List.length_append];simp),some_int (by rw [List.length_append,List.length_singleton,Nat.add_mul,Nat.one_mul];omega),trivial⟩
  ·exact Mem.Less.refl _
  ·exact ⟨hI.next (X:=⟨Z1,M1,R1,r1,y1,some (g,ch),hs1⟩) hG hXk hXh q1 hN h8 h1 hr (by omega) hfn hT hp hso hA hS,hf3⟩
  ·omega
 ·iterate 7 refine s1_ ?_
  refine cF_ ?_
  iterate 14 refine s1_ ?_
  refine AWP.loop (X:=Mem × Pl × Nat) (fun X=>[(0,self wk),(13,.int .i64 (done.length:Nat)),(106,.slice (some ⟨gl,0,none⟩) (m-8) gc),(107,.int .i64 ((m-8:Nat):Int)),(108,.int .i64 (X.2.2:Nat))]) (fun X=>X.1.set gl ⟨3,l.flatMap i64s,gc*1⟩) (fun X=>RunE a p b c wk u pre w N rows x Z X.1 X.2.1 o ts done K∧Fresh X.1 gl∧X.2.2≤m-8) (fun X=>m-8-X.2.2) ((M,y,0)) ⟨rfl,rfl,rfl,rfl,rfl,trivial⟩ (Mem.Less.refl _) (⟨hI.done q1,hf,Nat.zero_le _⟩) ?_
  rintro ⟨M3,y3,i⟩ ⟨hE,hf3,hi⟩
  (try dsimp only at *)
  clear hI e0 hf
  replace hE:RunE a p b c wk u pre w N rows x Z M3 y3 o ts done K:=hE
  replace hf3:Fresh M3 gl:=hf3
  replace hi:i≤m-8:=hi
  by_cases q2:i<m-8
  ·have hil:i<l.length:=by omega
   have ow0:=ar_own0 hE.ar hE.wks.own
   unfold wkB at ow0
   have owg:wk≠gl:=hf3.ne ow0
   have ow1:=(Mem.own_set_other M3 ⟨3,l.flatMap i64s,gc*1⟩ owg).trans ow0
   obtain ⟨li,hli⟩ : ∃ li,li=l[i]:=⟨_,rfl⟩
   obtain ⟨z,e,r1,r2,r3⟩:=ret_ps hE.ps li
   have hre:=(ar_use hE.ar (fun k oE oW ok=>pl_ReturnA a p b c y3 li k Z oE oW ok (ps_pw hE.ps))).frame (r:=⟨3,l.flatMap i64s,gc*1⟩) hf3
   rw [r1] at hre
   iterate 6 refine s1_ ?_
   refine cT_ ?_
   iterate 7 refine s1_ ?_
   refine rC (Calm.load ty_plain_3 rfl (v:=.int .i64 li) (rd_own' (Mem.own_set_same _ _ _) (by show (l.flatMap i64s)[0+(i:Int).toNat*1]?=_;have:=flat_get i64_len l i hil 0 (.int .i64 li) (by rw [hli];rfl);rw [show i*1+0=0+(i:Int).toNat*1 from by omega] at this;exact this))) ?_
   iterate 9 refine s1_ ?_
   refine ca_ rfl (hre) ?_
   rintro _ S1 ⟨Sa,⟨_,hA⟩,hf4,h1'⟩
   rw [h1'];clear h1' S1
   iterate 8 refine s1_ ?_
   refine ⟨(Sa,z,i+1),?_,?_,?_,?_⟩
   all_goals (try dsimp only)
   ·exact ⟨rfl,rfl,rfl,rfl,rfl,trivial⟩
   ·exact Mem.Less.refl _
   ·exact ⟨hE.ret r1 r2 r3 hA,hf4,q2⟩
   ·(show m-8-(i+1)<m-8-i;omega)
  ·iterate 6 refine s1_ ?_
   refine cF_ ?_
   iterate 13 refine s1_ ?_
   refine ⟨_,M3,⟨_,_,rfl,⟨_,_,rfl,rfl,rfl⟩,rfl⟩,Mem.less_set _ _ _ hf3.1,?_⟩
   exact ⟨Z,y3,o,ts,done,rfl,hE⟩
end Sto
end
section
open Go.RowKit
open Mv Disk Num
set_option maxRecDepth 4000
namespace Sto
theorem maxI {P:Program} {N:Nat} {E:Env} {S:Mem} {dst:Option Nat} {ty:TypeId} {pos:String} {aft:Array Edge} {gd:Option (Nat × Bool)} {x y:Operand} {i j:Int} {ats:Array TypeId} (hx:ev E x=some (.int .i64 i)) (hy:ev E y=some (.int .i64 j)):ACalm P N ⟨dst,.call ⟨.builtin .max,#[x,y],ats⟩,ty,pos,aft,gd⟩ E S (.int .i64 (max i j)):=by
 rcases Int.le_total i j with h | h
 ·rw [show max i j=j from Int.max_eq_right h];exact Calm.maxR hx hy h
 ·rw [show max i j=i from Int.max_eq_left h];exact Calm.maxL hx hy h
set_option maxHeartbeats 4000000 in
theorem fl_End (S:Mem) (a p b c wk:Nat) (u:W5) (tm:Value) (x:Pl) (n:Nat) (T:Mem) (h:ArS S a p b c x T) (hw:S.own wk=some (wkB a u tm)) (hp:Ps x n) :
  ACall Tryz.prog 22 #[self wk,.nilIface] T fun r T'=>∃ v c1 c2 c3,r = .tuple #[v,.agg #[.int .u64 c1,.int .u64 c2,.int .i64 c3],.int .i64 0]∧DkR T' v x.d∧T.Less T':=by
 have hq:=ar_own0 h hw
 unfold wkB at hq
 obtain ⟨i,oE,oW,ok,rfl⟩:=h
 have hrd:=ok.rd (ps_pw hp) i
 have hA:=ar_own (M:=devM S p x.d oE oW) (a:=a) (p:=p) (b:=b) (c:=c) (x:=x) (k:=i)
 generalize arM (devM S p x.d oE oW) a p b c x i=T at *
 obtain ⟨qe,de,qw,dw,hP,hE,hW⟩:=hrd
 unfold arB at hA
 refine k_E2 (rs:=[.cell 4 28,.cell 5 35,.tmp 6]) 90 Tryz.func22 rfl rfl rfl ?_
 iterate 2 refine s1_ ?_
 refine ARun.alloc (lit_lt rfl) ty_zero_28 ?_
 intro b4 f4
 have g4:=f4
 repeat ((with_reducible replace g4:=fresh_set g4);obtain ⟨g4,_⟩:=g4)
 have:=g4.ne hq;have:=g4.ne' hq
 have:=g4.ne hA;have:=g4.ne' hA
 have:=g4.ne hP;have:=g4.ne' hP
 refine nl_ ?_
 refine ARun.alloc (lit_lt rfl) ty_zero_35 ?_
 intro b5 f5
 have g5:=f5
 repeat ((with_reducible replace g5:=fresh_set g5);obtain ⟨g5,_⟩:=g5)
 have:=g5.ne hq;have:=g5.ne' hq
 have:=g5.ne hA;have:=g5.ne' hA
 have:=g5.ne hP;have:=g5.ne' hP
 refine nl_ ?_
 iterate 11 refine s1_ ?_
 refine rC (Calm.bin rfl rfl (bin_ptr_nil Tryz.underlying111)) ?_
 iterate 3 refine s1_ ?_
 refine cF_ ?_
 iterate 3 refine s1_ ?_
 refine rC (Calm.bin rfl rfl Er.neNil) ?_
 iterate 2 refine s1_ ?_
 first|refine k_q 24 ?_|refine rG 24 (Calm.mkI (by kernel_rfl) rfl) ?_
 iterate 6 refine s1_ ?_
 refine cF_ ?_
 iterate 4 refine s1_ ?_
 refine AWP.draw [(0,true),(1,true),(2,true),(3,true),(4,true),(5,true),(6,true),(7,true),(8,true),(9,true),(10,true),(11,true),(12,true),(13,true),(14,true),(15,true),(16,true),(17,true),(18,true),(19,true),(20,true),(21,true),(22,true),(23,true),(24,true),(25,true),(26,true),(27,true),(28,true),(29,true),(30,true),(31,true),(32,true),(33,true),(34,true),(35,true),(36,true),(37,true),(38,true),(39,true),(40,false),(41,false)] [41] mixed (by kernel_rfl) ?_
 iterate 38 refine s1_ ?_
 refine dC (hc:=maxI rfl rfl) (h:=?_)
 refine s1_ ?_
 refine draw_only rfl ?_
 refine ARun.alloc (lit_lt rfl) ty_zero_35 ?_
 intro b7 f7
 have g7:=f7
 repeat ((with_reducible replace g7:=fresh_set g7);obtain ⟨g7,_⟩:=g7)
 have:=g7.ne hq;have:=g7.ne' hq
 have:=g7.ne hA;have:=g7.ne' hA
 have:=g7.ne hP;have:=g7.ne' hP
 refine nl_ ?_
 refine arun_nil ⟨fun _=>less_,?_⟩
 refine draw_only rfl ?_
 refine s1_ ?_
 refine arun_nil ⟨fun h=>absurd h (by decide),?_⟩
 iterate 3 refine s1_ ?_
 refine AWP.drawS (T.set b7 ⟨35,[.int .u64 (IntKind.u64.wrap (x.reads+0)),.int .u64 (IntKind.u64.wrap (x.writes+0)),.int .i64 (max i 0)],3⟩) less_ [(0,true),(1,true),(2,true),(3,true),(4,true),(5,true),(6,true),(7,true),(8,true),(9,true),(10,true),(11,true),(12,false),(13,false),(14,false),(15,true)] [] mixed (by kernel_rfl) ?_
 iterate 12 refine s1_ ?_
 refine draw_only rfl ?_
 refine ca_ rfl (fl_number _) ?_
 rintro _ S1 ⟨rfl,h1⟩
 rw [h1];clear h1 S1
 refine arun_nil ⟨fun _=>less_,?_⟩
 refine draw_only rfl ?_
 refine s1_ ?_
 refine arun_nil ⟨fun _=>less_,?_⟩
 refine draw_only rfl ?_
 refine s1_ ?_
 refine arun_nil ⟨fun _=>less_,?_⟩
 iterate 4 refine s1_ ?_
 refine ⟨_,_,⟨_,_,_,rfl,.inr ⟨ty_agg_28,[_,_,_,_,_],ty_size_28,rds_,rfl⟩,⟨_,_,_,rfl,.inr ⟨ty_agg_35,[_,_,_],ty_size_35,rds_,rfl⟩,⟨_,_,rfl,rfl,rfl⟩,rfl⟩,rfl⟩,Mem.Less.refl _,?_⟩
 exact ⟨_,_,_,_,rfl,⟨qe,de,qw,dw,rfl,hE.less less_,hW.less less_⟩,less_⟩
end Sto
end
section
open Go.RowKit
open Mv Disk Num
set_option maxRecDepth 4000
namespace Sto
open Run (nameS sizeN)
theorem run_name (s n x:ByteArray) (kb:Nat) (S:Mem) (hk:S.Knows ⟨kb,0,none⟩ [.string s]) :
  ACall Tryz.prog 55 #[.agg #[.string n,.string x],.pointer (some ⟨kb,0,none⟩)] S fun r S'=>r = .bool (decide (n=s))∧S'=S:=by
 refine k_E2 (rs:=[.tmp 3]) 8 Tryz.func55 rfl rfl rfl ?_
 iterate 2 refine s1_ ?_
 refine ARun.boxA (cs:=[_,_]) (lit_lt rfl) rfl ?_
 intro b2 f2
 have g2:=f2
 repeat ((with_reducible replace g2:=fresh_set g2);obtain ⟨g2,_⟩:=g2)
 refine nl_ ?_
 iterate 13 refine s1_ ?_
 refine ⟨_,S,⟨_,_,rfl,rfl,rfl⟩,less_,?_⟩
 exact ⟨rfl,rfl⟩
theorem run_index (v:Value) (l:List Ext) (s:ByteArray) (kb:Nat) (S:Mem) (hl:Sl 2 extF S v l) (hk:S.Knows ⟨kb,0,none⟩ [.string s]) (hn:∀ x ∈ l,x.1≠s) :
  ACall Tryz.prog 90 #[v,.func (.func 55) #[] #[.pointer (some ⟨kb,0,none⟩)]] S fun r S'=>r = .int .i64 (-1)∧S'=S:=by
 obtain ⟨a,cap,rfl,h1,h2,h3⟩:=id hl
 refine k_E2 (rs:=[.tmp 4]) 19 Tryz.func90 rfl rfl rfl ?_
 iterate 14 refine s1_ ?_
 refine AWP.loop (X:=Nat) (fun i=>[(0,.slice a l.length cap),(1,.func (.func 55) #[] #[.pointer (some ⟨kb,0,none⟩)]),(7,.int .i64 l.length),(8,.int .i64 i)]) (fun i=>S) (fun i=>i≤l.length) (fun i=>l.length-i) (0) ⟨rfl,rfl,rfl,rfl,trivial⟩ (Mem.Less.refl _) (Nat.zero_le _) ?_
 rintro i hi
 (try dsimp only at *)
 by_cases hc:i<l.length
 ·have hne:=decide_eq_false (hn _ (List.getElem_mem hc))
  iterate 6 refine s1_ ?_
  refine cT_ ?_
  obtain ⟨b,off,rfl,hkk⟩:=h3.resolve_left (fun e=>by subst e;simp at hc)
  have hki:=hkk i hc
  unfold extF at hki
  iterate 17 refine s1_ ?_
  refine ARun.callV (lit_lt rfl) go_55 rfl rfl (run_name s l[i].1 l[i].2 kb _ hk) ?_
  rintro _ S1 ⟨rfl,h1⟩
  rw [h1,hne];clear h1 S1
  iterate 2 refine s1_ ?_
  refine cF_ ?_
  iterate 8 refine s1_ ?_
  refine ⟨i+1,?_,?_,?_,?_⟩
  all_goals (try dsimp only)
  ·exact ⟨rfl,rfl,rfl,rfl,trivial⟩
  ·exact Mem.Less.refl _
  ·exact hc
  ·omega
 ·iterate 6 refine s1_ ?_
  refine cF_ ?_
  iterate 11 refine s1_ ?_
  refine ⟨_,S,⟨_,_,rfl,rfl,rfl⟩,less_,?_⟩
  exact ⟨rfl,rfl⟩
theorem run_there (v:Value) (l:List Ext) (s:ByteArray) (kb:Nat) (S:Mem) (hl:Sl 2 extF S v l) (hk:S.Knows ⟨kb,0,none⟩ [.string s]) (hn:∀ x ∈ l,x.1≠s) :
  ACall Tryz.prog 54 #[v,.func (.func 55) #[] #[.pointer (some ⟨kb,0,none⟩)]] S fun r S'=>r = .bool false∧S'=S:=by
 have h:=run_index v l s kb S hl hk hn
 obtain ⟨a,cap,rfl,_⟩:=id hl
 refine k_E2 (rs:=[.tmp 4]) 9 Tryz.func54 rfl rfl rfl ?_
 iterate 9 refine s1_ ?_
 refine ca_ rfl (h) ?_
 rintro _ S1 ⟨rfl,h1⟩
 rw [h1];clear h1 S1
 iterate 5 refine s1_ ?_
 refine ⟨_,S,⟨_,_,rfl,rfl,rfl⟩,less_,?_⟩
 exact ⟨rfl,rfl⟩
theorem many_le {c N:Nat} (h:1≤N):(c+N-1) / N≤c:=by
 rcases Nat.eq_zero_or_pos c with e | e
 ·subst e;rw [Nat.zero_add,Nat.div_eq_of_lt (by omega)];exact Nat.le_refl _
 ·refine Nat.div_le_of_le_mul ?_
  have:(N-1)*(c-1)+(N+c)=N*c+1:=by
   obtain ⟨n,rfl⟩ : ∃ n,N=n+1:=⟨N-1,by omega⟩
   obtain ⟨d,rfl⟩ : ∃ d,c=d+1:=⟨c-1,by omega⟩
   rw [Nat.add_sub_cancel,Nat.add_sub_cancel,Nat.add_mul,Nat.mul_add,Nat.mul_one,Nat.one_mul];omega
  omega
structure CutE (a p b c wk:Nat) (u:W5) (pre:ByteArray) (w N:Nat) (rows:List (List Nat)) (x0:Pl) (Z M:Mem) (y:Pl) (tm:Value) (done:List (List (List Nat))) (K:Mem):Prop where
  ar:ArS Z a p b c y M
  ps:Ps y 0
  wk:Z.own wk=some (wkB a u tm)
  pm:done.flatten.Perm rows
  so:∀ r ∈ done,SortedR r∧RowsOK w r∧r ≠ []
  mn:done.length=0∨(done.length-1)*N<rows.length
  kb:K.Less Z
  z:y.d.size=x0.d.size
  dn:0<done.length→(∀ j (h:j<done.length),Has y (nameS pre j) w done[j].length (done[j].flatMap recB))∧(∀ j,j<y.fr.length→(atF y j).dirty=false)
  ud:used y.d.ext≤used x0.d.ext+2*done.length+rows.length
  ot:∀ s,(∀ j,s≠nameS pre j)→ns y.d s=ns x0.d s
theorem RunE.cut {a p b c wk:Nat} {u:W5} {pre:ByteArray} {w N:Nat} {rows:List (List Nat)} {x0:Pl} {Z M:Mem} {y:Pl} {o:Option (Nat × Nat)} {ts:List ByteArray} {done:List (List (List Nat))} {K:Mem} (h:RunE a p b c wk u pre w N rows x0 Z M y o ts done K):CutE a p b c wk u pre w N rows x0 Z M y (outV o ts.length) done K :=
 ⟨h.ar,h.ps,h.wks.own,h.pm,h.so,h.mn,h.kb,h.z,fun _=>⟨h.dn,h.cl⟩,h.ud,h.ot⟩
theorem RunE.cut0 {a p b c wk:Nat} {u:W5} {pre:ByteArray} {w N:Nat} {rows:List (List Nat)} {x0:Pl} {Z M M':Mem} {y:Pl} {o:Option (Nat × Nat)} {ts:List ByteArray} {done:List (List (List Nat))} {K:Mem} (h:RunE a p b c wk u pre w N rows x0 Z M y o ts done K) (h0:done.length=0) (hA:ArS Z a p b c { y with d:=settleD y.d fun _=>true } M'):CutE a p b c wk u pre w N rows x0 Z M' { y with d:=settleD y.d fun _=>true } (outV o ts.length) done K:=by
 obtain ⟨g1,g2⟩:=sync_ps h.ps
 exact ⟨hA,g1,h.wks.own,h.pm,h.so,h.mn,h.kb,g2.z.trans h.z,fun e=>by omega,by rw [g2.u];exact h.ud,fun s hs=>(g2.n s).trans (h.ot s hs)⟩
theorem ar_rdV {S T:Mem} {a p b c:Nat} {x y:Pl} {n:Nat} (h:ArS S a p b c y T) (hp:Ps x n) (hd:y.d=x.d) (hf:y.fr=x.fr):RdV T p y.d:=by
 obtain ⟨k,oE,oW,ok,rfl⟩:=h
 have hy:Ps y n:=⟨by rw [hd];exact hp.d,fun i hi=>by have:=hp.ok i (by rw [← hf];exact hi);unfold atF at this ⊢;rw [hf,hd];exact this,fun i j h1 h2 hne hs=>by unfold atF at hs;rw [hf] at hs h1 h2;exact hp.ap i j h1 h2 hne hs,by rw [hf];exact hp.l1,by rw [hf];exact hp.l2⟩
 exact ok.rd (ps_pw hy) k
theorem CutE.at_ {a p b c wk:Nat} {u:W5} {pre:ByteArray} {w N:Nat} {rows:List (List Nat)} {x0 x1:Pl} {Z M:Mem} {y:Pl} {tm:Value} {done:List (List (List Nat))} {K:Mem} (h:CutE a p b c wk u pre w N rows x1 Z M y tm done K) (hd:x1.d=x0.d):CutE a p b c wk u pre w N rows x0 Z M y tm done K :=
 ⟨h.ar,h.ps,h.wk,h.pm,h.so,h.mn,h.kb,by rw [← hd];exact h.z,h.dn,by rw [← hd];exact h.ud,by rw [← hd];exact h.ot⟩
set_option maxHeartbeats 8000000 in
theorem run_cut (S:Mem) (a p b c wk:Nat) (u:W5) (fn pre:ByteArray) (w m:Nat) (rows:List (List Nat)) (x:Pl) (T:Mem) (h:ArS S a p b c x T) (hwk:WkS S a wk u none []) (hx:x.fr=blk 0 m) (hd:Dw x.d 0) (hF:Rec.FileR x.d fn w rows.length (bs (rows.flatMap recB)))
  (hH:Has x fn w rows.length (rows.flatMap recB)) (hm1:24≤m) (hm2:m≤256) (h1:1≤w) (h8:w≤8) (hr:RowsOK w rows) (hc:rows.length≤9999) (hsm:5*w*rows.length+5*w*rows.length+512≤16384) (hp1:pre.size≠0) (hp2:pre.size≤12) (hfs:fn.size≤1024) (hfn:∀ j,fn≠nameS pre j) (hno:∀ j,ns x.d (nameS pre j)=0) (hroom:(used x.d.ext:Int)+3*rows.length+2≤x.d.size) (K:Mem) (k1:K.Less S) (k3:K.own wk=none) :
  ACall Tryz.prog 21 #[self wk,.string fn,.string pre] T fun v T'=>∃ Z y tm done,v = .tuple #[.int .i64 (List.length done:Nat),.nilIface]∧CutE a p b c wk u pre w (sizeN m w) rows x Z T' y tm done K:=by
 have hps:Ps x 0:=blk_ps hx hd (by omega) (by omega)
 have hlen:x.fr.length=m:=by rw [hx,blk_len];omega
 have hop:=Rec.file_open hF
 have hh:=(Rec.headP_open hop fn).symm.trans (Rec.file_head h8 (by omega) hF)
 have hfr:=fl_From S a p b c wk u _ x fn 0 w rows.length T h hwk.own hps hh h1 hfs
 have hN:=Run.size_pos hm1 h8 h1
 have hmany:=many_le (c:=rows.length) hN
 have hpre:=fun S=>Run.run_prefixed pre S hp1 hp2
 have hma:=fun S=>Run.run_Many m w rows.length S hm1 hm2 h1 h8 (by omega)
 refine k_E3 (rs:=[.tmp 6,.tmp 7]) 97 Tryz.func21 rfl rfl rfl ?_
 iterate 10 refine s1_ ?_
 refine ca_ rfl (hfr) ?_
 rintro _ T1 ⟨q,y,rfl,hqn,hA,hyd,hyf⟩
 have hqw:q≠wk:=Ne.symm (hqn.ne hwk.own)
 have hwk1:=hwk.set (rdB a ⟨fn,w,rows.length,0,0,0⟩) hqw (Away.nil q)
 have hKq:K.own q=none:=by cases e:K.own q with | none=>rfl | some k=>exact absurd (k1.own e) (by rw [hqn.1];simp)
 have hru:=run_Runs _ a p b c wk q u fn pre w m rows y T1 hA (Mem.own_set_same _ _ _) hwk1 (hyf.trans hx) (by rw [hyd];exact hd) (hH.blank hx (hyf.trans hx) hyd) hm1 hm2 h1 h8 hr hc hsm hp1 hp2 hfn (fun j=>by rw [hyd];exact hno j) (by rw [hyd];exact hroom) K (less_set_skip k1 hKq) hKq k3
 have ow:=ar_own0 hA hwk1.own
 have oq:=ar_own0 hA (Mem.own_set_same S q (rdB a ⟨fn,w,rows.length,0,0,0⟩))
 obtain ⟨i1,oA⟩:=ar_ownA hA
 (unfold wkB at ow;unfold rdB at oq;dsimp only at oq;unfold arB at oA;rw [hyf,hlen] at oA)
 have hrd:=ar_rdV hA (Ps.mono hps (Nat.zero_le 0)) hyd hyf
 obtain ⟨qe,de,qw,dw,oP,hE,hW⟩:=hrd
 iterate 11 refine s1_ ?_
 refine rC (Calm.bin rfl rfl Er.neNil) ?_
 iterate 2 refine s1_ ?_
 refine cF_ ?_
 iterate 6 refine s1_ ?_
 refine ca_ rfl (hpre _) ?_
 rintro _ S1 ⟨rfl,h1'⟩
 rw [h1'];clear h1' S1
 iterate 3 refine s1_ ?_
 refine cF_ ?_
 iterate 3 refine s1_ ?_
 refine AWP.draw [(0,true),(1,true),(2,true),(3,true),(4,true),(5,true),(6,true),(7,true),(8,true),(9,true),(10,true),(11,true),(12,true),(13,true),(14,true),(15,true),(16,false),(17,true),(18,true),(19,true),(20,true),(21,true)] [] mixed (by kernel_rfl) ?_
 iterate 16 refine s1_ ?_
 refine draw_only rfl ?_
 refine ca_ rfl (hma _) ?_
 rintro _ S1 ⟨rfl,h1'⟩
 rw [h1'];clear h1' S1
 generalize (rows.length+sizeN m w-1) / sizeN m w=mny at *
 refine arun_nil ⟨fun _=>less_,?_⟩
 iterate 15 refine s1_ ?_
 refine AWP.loop (X:=Nat) (fun i=>[(0,self wk),(2,.string pre),(8,self q),(49,.int .i64 (mny:Nat)),(50,.int .i64 (i:Nat))]) (fun i=>T1) (fun i=>i≤mny) (fun i=>mny-i) (0) ⟨rfl,rfl,rfl,rfl,rfl,trivial⟩ (Mem.Less.refl _) (Nat.zero_le _) ?_
 rintro i hi
 (try dsimp only at *)
 have hi:i≤mny:=hi
 by_cases q1:i<mny
 ·have hnn:∀ e ∈ y.d.ext,e.1≠nameS pre i:=fun e he eq=>by have:=(ns_has hd (nameS pre i)).1 (has_iff.2 ⟨e,by rw [← hyd];exact he,eq⟩);rw [hno i] at this;exact absurd this (Nat.lt_irrefl 0)
  iterate 6 refine s1_ ?_
  refine cT_ ?_
  iterate 10 refine s1_ ?_
  refine k_v7 0 2 8 49 50 51 12 ?_
  iterate 4 refine s1_ ?_
  refine ca_ rfl (Run.run_Name pre i _ hp1 hp2 (by omega)) ?_
  rintro _ S1 ⟨rfl,h1'⟩
  rw [h1'];clear h1' S1
  iterate 3 refine s1_ ?_
  refine ARun.alloc (lit_lt rfl) ty_zero_9 ?_
  intro b13 f13
  have g13:=f13
  repeat ((with_reducible replace g13:=fresh_set g13);obtain ⟨g13,_⟩:=g13)
  have:=g13.ne ow;have:=g13.ne' ow
  have:=g13.ne oq;have:=g13.ne' oq
  have:=g13.ne oA;have:=g13.ne' oA
  have:=g13.ne oP;have:=g13.ne' oP
  refine nl_ ?_
  iterate 18 refine s1_ ?_
  refine ca_ rfl (run_there (.slice qe y.d.ext.length de) y.d.ext (nameS pre i) b13 _ (hE.less less_) (Mem.rds.knows rds_) hnn) ?_
  rintro _ S1 ⟨rfl,h1'⟩
  rw [h1'];clear h1' S1
  iterate 2 refine s1_ ?_
  refine cF_ ?_
  iterate 8 refine s1_ ?_
  refine ⟨i+1,?_,?_,?_,?_⟩
  all_goals (try dsimp only)
  ·exact ⟨rfl,rfl,rfl,rfl,rfl,trivial⟩
  ·exact less_
  ·exact q1
  ·omega
 ·iterate 6 refine s1_ ?_
  refine cF_ ?_
  iterate 10 refine s1_ ?_
  refine ca_ rfl (hru) ?_
  rintro _ T2 ⟨Z,z,o,ts,done,rfl,hR⟩
  have hz:=hR.ar
  iterate 7 refine s1_ ?_
  by_cases q2:0<done.length
  ·iterate 4 refine s1_ ?_
   refine rC (Calm.bin rfl rfl Er.neNil) ?_
   iterate 6 refine s1_ ?_
   refine cT_ ?_
   iterate 8 refine s1_ ?_
   refine k_v11 0 2 8 49 50 51 15 9 86 6 7 ?_
   iterate 2 refine s1_ ?_
   refine ⟨_,T2,⟨_,_,rfl,⟨_,_,rfl,rfl,rfl⟩,rfl⟩,less_,?_⟩
   exact ⟨Z,z,_,done,rfl,hR.cut.at_ hyd⟩
  ·have q3:done.length=0:=by omega
   have ow2:=ar_own0 hz hR.wks.own
   obtain ⟨i2,oA2⟩:=ar_ownA hz
   unfold wkB at ow2
   unfold arB at oA2
   have hsy:=ar_dev (d':=settleD z.d fun _=>true) (v:=.tuple #[]) hz (fun oE oW ok=>dev_Sync p z.d _ oE oW ok hR.ps.d.r)
   iterate 4 refine s1_ ?_
   refine rC (Calm.bin rfl rfl Er.neNil) ?_
   iterate 6 refine s1_ ?_
   refine cF_ ?_
   iterate 11 refine s1_ ?_
   refine ca_ rfl (hsy) ?_
   rintro _ T3 ⟨rfl,hA3⟩
   iterate 9 refine s1_ ?_
   refine ⟨_,T3,⟨_,_,rfl,⟨_,_,rfl,rfl,rfl⟩,rfl⟩,less_,?_⟩
   exact ⟨Z,_,_,done,by rw [q3];rfl,(hR.cut0 q3 hA3).at_ hyd⟩
structure CutR (pre:ByteArray) (w N:Nat) (rows:List (List Nat)) (d:D) (y:Pl) (done:List (List (List Nat))):Prop where
  dw:Dw y.d 0
  pm:done.flatten.Perm rows
  so:∀ r ∈ done,SortedR r∧RowsOK w r∧r ≠ []
  mn:done.length=0∨(done.length-1)*N<rows.length
  z:y.d.size=d.size
  dn:∀ j (h:j<done.length),Rec.FileR y.d (nameS pre j) w done[j].length (bs (done[j].flatMap recB))
  ud:used y.d.ext≤used d.ext+2*done.length+rows.length
  ot:∀ s,(∀ j,s≠nameS pre j)→ns y.d s=ns d s
theorem CutE.r {a p b c wk:Nat} {u:W5} {pre:ByteArray} {w N:Nat} {rows:List (List Nat)} {x0:Pl} {Z M:Mem} {y:Pl} {tm:Value} {done:List (List (List Nat))} {K:Mem} (h:CutE a p b c wk u pre w N rows x0 Z M y tm done K):CutR pre w N rows x0.d y done :=
 ⟨h.ps.d,h.pm,h.so,h.mn,h.z,fun j hj=>by
  obtain ⟨h1,h2⟩:=h.dn (by omega)
  exact file_of h.ps h2 (h1 j hj),h.ud,h.ot⟩
set_option maxHeartbeats 4000000 in
theorem run_Cut (v:Value) (d:D) (fn pre:ByteArray) (w m:Nat) (rows:List (List Nat)) (S:Mem) (hdk:DkR S v d) (hz:Dz d) (ho:openD d=(d,0)) (hd:Dw d 0) (hF:Rec.FileR d fn w rows.length (bs (rows.flatMap recB)))
  (hm1:24≤m) (hm2:m≤256) (h1:1≤w) (h8:w≤8) (hr:RowsOK w rows) (hc:rows.length≤9999) (hsm:5*w*rows.length+5*w*rows.length+512≤16384) (hp1:pre.size≠0) (hp2:pre.size≤12) (hfs:fn.size≤1024) (hfn:∀ j,fn≠nameS pre j) (hno:∀ j,ns d (nameS pre j)=0) (hroom:(used d.ext:Int)+3*rows.length+2≤d.size) :
  ACall Tryz.prog 8 #[v,.int .i64 (m:Nat),.string fn,.string pre] S fun r T=>∃ dv y done c1 c2 c3,r = .tuple #[dv,.int .i64 (List.length done:Nat),.agg #[.int .u64 c1,.int .u64 c2,.int .i64 c3],.int .i64 0]∧S.Less T∧DkR T dv y.d∧CutR pre w (sizeN m w) rows d y done:=by
 have hH:=has_new (m:=m) hd hF (by rw [size_bs,rows_len h1 hr])
 rw [bs_data] at hH
 have hxf:(newP d m).fr=blk 0 m:=rfl
 have hb:=fun M h=>fl_Begin v d m M (DkR.less hdk h) hz ho hm1 hm2
 obtain ⟨pe,ce,pw,cw,rfl,_,_⟩:=id hdk
 refine k_E4 (rs:=[.cell 8 28,.tmp 9,.cell 10 35,.tmp 11]) 46 Tryz.func8 rfl rfl rfl ?_
 iterate 2 refine s1_ ?_
 refine k_b5 rfl ?_
 intro b4 f4
 have g4:=f4
 repeat ((with_reducible replace g4:=fresh_set g4);obtain ⟨g4,_⟩:=g4)
 refine nl_ ?_
 refine ARun.alloc (lit_lt rfl) ty_zero_28 ?_
 intro b8 f8
 have g8:=f8
 repeat ((with_reducible replace g8:=fresh_set g8);obtain ⟨g8,_⟩:=g8)
 refine nl_ ?_
 refine s1_ ?_
 refine ARun.alloc (lit_lt rfl) ty_zero_35 ?_
 intro b10 f10
 have g10:=f10
 repeat ((with_reducible replace g10:=fresh_set g10);obtain ⟨g10,_⟩:=g10)
 refine nl_ ?_
 iterate 7 refine s1_ ?_
 refine ca_ rfl (((hb _ (Mem.less_set _ _ _ f4.1)).frame (r:=⟨28,[.int .i64 0,.slice none 0 0,.slice none 0 0,.int .i64 0,.bool false],5⟩) f8).frame (r:=⟨35,[.int .u64 0,.int .u64 0,.int .i64 0],3⟩) f10) ?_
 rintro _ S1 ⟨Sa,⟨T1,⟨S0,wk,a,p,b,u,rfl,hS0,hw0,hA⟩,f8a,hSa⟩,f10a,h1'⟩
 rw [h1',hSa];rw [hSa] at f10a;clear h1' S1 hSa Sa
 have hcu:=run_cut _ a p b m wk u fn pre w m rows (newP d m) T1 hA ⟨Mem.own_set_same _ _ _,Gro.empty _ _⟩ hxf hd hF hH hm1 hm2 h1 h8 hr hc hsm hp1 hp2 hfs hfn hno hroom S0 (Mem.less_set _ _ _ hw0.1) hw0.1
 iterate 16 refine s1_ ?_
 refine rC (Calm.bin rfl rfl Er.eqNil) ?_
 iterate 2 refine s1_ ?_
 refine cT_ ?_
 iterate 4 refine s1_ ?_
 refine ca_ rfl ((hcu.frame (r:=⟨28,[.int .i64 0,.slice none 0 0,.slice none 0 0,.int .i64 0,.bool false],5⟩) f8a).frame (r:=⟨35,[.int .u64 0,.int .u64 0,.int .i64 0],3⟩) f10a) ?_
 rintro _ S1 ⟨Sa,⟨T2,⟨Z,y,tm,done,rfl,hC⟩,f8b,hSa⟩,f10b,h1'⟩
 rw [h1',hSa];rw [hSa] at f10b;clear h1' S1 hSa Sa
 iterate 11 refine s1_ ?_
 refine ca_ rfl (((fl_End Z a p b m wk u tm y 0 T2 hC.ar hC.wk hC.ps).frame (r:=⟨28,[.int .i64 0,.slice none 0 0,.slice none 0 0,.int .i64 0,.bool false],5⟩) f8b).frame (r:=⟨35,[.int .u64 0,.int .u64 0,.int .i64 0],3⟩) f10b) ?_
 rintro _ S1 ⟨Sa,⟨T3,⟨dv,c1,c2,c3,rfl,hdk3,hT3⟩,f8c,hSa⟩,f10c,h1'⟩
 rw [h1',hSa];rw [hSa] at f10c;clear h1' S1 hSa Sa
 obtain ⟨pe3,ce3,pw3,cw3,rfl,_,_⟩:=id hdk3
 obtain ⟨g10c,n10⟩:=fresh_set f10c
 have hTT:=((hS0.trans hC.kb).trans (ar_less hC.ar)).trans hT3
 iterate 4 refine s1_ ?_
 refine ARun.alloc (lit_lt rfl) ty_zero_28 ?_
 intro b15 f15
 have g15:=f15
 repeat ((with_reducible replace g15:=fresh_set g15);obtain ⟨g15,_⟩:=g15)
 refine nl_ ?_
 refine ARun.alloc (lit_lt rfl) ty_zero_35 ?_
 intro b16 f16
 have g16:=f16
 repeat ((with_reducible replace g16:=fresh_set g16);obtain ⟨g16,_⟩:=g16)
 refine nl_ ?_
 iterate 12 refine s1_ ?_
 refine k_v17 0 1 2 3 4 8 9 10 11 12 13 14 25 15 16 17 41 ?_
 refine cF_ ?_
 iterate 3 refine s1_ ?_
 refine AWP.drawS ((T3.set b15 ⟨28,[.int .i64 y.d.size,.slice pe3 y.d.ext.length ce3,.slice pw3 y.d.waits.length cw3,.int .i64 y.d.fuse,.bool y.d.down],5⟩).set b16 ⟨35,[.int .u64 c1,.int .u64 c2,.int .i64 c3],3⟩) less_ [(0,true),(1,true),(2,true),(3,true),(4,false),(5,true),(6,false),(7,true)] [] mixed (by kernel_rfl) ?_
 iterate 4 refine s1_ ?_
 refine draw_only rfl ?_
 refine s1_ ?_
 refine arun_nil ⟨fun _=>less_,?_⟩
 refine s1_ ?_
 refine draw_only rfl ?_
 refine s1_ ?_
 refine arun_nil ⟨fun _=>less_,?_⟩
 iterate 4 refine s1_ ?_
 refine ⟨_,_,⟨_,_,_,rfl,.inr ⟨ty_agg_28,[_,_,_,_,_],ty_size_28,rds_,rfl⟩,⟨_,_,rfl,⟨_,_,_,rfl,.inr ⟨ty_agg_35,[_,_,_],ty_size_35,rds_,rfl⟩,⟨_,_,rfl,rfl,rfl⟩,rfl⟩,rfl⟩,rfl⟩,Mem.Less.refl _,?_⟩
 exact ⟨_,y,done,c1,c2,c3,rfl,((Mem.less_set _ _ _ f4.1).trans hTT).trans less_,hdk3.less less_,hC.r⟩
end Sto
end
end Go.Proofs.YtcpiknecmjbknaaGreatDoor
