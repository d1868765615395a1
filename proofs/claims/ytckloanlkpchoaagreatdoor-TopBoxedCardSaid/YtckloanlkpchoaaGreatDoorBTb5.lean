/-
  Texts that belong together: Sort2CI, Sort3CI, Od1, Od2, Od3, OdP, Od5, SortOB, Sort2OB.
-/
import Derived.Test.YtckloanlkpchoaaGreatDoorBTb4
set_option linter.unusedVariables false
set_option linter.unusedSimpArgs false
set_option linter.unusedSectionVars false
namespace Go.Proofs.YtckloanlkpchoaaGreatDoor
open Go.RowKit
open Mv Srt
open Go.Sort (swp insInner insOuter insertionSort siftDown heapBuild heapPop heapSort scanUp scanDown partLoop partition partEqLoop partitionEqual scanSorted shiftDown shiftUp partialIns partialInsertionSort order2 median medianAdjacent choosePivot reverseLoop reverseRange breakStep breakPatterns pdq bitsLen xorNext Hint)
set_option maxRecDepth 4000
set_option maxHeartbeats 4000000 in
theorem soC_rev {α : Type} [Inhabited α] {enc : α → Value} {cf : α → α → Int} {okP : α → Prop} {g : Nat} {cb : List Value} {S : Mem} (C : CmpC Tryz.prog enc cf okP g cb S) (b room n cap : Nat) (hb : Fresh S b) (hn : n ≤ 1048576) (d : Array α) (R : Rw okP n d) (ia ie : Int) (a e : Nat) (ha : ia = a) (he : ie = e) (hae : a < e) (hen : e ≤ n) :
  ACall Tryz.prog 127 #[.slice (some ⟨b,0,none⟩) n cap,.int .i64 ia,.int .i64 ie,.func (.func g) #[] cb.toArray] (S.set b ⟨3,(d).toList.map enc,room⟩) fun r S'=>S'=S.set b ⟨3,(reverseRange d a e).toList.map enc,room⟩∧Rw okP n (reverseRange d a e):=by
 subst ha he
 refine ACall.enter (rs:=[]) 34 [(0,.slice (some ⟨b,0,none⟩) n cap),(1,.int .i64 a),(2,.int .i64 e),(3,.func (.func g) #[] cb.toArray)] Tryz.func127 rfl rfl (Nat.le_of_ble_eq_true rfl) rfl ⟨rfl,rfl,rfl,rfl,trivial⟩ ?_
 iterate 6 refine s1_ ?_
 refine su_ [(0,_),(1,_),(2,_),(8,_)] ?_
 iterate 7 refine s1_ ?_
 refine su_ [(0,_),(1,_),(2,_),(8,_),(9,_)] ?_
 refine s1_ ?_
 refine AWP.loop (X:=Nat × Nat × Array α) (fun x=>[(0,.slice (some ⟨b,0,none⟩) n cap),(8,.int .i64 x.1),(9,.int .i64 x.2.1)]) (fun x=>S.set b ⟨3,(x.2.2).toList.map enc,room⟩) (fun x=>x.1≤n∧x.2.1<e∧Rw okP n x.2.2∧reverseLoop x.1 x.2.1 x.2.2=reverseRange d a e) (fun x=>x.2.1) ((a,e-1,d)) ⟨sb_,sb_,sb_,trivial⟩ (Mem.Less.refl _) (⟨by dsimp only;omega,by dsimp only;omega,R,rfl⟩) ?_
 rintro ⟨i,j,d1⟩ ⟨h1,h2,R1,h3⟩
 (try dsimp only at *)
 have z1:=R1.size
 by_cases hij:i<j
 ·iterate 8 refine s1_ ?_
  refine su_ [(0,_),(8,_),(9,_),(15,_)] ?_
  refine cT_ ?_
  iterate 4 refine s1_ ?_
  refine AWP.draw [(0,true),(1,true),(2,true),(3,true),(4,true),(5,true),(6,true),(7,true),(8,true),(9,true),(10,true),(11,true),(12,true),(13,false),(14,true),(15,false)] [13,15] mixed (by kernel_rfl) ?_
  iterate 7 refine s1_ ?_
  refine dC (hc:=Calm.load ty_plain_3 rfl (rd_row (k:=j) own_ rw_ rw_)) (h:=?_)
  iterate 3 refine s1_ ?_
  refine dC (hc:=Calm.load ty_plain_3 rfl (rd_row (k:=i) own_ rw_ rw_)) (h:=?_)
  refine s1_ ?_
  refine draw_only rfl ?_
  refine ARun.storeRow enc (i) rfl rfl ty_size_3 (C.one _) own_ rw_ rw_ ?_
  try simp only [k_ms,k_sz,k_ss,k_za,Nat.reduceAdd]
  refine arun_nil ⟨fun h=>absurd h (by decide),?_⟩
  refine s1_ ?_
  refine draw_only rfl ?_
  refine ARun.storeRow enc (j) rfl rfl ty_size_3 (C.one _) own_ rw_ rw_ ?_
  try simp only [k_ms,k_sz,k_ss,k_za,Nat.reduceAdd]
  refine arun_nil ⟨fun h=>absurd h (by decide),?_⟩
  iterate 2 refine s1_ ?_
  refine su_ [(0,_),(8,_),(9,_),(15,_)] ?_
  iterate 7 refine s1_ ?_
  refine su_ [(0,_),(8,_),(9,_),(15,_)] ?_
  iterate 7 refine s1_ ?_
  refine ⟨(i+1,j-1,swp d1 i j),?_,?_,?_,?_⟩
  all_goals (try dsimp only)
  ·exact ⟨sb_,sb_,sb_,trivial⟩
  ·exact Mem.Less.refl _
  ·exact ⟨by omega,by omega,R1.swp _ _ (by omega) (by omega),(rev_go hij).trans h3⟩
  ·omega
 ·iterate 8 refine s1_ ?_
  refine su_ [(0,_),(8,_),(9,_),(15,_)] ?_
  refine cF_ ?_
  iterate 4 refine s1_ ?_
  refine ⟨_,_,rfl,Mem.Less.refl _,?_⟩
  rw [← h3,← rev_end hij];exact ⟨rfl,R1⟩
set_option maxHeartbeats 1000000 in
theorem soC_order2 {α : Type} [Inhabited α] {enc : α → Value} {cf : α → α → Int} {okP : α → Prop} {g : Nat} {cb : List Value} {S : Mem} (C : CmpC Tryz.prog enc cf okP g cb S) (b room n cap : Nat) (hb : Fresh S b) (hn : n ≤ 1048576) (d : Array α) (R : Rw okP n d) (c : Nat) (hc : Fresh S c) (hcb : c ≠ b) (ia ie : Int) (a e k : Nat) (ea : ia = a) (ee : ie = e) (ha : a < n) (he : e < n) (hk : k ≤ 1000) :
  ACall Tryz.prog 149 #[.slice (some ⟨b,0,none⟩) n cap,.int .i64 ia,.int .i64 ie,.pointer (some ⟨c,0,none⟩),.func (.func g) #[] cb.toArray] ((S.set b ⟨3,(d).toList.map enc,room⟩).set c ⟨3,[.int .i64 ((k:Nat):Int)],1⟩) fun r S'=>r = .tuple #[.int .i64 ((order2 (lq cf) d a e k).1:Nat),.int .i64 ((order2 (lq cf) d a e k).2.1:Nat)]∧S'=(S.set b ⟨3,(d).toList.map enc,room⟩).set c ⟨3,[.int .i64 (((order2 (lq cf) d a e k).2.2:Nat):Int)],1⟩:=by
 subst ea ee
 have z:=R.size
 refine ACall.enter (rs:=[.tmp 10,.tmp 11]) 32 [(0,.slice (some ⟨b,0,none⟩) n cap),(1,.int .i64 a),(2,.int .i64 e),(3,.pointer (some ⟨c,0,none⟩)),(4,.func (.func g) #[] cb.toArray)] Tryz.func149 rfl rfl (Nat.le_of_ble_eq_true rfl) rfl ⟨rfl,rfl,rfl,rfl,rfl,trivial⟩ ?_
 iterate 8 refine s1_ ?_
 refine AWP.draw [(0,true),(1,true),(2,true),(3,true),(4,true),(5,true),(6,true),(7,true),(8,true),(9,false),(10,true)] [] mixed (by kernel_rfl) ?_
 iterate 4 refine s1_ ?_
 refine dC (hc:=Calm.load ty_plain_3 rfl (rd_row (k:=e) own_ rw_ rw_)) (h:=?_)
 iterate 3 refine s1_ ?_
 refine dC (hc:=Calm.load ty_plain_3 rfl (rd_row (k:=a) own_ rw_ rw_)) (h:=?_)
 refine draw_only rfl ?_
 refine ARun.callV (first:=[]) (cap:=cb) (lit_lt rfl) C.go rfl rfl (C.call less_ (R.ok (e) rw_) (R.ok (a) rw_)) ?_
 rintro _ _ ⟨rfl,rfl⟩
 refine arun_nil ⟨fun _=>less_,?_⟩
 iterate 3 refine s1_ ?_
 refine su_ [(0,_),(1,_),(2,_),(3,_),(4,_),(10,_),(11,_),(22,_)] ?_
 refine AWP.condB rfl (fun hl=>?_) (fun hl=>?_)
 ·have hl:(lq cf) d[e]! d[a]! = true:=hl
  iterate 10 refine s1_ ?_
  refine su_ [(0,_),(1,_),(2,_),(3,_),(4,_),(10,_),(11,_),(22,_)] ?_
  iterate 8 refine s1_ ?_
  refine su_ [(0,_),(1,_),(2,_),(3,_),(4,_),(10,_),(11,_),(22,_)] ?_
  iterate 2 refine s1_ ?_
  refine ⟨_,_,⟨_,_,rfl,⟨_,_,rfl,rfl,rfl⟩,rfl⟩,Mem.Less.refl _,?_⟩
  exact ⟨by rw [order2,if_pos hl];rfl,by rw [order2,if_pos hl];rfl⟩
 ·have hl:(lq cf) d[e]! d[a]! = false:=hl
  iterate 10 refine s1_ ?_
  refine su_ [(0,_),(1,_),(2,_),(3,_),(4,_),(10,_),(11,_),(22,_)] ?_
  refine s1_ ?_
  refine ⟨_,_,⟨_,_,rfl,⟨_,_,rfl,rfl,rfl⟩,rfl⟩,Mem.Less.refl _,?_⟩
  exact ⟨by rw [order2,if_neg (by intro h;exact Bool.noConfusion (hl.symm.trans h))];rfl,by rw [order2,if_neg (by intro h;exact Bool.noConfusion (hl.symm.trans h))]⟩
set_option maxHeartbeats 1000000 in
theorem soC_median {α : Type} [Inhabited α] {enc : α → Value} {cf : α → α → Int} {okP : α → Prop} {g : Nat} {cb : List Value} {S : Mem} (C : CmpC Tryz.prog enc cf okP g cb S) (b room n cap : Nat) (hb : Fresh S b) (hn : n ≤ 1048576) (d : Array α) (R : Rw okP n d) (c : Nat) (hc : Fresh S c) (hcb : c ≠ b) (ia ie io : Int) (a e o k : Nat) (ea : ia = a) (ee : ie = e) (eo : io = o) (ha : a < n) (he : e < n) (ho : o < n) (hk : k ≤ 900) :
  ACall Tryz.prog 145 #[.slice (some ⟨b,0,none⟩) n cap,.int .i64 ia,.int .i64 ie,.int .i64 io,.pointer (some ⟨c,0,none⟩),.func (.func g) #[] cb.toArray] ((S.set b ⟨3,(d).toList.map enc,room⟩).set c ⟨3,[.int .i64 ((k:Nat):Int)],1⟩) fun r S'=>r = .int .i64 ((median (lq cf) d a e o k).1:Nat)∧S'=(S.set b ⟨3,(d).toList.map enc,room⟩).set c ⟨3,[.int .i64 (((median (lq cf) d a e o k).2:Nat):Int)],1⟩:=by
 subst ea ee eo
 obtain ⟨⟨x1,y1,k1⟩,h1⟩ : ∃ q,q=order2 (lq cf) d a e k:=⟨_,rfl⟩
 obtain ⟨⟨x2,y2,k2⟩,h2⟩ : ∃ q,q=order2 (lq cf) d y1 o k1:=⟨_,rfl⟩
 obtain ⟨⟨x3,y3,k3⟩,h3⟩ : ∃ q,q=order2 (lq cf) d x1 x2 k2:=⟨_,rfl⟩
 have m1:=ord2_lt (lq cf) h1 ha he
 have m2:=ord2_lt (lq cf) h2 m1.2.1 ho
 have m3:=ord2_lt (lq cf) h3 m1.1 m2.1
 have c1:=soC_order2 C b room n cap hb hn d R c hc hcb a e a e k rfl rfl ha he (by omega)
 have c2:=soC_order2 C b room n cap hb hn d R c hc hcb y1 o y1 o k1 rfl rfl m1.2.1 ho (by omega)
 have c3:=soC_order2 C b room n cap hb hn d R c hc hcb x1 x2 x1 x2 k2 rfl rfl m1.1 m2.1 (by omega)
 have hm:median (lq cf) d a e o k=(y3,k3):=by
  unfold median;simp only [← h1,← h2,← h3]
 rw [hm]
 rw [← h1] at c1;rw [← h2] at c2;rw [← h3] at c3
 dsimp only at c1 c2 c3 ⊢
 clear h1 h2 h3 hm
 refine ACall.enter (rs:=[.tmp 12]) 41 [(0,.slice (some ⟨b,0,none⟩) n cap),(1,.int .i64 a),(2,.int .i64 e),(3,.int .i64 o),(4,.pointer (some ⟨c,0,none⟩)),(5,.func (.func g) #[] cb.toArray)] Tryz.func145 rfl rfl (Nat.le_of_ble_eq_true rfl) rfl ⟨rfl,rfl,rfl,rfl,rfl,rfl,trivial⟩ ?_
 iterate 12 refine s1_ ?_
 refine ca_ rfl (c1) ?_
 rintro _ _ ⟨rfl,rfl⟩
 iterate 7 refine s1_ ?_
 refine su_ [(0,_),(1,_),(2,_),(3,_),(4,_),(5,_),(12,_)] ?_
 iterate 7 refine s1_ ?_
 refine ca_ rfl (c2) ?_
 rintro _ _ ⟨rfl,rfl⟩
 iterate 7 refine s1_ ?_
 refine su_ [(0,_),(1,_),(2,_),(3,_),(4,_),(5,_),(12,_)] ?_
 iterate 7 refine s1_ ?_
 refine ca_ rfl (c3) ?_
 rintro _ _ ⟨rfl,rfl⟩
 iterate 7 refine s1_ ?_
 refine su_ [(0,_),(1,_),(2,_),(3,_),(4,_),(5,_),(12,_)] ?_
 iterate 6 refine s1_ ?_
 refine su_ [(0,_),(1,_),(2,_),(3,_),(4,_),(5,_),(12,_)] ?_
 refine s1_ ?_
 refine ⟨_,_,⟨_,_,rfl,rfl,rfl⟩,Mem.Less.refl _,?_⟩
 exact ⟨rfl,rfl⟩
set_option maxHeartbeats 1000000 in
theorem soC_medadj {α : Type} [Inhabited α] {enc : α → Value} {cf : α → α → Int} {okP : α → Prop} {g : Nat} {cb : List Value} {S : Mem} (C : CmpC Tryz.prog enc cf okP g cb S) (b room n cap : Nat) (hb : Fresh S b) (hn : n ≤ 1048576) (d : Array α) (R : Rw okP n d) (c : Nat) (hc : Fresh S c) (hcb : c ≠ b) (ia : Int) (a k : Nat) (ea : ia = a) (ha : 0 < a) (ha2 : a + 1 < n) (hk : k ≤ 900) :
  ACall Tryz.prog 144 #[.slice (some ⟨b,0,none⟩) n cap,.int .i64 ia,.pointer (some ⟨c,0,none⟩),.func (.func g) #[] cb.toArray] ((S.set b ⟨3,(d).toList.map enc,room⟩).set c ⟨3,[.int .i64 ((k:Nat):Int)],1⟩) fun r S'=>r = .int .i64 ((medianAdjacent (lq cf) d a k).1:Nat)∧S'=(S.set b ⟨3,(d).toList.map enc,room⟩).set c ⟨3,[.int .i64 (((medianAdjacent (lq cf) d a k).2:Nat):Int)],1⟩:=by
 subst ea
 obtain ⟨a,rfl⟩ : ∃ q,a=q+1:=⟨a-1,by omega⟩
 refine ACall.enter (rs:=[.tmp 8]) 18 [(0,.slice (some ⟨b,0,none⟩) n cap),(1,.int .i64 ((a+1:Nat):Int)),(2,.pointer (some ⟨c,0,none⟩)),(3,.func (.func g) #[] cb.toArray)] Tryz.func144 rfl rfl (Nat.le_of_ble_eq_true rfl) rfl ⟨rfl,rfl,rfl,rfl,trivial⟩ ?_
 iterate 15 refine s1_ ?_
 refine ca_ rfl (soC_median C b room n cap hb hn d R c hc hcb _ _ _ a (a+1) (a+2) k om_ rfl om_ (by omega) (by omega) (by omega) hk) ?_
 rintro _ _ ⟨rfl,rfl⟩
 iterate 3 refine s1_ ?_
 refine su_ [(0,_),(1,_),(2,_),(3,_),(8,_)] ?_
 refine s1_ ?_
 refine ⟨_,_,⟨_,_,rfl,rfl,rfl⟩,Mem.Less.refl _,?_⟩
 exact ⟨rfl,rfl⟩
set_option maxHeartbeats 4000000 in
theorem soC_pivot {α : Type} [Inhabited α] {enc : α → Value} {cf : α → α → Int} {okP : α → Prop} {g : Nat} {cb : List Value} {S : Mem} (C : CmpC Tryz.prog enc cf okP g cb S) (b room n cap : Nat) (hb : Fresh S b) (hn : n ≤ 1048576) (d : Array α) (R : Rw okP n d) (ia ie : Int) (a e : Nat) (ha : ia = a) (he : ie = e) (hae : a < e) (hen : e ≤ n) :
  ACall Tryz.prog 126 #[.slice (some ⟨b,0,none⟩) n cap,.int .i64 ia,.int .i64 ie,.func (.func g) #[] cb.toArray] (S.set b ⟨3,(d).toList.map enc,room⟩) fun r S'=>r = .tuple #[.int .i64 ((choosePivot (lq cf) d a e).1:Nat),.int .i64 (hintI (choosePivot (lq cf) d a e).2)]∧S'=S.set b ⟨3,(d).toList.map enc,room⟩∧a≤(choosePivot (lq cf) d a e).1∧(choosePivot (lq cf) d a e).1<e:=by
 subst ha he
 obtain ⟨L,rfl⟩ : ∃ L,e=a+L:=⟨e-a,by omega⟩
 have z:=R.size
 refine ACall.enter (rs:=[.tmp 8,.tmp 9]) 63 [(0,.slice (some ⟨b,0,none⟩) n cap),(1,.int .i64 a),(2,.int .i64 ((a+L:Nat):Int)),(3,.func (.func g) #[] cb.toArray)] Tryz.func126 rfl rfl (Nat.le_of_ble_eq_true rfl) rfl ⟨rfl,rfl,rfl,rfl,trivial⟩ ?_
 by_cases h8:8≤L
 ·iterate 14 refine s1_ ?_
  refine su_ [(0,_),(1,_),(2,_),(3,_),(8,_),(9,_),(10,_)] ?_
  iterate 2 refine s1_ ?_
  refine ARun.alloc (lit_lt rfl) ty_zero_3 ?_
  intro b11 f11
  have g11:=f11
  repeat ((with_reducible replace g11:=fresh_set g11);obtain ⟨g11,_⟩:=g11)
  refine nl_ ?_
  iterate 12 refine s1_ ?_
  refine su_ [(0,_),(1,_),(2,_),(3,_),(8,_),(9,_),(10,_),(11,_),(12,_)] ?_
  iterate 10 refine s1_ ?_
  refine su_ [(0,_),(1,_),(2,_),(3,_),(8,_),(9,_),(10,_),(11,_),(12,_),(13,_)] ?_
  iterate 10 refine s1_ ?_
  refine su_ [(0,_),(1,_),(2,_),(3,_),(8,_),(9,_),(10,_),(11,_),(12,_),(13,_),(14,_)] ?_
  iterate 7 refine s1_ ?_
  refine su_ [(0,_),(1,_),(2,_),(3,_),(8,_),(9,_),(10,_),(11,_),(12,_),(13,_),(14,_),(34,_)] ?_
  refine cT_ ?_
  by_cases h50:50≤L
  ·iterate 7 refine s1_ ?_
   refine su_ [(0,_),(1,_),(2,_),(3,_),(8,_),(9,_),(10,_),(11,_),(12,_),(13,_),(14,_),(34,_),(36,_)] ?_
   refine cT_ ?_
   obtain ⟨⟨i1,k1⟩,q1⟩ : ∃ q,q=medianAdjacent (lq cf) d (a+L / 4*1) 0:=⟨_,rfl⟩
   obtain ⟨⟨j1,k2⟩,q2⟩ : ∃ q,q=medianAdjacent (lq cf) d (a+L / 4*2) k1:=⟨_,rfl⟩
   obtain ⟨⟨o1,k3⟩,q3⟩ : ∃ q,q=medianAdjacent (lq cf) d (a+L / 4*3) k2:=⟨_,rfl⟩
   obtain ⟨⟨pv,k⟩,q4⟩ : ∃ q,q=median (lq cf) d i1 j1 o1 k3:=⟨_,rfl⟩
   have m1:=medadj_lt (lq cf) q1 (lo:=a) (hi:=a+L) (by omega) (by omega)
   have m2:=medadj_lt (lq cf) q2 (lo:=a) (hi:=a+L) (by omega) (by omega)
   have m3:=medadj_lt (lq cf) q3 (lo:=a) (hi:=a+L) (by omega) (by omega)
   have hr:=median_lt (lq cf) q4 (lo:=a) (hi:=a+L) m1.1 m2.1 m3.1
   have n1:=m1.2;have n2:=m2.2;have n3:=m3.2;have n4:=hr.2
   have hp:choosePivot (lq cf) d a (a+L)=(pv,if k=0 then .increasing else if k=12 then .decreasing else .unknown):=by unfold choosePivot;simp only [Nat.add_sub_cancel_left,if_pos h8,if_pos h50,← q1,← q2,← q3,← q4]
   replace hr:=hr.1
   iterate 5 refine s1_ ?_
   refine ca_ rfl ((q1 ▸ soC_medadj C b room n cap hb hn d R b11 g11 (by assumption) _ (a+L / 4*1) 0 om_ (by omega) (by omega) (by omega))) ?_
   rintro _ _ ⟨rfl,rfl⟩
   iterate 3 refine s1_ ?_
   refine su_ [(0,_),(1,_),(2,_),(3,_),(8,_),(9,_),(10,_),(11,_),(12,_),(13,_),(14,_),(34,_),(36,_)] ?_
   iterate 5 refine s1_ ?_
   refine ca_ rfl ((q2 ▸ soC_medadj C b room n cap hb hn d R b11 g11 (by assumption) _ (a+L / 4*2) k1 om_ (by omega) (by omega) (by omega))) ?_
   rintro _ _ ⟨rfl,rfl⟩
   iterate 3 refine s1_ ?_
   refine su_ [(0,_),(1,_),(2,_),(3,_),(8,_),(9,_),(10,_),(11,_),(12,_),(13,_),(14,_),(34,_),(36,_)] ?_
   iterate 4 refine s1_ ?_
   refine ca_ rfl ((q3 ▸ soC_medadj C b room n cap hb hn d R b11 g11 (by assumption) _ (a+L / 4*3) k2 om_ (by omega) (by omega) (by omega))) ?_
   rintro _ _ ⟨rfl,rfl⟩
   iterate 3 refine s1_ ?_
   refine su_ [(0,_),(1,_),(2,_),(3,_),(8,_),(9,_),(10,_),(11,_),(12,_),(13,_),(14,_),(34,_),(36,_)] ?_
   iterate 6 refine s1_ ?_
   refine ca_ rfl ((q4 ▸ soC_median C b room n cap hb hn d R b11 g11 (by assumption) _ _ _ i1 j1 o1 k3 rfl rfl rfl (by omega) (by omega) (by omega) (by omega))) ?_
   rintro _ _ ⟨rfl,rfl⟩
   iterate 3 refine s1_ ?_
   refine su_ [(0,_),(1,_),(2,_),(3,_),(8,_),(9,_),(10,_),(11,_),(12,_),(13,_),(14,_),(34,_),(36,_)] ?_
   by_cases k0:k=0
   ·subst k0
    iterate 12 refine s1_ ?_
    refine su_ [(0,_),(1,_),(2,_),(3,_),(8,_),(9,_),(10,_),(11,_),(12,_),(13,_),(14,_),(34,_),(36,_),(55,_),(57,_)] ?_
    refine cT_ ?_
    iterate 7 refine s1_ ?_
    refine su_ [(0,_),(1,_),(2,_),(3,_),(8,_),(9,_),(10,_),(11,_),(12,_),(13,_),(14,_),(34,_),(36,_),(55,_),(57,_)] ?_
    iterate 2 refine s1_ ?_
    refine ⟨_,S.set b ⟨3,(d).toList.map enc,room⟩,⟨_,_,rfl,⟨_,_,rfl,rfl,rfl⟩,rfl⟩,less_,?_⟩
    exact ⟨by rw [hp];rfl,rfl,by rw [hp];exact hr⟩
   ·iterate 12 refine s1_ ?_
    refine su_ [(0,_),(1,_),(2,_),(3,_),(8,_),(9,_),(10,_),(11,_),(12,_),(13,_),(14,_),(34,_),(36,_),(55,_),(57,_)] ?_
    refine cF_ ?_
    by_cases k1:k=12
    ·subst k1
     iterate 6 refine s1_ ?_
     refine su_ [(0,_),(1,_),(2,_),(3,_),(8,_),(9,_),(10,_),(11,_),(12,_),(13,_),(14,_),(34,_),(36,_),(55,_),(57,_),(60,_)] ?_
     refine cT_ ?_
     iterate 7 refine s1_ ?_
     refine su_ [(0,_),(1,_),(2,_),(3,_),(8,_),(9,_),(10,_),(11,_),(12,_),(13,_),(14,_),(34,_),(36,_),(55,_),(57,_),(60,_)] ?_
     iterate 2 refine s1_ ?_
     refine ⟨_,S.set b ⟨3,(d).toList.map enc,room⟩,⟨_,_,rfl,⟨_,_,rfl,rfl,rfl⟩,rfl⟩,less_,?_⟩
     exact ⟨by rw [hp];rfl,rfl,by rw [hp];exact hr⟩
    ·iterate 6 refine s1_ ?_
     refine su_ [(0,_),(1,_),(2,_),(3,_),(8,_),(9,_),(10,_),(11,_),(12,_),(13,_),(14,_),(34,_),(36,_),(55,_),(57,_),(60,_)] ?_
     refine cF_ ?_
     iterate 7 refine s1_ ?_
     refine su_ [(0,_),(1,_),(2,_),(3,_),(8,_),(9,_),(10,_),(11,_),(12,_),(13,_),(14,_),(34,_),(36,_),(55,_),(57,_),(60,_)] ?_
     iterate 2 refine s1_ ?_
     refine ⟨_,S.set b ⟨3,(d).toList.map enc,room⟩,⟨_,_,rfl,⟨_,_,rfl,rfl,rfl⟩,rfl⟩,less_,?_⟩
     exact ⟨by rw [hp,piv_hint k0 k1];rfl,rfl,by rw [hp];exact hr⟩
  ·iterate 7 refine s1_ ?_
   refine su_ [(0,_),(1,_),(2,_),(3,_),(8,_),(9,_),(10,_),(11,_),(12,_),(13,_),(14,_),(34,_),(36,_)] ?_
   refine cF_ ?_
   obtain ⟨⟨pv,k⟩,q4⟩ : ∃ q,q=median (lq cf) d (a+L / 4*1) (a+L / 4*2) (a+L / 4*3) 0:=⟨_,rfl⟩
   have hr:=median_lt (lq cf) q4 (lo:=a) (hi:=a+L) (by omega) (by omega) (by omega)
   have n4:=hr.2
   have hp:choosePivot (lq cf) d a (a+L)=(pv,if k=0 then .increasing else if k=12 then .decreasing else .unknown):=by unfold choosePivot;simp only [Nat.add_sub_cancel_left,if_pos h8,if_neg h50,← q4]
   replace hr:=hr.1
   iterate 8 refine s1_ ?_
   refine ca_ rfl ((q4 ▸ soC_median C b room n cap hb hn d R b11 g11 (by assumption) _ _ _ (a+L / 4*1) (a+L / 4*2) (a+L / 4*3) 0 om_ om_ om_ (by omega) (by omega) (by omega) (by omega))) ?_
   rintro _ _ ⟨rfl,rfl⟩
   iterate 3 refine s1_ ?_
   refine su_ [(0,_),(1,_),(2,_),(3,_),(8,_),(9,_),(10,_),(11,_),(12,_),(13,_),(14,_),(34,_),(36,_)] ?_
   by_cases k0:k=0
   ·subst k0
    iterate 12 refine s1_ ?_
    refine su_ [(0,_),(1,_),(2,_),(3,_),(8,_),(9,_),(10,_),(11,_),(12,_),(13,_),(14,_),(34,_),(36,_),(55,_),(57,_)] ?_
    refine cT_ ?_
    iterate 7 refine s1_ ?_
    refine su_ [(0,_),(1,_),(2,_),(3,_),(8,_),(9,_),(10,_),(11,_),(12,_),(13,_),(14,_),(34,_),(36,_),(55,_),(57,_)] ?_
    iterate 2 refine s1_ ?_
    refine ⟨_,S.set b ⟨3,(d).toList.map enc,room⟩,⟨_,_,rfl,⟨_,_,rfl,rfl,rfl⟩,rfl⟩,less_,?_⟩
    exact ⟨by rw [hp];rfl,rfl,by rw [hp];exact hr⟩
   ·iterate 12 refine s1_ ?_
    refine su_ [(0,_),(1,_),(2,_),(3,_),(8,_),(9,_),(10,_),(11,_),(12,_),(13,_),(14,_),(34,_),(36,_),(55,_),(57,_)] ?_
    refine cF_ ?_
    by_cases k1:k=12
    ·subst k1
     iterate 6 refine s1_ ?_
     refine su_ [(0,_),(1,_),(2,_),(3,_),(8,_),(9,_),(10,_),(11,_),(12,_),(13,_),(14,_),(34,_),(36,_),(55,_),(57,_),(60,_)] ?_
     refine cT_ ?_
     iterate 7 refine s1_ ?_
     refine su_ [(0,_),(1,_),(2,_),(3,_),(8,_),(9,_),(10,_),(11,_),(12,_),(13,_),(14,_),(34,_),(36,_),(55,_),(57,_),(60,_)] ?_
     iterate 2 refine s1_ ?_
     refine ⟨_,S.set b ⟨3,(d).toList.map enc,room⟩,⟨_,_,rfl,⟨_,_,rfl,rfl,rfl⟩,rfl⟩,less_,?_⟩
     exact ⟨by rw [hp];rfl,rfl,by rw [hp];exact hr⟩
    ·iterate 6 refine s1_ ?_
     refine su_ [(0,_),(1,_),(2,_),(3,_),(8,_),(9,_),(10,_),(11,_),(12,_),(13,_),(14,_),(34,_),(36,_),(55,_),(57,_),(60,_)] ?_
     refine cF_ ?_
     iterate 7 refine s1_ ?_
     refine su_ [(0,_),(1,_),(2,_),(3,_),(8,_),(9,_),(10,_),(11,_),(12,_),(13,_),(14,_),(34,_),(36,_),(55,_),(57,_),(60,_)] ?_
     iterate 2 refine s1_ ?_
     refine ⟨_,S.set b ⟨3,(d).toList.map enc,room⟩,⟨_,_,rfl,⟨_,_,rfl,rfl,rfl⟩,rfl⟩,less_,?_⟩
     exact ⟨by rw [hp,piv_hint k0 k1];rfl,rfl,by rw [hp];exact hr⟩
 ·iterate 14 refine s1_ ?_
  refine su_ [(0,_),(1,_),(2,_),(3,_),(8,_),(9,_),(10,_)] ?_
  iterate 2 refine s1_ ?_
  refine ARun.alloc (lit_lt rfl) ty_zero_3 ?_
  intro b11 f11
  have g11:=f11
  repeat ((with_reducible replace g11:=fresh_set g11);obtain ⟨g11,_⟩:=g11)
  refine nl_ ?_
  iterate 12 refine s1_ ?_
  refine su_ [(0,_),(1,_),(2,_),(3,_),(8,_),(9,_),(10,_),(11,_),(12,_)] ?_
  iterate 10 refine s1_ ?_
  refine su_ [(0,_),(1,_),(2,_),(3,_),(8,_),(9,_),(10,_),(11,_),(12,_),(13,_)] ?_
  iterate 10 refine s1_ ?_
  refine su_ [(0,_),(1,_),(2,_),(3,_),(8,_),(9,_),(10,_),(11,_),(12,_),(13,_),(14,_)] ?_
  iterate 7 refine s1_ ?_
  refine su_ [(0,_),(1,_),(2,_),(3,_),(8,_),(9,_),(10,_),(11,_),(12,_),(13,_),(14,_),(34,_)] ?_
  refine cF_ ?_
  have hp:choosePivot (lq cf) d a (a+L)=(a+L / 4*2,.increasing):=by unfold choosePivot;simp only [Nat.add_sub_cancel_left,if_neg h8];rfl
  iterate 14 refine s1_ ?_
  refine su_ [(0,_),(1,_),(2,_),(3,_),(8,_),(9,_),(10,_),(11,_),(12,_),(13,_),(14,_),(34,_),(55,_),(57,_)] ?_
  refine cT_ ?_
  iterate 7 refine s1_ ?_
  refine su_ [(0,_),(1,_),(2,_),(3,_),(8,_),(9,_),(10,_),(11,_),(12,_),(13,_),(14,_),(34,_),(55,_),(57,_)] ?_
  iterate 2 refine s1_ ?_
  refine ⟨_,S.set b ⟨3,(d).toList.map enc,room⟩,⟨_,_,rfl,⟨_,_,rfl,rfl,rfl⟩,rfl⟩,less_,?_⟩
  exact ⟨by rw [hp];exact piv_val om_,rfl,by rw [hp];exact ⟨by show a≤a+L / 4*2;omega,by show a+L / 4*2<a+L;omega⟩⟩
set_option maxHeartbeats 4000000 in
theorem soC_brk {α : Type} [Inhabited α] {enc : α → Value} {cf : α → α → Int} {okP : α → Prop} {g : Nat} {cb : List Value} {S : Mem} (C : CmpC Tryz.prog enc cf okP g cb S) (b room n cap : Nat) (hb : Fresh S b) (hn : n ≤ 1048576) (d : Array α) (R : Rw okP n d) (ia ie : Int) (a e : Nat) (ha : ia = a) (he : ie = e) (hae : a ≤ e) (hen : e ≤ n) :
  ACall Tryz.prog 125 #[.slice (some ⟨b,0,none⟩) n cap,.int .i64 ia,.int .i64 ie,.func (.func g) #[] cb.toArray] (S.set b ⟨3,(d).toList.map enc,room⟩) fun r S'=>S'=S.set b ⟨3,(breakPatterns d a e).toList.map enc,room⟩∧Rw okP n (breakPatterns d a e):=by
 subst ha he
 obtain ⟨L,rfl⟩ : ∃ L,e=a+L:=⟨e-a,by omega⟩
 have z:=R.size
 by_cases h8:8≤L
 ·have hbp:=bp_eq (d:=d) (a:=a) h8
  have hmb:=bp_mod L (by omega) (by omega)
  generalize hmo:1 <<< bitsLen L=mo at *
  generalize hba:a+L / 4*2-1=ba at *
  have hoL:((UInt64.ofNat L).toNat:Nat)=L:=by rw [UInt64.toNat_ofNat'];exact Nat.mod_eq_of_lt (by omega)
  refine ACall.enter (rs:=[]) 67 [(0,.slice (some ⟨b,0,none⟩) n cap),(1,.int .i64 a),(2,.int .i64 ((a+L:Nat):Int)),(3,.func (.func g) #[] cb.toArray)] Tryz.func125 rfl rfl (Nat.le_of_ble_eq_true rfl) rfl ⟨rfl,rfl,rfl,rfl,trivial⟩ ?_
  iterate 8 refine s1_ ?_
  refine su_ [(0,_),(1,_),(2,_),(8,_)] ?_
  iterate 6 refine s1_ ?_
  refine su_ [(0,_),(1,_),(2,_),(8,_),(17,_)] ?_
  refine cT_ ?_
  iterate 3 refine s1_ ?_
  refine rC (Calm.conv rfl (conv_intW Tryz.underlying3 Tryz.underlying224 (IntWalk.u64_in _ (by omega)))) ?_
  refine ARun.alloc (lit_lt rfl) ty_zero_224 ?_
  intro b9 f9
  have g9:=f9
  repeat ((with_reducible replace g9:=fresh_set g9);obtain ⟨g9,_⟩:=g9)
  refine nl_ ?_
  iterate 3 refine s1_ ?_
  refine su_ [(0,_),(1,_),(2,_),(8,_),(17,_),(9,_)] ?_
  refine AWP.less ((S.set b ⟨3,(d).toList.map enc,room⟩).set b9 (xorB (UInt64.ofNat L).toNat)) (by unfold xorB;rw [hoL,show ((a+L:Nat):Int)-(a:Int)=(L:Int) by omega];exact Mem.Less.refl _) ?_
  iterate 3 refine s1_ ?_
  refine ca_ rfl ((hmo ▸ so_pow _ L om_ (by omega) _)) ?_
  rintro _ _ ⟨rfl,rfl⟩
  iterate 3 refine s1_ ?_
  refine su_ [(0,_),(1,_),(2,_),(8,_),(17,_),(9,_),(10,_)] ?_
  iterate 11 refine s1_ ?_
  refine su_ [(0,_),(1,_),(2,_),(8,_),(17,_),(9,_),(10,_),(11,_)] ?_
  refine s1_ ?_
  refine AWP.loop (X:=Nat × UInt64 × Array α) (fun x=>[(0,.slice (some ⟨b,0,none⟩) n cap),(1,.int .i64 a),(8,.int .i64 L),(9,.pointer (some ⟨b9,0,none⟩)),(10,.int .u64 mo),(11,.int .i64 ((ba+(3-x.1):Nat):Int))]) (fun x=>(S.set b ⟨3,(x.2.2).toList.map enc,room⟩).set b9 (xorB (x.2.1).toNat)) (fun x=>x.1≤3∧Rw okP n x.2.2∧bpR a L mo ba x.1 x.2=bpR a L mo ba 3 (UInt64.ofNat L,d)) (fun x=>x.1) ((3,UInt64.ofNat L,d)) ⟨sb_,sb_,sb_,sb_,sb_,sb_,trivial⟩ (Mem.Less.refl _) (⟨Nat.le_refl _,R,rfl⟩) ?_
  rintro ⟨k,r,d1⟩ ⟨h1,R1,h3⟩
  (try dsimp only at *)
  have z1:=R1.size
  by_cases hk:0<k
  ·obtain ⟨k,rfl⟩ : ∃ q,k=q+1:=⟨k-1,by omega⟩
   iterate 13 refine s1_ ?_
   refine su_ [(0,_),(1,_),(8,_),(9,_),(10,_),(11,_),(35,_)] ?_
   refine cT_ ?_
   obtain ⟨r',hr'⟩ : ∃ r',r'=xorNext r:=⟨_,rfl⟩
   obtain ⟨o,ho⟩ : ∃ o,o=r'.toNat &&& (mo-1):=⟨_,rfl⟩
   have ho1:o≤mo-1:=by rw [ho];exact Nat.and_le_right
   have han:=and_n64 r'.toNat (mo-1) r'.toNat_lt (by omega)
   rw [← ho] at han
   iterate 6 refine s1_ ?_
   refine ca_ rfl ((hr' ▸ so_next b9 r _ (fresh_more g9 (by assumption)))) ?_
   rintro _ _ ⟨rfl,rfl⟩
   refine s1_ ?_
   refine rC (Calm.bin rfl rfl (bin_subW (sub_u64 mo (by omega) (by omega)))) ?_
   refine rC (Calm.bin rfl rfl (bin_andE han)) ?_
   iterate 4 refine s1_ ?_
   refine su_ [(0,_),(1,_),(8,_),(9,_),(10,_),(11,_),(35,_),(12,_)] ?_
   by_cases hoL2:L≤o
   ·iterate 8 refine s1_ ?_
    refine su_ [(0,_),(1,_),(8,_),(9,_),(10,_),(11,_),(35,_),(12,_),(45,_)] ?_
    refine cT_ ?_
    iterate 7 refine s1_ ?_
    refine su_ [(0,_),(1,_),(8,_),(9,_),(10,_),(11,_),(35,_),(12,_),(45,_)] ?_
    refine AWP.draw [(0,true),(1,true),(2,true),(3,true),(4,true),(5,true),(6,true),(7,true),(8,true),(9,true),(10,true),(11,true),(12,true),(13,true),(14,true),(15,true),(16,true),(17,false),(18,true),(19,false)] [17,19] mixed (by kernel_rfl) ?_
    iterate 11 refine s1_ ?_
    refine dC (hc:=Calm.load ty_plain_3 rfl (rd_row (k:=a+(o-L)) own_ rw_ rw_)) (h:=?_)
    iterate 3 refine s1_ ?_
    refine dC (hc:=Calm.load ty_plain_3 rfl (rd_row (k:=ba+(2-k)) own_ rw_ rw_)) (h:=?_)
    refine s1_ ?_
    refine draw_only rfl ?_
    refine ARun.storeRow enc (ba+(2-k)) rfl rfl ty_size_3 (C.one _) own_ rw_ rw_ ?_
    try simp only [k_ms,k_sz,k_ss,k_za,Nat.reduceAdd]
    refine arun_nil ⟨fun h=>absurd h (by decide),?_⟩
    refine s1_ ?_
    refine draw_only rfl ?_
    refine ARun.storeRow enc (a+(o-L)) rfl rfl ty_size_3 (C.one _) own_ rw_ rw_ ?_
    try simp only [k_ms,k_sz,k_ss,k_za,Nat.reduceAdd]
    refine arun_nil ⟨fun h=>absurd h (by decide),?_⟩
    iterate 3 refine s1_ ?_
    refine su_ [(0,_),(1,_),(8,_),(9,_),(10,_),(11,_),(35,_),(12,_),(45,_)] ?_
    iterate 6 refine s1_ ?_
    refine ⟨(k,r',swp d1 (ba+(2-k)) (a+(o-L))),?_,?_,?_,?_⟩
    all_goals (try dsimp only)
    ·exact ⟨sb_,sb_,sb_,sb_,sb_,sb_,trivial⟩
    ·rw [set_over _ _ _ _ (by first | assumption | (apply Ne.symm;assumption))];exact Mem.Less.refl _
    ·exact ⟨by omega,R1.swp _ _ (by omega) (by omega),by rw [← h3,bpR_succ,← hr',← ho,if_pos hoL2]⟩
    ·omega
   ·iterate 8 refine s1_ ?_
    refine su_ [(0,_),(1,_),(8,_),(9,_),(10,_),(11,_),(35,_),(12,_),(45,_)] ?_
    refine cF_ ?_
    iterate 2 refine s1_ ?_
    refine AWP.draw [(0,true),(1,true),(2,true),(3,true),(4,true),(5,true),(6,true),(7,true),(8,true),(9,true),(10,true),(11,true),(12,true),(13,true),(14,true),(15,true),(16,true),(17,false),(18,true),(19,false)] [17,19] mixed (by kernel_rfl) ?_
    iterate 11 refine s1_ ?_
    refine dC (hc:=Calm.load ty_plain_3 rfl (rd_row (k:=a+o) own_ rw_ rw_)) (h:=?_)
    iterate 3 refine s1_ ?_
    refine dC (hc:=Calm.load ty_plain_3 rfl (rd_row (k:=ba+(2-k)) own_ rw_ rw_)) (h:=?_)
    refine s1_ ?_
    refine draw_only rfl ?_
    refine ARun.storeRow enc (ba+(2-k)) rfl rfl ty_size_3 (C.one _) own_ rw_ rw_ ?_
    try simp only [k_ms,k_sz,k_ss,k_za,Nat.reduceAdd]
    refine arun_nil ⟨fun h=>absurd h (by decide),?_⟩
    refine s1_ ?_
    refine draw_only rfl ?_
    refine ARun.storeRow enc (a+o) rfl rfl ty_size_3 (C.one _) own_ rw_ rw_ ?_
    try simp only [k_ms,k_sz,k_ss,k_za,Nat.reduceAdd]
    refine arun_nil ⟨fun h=>absurd h (by decide),?_⟩
    iterate 3 refine s1_ ?_
    refine su_ [(0,_),(1,_),(8,_),(9,_),(10,_),(11,_),(35,_),(12,_),(45,_)] ?_
    iterate 6 refine s1_ ?_
    refine ⟨(k,r',swp d1 (ba+(2-k)) (a+o)),?_,?_,?_,?_⟩
    all_goals (try dsimp only)
    ·exact ⟨sb_,sb_,sb_,sb_,sb_,sb_,trivial⟩
    ·rw [set_over _ _ _ _ (by first | assumption | (apply Ne.symm;assumption))];exact Mem.Less.refl _
    ·exact ⟨by omega,R1.swp _ _ (by omega) (by omega),by rw [← h3,bpR_succ,← hr',← ho,if_neg hoL2]⟩
    ·omega
  ·obtain rfl:k=0:=by omega
   iterate 13 refine s1_ ?_
   refine su_ [(0,_),(1,_),(8,_),(9,_),(10,_),(11,_),(35,_)] ?_
   refine cF_ ?_
   iterate 4 refine s1_ ?_
   refine ⟨_,S.set b ⟨3,(d1).toList.map enc,room⟩,rfl,less_,?_⟩
   rw [hbp,← h3];exact ⟨rfl,R1⟩
 ·have hbp:breakPatterns d a (a+L)=d:=by unfold breakPatterns;simp only [Nat.add_sub_cancel_left];rw [if_neg (by omega)]
  rw [hbp]
  refine ACall.enter (rs:=[]) 67 [(0,.slice (some ⟨b,0,none⟩) n cap),(1,.int .i64 a),(2,.int .i64 ((a+L:Nat):Int)),(3,.func (.func g) #[] cb.toArray)] Tryz.func125 rfl rfl (Nat.le_of_ble_eq_true rfl) rfl ⟨rfl,rfl,rfl,rfl,trivial⟩ ?_
  iterate 8 refine s1_ ?_
  refine su_ [(0,_),(1,_),(2,_),(8,_)] ?_
  iterate 6 refine s1_ ?_
  refine su_ [(0,_),(1,_),(2,_),(8,_),(17,_)] ?_
  refine cF_ ?_
  refine s1_ ?_
  refine ⟨_,_,rfl,Mem.Less.refl _,?_⟩
  exact ⟨rfl,R⟩
set_option maxHeartbeats 4000000 in
theorem soC_pins {α : Type} [Inhabited α] {enc : α → Value} {cf : α → α → Int} {okP : α → Prop} {g : Nat} {cb : List Value} {S : Mem} (C : CmpC Tryz.prog enc cf okP g cb S) (b room n cap : Nat) (hb : Fresh S b) (hn : n ≤ 1048576) (d : Array α) (R : Rw okP n d) (ia ie : Int) (a e : Nat) (ha : ia = a) (he : ie = e) (hae : a < e) (hen : e ≤ n) :
  ACall Tryz.prog 128 #[.slice (some ⟨b,0,none⟩) n cap,.int .i64 ia,.int .i64 ie,.func (.func g) #[] cb.toArray] (S.set b ⟨3,(d).toList.map enc,room⟩) fun r S'=>r = .bool (partialInsertionSort (lq cf) d a e).2∧S'=S.set b ⟨3,((partialInsertionSort (lq cf) d a e).1).toList.map enc,room⟩∧Rw okP n (partialInsertionSort (lq cf) d a e).1:=by
 subst ha he
 refine ACall.enter (rs:=[.tmp 8]) 141 [(0,.slice (some ⟨b,0,none⟩) n cap),(1,.int .i64 a),(2,.int .i64 e),(3,.func (.func g) #[] cb.toArray)] Tryz.func128 rfl rfl (Nat.le_of_ble_eq_true rfl) rfl ⟨rfl,rfl,rfl,rfl,trivial⟩ ?_
 iterate 12 refine s1_ ?_
 refine su_ [(0,_),(1,_),(2,_),(3,_),(8,_),(9,_)] ?_
 iterate 7 refine s1_ ?_
 refine AWP.loop (X:=Nat × Nat × Array α) (fun x=>[(0,.slice (some ⟨b,0,none⟩) n cap),(1,.int .i64 a),(2,.int .i64 e),(3,.func (.func g) #[] cb.toArray),(9,.int .i64 x.2.1),(10,.int .i64 ((5-x.1:Nat):Int))]) (fun x=>S.set b ⟨3,(x.2.2).toList.map enc,room⟩) (fun x=>x.1≤5∧a+1≤x.2.1∧x.2.1≤e∧Rw okP n x.2.2∧partialIns (lq cf) a e x.1 x.2.1 x.2.2=partialInsertionSort (lq cf) d a e) (fun x=>x.1) ((5,a+1,d)) ⟨sb_,sb_,sb_,sb_,sb_,sb_,trivial⟩ (Mem.Less.refl _) (⟨Nat.le_refl _,by dsimp only;omega,by dsimp only;omega,R,rfl⟩) ?_
 rintro ⟨s,i,d1⟩ ⟨h1,h2,h4,R1,h3⟩
 (try dsimp only at *)
 have z1:=R1.size
 by_cases hs:0<s
 ·obtain ⟨s,rfl⟩ : ∃ q,s=q+1:=⟨s-1,by omega⟩
  iterate 7 refine s1_ ?_
  refine su_ [(0,_),(1,_),(2,_),(3,_),(9,_),(10,_),(16,_)] ?_
  refine cT_ ?_
  iterate 5 refine s1_ ?_
  refine AWP.join (X:=Nat) (fun x=>[(0,.slice (some ⟨b,0,none⟩) n cap),(1,.int .i64 a),(2,.int .i64 e),(3,.func (.func g) #[] cb.toArray),(9,.int .i64 x),(10,.int .i64 ((5-(s+1):Nat):Int))]) (fun _=>S.set b ⟨3,(d1).toList.map enc,room⟩) (fun x=>a+1≤x∧x≤e∧x=scanSorted (lq cf) d1 e i) ?_ ?_
  ·refine s1_ ?_
   refine AWP.loop (X:=Nat) (fun x=>[(0,.slice (some ⟨b,0,none⟩) n cap),(1,.int .i64 a),(2,.int .i64 e),(3,.func (.func g) #[] cb.toArray),(9,.int .i64 x),(10,.int .i64 ((5-(s+1):Nat):Int))]) (fun _=>S.set b ⟨3,(d1).toList.map enc,room⟩) (fun x=>a+1≤x∧x≤e∧scanSorted (lq cf) d1 e x=scanSorted (lq cf) d1 e i) (fun x=>e-x) (i) ⟨sb_,sb_,sb_,sb_,sb_,sb_,trivial⟩ (Mem.Less.refl _) (⟨h2,h4,rfl⟩) ?_
   rintro x ⟨q1,q2,q3⟩
   (try dsimp only at *)
   by_cases hx:x<e
   ·obtain ⟨x,rfl⟩ : ∃ q,x=q+1:=⟨x-1,by omega⟩
    iterate 2 refine s1_ ?_
    refine AWP.draw [(0,true),(1,true),(2,true),(3,true),(4,true),(5,true),(6,true),(7,true),(8,true),(9,true),(10,true),(11,true),(12,true),(13,true),(14,false),(15,true),(16,true),(17,true)] [] mixed (by kernel_rfl) ?_
    iterate 8 refine s1_ ?_
    first|refine k_d ?_|refine dL (hc:=Calm.load ty_plain_3 rfl (rd_row (k:=x+1) own_ rw_ rw_)) (h:=?_)
    iterate 4 refine s1_ ?_
    first|refine k_d ?_|refine dL (hc:=Calm.load ty_plain_3 rfl (rd_row (k:=x) own_ rw_ rw_)) (h:=?_)
    refine draw_only rfl ?_
    refine rUn 22 ?_
    refine ARun.callV (first:=[]) (cap:=cb) (lit_lt rfl) C.go rfl rfl (C.call less_ (R1.ok (x+1) rw_) (R1.ok (x) rw_)) ?_
    rintro _ _ ⟨rfl,rfl⟩
    refine arun_nil ⟨fun _=>less_,?_⟩
    iterate 5 refine s1_ ?_
    refine su_ [(0,_),(1,_),(2,_),(3,_),(9,_),(10,_),(36,_)] ?_
    refine AWP.condB rfl (fun hl=>?_) (fun hl=>?_)
    ·have hl:=nt_ hl
     iterate 10 refine s1_ ?_
     refine ⟨x+1+1,?_,?_,?_,?_⟩
     all_goals (try dsimp only)
     ·exact ⟨sb_,sb_,sb_,sb_,sb_,sb_,trivial⟩
     ·exact Mem.Less.refl _
     ·exact ⟨by omega,by omega,(ss_go (lq cf) hx (by rw [Nat.add_sub_cancel];exact hl)).trans q3⟩
     ·omega
    ·have hl:=nf_ hl
     iterate 4 refine s1_ ?_
     refine ⟨(x+1),?_,?_,?_⟩
     all_goals (try dsimp only)
     ·exact ⟨by omega,by omega,(ss_no (lq cf) (by rw [Nat.add_sub_cancel];exact hl)).trans q3⟩
     ·exact ⟨sb_,sb_,sb_,sb_,sb_,sb_,trivial⟩
     ·exact Mem.Less.refl _
   ·iterate 2 refine s1_ ?_
    refine AWP.draw [(0,true),(1,true),(2,true),(3,true),(4,true),(5,true),(6,true),(7,true),(8,true),(9,true),(10,true),(11,true),(12,true),(13,true),(14,false),(15,true),(16,true),(17,true)] [] mixed (by kernel_rfl) ?_
    iterate 8 refine s1_ ?_
    first|refine k_d ?_|refine dL (hc:=Calm.load ty_plain_3 rfl (rd_row (k:=x+1) own_ rw_ rw_)) (h:=?_)
    iterate 4 refine s1_ ?_
    first|refine k_d ?_|refine dL (hc:=Calm.load ty_plain_3 rfl (rd_row (k:=x) own_ rw_ rw_)) (h:=?_)
    refine draw_only rfl ?_
    refine s1_ ?_
    refine arun_nil ⟨fun _=>less_,?_⟩
    iterate 5 refine s1_ ?_
    refine su_ [(0,_),(1,_),(2,_),(3,_),(9,_),(10,_),(36,_)] ?_
    refine cF_ ?_
    iterate 4 refine s1_ ?_
    refine ⟨x,?_,?_,?_⟩
    all_goals (try dsimp only)
    ·exact ⟨by omega,by omega,(ss_end (lq cf) hx).trans q3⟩
    ·exact ⟨sb_,sb_,sb_,sb_,sb_,sb_,trivial⟩
    ·exact Mem.Less.refl _
  rintro x ⟨b1,b2,hS⟩
  intro _ _ hs_ hl_
  (try dsimp only at *)
  refine athen_n ?_
  refine AWP.sub _ hs_ (AWP.less _ hl_ ?_)
  clear hs_ hl_
  by_cases hxe:x=e
  ·iterate 8 refine s1_ ?_
   refine su_ [(0,_),(1,_),(2,_),(3,_),(9,_),(10,_),(41,_)] ?_
   refine cT_ ?_
   iterate 12 refine s1_ ?_
   refine ⟨_,_,⟨_,_,rfl,rfl,rfl⟩,Mem.Less.refl _,?_⟩
   exact pis_res (M:=fun x=>S.set b ⟨3,(x).toList.map enc,room⟩) (lq cf) h3 (.inl ⟨hS ▸ hxe,rfl,rfl⟩) R1
  ·iterate 8 refine s1_ ?_
   refine su_ [(0,_),(1,_),(2,_),(3,_),(9,_),(10,_),(41,_)] ?_
   refine cF_ ?_
   by_cases h50:e-a<50
   ·iterate 11 refine s1_ ?_
    refine su_ [(0,_),(1,_),(2,_),(3,_),(9,_),(10,_),(41,_),(45,_)] ?_
    refine cT_ ?_
    iterate 12 refine s1_ ?_
    refine ⟨_,_,⟨_,_,rfl,rfl,rfl⟩,Mem.Less.refl _,?_⟩
    exact pis_res (M:=fun x=>S.set b ⟨3,(x).toList.map enc,room⟩) (lq cf) h3 (.inr ⟨hS ▸ hxe,h50,rfl,rfl⟩) R1
   ·iterate 11 refine s1_ ?_
    refine su_ [(0,_),(1,_),(2,_),(3,_),(9,_),(10,_),(41,_),(45,_)] ?_
    refine cF_ ?_
    obtain ⟨w,rfl⟩ : ∃ q,x=q+1:=⟨x-1,by omega⟩
    iterate 3 refine s1_ ?_
    refine AWP.draw [(0,true),(1,true),(2,true),(3,true),(4,true),(5,true),(6,true),(7,true),(8,true),(9,true),(10,true),(11,true),(12,true),(13,true),(14,true),(15,false),(16,true),(17,false)] [15,17] mixed (by kernel_rfl) ?_
    have R2:=R1.swp (w+1) w (by omega) (by omega)
    obtain ⟨d2,hd2⟩ : ∃ d2,d2=swp d1 (w+1) w:=⟨_,rfl⟩
    rw [← hd2] at R2
    iterate 9 refine s1_ ?_
    refine dC (hc:=Calm.load ty_plain_3 rfl (rd_row (k:=w) own_ rw_ rw_)) (h:=?_)
    iterate 3 refine s1_ ?_
    refine dC (hc:=Calm.load ty_plain_3 rfl (rd_row (k:=w+1) own_ rw_ rw_)) (h:=?_)
    refine s1_ ?_
    refine draw_only rfl ?_
    refine ARun.storeRow enc (w+1) rfl rfl ty_size_3 (C.one _) own_ rw_ rw_ ?_
    try simp only [k_ms,k_sz,k_ss,k_za,Nat.reduceAdd]
    refine arun_nil ⟨fun h=>absurd h (by decide),?_⟩
    refine s1_ ?_
    refine draw_only rfl ?_
    refine ARun.storeRow enc (w) rfl rfl ty_size_3 (C.one _) own_ rw_ rw_ ?_
    try simp only [k_ms,k_sz,k_ss,k_za,Nat.reduceAdd]
    refine arun_nil ⟨fun h=>absurd h (by decide),?_⟩
    iterate 2 refine s1_ ?_
    refine su_ [(0,_),(1,_),(2,_),(3,_),(9,_),(10,_),(41,_),(45,_)] ?_
    refine AWP.less (S.set b ⟨3,(d2).toList.map enc,room⟩) (by rw [hd2];exact Mem.Less.refl _) ?_
    have z2:=R2.size
    iterate 9 refine s1_ ?_
    refine su_ [(0,_),(1,_),(2,_),(3,_),(9,_),(10,_),(41,_),(45,_),(65,_)] ?_
    refine AWP.join (X:=Array α) (fun x=>[(0,.slice (some ⟨b,0,none⟩) n cap),(1,.int .i64 a),(2,.int .i64 e),(3,.func (.func g) #[] cb.toArray),(9,.int .i64 ((w+1:Nat):Int)),(10,.int .i64 ((5-(s+1):Nat):Int))]) (fun x=>S.set b ⟨3,(x).toList.map enc,room⟩) (fun x=>Rw okP n x∧x=(if w+1-a ≥ 2 then shiftDown (lq cf) w d2 else d2)) ?_ ?_
    ·by_cases hw:2≤w+1-a
     ·refine cT_ ?_
      iterate 7 refine s1_ ?_
      refine su_ [(0,_),(1,_),(2,_),(3,_),(9,_),(10,_),(41,_),(45,_),(65,_),(11,_)] ?_
      refine s1_ ?_
      refine AWP.loop (X:=Nat × Array α) (fun x=>[(0,.slice (some ⟨b,0,none⟩) n cap),(1,.int .i64 a),(2,.int .i64 e),(3,.func (.func g) #[] cb.toArray),(9,.int .i64 ((w+1:Nat):Int)),(10,.int .i64 ((5-(s+1):Nat):Int)),(11,.int .i64 x.1)]) (fun x=>S.set b ⟨3,(x.2).toList.map enc,room⟩) (fun x=>x.1≤w∧Rw okP n x.2∧shiftDown (lq cf) x.1 x.2=shiftDown (lq cf) w d2) (fun x=>x.1) ((w,d2)) ⟨sb_,sb_,sb_,sb_,sb_,sb_,sb_,trivial⟩ (Mem.Less.refl _) (⟨Nat.le_refl _,R2,rfl⟩) ?_
      rintro ⟨j,d3⟩ ⟨k1,R3,k3⟩
      (try dsimp only at *)
      have z3:=R3.size
      by_cases hj:0<j
      ·obtain ⟨j,rfl⟩ : ∃ q,j=q+1:=⟨j-1,by omega⟩
       iterate 7 refine s1_ ?_
       refine su_ [(0,_),(1,_),(2,_),(3,_),(9,_),(10,_),(11,_),(69,_)] ?_
       refine cT_ ?_
       iterate 6 refine s1_ ?_
       refine AWP.draw [(0,true),(1,true),(2,true),(3,true),(4,true),(5,true),(6,true),(7,true),(8,true),(9,true),(10,false),(11,true),(12,true)] [] mixed (by kernel_rfl) ?_
       iterate 4 refine s1_ ?_
       refine dC (hc:=Calm.load ty_plain_3 rfl (rd_row (k:=j+1) own_ rw_ rw_)) (h:=?_)
       iterate 4 refine s1_ ?_
       refine dC (hc:=Calm.load ty_plain_3 rfl (rd_row (k:=j) own_ rw_ rw_)) (h:=?_)
       refine draw_only rfl ?_
       refine ARun.callV (first:=[]) (cap:=cb) (lit_lt rfl) C.go rfl rfl (C.call less_ (R3.ok (j+1) rw_) (R3.ok (j) rw_)) ?_
       rintro _ _ ⟨rfl,rfl⟩
       refine arun_nil ⟨fun _=>less_,?_⟩
       iterate 4 refine s1_ ?_
       refine su_ [(0,_),(1,_),(2,_),(3,_),(9,_),(10,_),(11,_),(69,_),(84,_)] ?_
       refine AWP.condB rfl (fun hl=>?_) (fun hl=>?_)
       ·have hl:=nt_ hl
        iterate 6 refine s1_ ?_
        refine ⟨d3,?_,?_,?_⟩
        all_goals (try dsimp only)
        ·exact ⟨R3,by rw [if_pos hw,← k3,← sd_no (lq cf) hl]⟩
        ·exact ⟨sb_,sb_,sb_,sb_,sb_,sb_,trivial⟩
        ·exact Mem.Less.refl _
       ·have hl:=nf_ hl
        iterate 2 refine s1_ ?_
        refine AWP.draw [(0,true),(1,true),(2,true),(3,true),(4,true),(5,true),(6,true),(7,true),(8,true),(9,true),(10,true),(11,true),(12,true),(13,true),(14,true),(15,false),(16,true),(17,false)] [15,17] mixed (by kernel_rfl) ?_
        iterate 9 refine s1_ ?_
        refine dC (hc:=Calm.load ty_plain_3 rfl (rd_row (k:=j) own_ rw_ rw_)) (h:=?_)
        iterate 3 refine s1_ ?_
        refine dC (hc:=Calm.load ty_plain_3 rfl (rd_row (k:=j+1) own_ rw_ rw_)) (h:=?_)
        refine s1_ ?_
        refine draw_only rfl ?_
        refine ARun.storeRow enc (j+1) rfl rfl ty_size_3 (C.one _) own_ rw_ rw_ ?_
        try simp only [k_ms,k_sz,k_ss,k_za,Nat.reduceAdd]
        refine arun_nil ⟨fun h=>absurd h (by decide),?_⟩
        refine s1_ ?_
        refine draw_only rfl ?_
        refine ARun.storeRow enc (j) rfl rfl ty_size_3 (C.one _) own_ rw_ rw_ ?_
        try simp only [k_ms,k_sz,k_ss,k_za,Nat.reduceAdd]
        refine arun_nil ⟨fun h=>absurd h (by decide),?_⟩
        iterate 3 refine s1_ ?_
        refine su_ [(0,_),(1,_),(2,_),(3,_),(9,_),(10,_),(11,_),(69,_),(84,_)] ?_
        iterate 6 refine s1_ ?_
        refine ⟨(j,swp d3 (j+1) j),?_,?_,?_,?_⟩
        all_goals (try dsimp only)
        ·exact ⟨sb_,sb_,sb_,sb_,sb_,sb_,sb_,trivial⟩
        ·exact Mem.Less.refl _
        ·exact ⟨by omega,R3.swp _ _ (by omega) (by omega),(sd_go (lq cf) hl).trans k3⟩
        ·omega
      ·obtain rfl:j=0:=by omega
       iterate 7 refine s1_ ?_
       refine su_ [(0,_),(1,_),(2,_),(3,_),(9,_),(10,_),(11,_),(69,_)] ?_
       refine cF_ ?_
       iterate 4 refine s1_ ?_
       refine ⟨d3,?_,?_,?_⟩
       all_goals (try dsimp only)
       ·exact ⟨R3,by rw [if_pos hw,← k3];rfl⟩
       ·exact ⟨sb_,sb_,sb_,sb_,sb_,sb_,trivial⟩
       ·exact Mem.Less.refl _
     ·refine cF_ ?_
      refine s1_ ?_
      refine ⟨d2,?_,?_,?_⟩
      all_goals (try dsimp only)
      ·exact ⟨R2,by rw [if_neg hw]⟩
      ·exact ⟨sb_,sb_,sb_,sb_,sb_,sb_,trivial⟩
      ·exact Mem.Less.refl _
    rintro d3 ⟨R3,hd3⟩
    intro _ _ hs_ hl_
    (try dsimp only at *)
    refine athen_n ?_
    refine AWP.sub _ hs_ (AWP.less _ hl_ ?_)
    clear hs_ hl_
    have z3:=R3.size
    iterate 8 refine s1_ ?_
    refine su_ [(0,_),(1,_),(2,_),(3,_),(9,_),(10,_),(104,_)] ?_
    refine AWP.join (X:=Array α) (fun x=>[(0,.slice (some ⟨b,0,none⟩) n cap),(1,.int .i64 a),(2,.int .i64 e),(3,.func (.func g) #[] cb.toArray),(9,.int .i64 ((w+1:Nat):Int)),(10,.int .i64 ((5-(s+1):Nat):Int))]) (fun x=>S.set b ⟨3,(x).toList.map enc,room⟩) (fun x=>Rw okP n x∧x=(if e-(w+1) ≥ 2 then shiftUp (lq cf) e (w+1+1) d3 else d3)) ?_ ?_
    ·by_cases hw:2≤e-(w+1)
     ·refine cT_ ?_
      iterate 7 refine s1_ ?_
      refine su_ [(0,_),(1,_),(2,_),(3,_),(9,_),(10,_),(104,_),(12,_)] ?_
      refine s1_ ?_
      refine AWP.loop (X:=Nat × Array α) (fun x=>[(0,.slice (some ⟨b,0,none⟩) n cap),(1,.int .i64 a),(2,.int .i64 e),(3,.func (.func g) #[] cb.toArray),(9,.int .i64 ((w+1:Nat):Int)),(10,.int .i64 ((5-(s+1):Nat):Int)),(12,.int .i64 x.1)]) (fun x=>S.set b ⟨3,(x.2).toList.map enc,room⟩) (fun x=>w+1+1≤x.1∧x.1≤e∧Rw okP n x.2∧shiftUp (lq cf) e x.1 x.2=shiftUp (lq cf) e (w+1+1) d3) (fun x=>e-x.1) ((w+1+1,d3)) ⟨sb_,sb_,sb_,sb_,sb_,sb_,sb_,trivial⟩ (Mem.Less.refl _) (⟨Nat.le_refl _,by dsimp only;omega,R3,rfl⟩) ?_
      rintro ⟨j,d4⟩ ⟨k1,k2,R4,k3⟩
      (try dsimp only at *)
      have z4:=R4.size
      by_cases hj:j<e
      ·obtain ⟨j,rfl⟩ : ∃ q,j=q+1:=⟨j-1,by omega⟩
       iterate 8 refine s1_ ?_
       refine su_ [(0,_),(1,_),(2,_),(3,_),(9,_),(10,_),(12,_),(109,_)] ?_
       refine cT_ ?_
       iterate 6 refine s1_ ?_
       refine AWP.draw [(0,true),(1,true),(2,true),(3,true),(4,true),(5,true),(6,true),(7,true),(8,true),(9,true),(10,false),(11,true),(12,true)] [] mixed (by kernel_rfl) ?_
       iterate 4 refine s1_ ?_
       refine dC (hc:=Calm.load ty_plain_3 rfl (rd_row (k:=j+1) own_ rw_ rw_)) (h:=?_)
       iterate 4 refine s1_ ?_
       refine dC (hc:=Calm.load ty_plain_3 rfl (rd_row (k:=j) own_ rw_ rw_)) (h:=?_)
       refine draw_only rfl ?_
       refine ARun.callV (first:=[]) (cap:=cb) (lit_lt rfl) C.go rfl rfl (C.call less_ (R4.ok (j+1) rw_) (R4.ok (j) rw_)) ?_
       rintro _ _ ⟨rfl,rfl⟩
       refine arun_nil ⟨fun _=>less_,?_⟩
       iterate 4 refine s1_ ?_
       refine su_ [(0,_),(1,_),(2,_),(3,_),(9,_),(10,_),(12,_),(109,_),(124,_)] ?_
       refine AWP.condB rfl (fun hl=>?_) (fun hl=>?_)
       ·have hl:=nt_ hl
        iterate 6 refine s1_ ?_
        refine ⟨d4,?_,?_,?_⟩
        all_goals (try dsimp only)
        ·exact ⟨R4,by rw [if_pos hw,← k3,← su_no (lq cf) (by rw [Nat.add_sub_cancel];exact hl)]⟩
        ·exact ⟨sb_,sb_,sb_,sb_,sb_,sb_,trivial⟩
        ·exact Mem.Less.refl _
       ·have hl:=nf_ hl
        iterate 2 refine s1_ ?_
        refine AWP.draw [(0,true),(1,true),(2,true),(3,true),(4,true),(5,true),(6,true),(7,true),(8,true),(9,true),(10,true),(11,true),(12,true),(13,true),(14,true),(15,false),(16,true),(17,false)] [15,17] mixed (by kernel_rfl) ?_
        iterate 9 refine s1_ ?_
        refine dC (hc:=Calm.load ty_plain_3 rfl (rd_row (k:=j) own_ rw_ rw_)) (h:=?_)
        iterate 3 refine s1_ ?_
        refine dC (hc:=Calm.load ty_plain_3 rfl (rd_row (k:=j+1) own_ rw_ rw_)) (h:=?_)
        refine s1_ ?_
        refine draw_only rfl ?_
        refine ARun.storeRow enc (j+1) rfl rfl ty_size_3 (C.one _) own_ rw_ rw_ ?_
        try simp only [k_ms,k_sz,k_ss,k_za,Nat.reduceAdd]
        refine arun_nil ⟨fun h=>absurd h (by decide),?_⟩
        refine s1_ ?_
        refine draw_only rfl ?_
        refine ARun.storeRow enc (j) rfl rfl ty_size_3 (C.one _) own_ rw_ rw_ ?_
        try simp only [k_ms,k_sz,k_ss,k_za,Nat.reduceAdd]
        refine arun_nil ⟨fun h=>absurd h (by decide),?_⟩
        iterate 3 refine s1_ ?_
        refine su_ [(0,_),(1,_),(2,_),(3,_),(9,_),(10,_),(12,_),(109,_),(124,_)] ?_
        iterate 6 refine s1_ ?_
        refine ⟨(j+1+1,swp d4 (j+1) j),?_,?_,?_,?_⟩
        all_goals (try dsimp only)
        ·exact ⟨sb_,sb_,sb_,sb_,sb_,sb_,sb_,trivial⟩
        ·exact Mem.Less.refl _
        ·exact ⟨by omega,by omega,R4.swp _ _ (by omega) (by omega),(su_go (lq cf) (j:=j+1) hj (by rw [Nat.add_sub_cancel];exact hl)).trans k3⟩
        ·omega
      ·iterate 8 refine s1_ ?_
       refine su_ [(0,_),(1,_),(2,_),(3,_),(9,_),(10,_),(12,_),(109,_)] ?_
       refine cF_ ?_
       iterate 4 refine s1_ ?_
       refine ⟨d4,?_,?_,?_⟩
       all_goals (try dsimp only)
       ·exact ⟨R4,by rw [if_pos hw,← k3,← su_end (lq cf) hj]⟩
       ·exact ⟨sb_,sb_,sb_,sb_,sb_,sb_,trivial⟩
       ·exact Mem.Less.refl _
     ·refine cF_ ?_
      refine s1_ ?_
      refine ⟨d3,?_,?_,?_⟩
      all_goals (try dsimp only)
      ·exact ⟨R3,by rw [if_neg hw]⟩
      ·exact ⟨sb_,sb_,sb_,sb_,sb_,sb_,trivial⟩
      ·exact Mem.Less.refl _
    rintro d4 ⟨R4,hd4⟩
    intro _ _ hs_ hl_
    (try dsimp only at *)
    refine ain_n ?_
    refine athen_n ?_
    refine AWP.sub _ hs_ (AWP.less _ hl_ ?_)
    clear hs_ hl_
    iterate 6 refine s1_ ?_
    refine ⟨(s,w+1,d4),?_,?_,?_,?_⟩
    all_goals (try dsimp only)
    ·exact ⟨sb_,sb_,sb_,sb_,sb_,sb_,trivial⟩
    ·exact Mem.Less.refl _
    ·exact ⟨by omega,by omega,by omega,R4,(pi_step (lq cf) hS (by omega) h50 hd2 hd3 hd4).trans h3⟩
    ·omega
 ·obtain rfl:s=0:=by omega
  iterate 7 refine s1_ ?_
  refine su_ [(0,_),(1,_),(2,_),(3,_),(9,_),(10,_),(16,_)] ?_
  refine cF_ ?_
  iterate 11 refine s1_ ?_
  refine ⟨_,_,⟨_,_,rfl,rfl,rfl⟩,Mem.Less.refl _,?_⟩
  rw [← h3];exact ⟨rfl,rfl,R1⟩
end Go.Proofs.YtckloanlkpchoaaGreatDoor
namespace Go.Proofs.YtckloanlkpchoaaGreatDoor
open Go.RowKit
open Mv Srt
open Go.Sort (swp insInner insOuter insertionSort siftDown heapBuild heapPop heapSort scanUp scanDown partLoop partition partEqLoop partitionEqual scanSorted shiftDown shiftUp partialIns partialInsertionSort order2 median medianAdjacent choosePivot reverseLoop reverseRange breakStep breakPatterns pdq bitsLen xorNext Hint)
set_option maxRecDepth 4000
set_option maxHeartbeats 8000000 in
theorem soC_pdq {α : Type} [Inhabited α] {enc : α → Value} {cf : α → α → Int} {okP : α → Prop} {g : Nat} {cb : List Value} {S : Mem} (C : CmpC Tryz.prog enc cf okP g cb S) (b room n cap : Nat) (hb : Fresh S b) (hn : n ≤ 1048576) : ∀ (m : Nat) (d : Array α) (R : Rw okP n d) (ia ie il : Int) (a e limit : Nat), ia = a → ie = e → il = limit → a ≤ e → e ≤ n → limit ≤ 1000 → e - a = m →
  ACall Tryz.prog 98 #[.slice (some ⟨b,0,none⟩) n cap,.int .i64 ia,.int .i64 ie,.int .i64 il,.func (.func g) #[] cb.toArray] (S.set b ⟨3,(d).toList.map enc,room⟩) fun r S'=>S'=S.set b ⟨3,(pdq (lq cf) d a e limit true true).toList.map enc,room⟩∧Rw okP n (pdq (lq cf) d a e limit true true):=by
 intro m
 induction m using Nat.strongRecOn with
 | _ m ih =>
 intro d R ia ie il a e limit ha he hl hae hen hlim hm
 subst ha he hl
 refine ACall.enter (rs:=[]) 148 [(0,.slice (some ⟨b,0,none⟩) n cap),(1,.int .i64 a),(2,.int .i64 e),(3,.int .i64 limit),(4,.func (.func g) #[] cb.toArray)] Tryz.func98 rfl rfl (Nat.le_of_ble_eq_true rfl) rfl ⟨rfl,rfl,rfl,rfl,rfl,trivial⟩ ?_
 iterate 11 refine s1_ ?_
 refine AWP.loop (X:=Nat × Nat × Nat × Bool × Bool × Array α) (fun x=>[(0,.slice (some ⟨b,0,none⟩) n cap),(1,.int .i64 x.1),(2,.int .i64 x.2.1),(3,.int .i64 x.2.2.1),(4,.func (.func g) #[] cb.toArray),(10,.bool x.2.2.2.1),(11,.bool x.2.2.2.2.1)]) (fun x=>S.set b ⟨3,(x.2.2.2.2.2).toList.map enc,room⟩) (fun x=>x.1≤x.2.1∧x.2.1≤e∧Rw okP n x.2.2.2.2.2∧x.2.1-x.1≤m∧x.2.2.1≤limit∧pdq (lq cf) x.2.2.2.2.2 x.1 x.2.1 x.2.2.1 x.2.2.2.1 x.2.2.2.2.1=pdq (lq cf) d a e limit true true) (fun x=>x.2.1-x.1) ((a,e,limit,true,true,d)) ⟨sb_,sb_,sb_,sb_,sb_,sb_,sb_,trivial⟩ (Mem.Less.refl _) (⟨hae,Nat.le_refl _,R,by dsimp only;omega,Nat.le_refl _,rfl⟩) ?_
 rintro ⟨a1,e1,l1,w1,w2,d0⟩ ⟨h1,h2,R0,h4,h5,hq⟩
 (try dsimp only at *)
 have z0:=R0.size
 by_cases h12:e1-a1≤12
 ·iterate 9 refine s1_ ?_
  refine su_ [(0,_),(1,_),(2,_),(3,_),(4,_),(10,_),(11,_),(12,_)] ?_
  iterate 7 refine s1_ ?_
  refine su_ [(0,_),(1,_),(2,_),(3,_),(4,_),(10,_),(11,_),(12,_),(25,_)] ?_
  refine cT_ ?_
  iterate 6 refine s1_ ?_
  refine ca_ rfl (soC_ins C b room n cap hb hn d0 R0 _ _ a1 e1 rfl rfl (by omega) (by omega)) ?_
  rintro _ _ ⟨rfl,R1⟩
  iterate 2 refine s1_ ?_
  refine su_ [(0,_),(1,_),(2,_),(3,_),(4,_),(10,_),(11,_),(12,_),(25,_)] ?_
  iterate 5 refine s1_ ?_
  refine ⟨_,_,rfl,Mem.Less.refl _,?_⟩
  rw [← hq,pdq_ins (lq cf) h12];exact ⟨rfl,R1⟩
 ·iterate 9 refine s1_ ?_
  refine su_ [(0,_),(1,_),(2,_),(3,_),(4,_),(10,_),(11,_),(12,_)] ?_
  iterate 7 refine s1_ ?_
  refine su_ [(0,_),(1,_),(2,_),(3,_),(4,_),(10,_),(11,_),(12,_),(25,_)] ?_
  refine cF_ ?_
  by_cases hl0:l1=0
  ·iterate 9 refine s1_ ?_
   refine su_ [(0,_),(1,_),(2,_),(3,_),(4,_),(10,_),(11,_),(12,_),(25,_),(32,_)] ?_
   refine cT_ ?_
   iterate 6 refine s1_ ?_
   refine ca_ rfl (soC_heap C b room n cap hb hn d0 R0 _ _ a1 e1 rfl rfl (by omega) (by omega)) ?_
   rintro _ _ ⟨rfl,R1⟩
   iterate 2 refine s1_ ?_
   refine su_ [(0,_),(1,_),(2,_),(3,_),(4,_),(10,_),(11,_),(12,_),(25,_),(32,_)] ?_
   iterate 5 refine s1_ ?_
   refine ⟨_,_,rfl,Mem.Less.refl _,?_⟩
   rw [← hq,pdq_heap (lq cf) h12 hl0];exact ⟨rfl,R1⟩
  ·iterate 9 refine s1_ ?_
   refine su_ [(0,_),(1,_),(2,_),(3,_),(4,_),(10,_),(11,_),(12,_),(25,_),(32,_)] ?_
   refine cF_ ?_
   rw [pdq_1 (lq cf) h12 hl0] at hq
   iterate 9 refine s1_ ?_
   refine su_ [(0,_),(1,_),(2,_),(3,_),(4,_),(10,_),(11,_),(12,_),(25,_),(32,_),(39,_)] ?_
   refine AWP.join (X:=Nat × Array α) (fun x=>[(0,.slice (some ⟨b,0,none⟩) n cap),(1,.int .i64 a1),(2,.int .i64 e1),(3,.int .i64 x.1),(4,.func (.func g) #[] cb.toArray),(10,.bool w1),(11,.bool w2),(12,.int .i64 ((e1-a1:Nat):Int))]) (fun x=>S.set b ⟨3,(x.2).toList.map enc,room⟩) (fun x=>x.1≤l1∧Rw okP n x.2∧pdq1 (lq cf) x.2 a1 e1 x.1 w1 w2=pdq (lq cf) d a e limit true true) ?_ ?_
   ·cases w1
    ·refine cT_ ?_
     iterate 6 refine s1_ ?_
     refine ca_ rfl (soC_brk C b room n cap hb hn d0 R0 _ _ a1 e1 rfl rfl (by omega) (by omega)) ?_
     rintro _ _ ⟨rfl,R1⟩
     iterate 2 refine s1_ ?_
     refine su_ [(0,_),(1,_),(2,_),(3,_),(4,_),(10,_),(11,_),(12,_),(25,_),(32,_),(39,_)] ?_
     iterate 5 refine s1_ ?_
     refine ⟨(l1-1,breakPatterns d0 a1 e1),?_,?_,?_⟩
     all_goals (try dsimp only)
     ·exact ⟨by omega,R1,hq⟩
     ·exact ⟨sb_,sb_,sb_,sb_,sb_,sb_,sb_,sb_,trivial⟩
     ·exact Mem.Less.refl _
    ·refine cF_ ?_
     refine s1_ ?_
     refine ⟨(l1,d0),?_,?_,?_⟩
     all_goals (try dsimp only)
     ·exact ⟨Nat.le_refl _,R0,hq⟩
     ·exact ⟨sb_,sb_,sb_,sb_,sb_,sb_,sb_,sb_,trivial⟩
     ·exact Mem.Less.refl _
   rintro ⟨l2,d1⟩ ⟨k1,R1,hq⟩
   intro _ _ hs_ hl_
   (try dsimp only at *)
   refine athen_n ?_
   refine AWP.sub _ hs_ (AWP.less _ hl_ ?_)
   clear hs_ hl_
   have z1:=R1.size
   obtain ⟨⟨p0,ht⟩,hpc⟩ : ∃ q,q=choosePivot (lq cf) d1 a1 e1:=⟨_,rfl⟩
   iterate 6 refine s1_ ?_
   refine ca_ rfl ((hpc ▸ soC_pivot C b room n cap hb hn d1 R1 _ _ a1 e1 rfl rfl (by omega) (by omega))) ?_
   rintro _ _ ⟨rfl,rfl,g1,g2⟩
   dsimp only at g1 g2
   rw [pdq1,← hpc] at hq
   dsimp only at hq
   iterate 7 refine s1_ ?_
   refine su_ [(0,_),(1,_),(2,_),(3,_),(4,_),(10,_),(11,_),(12,_),(13,_),(14,_)] ?_
   iterate 7 refine s1_ ?_
   refine su_ [(0,_),(1,_),(2,_),(3,_),(4,_),(10,_),(11,_),(12,_),(13,_),(14,_),(56,_)] ?_
   refine AWP.join (X:=Nat × Hint × Array α) (fun x=>[(0,.slice (some ⟨b,0,none⟩) n cap),(1,.int .i64 a1),(2,.int .i64 e1),(3,.int .i64 l2),(4,.func (.func g) #[] cb.toArray),(10,.bool w1),(11,.bool w2),(12,.int .i64 ((e1-a1:Nat):Int)),(13,.int .i64 x.1),(14,.int .i64 (hintI x.2.1))]) (fun x=>S.set b ⟨3,(x.2.2).toList.map enc,room⟩) (fun x=>a1≤x.1∧x.1<e1∧Rw okP n x.2.2∧pdq2 (lq cf) x.2.2 a1 e1 l2 w1 w2 x.1 x.2.1=pdq (lq cf) d a e limit true true) ?_ ?_
   ·by_cases hde:ht = .decreasing
    ·subst hde
     refine cT_ ?_
     iterate 6 refine s1_ ?_
     refine ca_ rfl (soC_rev C b room n cap hb hn d1 R1 _ _ a1 e1 rfl rfl (by omega) (by omega)) ?_
     rintro _ _ ⟨rfl,R2⟩
     iterate 2 refine s1_ ?_
     refine su_ [(0,_),(1,_),(2,_),(3,_),(4,_),(10,_),(11,_),(12,_),(13,_),(14,_),(56,_)] ?_
     iterate 11 refine s1_ ?_
     refine su_ [(0,_),(1,_),(2,_),(3,_),(4,_),(10,_),(11,_),(12,_),(13,_),(14,_),(56,_)] ?_
     iterate 3 refine s1_ ?_
     refine ⟨(e1-1-(p0-a1),.increasing,reverseRange d1 a1 e1),?_,?_,?_⟩
     all_goals (try dsimp only)
     ·exact ⟨by omega,by omega,R2,by rw [if_pos rfl] at hq;exact hq⟩
     ·exact ⟨sb_,sb_,sb_,sb_,sb_,sb_,sb_,sb_,sb_,sb_,trivial⟩
     ·exact Mem.Less.refl _
    ·have hni:=hint_ne hde
     refine cF_ ?_
     refine s1_ ?_
     refine ⟨(p0,ht,d1),?_,?_,?_⟩
     all_goals (try dsimp only)
     ·exact ⟨g1,g2,R1,by rw [if_neg hde] at hq;exact hq⟩
     ·exact ⟨sb_,sb_,sb_,sb_,sb_,sb_,sb_,sb_,sb_,sb_,trivial⟩
     ·exact Mem.Less.refl _
   rintro ⟨pv,hi,d2⟩ ⟨g1,g2,R2,hq⟩
   intro _ _ hs_ hl_
   (try dsimp only at *)
   refine athen_n ?_
   refine AWP.sub _ hs_ (AWP.less _ hl_ ?_)
   clear hs_ hl_
   have z2:=R2.size
   have hh1:=hint_1 hi
   iterate 2 refine s1_ ?_
   refine AWP.join (X:=Bool) (fun x=>[(0,.slice (some ⟨b,0,none⟩) n cap),(1,.int .i64 a1),(2,.int .i64 e1),(3,.int .i64 l2),(4,.func (.func g) #[] cb.toArray),(10,.bool w1),(11,.bool w2),(12,.int .i64 ((e1-a1:Nat):Int)),(13,.int .i64 pv),(75,.bool x)]) (fun x=>S.set b ⟨3,(d2).toList.map enc,room⟩) (fun x=>x=(w1 && w2 && decide (hi = .increasing))) ?_ ?_
   ·cases w1
    ·iterate 10 refine s1_ ?_
     refine ⟨false,?_,?_,?_⟩
     all_goals (try dsimp only)
     ·rfl
     ·exact ⟨sb_,sb_,sb_,sb_,sb_,sb_,sb_,sb_,sb_,sb_,trivial⟩
     ·exact Mem.Less.refl _
    ·cases w2
     ·iterate 10 refine s1_ ?_
      refine ⟨false,?_,?_,?_⟩
      all_goals (try dsimp only)
      ·rfl
      ·exact ⟨sb_,sb_,sb_,sb_,sb_,sb_,sb_,sb_,sb_,sb_,trivial⟩
      ·exact Mem.Less.refl _
     ·iterate 7 refine s1_ ?_
      first|refine k_q 72 ?_|refine rG 72 (Calm.bin rfl rfl (bin_bool (bin_eql _ _) hh1)) ?_
      iterate 2 refine s1_ ?_
      refine ⟨(decide (hi = .increasing)),?_,?_,?_⟩
      all_goals (try dsimp only)
      ·simp
      ·exact ⟨sb_,sb_,sb_,sb_,sb_,sb_,sb_,sb_,sb_,sb_,trivial⟩
      ·exact Mem.Less.refl _
   rintro x hx
   intro _ _ hs_ hl_
   (try dsimp only at *)
   refine athen_n ?_
   refine AWP.sub _ hs_ (AWP.less _ hl_ ?_)
   clear hs_ hl_
   rw [pdq2,← hx] at hq
   refine AWP.join (X:=Array α) (fun x=>[(0,.slice (some ⟨b,0,none⟩) n cap),(1,.int .i64 a1),(2,.int .i64 e1),(3,.int .i64 l2),(4,.func (.func g) #[] cb.toArray),(10,.bool w1),(11,.bool w2),(12,.int .i64 ((e1-a1:Nat):Int)),(13,.int .i64 pv)]) (fun x=>S.set b ⟨3,(x).toList.map enc,room⟩) (fun x=>Rw okP n x∧pdq3 (lq cf) x a1 e1 l2 w1 w2 pv=pdq (lq cf) d a e limit true true) ?_ ?_
   ·cases x
    ·refine cF_ ?_
     refine s1_ ?_
     refine ⟨d2,?_,?_,?_⟩
     all_goals (try dsimp only)
     ·exact ⟨R2,hq⟩
     ·exact ⟨sb_,sb_,sb_,sb_,sb_,sb_,sb_,sb_,sb_,trivial⟩
     ·exact Mem.Less.refl _
    ·refine cT_ ?_
     obtain ⟨⟨d3,pb⟩,hp3⟩ : ∃ q,q=partialInsertionSort (lq cf) d2 a1 e1:=⟨_,rfl⟩
     rw [if_pos rfl,← hp3] at hq
     dsimp only at hq
     iterate 6 refine s1_ ?_
     refine ca_ rfl ((hp3 ▸ soC_pins C b room n cap hb hn d2 R2 _ _ a1 e1 rfl rfl (by omega) (by omega))) ?_
     rintro _ _ ⟨rfl,rfl,R3⟩
     iterate 2 refine s1_ ?_
     refine su_ [(0,_),(1,_),(2,_),(3,_),(4,_),(10,_),(11,_),(12,_),(13,_),(75,_),(80,_)] ?_
     cases pb
     ·refine cF_ ?_
      refine s1_ ?_
      refine ⟨d3,?_,?_,?_⟩
      all_goals (try dsimp only)
      ·exact ⟨R3,hq⟩
      ·exact ⟨sb_,sb_,sb_,sb_,sb_,sb_,sb_,sb_,sb_,trivial⟩
      ·exact Mem.Less.refl _
     ·refine cT_ ?_
      iterate 6 refine s1_ ?_
      refine ⟨_,_,rfl,Mem.Less.refl _,?_⟩
      rw [← hq];exact ⟨rfl,R3⟩
   rintro d3 ⟨R3,hq⟩
   intro _ _ hs_ hl_
   (try dsimp only at *)
   refine athen_n ?_
   refine AWP.sub _ hs_ (AWP.less _ hl_ ?_)
   clear hs_ hl_
   clear hx
   have z3:=R3.size
   iterate 2 refine s1_ ?_
   refine AWP.join (X:=Bool) (fun x=>[(0,.slice (some ⟨b,0,none⟩) n cap),(1,.int .i64 a1),(2,.int .i64 e1),(3,.int .i64 l2),(4,.func (.func g) #[] cb.toArray),(10,.bool w1),(11,.bool w2),(12,.int .i64 ((e1-a1:Nat):Int)),(13,.int .i64 pv),(97,.bool x)]) (fun x=>S.set b ⟨3,(d3).toList.map enc,room⟩) (fun x=>x=(decide (a1 > 0) && !(lq cf) d3[a1-1]! d3[pv]!)) ?_ ?_
   ·by_cases h0:0<a1
    ·refine AWP.draw [(0,true),(1,true),(2,true),(3,true),(4,true),(5,true),(6,true),(7,true),(8,true),(9,true),(10,true),(11,true),(12,true),(13,false),(14,true),(15,true),(16,true)] [] mixed (by kernel_rfl) ?_
     iterate 8 refine s1_ ?_
     first|refine k_d ?_|refine dL (hc:=Calm.load ty_plain_3 rfl (rd_row (k:=a1-1) own_ rw_ rw_)) (h:=?_)
     iterate 3 refine s1_ ?_
     first|refine k_d ?_|refine dL (hc:=Calm.load ty_plain_3 rfl (rd_row (k:=pv) own_ rw_ rw_)) (h:=?_)
     refine draw_only rfl ?_
     refine rUn 83 ?_
     refine ARun.callV (first:=[]) (cap:=cb) (lit_lt rfl) C.go rfl rfl (C.call less_ (R3.ok (a1-1) rw_) (R3.ok (pv) rw_)) ?_
     rintro _ _ ⟨rfl,rfl⟩
     refine arun_nil ⟨fun _=>less_,?_⟩
     iterate 4 refine s1_ ?_
     refine ⟨(!(lq cf) d3[a1-1]! d3[pv]!),?_,?_,?_⟩
     all_goals (try dsimp only)
     ·rw [decide_eq_true h0];rfl
     ·exact ⟨sb_,sb_,sb_,sb_,sb_,sb_,sb_,sb_,sb_,sb_,trivial⟩
     ·exact Mem.Less.refl _
    ·refine AWP.draw [(0,true),(1,true),(2,true),(3,true),(4,true),(5,true),(6,true),(7,true),(8,true),(9,true),(10,true),(11,true),(12,true),(13,false),(14,true),(15,true),(16,true)] [] mixed (by kernel_rfl) ?_
     iterate 8 refine s1_ ?_
     first|refine k_d ?_|refine dL (hc:=Calm.load ty_plain_3 rfl (rd_row (k:=a1-1) own_ rw_ rw_)) (h:=?_)
     iterate 3 refine s1_ ?_
     first|refine k_d ?_|refine dL (hc:=Calm.load ty_plain_3 rfl (rd_row (k:=pv) own_ rw_ rw_)) (h:=?_)
     refine draw_only rfl ?_
     refine s1_ ?_
     refine arun_nil ⟨fun _=>less_,?_⟩
     iterate 4 refine s1_ ?_
     refine ⟨false,?_,?_,?_⟩
     all_goals (try dsimp only)
     ·rw [decide_eq_false h0];rfl
     ·exact ⟨sb_,sb_,sb_,sb_,sb_,sb_,sb_,sb_,sb_,sb_,trivial⟩
     ·exact Mem.Less.refl _
   rintro x hx
   intro _ _ hs_ hl_
   (try dsimp only at *)
   refine athen_n ?_
   refine AWP.sub _ hs_ (AWP.less _ hl_ ?_)
   clear hs_ hl_
   rw [pdq3,← hx] at hq
   cases x
   ·refine cF_ ?_
    obtain ⟨⟨md,ap,d4⟩,hp4⟩ : ∃ q,q=partition (lq cf) d3 a1 e1 pv:=⟨_,rfl⟩
    rw [if_neg Bool.false_ne_true,← hp4] at hq
    dsimp only at hq
    iterate 9 refine s1_ ?_
    refine ca_ rfl ((hp4 ▸ soC_part C b room n cap hb hn d3 R3 _ _ _ a1 e1 pv rfl rfl rfl (by omega) (by omega) (by omega))) ?_
    rintro _ _ ⟨rfl,rfl,R4,g3,g4⟩
    dsimp only at R4 g3 g4
    rw [if_pos ⟨g3,g4⟩] at hq
    iterate 7 refine s1_ ?_
    refine su_ [(0,_),(1,_),(2,_),(3,_),(4,_),(10,_),(11,_),(12,_),(13,_),(97,_),(16,_),(17,_)] ?_
    by_cases hmd:md-a1<e1-md
    ·rw [if_pos hmd] at hq
     iterate 6 refine s1_ ?_
     refine su_ [(0,_),(1,_),(2,_),(3,_),(4,_),(10,_),(11,_),(12,_),(13,_),(97,_),(16,_),(17,_)] ?_
     iterate 12 refine s1_ ?_
     refine su_ [(0,_),(1,_),(2,_),(3,_),(4,_),(10,_),(11,_),(12,_),(13,_),(97,_),(16,_),(17,_),(18,_),(19,_)] ?_
     iterate 7 refine s1_ ?_
     refine su_ [(0,_),(1,_),(2,_),(3,_),(4,_),(10,_),(11,_),(12,_),(13,_),(97,_),(16,_),(17,_),(18,_),(19,_),(20,_)] ?_
     iterate 7 refine s1_ ?_
     refine su_ [(0,_),(1,_),(2,_),(3,_),(4,_),(10,_),(11,_),(12,_),(13,_),(97,_),(16,_),(17,_),(18,_),(19,_),(20,_),(125,_)] ?_
     refine cT_ ?_
     iterate 8 refine s1_ ?_
     refine su_ [(0,_),(1,_),(2,_),(3,_),(4,_),(10,_),(11,_),(12,_),(13,_),(97,_),(16,_),(17,_),(18,_),(19,_),(20,_),(125,_)] ?_
     iterate 7 refine s1_ ?_
     refine ca_ rfl (ih (md-a1) (by omega) d4 R4 _ _ _ a1 md l2 rfl rfl rfl (by omega) (by omega) (by omega) rfl) ?_
     rintro _ _ ⟨rfl,R5⟩
     iterate 2 refine s1_ ?_
     refine su_ [(0,_),(1,_),(2,_),(3,_),(4,_),(10,_),(11,_),(12,_),(13,_),(97,_),(16,_),(17,_),(18,_),(19,_),(20,_),(125,_)] ?_
     iterate 7 refine s1_ ?_
     refine ⟨(md+1,e1,l2,decide (md-a1 ≥ (e1-a1) / 8),ap,pdq (lq cf) d4 a1 md l2 true true),?_,?_,?_,?_⟩
     all_goals (try dsimp only)
     ·exact ⟨sb_,sb_,sb_,sb_,sb_,wbv_ (by omega),sb_,trivial⟩
     ·exact Mem.Less.refl _
     ·exact ⟨by omega,by omega,R5,by omega,by omega,hq⟩
     ·omega
    ·rw [if_neg hmd] at hq
     iterate 6 refine s1_ ?_
     refine su_ [(0,_),(1,_),(2,_),(3,_),(4,_),(10,_),(11,_),(12,_),(13,_),(97,_),(16,_),(17,_)] ?_
     iterate 12 refine s1_ ?_
     refine su_ [(0,_),(1,_),(2,_),(3,_),(4,_),(10,_),(11,_),(12,_),(13,_),(97,_),(16,_),(17,_),(18,_),(19,_)] ?_
     iterate 7 refine s1_ ?_
     refine su_ [(0,_),(1,_),(2,_),(3,_),(4,_),(10,_),(11,_),(12,_),(13,_),(97,_),(16,_),(17,_),(18,_),(19,_),(20,_)] ?_
     iterate 7 refine s1_ ?_
     refine su_ [(0,_),(1,_),(2,_),(3,_),(4,_),(10,_),(11,_),(12,_),(13,_),(97,_),(16,_),(17,_),(18,_),(19,_),(20,_),(125,_)] ?_
     refine cF_ ?_
     iterate 8 refine s1_ ?_
     refine su_ [(0,_),(1,_),(2,_),(3,_),(4,_),(10,_),(11,_),(12,_),(13,_),(97,_),(16,_),(17,_),(18,_),(19,_),(20,_),(125,_)] ?_
     iterate 8 refine s1_ ?_
     refine ca_ rfl (ih (e1-(md+1)) (by omega) d4 R4 _ _ _ (md+1) e1 l2 om_ rfl rfl (by omega) (by omega) (by omega) rfl) ?_
     rintro _ _ ⟨rfl,R5⟩
     iterate 2 refine s1_ ?_
     refine su_ [(0,_),(1,_),(2,_),(3,_),(4,_),(10,_),(11,_),(12,_),(13,_),(97,_),(16,_),(17,_),(18,_),(19,_),(20,_),(125,_)] ?_
     iterate 6 refine s1_ ?_
     refine ⟨(a1,md,l2,decide (e1-md ≥ (e1-a1) / 8),ap,pdq (lq cf) d4 (md+1) e1 l2 true true),?_,?_,?_,?_⟩
     all_goals (try dsimp only)
     ·exact ⟨sb_,sb_,sb_,sb_,sb_,wbv_ (by omega),sb_,trivial⟩
     ·exact Mem.Less.refl _
     ·exact ⟨by omega,by omega,R5,by omega,by omega,hq⟩
     ·omega
   ·refine cT_ ?_
    obtain ⟨⟨md,d4⟩,hp4⟩ : ∃ q,q=partitionEqual (lq cf) d3 a1 e1 pv:=⟨_,rfl⟩
    rw [if_pos rfl,← hp4] at hq
    dsimp only at hq
    iterate 7 refine s1_ ?_
    refine ca_ rfl ((hp4 ▸ soC_parteq C b room n cap hb hn d3 R3 _ _ _ a1 e1 pv rfl rfl rfl (by omega) (by omega) (by omega))) ?_
    rintro _ _ ⟨rfl,rfl,R4,g3,g4⟩
    dsimp only at R4 g3 g4
    rw [if_pos ⟨g3,g4⟩] at hq
    iterate 3 refine s1_ ?_
    refine su_ [(0,_),(1,_),(2,_),(3,_),(4,_),(10,_),(11,_),(12,_),(13,_),(97,_),(15,_)] ?_
    iterate 6 refine s1_ ?_
    refine su_ [(0,_),(1,_),(2,_),(3,_),(4,_),(10,_),(11,_),(12,_),(13,_),(97,_),(15,_)] ?_
    iterate 4 refine s1_ ?_
    refine ⟨(md,e1,l2,w1,w2,d4),?_,?_,?_,?_⟩
    all_goals (try dsimp only)
    ·exact ⟨sb_,sb_,sb_,sb_,sb_,sb_,sb_,trivial⟩
    ·exact Mem.Less.refl _
    ·exact ⟨by omega,by omega,R4,by omega,by omega,hq⟩
    ·omega
set_option maxHeartbeats 1000000 in
theorem soC_sort {α : Type} [Inhabited α] {enc : α → Value} {cf : α → α → Int} {okP : α → Prop} {g : Nat} {cb : List Value} {S : Mem} (C : CmpC Tryz.prog enc cf okP g cb S) (b room n cap : Nat) (hb : Fresh S b) (hn : n ≤ 1048576) (d : Array α) (R : Rw okP n d) :
  ACall Tryz.prog 72 #[.slice (some ⟨b,0,none⟩) n cap,.func (.func g) #[] cb.toArray] (S.set b ⟨3,(d).toList.map enc,room⟩) fun r S'=>S'=S.set b ⟨3,(pdq (lq cf) d 0 n (bitsLen n) true true).toList.map enc,room⟩∧Rw okP n (pdq (lq cf) d 0 n (bitsLen n) true true):=by
 have hbl:=bitsLen_small n hn
 refine ACall.enter (rs:=[]) 14 [(0,.slice (some ⟨b,0,none⟩) n cap),(1,.func (.func g) #[] cb.toArray)] Tryz.func72 rfl rfl (Nat.le_of_ble_eq_true rfl) rfl ⟨rfl,rfl,trivial⟩ ?_
 iterate 7 refine s1_ ?_
 refine su_ [(0,_),(1,_),(4,_)] ?_
 iterate 5 refine s1_ ?_
 refine ca_ rfl (so_Len n (by omega) _) ?_
 rintro _ _ ⟨rfl,rfl⟩
 refine s1_ ?_
 refine ca_ rfl (soC_pdq C b room n cap hb hn (n-0) d R _ _ _ 0 n (bitsLen n) rfl rfl rfl (Nat.zero_le _) (Nat.le_refl _) (by omega) rfl) ?_
 rintro _ _ ⟨rfl,R1⟩
 refine s1_ ?_
 refine ⟨_,_,rfl,Mem.Less.refl _,?_⟩
 exact ⟨rfl,R1⟩
end Go.Proofs.YtckloanlkpchoaaGreatDoor
namespace Go.Proofs.YtckloanlkpchoaaGreatDoor
open Go.RowKit
open Mv Num Loser Srt
set_option maxRecDepth 4000
/-- What a place's number so far behind is ranked, and one. -/
def bhd (r : List Nat) (k a : Nat) : Nat := Ord.beh r.length (fun j => r.getD j 0) k a
def cfD (r : List Nat) (k a b : Nat) : Int := orL [cmpZ (r.getD a 0 : Nat) (r.getD b 0 : Nat), cmpZ (bhd r k a : Nat) (bhd r k b : Nat)]
theorem cfD_neg (r : List Nat) (k a b : Nat) : cfD r k a b < 0 ↔ r.getD a 0 < r.getD b 0 ∨ r.getD a 0 = r.getD b 0 ∧ bhd r k a < bhd r k b := by
 unfold cfD orL orL orL
 have h1:=cmpZ_neg (r.getD a 0:Nat) (r.getD b 0:Nat)
 have h2:=cmpZ_zero (r.getD a 0:Nat) (r.getD b 0:Nat)
 have h3:=cmpZ_neg (bhd r k a:Nat) (bhd r k b:Nat)
 have h4:=cmpZ_zero (bhd r k a:Nat) (bhd r k b:Nat)
 split
 ·split <;> omega
 ·omega
theorem od_behind (ii : Int) (a k c1 c2 : Nat) (ei : ii = a) (vr : Value) (r : List Nat) (S : Mem) (h1 : S.Knows ⟨c1, 0, none⟩ [.int .i64 (k : Int)]) (h2 : S.Knows ⟨c2, 0, none⟩ [vr]) (hr : IdxR S vr r) (ha : a ≤ 8192) (hk : k ≤ 8192) (hb : ∀ x ∈ r, x ≤ 8192) :
  ACall Tryz.prog 68 #[.int .i64 ii,.pointer (some ⟨c1,0,none⟩),.pointer (some ⟨c2,0,none⟩)] S fun v S'=>v = .int .i64 (bhd r k a:Nat)∧S'=S:=by
 subst ei
 obtain ⟨ra,rc,rfl,r1,r2,r3⟩:=id hr
 unfold bhd Ord.beh
 by_cases h:a+k<r.length
 ·rw [if_pos h]
  dsimp only
  obtain ⟨rb,ro,rfl,hkn⟩:=r3.resolve_left (fun e=>by rw [e] at h;exact absurd h (Nat.not_lt_zero _))
  have hx:=hb _ (List.getElem_mem h)
  have k1:S.Knows ⟨rb,ro+(a+k)*1,none⟩ [.int .i64 (r.getD (a+k) 0:Nat)]:=by rw [getD_get r _ 0 h];exact hkn _ h
  rw [← getD_get r _ 0 h] at hx
  generalize r.getD (a+k) 0=x at *
  refine ACall.enter (rs:=[.tmp 4]) 18 [(0,.int .i64 (a:Int)),(1,.pointer (some ⟨c1,0,none⟩)),(2,.pointer (some ⟨c2,0,none⟩))] Tryz.func68 rfl rfl (Nat.le_of_ble_eq_true rfl) rfl ⟨rfl,rfl,rfl,trivial⟩ ?_
  iterate 16 refine s1_ ?_
  refine su_ [(0,_),(1,_),(2,_),(4,_),(10,_)] ?_
  refine cT_ ?_
  iterate 12 refine s1_ ?_
  refine su_ [(0,_),(1,_),(2,_),(4,_),(10,_)] ?_
  iterate 2 refine s1_ ?_
  refine ⟨_,S,⟨_,_,rfl,rfl,rfl⟩,less_,?_⟩
  exact ⟨rfl,rfl⟩
 ·rw [if_neg h]
  refine ACall.enter (rs:=[.tmp 4]) 18 [(0,.int .i64 (a:Int)),(1,.pointer (some ⟨c1,0,none⟩)),(2,.pointer (some ⟨c2,0,none⟩))] Tryz.func68 rfl rfl (Nat.le_of_ble_eq_true rfl) rfl ⟨rfl,rfl,rfl,trivial⟩ ?_
  iterate 16 refine s1_ ?_
  refine su_ [(0,_),(1,_),(2,_),(4,_),(10,_)] ?_
  refine cF_ ?_
  iterate 8 refine s1_ ?_
  refine ⟨_,S,⟨_,_,rfl,rfl,rfl⟩,less_,?_⟩
  exact ⟨rfl,rfl⟩
def behF (c5 c4 : Nat) : Value := .func (.func 68) #[] #[.pointer (some ⟨c5, 0, none⟩), .pointer (some ⟨c4, 0, none⟩)]
set_option maxHeartbeats 2000000 in
theorem od_cmp (a b k c4 c5 c7 : Nat) (vr : Value) (r : List Nat) (S : Mem) (h4 : S.Knows ⟨c4, 0, none⟩ [vr]) (h5 : S.Knows ⟨c5, 0, none⟩ [.int .i64 (k : Int)]) (h7 : S.Knows ⟨c7, 0, none⟩ [behF c5 c4]) (hr : IdxR S vr r) (ha : a < r.length) (hb : b < r.length) (hrl : r.length ≤ 4096) (hk : k ≤ 8192) (hbd : ∀ x ∈ r, x ≤ 8192) :
  ACall Tryz.prog 69 #[gI a,gI b,.pointer (some ⟨c4,0,none⟩),.pointer (some ⟨c7,0,none⟩)] S fun v S'=>v = .int .i64 (cfD r k a b)∧S'=S:=by
 unfold gI behF at *
 obtain ⟨ra,rc,rfl,r1,r2,r3⟩:=id hr
 obtain ⟨rb,ro,rfl,hkn⟩:=r3.resolve_left (fun e=>by rw [e] at ha;exact absurd ha (Nat.not_lt_zero _))
 have k1:S.Knows ⟨rb,ro+a*1,none⟩ [.int .i64 (r.getD a 0:Nat)]:=by rw [getD_get r _ 0 ha];exact hkn _ ha
 have k2:S.Knows ⟨rb,ro+b*1,none⟩ [.int .i64 (r.getD b 0:Nat)]:=by rw [getD_get r _ 0 hb];exact hkn _ hb
 refine ACall.enter (rs:=[.tmp 6]) 25 [(0,.int .i64 (a:Int)),(1,.int .i64 (b:Int)),(2,.pointer (some ⟨c4,0,none⟩)),(3,.pointer (some ⟨c7,0,none⟩))] Tryz.func69 rfl rfl (Nat.le_of_ble_eq_true rfl) rfl ⟨rfl,rfl,rfl,rfl,trivial⟩ ?_
 iterate 6 refine s1_ ?_
 refine AWP.draw [(0,true),(1,true),(2,true),(3,true),(4,true),(5,true),(6,true),(7,true),(9,true),(10,true),(12,true),(13,true),(8,false),(11,false),(14,false),(15,false),(16,false),(17,false),(18,true)] [] mixed (by kernel_rfl) ?_
 iterate 12 refine s1_ ?_
 refine draw_only rfl ?_
 refine ca_ rfl (si_cmp (r.getD a 0:Nat) (r.getD b 0:Nat) _) ?_
 rintro _ S1 ⟨rfl,e1⟩
 rw [e1];clear e1 S1
 refine arun_nil ⟨fun _=>less_,?_⟩
 refine draw_only rfl ?_
 refine ARun.callV (lit_lt rfl) go_68 rfl rfl (od_behind _ a k c5 c4 rfl _ r _ h5 h4 hr (by omega) hk hbd) ?_
 rintro _ S1 ⟨rfl,e1⟩
 rw [e1];clear e1 S1
 refine arun_nil ⟨fun _=>less_,?_⟩
 refine draw_only rfl ?_
 refine ARun.callV (lit_lt rfl) go_68 rfl rfl (od_behind _ b k c5 c4 rfl _ r _ h5 h4 hr (by omega) hk hbd) ?_
 rintro _ S1 ⟨rfl,e1⟩
 rw [e1];clear e1 S1
 refine arun_nil ⟨fun _=>less_,?_⟩
 refine draw_only rfl ?_
 refine ca_ rfl (si_cmp (bhd r k a:Nat) (bhd r k b:Nat) _) ?_
 rintro _ S1 ⟨rfl,e1⟩
 rw [e1];clear e1 S1
 refine arun_nil ⟨fun _=>less_,?_⟩
 refine draw_only rfl ?_
 refine ARun.buildN (cs:=[_,_]) (lit_lt rfl) ty_sl_52 rfl rfl rfl rfl ?_
 intro b23 f23
 have g23:=f23
 repeat ((with_reducible replace g23:=fresh_set g23);obtain ⟨g23,_⟩:=g23)
 refine arun_nil ⟨fun _=>less_,?_⟩
 refine draw_only rfl ?_
 refine ca_ rfl (si_Or _ _ _ (sl_own2 own_)) ?_
 rintro _ _ ⟨rfl,rfl⟩
 refine arun_nil ⟨fun _=>less_,?_⟩
 iterate 3 refine s1_ ?_
 refine su_ [(0,_),(1,_),(2,_),(3,_),(6,_)] ?_
 refine s1_ ?_
 refine ⟨_,S,⟨_,_,rfl,rfl,rfl⟩,less_,?_⟩
 exact ⟨rfl,rfl⟩
end Go.Proofs.YtckloanlkpchoaaGreatDoor
namespace Go.Proofs.YtckloanlkpchoaaGreatDoor
open Go.RowKit
open Mv Num Loser Srt
set_option maxRecDepth 4000
def odM (S : Mem) (b4 b5 b7 : Nat) (vr : Value) (k : Nat) : Mem := ((S.set b4 ⟨52, [vr], 1⟩).set b5 ⟨3, [.int .i64 (k : Int)], 1⟩).set b7 ⟨146, [behF b5 b4], 1⟩
def stepD (r : List Nat) (k a b : Nat) : Bool := decide (cfD r k a b < 0)
theorem sorted_dbl (r e : List Nat) (k n : Nat) (hel : e.length = n) (d' : Array Nat) (hd : d' = Go.Sort.pdq (lq (cfD r k)) e.toArray 0 n (Go.Sort.bitsLen n) true true) :
  d'.toList.Perm e ∧ ∀ i j,i<j→j<d'.toList.length→stepD r k (d'.toList.getD j 0) (d'.toList.getD i 0)=false:=by
 have hO:Go.Sort.SWO (lq (cfD r k)):=by
  have e1:∀ a b,lq (cfD r k) a b=true ↔ r.getD a 0<r.getD b 0∨r.getD a 0=r.getD b 0∧bhd r k a<bhd r k b:=fun a b=>by unfold lq;rw [decide_eq_true_eq,cfD_neg]
  have e0:∀ a b,lq (cfD r k) a b=false ↔ ¬ (r.getD a 0<r.getD b 0∨r.getD a 0=r.getD b 0∧bhd r k a<bhd r k b):=fun a b=>by rw [← e1];simp
  exact ⟨fun a=>by rw [e0];omega,fun a b c h1 h2=>by rw [e1] at *;omega,fun a b c h1 h2=>by rw [e0] at *;omega⟩
 subst hel
 obtain ⟨p1,p2⟩:=Go.Sort.pdq_sorts _ hO e.toArray 0 e.length (Go.Sort.bitsLen e.length) true true (Nat.zero_le _) (by simp) (Or.inl rfl)
 rw [← hd] at p1 p2
 have hs:d'.size=e.length:=by rw [p1.1];simp
 refine ⟨?_,fun i j hij hj=>?_⟩
 ·have:=p1.2.2
  rw [show d'.extract 0 e.length=d' by rw [← hs];simp,show e.toArray.extract 0 e.length=e.toArray by simp] at this
  simpa using this
 ·have hj':j<e.length:=by simpa [hs] using hj
  have:=p2 i j (Nat.zero_le _) hij hj'
  unfold stepD
  unfold lq at this
  rw [getD_get _ _ _ hj,getD_get _ _ _ (by omega)]
  rw [getElem!_pos d' j (by omega),getElem!_pos d' i (by omega)] at this
  simpa using this
/-- The new ranks, place by place. -/
def RkD (r e : List Nat) (k i : Nat) (o : List Nat) : Prop := o.length = e.length ∧ ∀ j, j < i → o.getD (e.getD j 0) 0 = Ord.ups (stepD r k) e j
theorem RkD.step {r e o : List Nat} {k i n y : Nat} (h : RkD r e k i o) (hp : e.Perm (List.range n)) (hi : i < e.length) (hy : y = Ord.ups (stepD r k) e i) : RkD r e k (i + 1) (o.set (e.getD i 0) y) := by
 have hel:e.length=n:=by rw [hp.length_eq,List.length_range]
 have hlt:∀ q,q<e.length→e.getD q 0<n:=fun q hq=>by rw [getD_get e q 0 hq];exact List.mem_range.1 (hp.mem_iff.1 (List.getElem_mem hq))
 refine ⟨by rw [List.length_set];exact h.1,fun j hj=>?_⟩
 have hl:=h.1
 rcases Nat.lt_or_ge j i with h' | h'
 ·have hne:e.getD i 0≠e.getD j 0:=fun h2=>by
   have hnd:e.Nodup:=hp.nodup_iff.2 List.nodup_range
   rw [getD_get e i 0 hi,getD_get e j 0 (by omega)] at h2
   exact absurd h2.symm (List.pairwise_iff_getElem.1 hnd j i (by omega) hi h')
  rw [List.getD_eq_getElem?_getD,List.getElem?_set_ne hne,← List.getD_eq_getElem?_getD,h.2 j h']
 ·obtain rfl:j=i:=by omega
  rw [List.getD_eq_getElem?_getD,List.getElem?_set_self (by have:=hlt j hi;omega),hy];rfl
theorem rkD_zero {r e : List Nat} {k n : Nat} (h : e.length = n) : RkD r e k 1 (List.replicate n 0) := by
 refine ⟨by simp [h],fun j hj=>?_⟩
 obtain rfl:j=0:=by omega
 show (List.replicate n 0).getD _ 0=0
 rw [List.getD_eq_getElem?_getD,List.getElem?_replicate]
 split <;> rfl
theorem ups_succ (R : Nat → Nat → Bool) (e : List Nat) (j : Nat) : Ord.ups R e (j + 1) = Ord.ups R e j + (if R (e.getD j 0) (e.getD (j + 1) 0) then 1 else 0) := rfl
theorem ups_small (R : Nat → Nat → Bool) (e : List Nat) : ∀ i, Ord.ups R e i ≤ i
 | 0=>Nat.le_refl _
 | i+1=>by rw [Ord.ups];have:=ups_small R e i;split <;> omega
set_option maxHeartbeats 4000000 in
theorem od_doubled (be k : Nat) (ik : Int) (ek : ik = k) (n : Nat) (vr : Value) (r e : List Nat) (S : Mem) (hbe : Fresh S be) (hr : IdxR S vr r) (hn : r.length = n) (hn0 : 0 < n) (hn1 : n ≤ 4096) (hk : k ≤ 8192) (hbd : ∀ x ∈ r, x ≤ 8192) (hp : e.Perm (List.range n)) :
  ACall Tryz.prog 39 #[.slice (some ⟨be,0,none⟩) n n,vr,.int .i64 ik] (S.set be ⟨3,e.map gI,n⟩) fun u S'=>∃ S1 e' r',S'=S1.set be ⟨3,e'.map gI,n⟩∧Fresh S1 be∧S.Less S1∧IdxR S1 u r'∧e'.Perm (List.range n)∧(∀ i j,i<j→j<e'.length→stepD r k (e'.getD j 0) (e'.getD i 0)=false)∧RkD r e' k n r':=by
 subst ek
 obtain ⟨ra,rc,rfl,r1,r2,r3⟩:=id hr
 have hel:e.length=n:=by rw [hp.length_eq,List.length_range]
 rw [hn] at r1 r2 hr ⊢
 refine ACall.enter (rs:=[.tmp 6]) 61 [(0,.slice (some ⟨be,0,none⟩) n n),(1,.slice ra n rc),(2,.int .i64 (k:Int))] Tryz.func39 rfl rfl (Nat.le_of_ble_eq_true rfl) rfl ⟨rfl,rfl,rfl,trivial⟩ ?_
 iterate 2 refine s1_ ?_
 refine ARun.box1 (lit_lt rfl) rfl rfl ?_
 intro b4 f4
 have g4:=f4
 repeat ((with_reducible replace g4:=fresh_set g4);obtain ⟨g4,_⟩:=g4)
 refine nl_ ?_
 refine ARun.box1 (lit_lt rfl) rfl rfl ?_
 intro b5 f5
 have g5:=f5
 repeat ((with_reducible replace g5:=fresh_set g5);obtain ⟨g5,_⟩:=g5)
 refine nl_ ?_
 iterate 6 refine s1_ ?_
 refine ARun.alloc (lit_lt rfl) ty_zero_146 ?_
 intro b7 f7
 have g7:=f7
 repeat ((with_reducible replace g7:=fresh_set g7);obtain ⟨g7,_⟩:=g7)
 refine nl_ ?_
 iterate 3 refine s1_ ?_
 refine su_ [(0,_),(1,_),(2,_),(4,_),(5,_),(6,_),(7,_)] ?_
 iterate 6 refine s1_ ?_
 refine su_ [(0,_),(1,_),(2,_),(4,_),(5,_),(6,_),(7,_),(8,_)] ?_
 refine AWP.less ((odM S b4 b5 b7 (.slice ra n rc) k).set be ⟨3,e.map gI,n⟩) (by unfold odM behF;exact less_) ?_
 have fB:Fresh (odM S b4 b5 b7 (.slice ra n rc) k) be:=fresh_more (fresh_more (fresh_more hbe ne_) ne_) ne_
 have o4:(odM S b4 b5 b7 (.slice ra n rc) k).own b4=some ⟨52,[.slice ra n rc],1⟩:=by unfold odM;exact own_
 have o5:(odM S b4 b5 b7 (.slice ra n rc) k).own b5=some ⟨3,[.int .i64 (k:Int)],1⟩:=by unfold odM;exact own_
 have o7:(odM S b4 b5 b7 (.slice ra n rc) k).own b7=some ⟨146,[behF b5 b4],1⟩:=by unfold odM;exact own_
 have hless:S.Less (odM S b4 b5 b7 (.slice ra n rc) k):=by unfold odM;exact less_
 generalize odM S b4 b5 b7 (.slice ra n rc) k=S0 at *
 have hcmp:∀ T,S0.Less T → ∀ x y,x<n→y<n→ACall Tryz.prog 69 #[gI x,gI y,.pointer (some ⟨b4,0,none⟩),.pointer (some ⟨b7,0,none⟩)] T fun v S'=>v = .int .i64 (cfD r k x y)∧S'=T:=fun T hT x y hx hy=>od_cmp x y k b4 b5 b7 _ r T (Mem.own_knows (hT.own o4) 0 _ (fun j v hj=>by rw [Nat.zero_add];exact hj)) (Mem.own_knows (hT.own o5) 0 _ (fun j v hj=>by rw [Nat.zero_add];exact hj)) (Mem.own_knows (hT.own o7) 0 _ (fun j v hj=>by rw [Nat.zero_add];exact hj)) (hr.less (hless.trans hT)) (by omega) (by omega) (by omega) hk hbd
 have hC:CmpC Tryz.prog gI (cfD r k) (fun x=>x<n) 69 [.pointer (some ⟨b4,0,none⟩),.pointer (some ⟨b7,0,none⟩)] S0:=⟨fun x=>⟨rfl,rfl⟩,go_69,fun x y hx hy=>hcmp S0 (Mem.Less.refl _) x y hx hy⟩
 have hR:Rw (fun x=>x<n) n e.toArray:=⟨by simp [hel],fun i hi=>by rw [getElem!_pos _ i (by simp [hel];exact hi)];exact List.mem_range.1 (hp.mem_iff.1 (by simp))⟩
 have hsort:=soC_sort hC be n n n fB (by omega) e.toArray hR
 obtain ⟨d',hd'⟩ : ∃ d',d'=Go.Sort.pdq (lq (cfD r k)) e.toArray 0 n (Go.Sort.bitsLen n) true true:=⟨_,rfl⟩
 obtain ⟨hp2,hs2⟩:=sorted_dbl r e k n hel d' hd'
 rw [← hd'] at hsort
 obtain ⟨e',he'⟩ : ∃ e',e'=d'.toList:=⟨_,rfl⟩
 rw [← he'] at hsort hp2 hs2
 replace hp2:=hp2.trans hp
 have hel2:e'.length=n:=by rw [hp2.length_eq,List.length_range]
 clear hd' hC hR he'
 iterate 4 refine s1_ ?_
 refine ca_ rfl (hsort) ?_
 rintro _ _ ⟨rfl,_⟩
 have hlt:∀ q,q<n→e'.getD q 0<n:=fun q hq=>by rw [getD_get e' q 0 (by omega)];exact List.mem_range.1 (hp2.mem_iff.1 (List.getElem_mem _))
 obtain ⟨T,hT⟩ : ∃ T,T=S0.set be ⟨3,e'.map gI,n⟩:=⟨_,rfl⟩
 have hST:S0.Less T:=by rw [hT];exact Mem.less_set _ _ _ fB.1
 have oe:T.own be=some ⟨3,e'.map gI,n⟩:=by rw [hT];exact Mem.own_set_same _ _ _
 rw [← hT]
 have o4T:=hST.own o4
 iterate 2 refine s1_ ?_
 refine su_ [(0,_),(1,_),(2,_),(4,_),(5,_),(6,_),(7,_),(8,_)] ?_
 iterate 4 refine s1_ ?_
 refine ARun.makeSlice (lit_lt rfl) ty_sl_52 rfl rfl (by omega) (by omega) (by omega) (by omega) ?_
 intro b18 f18
 have g18:=f18
 repeat ((with_reducible replace g18:=fresh_set g18);obtain ⟨g18,_⟩:=g18)
 iterate 3 refine s1_ ?_
 refine su_ [(0,_),(1,_),(2,_),(4,_),(5,_),(6,_),(7,_),(8,_),(9,_)] ?_
 rw [show madeL [Value.int .i64 0] (((n:Nat):Int).toNat*1)=(List.replicate n 0).map gI by rw [madeL_one,List.map_replicate,Nat.mul_one];rfl,Nat.mul_one,Int.toNat_natCast]
 iterate 7 refine s1_ ?_
 refine AWP.loop (X:=Nat × List Nat) (fun x=>[(0,.slice (some ⟨be,0,none⟩) n n),(8,.func (.func 69) #[] #[.pointer (some ⟨b4,0,none⟩),.pointer (some ⟨b7,0,none⟩)]),(9,.slice (some ⟨b18,0,none⟩) n n),(10,.int .i64 x.1)]) (fun x=>T.set b18 ⟨3,x.2.map gI,n⟩) (fun x=>1≤x.1∧x.1≤n∧RkD r e' k x.1 x.2) (fun x=>n-x.1) ((1,List.replicate n 0)) ⟨rfl,rfl,rfl,rfl,trivial⟩ (Mem.Less.refl _) (⟨Nat.le_refl _,hn0,rkD_zero hel2⟩) ?_
 rintro ⟨i,o⟩ ⟨q1,q2,q3⟩
 (try dsimp only at *)
 by_cases hi:i<n
 ·iterate 9 refine s1_ ?_
  refine su_ [(0,_),(8,_),(9,_),(10,_),(22,_)] ?_
  refine cT_ ?_
  obtain ⟨j,rfl⟩ : ∃ j,i=j+1:=⟨i-1,by omega⟩
  have hpl:=hlt j (by omega)
  have hql:=hlt (j+1) hi
  have ep:e'[j]'(by omega)=e'.getD j 0:=(getD_get _ _ _ (by omega)).symm
  have eq:e'[j+1]'(by omega)=e'.getD (j+1) 0:=(getD_get _ _ _ (by omega)).symm
  have hol:o.length=n:=by rw [q3.1,hel2]
  have hy:=q3.2 j (by omega)
  have hyl:=ups_small (stepD r k) e' j
  have hst:=ups_succ (stepD r k) e' j
  have hstp:=fun y (hy:y=Ord.ups (stepD r k) e' (j+1))=>q3.step hp2 (by omega) hy
  rw [show stepD r k (e'.getD j 0) (e'.getD (j+1) 0)=decide (cfD r k (e'.getD j 0) (e'.getD (j+1) 0)<0) from rfl] at hst
  generalize Ord.ups (stepD r k) e' j=y at *
  generalize Ord.ups (stepD r k) e' (j+1)=y' at *
  obtain ⟨p,hpe⟩ : ∃ p,p=e'.getD j 0:=⟨_,rfl⟩
  obtain ⟨q,hqe⟩ : ∃ q,q=e'.getD (j+1) 0:=⟨_,rfl⟩
  rw [← hpe] at hpl ep hy hst
  rw [← hqe] at hql eq hst hstp
  have hT1:∀ c:List Nat,T.Less (T.set b18 ⟨3,c.map gI,n⟩):=fun c=>Mem.less_set _ _ _ f18.1
  have ob:∀ c:List Nat,(T.set b18 ⟨3,c.map gI,n⟩).own b18=some ⟨3,c.map gI,n⟩:=fun c=>Mem.own_set_same _ _ _
  iterate 5 refine s1_ ?_
  refine AWP.draw [(0,true),(1,true),(2,true),(3,true),(4,true),(5,true),(6,true),(7,true),(8,true),(9,true),(10,true),(11,true),(12,true),(13,true),(14,false)] [14] mixed (by kernel_rfl) ?_
  iterate 4 refine s1_ ?_
  refine dC (hc:=Calm.as (show gI (e'[j+1]'(by omega)) = .int .i64 (q:Int) by rw [eq];rfl) (Calm.load ty_plain_3 rfl (rd_list (g:=gI) (j+1) (by omega) ((hT1 o).own oe) rw_))) (h:=?_)
  iterate 5 refine s1_ ?_
  refine dC (hc:=Calm.as (show gI (e'[j]'(by omega)) = .int .i64 (p:Int) by rw [ep];rfl) (Calm.load ty_plain_3 rfl (rd_list (g:=gI) j (by omega) ((hT1 o).own oe) rw_))) (h:=?_)
  refine s1_ ?_
  refine dC (hc:=Calm.as (show gI (o[p]'(by omega)) = .int .i64 (y:Int) by rw [← hy,getD_get _ _ _ (by omega)];rfl) (Calm.load ty_plain_3 rfl (rd_list (g:=gI) p (by omega) (ob o) rw_))) (h:=?_)
  refine s1_ ?_
  refine draw_only rfl ?_
  refine s1_ ?_
  refine arun_nil ⟨fun h=>absurd h (by decide),?_⟩
  iterate 2 refine s1_ ?_
  refine su_ [(0,_),(8,_),(9,_),(10,_),(22,_)] ?_
  rw [Int.toNat_natCast,Nat.mul_one,show (Value.int .i64 (y:Int))=gI y from rfl,← List.map_set]
  obtain ⟨o1,ho1⟩ : ∃ o1,o1=o.set q y:=⟨_,rfl⟩
  have hset:o1.set q y'=o.set q y':=by rw [ho1,List.set_set]
  have hol1:o1.length=n:=by rw [ho1,List.length_set];exact hol
  have hq1:o1[q]'(by omega)=y:=by subst ho1;exact List.getElem_set_self _
  rw [← ho1]
  refine s1_ ?_
  refine AWP.draw [(0,true),(1,true),(2,true),(3,true),(4,true),(5,true),(6,true),(7,true),(8,true),(9,true),(10,false),(11,true)] [] mixed (by kernel_rfl) ?_
  iterate 5 refine s1_ ?_
  refine dC (hc:=Calm.as (show gI (e'[j]'(by omega)) = .int .i64 (p:Int) by rw [ep];rfl) (Calm.load ty_plain_3 rfl (rd_list (g:=gI) j (by omega) ((hT1 o1).own oe) rw_))) (h:=?_)
  iterate 3 refine s1_ ?_
  refine dC (hc:=Calm.as (show gI (e'[j+1]'(by omega)) = .int .i64 (q:Int) by rw [eq];rfl) (Calm.load ty_plain_3 rfl (rd_list (g:=gI) (j+1) (by omega) ((hT1 o1).own oe) rw_))) (h:=?_)
  refine draw_only rfl ?_
  refine ARun.callV (lit_lt rfl) go_69 rfl rfl (hcmp _ (hST.trans (hT1 o1)) p q hpl hql) ?_
  rintro _ S1 ⟨rfl,e1⟩
  rw [e1];clear e1 S1
  refine arun_nil ⟨fun _=>less_,?_⟩
  iterate 3 refine s1_ ?_
  refine su_ [(0,_),(8,_),(9,_),(10,_),(22,_),(50,_)] ?_
  refine AWP.join (X:=Unit) (fun _=>[(0,.slice (some ⟨be,0,none⟩) n n),(8,.func (.func 69) #[] #[.pointer (some ⟨b4,0,none⟩),.pointer (some ⟨b7,0,none⟩)]),(9,.slice (some ⟨b18,0,none⟩) n n),(10,.int .i64 ((j+1:Nat):Int))]) (fun _=>T.set b18 ⟨3,(o.set q y').map gI,n⟩) (fun _=>j+1<n) ?_ ?_
  ·by_cases hneg:cfD r k p q<0
   ·rw [decide_eq_true hneg,if_pos rfl] at hst
    refine cT_ ?_
    iterate 5 refine s1_ ?_
    refine rC (Calm.as (show gI (e'[j+1]'(by omega)) = .int .i64 (q:Int) by rw [eq];rfl) (Calm.load ty_plain_3 rfl (rd_list (g:=gI) (j+1) (by omega) ((hT1 o1).own oe) rw_))) ?_
    refine s1_ ?_
    refine rC (Calm.as (show gI (o1[q]'(by omega)) = .int .i64 (y:Int) by rw [hq1];rfl) (Calm.load ty_plain_3 rfl (rd_list (g:=gI) q (by omega) (ob o1) rw_))) ?_
    iterate 4 refine s1_ ?_
    refine ⟨(),?_,?_,?_⟩
    all_goals (try dsimp only)
    ·exact hi
    ·exact ⟨sq_,sq_,sq_,sq_,trivial⟩
    ·rw [Int.toNat_natCast,Nat.mul_one,← hset,hst,List.map_set];exact Mem.Less.refl _
   ·rw [decide_eq_false hneg,if_neg (by decide)] at hst
    refine cF_ ?_
    refine s1_ ?_
    refine ⟨(),?_,?_,?_⟩
    all_goals (try dsimp only)
    ·exact hi
    ·exact ⟨sq_,sq_,sq_,sq_,trivial⟩
    ·rw [hst,Nat.add_zero,← ho1];exact Mem.Less.refl _
  rintro _ _
  intro _ _ hs_ hl_
  (try dsimp only at *)
  refine ain_n ?_
  refine athen_n ?_
  refine AWP.sub _ hs_ (AWP.less _ hl_ ?_)
  clear hs_ hl_
  iterate 6 refine s1_ ?_
  refine ⟨(j+2,o.set q y'),?_,?_,?_,?_⟩
  all_goals (try dsimp only)
  ·exact ⟨sq_,sq_,sq_,sq_,trivial⟩
  ·exact Mem.Less.refl _
  ·exact ⟨by omega,hi,by rw [hqe];rw [← hqe];exact hstp y' rfl⟩
  ·omega
 ·obtain rfl:i=n:=by omega
  iterate 9 refine s1_ ?_
  refine su_ [(0,_),(8,_),(9,_),(10,_),(22,_)] ?_
  refine cF_ ?_
  have hne:be≠b18:=f18.ne oe
  have hf0:Fresh S0 b18:=f18.less hST
  iterate 11 refine s1_ ?_
  refine su_ [(0,_),(8,_),(9,_),(10,_),(22,_),(6,_)] ?_
  refine s1_ ?_
  refine ⟨_,_,⟨_,_,rfl,rfl,rfl⟩,Mem.Less.refl _,?_⟩
  exact ⟨S0.set b18 ⟨3,o.map gI,i⟩,e',o,by rw [hT];exact Mem.set_comm _ _ _ hne,fresh_more fB hne,hless.trans (Mem.less_set _ _ _ hf0.1),Sl.own1 (g:=gI) (l:=o) (Mem.own_set_same _ _ _) List.prefix_rfl (by rw [q3.1,hel2]) (Nat.le_refl _) (by omega),hp2,hs2,q3⟩
end Go.Proofs.YtckloanlkpchoaaGreatDoor
namespace Go.Proofs.YtckloanlkpchoaaGreatDoor
open Go.RowKit
open Mv Num Loser Srt
set_option maxRecDepth 4000
def rkF (r : List Nat) (j : Nat) : Nat := r.getD j 0
theorem step_pl {l r : List Nat} {k : Nat} (hk : 0 < k) (hl : r.length = l.length) (h : Ord.RK l k (rkF r)) {a b : Nat} (ha : a < l.length) (hb : b < l.length) : stepD r k a b = Ord.pl l (k + k) a b := by
 rw [Bool.eq_iff_iff,Ord.pl_double l k hk (rkF r) h a b ha hb]
 unfold stepD
 rw [decide_eq_true_eq,cfD_neg]
 unfold bhd rkF
 rw [hl]
theorem ups_congr {R R' : Nat → Nat → Bool} {e : List Nat} {n : Nat} (he : ∀ q, q < e.length → e.getD q 0 < n) (h : ∀ a b, a < n → b < n → R a b = R' a b) : ∀ i, i < e.length → Ord.ups R e i = Ord.ups R' e i
 | 0,_=>rfl
 | i+1,hi=>by rw [ups_succ,ups_succ,ups_congr he h i (by omega),h _ _ (he i (by omega)) (he (i+1) hi)]
theorem dbl_plain {l r e' r' : List Nat} {k : Nat} (hk : 0 < k) (hl : r.length = l.length) (h : Ord.RK l k (rkF r)) (hp : e'.Perm (List.range l.length)) (hs : ∀ i j, i < j → j < e'.length → stepD r k (e'.getD j 0) (e'.getD i 0) = false) (hr : RkD r e' k l.length r') :
  Ord.RK l (k+k) (rkF r')∧(∀ i j,i<j→j<e'.length→Ord.pl l (k+k) (e'.getD j 0) (e'.getD i 0)=false)∧r'.length=l.length ∧ ∀ x ∈ r',x≤l.length:=by
 have hel:e'.length=l.length:=by rw [hp.length_eq,List.length_range]
 have hlt:∀ q,q<e'.length→e'.getD q 0<l.length:=fun q hq=>by rw [getD_get e' q 0 hq];exact List.mem_range.1 (hp.mem_iff.1 (List.getElem_mem hq))
 have hs':∀ i j,i<j→j<e'.length→Ord.pl l (k+k) (e'.getD j 0) (e'.getD i 0)=false:=fun i j hij hj=>by
  rw [← step_pl hk hl h (hlt j hj) (hlt i (by omega))];exact hs i j hij hj
 refine ⟨Ord.rk_new l (k+k) e' hp hs' (rkF r') (fun i hi=>?_),hs',by rw [hr.1,hel],fun x hx=>?_⟩
 ·unfold rkF
  rw [hr.2 i (by omega)]
  exact ups_congr hlt (fun a b ha hb=>step_pl hk hl h ha hb) i hi
 ·obtain ⟨q,hq,rfl⟩:=List.getElem_of_mem hx
  obtain ⟨j,hj,hjq⟩:=List.getElem_of_mem (hp.mem_iff.2 (List.mem_range.2 (by have:=hr.1;omega:q<l.length)))
  have:=hr.2 j (by omega)
  rw [getD_get e' j 0 hj,hjq,getD_get r' q 0 hq] at this
  rw [this]
  have:=ups_small (stepD r k) e' j
  omega
/-- A new slice over what was there. -/
def OwnL {α : Type} (g : α → Value) (e : TypeId) (l : List α) (S : Mem) (r : Value) (S' : Mem) : Prop := ∃ M, S.Less M ∧ NewL g e l M r S'
theorem OwnL.rd {α : Type} {g : α → Value} {e : TypeId} {l : List α} {S : Mem} {r : Value} {S' : Mem} (h : OwnL g e l S r S') (hm : l.length ≤ 9223372036854775807) : RdL g l S r S' := by
 obtain ⟨M,h1,h2⟩:=h
 obtain ⟨h3,h4⟩:=h2.rd hm
 exact ⟨h1.trans h3,h4⟩
set_option maxHeartbeats 4000000 in
theorem od_endsN (vr : Value) (l r : List Nat) (S : Mem) (hr : IdxR S vr r) (hrl : r.length = l.length) (hl : l.length ≤ 4096) (hbd : ∀ x ∈ r, x ≤ 8192) (h1 : Ord.RK l 1 (rkF r)) :
  ACall Tryz.prog 16 #[vr] S (OwnL gI 3 (Ord.endsR l l.length) S):=by
 obtain ⟨ra,rc,rfl,_⟩:=id hr
 obtain ⟨n,hn⟩ : ∃ n,n=l.length:=⟨_,rfl⟩
 rw [hrl,← hn] at hr ⊢
 rw [← hn] at hl hrl
 refine ACall.enter (rs:=[.tmp 2]) 30 [(0,.slice ra n rc)] Tryz.func16 rfl rfl (Nat.le_of_ble_eq_true rfl) rfl ⟨rfl,trivial⟩ ?_
 refine k_a (k_e rfl (k_a (k_m rfl ?_)))
 refine rC (Calm.lenSl Tryz.underlying52 rfl) ?_
 refine ARun.makeSlice (lit_lt rfl) ty_sl_52 rfl rfl (by omega) (by omega) (by omega) (by omega) ?_
 intro b8 f8
 have g8:=f8
 repeat ((with_reducible replace g8:=fresh_set g8);obtain ⟨g8,_⟩:=g8)
 refine k_e rfl ?_
 refine k_u [(0,_),(2,_),(3,_)] ?_
 rw [show madeL [Value.int .i64 0] (((n:Nat):Int).toNat*1)=List.replicate (n-0) (gI 0) by rw [madeL_one,Nat.mul_one];rfl,Nat.mul_one,Int.toNat_natCast]
 refine AWP.seq (k_a (k_m rfl ?_))
 refine rC (Calm.lenSl Tryz.underlying52 rfl) ?_
 refine k_m rfl (k_n ?_)
 refine k_u [(0,_),(2,_),(3,_),(10,_),(11,_)] ?_
 refine AWP.block ?_
 refine AWP.loop (X:=Nat) (fun x=>[(0,.slice ra n rc),(3,.slice (some ⟨b8,0,none⟩) n n),(10,.int .i64 n),(11,.int .i64 x)]) (fun x=>S.set b8 ⟨3,(List.range x).map gI ++ List.replicate (n-x) (gI 0),n⟩) (fun x=>x≤n) (fun x=>n-x) (0) ⟨rfl,rfl,rfl,rfl,trivial⟩ (Mem.Less.refl _) (Nat.zero_le _) ?_
 rintro i hi
 (try dsimp only at *)
 by_cases hc:i<n
 ·refine k_a ?_
  refine rC (Calm.bin rfl rfl b_lss) ?_
  refine k_n (AWP.seq ?_)
  refine k_T rfl ?_
  have hlr:((List.range i).map gI ++ List.replicate (n-i) (gI 0)).length=n:=by simp;omega
  refine k_k (AWP.seq ?_)
  refine AWP.block ?_
  refine k_a (k_m rfl (k_e rfl ?_))
  refine k_u [(0,_),(3,_),(10,_),(11,_),(12,_),(4,_)] ?_
  refine AWP.region ?_
  refine k_m rfl (k_m rfl (k_m rfl ?_))
  refine rC (Calm.indexS Tryz.underlying52 ty_size_3 rfl rfl (by omega) (by omega)) ?_
  refine ARun.store1 rfl rfl ty_size_3 rfl own_ lens_ rfl ?_
  try simp only [k_ms,k_sz,k_ss,k_za,Nat.reduceAdd]
  refine arun_nil ?_
  refine ain_n ?_
  refine athen_n ?_
  refine k_u [(0,_),(3,_),(10,_),(11,_),(12,_),(4,_)] ?_
  simp only [Nat.zero_add,Nat.mul_one,Int.toNat_natCast]
  rw [show (Value.int .i64 (i:Int))=gI i from rfl,fill_map gI (List.range i) 0 n i i (by simp) hc,← List.range_succ]
  refine AWP.region ?_
  refine rC (Calm.bin rfl rfl b_add_i64) ?_
  refine k_m rfl (k_n ?_)
  refine ⟨i+1,?_,?_,?_,?_⟩
  all_goals (try dsimp only)
  ·exact ⟨sq_,sq_,sq_,sq_,trivial⟩
  ·exact Mem.Less.refl _
  ·exact hc
  ·omega
 ·obtain rfl:n=i:=by omega
  refine k_a ?_
  refine rC (Calm.bin rfl rfl b_lss) ?_
  refine k_n (AWP.seq ?_)
  refine k_F rfl ?_
  rw [Nat.sub_self,List.replicate_zero,List.append_nil]
  refine AWP.exit ?_
  refine athen_exit ?_
  refine athen_exit ?_
  refine ain_same ?_
  refine athen_n ?_
  refine AWP.seq (k_a (k_e rfl ?_))
  refine AWP.block ?_
  refine AWP.loop (X:=Mem × List Nat × List Nat × Value × Nat) (fun x=>[(0,x.2.2.2.1),(3,.slice (some ⟨b8,0,none⟩) n n),(5,.int .i64 x.2.2.2.2)]) (fun x=>x.1.set b8 ⟨3,x.2.1.map gI,n⟩) (fun x=>S.Less x.1∧Fresh x.1 b8∧IdxR x.1 x.2.2.2.1 x.2.2.1∧x.2.2.1.length=n∧Ord.RK l x.2.2.2.2 (rkF x.2.2.1)∧(∀ y ∈ x.2.2.1,y≤8192)∧x.2.1.Perm (List.range n)∧1≤x.2.2.2.2∧x.2.2.2.2≤8192∧(n<x.2.2.2.2 → ∀ i j,i<j→j<x.2.1.length→Ord.pl l x.2.2.2.2 (x.2.1.getD j 0) (x.2.1.getD i 0)=false)) (fun x=>8192-x.2.2.2.2) ((S,List.range n,r,.slice ra n rc,1)) ⟨rfl,rfl,rfl,trivial⟩ (Mem.Less.refl _) (⟨Mem.Less.refl _,f8,hr,hrl,h1,hbd,List.Perm.refl _,Nat.le_refl _,by show 1≤8192;decide,fun h i j hij hj=>by have h':n<1:=h;have h2:j<(List.range n).length:=hj;rw [List.length_range] at h2;omega⟩) ?_
  rintro ⟨M,e,r2,vr2,k⟩ ⟨q1,q2,q3,q4,q5,q6,q7,q8,q9,q10⟩
  (try dsimp only at *)
  obtain ⟨ra2,rc2,rfl,_⟩:=id q3
  rw [q4] at q3 ⊢
  by_cases hk:k≤n
  ·refine AWP.seq (k_a (k_m rfl (k_m rfl ?_)))
   refine rC (Calm.lenSl Tryz.underlying52 rfl) ?_
   refine rC (Calm.bin rfl rfl b_leq) ?_
   refine k_n ?_
   refine k_u [(0,_),(3,_),(5,_),(22,_)] ?_
   refine k_T rfl ?_
   refine k_k (AWP.seq ?_)
   refine AWP.block ?_
   refine AWP.region ?_
   refine k_m rfl (k_m rfl (k_m rfl ?_))
   refine ARun.call (lit_lt rfl) go_39 rfl (od_doubled b8 k _ rfl n _ r2 e M q2 q3 q4 (by omega) hl q9 q6 q7) ?_
   rintro u S2 ⟨S1,e2,r3,rfl,g1,g2,g3,g4,g5,g6⟩
   rw [hn] at g4 g6
   obtain ⟨p1,p2,p3,p4⟩:=dbl_plain q8 (by omega) q5 g4 g5 g6
   rw [← hn] at g4 p3 p4
   refine k_s rfl ?_
   refine arun_nil ?_
   refine ain_n ?_
   refine athen_n ?_
   refine k_u [(0,_),(3,_),(5,_),(22,_)] ?_
   refine AWP.region ?_
   refine k_m rfl ?_
   refine rC (Calm.bin rfl rfl b_mul_i64) ?_
   refine k_e rfl ?_
   refine ⟨(S1,e2,r3,u,k+k),?_,?_,?_,?_⟩
   all_goals (try dsimp only)
   ·exact ⟨sq_,sq_,congrArg (fun q:Int=>some (Value.int .i64 q)) (by omega),trivial⟩
   ·exact Mem.Less.refl _
   ·exact ⟨q1.trans g2,g1,g3,p3,p1,fun y hy=>by have:=p4 y hy;omega,g4,by omega,by omega,fun _=>p2⟩
   ·omega
  ·refine AWP.seq (k_a (k_m rfl (k_m rfl ?_)))
   refine rC (Calm.lenSl Tryz.underlying52 rfl) ?_
   refine rC (Calm.bin rfl rfl b_leq) ?_
   refine k_n ?_
   refine k_u [(0,_),(3,_),(5,_),(22,_)] ?_
   refine k_F rfl ?_
   have hso:Ord.SortedE l e:=Ord.pl_sorted l k (by omega) e (by rw [← hn];exact q7) (q10 (by omega))
   have hen:Ord.endsR l n=e:=by rw [hn];exact Ord.sortedE_one (Ord.endsR_ok l) hso
   rw [hen]
   refine AWP.exit ?_
   refine athen_exit ?_
   refine athen_exit ?_
   refine ain_same ?_
   refine athen_n ?_
   refine k_a (k_m rfl (k_e rfl ?_))
   refine k_u [(0,_),(3,_),(5,_),(22,_),(2,_)] ?_
   refine AWP.ret ?_
   refine ⟨_,_,⟨_,_,rfl,rfl,rfl⟩,Mem.Less.refl _,?_⟩
   exact ⟨M,q1,some (b8,n),okO_own q2 (by rw [q7.length_eq,List.length_range];exact Nat.le_refl _),by rw [q7.length_eq,List.length_range];rfl,rfl⟩
theorem od_ends (vr : Value) (l r : List Nat) (S : Mem) (hr : IdxR S vr r) (hrl : r.length = l.length) (hl : l.length ≤ 4096) (hbd : ∀ x ∈ r, x ≤ 8192) (h1 : Ord.RK l 1 (rkF r)) :
  ACall Tryz.prog 16 #[vr] S (RdL gI (Ord.endsR l l.length) S):=(od_endsN vr l r S hr hrl hl hbd h1).mono fun r S' h=>h.rd (by rw [(Ord.endsR_ok l).len];omega)
end Go.Proofs.YtckloanlkpchoaaGreatDoor
namespace Go.Proofs.YtckloanlkpchoaaGreatDoor
open Go.RowKit
open Mv Num Loser Srt
/-- How many are less. -/
def cntL (D : List Nat) (x : Nat) : Nat := D.countP (fun y => decide (y < x))
theorem cnt_of (D : List Nat) (x i : Nat) (hi : i ≤ D.length) (h1 : ∀ k (hk : k < D.length), k < i → D[k] < x) (h2 : ∀ k (hk : k < D.length), i ≤ k → x ≤ D[k]) : cntL D x = i := by
 unfold cntL
 rw [← List.take_append_drop i D,List.countP_append]
 have e1:(D.take i).countP (fun y=>decide (y<x))=(D.take i).length:=List.countP_eq_length.2 fun y hy=>by
  obtain ⟨k,hk,rfl⟩:=List.getElem_of_mem hy
  rw [List.length_take] at hk
  rw [List.getElem_take]
  exact decide_eq_true (h1 k (by omega) (by omega))
 have e2:(D.drop i).countP (fun y=>decide (y<x))=0:=List.countP_eq_zero.2 fun y hy=>by
  obtain ⟨k,hk,rfl⟩:=List.getElem_of_mem hy
  rw [List.length_drop] at hk
  rw [List.getElem_drop]
  have:=h2 (i+k) (by omega) (by omega)
  simp;omega
 rw [e1,e2,List.length_take];omega
theorem cnt_lt (D : List Nat) (x y : Nat) (hx : x ∈ D) (h : x < y) : cntL D x < cntL D y := by
 unfold cntL
 induction D with
 | nil=>cases hx
 | cons d D ih =>
  rw [List.countP_cons,List.countP_cons]
  have hmono:D.countP (fun z=>decide (z<x))≤D.countP (fun z=>decide (z<y)):=List.countP_mono_left fun z _ hz=>by simp at hz ⊢;omega
  rcases List.mem_cons.1 hx with rfl | hx
  ·rw [if_neg (by simp),if_pos (by simp [h])];omega
  ·have:=ih hx
   split <;> split <;> simp_all <;> omega
theorem cnt_le (D : List Nat) (x : Nat) : cntL D x ≤ D.length := List.countP_le_length
/-- Places ranked by how many are less: ranks of one number each. -/
theorem rk_cnt (l D : List Nat) (hD : ∀ x ∈ l, x ∈ D) : Ord.RK l 1 (rkF (l.map (cntL D))) := by
 refine Ord.rk_one l _ fun a b ha hb=>?_
 unfold rkF
 rw [getD_get _ _ _ (by simpa using ha),getD_get _ _ _ (by simpa using hb),List.getElem_map,List.getElem_map]
 constructor
 ·intro h
  rcases Nat.lt_or_ge l[a] l[b] with h' | h'
  ·exact h'
  ·rcases Nat.lt_or_eq_of_le h' with h'' | h''
   ·have:=cnt_lt D l[b] l[a] (hD _ (List.getElem_mem hb)) h'';omega
   ·rw [h''] at h;omega
 ·exact cnt_lt D _ _ (hD _ (List.getElem_mem ha))
/-- Compact at work: so many are written, so many are read. -/
def CpI (L A : List Nat) (k q : Nat) : Prop := A.length = L.length ∧ 1 ≤ k ∧ k < q ∧ q ≤ L.length ∧ (∀ p, k ≤ p → A.getD p 0 = L.getD p 0) ∧ (∀ i, i + 1 < k → A.getD i 0 < A.getD (i + 1) 0) ∧ A.getD (k - 1) 0 = L.getD (q - 1) 0 ∧ ∀ p, p < q → ∃ i, i < k ∧ A.getD i 0 = L.getD p 0
theorem CpI.start {L : List Nat} {k : Nat} (h1 : 1 ≤ k) (hk : k < L.length) (hs : ∀ i, i + 1 < k → L.getD i 0 < L.getD (i + 1) 0) (he : L.getD k 0 = L.getD (k - 1) 0) : CpI L L k (k + 1) :=
 ⟨rfl,h1,Nat.lt_succ_self _,hk,fun _ _=>rfl,hs,by rw [Nat.add_sub_cancel];exact he.symm,fun p hp=>by
  rcases Nat.lt_or_ge p k with h | h
  ·exact ⟨p,h,rfl⟩
  ·obtain rfl:p=k:=by omega
   exact ⟨p-1,by omega,he.symm⟩⟩
theorem CpI.same {L A : List Nat} {k q : Nat} (h : CpI L A k q) (hq : q < L.length) (he : L.getD q 0 = L.getD (q - 1) 0) : CpI L A k (q + 1) := by
 obtain ⟨h1,h2,h3,h4,h5,h6,h7,h8⟩:=h
 refine ⟨h1,h2,by omega,hq,h5,h6,by rw [Nat.add_sub_cancel,h7,he],fun p hp=>?_⟩
 rcases Nat.lt_or_ge p q with h | h
 ·exact h8 p h
 ·obtain rfl:p=q:=by omega
  exact ⟨k-1,by omega,by rw [h7,he]⟩
theorem getD_set_same (A : List Nat) (k x : Nat) (h : k < A.length) : (A.set k x).getD k 0 = x := by rw [List.getD_eq_getElem?_getD, List.getElem?_set_self h]; rfl
theorem getD_set_other (A : List Nat) (k p x : Nat) (h : k ≠ p) : (A.set k x).getD p 0 = A.getD p 0 := by rw [List.getD_eq_getElem?_getD, List.getElem?_set_ne h, ← List.getD_eq_getElem?_getD]
theorem CpI.more {L A : List Nat} {k q : Nat} (h : CpI L A k q) (hq : q < L.length) (he : L.getD (q - 1) 0 < L.getD q 0) : CpI L (A.set k (L.getD q 0)) (k + 1) (q + 1) := by
 obtain ⟨h1,h2,h3,h4,h5,h6,h7,h8⟩:=h
 have hk:k<A.length:=by omega
 refine ⟨by rw [List.length_set];exact h1,by omega,by omega,hq,fun p hp=>?_,fun i hi=>?_,?_,fun p hp=>?_⟩
 ·rw [getD_set_other _ _ _ _ (by omega)];exact h5 p (by omega)
 ·rcases Nat.lt_or_ge (i+1) k with h | h
  ·rw [getD_set_other _ _ _ _ (by omega),getD_set_other _ _ _ _ (by omega)];exact h6 i h
  ·obtain rfl:k=i+1:=by omega
   rw [getD_set_same _ _ _ hk,getD_set_other _ _ _ _ (by omega)]
   rw [Nat.add_sub_cancel] at h7
   rw [h7];exact he
 ·rw [Nat.add_sub_cancel,Nat.add_sub_cancel,getD_set_same _ _ _ hk]
 ·rcases Nat.lt_or_ge p q with h | h
  ·obtain ⟨i,hi,e⟩:=h8 p h
   exact ⟨i,by omega,by rw [getD_set_other _ _ _ _ (by omega)];exact e⟩
  ·obtain rfl:p=q:=by omega
   exact ⟨k,by omega,getD_set_same _ _ _ hk⟩
theorem up_pairwise (D : List Nat) (h : ∀ i, i + 1 < D.length → D.getD i 0 < D.getD (i + 1) 0) : D.Pairwise (· < ·) := by
 refine List.pairwise_iff_getElem.2 fun i j hi hj hij=>?_
 have:=Ord.chain_lt (R:=fun a b=>a<b) (fun a b c=>Nat.lt_trans) D (fun k hk=>by have:=h k hk;rw [getD_get _ _ _ (by omega),getD_get _ _ _ hk] at this;exact this) i j hj hij
 exact this
theorem CpI.done {L A : List Nat} {k : Nat} (h : CpI L A k L.length) : (A.take k).Pairwise (· < ·) ∧ (∀ x ∈ L, x ∈ A.take k) ∧ (A.take k).length = k ∧ k < L.length := by
 obtain ⟨h1,h2,h3,h4,h5,h6,h7,h8⟩:=h
 have hl:(A.take k).length=k:=by rw [List.length_take];omega
 have hg:∀ i,i<k→(A.take k).getD i 0=A.getD i 0:=fun i hi=>by rw [List.getD_eq_getElem?_getD,List.getElem?_take_of_lt hi,← List.getD_eq_getElem?_getD]
 refine ⟨up_pairwise _ fun i hi=>by rw [hl] at hi;rw [hg _ (by omega),hg _ hi];exact h6 i hi,fun x hx=>?_,hl,h3⟩
 obtain ⟨p,hp,rfl⟩:=List.getElem_of_mem hx
 obtain ⟨i,hi,e⟩:=h8 p hp
 rw [getD_get L p 0 hp,← hg i hi,getD_get _ _ _ (by omega)] at e
 rw [← e];exact List.getElem_mem _
theorem sorted_num (l : List Nat) (n : Nat) (hl : l.length = n) (d' : Array Nat) (hd : d' = Go.Sort.pdq ltN l.toArray 0 n (Go.Sort.bitsLen n) true true) :
  d'.toList.Perm l∧d'.toList.Pairwise (· ≤ ·):=by
 have hO:Go.Sort.SWO ltN:=by
  unfold ltN
  exact ⟨fun a=>by simp,fun a b c h1 h2=>by simp at *;omega,fun a b c h1 h2=>by simp at *;omega⟩
 subst hl
 obtain ⟨p1,p2⟩:=Go.Sort.pdq_sorts _ hO l.toArray 0 l.length (Go.Sort.bitsLen l.length) true true (Nat.zero_le _) (by simp) (Or.inl rfl)
 rw [← hd] at p1 p2
 have hs:d'.size=l.length:=by rw [p1.1];simp
 refine ⟨?_,List.pairwise_iff_getElem.2 fun i j hi hj hij=>?_⟩
 ·have:=p1.2.2
  rw [show d'.extract 0 l.length=d' by rw [← hs];simp,show l.toArray.extract 0 l.length=l.toArray by simp] at this
  simpa using this
 ·have hj':j<l.length:=by simpa [hs] using hj
  have:=p2 i j (Nat.zero_le _) hij hj'
  unfold ltN at this
  rw [getElem!_pos d' j (by omega),getElem!_pos d' i (by omega)] at this
  simp at this
  simpa using this
end Go.Proofs.YtckloanlkpchoaaGreatDoor
namespace Go.Proofs.YtckloanlkpchoaaGreatDoor
open Go.RowKit
open Mv Num Loser Srt
set_option maxRecDepth 4000
/-- The byte at a place, as a number. -/
def byT (s : ByteArray) (i : Nat) : Nat := (nb (at8 s.data.toList i)).toNat
def numsT (s : ByteArray) : List Nat := (List.range s.size).map (byT s)
theorem numsT_length (s : ByteArray) : (numsT s).length = s.size := by simp [numsT]
end Go.Proofs.YtckloanlkpchoaaGreatDoor
namespace Go.Proofs.YtckloanlkpchoaaGreatDoor
open Go.RowKit
open Mv Srt
open Go.Sort (swp insInner insOuter insertionSort siftDown heapBuild heapPop heapSort scanUp scanDown partLoop partition partEqLoop partitionEqual scanSorted shiftDown shiftUp partialIns partialInsertionSort order2 median medianAdjacent choosePivot reverseLoop reverseRange breakStep breakPatterns pdq bitsLen xorNext Hint)
set_option maxRecDepth 4000
def encB (x : Nat) : Value := .int .u8 (x : Int)
theorem soB_nan (x : Nat) (S : Mem) : ACall Tryz.prog 108 #[encB x] S fun r S' => r = .bool false ∧ S' = S := by
 unfold encB
 refine ACall.enter (rs:=[.tmp 2]) 6 [(0,.int .u8 x)] Tryz.func108 rfl rfl (Nat.le_of_ble_eq_true rfl) rfl ⟨rfl,trivial⟩ ?_
 iterate 13 refine s1_ ?_
 refine su_ [(0,_),(2,_)] ?_
 refine s1_ ?_
 refine ⟨_,S,⟨_,_,rfl,rfl,rfl⟩,less_,?_⟩
 exact ⟨rfl,rfl⟩
theorem soB_less (x y : Nat) (S : Mem) : ACall Tryz.prog 75 #[encB x, encB y] S fun r S' => r = .bool (ltN x y) ∧ S' = S := by
 have hlt:decide ((x:Int)<(y:Int))=ltN x y:=by unfold ltN;rw [Bool.eq_iff_iff];simp
 have hx:=soB_nan x S
 unfold encB at *
 refine ACall.enter (rs:=[.tmp 4]) 17 [(0,.int .u8 x),(1,.int .u8 y)] Tryz.func75 rfl rfl (Nat.le_of_ble_eq_true rfl) rfl ⟨rfl,rfl,trivial⟩ ?_
 iterate 8 refine s1_ ?_
 refine ca_ rfl (hx) ?_
 rintro _ S1 ⟨rfl,h1⟩
 rw [h1];clear h1 S1
 iterate 8 refine s1_ ?_
 first|refine k_q 12 ?_|refine rG 12 (Calm.bin rfl rfl (bin_bool (bin_lss _ _) hlt)) ?_
 iterate 4 refine s1_ ?_
 refine su_ [(0,_),(1,_),(4,_)] ?_
 refine s1_ ?_
 refine ⟨_,S,⟨_,_,rfl,rfl,rfl⟩,less_,?_⟩
 exact ⟨rfl,rfl⟩
set_option maxHeartbeats 4000000 in
theorem soB_ins {S : Mem} (b room n cap : Nat) (hb : Fresh S b) (hn : n ≤ 1048576) (d : Array Nat) (R : Rw (fun _ => True) n d) (ia ie : Int) (a e : Nat) (ha : ia = a) (he : ie = e) (han : a ≤ n) (hen : e ≤ n) :
  ACall Tryz.prog 99 #[.slice (some ⟨b,0,none⟩) n cap,.int .i64 ia,.int .i64 ie] (S.set b ⟨5,(d).toList.map encB,room⟩) fun r S'=>S'=S.set b ⟨5,(insertionSort ltN d a e).toList.map encB,room⟩∧Rw (fun _=>True) n (insertionSort ltN d a e):=by
 subst ha he
 refine ACall.enter (rs:=[]) 49 [(0,.slice (some ⟨b,0,none⟩) n cap),(1,.int .i64 a),(2,.int .i64 e)] Tryz.func99 rfl rfl (Nat.le_of_ble_eq_true rfl) rfl ⟨rfl,rfl,rfl,trivial⟩ ?_
 iterate 7 refine s1_ ?_
 refine su_ [(0,_),(1,_),(2,_),(6,_)] ?_
 refine s1_ ?_
 refine AWP.loop (X:=Nat × Array Nat) (fun x=>[(0,.slice (some ⟨b,0,none⟩) n cap),(1,.int .i64 a),(2,.int .i64 e),(6,.int .i64 x.1)]) (fun x=>S.set b ⟨5,(x.2).toList.map encB,room⟩) (fun x=>a<x.1∧(x.1≤n∨e≤x.1)∧Rw (fun _=>True) n x.2∧insOuter ltN a e x.1 x.2=insertionSort ltN d a e) (fun x=>e-x.1) ((a+1,d)) ⟨sb_,sb_,sb_,sb_,trivial⟩ (Mem.Less.refl _) (⟨by omega,by omega,R,rfl⟩) ?_
 rintro ⟨i,d1⟩ ⟨h1,h2,R1,h3⟩
 (try dsimp only at *)
 have z1:=R1.size
 by_cases hi:i<e
 ·iterate 8 refine s1_ ?_
  refine su_ [(0,_),(1,_),(2,_),(6,_),(12,_)] ?_
  refine cT_ ?_
  iterate 10 refine s1_ ?_
  refine su_ [(0,_),(1,_),(2,_),(6,_),(12,_),(7,_)] ?_
  refine s1_ ?_
  refine AWP.loop (X:=Nat × Array Nat) (fun x=>[(0,.slice (some ⟨b,0,none⟩) n cap),(1,.int .i64 a),(2,.int .i64 e),(6,.int .i64 i),(7,.int .i64 x.1)]) (fun x=>S.set b ⟨5,(x.2).toList.map encB,room⟩) (fun x=>x.1≤i∧Rw (fun _=>True) n x.2∧insInner ltN a x.1 x.2=insInner ltN a i d1) (fun x=>x.1) ((i,d1)) ⟨rfl,rfl,rfl,rfl,rfl,trivial⟩ (Mem.Less.refl _) (⟨Nat.le_refl _,R1,rfl⟩) ?_
  rintro ⟨j,d2⟩ ⟨k1,R2,k3⟩
  (try dsimp only at *)
  have z2:=R2.size
  have q0:=outer_go ltN (a:=a) (d:=d1) hi
  by_cases ha:a<j
  ·obtain ⟨j,rfl⟩ : ∃ q,j=q+1:=⟨j-1,by omega⟩
   iterate 2 refine s1_ ?_
   refine AWP.draw [(0,true),(1,true),(2,true),(3,true),(4,true),(5,true),(6,true),(7,true),(8,true),(9,true),(10,true),(11,true),(12,true),(13,false),(14,true)] [] mixed (by kernel_rfl) ?_
   iterate 7 refine s1_ ?_
   first|refine k_d ?_|refine dL (hc:=Calm.load ty_plain_5 rfl (rd_row (k:=j+1) own_ rw_ rw_)) (h:=?_)
   iterate 4 refine s1_ ?_
   first|refine k_d ?_|refine dL (hc:=Calm.load ty_plain_5 rfl (rd_row (k:=j) own_ rw_ rw_)) (h:=?_)
   refine draw_only rfl ?_
   refine ARun.callG 3 true 19 rfl (lit_lt rfl) rfl (lit_lt rfl) go_75 rfl (soB_less _ _ _) ?_
   rintro _ _ ⟨rfl,rfl⟩
   refine arun_nil ⟨fun _=>less_,?_⟩
   iterate 3 refine s1_ ?_
   refine su_ [(0,_),(1,_),(2,_),(6,_),(7,_),(30,_)] ?_
   refine AWP.condB rfl (fun hl=>?_) (fun hl=>?_)
   ·iterate 4 refine s1_ ?_
    refine AWP.draw [(0,true),(1,true),(2,true),(3,true),(4,true),(5,true),(6,true),(7,true),(8,true),(9,true),(10,true),(11,true),(12,true),(13,true),(14,true),(15,false),(16,true),(17,false)] [15,17] mixed (by kernel_rfl) ?_
    iterate 9 refine s1_ ?_
    refine dC (hc:=Calm.load ty_plain_5 rfl (rd_row (k:=j) own_ rw_ rw_)) (h:=?_)
    iterate 3 refine s1_ ?_
    refine dC (hc:=Calm.load ty_plain_5 rfl (rd_row (k:=j+1) own_ rw_ rw_)) (h:=?_)
    refine s1_ ?_
    refine draw_only rfl ?_
    refine ARun.storeRow encB (j+1) rfl rfl ty_size_5 ⟨rfl,rfl⟩ own_ rw_ rw_ ?_
    try simp only [k_ms,k_sz,k_ss,k_za,Nat.reduceAdd]
    refine arun_nil ⟨fun h=>absurd h (by decide),?_⟩
    refine s1_ ?_
    refine draw_only rfl ?_
    refine ARun.storeRow encB (j) rfl rfl ty_size_5 ⟨rfl,rfl⟩ own_ rw_ rw_ ?_
    try simp only [k_ms,k_sz,k_ss,k_za,Nat.reduceAdd]
    refine arun_nil ⟨fun h=>absurd h (by decide),?_⟩
    iterate 3 refine s1_ ?_
    refine su_ [(0,_),(1,_),(2,_),(6,_),(7,_),(30,_)] ?_
    iterate 6 refine s1_ ?_
    refine ⟨(j,swp d2 (j+1) j),?_,?_,?_,?_⟩
    all_goals (try dsimp only)
    ·exact ⟨sb_,sb_,sb_,sb_,sb_,trivial⟩
    ·exact Mem.Less.refl _
    ·exact ⟨by omega,R2.swp _ _ (by omega) (by omega),(ins_go ltN ha hl).trans k3⟩
    ·omega
   ·iterate 12 refine s1_ ?_
    refine ⟨(i+1,d2),?_,?_,?_,?_⟩
    all_goals (try dsimp only)
    ·exact ⟨sb_,sb_,sb_,sb_,trivial⟩
    ·exact Mem.Less.refl _
    ·exact ⟨by omega,by omega,R2,by rw [← k3,← ins_no ltN hl] at q0;exact q0.trans h3⟩
    ·omega
  ·iterate 2 refine s1_ ?_
   refine AWP.draw [(0,true),(1,true),(2,true),(3,true),(4,true),(5,true),(6,true),(7,true),(8,true),(9,true),(10,true),(11,true),(12,true),(13,false),(14,true)] [] mixed (by kernel_rfl) ?_
   iterate 7 refine s1_ ?_
   first|refine k_d ?_|refine dL (hc:=Calm.load ty_plain_5 rfl (rd_row (k:=j+1) own_ rw_ rw_)) (h:=?_)
   iterate 4 refine s1_ ?_
   first|refine k_d ?_|refine dL (hc:=Calm.load ty_plain_5 rfl (rd_row (k:=j) own_ rw_ rw_)) (h:=?_)
   refine draw_only rfl ?_
   refine s1_ ?_
   refine arun_nil ⟨fun _=>less_,?_⟩
   iterate 3 refine s1_ ?_
   refine su_ [(0,_),(1,_),(2,_),(6,_),(7,_),(30,_)] ?_
   refine cF_ ?_
   iterate 12 refine s1_ ?_
   refine ⟨(i+1,d2),?_,?_,?_,?_⟩
   all_goals (try dsimp only)
   ·exact ⟨sb_,sb_,sb_,sb_,trivial⟩
   ·exact Mem.Less.refl _
   ·exact ⟨by omega,by omega,R2,by rw [← k3,← ins_end ltN ha] at q0;exact q0.trans h3⟩
   ·omega
 ·iterate 8 refine s1_ ?_
  refine su_ [(0,_),(1,_),(2,_),(6,_),(12,_)] ?_
  refine cF_ ?_
  iterate 4 refine s1_ ?_
  refine ⟨_,_,rfl,Mem.Less.refl _,?_⟩
  rw [← h3,← outer_end ltN hi];exact ⟨rfl,R1⟩
set_option maxHeartbeats 4000000 in
theorem soB_sift {S : Mem} (b room n cap : Nat) (hb : Fresh S b) (hn : n ≤ 1048576) (d : Array Nat) (R : Rw (fun _ => True) n d) (il ih iF : Int) (lo hi first : Nat) (el : il = lo) (eh : ih = hi) (ef : iF = first) (hlo : lo ≤ n) (hfn : first + hi ≤ n) :
  ACall Tryz.prog 131 #[.slice (some ⟨b,0,none⟩) n cap,.int .i64 il,.int .i64 ih,.int .i64 iF] (S.set b ⟨5,(d).toList.map encB,room⟩) fun r S'=>S'=S.set b ⟨5,(siftDown ltN hi first lo d).toList.map encB,room⟩∧Rw (fun _=>True) n (siftDown ltN hi first lo d):=by
 subst el eh ef
 refine ACall.enter (rs:=[]) 76 [(0,.slice (some ⟨b,0,none⟩) n cap),(1,.int .i64 lo),(2,.int .i64 hi),(3,.int .i64 first)] Tryz.func131 rfl rfl (Nat.le_of_ble_eq_true rfl) rfl ⟨rfl,rfl,rfl,rfl,trivial⟩ ?_
 iterate 6 refine s1_ ?_
 refine su_ [(0,_),(1,_),(2,_),(3,_),(8,_)] ?_
 refine s1_ ?_
 refine AWP.loop (X:=Nat × Array Nat) (fun x=>[(0,.slice (some ⟨b,0,none⟩) n cap),(2,.int .i64 hi),(3,.int .i64 first),(8,.int .i64 x.1)]) (fun x=>S.set b ⟨5,(x.2).toList.map encB,room⟩) (fun x=>x.1≤n∧Rw (fun _=>True) n x.2∧siftDown ltN hi first x.1 x.2=siftDown ltN hi first lo d) (fun x=>n+1-x.1) ((lo,d)) ⟨rfl,rfl,rfl,rfl,trivial⟩ (Mem.Less.refl _) (⟨hlo,R,rfl⟩) ?_
 rintro ⟨r,d1⟩ ⟨h1,R1,h3⟩
 (try dsimp only at *)
 have z1:=R1.size
 by_cases hc:hi≤2*r+1
 ·iterate 9 refine s1_ ?_
  refine su_ [(0,_),(2,_),(3,_),(8,_),(9,_)] ?_
  iterate 8 refine s1_ ?_
  refine su_ [(0,_),(2,_),(3,_),(8,_),(9,_),(16,_)] ?_
  refine cT_ ?_
  iterate 5 refine s1_ ?_
  refine ⟨_,_,rfl,Mem.Less.refl _,?_⟩
  rw [← h3,← sift_leaf ltN hc];exact ⟨rfl,R1⟩
 ·iterate 9 refine s1_ ?_
  refine su_ [(0,_),(2,_),(3,_),(8,_),(9,_)] ?_
  iterate 8 refine s1_ ?_
  refine su_ [(0,_),(2,_),(3,_),(8,_),(9,_),(16,_)] ?_
  refine cF_ ?_
  by_cases h2:2*r+2<hi
  ·iterate 4 refine s1_ ?_
   refine AWP.draw [(0,true),(1,true),(2,true),(3,true),(4,true),(5,true),(6,true),(7,true),(8,true),(9,true),(10,true),(11,true),(12,true),(13,true),(14,true),(15,true),(16,true),(17,true),(18,false),(19,true)] [] mixed (by kernel_rfl) ?_
   iterate 10 refine s1_ ?_
   first|refine k_d ?_|refine dL (hc:=Calm.load ty_plain_5 rfl (rd_row (k:=first+(2*r+1)) own_ rw_ rw_)) (h:=?_)
   iterate 6 refine s1_ ?_
   first|refine k_d ?_|refine dL (hc:=Calm.load ty_plain_5 rfl (rd_row (k:=first+(2*r+2)) own_ rw_ rw_)) (h:=?_)
   refine draw_only rfl ?_
   refine ARun.callG 4 true 21 rfl (lit_lt rfl) rfl (lit_lt rfl) go_75 rfl (soB_less _ _ _) ?_
   rintro _ _ ⟨rfl,rfl⟩
   refine arun_nil ⟨fun _=>less_,?_⟩
   iterate 3 refine s1_ ?_
   refine su_ [(0,_),(2,_),(3,_),(8,_),(9,_),(16,_),(36,_)] ?_
   refine AWP.condB rfl (fun hl=>?_) (fun hl=>?_)
   ·have ch:child ltN hi first r d1=2*r+2:=if_pos ⟨h2,hl⟩
    iterate 6 refine s1_ ?_
    refine su_ [(0,_),(2,_),(3,_),(8,_),(9,_),(16,_),(36,_)] ?_
    iterate 2 refine s1_ ?_
    refine AWP.draw [(0,true),(1,true),(2,true),(3,true),(4,true),(5,true),(6,true),(7,true),(8,true),(9,true),(10,true),(11,true),(12,false),(13,true)] [] mixed (by kernel_rfl) ?_
    iterate 5 refine s1_ ?_
    refine dC (hc:=Calm.load ty_plain_5 rfl (rd_row (k:=first+r) own_ rw_ rw_)) (h:=?_)
    iterate 5 refine s1_ ?_
    refine dC (hc:=Calm.load ty_plain_5 rfl (rd_row (k:=first+(2*r+2)) own_ rw_ rw_)) (h:=?_)
    refine draw_only rfl ?_
    refine ca_ rfl (soB_less _ _ _) ?_
    rintro _ _ ⟨rfl,rfl⟩
    refine arun_nil ⟨fun _=>less_,?_⟩
    iterate 3 refine s1_ ?_
    refine su_ [(0,_),(2,_),(3,_),(8,_),(9,_),(16,_),(36,_),(52,_)] ?_
    refine AWP.condB rfl (fun hl2=>?_) (fun hl2=>?_)
    ·have hl2:=nt_ hl2
     iterate 5 refine s1_ ?_
     refine ⟨_,_,rfl,Mem.Less.refl _,?_⟩
     rw [← h3,← sift_stop ltN hc (by rw [ch];exact hl2)];exact ⟨rfl,R1⟩
    ·have hl2:=nf_ hl2
     iterate 3 refine s1_ ?_
     refine AWP.draw [(0,true),(1,true),(2,true),(3,true),(4,true),(5,true),(6,true),(7,true),(8,true),(9,true),(10,true),(11,true),(12,true),(13,true),(14,true),(15,true),(16,true),(17,true),(18,true),(19,true),(20,true),(21,false),(22,true),(23,false)] [21,23] mixed (by kernel_rfl) ?_
     iterate 13 refine s1_ ?_
     refine dC (hc:=Calm.load ty_plain_5 rfl (rd_row (k:=first+(2*r+2)) own_ rw_ rw_)) (h:=?_)
     iterate 5 refine s1_ ?_
     refine dC (hc:=Calm.load ty_plain_5 rfl (rd_row (k:=first+r) own_ rw_ rw_)) (h:=?_)
     refine s1_ ?_
     refine draw_only rfl ?_
     refine ARun.storeRow encB (first+r) rfl rfl ty_size_5 ⟨rfl,rfl⟩ own_ rw_ rw_ ?_
     try simp only [k_ms,k_sz,k_ss,k_za,Nat.reduceAdd]
     refine arun_nil ⟨fun h=>absurd h (by decide),?_⟩
     refine s1_ ?_
     refine draw_only rfl ?_
     refine ARun.storeRow encB (first+(2*r+2)) rfl rfl ty_size_5 ⟨rfl,rfl⟩ own_ rw_ rw_ ?_
     try simp only [k_ms,k_sz,k_ss,k_za,Nat.reduceAdd]
     refine arun_nil ⟨fun h=>absurd h (by decide),?_⟩
     iterate 2 refine s1_ ?_
     refine su_ [(0,_),(2,_),(3,_),(8,_),(9,_),(16,_),(36,_),(52,_)] ?_
     iterate 6 refine s1_ ?_
     refine ⟨(2*r+2,swp d1 (first+r) (first+(2*r+2))),?_,?_,?_,?_⟩
     all_goals (try dsimp only)
     ·exact ⟨sb_,sb_,sb_,sb_,trivial⟩
     ·exact Mem.Less.refl _
     ·exact ⟨by omega,R1.swp _ _ (by omega) (by omega),by have q0:=sift_go ltN hc (by rw [ch];exact hl2);rw [ch] at q0;exact q0.trans h3⟩
     ·omega
   ·have ch:child ltN hi first r d1=2*r+1:=if_neg (fun h=>Bool.noConfusion (hl.symm.trans h.2))
    iterate 4 refine s1_ ?_
    refine AWP.draw [(0,true),(1,true),(2,true),(3,true),(4,true),(5,true),(6,true),(7,true),(8,true),(9,true),(10,true),(11,true),(12,false),(13,true)] [] mixed (by kernel_rfl) ?_
    iterate 5 refine s1_ ?_
    refine dC (hc:=Calm.load ty_plain_5 rfl (rd_row (k:=first+r) own_ rw_ rw_)) (h:=?_)
    iterate 5 refine s1_ ?_
    refine dC (hc:=Calm.load ty_plain_5 rfl (rd_row (k:=first+(2*r+1)) own_ rw_ rw_)) (h:=?_)
    refine draw_only rfl ?_
    refine ca_ rfl (soB_less _ _ _) ?_
    rintro _ _ ⟨rfl,rfl⟩
    refine arun_nil ⟨fun _=>less_,?_⟩
    iterate 3 refine s1_ ?_
    refine su_ [(0,_),(2,_),(3,_),(8,_),(9,_),(16,_),(36,_),(52,_)] ?_
    refine AWP.condB rfl (fun hl2=>?_) (fun hl2=>?_)
    ·have hl2:=nt_ hl2
     iterate 5 refine s1_ ?_
     refine ⟨_,_,rfl,Mem.Less.refl _,?_⟩
     rw [← h3,← sift_stop ltN hc (by rw [ch];exact hl2)];exact ⟨rfl,R1⟩
    ·have hl2:=nf_ hl2
     iterate 3 refine s1_ ?_
     refine AWP.draw [(0,true),(1,true),(2,true),(3,true),(4,true),(5,true),(6,true),(7,true),(8,true),(9,true),(10,true),(11,true),(12,true),(13,true),(14,true),(15,true),(16,true),(17,true),(18,true),(19,true),(20,true),(21,false),(22,true),(23,false)] [21,23] mixed (by kernel_rfl) ?_
     iterate 13 refine s1_ ?_
     refine dC (hc:=Calm.load ty_plain_5 rfl (rd_row (k:=first+(2*r+1)) own_ rw_ rw_)) (h:=?_)
     iterate 5 refine s1_ ?_
     refine dC (hc:=Calm.load ty_plain_5 rfl (rd_row (k:=first+r) own_ rw_ rw_)) (h:=?_)
     refine s1_ ?_
     refine draw_only rfl ?_
     refine ARun.storeRow encB (first+r) rfl rfl ty_size_5 ⟨rfl,rfl⟩ own_ rw_ rw_ ?_
     try simp only [k_ms,k_sz,k_ss,k_za,Nat.reduceAdd]
     refine arun_nil ⟨fun h=>absurd h (by decide),?_⟩
     refine s1_ ?_
     refine draw_only rfl ?_
     refine ARun.storeRow encB (first+(2*r+1)) rfl rfl ty_size_5 ⟨rfl,rfl⟩ own_ rw_ rw_ ?_
     try simp only [k_ms,k_sz,k_ss,k_za,Nat.reduceAdd]
     refine arun_nil ⟨fun h=>absurd h (by decide),?_⟩
     iterate 2 refine s1_ ?_
     refine su_ [(0,_),(2,_),(3,_),(8,_),(9,_),(16,_),(36,_),(52,_)] ?_
     iterate 6 refine s1_ ?_
     refine ⟨(2*r+1,swp d1 (first+r) (first+(2*r+1))),?_,?_,?_,?_⟩
     all_goals (try dsimp only)
     ·exact ⟨sb_,sb_,sb_,sb_,trivial⟩
     ·exact Mem.Less.refl _
     ·exact ⟨by omega,R1.swp _ _ (by omega) (by omega),by have q0:=sift_go ltN hc (by rw [ch];exact hl2);rw [ch] at q0;exact q0.trans h3⟩
     ·omega
  ·iterate 4 refine s1_ ?_
   refine AWP.draw [(0,true),(1,true),(2,true),(3,true),(4,true),(5,true),(6,true),(7,true),(8,true),(9,true),(10,true),(11,true),(12,true),(13,true),(14,true),(15,true),(16,true),(17,true),(18,false),(19,true)] [] mixed (by kernel_rfl) ?_
   iterate 10 refine s1_ ?_
   first|refine k_d ?_|refine dL (hc:=Calm.load ty_plain_5 rfl (rd_row (k:=first+(2*r+1)) own_ rw_ rw_)) (h:=?_)
   iterate 6 refine s1_ ?_
   first|refine k_d ?_|refine dL (hc:=Calm.load ty_plain_5 rfl (rd_row (k:=first+(2*r+2)) own_ rw_ rw_)) (h:=?_)
   refine draw_only rfl ?_
   refine s1_ ?_
   refine arun_nil ⟨fun _=>less_,?_⟩
   iterate 3 refine s1_ ?_
   refine su_ [(0,_),(2,_),(3,_),(8,_),(9,_),(16,_),(36,_)] ?_
   refine cF_ ?_
   have ch:child ltN hi first r d1=2*r+1:=if_neg (fun h=>h2 h.1)
   iterate 4 refine s1_ ?_
   refine AWP.draw [(0,true),(1,true),(2,true),(3,true),(4,true),(5,true),(6,true),(7,true),(8,true),(9,true),(10,true),(11,true),(12,false),(13,true)] [] mixed (by kernel_rfl) ?_
   iterate 5 refine s1_ ?_
   refine dC (hc:=Calm.load ty_plain_5 rfl (rd_row (k:=first+r) own_ rw_ rw_)) (h:=?_)
   iterate 5 refine s1_ ?_
   refine dC (hc:=Calm.load ty_plain_5 rfl (rd_row (k:=first+(2*r+1)) own_ rw_ rw_)) (h:=?_)
   refine draw_only rfl ?_
   refine ca_ rfl (soB_less _ _ _) ?_
   rintro _ _ ⟨rfl,rfl⟩
   refine arun_nil ⟨fun _=>less_,?_⟩
   iterate 3 refine s1_ ?_
   refine su_ [(0,_),(2,_),(3,_),(8,_),(9,_),(16,_),(36,_),(52,_)] ?_
   refine AWP.condB rfl (fun hl2=>?_) (fun hl2=>?_)
   ·have hl2:=nt_ hl2
    iterate 5 refine s1_ ?_
    refine ⟨_,_,rfl,Mem.Less.refl _,?_⟩
    rw [← h3,← sift_stop ltN hc (by rw [ch];exact hl2)];exact ⟨rfl,R1⟩
   ·have hl2:=nf_ hl2
    iterate 3 refine s1_ ?_
    refine AWP.draw [(0,true),(1,true),(2,true),(3,true),(4,true),(5,true),(6,true),(7,true),(8,true),(9,true),(10,true),(11,true),(12,true),(13,true),(14,true),(15,true),(16,true),(17,true),(18,true),(19,true),(20,true),(21,false),(22,true),(23,false)] [21,23] mixed (by kernel_rfl) ?_
    iterate 13 refine s1_ ?_
    refine dC (hc:=Calm.load ty_plain_5 rfl (rd_row (k:=first+(2*r+1)) own_ rw_ rw_)) (h:=?_)
    iterate 5 refine s1_ ?_
    refine dC (hc:=Calm.load ty_plain_5 rfl (rd_row (k:=first+r) own_ rw_ rw_)) (h:=?_)
    refine s1_ ?_
    refine draw_only rfl ?_
    refine ARun.storeRow encB (first+r) rfl rfl ty_size_5 ⟨rfl,rfl⟩ own_ rw_ rw_ ?_
    try simp only [k_ms,k_sz,k_ss,k_za,Nat.reduceAdd]
    refine arun_nil ⟨fun h=>absurd h (by decide),?_⟩
    refine s1_ ?_
    refine draw_only rfl ?_
    refine ARun.storeRow encB (first+(2*r+1)) rfl rfl ty_size_5 ⟨rfl,rfl⟩ own_ rw_ rw_ ?_
    try simp only [k_ms,k_sz,k_ss,k_za,Nat.reduceAdd]
    refine arun_nil ⟨fun h=>absurd h (by decide),?_⟩
    iterate 2 refine s1_ ?_
    refine su_ [(0,_),(2,_),(3,_),(8,_),(9,_),(16,_),(36,_),(52,_)] ?_
    iterate 6 refine s1_ ?_
    refine ⟨(2*r+1,swp d1 (first+r) (first+(2*r+1))),?_,?_,?_,?_⟩
    all_goals (try dsimp only)
    ·exact ⟨sb_,sb_,sb_,sb_,trivial⟩
    ·exact Mem.Less.refl _
    ·exact ⟨by omega,R1.swp _ _ (by omega) (by omega),by have q0:=sift_go ltN hc (by rw [ch];exact hl2);rw [ch] at q0;exact q0.trans h3⟩
    ·omega
set_option maxHeartbeats 4000000 in
theorem soB_heap {S : Mem} (b room n cap : Nat) (hb : Fresh S b) (hn : n ≤ 1048576) (d : Array Nat) (R : Rw (fun _ => True) n d) (ia ie : Int) (a e : Nat) (ha : ia = a) (he : ie = e) (hae : a < e) (hen : e ≤ n) :
  ACall Tryz.prog 100 #[.slice (some ⟨b,0,none⟩) n cap,.int .i64 ia,.int .i64 ie] (S.set b ⟨5,(d).toList.map encB,room⟩) fun r S'=>S'=S.set b ⟨5,(heapSort ltN d a e).toList.map encB,room⟩∧Rw (fun _=>True) n (heapSort ltN d a e):=by
 subst ha he
 obtain ⟨L,rfl⟩ : ∃ L,e=a+L:=⟨e-a,by omega⟩
 have hH:heapPop ltN a L (heapBuild ltN L a ((L-1) / 2+1) d)=heapSort ltN d a (a+L):=by unfold heapSort;rw [Nat.add_sub_cancel_left]
 refine ACall.enter (rs:=[]) 56 [(0,.slice (some ⟨b,0,none⟩) n cap),(1,.int .i64 a),(2,.int .i64 ((a+L:Nat):Int))] Tryz.func100 rfl rfl (Nat.le_of_ble_eq_true rfl) rfl ⟨rfl,rfl,rfl,trivial⟩ ?_
 iterate 6 refine s1_ ?_
 refine su_ [(0,_),(1,_),(2,_),(6,_)] ?_
 iterate 13 refine s1_ ?_
 refine su_ [(0,_),(1,_),(2,_),(6,_),(7,_),(8,_)] ?_
 iterate 9 refine s1_ ?_
 refine su_ [(0,_),(1,_),(2,_),(6,_),(7,_),(8,_),(9,_)] ?_
 refine s1_ ?_
 refine AWP.loop (X:=Nat × Array Nat) (fun x=>[(0,.slice (some ⟨b,0,none⟩) n cap),(6,.int .i64 a),(7,.int .i64 0),(8,.int .i64 L),(9,.int .i64 ((x.1:Int)-1))]) (fun x=>S.set b ⟨5,(x.2).toList.map encB,room⟩) (fun x=>x.1≤L∧Rw (fun _=>True) n x.2∧heapPop ltN a L (heapBuild ltN L a x.1 x.2)=heapSort ltN d a (a+L)) (fun x=>x.1) (((L-1) / 2+1,d)) ⟨sb_,sb_,sb_,sb_,sb_,trivial⟩ (Mem.Less.refl _) (⟨by omega,R,hH⟩) ?_
 rintro ⟨k,d1⟩ ⟨h1,R1,h3⟩
 (try dsimp only at *)
 by_cases hk:0<k
 ·obtain ⟨k,rfl⟩ : ∃ q,k=q+1:=⟨k-1,by omega⟩
  iterate 7 refine s1_ ?_
  refine su_ [(0,_),(6,_),(7,_),(8,_),(9,_),(19,_)] ?_
  refine cT_ ?_
  iterate 9 refine s1_ ?_
  refine ca_ rfl (soB_sift b room n cap hb hn d1 R1 _ _ _ k L a rw_ rw_ rfl (by omega) (by omega)) ?_
  rintro _ _ ⟨rfl,R2⟩
  iterate 3 refine s1_ ?_
  refine su_ [(0,_),(6,_),(7,_),(8,_),(9,_),(19,_)] ?_
  iterate 6 refine s1_ ?_
  refine ⟨(k,siftDown ltN L a k d1),?_,?_,?_,?_⟩
  all_goals (try dsimp only)
  ·exact ⟨sb_,sb_,sb_,sb_,sb_,trivial⟩
  ·exact Mem.Less.refl _
  ·exact ⟨by omega,R2,h3⟩
  ·omega
 ·obtain rfl:k=0:=by omega
  iterate 7 refine s1_ ?_
  refine su_ [(0,_),(6,_),(7,_),(8,_),(9,_),(19,_)] ?_
  refine cF_ ?_
  iterate 12 refine s1_ ?_
  refine su_ [(0,_),(6,_),(7,_),(8,_),(9,_),(19,_),(10,_)] ?_
  refine s1_ ?_
  refine AWP.loop (X:=Nat × Array Nat) (fun x=>[(0,.slice (some ⟨b,0,none⟩) n cap),(6,.int .i64 a),(7,.int .i64 0),(10,.int .i64 ((x.1:Int)-1))]) (fun x=>S.set b ⟨5,(x.2).toList.map encB,room⟩) (fun x=>x.1≤L∧Rw (fun _=>True) n x.2∧heapPop ltN a x.1 x.2=heapSort ltN d a (a+L)) (fun x=>x.1) ((L,d1)) ⟨sb_,sb_,sb_,sb_,trivial⟩ (Mem.Less.refl _) (⟨Nat.le_refl _,R1,h3⟩) ?_
  rintro ⟨k,d2⟩ ⟨k1,R2,k3⟩
  (try dsimp only at *)
  have z2:=R2.size
  by_cases hk:0<k
  ·obtain ⟨k,rfl⟩ : ∃ q,k=q+1:=⟨k-1,by omega⟩
   iterate 7 refine s1_ ?_
   refine su_ [(0,_),(6,_),(7,_),(10,_),(30,_)] ?_
   refine cT_ ?_
   iterate 5 refine s1_ ?_
   refine AWP.draw [(0,true),(1,true),(2,true),(3,true),(4,true),(5,true),(6,true),(7,true),(8,true),(9,true),(10,true),(11,true),(12,true),(13,true),(14,true),(15,true),(16,true),(17,false),(18,true),(19,false)] [17,19] mixed (by kernel_rfl) ?_
   iterate 11 refine s1_ ?_
   refine dC (hc:=Calm.load ty_plain_5 rfl (rd_row (k:=a+k) own_ rw_ rw_)) (h:=?_)
   iterate 3 refine s1_ ?_
   refine dC (hc:=Calm.load ty_plain_5 rfl (rd_row (k:=a) own_ rw_ rw_)) (h:=?_)
   refine s1_ ?_
   refine draw_only rfl ?_
   refine ARun.storeRow encB (a) rfl rfl ty_size_5 ⟨rfl,rfl⟩ own_ rw_ rw_ ?_
   try simp only [k_ms,k_sz,k_ss,k_za,Nat.reduceAdd]
   refine arun_nil ⟨fun h=>absurd h (by decide),?_⟩
   refine s1_ ?_
   refine draw_only rfl ?_
   refine ARun.storeRow encB (a+k) rfl rfl ty_size_5 ⟨rfl,rfl⟩ own_ rw_ rw_ ?_
   try simp only [k_ms,k_sz,k_ss,k_za,Nat.reduceAdd]
   refine arun_nil ⟨fun h=>absurd h (by decide),?_⟩
   iterate 2 refine s1_ ?_
   refine su_ [(0,_),(6,_),(7,_),(10,_),(30,_)] ?_
   iterate 5 refine s1_ ?_
   refine ca_ rfl (soB_sift b room n cap hb hn (swp d2 a (a+k)) (R2.swp _ _ (by omega) (by omega)) _ _ _ 0 k a rfl rw_ rfl (by omega) (by omega)) ?_
   rintro _ _ ⟨rfl,R3⟩
   iterate 3 refine s1_ ?_
   refine su_ [(0,_),(6,_),(7,_),(10,_),(30,_)] ?_
   iterate 6 refine s1_ ?_
   refine ⟨(k,siftDown ltN k a 0 (swp d2 a (a+k))),?_,?_,?_,?_⟩
   all_goals (try dsimp only)
   ·exact ⟨sb_,sb_,sb_,sb_,trivial⟩
   ·exact Mem.Less.refl _
   ·exact ⟨by omega,R3,k3⟩
   ·omega
  ·obtain rfl:k=0:=by omega
   iterate 7 refine s1_ ?_
   refine su_ [(0,_),(6,_),(7,_),(10,_),(30,_)] ?_
   refine cF_ ?_
   iterate 4 refine s1_ ?_
   refine ⟨_,_,rfl,Mem.Less.refl _,?_⟩
   rw [← k3];exact ⟨rfl,R2⟩
set_option maxHeartbeats 4000000 in
theorem soB_part {S : Mem} (b room n cap : Nat) (hb : Fresh S b) (hn : n ≤ 1048576) (d : Array Nat) (R : Rw (fun _ => True) n d) (ia ie ip : Int) (a e p : Nat) (ha : ia = a) (he : ie = e) (hpp : ip = p) (hap : a ≤ p) (hpe : p < e) (hen : e ≤ n) :
  ACall Tryz.prog 106 #[.slice (some ⟨b,0,none⟩) n cap,.int .i64 ia,.int .i64 ie,.int .i64 ip] (S.set b ⟨5,(d).toList.map encB,room⟩) fun r S'=>PartR Nat (fun x:Array Nat=>S.set b ⟨5,(x).toList.map encB,room⟩) (fun _=>True) n (partition ltN d a e p) a e r S':=by
 subst ha he hpp
 obtain ⟨J,rfl⟩ : ∃ J,e=J+1:=⟨e-1,by omega⟩
 have R0:=R.swp a p (by omega) (by omega)
 have z:=R.size
 obtain ⟨d0,hd0⟩ : ∃ d0,d0=swp d a p:=⟨_,rfl⟩
 rw [← hd0] at R0
 have z0:=R0.size
 refine ACall.enter (rs:=[.tmp 8,.tmp 9]) 168 [(0,.slice (some ⟨b,0,none⟩) n cap),(1,.int .i64 a),(2,.int .i64 ((J+1:Nat):Int)),(3,.int .i64 p)] Tryz.func106 rfl rfl (Nat.le_of_ble_eq_true rfl) rfl ⟨rfl,rfl,rfl,rfl,trivial⟩ ?_
 iterate 7 refine s1_ ?_
 refine AWP.draw [(0,true),(1,true),(2,true),(3,true),(4,true),(5,true),(6,true),(7,true),(8,true),(9,true),(10,true),(11,true),(12,true),(13,false),(14,true),(15,false)] [13,15] mixed (by kernel_rfl) ?_
 iterate 7 refine s1_ ?_
 refine dC (hc:=Calm.load ty_plain_5 rfl (rd_row (k:=p) own_ rw_ rw_)) (h:=?_)
 iterate 3 refine s1_ ?_
 refine dC (hc:=Calm.load ty_plain_5 rfl (rd_row (k:=a) own_ rw_ rw_)) (h:=?_)
 refine s1_ ?_
 refine draw_only rfl ?_
 refine ARun.storeRow encB (a) rfl rfl ty_size_5 ⟨rfl,rfl⟩ own_ rw_ rw_ ?_
 try simp only [k_ms,k_sz,k_ss,k_za,Nat.reduceAdd]
 refine arun_nil ⟨fun h=>absurd h (by decide),?_⟩
 refine s1_ ?_
 refine draw_only rfl ?_
 refine ARun.storeRow encB (p) rfl rfl ty_size_5 ⟨rfl,rfl⟩ own_ rw_ rw_ ?_
 try simp only [k_ms,k_sz,k_ss,k_za,Nat.reduceAdd]
 refine arun_nil ⟨fun h=>absurd h (by decide),?_⟩
 iterate 2 refine s1_ ?_
 refine su_ [(0,_),(1,_),(2,_),(3,_),(8,_),(9,_)] ?_
 refine AWP.less (S.set b ⟨5,(d0).toList.map encB,room⟩) (by rw [hd0];exact Mem.Less.refl _) ?_
 iterate 10 refine s1_ ?_
 refine su_ [(0,_),(1,_),(2,_),(3,_),(8,_),(9,_),(10,_),(11,_)] ?_
 refine s1_ ?_
 refine AWP.join (X:=Nat) (fun x=>[(0,.slice (some ⟨b,0,none⟩) n cap),(1,.int .i64 a),(10,.int .i64 x),(11,.int .i64 J)]) (fun _=>S.set b ⟨5,(d0).toList.map encB,room⟩) (fun x=>a+1≤x∧x≤J+1∧x=scanUp (fun x=>ltN x d0[a]!) d0 (J) (a+1)) ?_ ?_
 ·refine s1_ ?_
  refine AWP.loop (X:=Nat) (fun x=>[(0,.slice (some ⟨b,0,none⟩) n cap),(1,.int .i64 a),(10,.int .i64 x),(11,.int .i64 J)]) (fun _=>S.set b ⟨5,(d0).toList.map encB,room⟩) (fun x=>a+1≤x∧x≤J+1∧scanUp (fun x=>ltN x d0[a]!) d0 (J) x=scanUp (fun x=>ltN x d0[a]!) d0 (J) (a+1)) (fun x=>J+1-x) ((a+1)) ⟨sb_,sb_,sb_,sb_,trivial⟩ (Mem.Less.refl _) (⟨by omega,by omega,rfl⟩) ?_
  rintro i ⟨q1,q2,q3⟩
  (try dsimp only at *)
  by_cases hij:i≤J
  ·iterate 2 refine s1_ ?_
   refine AWP.draw [(0,true),(1,true),(2,true),(3,true),(4,true),(5,true),(6,true),(7,true),(8,true),(9,true),(10,true),(11,true),(12,false),(13,true)] [] mixed (by kernel_rfl) ?_
   iterate 7 refine s1_ ?_
   first|refine k_d ?_|refine dL (hc:=Calm.load ty_plain_5 rfl (rd_row (k:=i) own_ rw_ rw_)) (h:=?_)
   iterate 3 refine s1_ ?_
   first|refine k_d ?_|refine dL (hc:=Calm.load ty_plain_5 rfl (rd_row (k:=a) own_ rw_ rw_)) (h:=?_)
   refine draw_only rfl ?_
   refine ARun.callG 3 true 33 rfl (lit_lt rfl) rfl (lit_lt rfl) go_75 rfl (soB_less _ _ _) ?_
   rintro _ _ ⟨rfl,rfl⟩
   refine arun_nil ⟨fun _=>less_,?_⟩
   iterate 3 refine s1_ ?_
   refine su_ [(0,_),(1,_),(10,_),(11,_),(43,_)] ?_
   refine AWP.condB rfl (fun hl=>?_) (fun hl=>?_)
   ·iterate 10 refine s1_ ?_
    refine ⟨i+1,?_,?_,?_,?_⟩
    all_goals (try dsimp only)
    ·exact ⟨sb_,sb_,sb_,sb_,trivial⟩
    ·exact Mem.Less.refl _
    ·exact ⟨by omega,by omega,(up_go (p:=(fun x=>ltN x d0[a]!)) hij (by simp only [hl,Bool.not_true,Bool.not_false])).trans q3⟩
    ·omega
   ·iterate 4 refine s1_ ?_
    refine ⟨i,?_,?_,?_⟩
    all_goals (try dsimp only)
    ·exact ⟨by omega,by omega,(up_no (p:=(fun x=>ltN x d0[a]!)) (by simp only [hl,Bool.not_true,Bool.not_false])).trans q3⟩
    ·exact ⟨sb_,sb_,sb_,sb_,trivial⟩
    ·exact Mem.Less.refl _
  ·iterate 2 refine s1_ ?_
   refine AWP.draw [(0,true),(1,true),(2,true),(3,true),(4,true),(5,true),(6,true),(7,true),(8,true),(9,true),(10,true),(11,true),(12,false),(13,true)] [] mixed (by kernel_rfl) ?_
   iterate 7 refine s1_ ?_
   first|refine k_d ?_|refine dL (hc:=Calm.load ty_plain_5 rfl (rd_row (k:=i) own_ rw_ rw_)) (h:=?_)
   iterate 3 refine s1_ ?_
   first|refine k_d ?_|refine dL (hc:=Calm.load ty_plain_5 rfl (rd_row (k:=a) own_ rw_ rw_)) (h:=?_)
   refine draw_only rfl ?_
   refine s1_ ?_
   refine arun_nil ⟨fun _=>less_,?_⟩
   iterate 3 refine s1_ ?_
   refine su_ [(0,_),(1,_),(10,_),(11,_),(43,_)] ?_
   refine cF_ ?_
   iterate 4 refine s1_ ?_
   refine ⟨i,?_,?_,?_⟩
   all_goals (try dsimp only)
   ·exact ⟨by omega,by omega,(up_end (p:=(fun x=>ltN x d0[a]!)) hij).trans q3⟩
   ·exact ⟨sb_,sb_,sb_,sb_,trivial⟩
   ·exact Mem.Less.refl _
 rintro i2 ⟨b1,b2,hU⟩
 intro _ _ hs_ hl_
 (try dsimp only at *)
 refine athen_n ?_
 refine AWP.sub _ hs_ (AWP.less _ hl_ ?_)
 clear hs_ hl_
 refine s1_ ?_
 refine AWP.join (X:=Nat) (fun x=>[(0,.slice (some ⟨b,0,none⟩) n cap),(1,.int .i64 a),(10,.int .i64 i2),(11,.int .i64 x)]) (fun _=>S.set b ⟨5,(d0).toList.map encB,room⟩) (fun x=>a≤x∧x≤J∧x=scanDown (fun x=>!ltN x d0[a]!) d0 i2 J) ?_ ?_
 ·refine s1_ ?_
  refine AWP.loop (X:=Nat) (fun x=>[(0,.slice (some ⟨b,0,none⟩) n cap),(1,.int .i64 a),(10,.int .i64 i2),(11,.int .i64 x)]) (fun _=>S.set b ⟨5,(d0).toList.map encB,room⟩) (fun x=>a≤x∧x≤J∧scanDown (fun x=>!ltN x d0[a]!) d0 i2 x=scanDown (fun x=>!ltN x d0[a]!) d0 i2 J) (fun x=>x) (J) ⟨sb_,sb_,sb_,sb_,trivial⟩ (Mem.Less.refl _) (⟨by omega,by omega,rfl⟩) ?_
  rintro j ⟨q1,q2,q3⟩
  (try dsimp only at *)
  by_cases hij:i2≤j
  ·obtain ⟨j,rfl⟩ : ∃ q,j=q+1:=⟨j-1,by omega⟩
   iterate 2 refine s1_ ?_
   refine AWP.draw [(0,true),(1,true),(2,true),(3,true),(4,true),(5,true),(6,true),(7,true),(8,true),(9,true),(10,true),(11,true),(12,false),(13,true),(14,true)] [] mixed (by kernel_rfl) ?_
   iterate 7 refine s1_ ?_
   first|refine k_d ?_|refine dL (hc:=Calm.load ty_plain_5 rfl (rd_row (k:=j+1) own_ rw_ rw_)) (h:=?_)
   iterate 3 refine s1_ ?_
   first|refine k_d ?_|refine dL (hc:=Calm.load ty_plain_5 rfl (rd_row (k:=a) own_ rw_ rw_)) (h:=?_)
   refine draw_only rfl ?_
   refine ARun.callG 3 true 49 rfl (lit_lt rfl) rfl (lit_lt rfl) go_75 rfl (soB_less _ _ _) ?_
   rintro _ _ ⟨rfl,rfl⟩
   refine arun_nil ⟨fun _=>less_,?_⟩
   iterate 4 refine s1_ ?_
   refine su_ [(0,_),(1,_),(10,_),(11,_),(60,_)] ?_
   refine AWP.condB rfl (fun hl=>?_) (fun hl=>?_)
   ·have hl:=nt_ hl
    iterate 10 refine s1_ ?_
    refine ⟨j,?_,?_,?_,?_⟩
    all_goals (try dsimp only)
    ·exact ⟨sb_,sb_,sb_,sb_,trivial⟩
    ·exact Mem.Less.refl _
    ·exact ⟨by omega,by omega,(down_go (p:=(fun x=>!ltN x d0[a]!)) hij (by simp only [hl,Bool.not_true,Bool.not_false])).trans q3⟩
    ·omega
   ·have hl:=nf_ hl
    iterate 4 refine s1_ ?_
    refine ⟨(j+1),?_,?_,?_⟩
    all_goals (try dsimp only)
    ·exact ⟨by omega,by omega,(down_no (p:=(fun x=>!ltN x d0[a]!)) (by omega) (by simp only [hl,Bool.not_true,Bool.not_false])).trans q3⟩
    ·exact ⟨sb_,sb_,sb_,sb_,trivial⟩
    ·exact Mem.Less.refl _
  ·iterate 2 refine s1_ ?_
   refine AWP.draw [(0,true),(1,true),(2,true),(3,true),(4,true),(5,true),(6,true),(7,true),(8,true),(9,true),(10,true),(11,true),(12,false),(13,true),(14,true)] [] mixed (by kernel_rfl) ?_
   iterate 7 refine s1_ ?_
   first|refine k_d ?_|refine dL (hc:=Calm.load ty_plain_5 rfl (rd_row (k:=j+1) own_ rw_ rw_)) (h:=?_)
   iterate 3 refine s1_ ?_
   first|refine k_d ?_|refine dL (hc:=Calm.load ty_plain_5 rfl (rd_row (k:=a) own_ rw_ rw_)) (h:=?_)
   refine draw_only rfl ?_
   refine s1_ ?_
   refine arun_nil ⟨fun _=>less_,?_⟩
   iterate 4 refine s1_ ?_
   refine su_ [(0,_),(1,_),(10,_),(11,_),(60,_)] ?_
   refine cF_ ?_
   iterate 4 refine s1_ ?_
   refine ⟨j,?_,?_,?_⟩
   all_goals (try dsimp only)
   ·exact ⟨by omega,by omega,(down_end (p:=(fun x=>!ltN x d0[a]!)) hij).trans q3⟩
   ·exact ⟨sb_,sb_,sb_,sb_,trivial⟩
   ·exact Mem.Less.refl _
 rintro j2 ⟨b3,b4,hD⟩
 intro _ _ hs_ hl_
 (try dsimp only at *)
 refine athen_n ?_
 refine AWP.sub _ hs_ (AWP.less _ hl_ ?_)
 clear hs_ hl_
 by_cases hx:j2<i2
 ·iterate 8 refine s1_ ?_
  refine su_ [(0,_),(1,_),(10,_),(11,_),(65,_)] ?_
  refine cT_ ?_
  refine s1_ ?_
  refine AWP.draw [(0,true),(1,true),(2,true),(3,true),(4,true),(5,true),(6,true),(7,true),(8,true),(9,true),(10,true),(11,true),(12,true),(13,false),(14,true),(15,false)] [13,15] mixed (by kernel_rfl) ?_
  iterate 7 refine s1_ ?_
  refine dC (hc:=Calm.load ty_plain_5 rfl (rd_row (k:=a) own_ rw_ rw_)) (h:=?_)
  iterate 3 refine s1_ ?_
  refine dC (hc:=Calm.load ty_plain_5 rfl (rd_row (k:=j2) own_ rw_ rw_)) (h:=?_)
  refine s1_ ?_
  refine draw_only rfl ?_
  refine ARun.storeRow encB (j2) rfl rfl ty_size_5 ⟨rfl,rfl⟩ own_ rw_ rw_ ?_
  try simp only [k_ms,k_sz,k_ss,k_za,Nat.reduceAdd]
  refine arun_nil ⟨fun h=>absurd h (by decide),?_⟩
  refine s1_ ?_
  refine draw_only rfl ?_
  refine ARun.storeRow encB (a) rfl rfl ty_size_5 ⟨rfl,rfl⟩ own_ rw_ rw_ ?_
  try simp only [k_ms,k_sz,k_ss,k_za,Nat.reduceAdd]
  refine arun_nil ⟨fun h=>absurd h (by decide),?_⟩
  iterate 2 refine s1_ ?_
  refine su_ [(0,_),(1,_),(10,_),(11,_),(65,_)] ?_
  iterate 7 refine s1_ ?_
  refine su_ [(0,_),(1,_),(10,_),(11,_),(65,_),(8,_),(9,_)] ?_
  iterate 2 refine s1_ ?_
  refine ⟨_,_,⟨_,_,rfl,⟨_,_,rfl,rfl,rfl⟩,rfl⟩,Mem.Less.refl _,?_⟩
  exact part_res1 ltN hd0 hU hD hx (R0.swp _ _ (by omega) (by omega)) (by omega) (by omega)
 ·iterate 8 refine s1_ ?_
  refine su_ [(0,_),(1,_),(10,_),(11,_),(65,_)] ?_
  refine cF_ ?_
  iterate 3 refine s1_ ?_
  refine AWP.draw [(0,true),(1,true),(2,true),(3,true),(4,true),(5,true),(6,true),(7,true),(8,true),(9,true),(10,true),(11,true),(12,true),(13,false),(14,true),(15,false)] [13,15] mixed (by kernel_rfl) ?_
  have R1:=R0.swp i2 j2 (by omega) (by omega)
  have hst:partLoop ltN a (i2+1) (j2-1) (swp d0 i2 j2)=partLoop ltN a (i2+1) (j2-1) (swp d0 i2 j2):=rfl
  iterate 7 refine s1_ ?_
  refine dC (hc:=Calm.load ty_plain_5 rfl (rd_row (k:=j2) own_ rw_ rw_)) (h:=?_)
  iterate 3 refine s1_ ?_
  refine dC (hc:=Calm.load ty_plain_5 rfl (rd_row (k:=i2) own_ rw_ rw_)) (h:=?_)
  refine s1_ ?_
  refine draw_only rfl ?_
  refine ARun.storeRow encB (i2) rfl rfl ty_size_5 ⟨rfl,rfl⟩ own_ rw_ rw_ ?_
  try simp only [k_ms,k_sz,k_ss,k_za,Nat.reduceAdd]
  refine arun_nil ⟨fun h=>absurd h (by decide),?_⟩
  refine s1_ ?_
  refine draw_only rfl ?_
  refine ARun.storeRow encB (j2) rfl rfl ty_size_5 ⟨rfl,rfl⟩ own_ rw_ rw_ ?_
  try simp only [k_ms,k_sz,k_ss,k_za,Nat.reduceAdd]
  refine arun_nil ⟨fun h=>absurd h (by decide),?_⟩
  iterate 2 refine s1_ ?_
  refine su_ [(0,_),(1,_),(10,_),(11,_),(65,_)] ?_
  iterate 7 refine s1_ ?_
  refine su_ [(0,_),(1,_),(10,_),(11,_),(65,_)] ?_
  iterate 7 refine s1_ ?_
  refine su_ [(0,_),(1,_),(10,_),(11,_),(65,_)] ?_
  refine s1_ ?_
  refine AWP.join (X:=Nat × Array Nat) (fun x=>[(0,.slice (some ⟨b,0,none⟩) n cap),(1,.int .i64 a),(11,.int .i64 x.1)]) (fun x=>S.set b ⟨5,(x.2).toList.map encB,room⟩) (fun x=>a≤x.1∧x.1≤J∧Rw (fun _=>True) n x.2∧(x.1,x.2)=partLoop ltN a (i2+1) (j2-1) (swp d0 i2 j2)) ?_ ?_
  ·refine s1_ ?_
   refine AWP.loop (X:=Nat × Nat × Array Nat) (fun x=>[(0,.slice (some ⟨b,0,none⟩) n cap),(1,.int .i64 a),(10,.int .i64 x.1),(11,.int .i64 x.2.1)]) (fun x=>S.set b ⟨5,(x.2.2).toList.map encB,room⟩) (fun x=>a+1≤x.1∧x.1≤J+1∧a≤x.2.1∧x.2.1≤J∧Rw (fun _=>True) n x.2.2∧partLoop ltN a x.1 x.2.1 x.2.2=partLoop ltN a (i2+1) (j2-1) (swp d0 i2 j2)) (fun x=>J+1-x.1) ((i2+1,j2-1,swp d0 i2 j2)) ⟨sb_,sb_,sb_,sb_,trivial⟩ (Mem.Less.refl _) (⟨by dsimp only;omega,by dsimp only;omega,by dsimp only;omega,by dsimp only;omega,R1,rfl⟩) ?_
   rintro ⟨I2,J2,d2⟩ ⟨m1,m2,m4,m5,R2,m3⟩
   (try dsimp only at *)
   have z2:=R2.size
   iterate 2 refine s1_ ?_
   refine AWP.join (X:=Nat) (fun x=>[(0,.slice (some ⟨b,0,none⟩) n cap),(1,.int .i64 a),(10,.int .i64 x),(11,.int .i64 J2)]) (fun _=>S.set b ⟨5,(d2).toList.map encB,room⟩) (fun x=>a+1≤x∧x≤J+1∧x=scanUp (fun x=>ltN x d2[a]!) d2 (J2) I2) ?_ ?_
   ·refine s1_ ?_
    refine AWP.loop (X:=Nat) (fun x=>[(0,.slice (some ⟨b,0,none⟩) n cap),(1,.int .i64 a),(10,.int .i64 x),(11,.int .i64 J2)]) (fun _=>S.set b ⟨5,(d2).toList.map encB,room⟩) (fun x=>a+1≤x∧x≤J+1∧scanUp (fun x=>ltN x d2[a]!) d2 (J2) x=scanUp (fun x=>ltN x d2[a]!) d2 (J2) I2) (fun x=>J+1-x) (I2) ⟨sb_,sb_,sb_,sb_,trivial⟩ (Mem.Less.refl _) (⟨by omega,by omega,rfl⟩) ?_
    rintro i ⟨q1,q2,q3⟩
    (try dsimp only at *)
    by_cases hij:i≤J2
    ·iterate 2 refine s1_ ?_
     refine AWP.draw [(0,true),(1,true),(2,true),(3,true),(4,true),(5,true),(6,true),(7,true),(8,true),(9,true),(10,true),(11,true),(12,false),(13,true)] [] mixed (by kernel_rfl) ?_
     iterate 7 refine s1_ ?_
     first|refine k_d ?_|refine dL (hc:=Calm.load ty_plain_5 rfl (rd_row (k:=i) own_ rw_ rw_)) (h:=?_)
     iterate 3 refine s1_ ?_
     first|refine k_d ?_|refine dL (hc:=Calm.load ty_plain_5 rfl (rd_row (k:=a) own_ rw_ rw_)) (h:=?_)
     refine draw_only rfl ?_
     refine ARun.callG 3 true 102 rfl (lit_lt rfl) rfl (lit_lt rfl) go_75 rfl (soB_less _ _ _) ?_
     rintro _ _ ⟨rfl,rfl⟩
     refine arun_nil ⟨fun _=>less_,?_⟩
     iterate 3 refine s1_ ?_
     refine su_ [(0,_),(1,_),(10,_),(11,_),(112,_)] ?_
     refine AWP.condB rfl (fun hl=>?_) (fun hl=>?_)
     ·iterate 10 refine s1_ ?_
      refine ⟨i+1,?_,?_,?_,?_⟩
      all_goals (try dsimp only)
      ·exact ⟨sb_,sb_,sb_,sb_,trivial⟩
      ·exact Mem.Less.refl _
      ·exact ⟨by omega,by omega,(up_go (p:=(fun x=>ltN x d2[a]!)) hij (by simp only [hl,Bool.not_true,Bool.not_false])).trans q3⟩
      ·omega
     ·iterate 4 refine s1_ ?_
      refine ⟨i,?_,?_,?_⟩
      all_goals (try dsimp only)
      ·exact ⟨by omega,by omega,(up_no (p:=(fun x=>ltN x d2[a]!)) (by simp only [hl,Bool.not_true,Bool.not_false])).trans q3⟩
      ·exact ⟨sb_,sb_,sb_,sb_,trivial⟩
      ·exact Mem.Less.refl _
    ·iterate 2 refine s1_ ?_
     refine AWP.draw [(0,true),(1,true),(2,true),(3,true),(4,true),(5,true),(6,true),(7,true),(8,true),(9,true),(10,true),(11,true),(12,false),(13,true)] [] mixed (by kernel_rfl) ?_
     iterate 7 refine s1_ ?_
     first|refine k_d ?_|refine dL (hc:=Calm.load ty_plain_5 rfl (rd_row (k:=i) own_ rw_ rw_)) (h:=?_)
     iterate 3 refine s1_ ?_
     first|refine k_d ?_|refine dL (hc:=Calm.load ty_plain_5 rfl (rd_row (k:=a) own_ rw_ rw_)) (h:=?_)
     refine draw_only rfl ?_
     refine s1_ ?_
     refine arun_nil ⟨fun _=>less_,?_⟩
     iterate 3 refine s1_ ?_
     refine su_ [(0,_),(1,_),(10,_),(11,_),(112,_)] ?_
     refine cF_ ?_
     iterate 4 refine s1_ ?_
     refine ⟨i,?_,?_,?_⟩
     all_goals (try dsimp only)
     ·exact ⟨by omega,by omega,(up_end (p:=(fun x=>ltN x d2[a]!)) hij).trans q3⟩
     ·exact ⟨sb_,sb_,sb_,sb_,trivial⟩
     ·exact Mem.Less.refl _
   rintro i2 ⟨b1,b2,hU⟩
   intro _ _ hs_ hl_
   (try dsimp only at *)
   refine athen_n ?_
   refine AWP.sub _ hs_ (AWP.less _ hl_ ?_)
   clear hs_ hl_
   refine s1_ ?_
   refine AWP.join (X:=Nat) (fun x=>[(0,.slice (some ⟨b,0,none⟩) n cap),(1,.int .i64 a),(10,.int .i64 i2),(11,.int .i64 x)]) (fun _=>S.set b ⟨5,(d2).toList.map encB,room⟩) (fun x=>a≤x∧x≤J∧x=scanDown (fun x=>!ltN x d2[a]!) d2 i2 J2) ?_ ?_
   ·refine s1_ ?_
    refine AWP.loop (X:=Nat) (fun x=>[(0,.slice (some ⟨b,0,none⟩) n cap),(1,.int .i64 a),(10,.int .i64 i2),(11,.int .i64 x)]) (fun _=>S.set b ⟨5,(d2).toList.map encB,room⟩) (fun x=>a≤x∧x≤J∧scanDown (fun x=>!ltN x d2[a]!) d2 i2 x=scanDown (fun x=>!ltN x d2[a]!) d2 i2 J2) (fun x=>x) (J2) ⟨sb_,sb_,sb_,sb_,trivial⟩ (Mem.Less.refl _) (⟨by omega,by omega,rfl⟩) ?_
    rintro j ⟨q1,q2,q3⟩
    (try dsimp only at *)
    by_cases hij:i2≤j
    ·obtain ⟨j,rfl⟩ : ∃ q,j=q+1:=⟨j-1,by omega⟩
     iterate 2 refine s1_ ?_
     refine AWP.draw [(0,true),(1,true),(2,true),(3,true),(4,true),(5,true),(6,true),(7,true),(8,true),(9,true),(10,true),(11,true),(12,false),(13,true),(14,true)] [] mixed (by kernel_rfl) ?_
     iterate 7 refine s1_ ?_
     first|refine k_d ?_|refine dL (hc:=Calm.load ty_plain_5 rfl (rd_row (k:=j+1) own_ rw_ rw_)) (h:=?_)
     iterate 3 refine s1_ ?_
     first|refine k_d ?_|refine dL (hc:=Calm.load ty_plain_5 rfl (rd_row (k:=a) own_ rw_ rw_)) (h:=?_)
     refine draw_only rfl ?_
     refine ARun.callG 3 true 118 rfl (lit_lt rfl) rfl (lit_lt rfl) go_75 rfl (soB_less _ _ _) ?_
     rintro _ _ ⟨rfl,rfl⟩
     refine arun_nil ⟨fun _=>less_,?_⟩
     iterate 4 refine s1_ ?_
     refine su_ [(0,_),(1,_),(10,_),(11,_),(129,_)] ?_
     refine AWP.condB rfl (fun hl=>?_) (fun hl=>?_)
     ·have hl:=nt_ hl
      iterate 10 refine s1_ ?_
      refine ⟨j,?_,?_,?_,?_⟩
      all_goals (try dsimp only)
      ·exact ⟨sb_,sb_,sb_,sb_,trivial⟩
      ·exact Mem.Less.refl _
      ·exact ⟨by omega,by omega,(down_go (p:=(fun x=>!ltN x d2[a]!)) hij (by simp only [hl,Bool.not_true,Bool.not_false])).trans q3⟩
      ·omega
     ·have hl:=nf_ hl
      iterate 4 refine s1_ ?_
      refine ⟨(j+1),?_,?_,?_⟩
      all_goals (try dsimp only)
      ·exact ⟨by omega,by omega,(down_no (p:=(fun x=>!ltN x d2[a]!)) (by omega) (by simp only [hl,Bool.not_true,Bool.not_false])).trans q3⟩
      ·exact ⟨sb_,sb_,sb_,sb_,trivial⟩
      ·exact Mem.Less.refl _
    ·iterate 2 refine s1_ ?_
     refine AWP.draw [(0,true),(1,true),(2,true),(3,true),(4,true),(5,true),(6,true),(7,true),(8,true),(9,true),(10,true),(11,true),(12,false),(13,true),(14,true)] [] mixed (by kernel_rfl) ?_
     iterate 7 refine s1_ ?_
     first|refine k_d ?_|refine dL (hc:=Calm.load ty_plain_5 rfl (rd_row (k:=j+1) own_ rw_ rw_)) (h:=?_)
     iterate 3 refine s1_ ?_
     first|refine k_d ?_|refine dL (hc:=Calm.load ty_plain_5 rfl (rd_row (k:=a) own_ rw_ rw_)) (h:=?_)
     refine draw_only rfl ?_
     refine s1_ ?_
     refine arun_nil ⟨fun _=>less_,?_⟩
     iterate 4 refine s1_ ?_
     refine su_ [(0,_),(1,_),(10,_),(11,_),(129,_)] ?_
     refine cF_ ?_
     iterate 4 refine s1_ ?_
     refine ⟨j,?_,?_,?_⟩
     all_goals (try dsimp only)
     ·exact ⟨by omega,by omega,(down_end (p:=(fun x=>!ltN x d2[a]!)) hij).trans q3⟩
     ·exact ⟨sb_,sb_,sb_,sb_,trivial⟩
     ·exact Mem.Less.refl _
   rintro j2 ⟨b3,b4,hD⟩
   intro _ _ hs_ hl_
   (try dsimp only at *)
   refine athen_n ?_
   refine AWP.sub _ hs_ (AWP.less _ hl_ ?_)
   clear hs_ hl_
   by_cases hx:j2<i2
   ·iterate 8 refine s1_ ?_
    refine su_ [(0,_),(1,_),(10,_),(11,_),(134,_)] ?_
    refine cT_ ?_
    iterate 5 refine s1_ ?_
    refine ⟨(j2,d2),?_,?_,?_⟩
    all_goals (try dsimp only)
    ·exact ⟨by omega,by omega,R2,(part_stop ltN hU hD hx).trans m3⟩
    ·exact ⟨sb_,sb_,sb_,trivial⟩
    ·exact Mem.Less.refl _
   ·iterate 8 refine s1_ ?_
    refine su_ [(0,_),(1,_),(10,_),(11,_),(134,_)] ?_
    refine cF_ ?_
    iterate 3 refine s1_ ?_
    refine AWP.draw [(0,true),(1,true),(2,true),(3,true),(4,true),(5,true),(6,true),(7,true),(8,true),(9,true),(10,true),(11,true),(12,true),(13,false),(14,true),(15,false)] [13,15] mixed (by kernel_rfl) ?_
    iterate 7 refine s1_ ?_
    refine dC (hc:=Calm.load ty_plain_5 rfl (rd_row (k:=j2) own_ rw_ rw_)) (h:=?_)
    iterate 3 refine s1_ ?_
    refine dC (hc:=Calm.load ty_plain_5 rfl (rd_row (k:=i2) own_ rw_ rw_)) (h:=?_)
    refine s1_ ?_
    refine draw_only rfl ?_
    refine ARun.storeRow encB (i2) rfl rfl ty_size_5 ⟨rfl,rfl⟩ own_ rw_ rw_ ?_
    try simp only [k_ms,k_sz,k_ss,k_za,Nat.reduceAdd]
    refine arun_nil ⟨fun h=>absurd h (by decide),?_⟩
    refine s1_ ?_
    refine draw_only rfl ?_
    refine ARun.storeRow encB (j2) rfl rfl ty_size_5 ⟨rfl,rfl⟩ own_ rw_ rw_ ?_
    try simp only [k_ms,k_sz,k_ss,k_za,Nat.reduceAdd]
    refine arun_nil ⟨fun h=>absurd h (by decide),?_⟩
    iterate 2 refine s1_ ?_
    refine su_ [(0,_),(1,_),(10,_),(11,_),(134,_)] ?_
    iterate 7 refine s1_ ?_
    refine su_ [(0,_),(1,_),(10,_),(11,_),(134,_)] ?_
    iterate 7 refine s1_ ?_
    refine ⟨(i2+1,j2-1,swp d2 i2 j2),?_,?_,?_,?_⟩
    all_goals (try dsimp only)
    ·exact ⟨sb_,sb_,sb_,sb_,trivial⟩
    ·exact Mem.Less.refl _
    ·exact ⟨by omega,by omega,by omega,by omega,R2.swp _ _ (by omega) (by omega),(part_go ltN hU hD hx).trans m3⟩
    ·(have:I2≤i2:=by rw [hU];exact Go.Sort.scanUp_ge _ _ _ _);omega
  rintro ⟨j3,d3⟩ ⟨t1,t2,R3,t3⟩
  intro _ _ hs_ hl_
  (try dsimp only at *)
  refine athen_n ?_
  refine AWP.sub _ hs_ (AWP.less _ hl_ ?_)
  clear hs_ hl_
  have z3:=R3.size
  refine s1_ ?_
  refine AWP.draw [(0,true),(1,true),(2,true),(3,true),(4,true),(5,true),(6,true),(7,true),(8,true),(9,true),(10,true),(11,true),(12,true),(13,false),(14,true),(15,false)] [13,15] mixed (by kernel_rfl) ?_
  iterate 7 refine s1_ ?_
  refine dC (hc:=Calm.load ty_plain_5 rfl (rd_row (k:=a) own_ rw_ rw_)) (h:=?_)
  iterate 3 refine s1_ ?_
  refine dC (hc:=Calm.load ty_plain_5 rfl (rd_row (k:=j3) own_ rw_ rw_)) (h:=?_)
  refine s1_ ?_
  refine draw_only rfl ?_
  refine ARun.storeRow encB (j3) rfl rfl ty_size_5 ⟨rfl,rfl⟩ own_ rw_ rw_ ?_
  try simp only [k_ms,k_sz,k_ss,k_za,Nat.reduceAdd]
  refine arun_nil ⟨fun h=>absurd h (by decide),?_⟩
  refine s1_ ?_
  refine draw_only rfl ?_
  refine ARun.storeRow encB (a) rfl rfl ty_size_5 ⟨rfl,rfl⟩ own_ rw_ rw_ ?_
  try simp only [k_ms,k_sz,k_ss,k_za,Nat.reduceAdd]
  refine arun_nil ⟨fun h=>absurd h (by decide),?_⟩
  iterate 2 refine s1_ ?_
  refine su_ [(0,_),(1,_),(11,_)] ?_
  iterate 7 refine s1_ ?_
  refine su_ [(0,_),(1,_),(11,_),(8,_),(9,_)] ?_
  refine s1_ ?_
  refine ⟨_,_,⟨_,_,rfl,⟨_,_,rfl,rfl,rfl⟩,rfl⟩,Mem.Less.refl _,?_⟩
  exact part_res2 ltN hd0 hU hD hx t3 (R3.swp _ _ (by omega) (by omega)) (by omega) (by omega)
set_option maxHeartbeats 4000000 in
theorem soB_parteq {S : Mem} (b room n cap : Nat) (hb : Fresh S b) (hn : n ≤ 1048576) (d : Array Nat) (R : Rw (fun _ => True) n d) (ia ie ip : Int) (a e p : Nat) (ha : ia = a) (he : ie = e) (hpp : ip = p) (hap : a ≤ p) (hpe : p < e) (hen : e ≤ n) :
  ACall Tryz.prog 105 #[.slice (some ⟨b,0,none⟩) n cap,.int .i64 ia,.int .i64 ie,.int .i64 ip] (S.set b ⟨5,(d).toList.map encB,room⟩) fun r S'=>PartEqR Nat (fun x:Array Nat=>S.set b ⟨5,(x).toList.map encB,room⟩) (fun _=>True) n (partitionEqual ltN d a e p) a e r S':=by
 subst ha he hpp
 obtain ⟨J,rfl⟩ : ∃ J,e=J+1:=⟨e-1,by omega⟩
 have R0:=R.swp a p (by omega) (by omega)
 have z:=R.size
 obtain ⟨d0,hd0⟩ : ∃ d0,d0=swp d a p:=⟨_,rfl⟩
 rw [← hd0] at R0
 have z0:=R0.size
 refine ACall.enter (rs:=[.tmp 8]) 84 [(0,.slice (some ⟨b,0,none⟩) n cap),(1,.int .i64 a),(2,.int .i64 ((J+1:Nat):Int)),(3,.int .i64 p)] Tryz.func105 rfl rfl (Nat.le_of_ble_eq_true rfl) rfl ⟨rfl,rfl,rfl,rfl,trivial⟩ ?_
 iterate 6 refine s1_ ?_
 refine AWP.draw [(0,true),(1,true),(2,true),(3,true),(4,true),(5,true),(6,true),(7,true),(8,true),(9,true),(10,true),(11,true),(12,true),(13,false),(14,true),(15,false)] [13,15] mixed (by kernel_rfl) ?_
 iterate 7 refine s1_ ?_
 refine dC (hc:=Calm.load ty_plain_5 rfl (rd_row (k:=p) own_ rw_ rw_)) (h:=?_)
 iterate 3 refine s1_ ?_
 refine dC (hc:=Calm.load ty_plain_5 rfl (rd_row (k:=a) own_ rw_ rw_)) (h:=?_)
 refine s1_ ?_
 refine draw_only rfl ?_
 refine ARun.storeRow encB (a) rfl rfl ty_size_5 ⟨rfl,rfl⟩ own_ rw_ rw_ ?_
 try simp only [k_ms,k_sz,k_ss,k_za,Nat.reduceAdd]
 refine arun_nil ⟨fun h=>absurd h (by decide),?_⟩
 refine s1_ ?_
 refine draw_only rfl ?_
 refine ARun.storeRow encB (p) rfl rfl ty_size_5 ⟨rfl,rfl⟩ own_ rw_ rw_ ?_
 try simp only [k_ms,k_sz,k_ss,k_za,Nat.reduceAdd]
 refine arun_nil ⟨fun h=>absurd h (by decide),?_⟩
 iterate 2 refine s1_ ?_
 refine su_ [(0,_),(1,_),(2,_),(3,_),(8,_)] ?_
 refine AWP.less (S.set b ⟨5,(d0).toList.map encB,room⟩) (by rw [hd0];exact Mem.Less.refl _) ?_
 iterate 10 refine s1_ ?_
 refine su_ [(0,_),(1,_),(2,_),(3,_),(8,_),(9,_),(10,_)] ?_
 iterate 2 refine s1_ ?_
 refine AWP.loop (X:=Nat × Nat × Array Nat) (fun x=>[(0,.slice (some ⟨b,0,none⟩) n cap),(1,.int .i64 a),(9,.int .i64 x.1),(10,.int .i64 x.2.1)]) (fun x=>S.set b ⟨5,(x.2.2).toList.map encB,room⟩) (fun x=>a+1≤x.1∧x.1≤J+1∧a≤x.2.1∧x.2.1≤J∧Rw (fun _=>True) n x.2.2∧partEqLoop ltN a x.1 x.2.1 x.2.2=partEqLoop ltN a (a+1) J d0) (fun x=>J+1-x.1) ((a+1,J,d0)) ⟨sb_,sb_,sb_,sb_,trivial⟩ (Mem.Less.refl _) (⟨by dsimp only;omega,by dsimp only;omega,by dsimp only;omega,by dsimp only;omega,R0,rfl⟩) ?_
 rintro ⟨I2,J2,d2⟩ ⟨m1,m2,m4,m5,R2,m3⟩
 (try dsimp only at *)
 have z2:=R2.size
 iterate 2 refine s1_ ?_
 refine AWP.join (X:=Nat) (fun x=>[(0,.slice (some ⟨b,0,none⟩) n cap),(1,.int .i64 a),(9,.int .i64 x),(10,.int .i64 J2)]) (fun _=>S.set b ⟨5,(d2).toList.map encB,room⟩) (fun x=>a+1≤x∧x≤J+1∧x=scanUp (fun x=>!ltN d2[a]! x) d2 (J2) I2) ?_ ?_
 ·refine s1_ ?_
  refine AWP.loop (X:=Nat) (fun x=>[(0,.slice (some ⟨b,0,none⟩) n cap),(1,.int .i64 a),(9,.int .i64 x),(10,.int .i64 J2)]) (fun _=>S.set b ⟨5,(d2).toList.map encB,room⟩) (fun x=>a+1≤x∧x≤J+1∧scanUp (fun x=>!ltN d2[a]! x) d2 (J2) x=scanUp (fun x=>!ltN d2[a]! x) d2 (J2) I2) (fun x=>J+1-x) (I2) ⟨sb_,sb_,sb_,sb_,trivial⟩ (Mem.Less.refl _) (⟨by omega,by omega,rfl⟩) ?_
  rintro i ⟨q1,q2,q3⟩
  (try dsimp only at *)
  by_cases hij:i≤J2
  ·iterate 2 refine s1_ ?_
   refine AWP.draw [(0,true),(1,true),(2,true),(3,true),(4,true),(5,true),(6,true),(7,true),(8,true),(9,true),(10,true),(11,true),(12,false),(13,true),(14,true)] [] mixed (by kernel_rfl) ?_
   iterate 7 refine s1_ ?_
   first|refine k_d ?_|refine dL (hc:=Calm.load ty_plain_5 rfl (rd_row (k:=a) own_ rw_ rw_)) (h:=?_)
   iterate 3 refine s1_ ?_
   first|refine k_d ?_|refine dL (hc:=Calm.load ty_plain_5 rfl (rd_row (k:=i) own_ rw_ rw_)) (h:=?_)
   refine draw_only rfl ?_
   refine ARun.callG 3 true 32 rfl (lit_lt rfl) rfl (lit_lt rfl) go_75 rfl (soB_less _ _ _) ?_
   rintro _ _ ⟨rfl,rfl⟩
   refine arun_nil ⟨fun _=>less_,?_⟩
   iterate 4 refine s1_ ?_
   refine su_ [(0,_),(1,_),(9,_),(10,_),(43,_)] ?_
   refine AWP.condB rfl (fun hl=>?_) (fun hl=>?_)
   ·have hl:=nt_ hl
    iterate 10 refine s1_ ?_
    refine ⟨i+1,?_,?_,?_,?_⟩
    all_goals (try dsimp only)
    ·exact ⟨sb_,sb_,sb_,sb_,trivial⟩
    ·exact Mem.Less.refl _
    ·exact ⟨by omega,by omega,(up_go (p:=(fun x=>!ltN d2[a]! x)) hij (by simp only [hl,Bool.not_true,Bool.not_false])).trans q3⟩
    ·omega
   ·have hl:=nf_ hl
    iterate 4 refine s1_ ?_
    refine ⟨i,?_,?_,?_⟩
    all_goals (try dsimp only)
    ·exact ⟨by omega,by omega,(up_no (p:=(fun x=>!ltN d2[a]! x)) (by simp only [hl,Bool.not_true,Bool.not_false])).trans q3⟩
    ·exact ⟨sb_,sb_,sb_,sb_,trivial⟩
    ·exact Mem.Less.refl _
  ·iterate 2 refine s1_ ?_
   refine AWP.draw [(0,true),(1,true),(2,true),(3,true),(4,true),(5,true),(6,true),(7,true),(8,true),(9,true),(10,true),(11,true),(12,false),(13,true),(14,true)] [] mixed (by kernel_rfl) ?_
   iterate 7 refine s1_ ?_
   first|refine k_d ?_|refine dL (hc:=Calm.load ty_plain_5 rfl (rd_row (k:=a) own_ rw_ rw_)) (h:=?_)
   iterate 3 refine s1_ ?_
   first|refine k_d ?_|refine dL (hc:=Calm.load ty_plain_5 rfl (rd_row (k:=i) own_ rw_ rw_)) (h:=?_)
   refine draw_only rfl ?_
   refine s1_ ?_
   refine arun_nil ⟨fun _=>less_,?_⟩
   iterate 4 refine s1_ ?_
   refine su_ [(0,_),(1,_),(9,_),(10,_),(43,_)] ?_
   refine cF_ ?_
   iterate 4 refine s1_ ?_
   refine ⟨i,?_,?_,?_⟩
   all_goals (try dsimp only)
   ·exact ⟨by omega,by omega,(up_end (p:=(fun x=>!ltN d2[a]! x)) hij).trans q3⟩
   ·exact ⟨sb_,sb_,sb_,sb_,trivial⟩
   ·exact Mem.Less.refl _
 rintro i2 ⟨b1,b2,hU⟩
 intro _ _ hs_ hl_
 (try dsimp only at *)
 refine athen_n ?_
 refine AWP.sub _ hs_ (AWP.less _ hl_ ?_)
 clear hs_ hl_
 refine s1_ ?_
 refine AWP.join (X:=Nat) (fun x=>[(0,.slice (some ⟨b,0,none⟩) n cap),(1,.int .i64 a),(9,.int .i64 i2),(10,.int .i64 x)]) (fun _=>S.set b ⟨5,(d2).toList.map encB,room⟩) (fun x=>a≤x∧x≤J∧x=scanDown (fun x=>ltN d2[a]! x) d2 i2 J2) ?_ ?_
 ·refine s1_ ?_
  refine AWP.loop (X:=Nat) (fun x=>[(0,.slice (some ⟨b,0,none⟩) n cap),(1,.int .i64 a),(9,.int .i64 i2),(10,.int .i64 x)]) (fun _=>S.set b ⟨5,(d2).toList.map encB,room⟩) (fun x=>a≤x∧x≤J∧scanDown (fun x=>ltN d2[a]! x) d2 i2 x=scanDown (fun x=>ltN d2[a]! x) d2 i2 J2) (fun x=>x) (J2) ⟨sb_,sb_,sb_,sb_,trivial⟩ (Mem.Less.refl _) (⟨by omega,by omega,rfl⟩) ?_
  rintro j ⟨q1,q2,q3⟩
  (try dsimp only at *)
  by_cases hij:i2≤j
  ·obtain ⟨j,rfl⟩ : ∃ q,j=q+1:=⟨j-1,by omega⟩
   iterate 2 refine s1_ ?_
   refine AWP.draw [(0,true),(1,true),(2,true),(3,true),(4,true),(5,true),(6,true),(7,true),(8,true),(9,true),(10,true),(11,true),(12,false),(13,true)] [] mixed (by kernel_rfl) ?_
   iterate 7 refine s1_ ?_
   first|refine k_d ?_|refine dL (hc:=Calm.load ty_plain_5 rfl (rd_row (k:=a) own_ rw_ rw_)) (h:=?_)
   iterate 3 refine s1_ ?_
   first|refine k_d ?_|refine dL (hc:=Calm.load ty_plain_5 rfl (rd_row (k:=j+1) own_ rw_ rw_)) (h:=?_)
   refine draw_only rfl ?_
   refine ARun.callG 3 true 49 rfl (lit_lt rfl) rfl (lit_lt rfl) go_75 rfl (soB_less _ _ _) ?_
   rintro _ _ ⟨rfl,rfl⟩
   refine arun_nil ⟨fun _=>less_,?_⟩
   iterate 3 refine s1_ ?_
   refine su_ [(0,_),(1,_),(9,_),(10,_),(59,_)] ?_
   refine AWP.condB rfl (fun hl=>?_) (fun hl=>?_)
   ·iterate 10 refine s1_ ?_
    refine ⟨j,?_,?_,?_,?_⟩
    all_goals (try dsimp only)
    ·exact ⟨sb_,sb_,sb_,sb_,trivial⟩
    ·exact Mem.Less.refl _
    ·exact ⟨by omega,by omega,(down_go (p:=(fun x=>ltN d2[a]! x)) hij (by simp only [hl,Bool.not_true,Bool.not_false])).trans q3⟩
    ·omega
   ·iterate 4 refine s1_ ?_
    refine ⟨(j+1),?_,?_,?_⟩
    all_goals (try dsimp only)
    ·exact ⟨by omega,by omega,(down_no (p:=(fun x=>ltN d2[a]! x)) (by omega) (by simp only [hl,Bool.not_true,Bool.not_false])).trans q3⟩
    ·exact ⟨sb_,sb_,sb_,sb_,trivial⟩
    ·exact Mem.Less.refl _
  ·iterate 2 refine s1_ ?_
   refine AWP.draw [(0,true),(1,true),(2,true),(3,true),(4,true),(5,true),(6,true),(7,true),(8,true),(9,true),(10,true),(11,true),(12,false),(13,true)] [] mixed (by kernel_rfl) ?_
   iterate 7 refine s1_ ?_
   first|refine k_d ?_|refine dL (hc:=Calm.load ty_plain_5 rfl (rd_row (k:=a) own_ rw_ rw_)) (h:=?_)
   iterate 3 refine s1_ ?_
   first|refine k_d ?_|refine dL (hc:=Calm.load ty_plain_5 rfl (rd_row (k:=j+1) own_ rw_ rw_)) (h:=?_)
   refine draw_only rfl ?_
   refine s1_ ?_
   refine arun_nil ⟨fun _=>less_,?_⟩
   iterate 3 refine s1_ ?_
   refine su_ [(0,_),(1,_),(9,_),(10,_),(59,_)] ?_
   refine cF_ ?_
   iterate 4 refine s1_ ?_
   refine ⟨j,?_,?_,?_⟩
   all_goals (try dsimp only)
   ·exact ⟨by omega,by omega,(down_end (p:=(fun x=>ltN d2[a]! x)) hij).trans q3⟩
   ·exact ⟨sb_,sb_,sb_,sb_,trivial⟩
   ·exact Mem.Less.refl _
 rintro j2 ⟨b3,b4,hD⟩
 intro _ _ hs_ hl_
 (try dsimp only at *)
 refine athen_n ?_
 refine AWP.sub _ hs_ (AWP.less _ hl_ ?_)
 clear hs_ hl_
 by_cases hx:j2<i2
 ·iterate 8 refine s1_ ?_
  refine su_ [(0,_),(1,_),(9,_),(10,_),(64,_)] ?_
  refine cT_ ?_
  iterate 12 refine s1_ ?_
  refine su_ [(0,_),(1,_),(9,_),(10,_),(64,_),(8,_)] ?_
  refine s1_ ?_
  refine ⟨_,_,⟨_,_,rfl,rfl,rfl⟩,Mem.Less.refl _,?_⟩
  exact parteq_res ltN hd0 ((parteq_stop ltN hU hD hx).trans m3) R2 (by omega) (by omega)
 ·iterate 8 refine s1_ ?_
  refine su_ [(0,_),(1,_),(9,_),(10,_),(64,_)] ?_
  refine cF_ ?_
  iterate 3 refine s1_ ?_
  refine AWP.draw [(0,true),(1,true),(2,true),(3,true),(4,true),(5,true),(6,true),(7,true),(8,true),(9,true),(10,true),(11,true),(12,true),(13,false),(14,true),(15,false)] [13,15] mixed (by kernel_rfl) ?_
  iterate 7 refine s1_ ?_
  refine dC (hc:=Calm.load ty_plain_5 rfl (rd_row (k:=j2) own_ rw_ rw_)) (h:=?_)
  iterate 3 refine s1_ ?_
  refine dC (hc:=Calm.load ty_plain_5 rfl (rd_row (k:=i2) own_ rw_ rw_)) (h:=?_)
  refine s1_ ?_
  refine draw_only rfl ?_
  refine ARun.storeRow encB (i2) rfl rfl ty_size_5 ⟨rfl,rfl⟩ own_ rw_ rw_ ?_
  try simp only [k_ms,k_sz,k_ss,k_za,Nat.reduceAdd]
  refine arun_nil ⟨fun h=>absurd h (by decide),?_⟩
  refine s1_ ?_
  refine draw_only rfl ?_
  refine ARun.storeRow encB (j2) rfl rfl ty_size_5 ⟨rfl,rfl⟩ own_ rw_ rw_ ?_
  try simp only [k_ms,k_sz,k_ss,k_za,Nat.reduceAdd]
  refine arun_nil ⟨fun h=>absurd h (by decide),?_⟩
  iterate 2 refine s1_ ?_
  refine su_ [(0,_),(1,_),(9,_),(10,_),(64,_)] ?_
  iterate 7 refine s1_ ?_
  refine su_ [(0,_),(1,_),(9,_),(10,_),(64,_)] ?_
  iterate 7 refine s1_ ?_
  refine ⟨(i2+1,j2-1,swp d2 i2 j2),?_,?_,?_,?_⟩
  all_goals (try dsimp only)
  ·exact ⟨sb_,sb_,sb_,sb_,trivial⟩
  ·exact Mem.Less.refl _
  ·exact ⟨by omega,by omega,by omega,by omega,R2.swp _ _ (by omega) (by omega),(parteq_go ltN hU hD hx).trans m3⟩
  ·(have:I2≤i2:=by rw [hU];exact Go.Sort.scanUp_ge _ _ _ _);omega
end Go.Proofs.YtckloanlkpchoaaGreatDoor
namespace Go.Proofs.YtckloanlkpchoaaGreatDoor
open Go.RowKit
open Mv Srt
open Go.Sort (swp insInner insOuter insertionSort siftDown heapBuild heapPop heapSort scanUp scanDown partLoop partition partEqLoop partitionEqual scanSorted shiftDown shiftUp partialIns partialInsertionSort order2 median medianAdjacent choosePivot reverseLoop reverseRange breakStep breakPatterns pdq bitsLen xorNext Hint)
set_option maxRecDepth 4000
set_option maxHeartbeats 4000000 in
theorem soB_rev {S : Mem} (b room n cap : Nat) (hb : Fresh S b) (hn : n ≤ 1048576) (d : Array Nat) (R : Rw (fun _ => True) n d) (ia ie : Int) (a e : Nat) (ha : ia = a) (he : ie = e) (hae : a < e) (hen : e ≤ n) :
  ACall Tryz.prog 103 #[.slice (some ⟨b,0,none⟩) n cap,.int .i64 ia,.int .i64 ie] (S.set b ⟨5,(d).toList.map encB,room⟩) fun r S'=>S'=S.set b ⟨5,(reverseRange d a e).toList.map encB,room⟩∧Rw (fun _=>True) n (reverseRange d a e):=by
 subst ha he
 refine ACall.enter (rs:=[]) 32 [(0,.slice (some ⟨b,0,none⟩) n cap),(1,.int .i64 a),(2,.int .i64 e)] Tryz.func103 rfl rfl (Nat.le_of_ble_eq_true rfl) rfl ⟨rfl,rfl,rfl,trivial⟩ ?_
 iterate 6 refine s1_ ?_
 refine su_ [(0,_),(1,_),(2,_),(6,_)] ?_
 iterate 7 refine s1_ ?_
 refine su_ [(0,_),(1,_),(2,_),(6,_),(7,_)] ?_
 refine s1_ ?_
 refine AWP.loop (X:=Nat × Nat × Array Nat) (fun x=>[(0,.slice (some ⟨b,0,none⟩) n cap),(6,.int .i64 x.1),(7,.int .i64 x.2.1)]) (fun x=>S.set b ⟨5,(x.2.2).toList.map encB,room⟩) (fun x=>x.1≤n∧x.2.1<e∧Rw (fun _=>True) n x.2.2∧reverseLoop x.1 x.2.1 x.2.2=reverseRange d a e) (fun x=>x.2.1) ((a,e-1,d)) ⟨sb_,sb_,sb_,trivial⟩ (Mem.Less.refl _) (⟨by dsimp only;omega,by dsimp only;omega,R,rfl⟩) ?_
 rintro ⟨i,j,d1⟩ ⟨h1,h2,R1,h3⟩
 (try dsimp only at *)
 have z1:=R1.size
 by_cases hij:i<j
 ·iterate 8 refine s1_ ?_
  refine su_ [(0,_),(6,_),(7,_),(13,_)] ?_
  refine cT_ ?_
  iterate 4 refine s1_ ?_
  refine AWP.draw [(0,true),(1,true),(2,true),(3,true),(4,true),(5,true),(6,true),(7,true),(8,true),(9,true),(10,true),(11,true),(12,true),(13,false),(14,true),(15,false)] [13,15] mixed (by kernel_rfl) ?_
  iterate 7 refine s1_ ?_
  refine dC (hc:=Calm.load ty_plain_5 rfl (rd_row (k:=j) own_ rw_ rw_)) (h:=?_)
  iterate 3 refine s1_ ?_
  refine dC (hc:=Calm.load ty_plain_5 rfl (rd_row (k:=i) own_ rw_ rw_)) (h:=?_)
  refine s1_ ?_
  refine draw_only rfl ?_
  refine ARun.storeRow encB (i) rfl rfl ty_size_5 ⟨rfl,rfl⟩ own_ rw_ rw_ ?_
  try simp only [k_ms,k_sz,k_ss,k_za,Nat.reduceAdd]
  refine arun_nil ⟨fun h=>absurd h (by decide),?_⟩
  refine s1_ ?_
  refine draw_only rfl ?_
  refine ARun.storeRow encB (j) rfl rfl ty_size_5 ⟨rfl,rfl⟩ own_ rw_ rw_ ?_
  try simp only [k_ms,k_sz,k_ss,k_za,Nat.reduceAdd]
  refine arun_nil ⟨fun h=>absurd h (by decide),?_⟩
  iterate 2 refine s1_ ?_
  refine su_ [(0,_),(6,_),(7,_),(13,_)] ?_
  iterate 7 refine s1_ ?_
  refine su_ [(0,_),(6,_),(7,_),(13,_)] ?_
  iterate 7 refine s1_ ?_
  refine ⟨(i+1,j-1,swp d1 i j),?_,?_,?_,?_⟩
  all_goals (try dsimp only)
  ·exact ⟨sb_,sb_,sb_,trivial⟩
  ·exact Mem.Less.refl _
  ·exact ⟨by omega,by omega,R1.swp _ _ (by omega) (by omega),(rev_go hij).trans h3⟩
  ·omega
 ·iterate 8 refine s1_ ?_
  refine su_ [(0,_),(6,_),(7,_),(13,_)] ?_
  refine cF_ ?_
  iterate 4 refine s1_ ?_
  refine ⟨_,_,rfl,Mem.Less.refl _,?_⟩
  rw [← h3,← rev_end hij];exact ⟨rfl,R1⟩
set_option maxHeartbeats 1000000 in
theorem soB_order2 {S : Mem} (b room n cap : Nat) (hb : Fresh S b) (hn : n ≤ 1048576) (d : Array Nat) (R : Rw (fun _ => True) n d) (c : Nat) (hc : Fresh S c) (hcb : c ≠ b) (ia ie : Int) (a e k : Nat) (ea : ia = a) (ee : ie = e) (ha : a < n) (he : e < n) (hk : k ≤ 1000) :
  ACall Tryz.prog 146 #[.slice (some ⟨b,0,none⟩) n cap,.int .i64 ia,.int .i64 ie,.pointer (some ⟨c,0,none⟩)] ((S.set b ⟨5,(d).toList.map encB,room⟩).set c ⟨3,[.int .i64 ((k:Nat):Int)],1⟩) fun r S'=>r = .tuple #[.int .i64 ((order2 ltN d a e k).1:Nat),.int .i64 ((order2 ltN d a e k).2.1:Nat)]∧S'=(S.set b ⟨5,(d).toList.map encB,room⟩).set c ⟨3,[.int .i64 (((order2 ltN d a e k).2.2:Nat):Int)],1⟩:=by
 subst ea ee
 have z:=R.size
 refine ACall.enter (rs:=[.tmp 8,.tmp 9]) 28 [(0,.slice (some ⟨b,0,none⟩) n cap),(1,.int .i64 a),(2,.int .i64 e),(3,.pointer (some ⟨c,0,none⟩))] Tryz.func146 rfl rfl (Nat.le_of_ble_eq_true rfl) rfl ⟨rfl,rfl,rfl,rfl,trivial⟩ ?_
 iterate 8 refine s1_ ?_
 refine AWP.draw [(0,true),(1,true),(2,true),(3,true),(4,true),(5,true),(6,true),(7,true),(8,false)] [] mixed (by kernel_rfl) ?_
 iterate 3 refine s1_ ?_
 refine dC (hc:=Calm.load ty_plain_5 rfl (rd_row (k:=e) own_ rw_ rw_)) (h:=?_)
 iterate 3 refine s1_ ?_
 refine dC (hc:=Calm.load ty_plain_5 rfl (rd_row (k:=a) own_ rw_ rw_)) (h:=?_)
 refine draw_only rfl ?_
 refine ca_ rfl (soB_less _ _ _) ?_
 rintro _ _ ⟨rfl,rfl⟩
 refine arun_nil ⟨fun _=>less_,?_⟩
 iterate 2 refine s1_ ?_
 refine su_ [(0,_),(1,_),(2,_),(3,_),(8,_),(9,_),(18,_)] ?_
 refine AWP.condB rfl (fun hl=>?_) (fun hl=>?_)
 ·have hl:ltN d[e]! d[a]! = true:=hl
  iterate 10 refine s1_ ?_
  refine su_ [(0,_),(1,_),(2,_),(3,_),(8,_),(9,_),(18,_)] ?_
  iterate 8 refine s1_ ?_
  refine su_ [(0,_),(1,_),(2,_),(3,_),(8,_),(9,_),(18,_)] ?_
  iterate 2 refine s1_ ?_
  refine ⟨_,_,⟨_,_,rfl,⟨_,_,rfl,rfl,rfl⟩,rfl⟩,Mem.Less.refl _,?_⟩
  exact ⟨by rw [order2,if_pos hl];rfl,by rw [order2,if_pos hl];rfl⟩
 ·have hl:ltN d[e]! d[a]! = false:=hl
  iterate 10 refine s1_ ?_
  refine su_ [(0,_),(1,_),(2,_),(3,_),(8,_),(9,_),(18,_)] ?_
  refine s1_ ?_
  refine ⟨_,_,⟨_,_,rfl,⟨_,_,rfl,rfl,rfl⟩,rfl⟩,Mem.Less.refl _,?_⟩
  exact ⟨by rw [order2,if_neg (by intro h;exact Bool.noConfusion (hl.symm.trans h))];rfl,by rw [order2,if_neg (by intro h;exact Bool.noConfusion (hl.symm.trans h))]⟩
set_option maxHeartbeats 1000000 in
theorem soB_median {S : Mem} (b room n cap : Nat) (hb : Fresh S b) (hn : n ≤ 1048576) (d : Array Nat) (R : Rw (fun _ => True) n d) (c : Nat) (hc : Fresh S c) (hcb : c ≠ b) (ia ie io : Int) (a e o k : Nat) (ea : ia = a) (ee : ie = e) (eo : io = o) (ha : a < n) (he : e < n) (ho : o < n) (hk : k ≤ 900) :
  ACall Tryz.prog 135 #[.slice (some ⟨b,0,none⟩) n cap,.int .i64 ia,.int .i64 ie,.int .i64 io,.pointer (some ⟨c,0,none⟩)] ((S.set b ⟨5,(d).toList.map encB,room⟩).set c ⟨3,[.int .i64 ((k:Nat):Int)],1⟩) fun r S'=>r = .int .i64 ((median ltN d a e o k).1:Nat)∧S'=(S.set b ⟨5,(d).toList.map encB,room⟩).set c ⟨3,[.int .i64 (((median ltN d a e o k).2:Nat):Int)],1⟩:=by
 subst ea ee eo
 obtain ⟨⟨x1,y1,k1⟩,h1⟩ : ∃ q,q=order2 ltN d a e k:=⟨_,rfl⟩
 obtain ⟨⟨x2,y2,k2⟩,h2⟩ : ∃ q,q=order2 ltN d y1 o k1:=⟨_,rfl⟩
 obtain ⟨⟨x3,y3,k3⟩,h3⟩ : ∃ q,q=order2 ltN d x1 x2 k2:=⟨_,rfl⟩
 have m1:=ord2_lt ltN h1 ha he
 have m2:=ord2_lt ltN h2 m1.2.1 ho
 have m3:=ord2_lt ltN h3 m1.1 m2.1
 have c1:=soB_order2 b room n cap hb hn d R c hc hcb a e a e k rfl rfl ha he (by omega)
 have c2:=soB_order2 b room n cap hb hn d R c hc hcb y1 o y1 o k1 rfl rfl m1.2.1 ho (by omega)
 have c3:=soB_order2 b room n cap hb hn d R c hc hcb x1 x2 x1 x2 k2 rfl rfl m1.1 m2.1 (by omega)
 have hm:median ltN d a e o k=(y3,k3):=by
  unfold median;simp only [← h1,← h2,← h3]
 rw [hm]
 rw [← h1] at c1;rw [← h2] at c2;rw [← h3] at c3
 dsimp only at c1 c2 c3 ⊢
 clear h1 h2 h3 hm
 refine ACall.enter (rs:=[.tmp 10]) 36 [(0,.slice (some ⟨b,0,none⟩) n cap),(1,.int .i64 a),(2,.int .i64 e),(3,.int .i64 o),(4,.pointer (some ⟨c,0,none⟩))] Tryz.func135 rfl rfl (Nat.le_of_ble_eq_true rfl) rfl ⟨rfl,rfl,rfl,rfl,rfl,trivial⟩ ?_
 iterate 11 refine s1_ ?_
 refine ca_ rfl (c1) ?_
 rintro _ _ ⟨rfl,rfl⟩
 iterate 7 refine s1_ ?_
 refine su_ [(0,_),(1,_),(2,_),(3,_),(4,_),(10,_)] ?_
 iterate 6 refine s1_ ?_
 refine ca_ rfl (c2) ?_
 rintro _ _ ⟨rfl,rfl⟩
 iterate 7 refine s1_ ?_
 refine su_ [(0,_),(1,_),(2,_),(3,_),(4,_),(10,_)] ?_
 iterate 6 refine s1_ ?_
 refine ca_ rfl (c3) ?_
 rintro _ _ ⟨rfl,rfl⟩
 iterate 7 refine s1_ ?_
 refine su_ [(0,_),(1,_),(2,_),(3,_),(4,_),(10,_)] ?_
 iterate 6 refine s1_ ?_
 refine su_ [(0,_),(1,_),(2,_),(3,_),(4,_),(10,_)] ?_
 refine s1_ ?_
 refine ⟨_,_,⟨_,_,rfl,rfl,rfl⟩,Mem.Less.refl _,?_⟩
 exact ⟨rfl,rfl⟩
set_option maxHeartbeats 1000000 in
theorem soB_medadj {S : Mem} (b room n cap : Nat) (hb : Fresh S b) (hn : n ≤ 1048576) (d : Array Nat) (R : Rw (fun _ => True) n d) (c : Nat) (hc : Fresh S c) (hcb : c ≠ b) (ia : Int) (a k : Nat) (ea : ia = a) (ha : 0 < a) (ha2 : a + 1 < n) (hk : k ≤ 900) :
  ACall Tryz.prog 134 #[.slice (some ⟨b,0,none⟩) n cap,.int .i64 ia,.pointer (some ⟨c,0,none⟩)] ((S.set b ⟨5,(d).toList.map encB,room⟩).set c ⟨3,[.int .i64 ((k:Nat):Int)],1⟩) fun r S'=>r = .int .i64 ((medianAdjacent ltN d a k).1:Nat)∧S'=(S.set b ⟨5,(d).toList.map encB,room⟩).set c ⟨3,[.int .i64 (((medianAdjacent ltN d a k).2:Nat):Int)],1⟩:=by
 subst ea
 obtain ⟨a,rfl⟩ : ∃ q,a=q+1:=⟨a-1,by omega⟩
 refine ACall.enter (rs:=[.tmp 6]) 15 [(0,.slice (some ⟨b,0,none⟩) n cap),(1,.int .i64 ((a+1:Nat):Int)),(2,.pointer (some ⟨c,0,none⟩))] Tryz.func134 rfl rfl (Nat.le_of_ble_eq_true rfl) rfl ⟨rfl,rfl,rfl,trivial⟩ ?_
 iterate 14 refine s1_ ?_
 refine ca_ rfl (soB_median b room n cap hb hn d R c hc hcb _ _ _ a (a+1) (a+2) k om_ rfl om_ (by omega) (by omega) (by omega) hk) ?_
 rintro _ _ ⟨rfl,rfl⟩
 iterate 3 refine s1_ ?_
 refine su_ [(0,_),(1,_),(2,_),(6,_)] ?_
 refine s1_ ?_
 refine ⟨_,_,⟨_,_,rfl,rfl,rfl⟩,Mem.Less.refl _,?_⟩
 exact ⟨rfl,rfl⟩
set_option maxHeartbeats 4000000 in
theorem soB_pivot {S : Mem} (b room n cap : Nat) (hb : Fresh S b) (hn : n ≤ 1048576) (d : Array Nat) (R : Rw (fun _ => True) n d) (ia ie : Int) (a e : Nat) (ha : ia = a) (he : ie = e) (hae : a < e) (hen : e ≤ n) :
  ACall Tryz.prog 102 #[.slice (some ⟨b,0,none⟩) n cap,.int .i64 ia,.int .i64 ie] (S.set b ⟨5,(d).toList.map encB,room⟩) fun r S'=>r = .tuple #[.int .i64 ((choosePivot ltN d a e).1:Nat),.int .i64 (hintI (choosePivot ltN d a e).2)]∧S'=S.set b ⟨5,(d).toList.map encB,room⟩∧a≤(choosePivot ltN d a e).1∧(choosePivot ltN d a e).1<e:=by
 subst ha he
 obtain ⟨L,rfl⟩ : ∃ L,e=a+L:=⟨e-a,by omega⟩
 have z:=R.size
 refine ACall.enter (rs:=[.tmp 6,.tmp 7]) 57 [(0,.slice (some ⟨b,0,none⟩) n cap),(1,.int .i64 a),(2,.int .i64 ((a+L:Nat):Int))] Tryz.func102 rfl rfl (Nat.le_of_ble_eq_true rfl) rfl ⟨rfl,rfl,rfl,trivial⟩ ?_
 by_cases h8:8≤L
 ·iterate 14 refine s1_ ?_
  refine su_ [(0,_),(1,_),(2,_),(6,_),(7,_),(8,_)] ?_
  iterate 2 refine s1_ ?_
  refine ARun.alloc (lit_lt rfl) ty_zero_3 ?_
  intro b9 f9
  have g9:=f9
  repeat ((with_reducible replace g9:=fresh_set g9);obtain ⟨g9,_⟩:=g9)
  refine nl_ ?_
  iterate 12 refine s1_ ?_
  refine su_ [(0,_),(1,_),(2,_),(6,_),(7,_),(8,_),(9,_),(10,_)] ?_
  iterate 10 refine s1_ ?_
  refine su_ [(0,_),(1,_),(2,_),(6,_),(7,_),(8,_),(9,_),(10,_),(11,_)] ?_
  iterate 10 refine s1_ ?_
  refine su_ [(0,_),(1,_),(2,_),(6,_),(7,_),(8,_),(9,_),(10,_),(11,_),(12,_)] ?_
  iterate 7 refine s1_ ?_
  refine su_ [(0,_),(1,_),(2,_),(6,_),(7,_),(8,_),(9,_),(10,_),(11,_),(12,_),(32,_)] ?_
  refine cT_ ?_
  by_cases h50:50≤L
  ·iterate 7 refine s1_ ?_
   refine su_ [(0,_),(1,_),(2,_),(6,_),(7,_),(8,_),(9,_),(10,_),(11,_),(12,_),(32,_),(34,_)] ?_
   refine cT_ ?_
   obtain ⟨⟨i1,k1⟩,q1⟩ : ∃ q,q=medianAdjacent ltN d (a+L / 4*1) 0:=⟨_,rfl⟩
   obtain ⟨⟨j1,k2⟩,q2⟩ : ∃ q,q=medianAdjacent ltN d (a+L / 4*2) k1:=⟨_,rfl⟩
   obtain ⟨⟨o1,k3⟩,q3⟩ : ∃ q,q=medianAdjacent ltN d (a+L / 4*3) k2:=⟨_,rfl⟩
   obtain ⟨⟨pv,k⟩,q4⟩ : ∃ q,q=median ltN d i1 j1 o1 k3:=⟨_,rfl⟩
   have m1:=medadj_lt ltN q1 (lo:=a) (hi:=a+L) (by omega) (by omega)
   have m2:=medadj_lt ltN q2 (lo:=a) (hi:=a+L) (by omega) (by omega)
   have m3:=medadj_lt ltN q3 (lo:=a) (hi:=a+L) (by omega) (by omega)
   have hr:=median_lt ltN q4 (lo:=a) (hi:=a+L) m1.1 m2.1 m3.1
   have n1:=m1.2;have n2:=m2.2;have n3:=m3.2;have n4:=hr.2
   have hp:choosePivot ltN d a (a+L)=(pv,if k=0 then .increasing else if k=12 then .decreasing else .unknown):=by unfold choosePivot;simp only [Nat.add_sub_cancel_left,if_pos h8,if_pos h50,← q1,← q2,← q3,← q4]
   replace hr:=hr.1
   iterate 4 refine s1_ ?_
   refine ca_ rfl ((q1 ▸ soB_medadj b room n cap hb hn d R b9 g9 (by assumption) _ (a+L / 4*1) 0 om_ (by omega) (by omega) (by omega))) ?_
   rintro _ _ ⟨rfl,rfl⟩
   iterate 3 refine s1_ ?_
   refine su_ [(0,_),(1,_),(2,_),(6,_),(7,_),(8,_),(9,_),(10,_),(11,_),(12,_),(32,_),(34,_)] ?_
   iterate 4 refine s1_ ?_
   refine ca_ rfl ((q2 ▸ soB_medadj b room n cap hb hn d R b9 g9 (by assumption) _ (a+L / 4*2) k1 om_ (by omega) (by omega) (by omega))) ?_
   rintro _ _ ⟨rfl,rfl⟩
   iterate 3 refine s1_ ?_
   refine su_ [(0,_),(1,_),(2,_),(6,_),(7,_),(8,_),(9,_),(10,_),(11,_),(12,_),(32,_),(34,_)] ?_
   iterate 3 refine s1_ ?_
   refine ca_ rfl ((q3 ▸ soB_medadj b room n cap hb hn d R b9 g9 (by assumption) _ (a+L / 4*3) k2 om_ (by omega) (by omega) (by omega))) ?_
   rintro _ _ ⟨rfl,rfl⟩
   iterate 3 refine s1_ ?_
   refine su_ [(0,_),(1,_),(2,_),(6,_),(7,_),(8,_),(9,_),(10,_),(11,_),(12,_),(32,_),(34,_)] ?_
   iterate 5 refine s1_ ?_
   refine ca_ rfl ((q4 ▸ soB_median b room n cap hb hn d R b9 g9 (by assumption) _ _ _ i1 j1 o1 k3 rfl rfl rfl (by omega) (by omega) (by omega) (by omega))) ?_
   rintro _ _ ⟨rfl,rfl⟩
   iterate 3 refine s1_ ?_
   refine su_ [(0,_),(1,_),(2,_),(6,_),(7,_),(8,_),(9,_),(10,_),(11,_),(12,_),(32,_),(34,_)] ?_
   by_cases k0:k=0
   ·subst k0
    iterate 12 refine s1_ ?_
    refine su_ [(0,_),(1,_),(2,_),(6,_),(7,_),(8,_),(9,_),(10,_),(11,_),(12,_),(32,_),(34,_),(49,_),(51,_)] ?_
    refine cT_ ?_
    iterate 7 refine s1_ ?_
    refine su_ [(0,_),(1,_),(2,_),(6,_),(7,_),(8,_),(9,_),(10,_),(11,_),(12,_),(32,_),(34,_),(49,_),(51,_)] ?_
    iterate 2 refine s1_ ?_
    refine ⟨_,S.set b ⟨5,(d).toList.map encB,room⟩,⟨_,_,rfl,⟨_,_,rfl,rfl,rfl⟩,rfl⟩,less_,?_⟩
    exact ⟨by rw [hp];rfl,rfl,by rw [hp];exact hr⟩
   ·iterate 12 refine s1_ ?_
    refine su_ [(0,_),(1,_),(2,_),(6,_),(7,_),(8,_),(9,_),(10,_),(11,_),(12,_),(32,_),(34,_),(49,_),(51,_)] ?_
    refine cF_ ?_
    by_cases k1:k=12
    ·subst k1
     iterate 6 refine s1_ ?_
     refine su_ [(0,_),(1,_),(2,_),(6,_),(7,_),(8,_),(9,_),(10,_),(11,_),(12,_),(32,_),(34,_),(49,_),(51,_),(54,_)] ?_
     refine cT_ ?_
     iterate 7 refine s1_ ?_
     refine su_ [(0,_),(1,_),(2,_),(6,_),(7,_),(8,_),(9,_),(10,_),(11,_),(12,_),(32,_),(34,_),(49,_),(51,_),(54,_)] ?_
     iterate 2 refine s1_ ?_
     refine ⟨_,S.set b ⟨5,(d).toList.map encB,room⟩,⟨_,_,rfl,⟨_,_,rfl,rfl,rfl⟩,rfl⟩,less_,?_⟩
     exact ⟨by rw [hp];rfl,rfl,by rw [hp];exact hr⟩
    ·iterate 6 refine s1_ ?_
     refine su_ [(0,_),(1,_),(2,_),(6,_),(7,_),(8,_),(9,_),(10,_),(11,_),(12,_),(32,_),(34,_),(49,_),(51,_),(54,_)] ?_
     refine cF_ ?_
     iterate 7 refine s1_ ?_
     refine su_ [(0,_),(1,_),(2,_),(6,_),(7,_),(8,_),(9,_),(10,_),(11,_),(12,_),(32,_),(34,_),(49,_),(51,_),(54,_)] ?_
     iterate 2 refine s1_ ?_
     refine ⟨_,S.set b ⟨5,(d).toList.map encB,room⟩,⟨_,_,rfl,⟨_,_,rfl,rfl,rfl⟩,rfl⟩,less_,?_⟩
     exact ⟨by rw [hp,piv_hint k0 k1];rfl,rfl,by rw [hp];exact hr⟩
  ·iterate 7 refine s1_ ?_
   refine su_ [(0,_),(1,_),(2,_),(6,_),(7,_),(8,_),(9,_),(10,_),(11,_),(12,_),(32,_),(34,_)] ?_
   refine cF_ ?_
   obtain ⟨⟨pv,k⟩,q4⟩ : ∃ q,q=median ltN d (a+L / 4*1) (a+L / 4*2) (a+L / 4*3) 0:=⟨_,rfl⟩
   have hr:=median_lt ltN q4 (lo:=a) (hi:=a+L) (by omega) (by omega) (by omega)
   have n4:=hr.2
   have hp:choosePivot ltN d a (a+L)=(pv,if k=0 then .increasing else if k=12 then .decreasing else .unknown):=by unfold choosePivot;simp only [Nat.add_sub_cancel_left,if_pos h8,if_neg h50,← q4]
   replace hr:=hr.1
   iterate 7 refine s1_ ?_
   refine ca_ rfl ((q4 ▸ soB_median b room n cap hb hn d R b9 g9 (by assumption) _ _ _ (a+L / 4*1) (a+L / 4*2) (a+L / 4*3) 0 om_ om_ om_ (by omega) (by omega) (by omega) (by omega))) ?_
   rintro _ _ ⟨rfl,rfl⟩
   iterate 3 refine s1_ ?_
   refine su_ [(0,_),(1,_),(2,_),(6,_),(7,_),(8,_),(9,_),(10,_),(11,_),(12,_),(32,_),(34,_)] ?_
   by_cases k0:k=0
   ·subst k0
    iterate 12 refine s1_ ?_
    refine su_ [(0,_),(1,_),(2,_),(6,_),(7,_),(8,_),(9,_),(10,_),(11,_),(12,_),(32,_),(34,_),(49,_),(51,_)] ?_
    refine cT_ ?_
    iterate 7 refine s1_ ?_
    refine su_ [(0,_),(1,_),(2,_),(6,_),(7,_),(8,_),(9,_),(10,_),(11,_),(12,_),(32,_),(34,_),(49,_),(51,_)] ?_
    iterate 2 refine s1_ ?_
    refine ⟨_,S.set b ⟨5,(d).toList.map encB,room⟩,⟨_,_,rfl,⟨_,_,rfl,rfl,rfl⟩,rfl⟩,less_,?_⟩
    exact ⟨by rw [hp];rfl,rfl,by rw [hp];exact hr⟩
   ·iterate 12 refine s1_ ?_
    refine su_ [(0,_),(1,_),(2,_),(6,_),(7,_),(8,_),(9,_),(10,_),(11,_),(12,_),(32,_),(34,_),(49,_),(51,_)] ?_
    refine cF_ ?_
    by_cases k1:k=12
    ·subst k1
     iterate 6 refine s1_ ?_
     refine su_ [(0,_),(1,_),(2,_),(6,_),(7,_),(8,_),(9,_),(10,_),(11,_),(12,_),(32,_),(34,_),(49,_),(51,_),(54,_)] ?_
     refine cT_ ?_
     iterate 7 refine s1_ ?_
     refine su_ [(0,_),(1,_),(2,_),(6,_),(7,_),(8,_),(9,_),(10,_),(11,_),(12,_),(32,_),(34,_),(49,_),(51,_),(54,_)] ?_
     iterate 2 refine s1_ ?_
     refine ⟨_,S.set b ⟨5,(d).toList.map encB,room⟩,⟨_,_,rfl,⟨_,_,rfl,rfl,rfl⟩,rfl⟩,less_,?_⟩
     exact ⟨by rw [hp];rfl,rfl,by rw [hp];exact hr⟩
    ·iterate 6 refine s1_ ?_
     refine su_ [(0,_),(1,_),(2,_),(6,_),(7,_),(8,_),(9,_),(10,_),(11,_),(12,_),(32,_),(34,_),(49,_),(51,_),(54,_)] ?_
     refine cF_ ?_
     iterate 7 refine s1_ ?_
     refine su_ [(0,_),(1,_),(2,_),(6,_),(7,_),(8,_),(9,_),(10,_),(11,_),(12,_),(32,_),(34,_),(49,_),(51,_),(54,_)] ?_
     iterate 2 refine s1_ ?_
     refine ⟨_,S.set b ⟨5,(d).toList.map encB,room⟩,⟨_,_,rfl,⟨_,_,rfl,rfl,rfl⟩,rfl⟩,less_,?_⟩
     exact ⟨by rw [hp,piv_hint k0 k1];rfl,rfl,by rw [hp];exact hr⟩
 ·iterate 14 refine s1_ ?_
  refine su_ [(0,_),(1,_),(2,_),(6,_),(7,_),(8,_)] ?_
  iterate 2 refine s1_ ?_
  refine ARun.alloc (lit_lt rfl) ty_zero_3 ?_
  intro b9 f9
  have g9:=f9
  repeat ((with_reducible replace g9:=fresh_set g9);obtain ⟨g9,_⟩:=g9)
  refine nl_ ?_
  iterate 12 refine s1_ ?_
  refine su_ [(0,_),(1,_),(2,_),(6,_),(7,_),(8,_),(9,_),(10,_)] ?_
  iterate 10 refine s1_ ?_
  refine su_ [(0,_),(1,_),(2,_),(6,_),(7,_),(8,_),(9,_),(10,_),(11,_)] ?_
  iterate 10 refine s1_ ?_
  refine su_ [(0,_),(1,_),(2,_),(6,_),(7,_),(8,_),(9,_),(10,_),(11,_),(12,_)] ?_
  iterate 7 refine s1_ ?_
  refine su_ [(0,_),(1,_),(2,_),(6,_),(7,_),(8,_),(9,_),(10,_),(11,_),(12,_),(32,_)] ?_
  refine cF_ ?_
  have hp:choosePivot ltN d a (a+L)=(a+L / 4*2,.increasing):=by unfold choosePivot;simp only [Nat.add_sub_cancel_left,if_neg h8];rfl
  iterate 14 refine s1_ ?_
  refine su_ [(0,_),(1,_),(2,_),(6,_),(7,_),(8,_),(9,_),(10,_),(11,_),(12,_),(32,_),(49,_),(51,_)] ?_
  refine cT_ ?_
  iterate 7 refine s1_ ?_
  refine su_ [(0,_),(1,_),(2,_),(6,_),(7,_),(8,_),(9,_),(10,_),(11,_),(12,_),(32,_),(49,_),(51,_)] ?_
  iterate 2 refine s1_ ?_
  refine ⟨_,S.set b ⟨5,(d).toList.map encB,room⟩,⟨_,_,rfl,⟨_,_,rfl,rfl,rfl⟩,rfl⟩,less_,?_⟩
  exact ⟨by rw [hp];exact piv_val om_,rfl,by rw [hp];exact ⟨by show a≤a+L / 4*2;omega,by show a+L / 4*2<a+L;omega⟩⟩
set_option maxHeartbeats 4000000 in
theorem soB_brk {S : Mem} (b room n cap : Nat) (hb : Fresh S b) (hn : n ≤ 1048576) (d : Array Nat) (R : Rw (fun _ => True) n d) (ia ie : Int) (a e : Nat) (ha : ia = a) (he : ie = e) (hae : a ≤ e) (hen : e ≤ n) :
  ACall Tryz.prog 101 #[.slice (some ⟨b,0,none⟩) n cap,.int .i64 ia,.int .i64 ie] (S.set b ⟨5,(d).toList.map encB,room⟩) fun r S'=>S'=S.set b ⟨5,(breakPatterns d a e).toList.map encB,room⟩∧Rw (fun _=>True) n (breakPatterns d a e):=by
 subst ha he
 obtain ⟨L,rfl⟩ : ∃ L,e=a+L:=⟨e-a,by omega⟩
 have z:=R.size
 by_cases h8:8≤L
 ·have hbp:=bp_eq (d:=d) (a:=a) h8
  have hmb:=bp_mod L (by omega) (by omega)
  generalize hmo:1 <<< bitsLen L=mo at *
  generalize hba:a+L / 4*2-1=ba at *
  have hoL:((UInt64.ofNat L).toNat:Nat)=L:=by rw [UInt64.toNat_ofNat'];exact Nat.mod_eq_of_lt (by omega)
  refine ACall.enter (rs:=[]) 65 [(0,.slice (some ⟨b,0,none⟩) n cap),(1,.int .i64 a),(2,.int .i64 ((a+L:Nat):Int))] Tryz.func101 rfl rfl (Nat.le_of_ble_eq_true rfl) rfl ⟨rfl,rfl,rfl,trivial⟩ ?_
  iterate 8 refine s1_ ?_
  refine su_ [(0,_),(1,_),(2,_),(6,_)] ?_
  iterate 6 refine s1_ ?_
  refine su_ [(0,_),(1,_),(2,_),(6,_),(15,_)] ?_
  refine cT_ ?_
  iterate 3 refine s1_ ?_
  refine rC (Calm.conv rfl (conv_intW Tryz.underlying3 Tryz.underlying224 (IntWalk.u64_in _ (by omega)))) ?_
  refine ARun.alloc (lit_lt rfl) ty_zero_224 ?_
  intro b7 f7
  have g7:=f7
  repeat ((with_reducible replace g7:=fresh_set g7);obtain ⟨g7,_⟩:=g7)
  refine nl_ ?_
  iterate 3 refine s1_ ?_
  refine su_ [(0,_),(1,_),(2,_),(6,_),(15,_),(7,_)] ?_
  refine AWP.less ((S.set b ⟨5,(d).toList.map encB,room⟩).set b7 (xorB (UInt64.ofNat L).toNat)) (by unfold xorB;rw [hoL,show ((a+L:Nat):Int)-(a:Int)=(L:Int) by omega];exact Mem.Less.refl _) ?_
  iterate 3 refine s1_ ?_
  refine ca_ rfl ((hmo ▸ so_pow _ L om_ (by omega) _)) ?_
  rintro _ _ ⟨rfl,rfl⟩
  iterate 3 refine s1_ ?_
  refine su_ [(0,_),(1,_),(2,_),(6,_),(15,_),(7,_),(8,_)] ?_
  iterate 11 refine s1_ ?_
  refine su_ [(0,_),(1,_),(2,_),(6,_),(15,_),(7,_),(8,_),(9,_)] ?_
  refine s1_ ?_
  refine AWP.loop (X:=Nat × UInt64 × Array Nat) (fun x=>[(0,.slice (some ⟨b,0,none⟩) n cap),(1,.int .i64 a),(6,.int .i64 L),(7,.pointer (some ⟨b7,0,none⟩)),(8,.int .u64 mo),(9,.int .i64 ((ba+(3-x.1):Nat):Int))]) (fun x=>(S.set b ⟨5,(x.2.2).toList.map encB,room⟩).set b7 (xorB (x.2.1).toNat)) (fun x=>x.1≤3∧Rw (fun _=>True) n x.2.2∧bpR a L mo ba x.1 x.2=bpR a L mo ba 3 (UInt64.ofNat L,d)) (fun x=>x.1) ((3,UInt64.ofNat L,d)) ⟨sb_,sb_,sb_,sb_,sb_,sb_,trivial⟩ (Mem.Less.refl _) (⟨Nat.le_refl _,R,rfl⟩) ?_
  rintro ⟨k,r,d1⟩ ⟨h1,R1,h3⟩
  (try dsimp only at *)
  have z1:=R1.size
  by_cases hk:0<k
  ·obtain ⟨k,rfl⟩ : ∃ q,k=q+1:=⟨k-1,by omega⟩
   iterate 13 refine s1_ ?_
   refine su_ [(0,_),(1,_),(6,_),(7,_),(8,_),(9,_),(33,_)] ?_
   refine cT_ ?_
   obtain ⟨r',hr'⟩ : ∃ r',r'=xorNext r:=⟨_,rfl⟩
   obtain ⟨o,ho⟩ : ∃ o,o=r'.toNat &&& (mo-1):=⟨_,rfl⟩
   have ho1:o≤mo-1:=by rw [ho];exact Nat.and_le_right
   have han:=and_n64 r'.toNat (mo-1) r'.toNat_lt (by omega)
   rw [← ho] at han
   iterate 6 refine s1_ ?_
   refine ca_ rfl ((hr' ▸ so_next b7 r _ (fresh_more g7 (by assumption)))) ?_
   rintro _ _ ⟨rfl,rfl⟩
   refine s1_ ?_
   refine rC (Calm.bin rfl rfl (bin_subW (sub_u64 mo (by omega) (by omega)))) ?_
   refine rC (Calm.bin rfl rfl (bin_andE han)) ?_
   iterate 4 refine s1_ ?_
   refine su_ [(0,_),(1,_),(6,_),(7,_),(8,_),(9,_),(33,_),(10,_)] ?_
   by_cases hoL2:L≤o
   ·iterate 8 refine s1_ ?_
    refine su_ [(0,_),(1,_),(6,_),(7,_),(8,_),(9,_),(33,_),(10,_),(43,_)] ?_
    refine cT_ ?_
    iterate 7 refine s1_ ?_
    refine su_ [(0,_),(1,_),(6,_),(7,_),(8,_),(9,_),(33,_),(10,_),(43,_)] ?_
    refine AWP.draw [(0,true),(1,true),(2,true),(3,true),(4,true),(5,true),(6,true),(7,true),(8,true),(9,true),(10,true),(11,true),(12,true),(13,true),(14,true),(15,true),(16,true),(17,false),(18,true),(19,false)] [17,19] mixed (by kernel_rfl) ?_
    iterate 11 refine s1_ ?_
    refine dC (hc:=Calm.load ty_plain_5 rfl (rd_row (k:=a+(o-L)) own_ rw_ rw_)) (h:=?_)
    iterate 3 refine s1_ ?_
    refine dC (hc:=Calm.load ty_plain_5 rfl (rd_row (k:=ba+(2-k)) own_ rw_ rw_)) (h:=?_)
    refine s1_ ?_
    refine draw_only rfl ?_
    refine ARun.storeRow encB (ba+(2-k)) rfl rfl ty_size_5 ⟨rfl,rfl⟩ own_ rw_ rw_ ?_
    try simp only [k_ms,k_sz,k_ss,k_za,Nat.reduceAdd]
    refine arun_nil ⟨fun h=>absurd h (by decide),?_⟩
    refine s1_ ?_
    refine draw_only rfl ?_
    refine ARun.storeRow encB (a+(o-L)) rfl rfl ty_size_5 ⟨rfl,rfl⟩ own_ rw_ rw_ ?_
    try simp only [k_ms,k_sz,k_ss,k_za,Nat.reduceAdd]
    refine arun_nil ⟨fun h=>absurd h (by decide),?_⟩
    iterate 3 refine s1_ ?_
    refine su_ [(0,_),(1,_),(6,_),(7,_),(8,_),(9,_),(33,_),(10,_),(43,_)] ?_
    iterate 6 refine s1_ ?_
    refine ⟨(k,r',swp d1 (ba+(2-k)) (a+(o-L))),?_,?_,?_,?_⟩
    all_goals (try dsimp only)
    ·exact ⟨sb_,sb_,sb_,sb_,sb_,sb_,trivial⟩
    ·rw [set_over _ _ _ _ (by first | assumption | (apply Ne.symm;assumption))];exact Mem.Less.refl _
    ·exact ⟨by omega,R1.swp _ _ (by omega) (by omega),by rw [← h3,bpR_succ,← hr',← ho,if_pos hoL2]⟩
    ·omega
   ·iterate 8 refine s1_ ?_
    refine su_ [(0,_),(1,_),(6,_),(7,_),(8,_),(9,_),(33,_),(10,_),(43,_)] ?_
    refine cF_ ?_
    iterate 2 refine s1_ ?_
    refine AWP.draw [(0,true),(1,true),(2,true),(3,true),(4,true),(5,true),(6,true),(7,true),(8,true),(9,true),(10,true),(11,true),(12,true),(13,true),(14,true),(15,true),(16,true),(17,false),(18,true),(19,false)] [17,19] mixed (by kernel_rfl) ?_
    iterate 11 refine s1_ ?_
    refine dC (hc:=Calm.load ty_plain_5 rfl (rd_row (k:=a+o) own_ rw_ rw_)) (h:=?_)
    iterate 3 refine s1_ ?_
    refine dC (hc:=Calm.load ty_plain_5 rfl (rd_row (k:=ba+(2-k)) own_ rw_ rw_)) (h:=?_)
    refine s1_ ?_
    refine draw_only rfl ?_
    refine ARun.storeRow encB (ba+(2-k)) rfl rfl ty_size_5 ⟨rfl,rfl⟩ own_ rw_ rw_ ?_
    try simp only [k_ms,k_sz,k_ss,k_za,Nat.reduceAdd]
    refine arun_nil ⟨fun h=>absurd h (by decide),?_⟩
    refine s1_ ?_
    refine draw_only rfl ?_
    refine ARun.storeRow encB (a+o) rfl rfl ty_size_5 ⟨rfl,rfl⟩ own_ rw_ rw_ ?_
    try simp only [k_ms,k_sz,k_ss,k_za,Nat.reduceAdd]
    refine arun_nil ⟨fun h=>absurd h (by decide),?_⟩
    iterate 3 refine s1_ ?_
    refine su_ [(0,_),(1,_),(6,_),(7,_),(8,_),(9,_),(33,_),(10,_),(43,_)] ?_
    iterate 6 refine s1_ ?_
    refine ⟨(k,r',swp d1 (ba+(2-k)) (a+o)),?_,?_,?_,?_⟩
    all_goals (try dsimp only)
    ·exact ⟨sb_,sb_,sb_,sb_,sb_,sb_,trivial⟩
    ·rw [set_over _ _ _ _ (by first | assumption | (apply Ne.symm;assumption))];exact Mem.Less.refl _
    ·exact ⟨by omega,R1.swp _ _ (by omega) (by omega),by rw [← h3,bpR_succ,← hr',← ho,if_neg hoL2]⟩
    ·omega
  ·obtain rfl:k=0:=by omega
   iterate 13 refine s1_ ?_
   refine su_ [(0,_),(1,_),(6,_),(7,_),(8,_),(9,_),(33,_)] ?_
   refine cF_ ?_
   iterate 4 refine s1_ ?_
   refine ⟨_,S.set b ⟨5,(d1).toList.map encB,room⟩,rfl,less_,?_⟩
   rw [hbp,← h3];exact ⟨rfl,R1⟩
 ·have hbp:breakPatterns d a (a+L)=d:=by unfold breakPatterns;simp only [Nat.add_sub_cancel_left];rw [if_neg (by omega)]
  rw [hbp]
  refine ACall.enter (rs:=[]) 65 [(0,.slice (some ⟨b,0,none⟩) n cap),(1,.int .i64 a),(2,.int .i64 ((a+L:Nat):Int))] Tryz.func101 rfl rfl (Nat.le_of_ble_eq_true rfl) rfl ⟨rfl,rfl,rfl,trivial⟩ ?_
  iterate 8 refine s1_ ?_
  refine su_ [(0,_),(1,_),(2,_),(6,_)] ?_
  iterate 6 refine s1_ ?_
  refine su_ [(0,_),(1,_),(2,_),(6,_),(15,_)] ?_
  refine cF_ ?_
  refine s1_ ?_
  refine ⟨_,_,rfl,Mem.Less.refl _,?_⟩
  exact ⟨rfl,R⟩
set_option maxHeartbeats 4000000 in
theorem soB_pins {S : Mem} (b room n cap : Nat) (hb : Fresh S b) (hn : n ≤ 1048576) (d : Array Nat) (R : Rw (fun _ => True) n d) (ia ie : Int) (a e : Nat) (ha : ia = a) (he : ie = e) (hae : a < e) (hen : e ≤ n) :
  ACall Tryz.prog 104 #[.slice (some ⟨b,0,none⟩) n cap,.int .i64 ia,.int .i64 ie] (S.set b ⟨5,(d).toList.map encB,room⟩) fun r S'=>r = .bool (partialInsertionSort ltN d a e).2∧S'=S.set b ⟨5,((partialInsertionSort ltN d a e).1).toList.map encB,room⟩∧Rw (fun _=>True) n (partialInsertionSort ltN d a e).1:=by
 subst ha he
 refine ACall.enter (rs:=[.tmp 6]) 133 [(0,.slice (some ⟨b,0,none⟩) n cap),(1,.int .i64 a),(2,.int .i64 e)] Tryz.func104 rfl rfl (Nat.le_of_ble_eq_true rfl) rfl ⟨rfl,rfl,rfl,trivial⟩ ?_
 iterate 12 refine s1_ ?_
 refine su_ [(0,_),(1,_),(2,_),(6,_),(7,_)] ?_
 iterate 7 refine s1_ ?_
 refine AWP.loop (X:=Nat × Nat × Array Nat) (fun x=>[(0,.slice (some ⟨b,0,none⟩) n cap),(1,.int .i64 a),(2,.int .i64 e),(7,.int .i64 x.2.1),(8,.int .i64 ((5-x.1:Nat):Int))]) (fun x=>S.set b ⟨5,(x.2.2).toList.map encB,room⟩) (fun x=>x.1≤5∧a+1≤x.2.1∧x.2.1≤e∧Rw (fun _=>True) n x.2.2∧partialIns ltN a e x.1 x.2.1 x.2.2=partialInsertionSort ltN d a e) (fun x=>x.1) ((5,a+1,d)) ⟨sb_,sb_,sb_,sb_,sb_,trivial⟩ (Mem.Less.refl _) (⟨Nat.le_refl _,by dsimp only;omega,by dsimp only;omega,R,rfl⟩) ?_
 rintro ⟨s,i,d1⟩ ⟨h1,h2,h4,R1,h3⟩
 (try dsimp only at *)
 have z1:=R1.size
 by_cases hs:0<s
 ·obtain ⟨s,rfl⟩ : ∃ q,s=q+1:=⟨s-1,by omega⟩
  iterate 7 refine s1_ ?_
  refine su_ [(0,_),(1,_),(2,_),(7,_),(8,_),(14,_)] ?_
  refine cT_ ?_
  iterate 5 refine s1_ ?_
  refine AWP.join (X:=Nat) (fun x=>[(0,.slice (some ⟨b,0,none⟩) n cap),(1,.int .i64 a),(2,.int .i64 e),(7,.int .i64 x),(8,.int .i64 ((5-(s+1):Nat):Int))]) (fun _=>S.set b ⟨5,(d1).toList.map encB,room⟩) (fun x=>a+1≤x∧x≤e∧x=scanSorted ltN d1 e i) ?_ ?_
  ·refine s1_ ?_
   refine AWP.loop (X:=Nat) (fun x=>[(0,.slice (some ⟨b,0,none⟩) n cap),(1,.int .i64 a),(2,.int .i64 e),(7,.int .i64 x),(8,.int .i64 ((5-(s+1):Nat):Int))]) (fun _=>S.set b ⟨5,(d1).toList.map encB,room⟩) (fun x=>a+1≤x∧x≤e∧scanSorted ltN d1 e x=scanSorted ltN d1 e i) (fun x=>e-x) (i) ⟨sb_,sb_,sb_,sb_,sb_,trivial⟩ (Mem.Less.refl _) (⟨h2,h4,rfl⟩) ?_
   rintro x ⟨q1,q2,q3⟩
   (try dsimp only at *)
   by_cases hx:x<e
   ·obtain ⟨x,rfl⟩ : ∃ q,x=q+1:=⟨x-1,by omega⟩
    iterate 2 refine s1_ ?_
    refine AWP.draw [(0,true),(1,true),(2,true),(3,true),(4,true),(5,true),(6,true),(7,true),(8,true),(9,true),(10,true),(11,true),(12,true),(13,false),(14,true),(15,true)] [] mixed (by kernel_rfl) ?_
    iterate 7 refine s1_ ?_
    first|refine k_d ?_|refine dL (hc:=Calm.load ty_plain_5 rfl (rd_row (k:=x+1) own_ rw_ rw_)) (h:=?_)
    iterate 4 refine s1_ ?_
    first|refine k_d ?_|refine dL (hc:=Calm.load ty_plain_5 rfl (rd_row (k:=x) own_ rw_ rw_)) (h:=?_)
    refine draw_only rfl ?_
    refine ARun.callG 3 true 20 rfl (lit_lt rfl) rfl (lit_lt rfl) go_75 rfl (soB_less _ _ _) ?_
    rintro _ _ ⟨rfl,rfl⟩
    refine arun_nil ⟨fun _=>less_,?_⟩
    iterate 4 refine s1_ ?_
    refine su_ [(0,_),(1,_),(2,_),(7,_),(8,_),(32,_)] ?_
    refine AWP.condB rfl (fun hl=>?_) (fun hl=>?_)
    ·have hl:=nt_ hl
     iterate 10 refine s1_ ?_
     refine ⟨x+1+1,?_,?_,?_,?_⟩
     all_goals (try dsimp only)
     ·exact ⟨sb_,sb_,sb_,sb_,sb_,trivial⟩
     ·exact Mem.Less.refl _
     ·exact ⟨by omega,by omega,(ss_go ltN hx (by rw [Nat.add_sub_cancel];exact hl)).trans q3⟩
     ·omega
    ·have hl:=nf_ hl
     iterate 4 refine s1_ ?_
     refine ⟨(x+1),?_,?_,?_⟩
     all_goals (try dsimp only)
     ·exact ⟨by omega,by omega,(ss_no ltN (by rw [Nat.add_sub_cancel];exact hl)).trans q3⟩
     ·exact ⟨sb_,sb_,sb_,sb_,sb_,trivial⟩
     ·exact Mem.Less.refl _
   ·iterate 2 refine s1_ ?_
    refine AWP.draw [(0,true),(1,true),(2,true),(3,true),(4,true),(5,true),(6,true),(7,true),(8,true),(9,true),(10,true),(11,true),(12,true),(13,false),(14,true),(15,true)] [] mixed (by kernel_rfl) ?_
    iterate 7 refine s1_ ?_
    first|refine k_d ?_|refine dL (hc:=Calm.load ty_plain_5 rfl (rd_row (k:=x+1) own_ rw_ rw_)) (h:=?_)
    iterate 4 refine s1_ ?_
    first|refine k_d ?_|refine dL (hc:=Calm.load ty_plain_5 rfl (rd_row (k:=x) own_ rw_ rw_)) (h:=?_)
    refine draw_only rfl ?_
    refine s1_ ?_
    refine arun_nil ⟨fun _=>less_,?_⟩
    iterate 4 refine s1_ ?_
    refine su_ [(0,_),(1,_),(2,_),(7,_),(8,_),(32,_)] ?_
    refine cF_ ?_
    iterate 4 refine s1_ ?_
    refine ⟨x,?_,?_,?_⟩
    all_goals (try dsimp only)
    ·exact ⟨by omega,by omega,(ss_end ltN hx).trans q3⟩
    ·exact ⟨sb_,sb_,sb_,sb_,sb_,trivial⟩
    ·exact Mem.Less.refl _
  rintro x ⟨b1,b2,hS⟩
  intro _ _ hs_ hl_
  (try dsimp only at *)
  refine athen_n ?_
  refine AWP.sub _ hs_ (AWP.less _ hl_ ?_)
  clear hs_ hl_
  by_cases hxe:x=e
  ·iterate 8 refine s1_ ?_
   refine su_ [(0,_),(1,_),(2,_),(7,_),(8,_),(37,_)] ?_
   refine cT_ ?_
   iterate 12 refine s1_ ?_
   refine ⟨_,_,⟨_,_,rfl,rfl,rfl⟩,Mem.Less.refl _,?_⟩
   exact pis_res (M:=fun x=>S.set b ⟨5,(x).toList.map encB,room⟩) ltN h3 (.inl ⟨hS ▸ hxe,rfl,rfl⟩) R1
  ·iterate 8 refine s1_ ?_
   refine su_ [(0,_),(1,_),(2,_),(7,_),(8,_),(37,_)] ?_
   refine cF_ ?_
   by_cases h50:e-a<50
   ·iterate 11 refine s1_ ?_
    refine su_ [(0,_),(1,_),(2,_),(7,_),(8,_),(37,_),(41,_)] ?_
    refine cT_ ?_
    iterate 12 refine s1_ ?_
    refine ⟨_,_,⟨_,_,rfl,rfl,rfl⟩,Mem.Less.refl _,?_⟩
    exact pis_res (M:=fun x=>S.set b ⟨5,(x).toList.map encB,room⟩) ltN h3 (.inr ⟨hS ▸ hxe,h50,rfl,rfl⟩) R1
   ·iterate 11 refine s1_ ?_
    refine su_ [(0,_),(1,_),(2,_),(7,_),(8,_),(37,_),(41,_)] ?_
    refine cF_ ?_
    obtain ⟨w,rfl⟩ : ∃ q,x=q+1:=⟨x-1,by omega⟩
    iterate 3 refine s1_ ?_
    refine AWP.draw [(0,true),(1,true),(2,true),(3,true),(4,true),(5,true),(6,true),(7,true),(8,true),(9,true),(10,true),(11,true),(12,true),(13,true),(14,true),(15,false),(16,true),(17,false)] [15,17] mixed (by kernel_rfl) ?_
    have R2:=R1.swp (w+1) w (by omega) (by omega)
    obtain ⟨d2,hd2⟩ : ∃ d2,d2=swp d1 (w+1) w:=⟨_,rfl⟩
    rw [← hd2] at R2
    iterate 9 refine s1_ ?_
    refine dC (hc:=Calm.load ty_plain_5 rfl (rd_row (k:=w) own_ rw_ rw_)) (h:=?_)
    iterate 3 refine s1_ ?_
    refine dC (hc:=Calm.load ty_plain_5 rfl (rd_row (k:=w+1) own_ rw_ rw_)) (h:=?_)
    refine s1_ ?_
    refine draw_only rfl ?_
    refine ARun.storeRow encB (w+1) rfl rfl ty_size_5 ⟨rfl,rfl⟩ own_ rw_ rw_ ?_
    try simp only [k_ms,k_sz,k_ss,k_za,Nat.reduceAdd]
    refine arun_nil ⟨fun h=>absurd h (by decide),?_⟩
    refine s1_ ?_
    refine draw_only rfl ?_
    refine ARun.storeRow encB (w) rfl rfl ty_size_5 ⟨rfl,rfl⟩ own_ rw_ rw_ ?_
    try simp only [k_ms,k_sz,k_ss,k_za,Nat.reduceAdd]
    refine arun_nil ⟨fun h=>absurd h (by decide),?_⟩
    iterate 2 refine s1_ ?_
    refine su_ [(0,_),(1,_),(2,_),(7,_),(8,_),(37,_),(41,_)] ?_
    refine AWP.less (S.set b ⟨5,(d2).toList.map encB,room⟩) (by rw [hd2];exact Mem.Less.refl _) ?_
    have z2:=R2.size
    iterate 9 refine s1_ ?_
    refine su_ [(0,_),(1,_),(2,_),(7,_),(8,_),(37,_),(41,_),(61,_)] ?_
    refine AWP.join (X:=Array Nat) (fun x=>[(0,.slice (some ⟨b,0,none⟩) n cap),(1,.int .i64 a),(2,.int .i64 e),(7,.int .i64 ((w+1:Nat):Int)),(8,.int .i64 ((5-(s+1):Nat):Int))]) (fun x=>S.set b ⟨5,(x).toList.map encB,room⟩) (fun x=>Rw (fun _=>True) n x∧x=(if w+1-a ≥ 2 then shiftDown ltN w d2 else d2)) ?_ ?_
    ·by_cases hw:2≤w+1-a
     ·refine cT_ ?_
      iterate 7 refine s1_ ?_
      refine su_ [(0,_),(1,_),(2,_),(7,_),(8,_),(37,_),(41,_),(61,_),(9,_)] ?_
      refine s1_ ?_
      refine AWP.loop (X:=Nat × Array Nat) (fun x=>[(0,.slice (some ⟨b,0,none⟩) n cap),(1,.int .i64 a),(2,.int .i64 e),(7,.int .i64 ((w+1:Nat):Int)),(8,.int .i64 ((5-(s+1):Nat):Int)),(9,.int .i64 x.1)]) (fun x=>S.set b ⟨5,(x.2).toList.map encB,room⟩) (fun x=>x.1≤w∧Rw (fun _=>True) n x.2∧shiftDown ltN x.1 x.2=shiftDown ltN w d2) (fun x=>x.1) ((w,d2)) ⟨sb_,sb_,sb_,sb_,sb_,sb_,trivial⟩ (Mem.Less.refl _) (⟨Nat.le_refl _,R2,rfl⟩) ?_
      rintro ⟨j,d3⟩ ⟨k1,R3,k3⟩
      (try dsimp only at *)
      have z3:=R3.size
      by_cases hj:0<j
      ·obtain ⟨j,rfl⟩ : ∃ q,j=q+1:=⟨j-1,by omega⟩
       iterate 7 refine s1_ ?_
       refine su_ [(0,_),(1,_),(2,_),(7,_),(8,_),(9,_),(65,_)] ?_
       refine cT_ ?_
       iterate 6 refine s1_ ?_
       refine AWP.draw [(0,true),(1,true),(2,true),(3,true),(4,true),(5,true),(6,true),(7,true),(8,true),(9,false),(10,true)] [] mixed (by kernel_rfl) ?_
       iterate 3 refine s1_ ?_
       refine dC (hc:=Calm.load ty_plain_5 rfl (rd_row (k:=j+1) own_ rw_ rw_)) (h:=?_)
       iterate 4 refine s1_ ?_
       refine dC (hc:=Calm.load ty_plain_5 rfl (rd_row (k:=j) own_ rw_ rw_)) (h:=?_)
       refine draw_only rfl ?_
       refine ca_ rfl (soB_less _ _ _) ?_
       rintro _ _ ⟨rfl,rfl⟩
       refine arun_nil ⟨fun _=>less_,?_⟩
       iterate 3 refine s1_ ?_
       refine su_ [(0,_),(1,_),(2,_),(7,_),(8,_),(9,_),(65,_),(78,_)] ?_
       refine AWP.condB rfl (fun hl=>?_) (fun hl=>?_)
       ·have hl:=nt_ hl
        iterate 6 refine s1_ ?_
        refine ⟨d3,?_,?_,?_⟩
        all_goals (try dsimp only)
        ·exact ⟨R3,by rw [if_pos hw,← k3,← sd_no ltN hl]⟩
        ·exact ⟨sb_,sb_,sb_,sb_,sb_,trivial⟩
        ·exact Mem.Less.refl _
       ·have hl:=nf_ hl
        iterate 2 refine s1_ ?_
        refine AWP.draw [(0,true),(1,true),(2,true),(3,true),(4,true),(5,true),(6,true),(7,true),(8,true),(9,true),(10,true),(11,true),(12,true),(13,true),(14,true),(15,false),(16,true),(17,false)] [15,17] mixed (by kernel_rfl) ?_
        iterate 9 refine s1_ ?_
        refine dC (hc:=Calm.load ty_plain_5 rfl (rd_row (k:=j) own_ rw_ rw_)) (h:=?_)
        iterate 3 refine s1_ ?_
        refine dC (hc:=Calm.load ty_plain_5 rfl (rd_row (k:=j+1) own_ rw_ rw_)) (h:=?_)
        refine s1_ ?_
        refine draw_only rfl ?_
        refine ARun.storeRow encB (j+1) rfl rfl ty_size_5 ⟨rfl,rfl⟩ own_ rw_ rw_ ?_
        try simp only [k_ms,k_sz,k_ss,k_za,Nat.reduceAdd]
        refine arun_nil ⟨fun h=>absurd h (by decide),?_⟩
        refine s1_ ?_
        refine draw_only rfl ?_
        refine ARun.storeRow encB (j) rfl rfl ty_size_5 ⟨rfl,rfl⟩ own_ rw_ rw_ ?_
        try simp only [k_ms,k_sz,k_ss,k_za,Nat.reduceAdd]
        refine arun_nil ⟨fun h=>absurd h (by decide),?_⟩
        iterate 3 refine s1_ ?_
        refine su_ [(0,_),(1,_),(2,_),(7,_),(8,_),(9,_),(65,_),(78,_)] ?_
        iterate 6 refine s1_ ?_
        refine ⟨(j,swp d3 (j+1) j),?_,?_,?_,?_⟩
        all_goals (try dsimp only)
        ·exact ⟨sb_,sb_,sb_,sb_,sb_,sb_,trivial⟩
        ·exact Mem.Less.refl _
        ·exact ⟨by omega,R3.swp _ _ (by omega) (by omega),(sd_go ltN hl).trans k3⟩
        ·omega
      ·obtain rfl:j=0:=by omega
       iterate 7 refine s1_ ?_
       refine su_ [(0,_),(1,_),(2,_),(7,_),(8,_),(9,_),(65,_)] ?_
       refine cF_ ?_
       iterate 4 refine s1_ ?_
       refine ⟨d3,?_,?_,?_⟩
       all_goals (try dsimp only)
       ·exact ⟨R3,by rw [if_pos hw,← k3];rfl⟩
       ·exact ⟨sb_,sb_,sb_,sb_,sb_,trivial⟩
       ·exact Mem.Less.refl _
     ·refine cF_ ?_
      refine s1_ ?_
      refine ⟨d2,?_,?_,?_⟩
      all_goals (try dsimp only)
      ·exact ⟨R2,by rw [if_neg hw]⟩
      ·exact ⟨sb_,sb_,sb_,sb_,sb_,trivial⟩
      ·exact Mem.Less.refl _
    rintro d3 ⟨R3,hd3⟩
    intro _ _ hs_ hl_
    (try dsimp only at *)
    refine athen_n ?_
    refine AWP.sub _ hs_ (AWP.less _ hl_ ?_)
    clear hs_ hl_
    have z3:=R3.size
    iterate 8 refine s1_ ?_
    refine su_ [(0,_),(1,_),(2,_),(7,_),(8,_),(98,_)] ?_
    refine AWP.join (X:=Array Nat) (fun x=>[(0,.slice (some ⟨b,0,none⟩) n cap),(1,.int .i64 a),(2,.int .i64 e),(7,.int .i64 ((w+1:Nat):Int)),(8,.int .i64 ((5-(s+1):Nat):Int))]) (fun x=>S.set b ⟨5,(x).toList.map encB,room⟩) (fun x=>Rw (fun _=>True) n x∧x=(if e-(w+1) ≥ 2 then shiftUp ltN e (w+1+1) d3 else d3)) ?_ ?_
    ·by_cases hw:2≤e-(w+1)
     ·refine cT_ ?_
      iterate 7 refine s1_ ?_
      refine su_ [(0,_),(1,_),(2,_),(7,_),(8,_),(98,_),(10,_)] ?_
      refine s1_ ?_
      refine AWP.loop (X:=Nat × Array Nat) (fun x=>[(0,.slice (some ⟨b,0,none⟩) n cap),(1,.int .i64 a),(2,.int .i64 e),(7,.int .i64 ((w+1:Nat):Int)),(8,.int .i64 ((5-(s+1):Nat):Int)),(10,.int .i64 x.1)]) (fun x=>S.set b ⟨5,(x.2).toList.map encB,room⟩) (fun x=>w+1+1≤x.1∧x.1≤e∧Rw (fun _=>True) n x.2∧shiftUp ltN e x.1 x.2=shiftUp ltN e (w+1+1) d3) (fun x=>e-x.1) ((w+1+1,d3)) ⟨sb_,sb_,sb_,sb_,sb_,sb_,trivial⟩ (Mem.Less.refl _) (⟨Nat.le_refl _,by dsimp only;omega,R3,rfl⟩) ?_
      rintro ⟨j,d4⟩ ⟨k1,k2,R4,k3⟩
      (try dsimp only at *)
      have z4:=R4.size
      by_cases hj:j<e
      ·obtain ⟨j,rfl⟩ : ∃ q,j=q+1:=⟨j-1,by omega⟩
       iterate 8 refine s1_ ?_
       refine su_ [(0,_),(1,_),(2,_),(7,_),(8,_),(10,_),(103,_)] ?_
       refine cT_ ?_
       iterate 6 refine s1_ ?_
       refine AWP.draw [(0,true),(1,true),(2,true),(3,true),(4,true),(5,true),(6,true),(7,true),(8,true),(9,false),(10,true)] [] mixed (by kernel_rfl) ?_
       iterate 3 refine s1_ ?_
       refine dC (hc:=Calm.load ty_plain_5 rfl (rd_row (k:=j+1) own_ rw_ rw_)) (h:=?_)
       iterate 4 refine s1_ ?_
       refine dC (hc:=Calm.load ty_plain_5 rfl (rd_row (k:=j) own_ rw_ rw_)) (h:=?_)
       refine draw_only rfl ?_
       refine ca_ rfl (soB_less _ _ _) ?_
       rintro _ _ ⟨rfl,rfl⟩
       refine arun_nil ⟨fun _=>less_,?_⟩
       iterate 3 refine s1_ ?_
       refine su_ [(0,_),(1,_),(2,_),(7,_),(8,_),(10,_),(103,_),(116,_)] ?_
       refine AWP.condB rfl (fun hl=>?_) (fun hl=>?_)
       ·have hl:=nt_ hl
        iterate 6 refine s1_ ?_
        refine ⟨d4,?_,?_,?_⟩
        all_goals (try dsimp only)
        ·exact ⟨R4,by rw [if_pos hw,← k3,← su_no ltN (by rw [Nat.add_sub_cancel];exact hl)]⟩
        ·exact ⟨sb_,sb_,sb_,sb_,sb_,trivial⟩
        ·exact Mem.Less.refl _
       ·have hl:=nf_ hl
        iterate 2 refine s1_ ?_
        refine AWP.draw [(0,true),(1,true),(2,true),(3,true),(4,true),(5,true),(6,true),(7,true),(8,true),(9,true),(10,true),(11,true),(12,true),(13,true),(14,true),(15,false),(16,true),(17,false)] [15,17] mixed (by kernel_rfl) ?_
        iterate 9 refine s1_ ?_
        refine dC (hc:=Calm.load ty_plain_5 rfl (rd_row (k:=j) own_ rw_ rw_)) (h:=?_)
        iterate 3 refine s1_ ?_
        refine dC (hc:=Calm.load ty_plain_5 rfl (rd_row (k:=j+1) own_ rw_ rw_)) (h:=?_)
        refine s1_ ?_
        refine draw_only rfl ?_
        refine ARun.storeRow encB (j+1) rfl rfl ty_size_5 ⟨rfl,rfl⟩ own_ rw_ rw_ ?_
        try simp only [k_ms,k_sz,k_ss,k_za,Nat.reduceAdd]
        refine arun_nil ⟨fun h=>absurd h (by decide),?_⟩
        refine s1_ ?_
        refine draw_only rfl ?_
        refine ARun.storeRow encB (j) rfl rfl ty_size_5 ⟨rfl,rfl⟩ own_ rw_ rw_ ?_
        try simp only [k_ms,k_sz,k_ss,k_za,Nat.reduceAdd]
        refine arun_nil ⟨fun h=>absurd h (by decide),?_⟩
        iterate 3 refine s1_ ?_
        refine su_ [(0,_),(1,_),(2,_),(7,_),(8,_),(10,_),(103,_),(116,_)] ?_
        iterate 6 refine s1_ ?_
        refine ⟨(j+1+1,swp d4 (j+1) j),?_,?_,?_,?_⟩
        all_goals (try dsimp only)
        ·exact ⟨sb_,sb_,sb_,sb_,sb_,sb_,trivial⟩
        ·exact Mem.Less.refl _
        ·exact ⟨by omega,by omega,R4.swp _ _ (by omega) (by omega),(su_go ltN (j:=j+1) hj (by rw [Nat.add_sub_cancel];exact hl)).trans k3⟩
        ·omega
      ·iterate 8 refine s1_ ?_
       refine su_ [(0,_),(1,_),(2,_),(7,_),(8,_),(10,_),(103,_)] ?_
       refine cF_ ?_
       iterate 4 refine s1_ ?_
       refine ⟨d4,?_,?_,?_⟩
       all_goals (try dsimp only)
       ·exact ⟨R4,by rw [if_pos hw,← k3,← su_end ltN hj]⟩
       ·exact ⟨sb_,sb_,sb_,sb_,sb_,trivial⟩
       ·exact Mem.Less.refl _
     ·refine cF_ ?_
      refine s1_ ?_
      refine ⟨d3,?_,?_,?_⟩
      all_goals (try dsimp only)
      ·exact ⟨R3,by rw [if_neg hw]⟩
      ·exact ⟨sb_,sb_,sb_,sb_,sb_,trivial⟩
      ·exact Mem.Less.refl _
    rintro d4 ⟨R4,hd4⟩
    intro _ _ hs_ hl_
    (try dsimp only at *)
    refine ain_n ?_
    refine athen_n ?_
    refine AWP.sub _ hs_ (AWP.less _ hl_ ?_)
    clear hs_ hl_
    iterate 6 refine s1_ ?_
    refine ⟨(s,w+1,d4),?_,?_,?_,?_⟩
    all_goals (try dsimp only)
    ·exact ⟨sb_,sb_,sb_,sb_,sb_,trivial⟩
    ·exact Mem.Less.refl _
    ·exact ⟨by omega,by omega,by omega,R4,(pi_step ltN hS (by omega) h50 hd2 hd3 hd4).trans h3⟩
    ·omega
 ·obtain rfl:s=0:=by omega
  iterate 7 refine s1_ ?_
  refine su_ [(0,_),(1,_),(2,_),(7,_),(8,_),(14,_)] ?_
  refine cF_ ?_
  iterate 11 refine s1_ ?_
  refine ⟨_,_,⟨_,_,rfl,rfl,rfl⟩,Mem.Less.refl _,?_⟩
  rw [← h3];exact ⟨rfl,rfl,R1⟩
end Go.Proofs.YtckloanlkpchoaaGreatDoor
