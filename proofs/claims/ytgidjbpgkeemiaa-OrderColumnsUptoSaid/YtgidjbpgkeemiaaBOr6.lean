/-
  Texts that belong together: Sort2OB, Sort3OB, OdFB, OrdMath2, Od7.
-/
import Derived.Test.YtgidjbpgkeemiaaBOr5
set_option linter.unusedVariables false
set_option linter.unusedSimpArgs false
set_option linter.unusedSectionVars false
namespace Go.Proofs.Ytgidjbpgkeemiaa
open Go.RowKit
open Mv Srt
open Go.Sort (swp insInner insOuter insertionSort siftDown heapBuild heapPop heapSort scanUp scanDown partLoop partition partEqLoop partitionEqual scanSorted shiftDown shiftUp partialIns partialInsertionSort order2 median medianAdjacent choosePivot reverseLoop reverseRange breakStep breakPatterns pdq bitsLen xorNext Hint)
set_option maxRecDepth 4000
set_option maxHeartbeats 4000000 in
theorem soB_rev {S : Mem} (b room n cap : Nat) (hb : Fresh S b) (hn : n ≤ 1048576) (d : Array Nat) (R : Rw (fun _ => True) n d) (ia ie : Int) (a e : Nat) (ha : ia = a) (he : ie = e) (hae : a < e) (hen : e ≤ n) :
  ACall Try.prog 195 #[.slice (some ⟨b,0,none⟩) n cap,.int .i64 ia,.int .i64 ie] (S.set b ⟨5,(d).toList.map encB,room⟩) fun r S'=>S'=S.set b ⟨5,(reverseRange d a e).toList.map encB,room⟩∧Rw (fun _=>True) n (reverseRange d a e):=by
 subst ha he
 refine ACall.enter (rs:=[]) 32 [(0,.slice (some ⟨b,0,none⟩) n cap),(1,.int .i64 a),(2,.int .i64 e)] Try.func195 rfl rfl (Nat.le_of_ble_eq_true rfl) rfl ⟨rfl,rfl,rfl,trivial⟩ ?_
 refine k_a (k_m rfl (k_e rfl ?_))
 refine k_u [(0,_),(1,_),(2,_),(6,_)] ?_
 refine k_a (k_m rfl ?_)
 refine rC (Calm.bin rfl rfl b_sub_i64) ?_
 refine k_e rfl ?_
 refine k_u [(0,_),(1,_),(2,_),(6,_),(7,_)] ?_
 refine AWP.block ?_
 refine AWP.loop (X:=Nat × Nat × Array Nat) (fun x=>[(0,.slice (some ⟨b,0,none⟩) n cap),(6,.int .i64 x.1),(7,.int .i64 x.2.1)]) (fun x=>S.set b ⟨5,(x.2.2).toList.map encB,room⟩) (fun x=>x.1≤n∧x.2.1<e∧Rw (fun _=>True) n x.2.2∧reverseLoop x.1 x.2.1 x.2.2=reverseRange d a e) (fun x=>x.2.1) ((a,e-1,d)) ⟨sb_,sb_,sb_,trivial⟩ (Mem.Less.refl _) (⟨by dsimp only;omega,by dsimp only;omega,R,rfl⟩) ?_
 rintro ⟨i,j,d1⟩ ⟨h1,h2,R1,h3⟩
 (try dsimp only at *)
 have z1:=R1.size
 by_cases hij:i<j
 ·refine AWP.seq (k_a (k_m rfl (k_m rfl ?_)))
  refine rC (Calm.bin rfl rfl b_lss) ?_
  refine k_n ?_
  refine k_u [(0,_),(6,_),(7,_),(13,_)] ?_
  refine k_T rfl ?_
  refine k_k ?_
  refine AWP.block ?_
  refine AWP.seq ?_
  refine AWP.draw [(0,true),(1,true),(2,true),(3,true),(4,true),(5,true),(6,true),(7,true),(8,true),(9,true),(10,true),(11,true),(12,true),(13,false),(14,true),(15,false)] [13,15] mixed (by kernel_rfl) ?_
  refine dP (hc:=fun _=>Calm.move rfl) (h:=?_)
  refine dP (hc:=fun _=>Calm.move rfl) (h:=?_)
  refine dP (hc:=fun _=>Calm.move rfl) (h:=?_)
  refine dP (hc:=fun _=>Calm.move rfl) (h:=?_)
  refine dP (hc:=fun _=>Calm.move rfl) (h:=?_)
  refine dP (hc:=fun _=>Calm.move rfl) (h:=?_)
  refine dP (hc:=fun _=>Calm.indexS Try.underlying107 ty_size_5 rfl rfl (by omega) (by omega)) (h:=?_)
  refine dC (hc:=Calm.load ty_plain_5 rfl (rd_row (k:=j) own_ rw_ rw_)) (h:=?_)
  refine dP (hc:=fun _=>Calm.move rfl) (h:=?_)
  refine dP (hc:=fun _=>Calm.move rfl) (h:=?_)
  refine dP (hc:=fun _=>Calm.indexS Try.underlying107 ty_size_5 rfl rfl (by omega) (by omega)) (h:=?_)
  refine dC (hc:=Calm.load ty_plain_5 rfl (rd_row (k:=i) own_ rw_ rw_)) (h:=?_)
  refine dP (hc:=fun _=>Calm.indexS Try.underlying107 ty_size_5 rfl rfl (by omega) (by omega)) (h:=?_)
  refine draw_only rfl ?_
  refine ARun.storeRow encB (i) rfl rfl ty_size_5 ⟨rfl,rfl⟩ own_ rw_ rw_ ?_
  try simp only [k_ms,k_sz,k_ss,k_za,Nat.reduceAdd]
  refine arun_nil ⟨fun h=>absurd h (by decide),?_⟩
  refine dP (hc:=fun _=>Calm.indexS Try.underlying107 ty_size_5 rfl rfl (by omega) (by omega)) (h:=?_)
  refine draw_only rfl ?_
  refine ARun.storeRow encB (j) rfl rfl ty_size_5 ⟨rfl,rfl⟩ own_ rw_ rw_ ?_
  try simp only [k_ms,k_sz,k_ss,k_za,Nat.reduceAdd]
  refine arun_nil ⟨fun h=>absurd h (by decide),?_⟩
  refine draw_nil ?_
  refine athen_n ?_
  refine k_u [(0,_),(6,_),(7,_),(13,_)] ?_
  refine k_a (k_m rfl ?_)
  refine rC (Calm.bin rfl rfl b_add_i64) ?_
  refine k_e rfl ?_
  refine k_u [(0,_),(6,_),(7,_),(13,_)] ?_
  refine AWP.region ?_
  refine k_m rfl ?_
  refine rC (Calm.bin rfl rfl b_sub_i64) ?_
  refine k_s rfl ?_
  refine arun_nil ?_
  refine ain_n ?_
  refine athen_n ?_
  refine ⟨(i+1,j-1,swp d1 i j),?_,?_,?_,?_⟩
  all_goals (try dsimp only)
  ·exact ⟨sb_,sb_,sb_,trivial⟩
  ·exact Mem.Less.refl _
  ·exact ⟨by omega,by omega,R1.swp _ _ (by omega) (by omega),(rev_go hij).trans h3⟩
  ·omega
 ·refine AWP.seq (k_a (k_m rfl (k_m rfl ?_)))
  refine rC (Calm.bin rfl rfl b_lss) ?_
  refine k_n ?_
  refine k_u [(0,_),(6,_),(7,_),(13,_)] ?_
  refine k_F rfl ?_
  refine AWP.exit ?_
  refine athen_exit ?_
  refine athen_exit ?_
  refine ain_same ?_
  refine ⟨_,_,rfl,Mem.Less.refl _,?_⟩
  rw [← h3,← rev_end hij];exact ⟨rfl,R1⟩
set_option maxHeartbeats 1000000 in
theorem soB_order2 {S : Mem} (b room n cap : Nat) (hb : Fresh S b) (hn : n ≤ 1048576) (d : Array Nat) (R : Rw (fun _ => True) n d) (c : Nat) (hc : Fresh S c) (hcb : c ≠ b) (ia ie : Int) (a e k : Nat) (ea : ia = a) (ee : ie = e) (ha : a < n) (he : e < n) (hk : k ≤ 1000) :
  ACall Try.prog 212 #[.slice (some ⟨b,0,none⟩) n cap,.int .i64 ia,.int .i64 ie,.pointer (some ⟨c,0,none⟩)] ((S.set b ⟨5,(d).toList.map encB,room⟩).set c ⟨3,[.int .i64 ((k:Nat):Int)],1⟩) fun r S'=>r = .tuple #[.int .i64 ((order2 ltN d a e k).1:Nat),.int .i64 ((order2 ltN d a e k).2.1:Nat)]∧S'=(S.set b ⟨5,(d).toList.map encB,room⟩).set c ⟨3,[.int .i64 (((order2 ltN d a e k).2.2:Nat):Int)],1⟩:=by
 subst ea ee
 have z:=R.size
 refine ACall.enter (rs:=[.tmp 8,.tmp 9]) 28 [(0,.slice (some ⟨b,0,none⟩) n cap),(1,.int .i64 a),(2,.int .i64 e),(3,.pointer (some ⟨c,0,none⟩))] Try.func212 rfl rfl (Nat.le_of_ble_eq_true rfl) rfl ⟨rfl,rfl,rfl,rfl,trivial⟩ ?_
 refine k_a (k_s rfl (k_e rfl (AWP.seq (AWP.seq ?_))))
 refine AWP.draw [(0,true),(1,true),(2,true),(3,true),(4,true),(5,true),(6,true),(7,true),(8,false)] [] mixed (by kernel_rfl) ?_
 refine dP (hc:=fun _=>Calm.move rfl) (h:=?_)
 refine dP (hc:=fun _=>Calm.move rfl) (h:=?_)
 refine dP (hc:=fun _=>Calm.indexS Try.underlying107 ty_size_5 rfl rfl (by omega) (by omega)) (h:=?_)
 refine dC (hc:=Calm.load ty_plain_5 rfl (rd_row (k:=e) own_ rw_ rw_)) (h:=?_)
 refine dP (hc:=fun _=>Calm.move rfl) (h:=?_)
 refine dP (hc:=fun _=>Calm.move rfl) (h:=?_)
 refine dP (hc:=fun _=>Calm.indexS Try.underlying107 ty_size_5 rfl rfl (by omega) (by omega)) (h:=?_)
 refine dC (hc:=Calm.load ty_plain_5 rfl (rd_row (k:=a) own_ rw_ rw_)) (h:=?_)
 refine draw_only rfl ?_
 refine ARun.call (lit_lt rfl) go_165 rfl (soB_less _ _ _) ?_
 rintro _ _ ⟨rfl,rfl⟩
 refine arun_nil ⟨fun _=>less_,?_⟩
 refine draw_nil ?_
 refine athen_n ?_
 refine k_u [(0,_),(1,_),(2,_),(3,_),(8,_),(9,_),(18,_)] ?_
 refine AWP.condB rfl (fun hl=>?_) (fun hl=>?_)
 ·have hl:ltN d[e]! d[a]! = true:=hl
  refine k_a (k_m rfl ?_)
  refine rC (Calm.nilCheck rfl) ?_
  refine rC (ld_ ty_plain_3 rfl) ?_
  refine rC (Calm.bin rfl rfl b_add_i64) ?_
  refine rC (Calm.nilCheck rfl) ?_
  refine ARun.store1 rfl rfl ty_size_3 rfl own_ lens_ rfl ?_
  try simp only [k_ms,k_sz,k_ss,k_za,Nat.reduceAdd]
  refine k_n ?_
  refine k_u [(0,_),(1,_),(2,_),(3,_),(8,_),(9,_),(18,_)] ?_
  refine k_a (k_m rfl (k_m rfl (k_s rfl (k_e rfl ?_))))
  refine k_u [(0,_),(1,_),(2,_),(3,_),(8,_),(9,_),(18,_)] ?_
  refine k_r ?_
  refine ⟨_,_,⟨_,_,rfl,⟨_,_,rfl,rfl,rfl⟩,rfl⟩,Mem.Less.refl _,?_⟩
  exact ⟨by rw [order2,if_pos hl];rfl,by rw [order2,if_pos hl];rfl⟩
 ·have hl:ltN d[e]! d[a]! = false:=hl
  refine k_k (k_a (k_m rfl (k_m rfl (k_s rfl ?_))))
  refine k_e rfl ?_
  refine k_u [(0,_),(1,_),(2,_),(3,_),(8,_),(9,_),(18,_)] ?_
  refine AWP.ret ?_
  refine ⟨_,_,⟨_,_,rfl,⟨_,_,rfl,rfl,rfl⟩,rfl⟩,Mem.Less.refl _,?_⟩
  exact ⟨by rw [order2,if_neg (by intro h;exact Bool.noConfusion (hl.symm.trans h))];rfl,by rw [order2,if_neg (by intro h;exact Bool.noConfusion (hl.symm.trans h))]⟩
set_option maxHeartbeats 1000000 in
theorem soB_median {S : Mem} (b room n cap : Nat) (hb : Fresh S b) (hn : n ≤ 1048576) (d : Array Nat) (R : Rw (fun _ => True) n d) (c : Nat) (hc : Fresh S c) (hcb : c ≠ b) (ia ie io : Int) (a e o k : Nat) (ea : ia = a) (ee : ie = e) (eo : io = o) (ha : a < n) (he : e < n) (ho : o < n) (hk : k ≤ 900) :
  ACall Try.prog 209 #[.slice (some ⟨b,0,none⟩) n cap,.int .i64 ia,.int .i64 ie,.int .i64 io,.pointer (some ⟨c,0,none⟩)] ((S.set b ⟨5,(d).toList.map encB,room⟩).set c ⟨3,[.int .i64 ((k:Nat):Int)],1⟩) fun r S'=>r = .int .i64 ((median ltN d a e o k).1:Nat)∧S'=(S.set b ⟨5,(d).toList.map encB,room⟩).set c ⟨3,[.int .i64 (((median ltN d a e o k).2:Nat):Int)],1⟩:=by
 subst ea ee eo
 obtain ⟨⟨x1,y1,k1⟩,h1⟩ : ∃ q,q=order2 ltN d a e k:=⟨_,rfl⟩
 obtain ⟨⟨x2,y2,k2⟩,h2⟩ : ∃ q,q=order2 ltN d y1 o k1:=⟨_,rfl⟩
 obtain ⟨⟨x3,y3,k3⟩,h3⟩ : ∃ q,q=order2 ltN d x1 x2 k2:=⟨_,rfl⟩
 have m1:=ord2_lt ltN h1 ha he
 have m2:=ord2_lt ltN h2 m1.2.1 ho
 have m3:=ord2_lt ltN h3 m1.1 m2.1
 have c1:=soB_order2 b room n cap hb hn d R c hc hcb a e a e k rfl rfl ha he (by omega)
 have c2:=soB_order2 b room n cap hb hn d R c hc hcb y1 o y1 o k1 rfl rfl m1.2.1 ho (by omega)
 have c3:=soB_order2 b room n cap hb hn d R c hc hcb x1 x2 x1 x2 k2 rfl rfl m1.1 m2.1 (by omega)
 have hm:median ltN d a e o k=(y3,k3):=by
  unfold median;simp only [← h1,← h2,← h3]
 rw [hm]
 rw [← h1] at c1;rw [← h2] at c2;rw [← h3] at c3
 dsimp only at c1 c2 c3 ⊢
 clear h1 h2 h3 hm
 refine ACall.enter (rs:=[.tmp 10]) 36 [(0,.slice (some ⟨b,0,none⟩) n cap),(1,.int .i64 a),(2,.int .i64 e),(3,.int .i64 o),(4,.pointer (some ⟨c,0,none⟩))] Try.func209 rfl rfl (Nat.le_of_ble_eq_true rfl) rfl ⟨rfl,rfl,rfl,rfl,rfl,trivial⟩ ?_
 refine k_a (k_e rfl (k_a (k_m rfl (k_m rfl ?_))))
 refine k_m rfl (k_m rfl ?_)
 refine ARun.call (lit_lt rfl) go_212 rfl (c1) ?_
 rintro _ _ ⟨rfl,rfl⟩
 refine k_m rfl ?_
 refine rC (Calm.extract rfl rfl) ?_
 refine rC (Calm.extract rfl rfl) ?_
 refine k_s rfl (k_e rfl ?_)
 refine k_u [(0,_),(1,_),(2,_),(3,_),(4,_),(10,_)] ?_
 refine k_a (k_m rfl (k_m rfl (k_m rfl (k_m rfl ?_))))
 refine ARun.call (lit_lt rfl) go_212 rfl (c2) ?_
 rintro _ _ ⟨rfl,rfl⟩
 refine k_m rfl ?_
 refine rC (Calm.extract rfl rfl) ?_
 refine rC (Calm.extract rfl rfl) ?_
 refine k_s rfl (k_e rfl ?_)
 refine k_u [(0,_),(1,_),(2,_),(3,_),(4,_),(10,_)] ?_
 refine k_a (k_m rfl (k_m rfl (k_m rfl (k_m rfl ?_))))
 refine ARun.call (lit_lt rfl) go_212 rfl (c3) ?_
 rintro _ _ ⟨rfl,rfl⟩
 refine k_m rfl ?_
 refine rC (Calm.extract rfl rfl) ?_
 refine rC (Calm.extract rfl rfl) ?_
 refine k_s rfl (k_e rfl ?_)
 refine k_u [(0,_),(1,_),(2,_),(3,_),(4,_),(10,_)] ?_
 refine k_a (k_m rfl (k_e rfl ?_))
 refine k_u [(0,_),(1,_),(2,_),(3,_),(4,_),(10,_)] ?_
 refine AWP.ret ?_
 refine ⟨_,_,⟨_,_,rfl,rfl,rfl⟩,Mem.Less.refl _,?_⟩
 exact ⟨rfl,rfl⟩
set_option maxHeartbeats 1000000 in
theorem soB_medadj {S : Mem} (b room n cap : Nat) (hb : Fresh S b) (hn : n ≤ 1048576) (d : Array Nat) (R : Rw (fun _ => True) n d) (c : Nat) (hc : Fresh S c) (hcb : c ≠ b) (ia : Int) (a k : Nat) (ea : ia = a) (ha : 0 < a) (ha2 : a + 1 < n) (hk : k ≤ 900) :
  ACall Try.prog 208 #[.slice (some ⟨b,0,none⟩) n cap,.int .i64 ia,.pointer (some ⟨c,0,none⟩)] ((S.set b ⟨5,(d).toList.map encB,room⟩).set c ⟨3,[.int .i64 ((k:Nat):Int)],1⟩) fun r S'=>r = .int .i64 ((medianAdjacent ltN d a k).1:Nat)∧S'=(S.set b ⟨5,(d).toList.map encB,room⟩).set c ⟨3,[.int .i64 (((medianAdjacent ltN d a k).2:Nat):Int)],1⟩:=by
 subst ea
 obtain ⟨a,rfl⟩ : ∃ q,a=q+1:=⟨a-1,by omega⟩
 refine ACall.enter (rs:=[.tmp 6]) 15 [(0,.slice (some ⟨b,0,none⟩) n cap),(1,.int .i64 ((a+1:Nat):Int)),(2,.pointer (some ⟨c,0,none⟩))] Try.func208 rfl rfl (Nat.le_of_ble_eq_true rfl) rfl ⟨rfl,rfl,rfl,trivial⟩ ?_
 refine k_a (k_e rfl (k_a (k_m rfl (k_m rfl ?_))))
 refine rC (Calm.bin rfl rfl b_sub_i64) ?_
 refine k_m rfl (k_m rfl ?_)
 refine rC (Calm.bin rfl rfl b_add_i64) ?_
 refine k_m rfl ?_
 refine ARun.call (lit_lt rfl) go_209 rfl (soB_median b room n cap hb hn d R c hc hcb _ _ _ a (a+1) (a+2) k om_ rfl om_ (by omega) (by omega) (by omega) hk) ?_
 rintro _ _ ⟨rfl,rfl⟩
 refine k_e rfl ?_
 refine k_u [(0,_),(1,_),(2,_),(6,_)] ?_
 refine AWP.ret ?_
 refine ⟨_,_,⟨_,_,rfl,rfl,rfl⟩,Mem.Less.refl _,?_⟩
 exact ⟨rfl,rfl⟩
set_option maxHeartbeats 4000000 in
theorem soB_pivot {S : Mem} (b room n cap : Nat) (hb : Fresh S b) (hn : n ≤ 1048576) (d : Array Nat) (R : Rw (fun _ => True) n d) (ia ie : Int) (a e : Nat) (ha : ia = a) (he : ie = e) (hae : a < e) (hen : e ≤ n) :
  ACall Try.prog 194 #[.slice (some ⟨b,0,none⟩) n cap,.int .i64 ia,.int .i64 ie] (S.set b ⟨5,(d).toList.map encB,room⟩) fun r S'=>r = .tuple #[.int .i64 ((choosePivot ltN d a e).1:Nat),.int .i64 (hintI (choosePivot ltN d a e).2)]∧S'=S.set b ⟨5,(d).toList.map encB,room⟩∧a≤(choosePivot ltN d a e).1∧(choosePivot ltN d a e).1<e:=by
 subst ha he
 obtain ⟨L,rfl⟩ : ∃ L,e=a+L:=⟨e-a,by omega⟩
 have z:=R.size
 refine ACall.enter (rs:=[.tmp 6,.tmp 7]) 57 [(0,.slice (some ⟨b,0,none⟩) n cap),(1,.int .i64 a),(2,.int .i64 ((a+L:Nat):Int))] Try.func194 rfl rfl (Nat.le_of_ble_eq_true rfl) rfl ⟨rfl,rfl,rfl,trivial⟩ ?_
 by_cases h8:8≤L
 ·refine k_a (k_s rfl (k_e rfl (k_a (k_m rfl ?_))))
  refine k_m rfl ?_
  refine rC (Calm.bin rfl rfl b_sub_i64) ?_
  refine k_e rfl ?_
  refine k_u [(0,_),(1,_),(2,_),(6,_),(7,_),(8,_)] ?_
  refine k_a ?_
  refine ARun.alloc (lit_lt rfl) ty_zero_3 ?_
  intro b9 f9
  have g9:=f9
  repeat ((with_reducible replace g9:=fresh_set g9);obtain ⟨g9,_⟩:=g9)
  try simp only [k_l1,k_l0,k_za,Nat.reduceAdd]
  refine k_n (k_a (k_m rfl (k_m rfl ?_)))
  refine rC (Calm.bin rfl rfl b_quo_i64) ?_
  refine rC (Calm.bin rfl rfl b_mul_i64) ?_
  refine rC (Calm.bin rfl rfl b_add_i64) ?_
  refine k_e rfl ?_
  refine k_u [(0,_),(1,_),(2,_),(6,_),(7,_),(8,_),(9,_),(10,_)] ?_
  refine k_a (k_m rfl (k_m rfl ?_))
  refine rC (Calm.bin rfl rfl b_quo_i64) ?_
  refine rC (Calm.bin rfl rfl b_mul_i64) ?_
  refine rC (Calm.bin rfl rfl b_add_i64) ?_
  refine k_e rfl ?_
  refine k_u [(0,_),(1,_),(2,_),(6,_),(7,_),(8,_),(9,_),(10,_),(11,_)] ?_
  refine k_a (k_m rfl (k_m rfl ?_))
  refine rC (Calm.bin rfl rfl b_quo_i64) ?_
  refine rC (Calm.bin rfl rfl b_mul_i64) ?_
  refine rC (Calm.bin rfl rfl b_add_i64) ?_
  refine k_e rfl ?_
  refine k_u [(0,_),(1,_),(2,_),(6,_),(7,_),(8,_),(9,_),(10,_),(11,_),(12,_)] ?_
  refine AWP.seq (k_a (k_m rfl ?_))
  refine rC (Calm.bin rfl rfl b_geq) ?_
  refine k_n ?_
  refine k_u [(0,_),(1,_),(2,_),(6,_),(7,_),(8,_),(9,_),(10,_),(11,_),(12,_),(32,_)] ?_
  refine k_T rfl ?_
  by_cases h50:50≤L
  ·refine AWP.seq (k_a (k_m rfl ?_))
   refine rC (Calm.bin rfl rfl b_geq) ?_
   refine k_n ?_
   refine k_u [(0,_),(1,_),(2,_),(6,_),(7,_),(8,_),(9,_),(10,_),(11,_),(12,_),(32,_),(34,_)] ?_
   refine k_T rfl ?_
   obtain ⟨⟨i1,k1⟩,q1⟩ : ∃ q,q=medianAdjacent ltN d (a+L / 4*1) 0:=⟨_,rfl⟩
   obtain ⟨⟨j1,k2⟩,q2⟩ : ∃ q,q=medianAdjacent ltN d (a+L / 4*2) k1:=⟨_,rfl⟩
   obtain ⟨⟨o1,k3⟩,q3⟩ : ∃ q,q=medianAdjacent ltN d (a+L / 4*3) k2:=⟨_,rfl⟩
   obtain ⟨⟨pv,k⟩,q4⟩ : ∃ q,q=median ltN d i1 j1 o1 k3:=⟨_,rfl⟩
   have m1:=medadj_lt ltN q1 (lo:=a) (hi:=a+L) (by omega) (by omega)
   have m2:=medadj_lt ltN q2 (lo:=a) (hi:=a+L) (by omega) (by omega)
   have m3:=medadj_lt ltN q3 (lo:=a) (hi:=a+L) (by omega) (by omega)
   have hr:=median_lt ltN q4 (lo:=a) (hi:=a+L) m1.1 m2.1 m3.1
   have n1:=m1.2;have n2:=m2.2;have n3:=m3.2;have n4:=hr.2
   have hp:choosePivot ltN d a (a+L)=(pv,if k=0 then .increasing else if k=12 then .decreasing else .unknown):=by unfold choosePivot;simp only [Nat.add_sub_cancel_left,if_pos h8,if_pos h50,← q1,← q2,← q3,← q4]
   replace hr:=hr.1
   refine k_a (k_m rfl (k_m rfl ?_))
   refine ARun.call (lit_lt rfl) go_208 rfl ((q1 ▸ soB_medadj b room n cap hb hn d R b9 g9 (by assumption) _ (a+L / 4*1) 0 om_ (by omega) (by omega) (by omega))) ?_
   rintro _ _ ⟨rfl,rfl⟩
   refine k_e rfl ?_
   refine k_u [(0,_),(1,_),(2,_),(6,_),(7,_),(8,_),(9,_),(10,_),(11,_),(12,_),(32,_),(34,_)] ?_
   refine k_a (k_m rfl (k_m rfl ?_))
   refine ARun.call (lit_lt rfl) go_208 rfl ((q2 ▸ soB_medadj b room n cap hb hn d R b9 g9 (by assumption) _ (a+L / 4*2) k1 om_ (by omega) (by omega) (by omega))) ?_
   rintro _ _ ⟨rfl,rfl⟩
   refine k_e rfl ?_
   refine k_u [(0,_),(1,_),(2,_),(6,_),(7,_),(8,_),(9,_),(10,_),(11,_),(12,_),(32,_),(34,_)] ?_
   refine AWP.region ?_
   refine k_m rfl (k_m rfl ?_)
   refine ARun.call (lit_lt rfl) go_208 rfl ((q3 ▸ soB_medadj b room n cap hb hn d R b9 g9 (by assumption) _ (a+L / 4*3) k2 om_ (by omega) (by omega) (by omega))) ?_
   rintro _ _ ⟨rfl,rfl⟩
   refine k_e rfl ?_
   refine k_u [(0,_),(1,_),(2,_),(6,_),(7,_),(8,_),(9,_),(10,_),(11,_),(12,_),(32,_),(34,_)] ?_
   refine AWP.region ?_
   refine k_m rfl (k_m rfl (k_m rfl (k_m rfl ?_)))
   refine ARun.call (lit_lt rfl) go_209 rfl ((q4 ▸ soB_median b room n cap hb hn d R b9 g9 (by assumption) _ _ _ i1 j1 o1 k3 rfl rfl rfl (by omega) (by omega) (by omega) (by omega))) ?_
   rintro _ _ ⟨rfl,rfl⟩
   refine k_e rfl ?_
   refine k_u [(0,_),(1,_),(2,_),(6,_),(7,_),(8,_),(9,_),(10,_),(11,_),(12,_),(32,_),(34,_)] ?_
   by_cases k0:k=0
   ·subst k0
    refine k_a ?_
    refine rC (ld_ ty_plain_3 rfl) ?_
    refine k_n ?_
    refine AWP.block ?_
    refine k_a ?_
    refine rC (Calm.bin rfl rfl b_eql) ?_
    refine k_e rfl ?_
    refine k_u [(0,_),(1,_),(2,_),(6,_),(7,_),(8,_),(9,_),(10,_),(11,_),(12,_),(32,_),(34,_),(49,_),(51,_)] ?_
    refine k_T rfl ?_
    refine k_a (k_m rfl (k_s rfl (k_e rfl ?_)))
    refine k_u [(0,_),(1,_),(2,_),(6,_),(7,_),(8,_),(9,_),(10,_),(11,_),(12,_),(32,_),(34,_),(49,_),(51,_)] ?_
    refine AWP.ret ?_
    refine ain_ret ?_
    refine ⟨_,S.set b ⟨5,(d).toList.map encB,room⟩,⟨_,_,rfl,⟨_,_,rfl,rfl,rfl⟩,rfl⟩,less_,?_⟩
    exact ⟨by rw [hp];rfl,rfl,by rw [hp];exact hr⟩
   ·refine k_a ?_
    refine rC (ld_ ty_plain_3 rfl) ?_
    refine k_n ?_
    refine AWP.block ?_
    refine k_a ?_
    refine rC (Calm.bin rfl rfl b_eql) ?_
    refine k_e rfl ?_
    refine k_u [(0,_),(1,_),(2,_),(6,_),(7,_),(8,_),(9,_),(10,_),(11,_),(12,_),(32,_),(34,_),(49,_),(51,_)] ?_
    refine k_F rfl ?_
    by_cases k1:k=12
    ·subst k1
     refine k_a ?_
     refine rC (Calm.bin rfl rfl b_eql) ?_
     refine k_e rfl ?_
     refine k_u [(0,_),(1,_),(2,_),(6,_),(7,_),(8,_),(9,_),(10,_),(11,_),(12,_),(32,_),(34,_),(49,_),(51,_),(54,_)] ?_
     refine k_T rfl ?_
     refine k_a (k_m rfl (k_s rfl (k_e rfl ?_)))
     refine k_u [(0,_),(1,_),(2,_),(6,_),(7,_),(8,_),(9,_),(10,_),(11,_),(12,_),(32,_),(34,_),(49,_),(51,_),(54,_)] ?_
     refine AWP.ret ?_
     refine ain_ret ?_
     refine ⟨_,S.set b ⟨5,(d).toList.map encB,room⟩,⟨_,_,rfl,⟨_,_,rfl,rfl,rfl⟩,rfl⟩,less_,?_⟩
     exact ⟨by rw [hp];rfl,rfl,by rw [hp];exact hr⟩
    ·refine k_a ?_
     refine rC (Calm.bin rfl rfl b_eql) ?_
     refine k_e rfl ?_
     refine k_u [(0,_),(1,_),(2,_),(6,_),(7,_),(8,_),(9,_),(10,_),(11,_),(12,_),(32,_),(34,_),(49,_),(51,_),(54,_)] ?_
     refine k_F rfl ?_
     refine k_a (k_m rfl (k_s rfl (k_e rfl ?_)))
     refine k_u [(0,_),(1,_),(2,_),(6,_),(7,_),(8,_),(9,_),(10,_),(11,_),(12,_),(32,_),(34,_),(49,_),(51,_),(54,_)] ?_
     refine AWP.ret ?_
     refine ain_ret ?_
     refine ⟨_,S.set b ⟨5,(d).toList.map encB,room⟩,⟨_,_,rfl,⟨_,_,rfl,rfl,rfl⟩,rfl⟩,less_,?_⟩
     exact ⟨by rw [hp,piv_hint k0 k1];rfl,rfl,by rw [hp];exact hr⟩
  ·refine AWP.seq (k_a (k_m rfl ?_))
   refine rC (Calm.bin rfl rfl b_geq) ?_
   refine k_n ?_
   refine k_u [(0,_),(1,_),(2,_),(6,_),(7,_),(8,_),(9,_),(10,_),(11,_),(12,_),(32,_),(34,_)] ?_
   refine k_F rfl ?_
   obtain ⟨⟨pv,k⟩,q4⟩ : ∃ q,q=median ltN d (a+L / 4*1) (a+L / 4*2) (a+L / 4*3) 0:=⟨_,rfl⟩
   have hr:=median_lt ltN q4 (lo:=a) (hi:=a+L) (by omega) (by omega) (by omega)
   have n4:=hr.2
   have hp:choosePivot ltN d a (a+L)=(pv,if k=0 then .increasing else if k=12 then .decreasing else .unknown):=by unfold choosePivot;simp only [Nat.add_sub_cancel_left,if_pos h8,if_neg h50,← q4]
   replace hr:=hr.1
   refine k_k ?_
   refine AWP.region ?_
   refine k_m rfl (k_m rfl (k_m rfl (k_m rfl ?_)))
   refine ARun.call (lit_lt rfl) go_209 rfl ((q4 ▸ soB_median b room n cap hb hn d R b9 g9 (by assumption) _ _ _ (a+L / 4*1) (a+L / 4*2) (a+L / 4*3) 0 om_ om_ om_ (by omega) (by omega) (by omega) (by omega))) ?_
   rintro _ _ ⟨rfl,rfl⟩
   refine k_e rfl ?_
   refine k_u [(0,_),(1,_),(2,_),(6,_),(7,_),(8,_),(9,_),(10,_),(11,_),(12,_),(32,_),(34,_)] ?_
   by_cases k0:k=0
   ·subst k0
    refine k_a ?_
    refine rC (ld_ ty_plain_3 rfl) ?_
    refine k_n ?_
    refine AWP.block ?_
    refine k_a ?_
    refine rC (Calm.bin rfl rfl b_eql) ?_
    refine k_e rfl ?_
    refine k_u [(0,_),(1,_),(2,_),(6,_),(7,_),(8,_),(9,_),(10,_),(11,_),(12,_),(32,_),(34,_),(49,_),(51,_)] ?_
    refine k_T rfl ?_
    refine k_a (k_m rfl (k_s rfl (k_e rfl ?_)))
    refine k_u [(0,_),(1,_),(2,_),(6,_),(7,_),(8,_),(9,_),(10,_),(11,_),(12,_),(32,_),(34,_),(49,_),(51,_)] ?_
    refine AWP.ret ?_
    refine ain_ret ?_
    refine ⟨_,S.set b ⟨5,(d).toList.map encB,room⟩,⟨_,_,rfl,⟨_,_,rfl,rfl,rfl⟩,rfl⟩,less_,?_⟩
    exact ⟨by rw [hp];rfl,rfl,by rw [hp];exact hr⟩
   ·refine k_a ?_
    refine rC (ld_ ty_plain_3 rfl) ?_
    refine k_n ?_
    refine AWP.block ?_
    refine k_a ?_
    refine rC (Calm.bin rfl rfl b_eql) ?_
    refine k_e rfl ?_
    refine k_u [(0,_),(1,_),(2,_),(6,_),(7,_),(8,_),(9,_),(10,_),(11,_),(12,_),(32,_),(34,_),(49,_),(51,_)] ?_
    refine k_F rfl ?_
    by_cases k1:k=12
    ·subst k1
     refine k_a ?_
     refine rC (Calm.bin rfl rfl b_eql) ?_
     refine k_e rfl ?_
     refine k_u [(0,_),(1,_),(2,_),(6,_),(7,_),(8,_),(9,_),(10,_),(11,_),(12,_),(32,_),(34,_),(49,_),(51,_),(54,_)] ?_
     refine k_T rfl ?_
     refine k_a (k_m rfl (k_s rfl (k_e rfl ?_)))
     refine k_u [(0,_),(1,_),(2,_),(6,_),(7,_),(8,_),(9,_),(10,_),(11,_),(12,_),(32,_),(34,_),(49,_),(51,_),(54,_)] ?_
     refine AWP.ret ?_
     refine ain_ret ?_
     refine ⟨_,S.set b ⟨5,(d).toList.map encB,room⟩,⟨_,_,rfl,⟨_,_,rfl,rfl,rfl⟩,rfl⟩,less_,?_⟩
     exact ⟨by rw [hp];rfl,rfl,by rw [hp];exact hr⟩
    ·refine k_a ?_
     refine rC (Calm.bin rfl rfl b_eql) ?_
     refine k_e rfl ?_
     refine k_u [(0,_),(1,_),(2,_),(6,_),(7,_),(8,_),(9,_),(10,_),(11,_),(12,_),(32,_),(34,_),(49,_),(51,_),(54,_)] ?_
     refine k_F rfl ?_
     refine k_a (k_m rfl (k_s rfl (k_e rfl ?_)))
     refine k_u [(0,_),(1,_),(2,_),(6,_),(7,_),(8,_),(9,_),(10,_),(11,_),(12,_),(32,_),(34,_),(49,_),(51,_),(54,_)] ?_
     refine AWP.ret ?_
     refine ain_ret ?_
     refine ⟨_,S.set b ⟨5,(d).toList.map encB,room⟩,⟨_,_,rfl,⟨_,_,rfl,rfl,rfl⟩,rfl⟩,less_,?_⟩
     exact ⟨by rw [hp,piv_hint k0 k1];rfl,rfl,by rw [hp];exact hr⟩
 ·refine k_a (k_s rfl (k_e rfl (k_a (k_m rfl ?_))))
  refine k_m rfl ?_
  refine rC (Calm.bin rfl rfl b_sub_i64) ?_
  refine k_e rfl ?_
  refine k_u [(0,_),(1,_),(2,_),(6,_),(7,_),(8,_)] ?_
  refine k_a ?_
  refine ARun.alloc (lit_lt rfl) ty_zero_3 ?_
  intro b9 f9
  have g9:=f9
  repeat ((with_reducible replace g9:=fresh_set g9);obtain ⟨g9,_⟩:=g9)
  try simp only [k_l1,k_l0,k_za,Nat.reduceAdd]
  refine k_n (k_a (k_m rfl (k_m rfl ?_)))
  refine rC (Calm.bin rfl rfl b_quo_i64) ?_
  refine rC (Calm.bin rfl rfl b_mul_i64) ?_
  refine rC (Calm.bin rfl rfl b_add_i64) ?_
  refine k_e rfl ?_
  refine k_u [(0,_),(1,_),(2,_),(6,_),(7,_),(8,_),(9,_),(10,_)] ?_
  refine k_a (k_m rfl (k_m rfl ?_))
  refine rC (Calm.bin rfl rfl b_quo_i64) ?_
  refine rC (Calm.bin rfl rfl b_mul_i64) ?_
  refine rC (Calm.bin rfl rfl b_add_i64) ?_
  refine k_e rfl ?_
  refine k_u [(0,_),(1,_),(2,_),(6,_),(7,_),(8,_),(9,_),(10,_),(11,_)] ?_
  refine k_a (k_m rfl (k_m rfl ?_))
  refine rC (Calm.bin rfl rfl b_quo_i64) ?_
  refine rC (Calm.bin rfl rfl b_mul_i64) ?_
  refine rC (Calm.bin rfl rfl b_add_i64) ?_
  refine k_e rfl ?_
  refine k_u [(0,_),(1,_),(2,_),(6,_),(7,_),(8,_),(9,_),(10,_),(11,_),(12,_)] ?_
  refine AWP.seq (k_a (k_m rfl ?_))
  refine rC (Calm.bin rfl rfl b_geq) ?_
  refine k_n ?_
  refine k_u [(0,_),(1,_),(2,_),(6,_),(7,_),(8,_),(9,_),(10,_),(11,_),(12,_),(32,_)] ?_
  refine k_F rfl ?_
  have hp:choosePivot ltN d a (a+L)=(a+L / 4*2,.increasing):=by unfold choosePivot;simp only [Nat.add_sub_cancel_left,if_neg h8];rfl
  refine k_k (k_a ?_)
  refine rC (ld_ ty_plain_3 rfl) ?_
  refine k_n ?_
  refine AWP.block ?_
  refine k_a ?_
  refine rC (Calm.bin rfl rfl b_eql) ?_
  refine k_e rfl ?_
  refine k_u [(0,_),(1,_),(2,_),(6,_),(7,_),(8,_),(9,_),(10,_),(11,_),(12,_),(32,_),(49,_),(51,_)] ?_
  refine k_T rfl ?_
  refine k_a (k_m rfl (k_s rfl (k_e rfl ?_)))
  refine k_u [(0,_),(1,_),(2,_),(6,_),(7,_),(8,_),(9,_),(10,_),(11,_),(12,_),(32,_),(49,_),(51,_)] ?_
  refine AWP.ret ?_
  refine ain_ret ?_
  refine ⟨_,S.set b ⟨5,(d).toList.map encB,room⟩,⟨_,_,rfl,⟨_,_,rfl,rfl,rfl⟩,rfl⟩,less_,?_⟩
  exact ⟨by rw [hp];exact piv_val om_,rfl,by rw [hp];exact ⟨by show a≤a+L / 4*2;omega,by show a+L / 4*2<a+L;omega⟩⟩
set_option maxHeartbeats 4000000 in
theorem soB_brk {S : Mem} (b room n cap : Nat) (hb : Fresh S b) (hn : n ≤ 1048576) (d : Array Nat) (R : Rw (fun _ => True) n d) (ia ie : Int) (a e : Nat) (ha : ia = a) (he : ie = e) (hae : a ≤ e) (hen : e ≤ n) :
  ACall Try.prog 193 #[.slice (some ⟨b,0,none⟩) n cap,.int .i64 ia,.int .i64 ie] (S.set b ⟨5,(d).toList.map encB,room⟩) fun r S'=>S'=S.set b ⟨5,(breakPatterns d a e).toList.map encB,room⟩∧Rw (fun _=>True) n (breakPatterns d a e):=by
 subst ha he
 obtain ⟨L,rfl⟩ : ∃ L,e=a+L:=⟨e-a,by omega⟩
 have z:=R.size
 by_cases h8:8≤L
 ·have hbp:=bp_eq (d:=d) (a:=a) h8
  have hmb:=bp_mod L (by omega) (by omega)
  generalize hmo:1 <<< bitsLen L=mo at *
  generalize hba:a+L / 4*2-1=ba at *
  have hoL:((UInt64.ofNat L).toNat:Nat)=L:=by rw [UInt64.toNat_ofNat'];exact Nat.mod_eq_of_lt (by omega)
  refine ACall.enter (rs:=[]) 65 [(0,.slice (some ⟨b,0,none⟩) n cap),(1,.int .i64 a),(2,.int .i64 ((a+L:Nat):Int))] Try.func193 rfl rfl (Nat.le_of_ble_eq_true rfl) rfl ⟨rfl,rfl,rfl,trivial⟩ ?_
  refine k_a (k_m rfl (k_m rfl ?_))
  refine rC (Calm.bin rfl rfl b_sub_i64) ?_
  refine k_e rfl ?_
  refine k_u [(0,_),(1,_),(2,_),(6,_)] ?_
  refine k_a (k_m rfl ?_)
  refine rC (Calm.bin rfl rfl b_geq) ?_
  refine k_n ?_
  refine k_u [(0,_),(1,_),(2,_),(6,_),(15,_)] ?_
  refine k_T rfl ?_
  refine k_a (k_m rfl ?_)
  refine rC (Calm.conv rfl (conv_intW Try.underlying3 Try.underlying188 (IntWalk.u64_in _ (by omega)))) ?_
  refine ARun.alloc (lit_lt rfl) ty_zero_188 ?_
  intro b7 f7
  have g7:=f7
  repeat ((with_reducible replace g7:=fresh_set g7);obtain ⟨g7,_⟩:=g7)
  try simp only [k_l1,k_l0,k_za,Nat.reduceAdd]
  refine ARun.store1 rfl rfl ty_size_188 rfl own_ lens_ rfl ?_
  try simp only [k_ms,k_sz,k_ss,k_za,Nat.reduceAdd]
  refine k_n ?_
  refine k_u [(0,_),(1,_),(2,_),(6,_),(15,_),(7,_)] ?_
  refine AWP.less ((S.set b ⟨5,(d).toList.map encB,room⟩).set b7 (xorB (UInt64.ofNat L).toNat)) (by unfold xorB;rw [hoL,show ((a+L:Nat):Int)-(a:Int)=(L:Int) by omega];exact Mem.Less.refl _) ?_
  refine k_a (k_m rfl ?_)
  refine ARun.call (lit_lt rfl) go_179 rfl ((hmo ▸ so_pow _ L om_ (by omega) _)) ?_
  rintro _ _ ⟨rfl,rfl⟩
  refine k_e rfl ?_
  refine k_u [(0,_),(1,_),(2,_),(6,_),(15,_),(7,_),(8,_)] ?_
  refine k_a (k_m rfl (k_m rfl ?_))
  refine rC (Calm.bin rfl rfl b_quo_i64) ?_
  refine rC (Calm.bin rfl rfl b_mul_i64) ?_
  refine rC (Calm.bin rfl rfl b_add_i64) ?_
  refine rC (Calm.bin rfl rfl b_sub_i64) ?_
  refine k_e rfl ?_
  refine k_u [(0,_),(1,_),(2,_),(6,_),(15,_),(7,_),(8,_),(9,_)] ?_
  refine AWP.block ?_
  refine AWP.loop (X:=Nat × UInt64 × Array Nat) (fun x=>[(0,.slice (some ⟨b,0,none⟩) n cap),(1,.int .i64 a),(6,.int .i64 L),(7,.pointer (some ⟨b7,0,none⟩)),(8,.int .u64 mo),(9,.int .i64 ((ba+(3-x.1):Nat):Int))]) (fun x=>(S.set b ⟨5,(x.2.2).toList.map encB,room⟩).set b7 (xorB (x.2.1).toNat)) (fun x=>x.1≤3∧Rw (fun _=>True) n x.2.2∧bpR a L mo ba x.1 x.2=bpR a L mo ba 3 (UInt64.ofNat L,d)) (fun x=>x.1) ((3,UInt64.ofNat L,d)) ⟨sb_,sb_,sb_,sb_,sb_,sb_,trivial⟩ (Mem.Less.refl _) (⟨Nat.le_refl _,R,rfl⟩) ?_
  rintro ⟨k,r,d1⟩ ⟨h1,R1,h3⟩
  (try dsimp only at *)
  have z1:=R1.size
  by_cases hk:0<k
  ·obtain ⟨k,rfl⟩ : ∃ q,k=q+1:=⟨k-1,by omega⟩
   refine AWP.seq (k_a (k_m rfl (k_m rfl (k_m rfl ?_))))
   refine rC (Calm.bin rfl rfl b_quo_i64) ?_
   refine rC (Calm.bin rfl rfl b_mul_i64) ?_
   refine rC (Calm.bin rfl rfl b_add_i64) ?_
   refine rC (Calm.bin rfl rfl b_add_i64) ?_
   refine rC (Calm.bin rfl rfl b_leq) ?_
   refine k_n ?_
   refine k_u [(0,_),(1,_),(6,_),(7,_),(8,_),(9,_),(33,_)] ?_
   refine k_T rfl ?_
   obtain ⟨r',hr'⟩ : ∃ r',r'=xorNext r:=⟨_,rfl⟩
   obtain ⟨o,ho⟩ : ∃ o,o=r'.toNat &&& (mo-1):=⟨_,rfl⟩
   have ho1:o≤mo-1:=by rw [ho];exact Nat.and_le_right
   have han:=and_n64 r'.toNat (mo-1) r'.toNat_lt (by omega)
   rw [← ho] at han
   refine k_k (AWP.seq ?_)
   refine AWP.block ?_
   refine k_a ?_
   refine ARun.call (lit_lt rfl) go_180 rfl ((hr' ▸ so_next b7 r _ (fresh_more g7 (by assumption)))) ?_
   rintro _ _ ⟨rfl,rfl⟩
   refine k_m rfl ?_
   refine rC (Calm.bin rfl rfl (bin_subW (sub_u64 mo (by omega) (by omega)))) ?_
   refine rC (Calm.bin rfl rfl (bin_andE han)) ?_
   refine rC (Calm.conv rfl (by first | exact conv_intW Try.underlying139 Try.underlying3 (IntWalk.i64_in _ (by omega)) | exact conv_int Try.underlying139 Try.underlying3)) ?_
   refine k_e rfl ?_
   refine k_u [(0,_),(1,_),(6,_),(7,_),(8,_),(9,_),(33,_),(10,_)] ?_
   by_cases hoL2:L≤o
   ·refine AWP.seq (k_a (k_m rfl (k_m rfl ?_)))
    refine rC (Calm.bin rfl rfl b_geq) ?_
    refine k_n ?_
    refine k_u [(0,_),(1,_),(6,_),(7,_),(8,_),(9,_),(33,_),(10,_),(43,_)] ?_
    refine k_T rfl ?_
    refine AWP.region ?_
    refine k_m rfl (k_m rfl ?_)
    refine rC (Calm.bin rfl rfl b_sub_i64) ?_
    refine k_e rfl ?_
    refine k_u [(0,_),(1,_),(6,_),(7,_),(8,_),(9,_),(33,_),(10,_),(43,_)] ?_
    refine AWP.draw [(0,true),(1,true),(2,true),(3,true),(4,true),(5,true),(6,true),(7,true),(8,true),(9,true),(10,true),(11,true),(12,true),(13,true),(14,true),(15,true),(16,true),(17,false),(18,true),(19,false)] [17,19] mixed (by kernel_rfl) ?_
    refine dP (hc:=fun _=>Calm.move rfl) (h:=?_)
    refine dP (hc:=fun _=>Calm.move rfl) (h:=?_)
    refine dP (hc:=fun _=>Calm.move rfl) (h:=?_)
    refine dP (hc:=fun _=>Calm.move rfl) (h:=?_)
    refine dP (hc:=fun _=>Calm.move rfl) (h:=?_)
    refine dP (hc:=fun _=>Calm.bin rfl rfl b_add_i64) (h:=?_)
    refine dP (hc:=fun _=>Calm.move rfl) (h:=?_)
    refine dP (hc:=fun _=>Calm.move rfl) (h:=?_)
    refine dP (hc:=fun _=>Calm.move rfl) (h:=?_)
    refine dP (hc:=fun _=>Calm.bin rfl rfl b_add_i64) (h:=?_)
    refine dP (hc:=fun _=>Calm.indexS Try.underlying107 ty_size_5 rfl rfl (by omega) (by omega)) (h:=?_)
    refine dC (hc:=Calm.load ty_plain_5 rfl (rd_row (k:=a+(o-L)) own_ rw_ rw_)) (h:=?_)
    refine dP (hc:=fun _=>Calm.move rfl) (h:=?_)
    refine dP (hc:=fun _=>Calm.move rfl) (h:=?_)
    refine dP (hc:=fun _=>Calm.indexS Try.underlying107 ty_size_5 rfl rfl (by omega) (by omega)) (h:=?_)
    refine dC (hc:=Calm.load ty_plain_5 rfl (rd_row (k:=ba+(2-k)) own_ rw_ rw_)) (h:=?_)
    refine dP (hc:=fun _=>Calm.indexS Try.underlying107 ty_size_5 rfl rfl (by omega) (by omega)) (h:=?_)
    refine draw_only rfl ?_
    refine ARun.storeRow encB (ba+(2-k)) rfl rfl ty_size_5 ⟨rfl,rfl⟩ own_ rw_ rw_ ?_
    try simp only [k_ms,k_sz,k_ss,k_za,Nat.reduceAdd]
    refine arun_nil ⟨fun h=>absurd h (by decide),?_⟩
    refine dP (hc:=fun _=>Calm.indexS Try.underlying107 ty_size_5 rfl rfl (by omega) (by omega)) (h:=?_)
    refine draw_only rfl ?_
    refine ARun.storeRow encB (a+(o-L)) rfl rfl ty_size_5 ⟨rfl,rfl⟩ own_ rw_ rw_ ?_
    try simp only [k_ms,k_sz,k_ss,k_za,Nat.reduceAdd]
    refine arun_nil ⟨fun h=>absurd h (by decide),?_⟩
    refine draw_nil ?_
    refine ain_n ?_
    refine athen_n ?_
    refine k_u [(0,_),(1,_),(6,_),(7,_),(8,_),(9,_),(33,_),(10,_),(43,_)] ?_
    refine AWP.region ?_
    refine k_m rfl ?_
    refine rC (Calm.bin rfl rfl b_add_i64) ?_
    refine k_e rfl ?_
    refine ⟨(k,r',swp d1 (ba+(2-k)) (a+(o-L))),?_,?_,?_,?_⟩
    all_goals (try dsimp only)
    ·exact ⟨sb_,sb_,sb_,sb_,sb_,sb_,trivial⟩
    ·rw [set_over _ _ _ _ (by first | assumption | (apply Ne.symm;assumption))];exact Mem.Less.refl _
    ·exact ⟨by omega,R1.swp _ _ (by omega) (by omega),by rw [← h3,bpR_succ,← hr',← ho,if_pos hoL2]⟩
    ·omega
   ·refine AWP.seq (k_a (k_m rfl (k_m rfl ?_)))
    refine rC (Calm.bin rfl rfl b_geq) ?_
    refine k_n ?_
    refine k_u [(0,_),(1,_),(6,_),(7,_),(8,_),(9,_),(33,_),(10,_),(43,_)] ?_
    refine k_F rfl ?_
    refine k_k ?_
    refine AWP.draw [(0,true),(1,true),(2,true),(3,true),(4,true),(5,true),(6,true),(7,true),(8,true),(9,true),(10,true),(11,true),(12,true),(13,true),(14,true),(15,true),(16,true),(17,false),(18,true),(19,false)] [17,19] mixed (by kernel_rfl) ?_
    refine dP (hc:=fun _=>Calm.move rfl) (h:=?_)
    refine dP (hc:=fun _=>Calm.move rfl) (h:=?_)
    refine dP (hc:=fun _=>Calm.move rfl) (h:=?_)
    refine dP (hc:=fun _=>Calm.move rfl) (h:=?_)
    refine dP (hc:=fun _=>Calm.move rfl) (h:=?_)
    refine dP (hc:=fun _=>Calm.bin rfl rfl b_add_i64) (h:=?_)
    refine dP (hc:=fun _=>Calm.move rfl) (h:=?_)
    refine dP (hc:=fun _=>Calm.move rfl) (h:=?_)
    refine dP (hc:=fun _=>Calm.move rfl) (h:=?_)
    refine dP (hc:=fun _=>Calm.bin rfl rfl b_add_i64) (h:=?_)
    refine dP (hc:=fun _=>Calm.indexS Try.underlying107 ty_size_5 rfl rfl (by omega) (by omega)) (h:=?_)
    refine dC (hc:=Calm.load ty_plain_5 rfl (rd_row (k:=a+o) own_ rw_ rw_)) (h:=?_)
    refine dP (hc:=fun _=>Calm.move rfl) (h:=?_)
    refine dP (hc:=fun _=>Calm.move rfl) (h:=?_)
    refine dP (hc:=fun _=>Calm.indexS Try.underlying107 ty_size_5 rfl rfl (by omega) (by omega)) (h:=?_)
    refine dC (hc:=Calm.load ty_plain_5 rfl (rd_row (k:=ba+(2-k)) own_ rw_ rw_)) (h:=?_)
    refine dP (hc:=fun _=>Calm.indexS Try.underlying107 ty_size_5 rfl rfl (by omega) (by omega)) (h:=?_)
    refine draw_only rfl ?_
    refine ARun.storeRow encB (ba+(2-k)) rfl rfl ty_size_5 ⟨rfl,rfl⟩ own_ rw_ rw_ ?_
    try simp only [k_ms,k_sz,k_ss,k_za,Nat.reduceAdd]
    refine arun_nil ⟨fun h=>absurd h (by decide),?_⟩
    refine dP (hc:=fun _=>Calm.indexS Try.underlying107 ty_size_5 rfl rfl (by omega) (by omega)) (h:=?_)
    refine draw_only rfl ?_
    refine ARun.storeRow encB (a+o) rfl rfl ty_size_5 ⟨rfl,rfl⟩ own_ rw_ rw_ ?_
    try simp only [k_ms,k_sz,k_ss,k_za,Nat.reduceAdd]
    refine arun_nil ⟨fun h=>absurd h (by decide),?_⟩
    refine draw_nil ?_
    refine ain_n ?_
    refine athen_n ?_
    refine k_u [(0,_),(1,_),(6,_),(7,_),(8,_),(9,_),(33,_),(10,_),(43,_)] ?_
    refine AWP.region ?_
    refine k_m rfl ?_
    refine rC (Calm.bin rfl rfl b_add_i64) ?_
    refine k_e rfl ?_
    refine ⟨(k,r',swp d1 (ba+(2-k)) (a+o)),?_,?_,?_,?_⟩
    all_goals (try dsimp only)
    ·exact ⟨sb_,sb_,sb_,sb_,sb_,sb_,trivial⟩
    ·rw [set_over _ _ _ _ (by first | assumption | (apply Ne.symm;assumption))];exact Mem.Less.refl _
    ·exact ⟨by omega,R1.swp _ _ (by omega) (by omega),by rw [← h3,bpR_succ,← hr',← ho,if_neg hoL2]⟩
    ·omega
  ·obtain rfl:k=0:=by omega
   refine AWP.seq (k_a (k_m rfl (k_m rfl (k_m rfl ?_))))
   refine rC (Calm.bin rfl rfl b_quo_i64) ?_
   refine rC (Calm.bin rfl rfl b_mul_i64) ?_
   refine rC (Calm.bin rfl rfl b_add_i64) ?_
   refine rC (Calm.bin rfl rfl b_add_i64) ?_
   refine rC (Calm.bin rfl rfl b_leq) ?_
   refine k_n ?_
   refine k_u [(0,_),(1,_),(6,_),(7,_),(8,_),(9,_),(33,_)] ?_
   refine k_F rfl ?_
   refine AWP.exit ?_
   refine athen_exit ?_
   refine athen_exit ?_
   refine ain_same ?_
   refine ⟨_,S.set b ⟨5,(d1).toList.map encB,room⟩,rfl,less_,?_⟩
   rw [hbp,← h3];exact ⟨rfl,R1⟩
 ·have hbp:breakPatterns d a (a+L)=d:=by unfold breakPatterns;simp only [Nat.add_sub_cancel_left];rw [if_neg (by omega)]
  rw [hbp]
  refine ACall.enter (rs:=[]) 65 [(0,.slice (some ⟨b,0,none⟩) n cap),(1,.int .i64 a),(2,.int .i64 ((a+L:Nat):Int))] Try.func193 rfl rfl (Nat.le_of_ble_eq_true rfl) rfl ⟨rfl,rfl,rfl,trivial⟩ ?_
  refine k_a (k_m rfl (k_m rfl ?_))
  refine rC (Calm.bin rfl rfl b_sub_i64) ?_
  refine k_e rfl ?_
  refine k_u [(0,_),(1,_),(2,_),(6,_)] ?_
  refine k_a (k_m rfl ?_)
  refine rC (Calm.bin rfl rfl b_geq) ?_
  refine k_n ?_
  refine k_u [(0,_),(1,_),(2,_),(6,_),(15,_)] ?_
  refine k_F rfl ?_
  refine AWP.skip ?_
  refine ⟨_,_,rfl,Mem.Less.refl _,?_⟩
  exact ⟨rfl,R⟩
set_option maxHeartbeats 4000000 in
theorem soB_pins {S : Mem} (b room n cap : Nat) (hb : Fresh S b) (hn : n ≤ 1048576) (d : Array Nat) (R : Rw (fun _ => True) n d) (ia ie : Int) (a e : Nat) (ha : ia = a) (he : ie = e) (hae : a < e) (hen : e ≤ n) :
  ACall Try.prog 196 #[.slice (some ⟨b,0,none⟩) n cap,.int .i64 ia,.int .i64 ie] (S.set b ⟨5,(d).toList.map encB,room⟩) fun r S'=>r = .bool (partialInsertionSort ltN d a e).2∧S'=S.set b ⟨5,((partialInsertionSort ltN d a e).1).toList.map encB,room⟩∧Rw (fun _=>True) n (partialInsertionSort ltN d a e).1:=by
 subst ha he
 refine ACall.enter (rs:=[.tmp 6]) 133 [(0,.slice (some ⟨b,0,none⟩) n cap),(1,.int .i64 a),(2,.int .i64 e)] Try.func196 rfl rfl (Nat.le_of_ble_eq_true rfl) rfl ⟨rfl,rfl,rfl,trivial⟩ ?_
 refine k_a (k_e rfl (k_a (k_m rfl ?_)))
 refine rC (Calm.bin rfl rfl b_add_i64) ?_
 refine k_e rfl ?_
 refine k_u [(0,_),(1,_),(2,_),(6,_),(7,_)] ?_
 refine AWP.seq (k_a (k_e rfl ?_))
 refine AWP.block ?_
 refine AWP.loop (X:=Nat × Nat × Array Nat) (fun x=>[(0,.slice (some ⟨b,0,none⟩) n cap),(1,.int .i64 a),(2,.int .i64 e),(7,.int .i64 x.2.1),(8,.int .i64 ((5-x.1:Nat):Int))]) (fun x=>S.set b ⟨5,(x.2.2).toList.map encB,room⟩) (fun x=>x.1≤5∧a+1≤x.2.1∧x.2.1≤e∧Rw (fun _=>True) n x.2.2∧partialIns ltN a e x.1 x.2.1 x.2.2=partialInsertionSort ltN d a e) (fun x=>x.1) ((5,a+1,d)) ⟨sb_,sb_,sb_,sb_,sb_,trivial⟩ (Mem.Less.refl _) (⟨Nat.le_refl _,by dsimp only;omega,by dsimp only;omega,R,rfl⟩) ?_
 rintro ⟨s,i,d1⟩ ⟨h1,h2,h4,R1,h3⟩
 (try dsimp only at *)
 have z1:=R1.size
 by_cases hs:0<s
 ·obtain ⟨s,rfl⟩ : ∃ q,s=q+1:=⟨s-1,by omega⟩
  refine AWP.seq (k_a (k_m rfl ?_))
  refine rC (Calm.bin rfl rfl b_lss) ?_
  refine k_n ?_
  refine k_u [(0,_),(1,_),(2,_),(7,_),(8,_),(14,_)] ?_
  refine k_T rfl ?_
  refine k_k (AWP.seq ?_)
  refine AWP.block ?_
  refine AWP.seq ?_
  refine AWP.join (X:=Nat) (fun x=>[(0,.slice (some ⟨b,0,none⟩) n cap),(1,.int .i64 a),(2,.int .i64 e),(7,.int .i64 x),(8,.int .i64 ((5-(s+1):Nat):Int))]) (fun _=>S.set b ⟨5,(d1).toList.map encB,room⟩) (fun x=>a+1≤x∧x≤e∧x=scanSorted ltN d1 e i) ?_ ?_
  ·refine AWP.block ?_
   refine AWP.loop (X:=Nat) (fun x=>[(0,.slice (some ⟨b,0,none⟩) n cap),(1,.int .i64 a),(2,.int .i64 e),(7,.int .i64 x),(8,.int .i64 ((5-(s+1):Nat):Int))]) (fun _=>S.set b ⟨5,(d1).toList.map encB,room⟩) (fun x=>a+1≤x∧x≤e∧scanSorted ltN d1 e x=scanSorted ltN d1 e i) (fun x=>e-x) (i) ⟨sb_,sb_,sb_,sb_,sb_,trivial⟩ (Mem.Less.refl _) (⟨h2,h4,rfl⟩) ?_
   rintro x ⟨q1,q2,q3⟩
   (try dsimp only at *)
   by_cases hx:x<e
   ·obtain ⟨x,rfl⟩ : ∃ q,x=q+1:=⟨x-1,by omega⟩
    refine AWP.seq (AWP.seq ?_)
    refine AWP.draw [(0,true),(1,true),(2,true),(3,true),(4,true),(5,true),(6,true),(7,true),(8,true),(9,true),(10,true),(11,true),(12,true),(13,false),(14,true),(15,true)] [] mixed (by kernel_rfl) ?_
    refine dP (hc:=fun _=>Calm.move rfl) (h:=?_)
    refine dP (hc:=fun _=>Calm.move rfl) (h:=?_)
    refine dP (hc:=fun _=>Calm.bin rfl rfl b_lss) (h:=?_)
    refine dP (hc:=fun _=>Calm.move rfl) (h:=?_)
    first|refine k_d ?_|refine dG (hc:=fun _=>Calm.move rfl) (h:=?_)
    first|refine k_d ?_|refine dG (hc:=fun _=>Calm.move rfl) (h:=?_)
    first|refine k_d ?_|refine dG (hc:=fun _=>Calm.indexS Try.underlying107 ty_size_5 rfl rfl (by omega) (by omega)) (h:=?_)
    first|refine k_d ?_|refine dL (hc:=Calm.load ty_plain_5 rfl (rd_row (k:=x+1) own_ rw_ rw_)) (h:=?_)
    first|refine k_d ?_|refine dG (hc:=fun _=>Calm.move rfl) (h:=?_)
    first|refine k_d ?_|refine dG (hc:=fun _=>Calm.move rfl) (h:=?_)
    first|refine k_d ?_|refine dG (hc:=fun _=>Calm.bin rfl rfl b_sub_i64) (h:=?_)
    first|refine k_d ?_|refine dG (hc:=fun _=>Calm.indexS Try.underlying107 ty_size_5 rfl rfl (by omega) (by omega)) (h:=?_)
    first|refine k_d ?_|refine dL (hc:=Calm.load ty_plain_5 rfl (rd_row (k:=x) own_ rw_ rw_)) (h:=?_)
    refine draw_only rfl ?_
    refine ARun.callG 3 true 20 rfl (lit_lt rfl) rfl (lit_lt rfl) go_165 rfl (soB_less _ _ _) ?_
    rintro _ _ ⟨rfl,rfl⟩
    refine arun_nil ⟨fun _=>less_,?_⟩
    first|refine k_d ?_|refine dG (hc:=fun _=>Calm.un rfl (una_not _)) (h:=?_)
    refine dP (hc:=fun _=>(by first | exact Calm.pickT rfl rfl | exact Calm.pickF rfl rfl)) (h:=?_)
    refine draw_nil ?_
    refine athen_n ?_
    refine k_u [(0,_),(1,_),(2,_),(7,_),(8,_),(32,_)] ?_
    refine AWP.condB rfl (fun hl=>?_) (fun hl=>?_)
    ·have hl:=nt_ hl
     refine k_k ?_
     refine AWP.block ?_
     refine AWP.region ?_
     refine k_m rfl ?_
     refine rC (Calm.bin rfl rfl b_add_i64) ?_
     refine k_s rfl ?_
     refine arun_nil ?_
     refine ain_n ?_
     refine athen_n ?_
     refine ⟨x+1+1,?_,?_,?_,?_⟩
     all_goals (try dsimp only)
     ·exact ⟨sb_,sb_,sb_,sb_,sb_,trivial⟩
     ·exact Mem.Less.refl _
     ·exact ⟨by omega,by omega,(ss_go ltN hx (by rw [Nat.add_sub_cancel];exact hl)).trans q3⟩
     ·omega
    ·have hl:=nf_ hl
     refine AWP.exit ?_
     refine athen_exit ?_
     refine athen_exit ?_
     refine ain_same ?_
     refine ⟨(x+1),?_,?_,?_⟩
     all_goals (try dsimp only)
     ·exact ⟨by omega,by omega,(ss_no ltN (by rw [Nat.add_sub_cancel];exact hl)).trans q3⟩
     ·exact ⟨sb_,sb_,sb_,sb_,sb_,trivial⟩
     ·exact Mem.Less.refl _
   ·refine AWP.seq (AWP.seq ?_)
    refine AWP.draw [(0,true),(1,true),(2,true),(3,true),(4,true),(5,true),(6,true),(7,true),(8,true),(9,true),(10,true),(11,true),(12,true),(13,false),(14,true),(15,true)] [] mixed (by kernel_rfl) ?_
    refine dP (hc:=fun _=>Calm.move rfl) (h:=?_)
    refine dP (hc:=fun _=>Calm.move rfl) (h:=?_)
    refine dP (hc:=fun _=>Calm.bin rfl rfl b_lss) (h:=?_)
    refine dP (hc:=fun _=>Calm.move rfl) (h:=?_)
    first|refine k_d ?_|refine dG (hc:=fun _=>Calm.move rfl) (h:=?_)
    first|refine k_d ?_|refine dG (hc:=fun _=>Calm.move rfl) (h:=?_)
    first|refine k_d ?_|refine dG (hc:=fun _=>Calm.indexS Try.underlying107 ty_size_5 rfl rfl (by omega) (by omega)) (h:=?_)
    first|refine k_d ?_|refine dL (hc:=Calm.load ty_plain_5 rfl (rd_row (k:=x+1) own_ rw_ rw_)) (h:=?_)
    first|refine k_d ?_|refine dG (hc:=fun _=>Calm.move rfl) (h:=?_)
    first|refine k_d ?_|refine dG (hc:=fun _=>Calm.move rfl) (h:=?_)
    first|refine k_d ?_|refine dG (hc:=fun _=>Calm.bin rfl rfl b_sub_i64) (h:=?_)
    first|refine k_d ?_|refine dG (hc:=fun _=>Calm.indexS Try.underlying107 ty_size_5 rfl rfl (by omega) (by omega)) (h:=?_)
    first|refine k_d ?_|refine dL (hc:=Calm.load ty_plain_5 rfl (rd_row (k:=x) own_ rw_ rw_)) (h:=?_)
    refine draw_only rfl ?_
    first | refine rS 20 ?_ | refine rU 20 ?_
    refine arun_nil ⟨fun _=>less_,?_⟩
    first|refine k_d ?_|refine dG (hc:=fun _=>Calm.un rfl (una_not _)) (h:=?_)
    refine dP (hc:=fun _=>(by first | exact Calm.pickT rfl rfl | exact Calm.pickF rfl rfl)) (h:=?_)
    refine draw_nil ?_
    refine athen_n ?_
    refine k_u [(0,_),(1,_),(2,_),(7,_),(8,_),(32,_)] ?_
    refine k_F rfl ?_
    refine AWP.exit ?_
    refine athen_exit ?_
    refine athen_exit ?_
    refine ain_same ?_
    refine ⟨x,?_,?_,?_⟩
    all_goals (try dsimp only)
    ·exact ⟨by omega,by omega,(ss_end ltN hx).trans q3⟩
    ·exact ⟨sb_,sb_,sb_,sb_,sb_,trivial⟩
    ·exact Mem.Less.refl _
  rintro x ⟨b1,b2,hS⟩
  intro _ _ hs_ hl_
  (try dsimp only at *)
  refine athen_n ?_
  refine AWP.sub _ hs_ (AWP.less _ hl_ ?_)
  clear hs_ hl_
  by_cases hxe:x=e
  ·refine AWP.seq (k_a (k_m rfl (k_m rfl ?_)))
   refine rC (Calm.bin rfl rfl b_eql) ?_
   refine k_n ?_
   refine k_u [(0,_),(1,_),(2,_),(7,_),(8,_),(37,_)] ?_
   refine k_T rfl ?_
   refine k_a (k_e rfl ?_)
   refine k_r ?_
   refine ain_ret ?_
   refine athen_ret ?_
   refine athen_ret ?_
   refine ain_ret ?_
   refine athen_ret ?_
   refine ⟨_,_,⟨_,_,rfl,rfl,rfl⟩,Mem.Less.refl _,?_⟩
   exact pis_res (M:=fun x=>S.set b ⟨5,(x).toList.map encB,room⟩) ltN h3 (.inl ⟨hS ▸ hxe,rfl,rfl⟩) R1
  ·refine AWP.seq (k_a (k_m rfl (k_m rfl ?_)))
   refine rC (Calm.bin rfl rfl b_eql) ?_
   refine k_n ?_
   refine k_u [(0,_),(1,_),(2,_),(7,_),(8,_),(37,_)] ?_
   refine k_F rfl ?_
   by_cases h50:e-a<50
   ·refine k_k (AWP.seq (k_a (k_m rfl (k_m rfl ?_))))
    refine rC (Calm.bin rfl rfl b_sub_i64) ?_
    refine rC (Calm.bin rfl rfl b_lss) ?_
    refine k_n ?_
    refine k_u [(0,_),(1,_),(2,_),(7,_),(8,_),(37,_),(41,_)] ?_
    refine k_T rfl ?_
    refine k_a (k_e rfl ?_)
    refine k_r ?_
    refine ain_ret ?_
    refine athen_ret ?_
    refine athen_ret ?_
    refine ain_ret ?_
    refine athen_ret ?_
    refine ⟨_,_,⟨_,_,rfl,rfl,rfl⟩,Mem.Less.refl _,?_⟩
    exact pis_res (M:=fun x=>S.set b ⟨5,(x).toList.map encB,room⟩) ltN h3 (.inr ⟨hS ▸ hxe,h50,rfl,rfl⟩) R1
   ·refine k_k (AWP.seq (k_a (k_m rfl (k_m rfl ?_))))
    refine rC (Calm.bin rfl rfl b_sub_i64) ?_
    refine rC (Calm.bin rfl rfl b_lss) ?_
    refine k_n ?_
    refine k_u [(0,_),(1,_),(2,_),(7,_),(8,_),(37,_),(41,_)] ?_
    refine k_F rfl ?_
    obtain ⟨w,rfl⟩ : ∃ q,x=q+1:=⟨x-1,by omega⟩
    refine k_k (AWP.seq ?_)
    refine AWP.draw [(0,true),(1,true),(2,true),(3,true),(4,true),(5,true),(6,true),(7,true),(8,true),(9,true),(10,true),(11,true),(12,true),(13,true),(14,true),(15,false),(16,true),(17,false)] [15,17] mixed (by kernel_rfl) ?_
    have R2:=R1.swp (w+1) w (by omega) (by omega)
    obtain ⟨d2,hd2⟩ : ∃ d2,d2=swp d1 (w+1) w:=⟨_,rfl⟩
    rw [← hd2] at R2
    refine dP (hc:=fun _=>Calm.move rfl) (h:=?_)
    refine dP (hc:=fun _=>Calm.move rfl) (h:=?_)
    refine dP (hc:=fun _=>Calm.move rfl) (h:=?_)
    refine dP (hc:=fun _=>Calm.move rfl) (h:=?_)
    refine dP (hc:=fun _=>Calm.bin rfl rfl b_sub_i64) (h:=?_)
    refine dP (hc:=fun _=>Calm.move rfl) (h:=?_)
    refine dP (hc:=fun _=>Calm.move rfl) (h:=?_)
    refine dP (hc:=fun _=>Calm.bin rfl rfl b_sub_i64) (h:=?_)
    refine dP (hc:=fun _=>Calm.indexS Try.underlying107 ty_size_5 rfl rfl (by omega) (by omega)) (h:=?_)
    refine dC (hc:=Calm.load ty_plain_5 rfl (rd_row (k:=w) own_ rw_ rw_)) (h:=?_)
    refine dP (hc:=fun _=>Calm.move rfl) (h:=?_)
    refine dP (hc:=fun _=>Calm.move rfl) (h:=?_)
    refine dP (hc:=fun _=>Calm.indexS Try.underlying107 ty_size_5 rfl rfl (by omega) (by omega)) (h:=?_)
    refine dC (hc:=Calm.load ty_plain_5 rfl (rd_row (k:=w+1) own_ rw_ rw_)) (h:=?_)
    refine dP (hc:=fun _=>Calm.indexS Try.underlying107 ty_size_5 rfl rfl (by omega) (by omega)) (h:=?_)
    refine draw_only rfl ?_
    refine ARun.storeRow encB (w+1) rfl rfl ty_size_5 ⟨rfl,rfl⟩ own_ rw_ rw_ ?_
    try simp only [k_ms,k_sz,k_ss,k_za,Nat.reduceAdd]
    refine arun_nil ⟨fun h=>absurd h (by decide),?_⟩
    refine dP (hc:=fun _=>Calm.indexS Try.underlying107 ty_size_5 rfl rfl (by omega) (by omega)) (h:=?_)
    refine draw_only rfl ?_
    refine ARun.storeRow encB (w) rfl rfl ty_size_5 ⟨rfl,rfl⟩ own_ rw_ rw_ ?_
    try simp only [k_ms,k_sz,k_ss,k_za,Nat.reduceAdd]
    refine arun_nil ⟨fun h=>absurd h (by decide),?_⟩
    refine draw_nil ?_
    refine athen_n ?_
    refine k_u [(0,_),(1,_),(2,_),(7,_),(8,_),(37,_),(41,_)] ?_
    refine AWP.less (S.set b ⟨5,(d2).toList.map encB,room⟩) (by rw [hd2];exact Mem.Less.refl _) ?_
    have z2:=R2.size
    refine AWP.seq (k_a (k_m rfl (k_m rfl ?_)))
    refine rC (Calm.bin rfl rfl b_sub_i64) ?_
    refine rC (Calm.bin rfl rfl b_geq) ?_
    refine k_n ?_
    refine k_u [(0,_),(1,_),(2,_),(7,_),(8,_),(37,_),(41,_),(61,_)] ?_
    refine AWP.join (X:=Array Nat) (fun x=>[(0,.slice (some ⟨b,0,none⟩) n cap),(1,.int .i64 a),(2,.int .i64 e),(7,.int .i64 ((w+1:Nat):Int)),(8,.int .i64 ((5-(s+1):Nat):Int))]) (fun x=>S.set b ⟨5,(x).toList.map encB,room⟩) (fun x=>Rw (fun _=>True) n x∧x=(if w+1-a ≥ 2 then shiftDown ltN w d2 else d2)) ?_ ?_
    ·by_cases hw:2≤w+1-a
     ·refine k_T rfl ?_
      refine k_a (k_m rfl ?_)
      refine rC (Calm.bin rfl rfl b_sub_i64) ?_
      refine k_e rfl ?_
      refine k_u [(0,_),(1,_),(2,_),(7,_),(8,_),(37,_),(41,_),(61,_),(9,_)] ?_
      refine AWP.block ?_
      refine AWP.loop (X:=Nat × Array Nat) (fun x=>[(0,.slice (some ⟨b,0,none⟩) n cap),(1,.int .i64 a),(2,.int .i64 e),(7,.int .i64 ((w+1:Nat):Int)),(8,.int .i64 ((5-(s+1):Nat):Int)),(9,.int .i64 x.1)]) (fun x=>S.set b ⟨5,(x.2).toList.map encB,room⟩) (fun x=>x.1≤w∧Rw (fun _=>True) n x.2∧shiftDown ltN x.1 x.2=shiftDown ltN w d2) (fun x=>x.1) ((w,d2)) ⟨sb_,sb_,sb_,sb_,sb_,sb_,trivial⟩ (Mem.Less.refl _) (⟨Nat.le_refl _,R2,rfl⟩) ?_
      rintro ⟨j,d3⟩ ⟨k1,R3,k3⟩
      (try dsimp only at *)
      have z3:=R3.size
      by_cases hj:0<j
      ·obtain ⟨j,rfl⟩ : ∃ q,j=q+1:=⟨j-1,by omega⟩
       refine AWP.seq (k_a (k_m rfl ?_))
       refine rC (Calm.bin rfl rfl b_geq) ?_
       refine k_n ?_
       refine k_u [(0,_),(1,_),(2,_),(7,_),(8,_),(9,_),(65,_)] ?_
       refine k_T rfl ?_
       refine k_k (AWP.seq ?_)
       refine AWP.block ?_
       refine AWP.seq (AWP.seq ?_)
       refine AWP.draw [(0,true),(1,true),(2,true),(3,true),(4,true),(5,true),(6,true),(7,true),(8,true),(9,false),(10,true)] [] mixed (by kernel_rfl) ?_
       refine dP (hc:=fun _=>Calm.move rfl) (h:=?_)
       refine dP (hc:=fun _=>Calm.move rfl) (h:=?_)
       refine dP (hc:=fun _=>Calm.indexS Try.underlying107 ty_size_5 rfl rfl (by omega) (by omega)) (h:=?_)
       refine dC (hc:=Calm.load ty_plain_5 rfl (rd_row (k:=j+1) own_ rw_ rw_)) (h:=?_)
       refine dP (hc:=fun _=>Calm.move rfl) (h:=?_)
       refine dP (hc:=fun _=>Calm.move rfl) (h:=?_)
       refine dP (hc:=fun _=>Calm.bin rfl rfl b_sub_i64) (h:=?_)
       refine dP (hc:=fun _=>Calm.indexS Try.underlying107 ty_size_5 rfl rfl (by omega) (by omega)) (h:=?_)
       refine dC (hc:=Calm.load ty_plain_5 rfl (rd_row (k:=j) own_ rw_ rw_)) (h:=?_)
       refine draw_only rfl ?_
       refine ARun.call (lit_lt rfl) go_165 rfl (soB_less _ _ _) ?_
       rintro _ _ ⟨rfl,rfl⟩
       refine arun_nil ⟨fun _=>less_,?_⟩
       refine dP (hc:=fun _=>Calm.un rfl (una_not _)) (h:=?_)
       refine draw_nil ?_
       refine athen_n ?_
       refine k_u [(0,_),(1,_),(2,_),(7,_),(8,_),(9,_),(65,_),(78,_)] ?_
       refine AWP.condB rfl (fun hl=>?_) (fun hl=>?_)
       ·have hl:=nt_ hl
        refine AWP.exit ?_
        refine athen_exit ?_
        refine ain_other rfl ?_
        refine athen_exit ?_
        refine athen_exit ?_
        refine ain_same ?_
        refine ⟨d3,?_,?_,?_⟩
        all_goals (try dsimp only)
        ·exact ⟨R3,by rw [if_pos hw,← k3,← sd_no ltN hl]⟩
        ·exact ⟨sb_,sb_,sb_,sb_,sb_,trivial⟩
        ·exact Mem.Less.refl _
       ·have hl:=nf_ hl
        refine k_k ?_
        refine AWP.draw [(0,true),(1,true),(2,true),(3,true),(4,true),(5,true),(6,true),(7,true),(8,true),(9,true),(10,true),(11,true),(12,true),(13,true),(14,true),(15,false),(16,true),(17,false)] [15,17] mixed (by kernel_rfl) ?_
        refine dP (hc:=fun _=>Calm.move rfl) (h:=?_)
        refine dP (hc:=fun _=>Calm.move rfl) (h:=?_)
        refine dP (hc:=fun _=>Calm.move rfl) (h:=?_)
        refine dP (hc:=fun _=>Calm.move rfl) (h:=?_)
        refine dP (hc:=fun _=>Calm.bin rfl rfl b_sub_i64) (h:=?_)
        refine dP (hc:=fun _=>Calm.move rfl) (h:=?_)
        refine dP (hc:=fun _=>Calm.move rfl) (h:=?_)
        refine dP (hc:=fun _=>Calm.bin rfl rfl b_sub_i64) (h:=?_)
        refine dP (hc:=fun _=>Calm.indexS Try.underlying107 ty_size_5 rfl rfl (by omega) (by omega)) (h:=?_)
        refine dC (hc:=Calm.load ty_plain_5 rfl (rd_row (k:=j) own_ rw_ rw_)) (h:=?_)
        refine dP (hc:=fun _=>Calm.move rfl) (h:=?_)
        refine dP (hc:=fun _=>Calm.move rfl) (h:=?_)
        refine dP (hc:=fun _=>Calm.indexS Try.underlying107 ty_size_5 rfl rfl (by omega) (by omega)) (h:=?_)
        refine dC (hc:=Calm.load ty_plain_5 rfl (rd_row (k:=j+1) own_ rw_ rw_)) (h:=?_)
        refine dP (hc:=fun _=>Calm.indexS Try.underlying107 ty_size_5 rfl rfl (by omega) (by omega)) (h:=?_)
        refine draw_only rfl ?_
        refine ARun.storeRow encB (j+1) rfl rfl ty_size_5 ⟨rfl,rfl⟩ own_ rw_ rw_ ?_
        try simp only [k_ms,k_sz,k_ss,k_za,Nat.reduceAdd]
        refine arun_nil ⟨fun h=>absurd h (by decide),?_⟩
        refine dP (hc:=fun _=>Calm.indexS Try.underlying107 ty_size_5 rfl rfl (by omega) (by omega)) (h:=?_)
        refine draw_only rfl ?_
        refine ARun.storeRow encB (j) rfl rfl ty_size_5 ⟨rfl,rfl⟩ own_ rw_ rw_ ?_
        try simp only [k_ms,k_sz,k_ss,k_za,Nat.reduceAdd]
        refine arun_nil ⟨fun h=>absurd h (by decide),?_⟩
        refine draw_nil ?_
        refine ain_n ?_
        refine athen_n ?_
        refine k_u [(0,_),(1,_),(2,_),(7,_),(8,_),(9,_),(65,_),(78,_)] ?_
        refine AWP.region ?_
        refine k_m rfl ?_
        refine rC (Calm.bin rfl rfl b_sub_i64) ?_
        refine k_e rfl ?_
        refine ⟨(j,swp d3 (j+1) j),?_,?_,?_,?_⟩
        all_goals (try dsimp only)
        ·exact ⟨sb_,sb_,sb_,sb_,sb_,sb_,trivial⟩
        ·exact Mem.Less.refl _
        ·exact ⟨by omega,R3.swp _ _ (by omega) (by omega),(sd_go ltN hl).trans k3⟩
        ·omega
      ·obtain rfl:j=0:=by omega
       refine AWP.seq (k_a (k_m rfl ?_))
       refine rC (Calm.bin rfl rfl b_geq) ?_
       refine k_n ?_
       refine k_u [(0,_),(1,_),(2,_),(7,_),(8,_),(9,_),(65,_)] ?_
       refine k_F rfl ?_
       refine AWP.exit ?_
       refine athen_exit ?_
       refine athen_exit ?_
       refine ain_same ?_
       refine ⟨d3,?_,?_,?_⟩
       all_goals (try dsimp only)
       ·exact ⟨R3,by rw [if_pos hw,← k3];rfl⟩
       ·exact ⟨sb_,sb_,sb_,sb_,sb_,trivial⟩
       ·exact Mem.Less.refl _
     ·refine k_F rfl ?_
      refine AWP.skip ?_
      refine ⟨d2,?_,?_,?_⟩
      all_goals (try dsimp only)
      ·exact ⟨R2,by rw [if_neg hw]⟩
      ·exact ⟨sb_,sb_,sb_,sb_,sb_,trivial⟩
      ·exact Mem.Less.refl _
    rintro d3 ⟨R3,hd3⟩
    intro _ _ hs_ hl_
    (try dsimp only at *)
    refine athen_n ?_
    refine AWP.sub _ hs_ (AWP.less _ hl_ ?_)
    clear hs_ hl_
    have z3:=R3.size
    refine k_a (k_m rfl (k_m rfl ?_))
    refine rC (Calm.bin rfl rfl b_sub_i64) ?_
    refine rC (Calm.bin rfl rfl b_geq) ?_
    refine k_n ?_
    refine k_u [(0,_),(1,_),(2,_),(7,_),(8,_),(98,_)] ?_
    refine AWP.join (X:=Array Nat) (fun x=>[(0,.slice (some ⟨b,0,none⟩) n cap),(1,.int .i64 a),(2,.int .i64 e),(7,.int .i64 ((w+1:Nat):Int)),(8,.int .i64 ((5-(s+1):Nat):Int))]) (fun x=>S.set b ⟨5,(x).toList.map encB,room⟩) (fun x=>Rw (fun _=>True) n x∧x=(if e-(w+1) ≥ 2 then shiftUp ltN e (w+1+1) d3 else d3)) ?_ ?_
    ·by_cases hw:2≤e-(w+1)
     ·refine k_T rfl ?_
      refine k_a (k_m rfl ?_)
      refine rC (Calm.bin rfl rfl b_add_i64) ?_
      refine k_e rfl ?_
      refine k_u [(0,_),(1,_),(2,_),(7,_),(8,_),(98,_),(10,_)] ?_
      refine AWP.block ?_
      refine AWP.loop (X:=Nat × Array Nat) (fun x=>[(0,.slice (some ⟨b,0,none⟩) n cap),(1,.int .i64 a),(2,.int .i64 e),(7,.int .i64 ((w+1:Nat):Int)),(8,.int .i64 ((5-(s+1):Nat):Int)),(10,.int .i64 x.1)]) (fun x=>S.set b ⟨5,(x.2).toList.map encB,room⟩) (fun x=>w+1+1≤x.1∧x.1≤e∧Rw (fun _=>True) n x.2∧shiftUp ltN e x.1 x.2=shiftUp ltN e (w+1+1) d3) (fun x=>e-x.1) ((w+1+1,d3)) ⟨sb_,sb_,sb_,sb_,sb_,sb_,trivial⟩ (Mem.Less.refl _) (⟨Nat.le_refl _,by dsimp only;omega,R3,rfl⟩) ?_
      rintro ⟨j,d4⟩ ⟨k1,k2,R4,k3⟩
      (try dsimp only at *)
      have z4:=R4.size
      by_cases hj:j<e
      ·obtain ⟨j,rfl⟩ : ∃ q,j=q+1:=⟨j-1,by omega⟩
       refine AWP.seq (k_a (k_m rfl (k_m rfl ?_)))
       refine rC (Calm.bin rfl rfl b_lss) ?_
       refine k_n ?_
       refine k_u [(0,_),(1,_),(2,_),(7,_),(8,_),(10,_),(103,_)] ?_
       refine k_T rfl ?_
       refine k_k (AWP.seq ?_)
       refine AWP.block ?_
       refine AWP.seq (AWP.seq ?_)
       refine AWP.draw [(0,true),(1,true),(2,true),(3,true),(4,true),(5,true),(6,true),(7,true),(8,true),(9,false),(10,true)] [] mixed (by kernel_rfl) ?_
       refine dP (hc:=fun _=>Calm.move rfl) (h:=?_)
       refine dP (hc:=fun _=>Calm.move rfl) (h:=?_)
       refine dP (hc:=fun _=>Calm.indexS Try.underlying107 ty_size_5 rfl rfl (by omega) (by omega)) (h:=?_)
       refine dC (hc:=Calm.load ty_plain_5 rfl (rd_row (k:=j+1) own_ rw_ rw_)) (h:=?_)
       refine dP (hc:=fun _=>Calm.move rfl) (h:=?_)
       refine dP (hc:=fun _=>Calm.move rfl) (h:=?_)
       refine dP (hc:=fun _=>Calm.bin rfl rfl b_sub_i64) (h:=?_)
       refine dP (hc:=fun _=>Calm.indexS Try.underlying107 ty_size_5 rfl rfl (by omega) (by omega)) (h:=?_)
       refine dC (hc:=Calm.load ty_plain_5 rfl (rd_row (k:=j) own_ rw_ rw_)) (h:=?_)
       refine draw_only rfl ?_
       refine ARun.call (lit_lt rfl) go_165 rfl (soB_less _ _ _) ?_
       rintro _ _ ⟨rfl,rfl⟩
       refine arun_nil ⟨fun _=>less_,?_⟩
       refine dP (hc:=fun _=>Calm.un rfl (una_not _)) (h:=?_)
       refine draw_nil ?_
       refine athen_n ?_
       refine k_u [(0,_),(1,_),(2,_),(7,_),(8,_),(10,_),(103,_),(116,_)] ?_
       refine AWP.condB rfl (fun hl=>?_) (fun hl=>?_)
       ·have hl:=nt_ hl
        refine AWP.exit ?_
        refine athen_exit ?_
        refine ain_other rfl ?_
        refine athen_exit ?_
        refine athen_exit ?_
        refine ain_same ?_
        refine ⟨d4,?_,?_,?_⟩
        all_goals (try dsimp only)
        ·exact ⟨R4,by rw [if_pos hw,← k3,← su_no ltN (by rw [Nat.add_sub_cancel];exact hl)]⟩
        ·exact ⟨sb_,sb_,sb_,sb_,sb_,trivial⟩
        ·exact Mem.Less.refl _
       ·have hl:=nf_ hl
        refine k_k ?_
        refine AWP.draw [(0,true),(1,true),(2,true),(3,true),(4,true),(5,true),(6,true),(7,true),(8,true),(9,true),(10,true),(11,true),(12,true),(13,true),(14,true),(15,false),(16,true),(17,false)] [15,17] mixed (by kernel_rfl) ?_
        refine dP (hc:=fun _=>Calm.move rfl) (h:=?_)
        refine dP (hc:=fun _=>Calm.move rfl) (h:=?_)
        refine dP (hc:=fun _=>Calm.move rfl) (h:=?_)
        refine dP (hc:=fun _=>Calm.move rfl) (h:=?_)
        refine dP (hc:=fun _=>Calm.bin rfl rfl b_sub_i64) (h:=?_)
        refine dP (hc:=fun _=>Calm.move rfl) (h:=?_)
        refine dP (hc:=fun _=>Calm.move rfl) (h:=?_)
        refine dP (hc:=fun _=>Calm.bin rfl rfl b_sub_i64) (h:=?_)
        refine dP (hc:=fun _=>Calm.indexS Try.underlying107 ty_size_5 rfl rfl (by omega) (by omega)) (h:=?_)
        refine dC (hc:=Calm.load ty_plain_5 rfl (rd_row (k:=j) own_ rw_ rw_)) (h:=?_)
        refine dP (hc:=fun _=>Calm.move rfl) (h:=?_)
        refine dP (hc:=fun _=>Calm.move rfl) (h:=?_)
        refine dP (hc:=fun _=>Calm.indexS Try.underlying107 ty_size_5 rfl rfl (by omega) (by omega)) (h:=?_)
        refine dC (hc:=Calm.load ty_plain_5 rfl (rd_row (k:=j+1) own_ rw_ rw_)) (h:=?_)
        refine dP (hc:=fun _=>Calm.indexS Try.underlying107 ty_size_5 rfl rfl (by omega) (by omega)) (h:=?_)
        refine draw_only rfl ?_
        refine ARun.storeRow encB (j+1) rfl rfl ty_size_5 ⟨rfl,rfl⟩ own_ rw_ rw_ ?_
        try simp only [k_ms,k_sz,k_ss,k_za,Nat.reduceAdd]
        refine arun_nil ⟨fun h=>absurd h (by decide),?_⟩
        refine dP (hc:=fun _=>Calm.indexS Try.underlying107 ty_size_5 rfl rfl (by omega) (by omega)) (h:=?_)
        refine draw_only rfl ?_
        refine ARun.storeRow encB (j) rfl rfl ty_size_5 ⟨rfl,rfl⟩ own_ rw_ rw_ ?_
        try simp only [k_ms,k_sz,k_ss,k_za,Nat.reduceAdd]
        refine arun_nil ⟨fun h=>absurd h (by decide),?_⟩
        refine draw_nil ?_
        refine ain_n ?_
        refine athen_n ?_
        refine k_u [(0,_),(1,_),(2,_),(7,_),(8,_),(10,_),(103,_),(116,_)] ?_
        refine AWP.region ?_
        refine k_m rfl ?_
        refine rC (Calm.bin rfl rfl b_add_i64) ?_
        refine k_e rfl ?_
        refine ⟨(j+1+1,swp d4 (j+1) j),?_,?_,?_,?_⟩
        all_goals (try dsimp only)
        ·exact ⟨sb_,sb_,sb_,sb_,sb_,sb_,trivial⟩
        ·exact Mem.Less.refl _
        ·exact ⟨by omega,by omega,R4.swp _ _ (by omega) (by omega),(su_go ltN (j:=j+1) hj (by rw [Nat.add_sub_cancel];exact hl)).trans k3⟩
        ·omega
      ·refine AWP.seq (k_a (k_m rfl (k_m rfl ?_)))
       refine rC (Calm.bin rfl rfl b_lss) ?_
       refine k_n ?_
       refine k_u [(0,_),(1,_),(2,_),(7,_),(8,_),(10,_),(103,_)] ?_
       refine k_F rfl ?_
       refine AWP.exit ?_
       refine athen_exit ?_
       refine athen_exit ?_
       refine ain_same ?_
       refine ⟨d4,?_,?_,?_⟩
       all_goals (try dsimp only)
       ·exact ⟨R4,by rw [if_pos hw,← k3,← su_end ltN hj]⟩
       ·exact ⟨sb_,sb_,sb_,sb_,sb_,trivial⟩
       ·exact Mem.Less.refl _
     ·refine k_F rfl ?_
      refine AWP.skip ?_
      refine ⟨d3,?_,?_,?_⟩
      all_goals (try dsimp only)
      ·exact ⟨R3,by rw [if_neg hw]⟩
      ·exact ⟨sb_,sb_,sb_,sb_,sb_,trivial⟩
      ·exact Mem.Less.refl _
    rintro d4 ⟨R4,hd4⟩
    intro _ _ hs_ hl_
    (try dsimp only at *)
    refine ain_n ?_
    refine athen_n ?_
    refine AWP.sub _ hs_ (AWP.less _ hl_ ?_)
    clear hs_ hl_
    refine AWP.region ?_
    refine k_m rfl ?_
    refine rC (Calm.bin rfl rfl b_add_i64) ?_
    refine k_e rfl ?_
    refine ⟨(s,w+1,d4),?_,?_,?_,?_⟩
    all_goals (try dsimp only)
    ·exact ⟨sb_,sb_,sb_,sb_,sb_,trivial⟩
    ·exact Mem.Less.refl _
    ·exact ⟨by omega,by omega,by omega,R4,(pi_step ltN hS (by omega) h50 hd2 hd3 hd4).trans h3⟩
    ·omega
 ·obtain rfl:s=0:=by omega
  refine AWP.seq (k_a (k_m rfl ?_))
  refine rC (Calm.bin rfl rfl b_lss) ?_
  refine k_n ?_
  refine k_u [(0,_),(1,_),(2,_),(7,_),(8,_),(14,_)] ?_
  refine k_F rfl ?_
  refine AWP.exit ?_
  refine athen_exit ?_
  refine athen_exit ?_
  refine ain_same ?_
  refine athen_n ?_
  refine k_a (k_e rfl ?_)
  refine AWP.ret ?_
  refine ⟨_,_,⟨_,_,rfl,rfl,rfl⟩,Mem.Less.refl _,?_⟩
  rw [← h3];exact ⟨rfl,rfl,R1⟩
end Go.Proofs.Ytgidjbpgkeemiaa
namespace Go.Proofs.Ytgidjbpgkeemiaa
open Go.RowKit
open Mv Srt
open Go.Sort (swp insInner insOuter insertionSort siftDown heapBuild heapPop heapSort scanUp scanDown partLoop partition partEqLoop partitionEqual scanSorted shiftDown shiftUp partialIns partialInsertionSort order2 median medianAdjacent choosePivot reverseLoop reverseRange breakStep breakPatterns pdq bitsLen xorNext Hint)
set_option maxRecDepth 4000
set_option maxHeartbeats 8000000 in
theorem soB_pdq {S : Mem} (b room n cap : Nat) (hb : Fresh S b) (hn : n ≤ 1048576) : ∀ (m : Nat) (d : Array Nat) (R : Rw (fun _ => True) n d) (ia ie il : Int) (a e limit : Nat), ia = a → ie = e → il = limit → a ≤ e → e ≤ n → limit ≤ 1000 → e - a = m →
  ACall Try.prog 164 #[.slice (some ⟨b,0,none⟩) n cap,.int .i64 ia,.int .i64 ie,.int .i64 il] (S.set b ⟨5,(d).toList.map encB,room⟩) fun r S'=>S'=S.set b ⟨5,(pdq ltN d a e limit true true).toList.map encB,room⟩∧Rw (fun _=>True) n (pdq ltN d a e limit true true):=by
 intro m
 induction m using Nat.strongRecOn with
 | _ m ih =>
 intro d R ia ie il a e limit ha he hl hae hen hlim hm
 subst ha he hl
 refine ACall.enter (rs:=[]) 134 [(0,.slice (some ⟨b,0,none⟩) n cap),(1,.int .i64 a),(2,.int .i64 e),(3,.int .i64 limit)] Try.func164 rfl rfl (Nat.le_of_ble_eq_true rfl) rfl ⟨rfl,rfl,rfl,rfl,trivial⟩ ?_
 refine k_a (k_e rfl (k_a (k_e rfl ?_)))
 refine AWP.block ?_
 refine AWP.loop (X:=Nat × Nat × Nat × Bool × Bool × Array Nat) (fun x=>[(0,.slice (some ⟨b,0,none⟩) n cap),(1,.int .i64 x.1),(2,.int .i64 x.2.1),(3,.int .i64 x.2.2.1),(8,.bool x.2.2.2.1),(9,.bool x.2.2.2.2.1)]) (fun x=>S.set b ⟨5,(x.2.2.2.2.2).toList.map encB,room⟩) (fun x=>x.1≤x.2.1∧x.2.1≤e∧Rw (fun _=>True) n x.2.2.2.2.2∧x.2.1-x.1≤m∧x.2.2.1≤limit∧pdq ltN x.2.2.2.2.2 x.1 x.2.1 x.2.2.1 x.2.2.2.1 x.2.2.2.2.1=pdq ltN d a e limit true true) (fun x=>x.2.1-x.1) ((a,e,limit,true,true,d)) ⟨sb_,sb_,sb_,sb_,sb_,sb_,trivial⟩ (Mem.Less.refl _) (⟨hae,Nat.le_refl _,R,by dsimp only;omega,Nat.le_refl _,rfl⟩) ?_
 rintro ⟨a1,e1,l1,w1,w2,d0⟩ ⟨h1,h2,R0,h4,h5,hq⟩
 (try dsimp only at *)
 have z0:=R0.size
 by_cases h12:e1-a1≤12
 ·refine AWP.block ?_
  refine k_a (k_m rfl (k_m rfl ?_))
  refine rC (Calm.bin rfl rfl b_sub_i64) ?_
  refine k_e rfl ?_
  refine k_u [(0,_),(1,_),(2,_),(3,_),(8,_),(9,_),(10,_)] ?_
  refine AWP.seq (k_a (k_m rfl ?_))
  refine rC (Calm.bin rfl rfl b_leq) ?_
  refine k_n ?_
  refine k_u [(0,_),(1,_),(2,_),(3,_),(8,_),(9,_),(10,_),(23,_)] ?_
  refine k_T rfl ?_
  refine k_a (k_m rfl (k_m rfl (k_m rfl ?_)))
  refine ARun.call (lit_lt rfl) go_191 rfl (soB_ins b room n cap hb hn d0 R0 _ _ a1 e1 rfl rfl (by omega) (by omega)) ?_
  rintro _ _ ⟨rfl,R1⟩
  refine k_n ?_
  refine k_u [(0,_),(1,_),(2,_),(3,_),(8,_),(9,_),(10,_),(23,_)] ?_
  refine k_r ?_
  refine ain_ret ?_
  refine athen_ret ?_
  refine ain_ret ?_
  refine ⟨_,_,rfl,Mem.Less.refl _,?_⟩
  rw [← hq,pdq_ins ltN h12];exact ⟨rfl,R1⟩
 ·refine AWP.block ?_
  refine k_a (k_m rfl (k_m rfl ?_))
  refine rC (Calm.bin rfl rfl b_sub_i64) ?_
  refine k_e rfl ?_
  refine k_u [(0,_),(1,_),(2,_),(3,_),(8,_),(9,_),(10,_)] ?_
  refine AWP.seq (k_a (k_m rfl ?_))
  refine rC (Calm.bin rfl rfl b_leq) ?_
  refine k_n ?_
  refine k_u [(0,_),(1,_),(2,_),(3,_),(8,_),(9,_),(10,_),(23,_)] ?_
  refine k_F rfl ?_
  by_cases hl0:l1=0
  ·refine k_k (AWP.seq (k_a (k_m rfl ?_)))
   refine rC (Calm.bin rfl rfl b_eql) ?_
   refine k_n ?_
   refine k_u [(0,_),(1,_),(2,_),(3,_),(8,_),(9,_),(10,_),(23,_),(29,_)] ?_
   refine k_T rfl ?_
   refine k_a (k_m rfl (k_m rfl (k_m rfl ?_)))
   refine ARun.call (lit_lt rfl) go_192 rfl (soB_heap b room n cap hb hn d0 R0 _ _ a1 e1 rfl rfl (by omega) (by omega)) ?_
   rintro _ _ ⟨rfl,R1⟩
   refine k_n ?_
   refine k_u [(0,_),(1,_),(2,_),(3,_),(8,_),(9,_),(10,_),(23,_),(29,_)] ?_
   refine k_r ?_
   refine ain_ret ?_
   refine athen_ret ?_
   refine ain_ret ?_
   refine ⟨_,_,rfl,Mem.Less.refl _,?_⟩
   rw [← hq,pdq_heap ltN h12 hl0];exact ⟨rfl,R1⟩
  ·refine k_k (AWP.seq (k_a (k_m rfl ?_)))
   refine rC (Calm.bin rfl rfl b_eql) ?_
   refine k_n ?_
   refine k_u [(0,_),(1,_),(2,_),(3,_),(8,_),(9,_),(10,_),(23,_),(29,_)] ?_
   refine k_F rfl ?_
   rw [pdq_1 ltN h12 hl0] at hq
   refine k_k (AWP.seq (k_a (k_m rfl ?_)))
   refine rC (Calm.un rfl (una_not _)) ?_
   refine k_n ?_
   refine k_u [(0,_),(1,_),(2,_),(3,_),(8,_),(9,_),(10,_),(23,_),(29,_),(35,_)] ?_
   refine AWP.join (X:=Nat × Array Nat) (fun x=>[(0,.slice (some ⟨b,0,none⟩) n cap),(1,.int .i64 a1),(2,.int .i64 e1),(3,.int .i64 x.1),(8,.bool w1),(9,.bool w2),(10,.int .i64 ((e1-a1:Nat):Int))]) (fun x=>S.set b ⟨5,(x.2).toList.map encB,room⟩) (fun x=>x.1≤l1∧Rw (fun _=>True) n x.2∧pdq1 ltN x.2 a1 e1 x.1 w1 w2=pdq ltN d a e limit true true) ?_ ?_
   ·cases w1
    ·refine k_T rfl ?_
     refine k_a (k_m rfl (k_m rfl (k_m rfl ?_)))
     refine ARun.call (lit_lt rfl) go_193 rfl (soB_brk b room n cap hb hn d0 R0 _ _ a1 e1 rfl rfl (by omega) (by omega)) ?_
     rintro _ _ ⟨rfl,R1⟩
     refine k_n ?_
     refine k_u [(0,_),(1,_),(2,_),(3,_),(8,_),(9,_),(10,_),(23,_),(29,_),(35,_)] ?_
     refine AWP.region ?_
     refine k_m rfl ?_
     refine rC (Calm.bin rfl rfl b_sub_i64) ?_
     refine k_s rfl ?_
     refine arun_nil ?_
     refine ⟨(l1-1,breakPatterns d0 a1 e1),?_,?_,?_⟩
     all_goals (try dsimp only)
     ·exact ⟨by omega,R1,hq⟩
     ·exact ⟨sb_,sb_,sb_,sb_,sb_,sb_,sb_,trivial⟩
     ·exact Mem.Less.refl _
    ·refine k_F rfl ?_
     refine AWP.skip ?_
     refine ⟨(l1,d0),?_,?_,?_⟩
     all_goals (try dsimp only)
     ·exact ⟨Nat.le_refl _,R0,hq⟩
     ·exact ⟨sb_,sb_,sb_,sb_,sb_,sb_,sb_,trivial⟩
     ·exact Mem.Less.refl _
   rintro ⟨l2,d1⟩ ⟨k1,R1,hq⟩
   intro _ _ hs_ hl_
   (try dsimp only at *)
   refine athen_n ?_
   refine AWP.sub _ hs_ (AWP.less _ hl_ ?_)
   clear hs_ hl_
   have z1:=R1.size
   obtain ⟨⟨p0,ht⟩,hpc⟩ : ∃ q,q=choosePivot ltN d1 a1 e1:=⟨_,rfl⟩
   refine k_a (k_m rfl (k_m rfl (k_m rfl ?_)))
   refine ARun.call (lit_lt rfl) go_194 rfl ((hpc ▸ soB_pivot b room n cap hb hn d1 R1 _ _ a1 e1 rfl rfl (by omega) (by omega))) ?_
   rintro _ _ ⟨rfl,rfl,g1,g2⟩
   dsimp only at g1 g2
   rw [pdq1,← hpc] at hq
   dsimp only at hq
   refine k_m rfl ?_
   refine rC (Calm.extract rfl rfl) ?_
   refine rC (Calm.extract rfl rfl) ?_
   refine k_s rfl (k_e rfl ?_)
   refine k_u [(0,_),(1,_),(2,_),(3,_),(8,_),(9,_),(10,_),(11,_),(12,_)] ?_
   refine AWP.seq (k_a (k_m rfl ?_))
   refine rC (Calm.bin rfl rfl b_eql) ?_
   refine k_n ?_
   refine k_u [(0,_),(1,_),(2,_),(3,_),(8,_),(9,_),(10,_),(11,_),(12,_),(50,_)] ?_
   refine AWP.join (X:=Nat × Hint × Array Nat) (fun x=>[(0,.slice (some ⟨b,0,none⟩) n cap),(1,.int .i64 a1),(2,.int .i64 e1),(3,.int .i64 l2),(8,.bool w1),(9,.bool w2),(10,.int .i64 ((e1-a1:Nat):Int)),(11,.int .i64 x.1),(12,.int .i64 (hintI x.2.1))]) (fun x=>S.set b ⟨5,(x.2.2).toList.map encB,room⟩) (fun x=>a1≤x.1∧x.1<e1∧Rw (fun _=>True) n x.2.2∧pdq2 ltN x.2.2 a1 e1 l2 w1 w2 x.1 x.2.1=pdq ltN d a e limit true true) ?_ ?_
   ·by_cases hde:ht = .decreasing
    ·subst hde
     refine k_T rfl ?_
     refine k_a (k_m rfl (k_m rfl (k_m rfl ?_)))
     refine ARun.call (lit_lt rfl) go_195 rfl (soB_rev b room n cap hb hn d1 R1 _ _ a1 e1 rfl rfl (by omega) (by omega)) ?_
     rintro _ _ ⟨rfl,R2⟩
     refine k_n ?_
     refine k_u [(0,_),(1,_),(2,_),(3,_),(8,_),(9,_),(10,_),(11,_),(12,_),(50,_)] ?_
     refine k_a (k_m rfl ?_)
     refine rC (Calm.bin rfl rfl b_sub_i64) ?_
     refine k_m rfl (k_m rfl ?_)
     refine rC (Calm.bin rfl rfl b_sub_i64) ?_
     refine rC (Calm.bin rfl rfl b_sub_i64) ?_
     refine k_e rfl ?_
     refine k_u [(0,_),(1,_),(2,_),(3,_),(8,_),(9,_),(10,_),(11,_),(12,_),(50,_)] ?_
     refine AWP.region ?_
     refine k_s rfl ?_
     refine arun_nil ?_
     refine ⟨(e1-1-(p0-a1),.increasing,reverseRange d1 a1 e1),?_,?_,?_⟩
     all_goals (try dsimp only)
     ·exact ⟨by omega,by omega,R2,by rw [if_pos rfl] at hq;exact hq⟩
     ·exact ⟨sb_,sb_,sb_,sb_,sb_,sb_,sb_,sb_,sb_,trivial⟩
     ·exact Mem.Less.refl _
    ·have hni:=hint_ne hde
     refine k_F rfl ?_
     refine AWP.skip ?_
     refine ⟨(p0,ht,d1),?_,?_,?_⟩
     all_goals (try dsimp only)
     ·exact ⟨g1,g2,R1,by rw [if_neg hde] at hq;exact hq⟩
     ·exact ⟨sb_,sb_,sb_,sb_,sb_,sb_,sb_,sb_,sb_,trivial⟩
     ·exact Mem.Less.refl _
   rintro ⟨pv,hi,d2⟩ ⟨g1,g2,R2,hq⟩
   intro _ _ hs_ hl_
   (try dsimp only at *)
   refine athen_n ?_
   refine AWP.sub _ hs_ (AWP.less _ hl_ ?_)
   clear hs_ hl_
   have z2:=R2.size
   have hh1:=hint_1 hi
   refine AWP.seq (AWP.seq ?_)
   refine AWP.join (X:=Bool) (fun x=>[(0,.slice (some ⟨b,0,none⟩) n cap),(1,.int .i64 a1),(2,.int .i64 e1),(3,.int .i64 l2),(8,.bool w1),(9,.bool w2),(10,.int .i64 ((e1-a1:Nat):Int)),(11,.int .i64 pv),(68,.bool x)]) (fun x=>S.set b ⟨5,(d2).toList.map encB,room⟩) (fun x=>x=(w1 && w2 && decide (hi = .increasing))) ?_ ?_
   ·cases w1
    ·refine AWP.region ?_
     refine k_m rfl (k_m rfl ?_)
     first|refine k_q 62 ?_|refine rG 62 (Calm.move rfl) ?_
     first|refine k_t rfl rfl ?_|refine k_f rfl rfl ?_
     refine k_m rfl ?_
     first|refine k_q 65 ?_|refine rG 65 (Calm.move rfl) ?_
     first|refine k_q 65 ?_|refine rG 65 (Calm.bin rfl rfl b_eql) ?_
     first|refine k_t rfl rfl ?_|refine k_f rfl rfl ?_
     refine arun_nil ?_
     refine ⟨false,?_,?_,?_⟩
     all_goals (try dsimp only)
     ·rfl
     ·exact ⟨sb_,sb_,sb_,sb_,sb_,sb_,sb_,sb_,sb_,trivial⟩
     ·exact Mem.Less.refl _
    ·cases w2
     ·refine AWP.region ?_
      refine k_m rfl (k_m rfl ?_)
      first|refine k_q 62 ?_|refine rG 62 (Calm.move rfl) ?_
      first|refine k_t rfl rfl ?_|refine k_f rfl rfl ?_
      refine k_m rfl ?_
      first|refine k_q 65 ?_|refine rG 65 (Calm.move rfl) ?_
      first|refine k_q 65 ?_|refine rG 65 (Calm.bin rfl rfl b_eql) ?_
      first|refine k_t rfl rfl ?_|refine k_f rfl rfl ?_
      refine arun_nil ?_
      refine ⟨false,?_,?_,?_⟩
      all_goals (try dsimp only)
      ·rfl
      ·exact ⟨sb_,sb_,sb_,sb_,sb_,sb_,sb_,sb_,sb_,trivial⟩
      ·exact Mem.Less.refl _
     ·refine AWP.region ?_
      refine k_m rfl (k_m rfl ?_)
      first|refine k_q 62 ?_|refine rG 62 (Calm.move rfl) ?_
      first|refine k_t rfl rfl ?_|refine k_f rfl rfl ?_
      refine k_m rfl ?_
      first|refine k_q 65 ?_|refine rG 65 (Calm.move rfl) ?_
      first|refine k_q 65 ?_|refine rG 65 (Calm.bin rfl rfl (bin_bool (bin_eql _ _) hh1)) ?_
      first|refine k_t rfl rfl ?_|refine k_f rfl rfl ?_
      refine arun_nil ?_
      refine ⟨(decide (hi = .increasing)),?_,?_,?_⟩
      all_goals (try dsimp only)
      ·simp
      ·exact ⟨sb_,sb_,sb_,sb_,sb_,sb_,sb_,sb_,sb_,trivial⟩
      ·exact Mem.Less.refl _
   rintro x hx
   intro _ _ hs_ hl_
   (try dsimp only at *)
   refine athen_n ?_
   refine AWP.sub _ hs_ (AWP.less _ hl_ ?_)
   clear hs_ hl_
   rw [pdq2,← hx] at hq
   refine AWP.join (X:=Array Nat) (fun x=>[(0,.slice (some ⟨b,0,none⟩) n cap),(1,.int .i64 a1),(2,.int .i64 e1),(3,.int .i64 l2),(8,.bool w1),(9,.bool w2),(10,.int .i64 ((e1-a1:Nat):Int)),(11,.int .i64 pv)]) (fun x=>S.set b ⟨5,(x).toList.map encB,room⟩) (fun x=>Rw (fun _=>True) n x∧pdq3 ltN x a1 e1 l2 w1 w2 pv=pdq ltN d a e limit true true) ?_ ?_
   ·cases x
    ·refine k_F rfl ?_
     refine AWP.skip ?_
     refine ⟨d2,?_,?_,?_⟩
     all_goals (try dsimp only)
     ·exact ⟨R2,hq⟩
     ·exact ⟨sb_,sb_,sb_,sb_,sb_,sb_,sb_,sb_,trivial⟩
     ·exact Mem.Less.refl _
    ·refine k_T rfl ?_
     obtain ⟨⟨d3,pb⟩,hp3⟩ : ∃ q,q=partialInsertionSort ltN d2 a1 e1:=⟨_,rfl⟩
     rw [if_pos rfl,← hp3] at hq
     dsimp only at hq
     refine k_a (k_m rfl (k_m rfl (k_m rfl ?_)))
     refine ARun.call (lit_lt rfl) go_196 rfl ((hp3 ▸ soB_pins b room n cap hb hn d2 R2 _ _ a1 e1 rfl rfl (by omega) (by omega))) ?_
     rintro _ _ ⟨rfl,rfl,R3⟩
     refine k_n ?_
     refine k_u [(0,_),(1,_),(2,_),(3,_),(8,_),(9,_),(10,_),(11,_),(68,_),(72,_)] ?_
     cases pb
     ·refine k_F rfl ?_
      refine AWP.skip ?_
      refine ⟨d3,?_,?_,?_⟩
      all_goals (try dsimp only)
      ·exact ⟨R3,hq⟩
      ·exact ⟨sb_,sb_,sb_,sb_,sb_,sb_,sb_,sb_,trivial⟩
      ·exact Mem.Less.refl _
     ·refine k_T rfl ?_
      refine AWP.ret ?_
      refine join_ret ?_
      refine athen_ret ?_
      refine ain_ret ?_
      refine athen_ret ?_
      refine ain_ret ?_
      refine ⟨_,_,rfl,Mem.Less.refl _,?_⟩
      rw [← hq];exact ⟨rfl,R3⟩
   rintro d3 ⟨R3,hq⟩
   intro _ _ hs_ hl_
   (try dsimp only at *)
   refine athen_n ?_
   refine AWP.sub _ hs_ (AWP.less _ hl_ ?_)
   clear hs_ hl_
   clear hx
   have z3:=R3.size
   refine AWP.seq (AWP.seq ?_)
   refine AWP.join (X:=Bool) (fun x=>[(0,.slice (some ⟨b,0,none⟩) n cap),(1,.int .i64 a1),(2,.int .i64 e1),(3,.int .i64 l2),(8,.bool w1),(9,.bool w2),(10,.int .i64 ((e1-a1:Nat):Int)),(11,.int .i64 pv),(87,.bool x)]) (fun x=>S.set b ⟨5,(d3).toList.map encB,room⟩) (fun x=>x=(decide (a1 > 0) && !ltN d3[a1-1]! d3[pv]!)) ?_ ?_
   ·by_cases h0:0<a1
    ·refine AWP.draw [(0,true),(1,true),(2,true),(3,true),(4,true),(5,true),(6,true),(7,true),(8,true),(9,true),(10,true),(11,true),(12,false),(13,true),(14,true)] [] mixed (by kernel_rfl) ?_
     refine dP (hc:=fun _=>Calm.move rfl) (h:=?_)
     refine dP (hc:=fun _=>Calm.bin rfl rfl b_gtr) (h:=?_)
     refine dP (hc:=fun _=>Calm.move rfl) (h:=?_)
     first|refine k_d ?_|refine dG (hc:=fun _=>Calm.move rfl) (h:=?_)
     first|refine k_d ?_|refine dG (hc:=fun _=>Calm.move rfl) (h:=?_)
     first|refine k_d ?_|refine dG (hc:=fun _=>Calm.bin rfl rfl b_sub_i64) (h:=?_)
     first|refine k_d ?_|refine dG (hc:=fun _=>Calm.indexS Try.underlying107 ty_size_5 rfl rfl (by omega) (by omega)) (h:=?_)
     first|refine k_d ?_|refine dL (hc:=Calm.load ty_plain_5 rfl (rd_row (k:=a1-1) own_ rw_ rw_)) (h:=?_)
     first|refine k_d ?_|refine dG (hc:=fun _=>Calm.move rfl) (h:=?_)
     first|refine k_d ?_|refine dG (hc:=fun _=>Calm.move rfl) (h:=?_)
     first|refine k_d ?_|refine dG (hc:=fun _=>Calm.indexS Try.underlying107 ty_size_5 rfl rfl (by omega) (by omega)) (h:=?_)
     first|refine k_d ?_|refine dL (hc:=Calm.load ty_plain_5 rfl (rd_row (k:=pv) own_ rw_ rw_)) (h:=?_)
     refine draw_only rfl ?_
     refine ARun.callG 2 true 75 rfl (lit_lt rfl) rfl (lit_lt rfl) go_165 rfl (soB_less _ _ _) ?_
     rintro _ _ ⟨rfl,rfl⟩
     refine arun_nil ⟨fun _=>less_,?_⟩
     first|refine k_d ?_|refine dG (hc:=fun _=>Calm.un rfl (una_not _)) (h:=?_)
     refine dP (hc:=fun _=>(by first | exact Calm.pickT rfl rfl | exact Calm.pickF rfl rfl)) (h:=?_)
     refine draw_nil ?_
     refine ⟨(!ltN d3[a1-1]! d3[pv]!),?_,?_,?_⟩
     all_goals (try dsimp only)
     ·rw [decide_eq_true h0];rfl
     ·exact ⟨sb_,sb_,sb_,sb_,sb_,sb_,sb_,sb_,sb_,trivial⟩
     ·exact Mem.Less.refl _
    ·refine AWP.draw [(0,true),(1,true),(2,true),(3,true),(4,true),(5,true),(6,true),(7,true),(8,true),(9,true),(10,true),(11,true),(12,false),(13,true),(14,true)] [] mixed (by kernel_rfl) ?_
     refine dP (hc:=fun _=>Calm.move rfl) (h:=?_)
     refine dP (hc:=fun _=>Calm.bin rfl rfl b_gtr) (h:=?_)
     refine dP (hc:=fun _=>Calm.move rfl) (h:=?_)
     first|refine k_d ?_|refine dG (hc:=fun _=>Calm.move rfl) (h:=?_)
     first|refine k_d ?_|refine dG (hc:=fun _=>Calm.move rfl) (h:=?_)
     first|refine k_d ?_|refine dG (hc:=fun _=>Calm.bin rfl rfl b_sub_i64) (h:=?_)
     first|refine k_d ?_|refine dG (hc:=fun _=>Calm.indexS Try.underlying107 ty_size_5 rfl rfl (by omega) (by omega)) (h:=?_)
     first|refine k_d ?_|refine dL (hc:=Calm.load ty_plain_5 rfl (rd_row (k:=a1-1) own_ rw_ rw_)) (h:=?_)
     first|refine k_d ?_|refine dG (hc:=fun _=>Calm.move rfl) (h:=?_)
     first|refine k_d ?_|refine dG (hc:=fun _=>Calm.move rfl) (h:=?_)
     first|refine k_d ?_|refine dG (hc:=fun _=>Calm.indexS Try.underlying107 ty_size_5 rfl rfl (by omega) (by omega)) (h:=?_)
     first|refine k_d ?_|refine dL (hc:=Calm.load ty_plain_5 rfl (rd_row (k:=pv) own_ rw_ rw_)) (h:=?_)
     refine draw_only rfl ?_
     first | refine rS 75 ?_ | refine rU 75 ?_
     refine arun_nil ⟨fun _=>less_,?_⟩
     first|refine k_d ?_|refine dG (hc:=fun _=>Calm.un rfl (una_not _)) (h:=?_)
     refine dP (hc:=fun _=>(by first | exact Calm.pickT rfl rfl | exact Calm.pickF rfl rfl)) (h:=?_)
     refine draw_nil ?_
     refine ⟨false,?_,?_,?_⟩
     all_goals (try dsimp only)
     ·rw [decide_eq_false h0];rfl
     ·exact ⟨sb_,sb_,sb_,sb_,sb_,sb_,sb_,sb_,sb_,trivial⟩
     ·exact Mem.Less.refl _
   rintro x hx
   intro _ _ hs_ hl_
   (try dsimp only at *)
   refine athen_n ?_
   refine AWP.sub _ hs_ (AWP.less _ hl_ ?_)
   clear hs_ hl_
   rw [pdq3,← hx] at hq
   cases x
   ·refine k_F rfl ?_
    obtain ⟨⟨md,ap,d4⟩,hp4⟩ : ∃ q,q=partition ltN d3 a1 e1 pv:=⟨_,rfl⟩
    rw [if_neg Bool.false_ne_true,← hp4] at hq
    dsimp only at hq
    refine k_k (k_a (k_m rfl (k_m rfl (k_m rfl ?_))))
    refine k_m rfl ?_
    refine ARun.call (lit_lt rfl) go_198 rfl ((hp4 ▸ soB_part b room n cap hb hn d3 R3 _ _ _ a1 e1 pv rfl rfl rfl (by omega) (by omega) (by omega))) ?_
    rintro _ _ ⟨rfl,rfl,R4,g3,g4⟩
    dsimp only at R4 g3 g4
    rw [if_pos ⟨g3,g4⟩] at hq
    refine k_m rfl ?_
    refine rC (Calm.extract rfl rfl) ?_
    refine rC (Calm.extract rfl rfl) ?_
    refine k_s rfl (k_e rfl ?_)
    refine k_u [(0,_),(1,_),(2,_),(3,_),(8,_),(9,_),(10,_),(11,_),(87,_),(14,_),(15,_)] ?_
    by_cases hmd:md-a1<e1-md
    ·rw [if_pos hmd] at hq
     refine k_a (k_m rfl (k_e rfl ?_))
     refine k_u [(0,_),(1,_),(2,_),(3,_),(8,_),(9,_),(10,_),(11,_),(87,_),(14,_),(15,_)] ?_
     refine k_a (k_m rfl (k_m rfl ?_))
     refine rC (Calm.bin rfl rfl b_sub_i64) ?_
     refine k_m rfl (k_m rfl ?_)
     refine rC (Calm.bin rfl rfl b_sub_i64) ?_
     refine k_s rfl (k_e rfl ?_)
     refine k_u [(0,_),(1,_),(2,_),(3,_),(8,_),(9,_),(10,_),(11,_),(87,_),(14,_),(15,_),(16,_),(17,_)] ?_
     refine k_a (k_m rfl ?_)
     refine rC (Calm.bin rfl rfl b_quo_i64) ?_
     refine k_e rfl ?_
     refine k_u [(0,_),(1,_),(2,_),(3,_),(8,_),(9,_),(10,_),(11,_),(87,_),(14,_),(15,_),(16,_),(17,_),(18,_)] ?_
     refine k_a (k_m rfl (k_m rfl ?_))
     refine rC (Calm.bin rfl rfl b_lss) ?_
     refine k_n ?_
     refine k_u [(0,_),(1,_),(2,_),(3,_),(8,_),(9,_),(10,_),(11,_),(87,_),(14,_),(15,_),(16,_),(17,_),(18,_),(113,_)] ?_
     refine k_T rfl ?_
     refine k_a (k_m rfl (k_m rfl ?_))
     refine rC (Calm.bin rfl rfl b_geq) ?_
     refine k_e rfl ?_
     refine k_u [(0,_),(1,_),(2,_),(3,_),(8,_),(9,_),(10,_),(11,_),(87,_),(14,_),(15,_),(16,_),(17,_),(18,_),(113,_)] ?_
     refine k_a (k_m rfl (k_m rfl (k_m rfl (k_m rfl ?_))))
     refine ARun.call (lit_lt rfl) go_164 rfl (ih (md-a1) (by omega) d4 R4 _ _ _ a1 md l2 rfl rfl rfl (by omega) (by omega) (by omega) rfl) ?_
     rintro _ _ ⟨rfl,R5⟩
     refine k_n ?_
     refine k_u [(0,_),(1,_),(2,_),(3,_),(8,_),(9,_),(10,_),(11,_),(87,_),(14,_),(15,_),(16,_),(17,_),(18,_),(113,_)] ?_
     refine AWP.region ?_
     refine k_m rfl ?_
     refine rC (Calm.bin rfl rfl b_add_i64) ?_
     refine k_s rfl ?_
     refine arun_nil ?_
     refine ain_n ?_
     refine athen_n ?_
     refine ⟨(md+1,e1,l2,decide (md-a1 ≥ (e1-a1) / 8),ap,pdq ltN d4 a1 md l2 true true),?_,?_,?_,?_⟩
     all_goals (try dsimp only)
     ·exact ⟨sb_,sb_,sb_,sb_,wbv_ (by omega),sb_,trivial⟩
     ·exact Mem.Less.refl _
     ·exact ⟨by omega,by omega,R5,by omega,by omega,hq⟩
     ·omega
    ·rw [if_neg hmd] at hq
     refine k_a (k_m rfl (k_e rfl ?_))
     refine k_u [(0,_),(1,_),(2,_),(3,_),(8,_),(9,_),(10,_),(11,_),(87,_),(14,_),(15,_)] ?_
     refine k_a (k_m rfl (k_m rfl ?_))
     refine rC (Calm.bin rfl rfl b_sub_i64) ?_
     refine k_m rfl (k_m rfl ?_)
     refine rC (Calm.bin rfl rfl b_sub_i64) ?_
     refine k_s rfl (k_e rfl ?_)
     refine k_u [(0,_),(1,_),(2,_),(3,_),(8,_),(9,_),(10,_),(11,_),(87,_),(14,_),(15,_),(16,_),(17,_)] ?_
     refine k_a (k_m rfl ?_)
     refine rC (Calm.bin rfl rfl b_quo_i64) ?_
     refine k_e rfl ?_
     refine k_u [(0,_),(1,_),(2,_),(3,_),(8,_),(9,_),(10,_),(11,_),(87,_),(14,_),(15,_),(16,_),(17,_),(18,_)] ?_
     refine k_a (k_m rfl (k_m rfl ?_))
     refine rC (Calm.bin rfl rfl b_lss) ?_
     refine k_n ?_
     refine k_u [(0,_),(1,_),(2,_),(3,_),(8,_),(9,_),(10,_),(11,_),(87,_),(14,_),(15,_),(16,_),(17,_),(18,_),(113,_)] ?_
     refine k_F rfl ?_
     refine k_a (k_m rfl (k_m rfl ?_))
     refine rC (Calm.bin rfl rfl b_geq) ?_
     refine k_e rfl ?_
     refine k_u [(0,_),(1,_),(2,_),(3,_),(8,_),(9,_),(10,_),(11,_),(87,_),(14,_),(15,_),(16,_),(17,_),(18,_),(113,_)] ?_
     refine k_a (k_m rfl (k_m rfl ?_))
     refine rC (Calm.bin rfl rfl b_add_i64) ?_
     refine k_m rfl (k_m rfl ?_)
     refine ARun.call (lit_lt rfl) go_164 rfl (ih (e1-(md+1)) (by omega) d4 R4 _ _ _ (md+1) e1 l2 om_ rfl rfl (by omega) (by omega) (by omega) rfl) ?_
     rintro _ _ ⟨rfl,R5⟩
     refine k_n ?_
     refine k_u [(0,_),(1,_),(2,_),(3,_),(8,_),(9,_),(10,_),(11,_),(87,_),(14,_),(15,_),(16,_),(17,_),(18,_),(113,_)] ?_
     refine AWP.region ?_
     refine k_m rfl (k_s rfl ?_)
     refine arun_nil ?_
     refine ain_n ?_
     refine athen_n ?_
     refine ⟨(a1,md,l2,decide (e1-md ≥ (e1-a1) / 8),ap,pdq ltN d4 (md+1) e1 l2 true true),?_,?_,?_,?_⟩
     all_goals (try dsimp only)
     ·exact ⟨sb_,sb_,sb_,sb_,wbv_ (by omega),sb_,trivial⟩
     ·exact Mem.Less.refl _
     ·exact ⟨by omega,by omega,R5,by omega,by omega,hq⟩
     ·omega
   ·refine k_T rfl ?_
    obtain ⟨⟨md,d4⟩,hp4⟩ : ∃ q,q=partitionEqual ltN d3 a1 e1 pv:=⟨_,rfl⟩
    rw [if_pos rfl,← hp4] at hq
    dsimp only at hq
    refine k_a (k_m rfl (k_m rfl (k_m rfl (k_m rfl ?_))))
    refine ARun.call (lit_lt rfl) go_197 rfl ((hp4 ▸ soB_parteq b room n cap hb hn d3 R3 _ _ _ a1 e1 pv rfl rfl rfl (by omega) (by omega) (by omega))) ?_
    rintro _ _ ⟨rfl,rfl,R4,g3,g4⟩
    dsimp only at R4 g3 g4
    rw [if_pos ⟨g3,g4⟩] at hq
    refine k_e rfl ?_
    refine k_u [(0,_),(1,_),(2,_),(3,_),(8,_),(9,_),(10,_),(11,_),(87,_),(13,_)] ?_
    refine k_a (k_m rfl (k_e rfl ?_))
    refine k_u [(0,_),(1,_),(2,_),(3,_),(8,_),(9,_),(10,_),(11,_),(87,_),(13,_)] ?_
    refine AWP.exit ?_
    refine athen_exit ?_
    refine ain_same ?_
    refine athen_n ?_
    refine ⟨(md,e1,l2,w1,w2,d4),?_,?_,?_,?_⟩
    all_goals (try dsimp only)
    ·exact ⟨sb_,sb_,sb_,sb_,sb_,sb_,trivial⟩
    ·exact Mem.Less.refl _
    ·exact ⟨by omega,by omega,R4,by omega,by omega,hq⟩
    ·omega
set_option maxHeartbeats 1000000 in
theorem soB_sort {S : Mem} (b room n cap : Nat) (hb : Fresh S b) (hn : n ≤ 1048576) (d : Array Nat) (R : Rw (fun _ => True) n d) :
  ACall Try.prog 133 #[.slice (some ⟨b,0,none⟩) n cap] (S.set b ⟨5,(d).toList.map encB,room⟩) fun r S'=>S'=S.set b ⟨5,(pdq ltN d 0 n (bitsLen n) true true).toList.map encB,room⟩∧Rw (fun _=>True) n (pdq ltN d 0 n (bitsLen n) true true):=by
 have hbl:=bitsLen_small n hn
 refine ACall.enter (rs:=[]) 11 [(0,.slice (some ⟨b,0,none⟩) n cap)] Try.func133 rfl rfl (Nat.le_of_ble_eq_true rfl) rfl ⟨rfl,trivial⟩ ?_
 refine k_a (k_m rfl ?_)
 refine rC (Calm.lenSl Try.underlying107 rfl) ?_
 refine k_e rfl ?_
 refine k_u [(0,_),(2,_)] ?_
 refine AWP.region ?_
 refine k_m rfl (k_m rfl (k_m rfl ?_))
 refine rC (Calm.conv rfl (by first | exact conv_intW Try.underlying3 Try.underlying139 (IntWalk.u64_in _ (by omega)) | exact conv_int Try.underlying3 Try.underlying139)) ?_
 refine ARun.call (lit_lt rfl) go_122 rfl (so_Len n (by omega) _) ?_
 rintro _ _ ⟨rfl,rfl⟩
 refine ARun.call (lit_lt rfl) go_164 rfl (soB_pdq b room n cap hb hn (n-0) d R _ _ _ 0 n (bitsLen n) rfl rfl rfl (Nat.zero_le _) (Nat.le_refl _) (by omega) rfl) ?_
 rintro _ _ ⟨rfl,R1⟩
 refine arun_nil ?_
 refine ⟨_,_,rfl,Mem.Less.refl _,?_⟩
 exact ⟨rfl,R1⟩
theorem soB_ins0 (S : Mem) : ACall Try.prog 191 #[.slice none 0 0, .int .i64 0, .int .i64 0] S fun r S' => S' = S := by
 refine ACall.enter (rs:=[]) 49 [(0,.slice none 0 0),(1,.int .i64 0),(2,.int .i64 0)] Try.func191 rfl rfl (Nat.le_of_ble_eq_true rfl) rfl ⟨rfl,rfl,rfl,trivial⟩ ?_
 refine k_a (k_m rfl ?_)
 refine rC (Calm.bin rfl rfl b_add_i64) ?_
 refine k_e rfl ?_
 refine k_u [(0,_),(1,_),(2,_),(6,_)] ?_
 refine AWP.block ?_
 refine AWP.loop (X:=Unit) (fun _=>[(0,.slice none 0 0),(2,.int .i64 0),(6,.int .i64 1)]) (fun _=>S) (fun _=>True) (fun _=>0) (()) ⟨sb_,sb_,sb_,trivial⟩ (Mem.Less.refl _) (trivial) ?_
 rintro _ _
 (try dsimp only at *)
 refine AWP.seq (k_a (k_m rfl (k_m rfl ?_)))
 refine rC (Calm.bin rfl rfl b_lss) ?_
 refine k_n ?_
 refine k_u [(0,_),(2,_),(6,_),(12,_)] ?_
 refine k_F rfl ?_
 refine AWP.exit ?_
 refine athen_exit ?_
 refine athen_exit ?_
 refine ain_same ?_
 refine ⟨_,S,rfl,Mem.Less.refl _,?_⟩
 exact rfl
theorem soB_pdq0 (S : Mem) : ACall Try.prog 164 #[.slice none 0 0, .int .i64 0, .int .i64 0, .int .i64 0] S fun r S' => S' = S := by
 refine ACall.enter (rs:=[]) 134 [(0,.slice none 0 0),(1,.int .i64 0),(2,.int .i64 0),(3,.int .i64 0)] Try.func164 rfl rfl (Nat.le_of_ble_eq_true rfl) rfl ⟨rfl,rfl,rfl,rfl,trivial⟩ ?_
 refine k_a (k_e rfl (k_a (k_e rfl ?_)))
 refine AWP.block ?_
 refine AWP.loop (X:=Unit) (fun _=>[(0,.slice none 0 0),(1,.int .i64 0),(2,.int .i64 0)]) (fun _=>S) (fun _=>True) (fun _=>0) (()) ⟨rfl,rfl,rfl,trivial⟩ (Mem.Less.refl _) (trivial) ?_
 rintro _ _
 (try dsimp only at *)
 refine AWP.block ?_
 refine k_a (k_m rfl (k_m rfl ?_))
 refine rC (Calm.bin rfl rfl b_sub_i64) ?_
 refine k_e rfl ?_
 refine k_u [(0,_),(1,_),(2,_),(10,_)] ?_
 refine AWP.seq (k_a (k_m rfl ?_))
 refine rC (Calm.bin rfl rfl b_leq) ?_
 refine k_n ?_
 refine k_u [(0,_),(1,_),(2,_),(10,_),(23,_)] ?_
 refine k_T rfl ?_
 refine k_a (k_m rfl (k_m rfl (k_m rfl ?_)))
 refine ARun.call (lit_lt rfl) go_191 rfl (soB_ins0 S) ?_
 rintro _ S1 h1
 rw [h1];clear h1 S1
 refine k_n ?_
 refine k_u [(0,_),(1,_),(2,_),(10,_),(23,_)] ?_
 refine k_r ?_
 refine ain_ret ?_
 refine athen_ret ?_
 refine ain_ret ?_
 refine ⟨_,S,rfl,Mem.Less.refl _,?_⟩
 exact rfl
theorem soB_sort0 (S : Mem) : ACall Try.prog 133 #[.slice none 0 0] S fun r S' => S' = S := by
 refine ACall.enter (rs:=[]) 11 [(0,.slice none 0 0)] Try.func133 rfl rfl (Nat.le_of_ble_eq_true rfl) rfl ⟨rfl,trivial⟩ ?_
 refine k_a (k_m rfl ?_)
 refine rC (Calm.lenSl Try.underlying107 rfl) ?_
 refine k_e rfl ?_
 refine k_u [(0,_),(2,_)] ?_
 refine AWP.region ?_
 refine k_m rfl (k_m rfl (k_m rfl ?_))
 refine rC (Calm.conv rfl (by first | exact conv_intW Try.underlying3 Try.underlying139 (IntWalk.u64_in _ (by omega)) | exact conv_int Try.underlying3 Try.underlying139)) ?_
 refine ARun.call (lit_lt rfl) go_122 rfl (so_Len 0 (by omega) _) ?_
 rintro _ S1 ⟨rfl,h1⟩
 rw [h1];clear h1 S1
 refine ARun.call (lit_lt rfl) go_164 rfl (soB_pdq0 S) ?_
 rintro _ S1 h1
 rw [h1];clear h1 S1
 refine arun_nil ?_
 refine ⟨_,S,rfl,Mem.Less.refl _,?_⟩
 exact rfl
end Go.Proofs.Ytgidjbpgkeemiaa
namespace Go.Proofs.Ytgidjbpgkeemiaa
open Go.RowKit
open Mv Num Loser Srt
set_option maxRecDepth 4000
set_option maxHeartbeats 2000000 in
theorem odB_search (v : Value) (x : Nat) (D : List Nat) (S : Mem) (hv : Sl 1 (fun y => [encB y]) S v D) (hs : D.Pairwise (· < ·)) (hx : x ∈ D) (hl : D.length ≤ 1048576) :
  ACall Try.prog 135 #[v,encB x] S fun r S'=>r = .tuple #[.int .i64 (cntL D x:Nat),.bool true]∧S'=S:=by
 obtain ⟨a,cap,rfl,h1,h2,h3⟩:=id hv
 obtain ⟨b,o,rfl,hk⟩:=h3.resolve_left (fun e=>by rw [e] at hx;cases hx)
 refine ACall.enter (rs:=[.tmp 4,.tmp 5]) 54 [(0,.slice (some ⟨b,o,none⟩) D.length cap),(1,encB x)] Try.func135 rfl rfl (Nat.le_of_ble_eq_true rfl) rfl ⟨rfl,rfl,trivial⟩ ?_
 refine k_a (k_s rfl (k_e rfl (k_a (k_m rfl ?_))))
 refine rC (Calm.lenSl Try.underlying107 rfl) ?_
 refine k_e rfl ?_
 refine k_u [(0,_),(1,_),(4,_),(5,_),(6,_)] ?_
 refine k_a (k_m rfl (k_s rfl (k_e rfl ?_)))
 refine k_u [(0,_),(1,_),(4,_),(5,_),(6,_),(7,_),(8,_)] ?_
 refine AWP.seq ?_
 refine AWP.block ?_
 refine AWP.loop (X:=Nat × Nat) (fun y=>[(0,.slice (some ⟨b,o,none⟩) D.length cap),(1,encB x),(6,.int .i64 D.length),(7,.int .i64 y.1),(8,.int .i64 y.2)]) (fun y=>S) (fun y=>y.1≤y.2∧y.2≤D.length∧(∀ k (hk:k<D.length),k<y.1→D[k]<x) ∧ ∀ k (hk:k<D.length),y.2≤k→x≤D[k]) (fun y=>y.2-y.1) ((0,D.length)) ⟨rfl,rfl,rfl,rfl,rfl,trivial⟩ (Mem.Less.refl _) (⟨Nat.zero_le _,Nat.le_refl _,fun k _ h=>absurd h (Nat.not_lt_zero _),fun k hk h=>absurd hk (Nat.not_lt.2 h)⟩) ?_
 rintro ⟨i,j⟩ ⟨q1,q2,q3,q4⟩
 (try dsimp only at *)
 by_cases hij:i<j
 ·refine AWP.seq (k_a (k_m rfl (k_m rfl ?_)))
  refine rC (Calm.bin rfl rfl b_lss) ?_
  refine k_n ?_
  refine k_u [(0,_),(1,_),(6,_),(7,_),(8,_),(15,_)] ?_
  refine k_T rfl ?_
  obtain ⟨m,hm⟩ : ∃ m,m=(i+j) / 2:=⟨_,rfl⟩
  have hml:m<D.length:=by omega
  have hkm:S.Knows ⟨b,o+m*1,none⟩ [encB D[m]]:=hk m hml
  have e2:((i:Int)+j) / 2 ^ Int.toNat 1=(m:Int):=by rw [hm];show ((i:Int)+j) / 2=_;omega
  have e3:IntKind.i64.wrap (((i:Int)+j) / 2 ^ Int.toNat 1)=(m:Int):=by rw [e2];exact IntWalk.i64_in _ (by omega)
  refine k_k ?_
  refine AWP.block ?_
  refine k_a (k_m rfl (k_m rfl ?_))
  refine rC (Calm.bin rfl rfl b_add_i64) ?_
  refine rC (Calm.conv rfl (by first | exact conv_intW Try.underlying3 Try.underlying139 (IntWalk.u64_in _ (by omega)) | exact conv_int Try.underlying3 Try.underlying139)) ?_
  refine rC (Calm.bin rfl rfl b_shr) ?_
  refine rC (Calm.conv rfl (by first | exact conv_intW Try.underlying139 Try.underlying3 (IntWalk.i64_in _ (by omega)) | exact conv_int Try.underlying139 Try.underlying3)) ?_
  refine k_e rfl ?_
  refine k_u [(0,_),(1,_),(6,_),(7,_),(8,_),(15,_),(9,_)] ?_
  refine AWP.sub [(0,.slice (some ⟨b,o,none⟩) D.length cap),(1,encB x),(6,.int .i64 D.length),(7,.int .i64 i),(8,.int .i64 j),(9,.int .i64 m),(15,.bool true)] ⟨rfl,rfl,rfl,rfl,rfl,by first | exact congrArg (fun q=>some (Value.int .i64 q)) e2 | exact congrArg (fun q=>some (Value.int .i64 q)) e3,rfl,trivial⟩ ?_
  refine k_a (k_m rfl (k_m rfl ?_))
  refine rC (Calm.indexS Try.underlying107 ty_size_5 rfl rfl (by omega) (by omega)) ?_
  refine rC (ld_ ty_plain_5 rfl) ?_
  refine k_m rfl ?_
  refine ARun.call (lit_lt rfl) go_165 rfl (soB_less D[m] x _) ?_
  rintro _ S1 ⟨rfl,e1⟩
  rw [e1];clear e1 S1
  refine k_n ?_
  refine k_u [(0,_),(1,_),(6,_),(7,_),(8,_),(15,_),(9,_),(27,_)] ?_
  refine AWP.condB rfl (fun hlt=>?_) (fun hlt=>?_)
  ·refine AWP.region ?_
   refine k_m rfl ?_
   refine rC (Calm.bin rfl rfl b_add_i64) ?_
   refine k_s rfl ?_
   refine arun_nil ?_
   refine ain_n ?_
   refine athen_n ?_
   refine ⟨(m+1,j),?_,?_,?_,?_⟩
   all_goals (try dsimp only)
   ·exact ⟨sq_,sq_,sq_,sq_,sq_,trivial⟩
   ·exact Mem.Less.refl _
   ·exact ⟨by omega,q2,fun k hk h=>by have hd:D[m]<x:=of_decide_eq_true hlt;rcases Nat.lt_or_ge k m with h' | h';(have:=List.pairwise_iff_getElem.1 hs k m hk hml h';omega);(obtain rfl:k=m:=(by omega);exact hd),q4⟩
   ·omega
  ·refine AWP.region ?_
   refine k_m rfl (k_s rfl ?_)
   refine arun_nil ?_
   refine ain_n ?_
   refine athen_n ?_
   refine ⟨(i,m),?_,?_,?_,?_⟩
   all_goals (try dsimp only)
   ·exact ⟨sq_,sq_,sq_,sq_,sq_,trivial⟩
   ·exact Mem.Less.refl _
   ·exact ⟨by omega,by omega,q3,fun k hk h=>by have hd : ¬ D[m]<x:=of_decide_eq_false hlt;rcases Nat.lt_or_ge m k with h' | h';(have:=List.pairwise_iff_getElem.1 hs m k hml hk h';omega);(obtain rfl:k=m:=(by omega);omega)⟩
   ·omega
 ·obtain rfl:i=j:=by omega
  refine AWP.seq (k_a (k_m rfl (k_m rfl ?_)))
  refine rC (Calm.bin rfl rfl b_lss) ?_
  refine k_n ?_
  refine k_u [(0,_),(1,_),(6,_),(7,_),(8,_),(15,_)] ?_
  refine k_F rfl ?_
  have hci:=cnt_of D x i q2 q3 q4
  obtain ⟨k,hk',hkx⟩:=List.getElem_of_mem hx
  have hin:i<D.length:=by rcases Nat.lt_or_ge i D.length with h | h;(exact h);(have:=q3 k hk' (by omega);omega)
  have hDi:D[i]=x:=by rcases Nat.lt_trichotomy i k with h | h | h;(have:=List.pairwise_iff_getElem.1 hs i k hin hk' h;have:=q4 i hin (Nat.le_refl _);omega);(subst h;exact hkx);(have:=q3 k hk' h;omega)
  have hki:S.Knows ⟨b,o+i*1,none⟩ [encB x]:=by rw [← hDi];exact hk i hin
  rw [hci]
  unfold encB at *
  refine AWP.exit ?_
  refine athen_exit ?_
  refine athen_exit ?_
  refine ain_same ?_
  refine athen_n ?_
  refine k_a (k_m rfl (k_m rfl (k_m rfl ?_)))
  refine rC (Calm.bin rfl rfl b_lss) ?_
  refine k_m rfl ?_
  first|refine k_q 35 ?_|refine rG 35 (Calm.move rfl) ?_
  first|refine k_q 35 ?_|refine rG 35 (Calm.move rfl) ?_
  first|refine k_q 35 ?_|refine rG 35 (Calm.indexS Try.underlying107 ty_size_5 rfl rfl (by omega) (by omega)) ?_
  first|refine k_q 35 ?_|refine rG 35 (ld_ ty_plain_5 rfl) ?_
  first|refine k_q 35 ?_|refine rG 35 (Calm.move rfl) ?_
  first|refine k_q 35 ?_|refine rG 35 (Calm.bin rfl rfl b_eql) ?_
  first|refine k_q 35 ?_|refine rG 35 (Calm.move rfl) ?_
  first|refine k_q 42 ?_|refine rG 42 (Calm.move rfl) ?_
  first|refine k_q 42 ?_|refine rG 42 (Calm.move rfl) ?_
  first|refine k_q 42 ?_|refine rG 42 (Calm.indexS Try.underlying107 ty_size_5 rfl rfl (by omega) (by omega)) ?_
  first|refine k_q 42 ?_|refine rG 42 (ld_ ty_plain_5 rfl) ?_
  first | refine rS 42 ?_ | refine rU 42 ?_
  first|refine k_q 42 ?_|refine rG 42 (Calm.move rfl) ?_
  first|refine k_q 48 ?_|refine rG 48 (Calm.move rfl) ?_
  first | refine rS 48 ?_ | refine rU 48 ?_
  first|refine k_q 42 ?_|refine rG 42 ((by first | exact Calm.pickT rfl rfl | exact Calm.pickF rfl rfl)) ?_
  first|refine k_q 35 ?_|refine rG 35 ((by first | exact Calm.pickT rfl rfl | exact Calm.pickF rfl rfl)) ?_
  first|refine k_t rfl rfl ?_|refine k_f rfl rfl ?_
  refine k_s rfl (k_e rfl ?_)
  refine k_u [(0,_),(1,_),(6,_),(7,_),(8,_),(15,_),(4,_),(5,_)] ?_
  refine AWP.ret ?_
  refine ⟨_,S,⟨_,_,rfl,⟨_,_,rfl,rfl,rfl⟩,rfl⟩,less_,?_⟩
  exact ⟨rfl,rfl⟩
set_option maxHeartbeats 1000000 in
theorem odB_clone (v : Value) (l : List Nat) (S : Mem) (hv : Sl 1 (fun y => [encB y]) S v l) (hl : l.length ≤ 4096) :
  ACall Try.prog 132 #[v] S fun r S'=>∃ o,OkO S o l.length∧r=outV o l.length∧S'=outM S o 5 (l.map encB):=by
 obtain ⟨a,cap,rfl,h1,h2,h3⟩:=id hv
 cases a with
 | none =>
  obtain rfl:l = []:=h3.resolve_right (fun ⟨b,o,e,_⟩=>by cases e)
  refine ACall.enter (rs:=[.tmp 2]) 8 [(0,.slice none 0 cap)] Try.func132 rfl rfl (Nat.le_of_ble_eq_true rfl) rfl ⟨rfl,trivial⟩ ?_
  refine k_a (k_e rfl (AWP.seq (k_a (k_m rfl ?_))))
  refine rC (Calm.bin rfl rfl (bin_nil_eql Try.underlying107)) ?_
  refine k_n ?_
  refine k_u [(0,_),(2,_),(4,_)] ?_
  refine k_T rfl ?_
  refine k_a (k_e rfl ?_)
  refine k_r ?_
  refine ⟨_,S,⟨_,_,rfl,rfl,rfl⟩,less_,?_⟩
  exact ⟨none,okO_nil _,rfl,rfl⟩
 | some ad =>
  have hsrc:=src_sl hv
  refine ACall.enter (rs:=[.tmp 2]) 8 [(0,.slice (some ad) l.length cap)] Try.func132 rfl rfl (Nat.le_of_ble_eq_true rfl) rfl ⟨rfl,trivial⟩ ?_
  refine k_a (k_e rfl (AWP.seq (k_a (k_m rfl ?_))))
  refine rC (Calm.bin rfl rfl (bin_nil_eql Try.underlying107)) ?_
  refine k_n ?_
  refine k_u [(0,_),(2,_),(4,_)] ?_
  refine k_F rfl ?_
  refine k_k (k_a ?_)
  refine ARun.build0 (lit_lt rfl) ty_sl_107 ?_
  intro b5 f5
  have g5:=f5
  repeat ((with_reducible replace g5:=fresh_set g5);obtain ⟨g5,_⟩:=g5)
  refine k_m rfl ?_
  refine ARun.appendOK (n:=1) (o:=some (b5,0)) (k:=0) (m:=l.length) (cs:=[]) (news:=l.map encB) (lit_lt rfl) ty_sl_107 rfl rfl rfl (okO_own f5 (Nat.zero_le _)) (appN1 (okO_own f5 (Nat.zero_le _)) rfl) rfl (hsrc.less (Mem.less_set _ _ _ f5.1)) (by rw [List.length_map,Nat.mul_one]) (one_cells (fun _=>rfl) _) (by omega) (by omega) ?_
  intro o1 ho1
  rw [Nat.zero_add] at ho1
  refine k_e rfl ?_
  refine k_u [(0,_),(2,_),(4,_)] ?_
  refine AWP.ret ?_
  refine ⟨_,_,⟨_,_,rfl,rfl,rfl⟩,Mem.Less.refl _,?_⟩
  exact ⟨o1,ho1,by show outV o1 (0+l.length)=_;rw [Nat.zero_add],by rw [outN_one];rfl⟩
theorem odB_tail (A : List Nat) (k : Nat) (zs : List Value) (h : zs.length = A.length - k) : spl (A.map encB) k zs = (A.take k).map encB ++ zs := by
 unfold spl
 rw [List.drop_of_length_le (by rw [List.length_map];omega),List.append_nil,List.map_take]
set_option maxHeartbeats 4000000 in
theorem odB_compact (b room cap : Nat) (L : List Nat) (n : Nat) (hn : L.length = n) (S : Mem) (hb : Fresh S b) (hL : L.Pairwise (· ≤ ·)) (hn2 : n ≤ 4096) (hc : n ≤ cap) :
  ACall Try.prog 134 #[.slice (some ⟨b,0,none⟩) n cap] (S.set b ⟨5,L.map encB,room⟩) fun r S'=>∃ (D:List Nat) (zs:List Value),r = .slice (some ⟨b,0,none⟩) D.length cap∧S'=S.set b ⟨5,D.map encB ++ zs,room⟩∧D.Pairwise (· < ·)∧(∀ x ∈ L,x ∈ D)∧D.length≤n:=by
 have hLg:∀ i j (hi:i<L.length) (hj:j<L.length),i<j→L.getD i 0≤L.getD j 0:=fun i j hi hj hij=>by rw [getD_get _ _ _ hi,getD_get _ _ _ hj];exact List.pairwise_iff_getElem.1 hL i j hi hj hij
 have hob:∀ (c:List Value),(S.set b ⟨5,c,room⟩).own b=some ⟨5,c,room⟩:=fun c=>Mem.own_set_same _ _ _
 by_cases h2:n<2
 ·skip
  refine ACall.enter (rs:=[.tmp 2]) 61 [(0,.slice (some ⟨b,0,none⟩) n cap)] Try.func134 rfl rfl (Nat.le_of_ble_eq_true rfl) rfl ⟨rfl,trivial⟩ ?_
  refine k_a (k_e rfl (AWP.seq (k_a (k_m rfl ?_))))
  refine rC (Calm.lenSl Try.underlying107 rfl) ?_
  refine rC (Calm.bin rfl rfl b_lss) ?_
  refine k_n ?_
  refine k_u [(0,_),(2,_),(8,_)] ?_
  refine k_T rfl ?_
  refine k_a (k_m rfl (k_e rfl ?_))
  refine k_u [(0,_),(2,_),(8,_)] ?_
  refine k_r ?_
  refine ⟨_,_,⟨_,_,rfl,rfl,rfl⟩,Mem.Less.refl _,?_⟩
  exact ⟨L,[],by rw [hn];rfl,by rw [List.append_nil],by (match L,hn with | [],_=>exact List.Pairwise.nil | [x],_=>exact List.pairwise_singleton _ _ | _ :: _ :: _,h=>simp at h;omega),fun x hx=>hx,by omega⟩
 refine ACall.enter (rs:=[.tmp 2]) 61 [(0,.slice (some ⟨b,0,none⟩) n cap)] Try.func134 rfl rfl (Nat.le_of_ble_eq_true rfl) rfl ⟨rfl,trivial⟩ ?_
 refine k_a (k_e rfl (AWP.seq (k_a (k_m rfl ?_))))
 refine rC (Calm.lenSl Try.underlying107 rfl) ?_
 refine rC (Calm.bin rfl rfl b_lss) ?_
 refine k_n ?_
 refine k_u [(0,_),(2,_),(8,_)] ?_
 refine k_F rfl ?_
 refine k_k (AWP.seq (k_a (k_e rfl ?_)))
 refine AWP.block ?_
 refine AWP.loop (X:=Nat) (fun k=>[(0,.slice (some ⟨b,0,none⟩) n cap),(3,.int .i64 k)]) (fun k=>S.set b ⟨5,L.map encB,room⟩) (fun k=>1≤k∧k≤n ∧ ∀ i,i+1<k→L.getD i 0<L.getD (i+1) 0) (fun k=>n-k) (1) ⟨rfl,rfl,trivial⟩ (Mem.Less.refl _) (⟨Nat.le_refl _,by omega,fun i h=>by have h':i+1<1:=h;omega⟩) ?_
 rintro k ⟨q1,q2,q3⟩
 (try dsimp only at *)
 by_cases hk:k<n
 ·refine AWP.seq (k_a (k_m rfl (k_m rfl ?_)))
  refine rC (Calm.lenSl Try.underlying107 rfl) ?_
  refine rC (Calm.bin rfl rfl b_lss) ?_
  refine k_n ?_
  refine k_u [(0,_),(3,_),(13,_)] ?_
  refine k_T rfl ?_
  obtain ⟨j,rfl⟩ : ∃ j,k=j+1:=⟨k-1,by omega⟩
  obtain ⟨x,hx⟩ : ∃ x,x=L.getD (j+1) 0:=⟨_,rfl⟩
  obtain ⟨y,hy⟩ : ∃ y,y=L.getD j 0:=⟨_,rfl⟩
  have hxe:L[j+1]'(by omega)=x:=by rw [hx,getD_get _ _ _ (by omega)]
  have hye:L[j]'(by omega)=y:=by rw [hy,getD_get _ _ _ (by omega)]
  have hyx:y≤x:=by rw [hx,hy];exact hLg j (j+1) (by omega) (by omega) (by omega)
  refine k_k (AWP.seq ?_)
  refine AWP.block ?_
  refine AWP.seq ?_
  refine AWP.draw [(0,true),(1,true),(2,true),(3,true),(4,true),(5,true),(6,true),(7,true),(8,true),(9,true)] [] mixed (by kernel_rfl) ?_
  refine dP (hc:=fun _=>Calm.move rfl) (h:=?_)
  refine dP (hc:=fun _=>Calm.move rfl) (h:=?_)
  refine dP (hc:=fun _=>Calm.indexS Try.underlying107 ty_size_5 rfl rfl (by omega) (by omega)) (h:=?_)
  refine dC (hc:=Calm.as (show encB (L[j+1]'(by omega)) = .int .u8 (x:Int) by rw [hxe];rfl) (Calm.load ty_plain_5 rfl (rd_list (g:=encB) (j+1) (by omega) (hob _) rw_))) (h:=?_)
  refine dP (hc:=fun _=>Calm.move rfl) (h:=?_)
  refine dP (hc:=fun _=>Calm.move rfl) (h:=?_)
  refine dP (hc:=fun _=>Calm.bin rfl rfl b_sub_i64) (h:=?_)
  refine dP (hc:=fun _=>Calm.indexS Try.underlying107 ty_size_5 rfl rfl (by omega) (by omega)) (h:=?_)
  refine dC (hc:=Calm.as (show encB (L[j]'(by omega)) = .int .u8 (y:Int) by rw [hye];rfl) (Calm.load ty_plain_5 rfl (rd_list (g:=encB) j (by omega) (hob _) rw_))) (h:=?_)
  refine dP (hc:=fun _=>Calm.bin rfl rfl b_eql) (h:=?_)
  refine draw_nil ?_
  refine athen_n ?_
  refine k_u [(0,_),(3,_),(13,_),(25,_)] ?_
  by_cases he:x=y
  ·refine k_T rfl ?_
   have hst:=CpI.start (L:=L) (k:=j+1) (by omega) (by omega) q3 (by rw [← hx,he,hy];rfl)
   refine k_a (k_m rfl (k_m rfl ?_))
   refine rC ((by first | exact Calm.sliceSl Try.underlying107 ty_size_5 rfl (bnd_none _ _) (by simp) (bnd_none _ _) (bnd_some _ _ rfl (by omega) (by omega)) | exact Calm.sliceNil Try.underlying107 ty_size_5 rfl (bnd_none _ _) (by simp) (bnd_none _ _) (bnd_zero _ _ rfl))) ?_
   refine k_e rfl ?_
   refine k_u [(0,_),(3,_),(13,_),(25,_),(4,_)] ?_
   refine AWP.sub [(0,.slice (some ⟨b,0,none⟩) n cap),(3,.int .i64 ((j+1:Nat):Int)),(4,.slice (some ⟨b,j+1,none⟩) (n-(j+1)) (cap-(j+1)))] ⟨rfl,rfl,by show some _=some _;rw [Int.toNat_natCast,if_neg (by omega),Nat.zero_add,Nat.mul_one],trivial⟩ ?_
   refine AWP.seq (k_a (k_e rfl ?_))
   refine AWP.block ?_
   refine AWP.loop (X:=List Nat × Nat × Nat) (fun z=>[(0,.slice (some ⟨b,0,none⟩) n cap),(3,.int .i64 z.2.1),(4,.slice (some ⟨b,j+1,none⟩) (n-(j+1)) (cap-(j+1))),(5,.int .i64 z.2.2)]) (fun z=>S.set b ⟨5,z.1.map encB,room⟩) (fun z=>1≤z.2.2∧j+1+z.2.2≤n∧CpI L z.1 z.2.1 (j+1+z.2.2)) (fun z=>n-z.2.2) ((L,j+1,1)) ⟨rfl,rfl,rfl,rfl,trivial⟩ (Mem.Less.refl _) (⟨Nat.le_refl _,hk,hst⟩) ?_
   rintro ⟨A,k,c⟩ ⟨r1,r2,r3⟩
   (try dsimp only at *)
   have rA:=r3.1
   have rk:=r3.2.2.1
   by_cases hcn:c<n-(j+1)
   ·refine AWP.seq (k_a (k_m rfl (k_m rfl ?_)))
    refine rC (Calm.lenSl Try.underlying107 rfl) ?_
    refine rC (Calm.bin rfl rfl b_lss) ?_
    refine k_n ?_
    refine k_u [(0,_),(3,_),(4,_),(5,_),(32,_)] ?_
    refine k_T rfl ?_
    obtain ⟨q,hq⟩ : ∃ q,q=j+c:=⟨_,rfl⟩
    have hq1:j+1+c=q+1:=by omega
    rw [hq1] at r3 rk
    have hqn:q+1<L.length:=by omega
    obtain ⟨w,hw⟩ : ∃ w,w=L.getD (q+1) 0:=⟨_,rfl⟩
    obtain ⟨u,hu⟩ : ∃ u,u=L.getD q 0:=⟨_,rfl⟩
    have hwe:A[q+1]'(by omega)=w:=by rw [hw,← r3.2.2.2.2.1 (q+1) (by omega),getD_get _ _ _ (by omega)]
    have hue:A[q]'(by omega)=u:=by rw [hu,← r3.2.2.2.2.1 q (by omega),getD_get _ _ _ (by omega)]
    have huw:u≤w:=by rw [hw,hu];exact hLg q (q+1) (by omega) (by omega) (by omega)
    refine k_k (AWP.seq ?_)
    refine AWP.block ?_
    refine AWP.seq ?_
    refine AWP.draw [(0,true),(1,true),(2,true),(3,true),(4,true),(5,true),(6,true),(7,true),(8,true),(9,true)] [] mixed (by kernel_rfl) ?_
    refine dP (hc:=fun _=>Calm.move rfl) (h:=?_)
    refine dP (hc:=fun _=>Calm.move rfl) (h:=?_)
    refine dP (hc:=fun _=>Calm.indexS Try.underlying107 ty_size_5 rfl rfl (by omega) (by omega)) (h:=?_)
    refine dC (hc:=Calm.as (show encB (A[q+1]'(by omega)) = .int .u8 (w:Int) by rw [hwe];rfl) (Calm.load ty_plain_5 rfl (rd_list (g:=encB) (q+1) (by omega) (hob _) (by omega)))) (h:=?_)
    refine dP (hc:=fun _=>Calm.move rfl) (h:=?_)
    refine dP (hc:=fun _=>Calm.move rfl) (h:=?_)
    refine dP (hc:=fun _=>Calm.bin rfl rfl b_sub_i64) (h:=?_)
    refine dP (hc:=fun _=>Calm.indexS Try.underlying107 ty_size_5 rfl rfl (by omega) (by omega)) (h:=?_)
    refine dC (hc:=Calm.as (show encB (A[q]'(by omega)) = .int .u8 (u:Int) by rw [hue];rfl) (Calm.load ty_plain_5 rfl (rd_list (g:=encB) q (by omega) (hob _) (by omega)))) (h:=?_)
    refine dP (hc:=fun _=>Calm.bin rfl rfl b_neq) (h:=?_)
    refine draw_nil ?_
    refine athen_n ?_
    refine k_u [(0,_),(3,_),(4,_),(5,_),(32,_),(44,_)] ?_
    by_cases hwu:w=u
    ·refine k_F rfl ?_
     refine AWP.skip ?_
     refine ain_n ?_
     refine athen_n ?_
     refine AWP.region ?_
     refine k_m rfl ?_
     refine rC (Calm.bin rfl rfl b_add_i64) ?_
     refine k_e rfl ?_
     refine ⟨(A,k,c+1),?_,?_,?_,?_⟩
     all_goals (try dsimp only)
     ·exact ⟨sq_,sq_,sq_,sq_,trivial⟩
     ·exact Mem.Less.refl _
     ·exact ⟨by omega,by omega,by rw [show j+1+(c+1)=q+1+1 by omega];exact r3.same hqn (by rw [← hw,hwu,hu];rfl)⟩
     ·omega
    ·refine k_T rfl ?_
     refine k_a (k_m rfl (k_m rfl (k_m rfl (k_m rfl ?_))))
     refine rC (Calm.indexS Try.underlying107 ty_size_5 rfl rfl (by omega) (by omega)) ?_
     refine rC (Calm.as (show encB (A[q+1]'(by omega)) = .int .u8 (w:Int) by rw [hwe];rfl) (Calm.load ty_plain_5 rfl (rd_list (g:=encB) (q+1) (by omega) (hob _) (by omega)))) ?_
     refine rC (Calm.indexS Try.underlying107 ty_size_5 rfl rfl (by omega) (by omega)) ?_
     refine ARun.store1 rfl rfl ty_size_5 rfl own_ lens_ rfl ?_
     try simp only [k_ms,k_sz,k_ss,k_za,Nat.reduceAdd]
     refine k_n ?_
     refine k_u [(0,_),(3,_),(4,_),(5,_),(32,_),(44,_)] ?_
     rw [Int.toNat_natCast,Nat.mul_one]
     refine AWP.region ?_
     refine k_m rfl ?_
     refine rC (Calm.bin rfl rfl b_add_i64) ?_
     refine k_s rfl ?_
     refine arun_nil ?_
     refine ain_n ?_
     refine athen_n ?_
     refine k_u [(0,_),(3,_),(4,_),(5,_),(32,_),(44,_)] ?_
     refine AWP.region ?_
     refine k_m rfl ?_
     refine rC (Calm.bin rfl rfl b_add_i64) ?_
     refine k_e rfl ?_
     refine ⟨(A.set k w,k+1,c+1),?_,?_,?_,?_⟩
     all_goals (try dsimp only)
     ·exact ⟨sq_,sq_,sq_,sq_,trivial⟩
     ·rw [List.map_set];exact Mem.Less.refl _
     ·exact ⟨by omega,by omega,by rw [show j+1+(c+1)=q+1+1 by omega,hw];exact r3.more hqn (by rw [← hw,Nat.add_sub_cancel,← hu];omega)⟩
     ·omega
   ·refine AWP.seq (k_a (k_m rfl (k_m rfl ?_)))
    refine rC (Calm.lenSl Try.underlying107 rfl) ?_
    refine rC (Calm.bin rfl rfl b_lss) ?_
    refine k_n ?_
    refine k_u [(0,_),(3,_),(4,_),(5,_),(32,_)] ?_
    refine k_F rfl ?_
    have hqn:j+1+c=L.length:=by omega
    rw [hqn] at r3
    obtain ⟨d1,d2,d3,d4⟩:=r3.done
    refine AWP.exit ?_
    refine athen_exit ?_
    refine athen_exit ?_
    refine ain_same ?_
    refine athen_n ?_
    refine k_a (k_m rfl (k_m rfl ?_))
    refine rC ((by first | exact Calm.sliceSl Try.underlying107 ty_size_5 rfl (bnd_none _ _) (by simp) (bnd_none _ _) (bnd_some _ _ rfl (by omega) (by omega)) | exact Calm.sliceNil Try.underlying107 ty_size_5 rfl (bnd_none _ _) (by simp) (bnd_none _ _) (bnd_zero _ _ rfl))) ?_
    refine ARun.clearK (b:=b) (o:=k) (k:=n-k) (c:=cap-k) ty_sl_107 rfl (fun v hv=>by simp at hv;rw [hv];rfl) (by show some _=some _;rw [Int.toNat_natCast,if_neg (by omega),Nat.zero_add,Nat.mul_one]) (hob _) (by simp;omega) (.inl (by simp;omega)) ?_
    intro zs hzs
    refine k_n ?_
    refine k_u [(0,_),(3,_),(4,_),(5,_),(32,_)] ?_
    refine k_a (k_m rfl (k_m rfl ?_))
    refine rC ((by first | exact Calm.sliceHead Try.underlying107 ty_size_5 rfl (bnd_none _ _) (fun _=>rfl) (bnd_some _ _ rfl (by omega) (by omega)) | exact Calm.sliceNil Try.underlying107 ty_size_5 rfl (bnd_none _ _) (by simp) (bnd_zero _ _ rfl) (bnd_none _ _))) ?_
    refine k_e rfl ?_
    refine k_u [(0,_),(3,_),(4,_),(5,_),(32,_),(2,_)] ?_
    refine AWP.ret ?_
    refine ain_ret ?_
    refine athen_ret ?_
    refine athen_ret ?_
    refine ain_ret ?_
    refine athen_ret ?_
    refine ⟨_,_,⟨_,_,rfl,rfl,rfl⟩,Mem.Less.refl _,?_⟩
    exact ⟨A.take k,zs,by rw [d3];rfl,by rw [odB_tail A k zs (by rw [Nat.mul_one] at hzs;omega),Mem.set_set],d1,d2,by omega⟩
  ·refine k_F rfl ?_
   refine AWP.skip ?_
   refine ain_n ?_
   refine athen_n ?_
   refine AWP.region ?_
   refine k_m rfl ?_
   refine rC (Calm.bin rfl rfl b_add_i64) ?_
   refine k_e rfl ?_
   refine ⟨j+2,?_,?_,?_,?_⟩
   all_goals (try dsimp only)
   ·exact ⟨sq_,sq_,trivial⟩
   ·exact Mem.Less.refl _
   ·exact ⟨by omega,hk,fun i hi=>by rcases Nat.lt_or_ge (i+1) (j+1) with h | h;(exact q3 i h);(obtain rfl:i=j:=(by omega);rw [← hx,← hy];omega)⟩
   ·omega
 ·obtain rfl:k=n:=by omega
  refine AWP.seq (k_a (k_m rfl (k_m rfl ?_)))
  refine rC (Calm.lenSl Try.underlying107 rfl) ?_
  refine rC (Calm.bin rfl rfl b_lss) ?_
  refine k_n ?_
  refine k_u [(0,_),(3,_),(13,_)] ?_
  refine k_F rfl ?_
  refine AWP.exit ?_
  refine athen_exit ?_
  refine athen_exit ?_
  refine ain_same ?_
  refine athen_n ?_
  refine k_a (k_m rfl (k_e rfl ?_))
  refine k_u [(0,_),(3,_),(13,_),(2,_)] ?_
  refine AWP.ret ?_
  refine ⟨_,_,⟨_,_,rfl,rfl,rfl⟩,Mem.Less.refl _,?_⟩
  exact ⟨L,[],by rw [hn];rfl,by rw [List.append_nil],up_pairwise L (by rw [hn];exact q3),fun x hx=>hx,by omega⟩
theorem odB_compact0 (S : Mem) : ACall Try.prog 134 #[.slice none 0 0] S fun r S' => r = .slice none 0 0 ∧ S' = S := by
 refine ACall.enter (rs:=[.tmp 2]) 61 [(0,.slice none 0 0)] Try.func134 rfl rfl (Nat.le_of_ble_eq_true rfl) rfl ⟨rfl,trivial⟩ ?_
 refine k_a (k_e rfl (AWP.seq (k_a (k_m rfl ?_))))
 refine rC (Calm.lenSl Try.underlying107 rfl) ?_
 refine rC (Calm.bin rfl rfl b_lss) ?_
 refine k_n ?_
 refine k_u [(0,_),(2,_),(8,_)] ?_
 refine k_T rfl ?_
 refine k_a (k_m rfl (k_e rfl ?_))
 refine k_u [(0,_),(2,_),(8,_)] ?_
 refine k_r ?_
 refine ⟨_,S,⟨_,_,rfl,rfl,rfl⟩,less_,?_⟩
 exact ⟨rfl,rfl⟩
set_option maxHeartbeats 4000000 in
theorem odB_ranks (v : Value) (l : List Nat) (S : Mem) (hv : Sl 1 (fun y => [encB y]) S v l) (hl : l.length ≤ 4096) :
  ACall Try.prog 96 #[v] S fun r S'=>∃ D:List Nat,(∀ x ∈ l,x ∈ D)∧D.length≤l.length∧RdL gI (l.map (cntL D)) S r S':=by
 obtain ⟨a,cap,rfl,h1,h2,h3⟩:=id hv
 obtain ⟨n,hn⟩ : ∃ n,n=l.length:=⟨_,rfl⟩
 have hcl:=odB_clone _ l S hv hl
 rw [← hn] at hcl hl h1 ⊢
 refine ACall.enter (rs:=[.tmp 2]) 34 [(0,.slice a n cap)] Try.func96 rfl rfl (Nat.le_of_ble_eq_true rfl) rfl ⟨rfl,trivial⟩ ?_
 refine k_a (k_e rfl (k_a (k_m rfl ?_)))
 refine ARun.call (lit_lt rfl) go_132 rfl (hcl) ?_
 rintro _ _ ⟨o,ho,rfl,rfl⟩
 refine k_e rfl ?_
 refine k_u [(0,_),(2,_),(3,_)] ?_
 cases o
 ·obtain rfl:n=0:=ho.nil rfl
  have hl0:l = []:=List.length_eq_zero_iff.1 hn.symm
  refine k_a (k_m rfl ?_)
  refine ARun.call (lit_lt rfl) go_133 rfl (soB_sort0 _) ?_
  rintro _ S1 e1
  rw [e1];clear e1 S1
  refine k_n ?_
  refine k_u [(0,_),(2,_),(3,_)] ?_
  refine k_a (k_m rfl ?_)
  refine ARun.call (lit_lt rfl) go_134 rfl (odB_compact0 _) ?_
  rintro _ S1 ⟨rfl,e1⟩
  rw [e1];clear e1 S1
  refine k_e rfl ?_
  refine k_u [(0,_),(2,_),(3,_)] ?_
  refine k_a (k_m rfl ?_)
  refine rC (Calm.lenSl Try.underlying107 rfl) ?_
  refine ARun.makeSlice (lit_lt rfl) ty_sl_24 rfl rfl (by omega) (by omega) (by omega) (by omega) ?_
  intro b15 f15
  have g15:=f15
  repeat ((with_reducible replace g15:=fresh_set g15);obtain ⟨g15,_⟩:=g15)
  refine k_e rfl ?_
  refine k_u [(0,_),(2,_),(3,_),(4,_)] ?_
  refine AWP.seq (k_a (k_m rfl ?_))
  refine rC (Calm.lenSl Try.underlying107 rfl) ?_
  refine k_m rfl (k_n ?_)
  refine AWP.block ?_
  refine AWP.loop (X:=Unit) (fun x=>[(4,.slice (some ⟨b15,0,none⟩) 0 0),(17,.int .i64 0),(18,.int .i64 0)]) (fun x=>S.set b15 ⟨3,[],0⟩) (fun x=>l = []) (fun x=>0) (()) ⟨rfl,rfl,rfl,trivial⟩ (by rw [madeL_one];exact Mem.Less.refl _) (hl0) ?_
  rintro _ _
  (try dsimp only at *)
  refine k_a ?_
  refine rC (Calm.bin rfl rfl b_lss) ?_
  refine k_n (AWP.seq ?_)
  refine k_F rfl ?_
  refine AWP.exit ?_
  refine athen_exit ?_
  refine athen_exit ?_
  refine ain_same ?_
  refine athen_n ?_
  refine k_a (k_m rfl (k_e rfl ?_))
  refine k_u [(4,_),(17,_),(18,_),(19,_),(2,_)] ?_
  refine AWP.ret ?_
  refine ⟨_,_,⟨_,_,rfl,rfl,rfl⟩,Mem.Less.refl _,?_⟩
  exact ⟨[],(fun x hx=>absurd (hl0 ▸ hx:x ∈ ([] : List Nat)) (List.not_mem_nil)),Nat.zero_le _,Mem.less_set _ _ _ f15.1,by rw [hl0];exact Sl.own1 (g:=gI) (l:=[]) (Mem.own_set_same _ _ _) List.prefix_rfl rfl (Nat.le_refl _) (by decide)⟩
 ·rename_i q
  obtain ⟨b,c⟩:=q
  obtain ⟨fb,hbc⟩:=ho.own b c rfl
  have hR:Rw (fun _=>True) n l.toArray:=⟨by simp [hn],fun _ _=>trivial⟩
  have hsort:=soB_sort (S:=S) b c n c fb (by omega) l.toArray hR
  obtain ⟨d',hd'⟩ : ∃ d',d'=Go.Sort.pdq ltN l.toArray 0 n (Go.Sort.bitsLen n) true true:=⟨_,rfl⟩
  obtain ⟨hp,hs⟩:=sorted_num l n hn.symm d' hd'
  rw [← hd'] at hsort
  obtain ⟨L,hL⟩ : ∃ L,L=d'.toList:=⟨_,rfl⟩
  rw [← hL] at hsort hp hs
  have hLn:L.length=n:=by rw [hp.length_eq];exact hn.symm
  clear hd' hR hL
  refine k_a (k_m rfl ?_)
  refine ARun.call (lit_lt rfl) go_133 rfl (hsort) ?_
  rintro _ _ ⟨rfl,_⟩
  refine k_n ?_
  refine k_u [(0,_),(2,_),(3,_)] ?_
  refine k_a (k_m rfl ?_)
  refine ARun.call (lit_lt rfl) go_134 rfl (odB_compact b c c L n hLn S fb hs hl hbc) ?_
  rintro _ _ ⟨D,zs,rfl,rfl,hD1,hD2,hD3⟩
  have hlD:∀ x ∈ l,x ∈ D:=fun x hx=>hD2 x (hp.mem_iff.2 hx)
  obtain ⟨M,hM⟩ : ∃ M,M=S.set b ⟨5,D.map encB ++ zs,c⟩:=⟨_,rfl⟩
  have hSM:S.Less M:=by rw [hM];exact Mem.less_set _ _ _ fb.1
  have hvD:Sl 1 (fun y=>[encB y]) M (.slice (some ⟨b,0,none⟩) D.length c) D:=by rw [hM];exact Sl.own1 (g:=encB) (l:=D) (Mem.own_set_same _ _ _) (List.prefix_append _ _) rfl (by omega) (by omega)
  rw [← hM]
  refine k_e rfl ?_
  refine k_u [(0,_),(2,_),(3,_)] ?_
  refine k_a (k_m rfl ?_)
  refine rC (Calm.lenSl Try.underlying107 rfl) ?_
  refine ARun.makeSlice (lit_lt rfl) ty_sl_24 rfl rfl (by omega) (by omega) (by omega) (by omega) ?_
  intro b15 f15
  have g15:=f15
  repeat ((with_reducible replace g15:=fresh_set g15);obtain ⟨g15,_⟩:=g15)
  refine k_e rfl ?_
  refine k_u [(0,_),(2,_),(3,_),(4,_)] ?_
  rw [show madeL [Value.int .i64 0] (((n:Nat):Int).toNat*1)=([] : List Nat).map gI ++ List.replicate (n-0) (gI 0) by rw [madeL_one,Nat.mul_one];rfl,Nat.mul_one,Int.toNat_natCast]
  refine AWP.seq (k_a (k_m rfl ?_))
  refine rC (Calm.lenSl Try.underlying107 rfl) ?_
  refine k_m rfl (k_n ?_)
  refine AWP.block ?_
  refine AWP.loop (X:=Nat) (fun x=>[(3,.slice (some ⟨b,0,none⟩) D.length c),(4,.slice (some ⟨b15,0,none⟩) n n),(16,.slice a n cap),(17,.int .i64 n),(18,.int .i64 x)]) (fun x=>M.set b15 ⟨3,((l.take x).map (cntL D)).map gI ++ List.replicate (n-x) (gI 0),n⟩) (fun x=>x≤n) (fun x=>n-x) (0) ⟨rfl,rfl,rfl,rfl,rfl,trivial⟩ (Mem.Less.refl _) (Nat.zero_le _) ?_
  rintro i hi
  (try dsimp only at *)
  by_cases hc:i<n
  ·refine k_a ?_
   refine rC (Calm.bin rfl rfl b_lss) ?_
   refine k_n (AWP.seq ?_)
   refine k_T rfl ?_
   have hil:i<l.length:=by omega
   obtain ⟨vb,vo,rfl,hk⟩:=h3.resolve_left (fun e=>by rw [e] at hil;exact absurd hil (Nat.not_lt_zero _))
   have hMM:M.Less (M.set b15 ⟨3,((l.take i).map (cntL D)).map gI ++ List.replicate (n-i) (gI 0),n⟩):=Mem.less_set _ _ _ f15.1
   have hki:Mem.Knows (M.set b15 ⟨3,((l.take i).map (cntL D)).map gI ++ List.replicate (n-i) (gI 0),n⟩) ⟨vb,vo+i*1,none⟩ [encB l[i]]:=(hk i hil).less (hSM.trans hMM)
   have hlr:(((l.take i).map (cntL D)).map gI ++ List.replicate (n-i) (gI 0)).length=n:=by simp;omega
   refine k_k (AWP.seq ?_)
   refine AWP.block ?_
   refine k_a (k_m rfl ?_)
   refine rC (Calm.indexS Try.underlying107 ty_size_5 rfl rfl (by omega) (by omega)) ?_
   refine rC (ld_ ty_plain_5 rfl) ?_
   refine k_s rfl (k_e rfl ?_)
   refine k_u [(3,_),(4,_),(16,_),(17,_),(18,_),(19,_),(5,_),(6,_)] ?_
   refine AWP.region ?_
   refine k_m rfl (k_m rfl (k_m rfl (k_m rfl ?_)))
   refine ARun.call (lit_lt rfl) go_135 rfl (odB_search _ l[i] D _ (hvD.less hMM) hD1 (hlD _ (List.getElem_mem hil)) (by omega)) ?_
   rintro _ S1 ⟨rfl,e1⟩
   rw [e1];clear e1 S1
   refine k_m rfl ?_
   refine rC (Calm.extract rfl rfl) ?_
   refine rC (Calm.extract rfl rfl) ?_
   refine rC (Calm.indexS Try.underlying24 ty_size_3 rfl rfl (by omega) (by omega)) ?_
   refine ARun.store1 rfl rfl ty_size_3 rfl own_ lens_ rfl ?_
   try simp only [k_ms,k_sz,k_ss,k_za,Nat.reduceAdd]
   refine arun_nil ?_
   refine ain_n ?_
   refine athen_n ?_
   refine k_u [(3,_),(4,_),(16,_),(17,_),(18,_),(19,_),(5,_),(6,_)] ?_
   simp only [Nat.zero_add,Nat.mul_one,Int.toNat_natCast]
   have key:(((l.take i).map (cntL D)).map gI ++ List.replicate (n-i) (gI 0)).set i (gI (cntL D l[i]))=((l.take (i+1)).map (cntL D)).map gI ++ List.replicate (n-(i+1)) (gI 0):=by rw [fill_map gI ((l.take i).map (cntL D)) 0 n i (cntL D l[i]) (by simp;omega) hc,show (l.take i).map (cntL D) ++ [cntL D l[i]]=(l.take (i+1)).map (cntL D) by rw [List.take_succ_eq_append_getElem hil,List.map_append];rfl]
   refine AWP.less (M.set b15 ⟨3,((l.take (i+1)).map (cntL D)).map gI ++ List.replicate (n-(i+1)) (gI 0),n⟩) (by rw [← key];exact Mem.Less.refl _) ?_
   refine AWP.region ?_
   refine rC (Calm.bin rfl rfl b_add_i64) ?_
   refine k_m rfl (k_n ?_)
   refine ⟨i+1,?_,?_,?_,?_⟩
   all_goals (try dsimp only)
   ·exact ⟨sq_,sq_,sq_,sq_,sq_,trivial⟩
   ·exact Mem.Less.refl _
   ·exact hc
   ·omega
  ·obtain rfl:i=n:=by omega
   refine k_a ?_
   refine rC (Calm.bin rfl rfl b_lss) ?_
   refine k_n (AWP.seq ?_)
   refine k_F rfl ?_
   rw [Nat.sub_self,List.replicate_zero,List.append_nil,List.take_of_length_le (by omega)]
   refine AWP.exit ?_
   refine athen_exit ?_
   refine athen_exit ?_
   refine ain_same ?_
   refine athen_n ?_
   refine k_a (k_m rfl (k_e rfl ?_))
   refine k_u [(3,_),(4,_),(16,_),(17,_),(18,_),(19,_),(2,_)] ?_
   refine AWP.ret ?_
   refine ⟨_,_,⟨_,_,rfl,rfl,rfl⟩,Mem.Less.refl _,?_⟩
   exact ⟨D,hlD,hD3,hSM.trans (Mem.less_set _ _ _ f15.1),Sl.own1 (g:=gI) (l:=l.map (cntL D)) (Mem.own_set_same _ _ _) List.prefix_rfl (by rw [List.length_map];exact hn.symm) (Nat.le_refl _) (by omega)⟩
end Go.Proofs.Ytgidjbpgkeemiaa
namespace Go.Proofs.Ytgidjbpgkeemiaa
open Num Loser
namespace Ord
/-! ### Counting -/
theorem countP_lt_range (m : Nat) : ∀ k, m ≤ k → (List.range k).countP (fun x => decide (x < m)) = m
 | 0,h=>by
  obtain rfl:m=0:=by omega
  rfl
 | k+1,h=>by
  rw [List.range_succ,List.countP_append]
  rcases Nat.lt_or_ge k m with h' | h'
  ·obtain rfl:m=k+1:=by omega
   have:(List.range k).countP (fun x=>decide (x<k+1))=(List.range k).length:=List.countP_eq_length.2 fun x hx=>by have:=List.mem_range.1 hx;simp;omega
   rw [this,List.length_range];simp
  ·rw [countP_lt_range m k h']
   simp;omega
theorem countP_less (p q : Nat → Bool) (x : Nat) (hx : p x = false) (hq : q x = true) : ∀ l : List Nat, (∀ y ∈ l, p y = true → q y = true) → x ∈ l → l.countP p < l.countP q
 | [],_,h=>by cases h
 | y :: l,h,hm=>by
  have hle:l.countP p≤l.countP q:=List.countP_mono_left fun z hz=>h z (List.mem_cons_of_mem _ hz)
  rw [List.countP_cons,List.countP_cons]
  rcases List.mem_cons.1 hm with rfl | hm
  ·rw [if_neg (by rw [hx];exact Bool.false_ne_true),if_pos hq];omega
  ·have:=countP_less p q x hx hq l (fun z hz=>h z (List.mem_cons_of_mem _ hz)) hm
   have h0:=h y (List.mem_cons_self ..)
   cases hp:p y with
   | true=>rw [h0 hp];simp;omega
   | false=>cases q y <;> simp <;> omega
theorem range_inj_perm (n : Nat) (f : Nat → Nat) (hf : ∀ a, a < n → f a < n) (hi : ∀ a b, a < n → b < n → f a = f b → a = b) : ((List.range n).map f).Perm (List.range n) := by
 refine pig n _ ?_ (fun y hy=>?_) (by simp)
 ·refine List.pairwise_iff_getElem.2 fun i j h1 h2 hij e=>?_
  simp only [List.length_map,List.length_range] at h1 h2
  simp only [List.getElem_map,List.getElem_range] at e
  have:=hi i j h1 h2 e;omega
 ·obtain ⟨a,ha,rfl⟩:=List.mem_map.1 hy
  exact hf a (List.mem_range.1 ha)
/-! ### Rows: the empty end's is 0 -/
theorem sl_total' (l : List Nat) (a b : Nat) (ha : a ≤ l.length) (hb : b ≤ l.length) (h1 : sl l a b = false) (h2 : sl l b a = false) : a = b := by
 have h:=congrArg List.length (lessB_total _ _ h1 h2)
 simp only [List.length_drop] at h;omega
structure IsRow (s : List Nat) (r : Nat → Nat) : Prop where
  le : ∀ a, a ≤ s.length → r a ≤ s.length
  lt : ∀ a b, a ≤ s.length → b ≤ s.length → (r a < r b ↔ sl s a b = true)
theorem IsRow.inj {s : List Nat} {r : Nat → Nat} (h : IsRow s r) {a b : Nat} (ha : a ≤ s.length) (hb : b ≤ s.length) (e : r a = r b) : a = b := by
 refine sl_total' s a b ha hb ?_ ?_
 ·cases hc:sl s a b with
  | false=>rfl
  | true=>have:=(h.lt a b ha hb).2 hc;omega
 ·cases hc:sl s b a with
  | false=>rfl
  | true=>have:=(h.lt b a hb ha).2 hc;omega
theorem IsRow.one {s : List Nat} {r : Nat → Nat} (h : IsRow s r) (a : Nat) (ha : a ≤ s.length) : r a = (List.range (s.length + 1)).countP (fun b => sl s b a) := by
 have hp:=range_inj_perm (s.length+1) r (fun a ha=>by have:=h.le a (by omega);omega) (fun a b ha hb e=>h.inj (by omega) (by omega) e)
 have h1:=hp.countP_eq (fun x=>decide (x<r a))
 rw [countP_lt_range (r a) (s.length+1) (by have:=h.le a ha;omega),List.countP_map] at h1
 rw [← h1]
 refine List.countP_congr fun b hb=>?_
 have hb':=List.mem_range.1 hb
 rw [← h.lt b a (by omega) ha]
 simp
theorem IsRow.zero {s : List Nat} {r : Nat → Nat} (h : IsRow s r) : r s.length = 0 := by
 rw [h.one _ (Nat.le_refl _)]
 refine List.countP_eq_zero.2 fun b _=>?_
 rw [sl_no s b _ (Nat.le_refl _)];exact Bool.false_ne_true
/-- The rows of ends in order. -/
def rowE (e : List Nat) (n a : Nat) : Nat := if a < n then e.idxOf a + 1 else 0
theorem isRow_sorted {s e : List Nat} (h : SortedE s e) : IsRow s (rowE e s.length) := by
 have hl:=h.len
 have hm:∀ a,a<s.length→a ∈ e:=fun a ha=>h.1.mem_iff.2 (List.mem_range.2 ha)
 refine ⟨fun a ha=>?_,fun a b ha hb=>?_⟩
 ·unfold rowE;split
  ·rename_i h1;have:=List.idxOf_lt_length_of_mem (hm a h1);omega
  ·omega
 ·unfold rowE
  by_cases h1:b<s.length
  ·rw [if_pos h1]
   by_cases h2:a<s.length
   ·rw [if_pos h2]
    have i1:=List.idxOf_lt_length_of_mem (hm a h2)
    have i2:=List.idxOf_lt_length_of_mem (hm b h1)
    have e1:e[e.idxOf a]=a:=List.getElem_idxOf i1
    have e2:e[e.idxOf b]=b:=List.getElem_idxOf i2
    constructor
    ·intro hlt
     have:=List.pairwise_iff_getElem.1 h.2 _ _ i1 i2 (by omega)
     rw [e1,e2] at this;exact this
    ·intro hs
     rcases Nat.lt_trichotomy (e.idxOf a) (e.idxOf b) with h3 | h3 | h3
     ·omega
     ·have:a=b:=by rw [← e1,← e2];simp only [h3]
      subst this;rw [sl_irrefl] at hs;cases hs
     ·have:=List.pairwise_iff_getElem.1 h.2 _ _ i2 i1 h3
      rw [e1,e2] at this
      rw [sl_asymm _ _ _ this] at hs;cases hs
   ·rw [if_neg h2,sl_end s a b (by omega)]
    simp [h1]
  ·rw [if_neg h1,sl_no s a b (by omega)]
   constructor
   ·intro h;omega
   ·intro h;cases h
/-! ### The column, and the way back -/
/-- The place in the column that a row has. -/
def atR (p r : Nat) : Nat := if p < r then r - 1 else r
/-- What is less in a column. -/
def ltC (c : List Nat) (j i : Nat) : Bool := decide (c.getD j 0 < c.getD i 0) || (decide (c.getD j 0 = c.getD i 0) && decide (j < i))
/-- The row of the end that begins with the byte at a place. -/
def toR (c : List Nat) (i : Nat) : Nat := 1 + (List.range c.length).countP (fun j => ltC c j i)
def walkT (c : List Nat) (p : Nat) : Nat → Nat → List Nat → Option (List Nat)
  | 0, r, acc => if r = p then some acc else none
  | k + 1, r, acc => if r = p then none else walkT c p k (toR c (atR p r)) (c.getD (atR p r) 0 :: acc)
theorem ltC_irrefl (c : List Nat) (i : Nat) : ltC c i i = false := by simp [ltC]
theorem ltC_trans (c : List Nat) (i j k : Nat) (h1 : ltC c i j = true) (h2 : ltC c j k = true) : ltC c i k = true := by
 simp only [ltC,Bool.or_eq_true,decide_eq_true_eq,Bool.and_eq_true] at *;omega
theorem ltC_total (c : List Nat) (i j : Nat) (h1 : ltC c i j = false) (h2 : ltC c j i = false) : i = j := by
 simp only [ltC,Bool.or_eq_false_iff,decide_eq_false_iff_not,Bool.and_eq_false_iff] at *;omega
theorem toR_lt (c : List Nat) (i j : Nat) (hi : i < c.length) (hj : j < c.length) : toR c i < toR c j ↔ ltC c i j = true := by
 have up:∀ i j,i<c.length→ltC c i j=true→toR c i<toR c j:=fun i j hi h=>by
  unfold toR
  have:=countP_less (fun b=>ltC c b i) (fun b=>ltC c b j) i (ltC_irrefl c i) h (List.range c.length) (fun b _ hb=>ltC_trans c b i j hb h) (List.mem_range.2 hi)
  omega
 refine ⟨fun h=>?_,up i j hi⟩
 cases hc:ltC c i j with
 | true=>rfl
 | false =>
  cases hd:ltC c j i with
  | true=>have:=up j i hj hd;omega
  | false=>rw [ltC_total c i j hc hd] at h;omega
theorem toR_le (c : List Nat) (i : Nat) (hi : i < c.length) : toR c i ≤ c.length := by
 unfold toR
 have:=countP_less (fun b=>ltC c b i) (fun _=>true) i (ltC_irrefl c i) rfl (List.range c.length) (fun _ _ _=>rfl) (List.mem_range.2 hi)
 simp only [List.countP_true,List.length_range] at this
 omega
theorem toR_pos (c : List Nat) (i : Nat) : 1 ≤ toR c i := by unfold toR; omega
theorem atR_lt {n p r : Nat} (hr : r ≤ n) (hp : p ≤ n) (hne : r ≠ p) : atR p r < n := by unfold atR; split <;> omega
theorem atR_mono {p a b : Nat} (ha : a ≠ p) (hb : b ≠ p) : atR p a < atR p b ↔ a < b := by unfold atR; split <;> split <;> omega
theorem atR_inj {p a b : Nat} (ha : a ≠ p) (hb : b ≠ p) (e : atR p a = atR p b) : a = b := by unfold atR at e; split at e <;> split at e <;> omega
/-- c is the column of s, p its primary: by rows. -/
structure ColR (s c : List Nat) (p : Nat) (r : Nat → Nat) : Prop where
  row : IsRow s r
  len : c.length = s.length
  pos : 0 < s.length
  prim : r 0 = p
  byte : ∀ a, a < s.length → c.getD (atR p (r (a + 1))) 0 = s.getD a 0
theorem ColR.ne {s c : List Nat} {p : Nat} {r : Nat → Nat} (h : ColR s c p r) {a : Nat} (ha : a < s.length) : r (a + 1) ≠ p := fun e => by
 have:=h.row.inj (by omega) (by omega) (e.trans h.prim.symm);omega
theorem ColR.le {s c : List Nat} {p : Nat} {r : Nat → Nat} (h : ColR s c p r) : p ≤ s.length := by rw [← h.prim]; exact h.row.le 0 (by omega)
theorem ColR.at {s c : List Nat} {p : Nat} {r : Nat → Nat} (h : ColR s c p r) {a : Nat} (ha : a < s.length) : atR p (r (a + 1)) < s.length := atR_lt (h.row.le _ (by omega)) h.le (h.ne ha)
theorem ColR.step {s c : List Nat} {p : Nat} {r : Nat → Nat} (h : ColR s c p r) (a : Nat) (ha : a < s.length) : toR c (atR p (r (a + 1))) = r a := by
 have hsl:∀ b,b<s.length→ltC c (atR p (r (b+1))) (atR p (r (a+1)))=sl s b a:=fun b hb=>by
  rw [sl_step s b a hb ha]
  unfold ltC
  have e:decide (atR p (r (b+1))<atR p (r (a+1)))=sl s (b+1) (a+1):=by rw [Bool.eq_iff_iff,decide_eq_true_eq,atR_mono (h.ne hb) (h.ne ha),h.row.lt (b+1) (a+1) (by omega) (by omega)]
  rw [h.byte a ha,h.byte b hb,getD_get s a 0 ha,getD_get s b 0 hb,e]
 have hp:=range_inj_perm s.length (fun b=>atR p (r (b+1))) (fun b hb=>h.at hb) (fun b d hb hd e=>by
  have:=h.row.inj (by omega) (by omega) (atR_inj (h.ne hb) (h.ne hd) e);omega)
 rw [h.row.one a (by omega),List.range_succ,List.countP_append]
 unfold toR
 rw [h.len,← hp.countP_eq,List.countP_map]
 have e1:(List.range s.length).countP ((fun j=>ltC c j (atR p (r (a+1)))) ∘ fun b=>atR p (r (b+1)))=(List.range s.length).countP (fun b=>sl s b a):=List.countP_congr fun b hb=>by
  rw [Function.comp_apply,hsl b (List.mem_range.1 hb)]
 rw [e1,List.countP_singleton,sl_end s _ a (Nat.le_refl _),if_pos (by simp [ha])]
 omega
theorem ColR.back {s c : List Nat} {p : Nat} {r : Nat → Nat} (h : ColR s c p r) : ∀ k, k ≤ s.length → walkT c p k (r k) (s.drop k) = some s
 | 0,_=>by rw [walkT,if_pos h.prim];rfl
 | k+1,hk=>by
  rw [walkT,if_neg (h.ne (by omega)),h.step k (by omega),h.byte k (by omega),getD_get s k 0 (by omega),← List.drop_eq_getElem_cons (by omega)]
  exact h.back k (by omega)
/-- The column's text is the text. -/
theorem ColR.text {s c : List Nat} {p : Nat} {r : Nat → Nat} (h : ColR s c p r) : walkT c p c.length 0 [] = some s := by
 have:=h.back s.length (Nat.le_refl _)
 rw [h.row.zero,List.drop_of_length_le (Nat.le_refl _)] at this
 rw [h.len];exact this
theorem ColR.perm {s c : List Nat} {p : Nat} {r : Nat → Nat} (h : ColR s c p r) : c.Perm s := by
 have hp:=range_inj_perm s.length (fun b=>atR p (r (b+1))) (fun b hb=>h.at hb) (fun b d hb hd e=>by
  have:=h.row.inj (by omega) (by omega) (atR_inj (h.ne hb) (h.ne hd) e);omega)
 have h1:=hp.map (fun i=>c.getD i 0)
 rw [List.map_map] at h1
 have e1:(List.range s.length).map ((fun i=>c.getD i 0) ∘ fun b=>atR p (r (b+1)))=s:=by
  refine List.ext_getElem (by simp) fun i h1 h2=>?_
  rw [List.getElem_map,List.getElem_range,Function.comp_apply,h.byte i h2,getD_get s i 0 h2]
 have e2:(List.range s.length).map (fun i=>c.getD i 0)=c:=by
  refine List.ext_getElem (by simp [h.len]) fun i h1 h2=>?_
  rw [List.getElem_map,List.getElem_range,getD_get c i 0 h2]
 rw [e1,e2] at h1
 exact h1.symm
/-- What a walk that ends well has gone through. -/
theorem walk_rows (c : List Nat) (p : Nat) (s : List Nat) : ∀ (k row : Nat) (acc : List Nat), walkT c p k row acc = some s →
  ∃ r:Nat→Nat,r k=row∧r 0=p∧(∀ j,j<k→r (j+1)≠p∧r j=toR c (atR p (r (j+1)))∧s.getD j 0=c.getD (atR p (r (j+1))) 0)∧s.drop k=acc∧k+acc.length=s.length
 | 0,row,acc,h=>by
  rw [walkT] at h;split at h
  ·rename_i hr;injection h with h;subst h
   exact ⟨fun _=>row,rfl,hr,fun j hj=>absurd hj (Nat.not_lt_zero _),rfl,Nat.zero_add _⟩
  ·cases h
 | k+1,row,acc,h=>by
  rw [walkT] at h;split at h
  ·cases h
  ·rename_i hr
   obtain ⟨r,h1,h2,h3,h4,h5⟩:=walk_rows c p s k _ _ h
   rw [List.length_cons] at h5
   have hk:k<s.length:=by omega
   rw [List.drop_eq_getElem_cons hk] at h4
   injection h4 with h4 h6
   refine ⟨fun j=>if j=k+1 then row else r j,by simp,by simp [h2],fun j hj=>?_,h6,by omega⟩
   rcases Nat.lt_or_ge j k with hj' | hj'
   ·have:=h3 j hj'
    dsimp only
    rw [if_neg (by omega),if_neg (by omega)];exact this
   ·obtain rfl:j=k:=by omega
    dsimp only
    rw [if_pos rfl,if_neg (by omega)]
    exact ⟨hr,h1,by rw [getD_get s j 0 hk];exact h4⟩
/-- Where the walk ends well the primary is the text's own. -/
theorem walk_prim (c : List Nat) (p : Nat) (s : List Nat) (hp : p ≤ c.length) (h : walkT c p c.length 0 [] = some s) : p = (List.range (s.length + 1)).countP (fun b => sl s b 0) ∧ s.length = c.length := by
 obtain ⟨r,h1,h2,h3,_,h5⟩:=walk_rows c p s _ _ _ h
 rw [List.length_nil] at h5
 have hl:c.length=s.length:=h5
 rw [hl] at h1 h3 hp
 have hle:∀ m a,a≤s.length→s.length-a≤m→r a≤s.length:=by
  intro m
  induction m with
  | zero =>
   intro a ha hm
   obtain rfl:a=s.length:=by omega
   rw [h1];omega
  | succ m ih =>
   intro a ha hm
   rcases Nat.lt_or_ge a s.length with h' | h'
   ·obtain ⟨q1,q2,q3⟩:=h3 a h'
    rw [q2,← hl]
    exact toR_le c _ (by rw [hl];exact atR_lt (ih (a+1) (by omega) (by omega)) hp q1)
   ·obtain rfl:a=s.length:=by omega
    rw [h1];omega
 have hle':∀ a,a≤s.length→r a≤s.length:=fun a ha=>hle _ a ha (Nat.le_refl _)
 have hlt:∀ m a b,a≤s.length→b≤s.length→s.length-a≤m→(r a<r b ↔ sl s a b=true):=by
  intro m
  induction m with
  | zero =>
   intro a b ha hb hm
   obtain rfl:a=s.length:=by omega
   rw [h1,sl_end s _ b (Nat.le_refl _)]
   rcases Nat.lt_or_ge b s.length with h' | h'
   ·rw [(h3 b h').2.1]
    have:=toR_pos c (atR p (r (b+1)))
    simp [h'];omega
   ·obtain rfl:b=s.length:=by omega
    rw [h1];simp
  | succ m ih =>
   intro a b ha hb hm
   rcases Nat.lt_or_ge a s.length with h' | h'
   ·obtain ⟨q1,q2,q3⟩:=h3 a h'
    rcases Nat.lt_or_ge b s.length with h4 | h4
    ·obtain ⟨w1,w2,w3⟩:=h3 b h4
     have ra:=atR_lt (hle' (a+1) (by omega)) hp q1
     have rb:=atR_lt (hle' (b+1) (by omega)) hp w1
     rw [q2,w2,toR_lt c _ _ (by rw [hl];exact ra) (by rw [hl];exact rb),sl_step s a b h' h4]
     have e:decide (atR p (r (a+1))<atR p (r (b+1)))=sl s (a+1) (b+1):=by rw [Bool.eq_iff_iff,decide_eq_true_eq,atR_mono q1 w1,ih (a+1) (b+1) (by omega) (by omega) (by omega)]
     unfold ltC
     rw [← q3,← w3,getD_get s a 0 h',getD_get s b 0 h4,e]
    ·obtain rfl:b=s.length:=by omega
     rw [h1,sl_no s _ _ (Nat.le_refl _)]
     constructor
     ·intro h;omega
     ·intro h;cases h
   ·obtain rfl:a=s.length:=by omega
    rw [h1,sl_end s _ b (Nat.le_refl _)]
    rcases Nat.lt_or_ge b s.length with h' | h'
    ·rw [(h3 b h').2.1]
     have:=toR_pos c (atR p (r (b+1)))
     simp [h'];omega
    ·obtain rfl:b=s.length:=by omega
     rw [h1];simp
 have hR:IsRow s r:=⟨hle',fun a b ha hb=>hlt _ a b ha hb (Nat.le_refl _)⟩
 exact ⟨by rw [← h2];exact hR.one 0 (Nat.zero_le _),hl.symm⟩
/-- Two primaries of one text are one. -/
theorem walk_same (c : List Nat) (p q : Nat) (s : List Nat) (hp : p ≤ c.length) (hq : q ≤ c.length) (h1 : walkT c p c.length 0 [] = some s) (h2 : walkT c q c.length 0 [] = some s) : p = q := by
 rw [(walk_prim c p s hp h1).1,(walk_prim c q s hq h2).1]
/-! ### The column of ends in order -/
def colE (s e : List Nat) : List Nat := s.getD (s.length - 1) 0 :: (e.filter (fun a => decide (a ≠ 0))).map (fun a => s.getD (a - 1) 0)
theorem split_zero {n : Nat} {e : List Nat} (hp : e.Perm (List.range n)) (hn : 0 < n) : ∃ x y, e = x ++ 0 :: y ∧ e.filter (fun a => decide (a ≠ 0)) = x ++ y ∧ e.idxOf 0 = x.length := by
 have hm:0 ∈ e:=hp.mem_iff.2 (List.mem_range.2 hn)
 have hnd:e.Nodup:=hp.nodup_iff.2 List.nodup_range
 obtain ⟨x,y,rfl⟩:=List.append_of_mem hm
 obtain ⟨_,n2,n3⟩:=List.nodup_append.1 hnd
 have hx:∀ a ∈ x,a≠0:=fun a ha=>n3 a ha 0 (List.mem_cons_self ..)
 have hy:∀ a ∈ y,a≠0:=fun a ha e=>by subst e;exact (List.nodup_cons.1 n2).1 ha
 refine ⟨x,y,rfl,?_,?_⟩
 ·rw [List.filter_append,List.filter_cons]
  rw [List.filter_eq_self.2 (fun a ha=>by simp [hx a ha]),List.filter_eq_self.2 (fun a ha=>by simp [hy a ha])]
  simp
 ·rw [List.idxOf_append,if_neg (fun h=>hx 0 h rfl)];simp
theorem colE_ok {s e : List Nat} (h : SortedE s e) (hn : 0 < s.length) : ColR s (colE s e) (e.idxOf 0 + 1) (rowE e s.length) := by
 obtain ⟨x,y,he,hf,hi⟩:=split_zero h.1 hn
 have hl:=h.len
 have hxy:x.length+y.length+1=s.length:=by rw [← hl,he];simp;omega
 refine ⟨isRow_sorted h,?_,hn,by unfold rowE;rw [if_pos hn],fun a ha=>?_⟩
 ·unfold colE;rw [hf];simp;omega
 ·rw [hi]
  unfold colE
  rw [hf]
  by_cases h1:a+1<s.length
  ·have hm:a+1 ∈ e:=h.1.mem_iff.2 (List.mem_range.2 h1)
   have hlt:=List.idxOf_lt_length_of_mem hm
   have hge:e[e.idxOf (a+1)]=a+1:=List.getElem_idxOf hlt
   unfold rowE;rw [if_pos h1]
   generalize e.idxOf (a+1)=q at *
   have hq:(x ++ 0 :: y)[q]?=some (a+1):=by rw [← he,List.getElem?_eq_getElem hlt,hge]
   have key:(x ++ y)[atR (x.length+1) (q+1)-1]?=some (a+1)∧1≤atR (x.length+1) (q+1):=by
    unfold atR
    rcases Nat.lt_trichotomy q x.length with h2 | h2 | h2
    ·rw [if_neg (by omega),Nat.add_sub_cancel]
     rw [List.getElem?_append_left h2] at hq ⊢
     exact ⟨hq,by omega⟩
    ·subst h2
     rw [List.getElem?_append_right (Nat.le_refl _),Nat.sub_self] at hq
     simp at hq
    ·rw [if_pos (by omega),Nat.add_sub_cancel]
     rw [List.getElem?_append_right (by omega)] at hq ⊢
     obtain ⟨d,hd⟩ : ∃ d,q-x.length=d+1:=⟨q-x.length-1,by omega⟩
     rw [hd,List.getElem?_cons_succ] at hq
     rw [show q-1-x.length=d by omega]
     exact ⟨hq,by omega⟩
   obtain ⟨k1,k2⟩:=key
   obtain ⟨z,hz⟩ : ∃ z,atR (x.length+1) (q+1)=z+1:=⟨atR (x.length+1) (q+1)-1,by omega⟩
   rw [hz,Nat.add_sub_cancel] at k1
   rw [hz,List.getD_eq_getElem?_getD,List.getElem?_cons_succ,List.getElem?_map,k1]
   rfl
  ·obtain rfl:a=s.length-1:=by omega
   unfold rowE
   rw [if_neg (by omega)]
   rfl
/-! ### What two ends have in common -/
theorem lcp_comm : ∀ a b : List Nat, lcp a b = lcp b a
 | [],[]=>rfl
 | [],_ :: _=>rfl
 | _ :: _,[]=>rfl
 | x :: a,y :: b=>by
  rw [lcp,lcp,lcp_comm a b]
  by_cases h:x=y
  ·rw [if_pos h,if_pos h.symm]
  ·rw [if_neg h,if_neg (fun e=>h e.symm)]
theorem lcp_le : ∀ a b : List Nat, lcp a b ≤ a.length ∧ lcp a b ≤ b.length
 | [],[]=>⟨Nat.le_refl _,Nat.le_refl _⟩
 | [],_ :: _=>⟨Nat.le_refl _,Nat.zero_le _⟩
 | _ :: _,[]=>⟨Nat.zero_le _,Nat.le_refl _⟩
 | x :: a,y :: b=>by
  have:=lcp_le a b
  rw [lcp,List.length_cons,List.length_cons]
  split <;> omega
/-- So far they are alike; one more, or not. -/
theorem lcp_more : ∀ (a b : List Nat) (k : Nat), k ≤ lcp a b → (k < lcp a b ↔ k < a.length ∧ k < b.length ∧ a.getD k 0 = b.getD k 0)
 | [],[],k,h=>by simp [lcp]
 | [],_ :: _,k,h=>by simp [lcp]
 | _ :: _,[],k,h=>by simp [lcp]
 | x :: a,y :: b,0,h=>by
  rw [lcp]
  by_cases hx:x=y
  ·rw [if_pos hx];simp [hx]
  ·rw [if_neg hx];simp [hx]
 | x :: a,y :: b,k+1,h=>by
  rw [lcp] at h ⊢
  by_cases hx:x=y
  ·rw [if_pos hx] at h ⊢
   have:=lcp_more a b k (by omega)
   simp only [List.length_cons,List.getD_cons_succ];omega
  ·rw [if_neg hx] at h;omega
/-- What each has in common with the one ahead; done so far: those whose ends are less than i. -/
def comA (l e : List Nat) (q : Nat) : Nat := if q = 0 then 0 else lcp (l.drop (e.getD (q - 1) 0)) (l.drop (e.getD q 0))
def comU (l e : List Nat) (i : Nat) : List Nat := (List.range e.length).map (fun q => if e.getD q 0 < i then comA l e q else 0)
def comR (l e : List Nat) : List Nat := (List.range e.length).map (comA l e)
theorem comU_zero (l e : List Nat) : comU l e 0 = List.replicate e.length 0 := by
 unfold comU
 refine List.ext_getElem (by simp) fun i h1 h2=>?_
 simp
theorem comU_all (l e : List Nat) (h : ∀ x ∈ e, x < l.length) : comU l e l.length = comR l e := by
 unfold comU comR
 refine List.map_congr_left fun q hq=>?_
 rw [if_pos (by rw [getD_get e q 0 (List.mem_range.1 hq)];exact h _ (List.getElem_mem _))]
theorem comU_step (l e : List Nat) (q : Nat) (hq : q < e.length) (hn : e.Nodup) : comU l e (e.getD q 0 + 1) = (comU l e (e.getD q 0)).set q (comA l e q) := by
 unfold comU
 refine List.ext_getElem (by simp) fun i h1 h2=>?_
 simp only [List.length_map,List.length_range] at h1
 rw [List.getElem_set,List.getElem_map,List.getElem_map,List.getElem_range]
 by_cases hi:q=i
 ·subst hi;rw [if_pos rfl,if_pos (by omega)]
 ·rw [if_neg hi]
  have hne:e.getD i 0≠e.getD q 0:=fun h=>by
   rw [getD_get e i 0 h1,getD_get e q 0 hq] at h
   rcases Nat.lt_or_ge i q with h' | h'
   ·exact List.pairwise_iff_getElem.1 hn i q h1 hq h' h
   ·exact List.pairwise_iff_getElem.1 hn q i hq h1 (by omega) h.symm
  by_cases h3:e.getD i 0<e.getD q 0
  ·rw [if_pos h3,if_pos (by omega)]
  ·rw [if_neg h3,if_neg (by omega)]
end Ord
end Go.Proofs.Ytgidjbpgkeemiaa
namespace Go.Proofs.Ytgidjbpgkeemiaa
open Go.RowKit
open Mv Num Loser Srt
set_option maxRecDepth 4000
theorem cb_append (a b : List UInt8) : cellsB (a ++ b) = cellsB a ++ cellsB b := by simp [cellsB]
theorem nums_map (s : ByteArray) : numsT s = s.data.toList.map UInt8.toNat := by
 refine List.ext_getElem (by simp [numsT]) fun i h1 h2=>?_
 have hi:i<s.data.toList.length:=by simpa using h2
 simp only [numsT,List.getElem_map,List.getElem_range]
 unfold byT
 rw [at8_get _ _ hi];unfold nb;rw [Int.toNat_natCast]
theorem nums_bs (l : List UInt8) : numsT (bs l) = l.map UInt8.toNat := by rw [nums_map, bs_data]
theorem nums_cells (s : ByteArray) : cellsB s.data.toList = (numsT s).map encB := by
 rw [nums_map,List.map_map];rfl
theorem nums_inj {s t : ByteArray} (h : numsT s = numsT t) : s = t := by
 rw [nums_map,nums_map] at h
 have:=List.map_inj_right (f:=UInt8.toNat) (fun a b h=>UInt8.toNat_inj.1 h) |>.1 h
 rw [← bs_of s,← bs_of t,this]
theorem nums_getD (s : ByteArray) (i : Nat) : (numsT s).getD i 0 = (at8 s.data.toList i).toNat := by
 rw [nums_map,List.getD_eq_getElem?_getD,List.getElem?_map]
 unfold at8
 rw [List.getD_eq_getElem?_getD]
 cases s.data.toList[i]? <;> rfl
theorem size_z (s : ByteArray) : (s = ByteArray.empty) ↔ s.size = 0 := ⟨fun h => by rw [h]; rfl, fun h => by
 have h2:s.data.toList = []:=List.length_eq_zero_iff.1 (by simpa using h)
 rw [← bs_of s,h2];rfl⟩
/-- The column so far. -/
def colB (s : ByteArray) (e : List Nat) : List UInt8 := at8 s.data.toList (s.size - 1) :: (e.filter (fun a => decide (a ≠ 0))).map (fun a => at8 s.data.toList (a - 1))
def primU (e : List Nat) : Nat → Nat
  | 0 => 0
  | i + 1 => if e.getD i 0 = 0 then i + 1 else primU e i
theorem colB_nums (s : ByteArray) (e : List Nat) : (colB s e).map UInt8.toNat = Ord.colE (numsT s) e := by
 unfold colB Ord.colE
 rw [List.map_cons,List.map_map,nums_getD,numsT_length]
 congr 1
 refine List.map_congr_left fun a _=>?_
 rw [Function.comp_apply,nums_getD]
theorem colB_zero (s : ByteArray) (e : List Nat) (i : Nat) (hi : i < e.length) (h : e[i] = 0) : colB s (e.take (i + 1)) = colB s (e.take i) := by
 unfold colB;rw [List.take_succ_eq_append_getElem hi,List.filter_append,h];simp
theorem colB_more (s : ByteArray) (e : List Nat) (i : Nat) (hi : i < e.length) (h : e[i] ≠ 0) : colB s (e.take (i + 1)) = colB s (e.take i) ++ [at8 s.data.toList (e[i] - 1)] := by
 unfold colB;rw [List.take_succ_eq_append_getElem hi,List.filter_append];simp [h]
theorem colB_len (s : ByteArray) (e : List Nat) (i : Nat) : (colB s (e.take i)).length ≤ i + 1 := by
 unfold colB
 rw [List.length_cons,List.length_map]
 have h1:=List.length_filter_le (fun a=>decide (a≠0)) (e.take i)
 have h2:=List.length_take_le i e
 omega
theorem primU_idx (e : List Nat) (n : Nat) (hp : e.Perm (List.range n)) (hn : 0 < n) : primU e e.length = e.idxOf 0 + 1 := by
 obtain ⟨x,y,he,_,hi⟩:=Ord.split_zero hp hn
 have hnd:e.Nodup:=hp.nodup_iff.2 List.nodup_range
 have hel:e.length=x.length+1+y.length:=by rw [he];simp;omega
 have h0:e.getD x.length 0=0:=by rw [he];simp
 have key:∀ i,x.length<i→i≤e.length→primU e i=x.length+1:=by
  intro i
  induction i with
  | zero=>intro h;omega
  | succ i ih =>
   intro h1 h2
   rw [primU]
   by_cases h3:i=x.length
   ·subst h3;rw [if_pos h0]
   ·have hne:e.getD i 0≠0:=fun h4=>by
     have h4:=h4.trans h0.symm
     rw [getD_get e i 0 (by omega),getD_get e x.length 0 (by omega)] at h4
     exact List.pairwise_iff_getElem.1 hnd x.length i (by omega) (by omega) (by omega) h4.symm
    rw [if_neg hne];exact ih (by omega) (by omega)
 rw [hi];exact key _ (by omega) (Nat.le_refl _)
/-- A text's column, primary and error. -/
def colP (s : ByteArray) : ByteArray × Nat × Nat :=
  if 4096 < s.size then (bs [], 0, 1) else if s.size = 0 then (bs [], 0, 0) else (bs (colB s (Ord.endsR (numsT s) s.size)), (Ord.endsR (numsT s) s.size).idxOf 0 + 1, 0)
def ColPR (s : ByteArray) (S : Mem) (r : Value) (S' : Mem) : Prop := r = .tuple #[.string (colP s).1, .int .i64 ((colP s).2.1 : Nat), .int .i64 ((colP s).2.2 : Nat)] ∧ S' = S
theorem bin_empty {t : TypeId} {x y : Operand} {s : ByteArray} (h : s.size = 0) : Bin Try.prog .eql t x y (.string s) (.string ByteArray.empty) (.bool true) := bin_bool (bin_str_eql _ _) (decide_eq_true ((size_z s).2 h))
theorem bin_some {t : TypeId} {x y : Operand} {s : ByteArray} (h : s.size ≠ 0) : Bin Try.prog .eql t x y (.string s) (.string ByteArray.empty) (.bool false) := bin_bool (bin_str_eql _ _) (decide_eq_false (fun e => h ((size_z s).1 e)))
theorem byte_at {s : ByteArray} {a : Nat} (h : a ≠ 0) : Value.int .u8 (nb (at8 s.data.toList (((a : Int) - 1).toNat))) = .int .u8 (nb (at8 s.data.toList (a - 1))) := by rw [show ((a : Int) - 1).toNat = a - 1 by omega]
set_option maxHeartbeats 2000000 in
theorem rr_Column (s : ByteArray) (S : Mem) (hs : s.size ≤ 1048576) :
  ACall Try.prog 56 #[.string s] S (ColPR s S):=by
 by_cases hbig:4096<s.size
 ·have hcp:colP s=(bs [],0,1):=by unfold colP;rw [if_pos hbig]
  refine ACall.enter (rs:=[.tmp 2,.tmp 3,.tmp 4]) 50 [(0,.string s)] Try.func56 rfl rfl (Nat.le_of_ble_eq_true rfl) rfl ⟨rfl,trivial⟩ ?_
  refine k_a (k_s rfl (k_s rfl (k_e rfl (k_a ?_))))
  refine k_m rfl ?_
  refine ARun.call (lit_lt rfl) go_88 rfl (rr_Numbers s _ hs) ?_
  rintro _ S1 ⟨hS1,hu1⟩
  refine ARun.call (lit_lt rfl) go_48 rfl (rr_Ends _ (numsT s) _ hu1) ?_
  rintro _ S2 hE
  obtain ⟨_,rfl,h2⟩:=hE.resolve_left (fun h=>by have:=h.1;rw [numsT_length] at this;omega)
  rw [h2]
  refine k_m rfl ?_
  refine rC (Calm.extract rfl rfl) ?_
  refine rC (Calm.extract rfl rfl) ?_
  refine k_s rfl (k_e rfl ?_)
  refine k_u [(0,_),(2,_),(3,_),(4,_),(5,_),(6,_)] ?_
  refine AWP.seq (k_a (k_m rfl ?_))
  refine rC (Calm.bin rfl rfl b_neq) ?_
  refine k_n ?_
  refine k_u [(0,_),(2,_),(3,_),(4,_),(5,_),(6,_),(18,_)] ?_
  refine k_T rfl ?_
  refine k_a (k_m rfl (k_s rfl (k_s rfl (k_e rfl ?_))))
  refine k_u [(0,_),(2,_),(3,_),(4,_),(5,_),(6,_),(18,_)] ?_
  refine k_r ?_
  refine ⟨_,S,⟨_,_,rfl,⟨_,_,rfl,⟨_,_,rfl,rfl,rfl⟩,rfl⟩,rfl⟩,hS1,?_⟩
  exact ⟨by rw [hcp];rfl,rfl⟩
 by_cases hz:s.size=0
 ·have hcp:colP s=(bs [],0,0):=by unfold colP;rw [if_neg hbig,if_pos hz]
  refine ACall.enter (rs:=[.tmp 2,.tmp 3,.tmp 4]) 50 [(0,.string s)] Try.func56 rfl rfl (Nat.le_of_ble_eq_true rfl) rfl ⟨rfl,trivial⟩ ?_
  refine k_a (k_s rfl (k_s rfl (k_e rfl (k_a ?_))))
  refine k_m rfl ?_
  refine ARun.call (lit_lt rfl) go_88 rfl (rr_Numbers s _ hs) ?_
  rintro _ S1 ⟨hS1,hu1⟩
  refine ARun.call (lit_lt rfl) go_48 rfl (rr_Ends _ (numsT s) _ hu1) ?_
  rintro _ S2 hE
  obtain ⟨_,u2,rfl,hS2,hu2⟩:=hE.resolve_right (fun h=>by have:=h.1;rw [numsT_length] at this;omega)
  refine k_m rfl ?_
  refine rC (Calm.extract rfl rfl) ?_
  refine rC (Calm.extract rfl rfl) ?_
  refine k_s rfl (k_e rfl ?_)
  refine k_u [(0,_),(2,_),(3,_),(4,_),(5,_),(6,_)] ?_
  refine AWP.seq (k_a (k_m rfl ?_))
  refine rC (Calm.bin rfl rfl b_neq) ?_
  refine k_n ?_
  refine k_u [(0,_),(2,_),(3,_),(4,_),(5,_),(6,_),(18,_)] ?_
  refine k_F rfl ?_
  refine k_k (AWP.seq (k_a (k_m rfl ?_)))
  refine rC (Calm.bin rfl rfl (bin_empty hz)) ?_
  refine k_n ?_
  refine k_u [(0,_),(2,_),(3,_),(4,_),(5,_),(6,_),(18,_),(21,_)] ?_
  refine k_T rfl ?_
  refine k_a (k_s rfl (k_s rfl (k_e rfl ?_)))
  refine k_r ?_
  refine ⟨_,S,⟨_,_,rfl,⟨_,_,rfl,⟨_,_,rfl,rfl,rfl⟩,rfl⟩,rfl⟩,hS1.trans hS2,?_⟩
  exact ⟨by rw [hcp];rfl,rfl⟩
 obtain ⟨n,hn⟩ : ∃ n,n=s.size:=⟨_,rfl⟩
 obtain ⟨e,he⟩ : ∃ e,e=Ord.endsR (numsT s) s.size:=⟨_,rfl⟩
 have hcp:colP s=(bs (colB s e),e.idxOf 0+1,0):=by unfold colP;rw [if_neg hbig,if_neg hz,he]
 have hse:Ord.SortedE (numsT s) e:=by have:=Ord.endsR_ok (numsT s);rw [numsT_length,← he] at this;exact this
 have hpe:e.Perm (List.range n):=by have:=hse.1;rw [numsT_length,← hn] at this;exact this
 have hel:e.length=n:=by rw [hpe.length_eq,List.length_range]
 have hlt:∀ x ∈ e,x<n:=fun x hx=>List.mem_range.1 (hpe.mem_iff.1 hx)
 refine ACall.enter (rs:=[.tmp 2,.tmp 3,.tmp 4]) 50 [(0,.string s)] Try.func56 rfl rfl (Nat.le_of_ble_eq_true rfl) rfl ⟨rfl,trivial⟩ ?_
 refine k_a (k_s rfl (k_s rfl (k_e rfl (k_a ?_))))
 refine k_m rfl ?_
 refine ARun.call (lit_lt rfl) go_88 rfl (rr_Numbers s _ hs) ?_
 rintro _ S1 ⟨hS1,hu1⟩
 refine ARun.call (lit_lt rfl) go_48 rfl (rr_Ends _ (numsT s) _ hu1) ?_
 rintro _ S2 hE
 obtain ⟨_,u2,rfl,hS2,hu2⟩:=hE.resolve_right (fun h=>by have:=h.1;rw [numsT_length] at this;omega)
 rw [numsT_length,← he] at hu2
 have hSS2:=hS1.trans hS2
 obtain ⟨ea,ec,rfl,h1,h2,h3⟩:=hu2
 rw [hel] at h1 h2 ⊢
 refine k_m rfl ?_
 refine rC (Calm.extract rfl rfl) ?_
 refine rC (Calm.extract rfl rfl) ?_
 refine k_s rfl (k_e rfl ?_)
 refine k_u [(0,_),(2,_),(3,_),(4,_),(5,_),(6,_)] ?_
 refine AWP.seq (k_a (k_m rfl ?_))
 refine rC (Calm.bin rfl rfl b_neq) ?_
 refine k_n ?_
 refine k_u [(0,_),(2,_),(3,_),(4,_),(5,_),(6,_),(18,_)] ?_
 refine k_F rfl ?_
 refine k_k (AWP.seq (k_a (k_m rfl ?_)))
 refine rC (Calm.bin rfl rfl (bin_some hz)) ?_
 refine k_n ?_
 refine k_u [(0,_),(2,_),(3,_),(4,_),(5,_),(6,_),(18,_),(21,_)] ?_
 refine k_F rfl ?_
 refine k_k (k_a (k_m rfl (k_m rfl ?_)))
 refine rC (Calm.lenStr (strT_spec ty_str_9) rfl) ?_
 refine rC (Calm.bin rfl rfl b_sub_i64) ?_
 refine rC (Calm.as (show Value.int .u8 (nb (at8 s.data.toList (((s.size:Int)-1).toNat))) = .int .u8 (nb (at8 s.data.toList (s.size-1))) by rw [show ((s.size:Int)-1).toNat=s.size-1 by omega]) (Calm.indexStr (strT_spec ty_str_9) rfl rfl (by omega) (by omega))) ?_
 refine ARun.build1s (lit_lt rfl) ty_sl_107 rfl rfl ?_
 intro b27 f27
 have g27:=f27
 repeat ((with_reducible replace g27:=fresh_set g27);obtain ⟨g27,_⟩:=g27)
 refine k_e rfl ?_
 refine k_u [(0,_),(2,_),(3,_),(4,_),(5,_),(6,_),(18,_),(21,_),(7,_)] ?_
 refine k_a (k_e rfl (AWP.seq (k_a (k_m rfl ?_))))
 refine rC (Calm.lenSl Try.underlying24 rfl) ?_
 refine k_m rfl (k_n ?_)
 refine AWP.block ?_
 refine AWP.loop (X:=Nat × Nat × Option (Nat × Nat)) (fun x=>[(0,.string s),(7,outV x.2.2 (colB s (e.take x.1)).length),(8,.int .i64 x.2.1),(28,.slice ea n ec),(29,.int .i64 n),(30,.int .i64 x.1)]) (fun x=>outM S2 x.2.2 5 (cellsB (colB s (e.take x.1)))) (fun x=>x.1≤n∧x.2.1=primU e x.1∧OkO S2 x.2.2 (colB s (e.take x.1)).length) (fun x=>n-x.1) ((0,0,some (b27,1))) ⟨rfl,rfl,rfl,rfl,rfl,rfl,trivial⟩ (Mem.Less.refl _) (⟨Nat.zero_le _,rfl,okO_own f27 (Nat.le_refl 1)⟩) ?_
 rintro ⟨i,p,o⟩ ⟨q1,q2,q3⟩
 (try dsimp only at *)
 have hcl:=colB_len s e i
 have hlen:(cellsB (colB s (e.take i))).length=(colB s (e.take i)).length:=cellsB_length _
 have hSk:S2.Less (outM S2 o 5 (cellsB (colB s (e.take i)))):=outM_over q3
 by_cases hc:i<n
 ·refine k_a ?_
  refine rC (Calm.bin rfl rfl b_lss) ?_
  refine k_n (AWP.seq ?_)
  refine k_T rfl ?_
  have hie:i<e.length:=by omega
  obtain ⟨eb,eo,rfl,hk⟩:=h3.resolve_left (fun h=>by rw [h] at hie;exact absurd hie (Nat.not_lt_zero _))
  obtain ⟨a,ha⟩ : ∃ a,a=e[i]:=⟨_,rfl⟩
  have han:a<n:=by rw [ha];exact hlt _ (List.getElem_mem _)
  have hka:Mem.Knows (outM S2 o 5 (cellsB (colB s (e.take i)))) ⟨eb,eo+i*1,none⟩ [.int .i64 (a:Int)]:=by rw [ha];exact (hk i hie).less hSk
  by_cases h0:a=0
  ·have hcz:=colB_zero s e i hie (by rw [← ha];exact h0)
   refine k_k (AWP.seq ?_)
   refine AWP.block ?_
   refine k_a (k_m rfl ?_)
   refine rC (Calm.indexS Try.underlying24 ty_size_3 rfl rfl (by omega) (by omega)) ?_
   refine rC (ld_ ty_plain_3 rfl) ?_
   refine k_s rfl (k_e rfl ?_)
   refine k_u [(0,_),(7,_),(8,_),(28,_),(29,_),(30,_),(31,_),(9,_),(10,_)] ?_
   refine k_a (k_m rfl ?_)
   refine rC (Calm.bin rfl rfl b_eql) ?_
   refine k_n ?_
   refine k_u [(0,_),(7,_),(8,_),(28,_),(29,_),(30,_),(31,_),(9,_),(10,_),(36,_)] ?_
   refine k_T rfl ?_
   refine AWP.region ?_
   refine k_m rfl ?_
   refine rC (Calm.bin rfl rfl b_add_i64) ?_
   refine k_s rfl ?_
   refine arun_nil ?_
   refine ain_n ?_
   refine athen_n ?_
   refine k_u [(0,_),(7,_),(8,_),(28,_),(29,_),(30,_),(31,_),(9,_),(10,_),(36,_)] ?_
   refine AWP.region ?_
   refine rC (Calm.bin rfl rfl b_add_i64) ?_
   refine k_m rfl (k_n ?_)
   refine ⟨(i+1,i+1,o),?_,?_,?_,?_⟩
   all_goals (try dsimp only)
   ·exact ⟨sq_,by rw [hcz];rfl,sq_,sq_,sq_,sq_,trivial⟩
   ·rw [hcz];exact Mem.Less.refl _
   ·exact ⟨hc,by rw [primU,getD_get e i 0 hie,← ha,if_pos h0],by rw [hcz];exact q3⟩
   ·omega
  ·have hcm:=colB_more s e i hie (by rw [← ha];exact h0)
   refine k_k (AWP.seq ?_)
   refine AWP.block ?_
   refine k_a (k_m rfl ?_)
   refine rC (Calm.indexS Try.underlying24 ty_size_3 rfl rfl (by omega) (by omega)) ?_
   refine rC (ld_ ty_plain_3 rfl) ?_
   refine k_s rfl (k_e rfl ?_)
   refine k_u [(0,_),(7,_),(8,_),(28,_),(29,_),(30,_),(31,_),(9,_),(10,_)] ?_
   refine k_a (k_m rfl ?_)
   refine rC (Calm.bin rfl rfl b_eql) ?_
   refine k_n ?_
   refine k_u [(0,_),(7,_),(8,_),(28,_),(29,_),(30,_),(31,_),(9,_),(10,_),(36,_)] ?_
   refine k_F rfl ?_
   refine AWP.region ?_
   refine k_m rfl (k_m rfl (k_m rfl ?_))
   refine rC (Calm.bin rfl rfl b_sub_i64) ?_
   refine rC (Calm.as (byte_at h0) (Calm.indexStr (strT_spec ty_str_9) rfl rfl (by omega) (by omega))) ?_
   refine ARun.build1s (lit_lt rfl) ty_sl_107 rfl rfl ?_
   intro b44 f44
   have g44:=f44
   repeat ((with_reducible replace g44:=fresh_set g44);obtain ⟨g44,_⟩:=g44)
   refine ARun.appendO (lit_lt rfl) ty_sl_107 rfl hlen (appO_of q3 hlen f44) rfl (news:=[_]) rds_ rfl (by omega) (by simp [Value.oneCell']) (by omega) (by omega) ?_
   intro b45 c45 ho2
   have hpush:cellsB (colB s (e.take i)) ++ [.int .u8 (nb (at8 s.data.toList (a-1)))]=cellsB (colB s (e.take (i+1))):=by rw [hcm,cb_append,ha];rfl
   have hpl:(colB s (e.take (i+1))).length=(colB s (e.take i)).length+1:=by rw [hcm,List.length_append];rfl
   refine k_s rfl ?_
   refine arun_nil ?_
   refine ain_n ?_
   refine athen_n ?_
   refine k_u [(0,_),(7,_),(8,_),(28,_),(29,_),(30,_),(31,_),(9,_),(10,_),(36,_)] ?_
   refine AWP.region ?_
   refine rC (Calm.bin rfl rfl b_add_i64) ?_
   refine k_m rfl (k_n ?_)
   refine ⟨(i+1,p,some (b45,c45)),?_,?_,?_,?_⟩
   all_goals (try dsimp only)
   ·exact ⟨sq_,by rw [hpl];rfl,sq_,sq_,sq_,sq_,trivial⟩
   ·rw [hpush];exact Mem.Less.refl _
   ·exact ⟨hc,by rw [primU,getD_get e i 0 hie,← ha,if_neg h0];exact q2,by rw [hpl];exact ho2⟩
   ·omega
 ·obtain rfl:i=n:=by omega
  refine k_a ?_
  refine rC (Calm.bin rfl rfl b_lss) ?_
  refine k_n (AWP.seq ?_)
  refine k_F rfl ?_
  rw [List.take_of_length_le (by omega)] at q3 hlen ⊢
  obtain ⟨bo,co,rfl⟩:=q3.some (by unfold colB;simp)
  refine AWP.exit ?_
  refine athen_exit ?_
  refine athen_exit ?_
  refine ain_same ?_
  refine athen_n ?_
  refine k_a (k_m rfl ?_)
  refine rC (Calm.toStr ty_bytes_107 ty_str_9 rfl rfl (rds_outM _ _ _ _ _)) ?_
  refine k_m rfl (k_s rfl (k_s rfl (k_e rfl ?_)))
  refine k_u [(0,_),(7,_),(8,_),(28,_),(29,_),(30,_),(31,_),(2,_),(3,_),(4,_)] ?_
  refine AWP.ret ?_
  refine ⟨_,S,⟨_,_,rfl,⟨_,_,rfl,⟨_,_,rfl,rfl,rfl⟩,rfl⟩,rfl⟩,hSS2.trans (outM_over q3),?_⟩
  exact ⟨by rw [hcp,q2,← hel,primU_idx e e.length (by rw [hel];exact hpe) (by omega)];rfl,rfl⟩
set_option maxHeartbeats 2000000 in
theorem od_Column (s : ByteArray) (S : Mem) (hs : s.size ≤ 140737488355327) :
  ACall Try.prog 55 #[.string s] S (ColPR s S):=by
 by_cases hbig:4096<s.size
 ·have hcp:colP s=(bs [],0,1):=by unfold colP;rw [if_pos hbig]
  refine ACall.enter (rs:=[.tmp 2,.tmp 3,.tmp 4]) 50 [(0,.string s)] Try.func55 rfl rfl (Nat.le_of_ble_eq_true rfl) rfl ⟨rfl,trivial⟩ ?_
  refine k_a (k_s rfl (k_s rfl (k_e rfl (AWP.seq ?_))))
  refine k_a (k_m rfl ?_)
  refine rC (Calm.lenStr (strT_spec ty_str_9) rfl) ?_
  refine rC (Calm.bin rfl rfl b_gtr) ?_
  refine k_n ?_
  refine k_u [(0,_),(2,_),(3,_),(4,_),(11,_)] ?_
  refine k_T rfl ?_
  refine k_a (k_s rfl (k_s rfl (k_e rfl ?_)))
  refine k_r ?_
  refine ⟨_,S,⟨_,_,rfl,⟨_,_,rfl,⟨_,_,rfl,rfl,rfl⟩,rfl⟩,rfl⟩,less_,?_⟩
  exact ⟨by rw [hcp];rfl,rfl⟩
 by_cases hz:s.size=0
 ·have hcp:colP s=(bs [],0,0):=by unfold colP;rw [if_neg hbig,if_pos hz]
  refine ACall.enter (rs:=[.tmp 2,.tmp 3,.tmp 4]) 50 [(0,.string s)] Try.func55 rfl rfl (Nat.le_of_ble_eq_true rfl) rfl ⟨rfl,trivial⟩ ?_
  refine k_a (k_s rfl (k_s rfl (k_e rfl (AWP.seq ?_))))
  refine k_a (k_m rfl ?_)
  refine rC (Calm.lenStr (strT_spec ty_str_9) rfl) ?_
  refine rC (Calm.bin rfl rfl b_gtr) ?_
  refine k_n ?_
  refine k_u [(0,_),(2,_),(3,_),(4,_),(11,_)] ?_
  refine k_F rfl ?_
  refine k_k (AWP.seq (k_a (k_m rfl ?_)))
  refine rC (Calm.bin rfl rfl (bin_empty hz)) ?_
  refine k_n ?_
  refine k_u [(0,_),(2,_),(3,_),(4,_),(11,_),(13,_)] ?_
  refine k_T rfl ?_
  refine k_a (k_s rfl (k_s rfl (k_e rfl ?_)))
  refine k_r ?_
  refine ⟨_,S,⟨_,_,rfl,⟨_,_,rfl,⟨_,_,rfl,rfl,rfl⟩,rfl⟩,rfl⟩,less_,?_⟩
  exact ⟨by rw [hcp];rfl,rfl⟩
 obtain ⟨n,hn⟩ : ∃ n,n=s.size:=⟨_,rfl⟩
 obtain ⟨e,he⟩ : ∃ e,e=Ord.endsR (numsT s) s.size:=⟨_,rfl⟩
 have hcp:colP s=(bs (colB s e),e.idxOf 0+1,0):=by unfold colP;rw [if_neg hbig,if_neg hz,he]
 have hse:Ord.SortedE (numsT s) e:=by have:=Ord.endsR_ok (numsT s);rw [numsT_length,← he] at this;exact this
 have hpe:e.Perm (List.range n):=by have:=hse.1;rw [numsT_length,← hn] at this;exact this
 have hel:e.length=n:=by rw [hpe.length_eq,List.length_range]
 have hlt:∀ x ∈ e,x<n:=fun x hx=>List.mem_range.1 (hpe.mem_iff.1 hx)
 refine ACall.enter (rs:=[.tmp 2,.tmp 3,.tmp 4]) 50 [(0,.string s)] Try.func55 rfl rfl (Nat.le_of_ble_eq_true rfl) rfl ⟨rfl,trivial⟩ ?_
 refine k_a (k_s rfl (k_s rfl (k_e rfl (AWP.seq ?_))))
 refine k_a (k_m rfl ?_)
 refine rC (Calm.lenStr (strT_spec ty_str_9) rfl) ?_
 refine rC (Calm.bin rfl rfl b_gtr) ?_
 refine k_n ?_
 refine k_u [(0,_),(2,_),(3,_),(4,_),(11,_)] ?_
 refine k_F rfl ?_
 refine k_k (AWP.seq (k_a (k_m rfl ?_)))
 refine rC (Calm.bin rfl rfl (bin_some hz)) ?_
 refine k_n ?_
 refine k_u [(0,_),(2,_),(3,_),(4,_),(11,_),(13,_)] ?_
 refine k_F rfl ?_
 refine k_k (k_a (k_m rfl ?_))
 refine rC (Calm.lenStr (strT_spec ty_str_9) rfl) ?_
 refine ARun.makeSliceP (lit_lt rfl) ty_sl_107 rfl rfl (by omega) (by omega) (by omega) (by omega) ?_
 intro b16 f16
 have g16:=f16
 repeat ((with_reducible replace g16:=fresh_set g16);obtain ⟨g16,_⟩:=g16)
 refine k_e rfl ?_
 refine k_u [(0,_),(2,_),(3,_),(4,_),(11,_),(13,_),(5,_)] ?_
 rw [show madeL [Value.int .u8 0] ((0:Int).toNat*1)=cellsB [] by rw [madeL_one];rfl,Nat.mul_one,Int.toNat_natCast]
 refine k_a (k_m rfl (k_m rfl (k_m rfl ?_)))
 refine rC (Calm.lenStr (strT_spec ty_str_9) rfl) ?_
 refine rC (Calm.bin rfl rfl b_sub_i64) ?_
 refine rC (Calm.as (show Value.int .u8 (nb (at8 s.data.toList (((s.size:Int)-1).toNat))) = .int .u8 (nb (at8 s.data.toList (s.size-1))) by rw [show ((s.size:Int)-1).toNat=s.size-1 by omega]) (Calm.indexStr (strT_spec ty_str_9) rfl rfl (by omega) (by omega))) ?_
 refine ARun.build1s (lit_lt rfl) ty_sl_107 rfl rfl ?_
 intro b23 f23
 have g23:=f23
 repeat ((with_reducible replace g23:=fresh_set g23);obtain ⟨g23,_⟩:=g23)
 refine ARun.appendO (o:=some (b16,s.size)) (n:=0) (cs:=cellsB []) (lit_lt rfl) ty_sl_107 rfl rfl (appO_of (okO_own f16 (Nat.zero_le _)) rfl f23) rfl (news:=[_]) rds_ rfl (by omega) (by simp [Value.oneCell']) (by omega) (by omega) ?_
 intro b24 c24 ho24
 refine k_e rfl ?_
 refine k_u [(0,_),(2,_),(3,_),(4,_),(11,_),(13,_),(5,_)] ?_
 obtain ⟨f24,hc24⟩:=ho24.own b24 c24 rfl
 refine AWP.less (S.set b24 ⟨5,cellsB (colB s (e.take 0)),c24⟩) (Mem.Less.refl _) ?_
 refine k_a (k_e rfl (AWP.seq (k_a (k_m rfl ?_))))
 refine ARun.toBytes (lit_lt rfl) ty_str_9 ty_bytes_107 rfl ?_
 intro b26 c26 f26 hc26
 have g26:=f26
 repeat ((with_reducible replace g26:=fresh_set g26);obtain ⟨g26,_⟩:=g26)
 obtain ⟨f26a,hne⟩:=fresh_set f26
 rw [Mem.set_comm S _ _ (Ne.symm hne)]
 have f24a:Fresh (S.set b26 ⟨5,cellsB s.data.toList,c26⟩) b24:=fresh_more f24 (Ne.symm hne)
 have hsl:Sl 1 (fun y=>[encB y]) (S.set b26 ⟨5,cellsB s.data.toList,c26⟩) (.slice (some ⟨b26,0,none⟩) s.size c26) (numsT s):=Sl.own1 (g:=encB) (l:=numsT s) (Mem.own_set_same _ _ _) (by rw [nums_cells];exact List.prefix_rfl) (numsT_length s) hc26 (by omega)
 have hS0:S.Less (S.set b26 ⟨5,cellsB s.data.toList,c26⟩):=Mem.less_set _ _ _ f26a.1
 refine ARun.call (lit_lt rfl) go_96 rfl (((odB_ranks _ (numsT s) _ hsl (by rw [numsT_length];omega)).frame f24a)) ?_
 rintro u1 _ ⟨S1,⟨D,hD,hDl,hS1,hu⟩,f24b,rfl⟩
 refine ARun.call (lit_lt rfl) go_89 rfl (((od_ends u1 (numsT s) ((numsT s).map (cntL D)) S1 hu (by rw [List.length_map]) (by rw [numsT_length];omega) (fun x hx=>by obtain ⟨y,_,rfl⟩:=List.mem_map.1 hx;have:=cnt_le D y;rw [numsT_length] at hDl;omega) (rk_cnt _ D hD)).frame f24b)) ?_
 rintro u2 _ ⟨S2,⟨hS2,hu2⟩,f24c,rfl⟩
 rw [numsT_length,← he] at hu2
 have hSS2:=hS0.trans (hS1.trans hS2)
 obtain ⟨ea,ec,rfl,h1,h2,h3⟩:=hu2
 rw [hel] at h1 h2 ⊢
 refine rC (Calm.lenSl Try.underlying24 rfl) ?_
 refine k_m rfl (k_n ?_)
 refine k_u [(0,_),(2,_),(3,_),(4,_),(11,_),(13,_),(5,_),(6,_),(28,_),(29,_),(30,_)] ?_
 refine AWP.block ?_
 refine AWP.loop (X:=Nat × Nat × Option (Nat × Nat)) (fun x=>[(0,.string s),(5,outV x.2.2 (colB s (e.take x.1)).length),(6,.int .i64 x.2.1),(28,.slice ea n ec),(29,.int .i64 n),(30,.int .i64 x.1)]) (fun x=>outM S2 x.2.2 5 (cellsB (colB s (e.take x.1)))) (fun x=>x.1≤n∧x.2.1=primU e x.1∧OkO S2 x.2.2 (colB s (e.take x.1)).length) (fun x=>n-x.1) ((0,0,some (b24,c24))) ⟨rfl,rfl,rfl,rfl,rfl,rfl,trivial⟩ (Mem.Less.refl _) (⟨Nat.zero_le _,rfl,okO_own f24c hc24⟩) ?_
 rintro ⟨i,p,o⟩ ⟨q1,q2,q3⟩
 (try dsimp only at *)
 have hcl:=colB_len s e i
 have hlen:(cellsB (colB s (e.take i))).length=(colB s (e.take i)).length:=cellsB_length _
 have hSk:S2.Less (outM S2 o 5 (cellsB (colB s (e.take i)))):=outM_over q3
 by_cases hc:i<n
 ·refine k_a ?_
  refine rC (Calm.bin rfl rfl b_lss) ?_
  refine k_n (AWP.seq ?_)
  refine k_T rfl ?_
  have hie:i<e.length:=by omega
  obtain ⟨eb,eo,rfl,hk⟩:=h3.resolve_left (fun h=>by rw [h] at hie;exact absurd hie (Nat.not_lt_zero _))
  obtain ⟨a,ha⟩ : ∃ a,a=e[i]:=⟨_,rfl⟩
  have han:a<n:=by rw [ha];exact hlt _ (List.getElem_mem _)
  have hka:Mem.Knows (outM S2 o 5 (cellsB (colB s (e.take i)))) ⟨eb,eo+i*1,none⟩ [.int .i64 (a:Int)]:=by rw [ha];exact (hk i hie).less hSk
  by_cases h0:a=0
  ·have hcz:=colB_zero s e i hie (by rw [← ha];exact h0)
   refine k_k (AWP.seq ?_)
   refine AWP.block ?_
   refine k_a (k_m rfl ?_)
   refine rC (Calm.indexS Try.underlying24 ty_size_3 rfl rfl (by omega) (by omega)) ?_
   refine rC (ld_ ty_plain_3 rfl) ?_
   refine k_s rfl (k_e rfl ?_)
   refine k_u [(0,_),(5,_),(6,_),(28,_),(29,_),(30,_),(31,_),(7,_),(8,_)] ?_
   refine AWP.seq (k_a (k_m rfl ?_))
   refine rC (Calm.bin rfl rfl b_eql) ?_
   refine k_n ?_
   refine k_u [(0,_),(5,_),(6,_),(28,_),(29,_),(30,_),(31,_),(7,_),(8,_),(36,_)] ?_
   refine k_T rfl ?_
   refine k_a (k_m rfl ?_)
   refine rC (Calm.bin rfl rfl b_add_i64) ?_
   refine k_e rfl ?_
   refine k_u [(0,_),(5,_),(6,_),(28,_),(29,_),(30,_),(31,_),(7,_),(8,_),(36,_)] ?_
   refine AWP.exit ?_
   refine athen_exit ?_
   refine ain_same ?_
   refine athen_n ?_
   refine AWP.region ?_
   refine rC (Calm.bin rfl rfl b_add_i64) ?_
   refine k_m rfl (k_n ?_)
   refine ⟨(i+1,i+1,o),?_,?_,?_,?_⟩
   all_goals (try dsimp only)
   ·exact ⟨sq_,by rw [hcz];rfl,sq_,sq_,sq_,sq_,trivial⟩
   ·rw [hcz];exact Mem.Less.refl _
   ·exact ⟨hc,by rw [primU,getD_get e i 0 hie,← ha,if_pos h0],by rw [hcz];exact q3⟩
   ·omega
  ·have hcm:=colB_more s e i hie (by rw [← ha];exact h0)
   refine k_k (AWP.seq ?_)
   refine AWP.block ?_
   refine k_a (k_m rfl ?_)
   refine rC (Calm.indexS Try.underlying24 ty_size_3 rfl rfl (by omega) (by omega)) ?_
   refine rC (ld_ ty_plain_3 rfl) ?_
   refine k_s rfl (k_e rfl ?_)
   refine k_u [(0,_),(5,_),(6,_),(28,_),(29,_),(30,_),(31,_),(7,_),(8,_)] ?_
   refine AWP.seq (k_a (k_m rfl ?_))
   refine rC (Calm.bin rfl rfl b_eql) ?_
   refine k_n ?_
   refine k_u [(0,_),(5,_),(6,_),(28,_),(29,_),(30,_),(31,_),(7,_),(8,_),(36,_)] ?_
   refine k_F rfl ?_
   refine k_k ?_
   refine AWP.region ?_
   refine k_m rfl (k_m rfl (k_m rfl ?_))
   refine rC (Calm.bin rfl rfl b_sub_i64) ?_
   refine rC (Calm.as (byte_at h0) (Calm.indexStr (strT_spec ty_str_9) rfl rfl (by omega) (by omega))) ?_
   refine ARun.build1s (lit_lt rfl) ty_sl_107 rfl rfl ?_
   intro b44 f44
   have g44:=f44
   repeat ((with_reducible replace g44:=fresh_set g44);obtain ⟨g44,_⟩:=g44)
   refine ARun.appendO (lit_lt rfl) ty_sl_107 rfl hlen (appO_of q3 hlen f44) rfl (news:=[_]) rds_ rfl (by omega) (by simp [Value.oneCell']) (by omega) (by omega) ?_
   intro b45 c45 ho2
   have hpush:cellsB (colB s (e.take i)) ++ [.int .u8 (nb (at8 s.data.toList (a-1)))]=cellsB (colB s (e.take (i+1))):=by rw [hcm,cb_append,ha];rfl
   have hpl:(colB s (e.take (i+1))).length=(colB s (e.take i)).length+1:=by rw [hcm,List.length_append];rfl
   refine k_s rfl ?_
   refine arun_nil ?_
   refine ain_n ?_
   refine athen_n ?_
   refine k_u [(0,_),(5,_),(6,_),(28,_),(29,_),(30,_),(31,_),(7,_),(8,_),(36,_)] ?_
   refine AWP.region ?_
   refine rC (Calm.bin rfl rfl b_add_i64) ?_
   refine k_m rfl (k_n ?_)
   refine ⟨(i+1,p,some (b45,c45)),?_,?_,?_,?_⟩
   all_goals (try dsimp only)
   ·exact ⟨sq_,by rw [hpl];rfl,sq_,sq_,sq_,sq_,trivial⟩
   ·rw [hpush];exact Mem.Less.refl _
   ·exact ⟨hc,by rw [primU,getD_get e i 0 hie,← ha,if_neg h0];exact q2,by rw [hpl];exact ho2⟩
   ·omega
 ·obtain rfl:i=n:=by omega
  refine k_a ?_
  refine rC (Calm.bin rfl rfl b_lss) ?_
  refine k_n (AWP.seq ?_)
  refine k_F rfl ?_
  rw [List.take_of_length_le (by omega)] at q3 hlen ⊢
  obtain ⟨bo,co,rfl⟩:=q3.some (by unfold colB;simp)
  refine AWP.exit ?_
  refine athen_exit ?_
  refine athen_exit ?_
  refine ain_same ?_
  refine athen_n ?_
  refine k_a (k_m rfl ?_)
  refine rC (Calm.toStr ty_bytes_107 ty_str_9 rfl rfl (rds_outM _ _ _ _ _)) ?_
  refine k_m rfl (k_s rfl (k_s rfl (k_e rfl ?_)))
  refine k_u [(0,_),(5,_),(6,_),(28,_),(29,_),(30,_),(31,_),(2,_),(3,_),(4,_)] ?_
  refine AWP.ret ?_
  refine ⟨_,S,⟨_,_,rfl,⟨_,_,rfl,⟨_,_,rfl,rfl,rfl⟩,rfl⟩,rfl⟩,hSS2.trans (outM_over q3),?_⟩
  exact ⟨by rw [hcp,q2,← hel,primU_idx e e.length (by rw [hel];exact hpe) (by omega)];rfl,rfl⟩
end Go.Proofs.Ytgidjbpgkeemiaa
