/-
  Texts that belong together: Sort2OI, Sort3OI, Fd10, Fd11, Gro, FdEI, Fd12, Fd13.
-/
import Derived.Test.YtgidjbpgkeemiaaBFi5
set_option linter.unusedVariables false
set_option linter.unusedSimpArgs false
set_option linter.unusedSectionVars false
namespace Go.Proofs.Ytgidjbpgkeemiaa
open Go.RowKit
open Mv Srt
open Go.Sort (swp insInner insOuter insertionSort siftDown heapBuild heapPop heapSort scanUp scanDown partLoop partition partEqLoop partitionEqual scanSorted shiftDown shiftUp partialIns partialInsertionSort order2 median medianAdjacent choosePivot reverseLoop reverseRange breakStep breakPatterns pdq bitsLen xorNext Hint)
set_option maxRecDepth 4000
set_option maxHeartbeats 4000000 in
theorem soI_rev {S : Mem} (b room n cap : Nat) (hb : Fresh S b) (hn : n ≤ 1048576) (d : Array Int) (R : Rw (fun _ => True) n d) (ia ie : Int) (a e : Nat) (ha : ia = a) (he : ie = e) (hae : a < e) (hen : e ≤ n) :
  ACall Try.prog 150 #[.slice (some ⟨b,0,none⟩) n cap,.int .i64 ia,.int .i64 ie] (S.set b ⟨3,(d).toList.map encI,room⟩) fun r S'=>S'=S.set b ⟨3,(reverseRange d a e).toList.map encI,room⟩∧Rw (fun _=>True) n (reverseRange d a e):=by
 subst ha he
 refine ACall.enter (rs:=[]) 32 [(0,.slice (some ⟨b,0,none⟩) n cap),(1,.int .i64 a),(2,.int .i64 e)] Try.func150 rfl rfl (Nat.le_of_ble_eq_true rfl) rfl ⟨rfl,rfl,rfl,trivial⟩ ?_
 refine k_a (k_m rfl (k_e rfl ?_))
 refine k_u [(0,_),(1,_),(2,_),(6,_)] ?_
 refine k_a (k_m rfl ?_)
 refine rC (Calm.bin rfl rfl b_sub_i64) ?_
 refine k_e rfl ?_
 refine k_u [(0,_),(1,_),(2,_),(6,_),(7,_)] ?_
 refine AWP.block ?_
 refine AWP.loop (X:=Nat × Nat × Array Int) (fun x=>[(0,.slice (some ⟨b,0,none⟩) n cap),(6,.int .i64 x.1),(7,.int .i64 x.2.1)]) (fun x=>S.set b ⟨3,(x.2.2).toList.map encI,room⟩) (fun x=>x.1≤n∧x.2.1<e∧Rw (fun _=>True) n x.2.2∧reverseLoop x.1 x.2.1 x.2.2=reverseRange d a e) (fun x=>x.2.1) ((a,e-1,d)) ⟨sb_,sb_,sb_,trivial⟩ (Mem.Less.refl _) (⟨by dsimp only;omega,by dsimp only;omega,R,rfl⟩) ?_
 rintro ⟨i,j,d1⟩ ⟨h1,h2,R1,h3⟩
 (try dsimp only at *)
 have z1:=R1.size
 by_cases hij:i<j
 ·refine AWP.seq (k_a (k_m rfl (k_m rfl ?_)))
  refine rC (Calm.bin rfl rfl b_lss) ?_
  refine k_n ?_
  refine k_u [(0,_),(6,_),(7,_),(13,_)] ?_
  refine k_T rfl ?_
  refine k_k ?_
  refine AWP.block ?_
  refine AWP.seq ?_
  refine AWP.draw [(0,true),(1,true),(2,true),(3,true),(4,true),(5,true),(6,true),(7,true),(8,true),(9,true),(10,true),(11,true),(12,true),(13,false),(14,true),(15,false)] [13,15] mixed (by kernel_rfl) ?_
  refine dP (hc:=fun _=>Calm.move rfl) (h:=?_)
  refine dP (hc:=fun _=>Calm.move rfl) (h:=?_)
  refine dP (hc:=fun _=>Calm.move rfl) (h:=?_)
  refine dP (hc:=fun _=>Calm.move rfl) (h:=?_)
  refine dP (hc:=fun _=>Calm.move rfl) (h:=?_)
  refine dP (hc:=fun _=>Calm.move rfl) (h:=?_)
  refine dP (hc:=fun _=>Calm.indexS Try.underlying24 ty_size_3 rfl rfl (by omega) (by omega)) (h:=?_)
  refine dC (hc:=Calm.load ty_plain_3 rfl (rd_row (k:=j) own_ rw_ rw_)) (h:=?_)
  refine dP (hc:=fun _=>Calm.move rfl) (h:=?_)
  refine dP (hc:=fun _=>Calm.move rfl) (h:=?_)
  refine dP (hc:=fun _=>Calm.indexS Try.underlying24 ty_size_3 rfl rfl (by omega) (by omega)) (h:=?_)
  refine dC (hc:=Calm.load ty_plain_3 rfl (rd_row (k:=i) own_ rw_ rw_)) (h:=?_)
  refine dP (hc:=fun _=>Calm.indexS Try.underlying24 ty_size_3 rfl rfl (by omega) (by omega)) (h:=?_)
  refine draw_only rfl ?_
  refine ARun.storeRow encI (i) rfl rfl ty_size_3 ⟨rfl,rfl⟩ own_ rw_ rw_ ?_
  try simp only [k_ms,k_sz,k_ss,k_za,Nat.reduceAdd]
  refine arun_nil ⟨fun h=>absurd h (by decide),?_⟩
  refine dP (hc:=fun _=>Calm.indexS Try.underlying24 ty_size_3 rfl rfl (by omega) (by omega)) (h:=?_)
  refine draw_only rfl ?_
  refine ARun.storeRow encI (j) rfl rfl ty_size_3 ⟨rfl,rfl⟩ own_ rw_ rw_ ?_
  try simp only [k_ms,k_sz,k_ss,k_za,Nat.reduceAdd]
  refine arun_nil ⟨fun h=>absurd h (by decide),?_⟩
  refine draw_nil ?_
  refine athen_n ?_
  refine k_u [(0,_),(6,_),(7,_),(13,_)] ?_
  refine k_a (k_m rfl ?_)
  refine rC (Calm.bin rfl rfl b_add_i64) ?_
  refine k_e rfl ?_
  refine k_u [(0,_),(6,_),(7,_),(13,_)] ?_
  refine AWP.region ?_
  refine k_m rfl ?_
  refine rC (Calm.bin rfl rfl b_sub_i64) ?_
  refine k_s rfl ?_
  refine arun_nil ?_
  refine ain_n ?_
  refine athen_n ?_
  refine ⟨(i+1,j-1,swp d1 i j),?_,?_,?_,?_⟩
  all_goals (try dsimp only)
  ·exact ⟨sb_,sb_,sb_,trivial⟩
  ·exact Mem.Less.refl _
  ·exact ⟨by omega,by omega,R1.swp _ _ (by omega) (by omega),(rev_go hij).trans h3⟩
  ·omega
 ·refine AWP.seq (k_a (k_m rfl (k_m rfl ?_)))
  refine rC (Calm.bin rfl rfl b_lss) ?_
  refine k_n ?_
  refine k_u [(0,_),(6,_),(7,_),(13,_)] ?_
  refine k_F rfl ?_
  refine AWP.exit ?_
  refine athen_exit ?_
  refine athen_exit ?_
  refine ain_same ?_
  refine ⟨_,_,rfl,Mem.Less.refl _,?_⟩
  rw [← h3,← rev_end hij];exact ⟨rfl,R1⟩
set_option maxHeartbeats 1000000 in
theorem soI_order2 {S : Mem} (b room n cap : Nat) (hb : Fresh S b) (hn : n ≤ 1048576) (d : Array Int) (R : Rw (fun _ => True) n d) (c : Nat) (hc : Fresh S c) (hcb : c ≠ b) (ia ie : Int) (a e k : Nat) (ea : ia = a) (ee : ie = e) (ha : a < n) (he : e < n) (hk : k ≤ 1000) :
  ACall Try.prog 203 #[.slice (some ⟨b,0,none⟩) n cap,.int .i64 ia,.int .i64 ie,.pointer (some ⟨c,0,none⟩)] ((S.set b ⟨3,(d).toList.map encI,room⟩).set c ⟨3,[.int .i64 ((k:Nat):Int)],1⟩) fun r S'=>r = .tuple #[.int .i64 ((order2 Go.Sort.ltInt d a e k).1:Nat),.int .i64 ((order2 Go.Sort.ltInt d a e k).2.1:Nat)]∧S'=(S.set b ⟨3,(d).toList.map encI,room⟩).set c ⟨3,[.int .i64 (((order2 Go.Sort.ltInt d a e k).2.2:Nat):Int)],1⟩:=by
 subst ea ee
 have z:=R.size
 refine ACall.enter (rs:=[.tmp 8,.tmp 9]) 28 [(0,.slice (some ⟨b,0,none⟩) n cap),(1,.int .i64 a),(2,.int .i64 e),(3,.pointer (some ⟨c,0,none⟩))] Try.func203 rfl rfl (Nat.le_of_ble_eq_true rfl) rfl ⟨rfl,rfl,rfl,rfl,trivial⟩ ?_
 refine k_a (k_s rfl (k_e rfl (AWP.seq (AWP.seq ?_))))
 refine AWP.draw [(0,true),(1,true),(2,true),(3,true),(4,true),(5,true),(6,true),(7,true),(8,false)] [] mixed (by kernel_rfl) ?_
 refine dP (hc:=fun _=>Calm.move rfl) (h:=?_)
 refine dP (hc:=fun _=>Calm.move rfl) (h:=?_)
 refine dP (hc:=fun _=>Calm.indexS Try.underlying24 ty_size_3 rfl rfl (by omega) (by omega)) (h:=?_)
 refine dC (hc:=Calm.load ty_plain_3 rfl (rd_row (k:=e) own_ rw_ rw_)) (h:=?_)
 refine dP (hc:=fun _=>Calm.move rfl) (h:=?_)
 refine dP (hc:=fun _=>Calm.move rfl) (h:=?_)
 refine dP (hc:=fun _=>Calm.indexS Try.underlying24 ty_size_3 rfl rfl (by omega) (by omega)) (h:=?_)
 refine dC (hc:=Calm.load ty_plain_3 rfl (rd_row (k:=a) own_ rw_ rw_)) (h:=?_)
 refine draw_only rfl ?_
 refine ARun.call (lit_lt rfl) go_152 rfl (soI_less _ _ _) ?_
 rintro _ _ ⟨rfl,rfl⟩
 refine arun_nil ⟨fun _=>less_,?_⟩
 refine draw_nil ?_
 refine athen_n ?_
 refine k_u [(0,_),(1,_),(2,_),(3,_),(8,_),(9,_),(18,_)] ?_
 refine AWP.condB rfl (fun hl=>?_) (fun hl=>?_)
 ·have hl:Go.Sort.ltInt d[e]! d[a]! = true:=hl
  refine k_a (k_m rfl ?_)
  refine rC (Calm.nilCheck rfl) ?_
  refine rC (ld_ ty_plain_3 rfl) ?_
  refine rC (Calm.bin rfl rfl b_add_i64) ?_
  refine rC (Calm.nilCheck rfl) ?_
  refine ARun.store1 rfl rfl ty_size_3 rfl own_ lens_ rfl ?_
  try simp only [k_ms,k_sz,k_ss,k_za,Nat.reduceAdd]
  refine k_n ?_
  refine k_u [(0,_),(1,_),(2,_),(3,_),(8,_),(9,_),(18,_)] ?_
  refine k_a (k_m rfl (k_m rfl (k_s rfl (k_e rfl ?_))))
  refine k_u [(0,_),(1,_),(2,_),(3,_),(8,_),(9,_),(18,_)] ?_
  refine k_r ?_
  refine ⟨_,_,⟨_,_,rfl,⟨_,_,rfl,rfl,rfl⟩,rfl⟩,Mem.Less.refl _,?_⟩
  exact ⟨by rw [order2,if_pos hl];rfl,by rw [order2,if_pos hl];rfl⟩
 ·have hl:Go.Sort.ltInt d[e]! d[a]! = false:=hl
  refine k_k (k_a (k_m rfl (k_m rfl (k_s rfl ?_))))
  refine k_e rfl ?_
  refine k_u [(0,_),(1,_),(2,_),(3,_),(8,_),(9,_),(18,_)] ?_
  refine AWP.ret ?_
  refine ⟨_,_,⟨_,_,rfl,⟨_,_,rfl,rfl,rfl⟩,rfl⟩,Mem.Less.refl _,?_⟩
  exact ⟨by rw [order2,if_neg (by intro h;exact Bool.noConfusion (hl.symm.trans h))];rfl,by rw [order2,if_neg (by intro h;exact Bool.noConfusion (hl.symm.trans h))]⟩
set_option maxHeartbeats 1000000 in
theorem soI_median {S : Mem} (b room n cap : Nat) (hb : Fresh S b) (hn : n ≤ 1048576) (d : Array Int) (R : Rw (fun _ => True) n d) (c : Nat) (hc : Fresh S c) (hcb : c ≠ b) (ia ie io : Int) (a e o k : Nat) (ea : ia = a) (ee : ie = e) (eo : io = o) (ha : a < n) (he : e < n) (ho : o < n) (hk : k ≤ 900) :
  ACall Try.prog 182 #[.slice (some ⟨b,0,none⟩) n cap,.int .i64 ia,.int .i64 ie,.int .i64 io,.pointer (some ⟨c,0,none⟩)] ((S.set b ⟨3,(d).toList.map encI,room⟩).set c ⟨3,[.int .i64 ((k:Nat):Int)],1⟩) fun r S'=>r = .int .i64 ((median Go.Sort.ltInt d a e o k).1:Nat)∧S'=(S.set b ⟨3,(d).toList.map encI,room⟩).set c ⟨3,[.int .i64 (((median Go.Sort.ltInt d a e o k).2:Nat):Int)],1⟩:=by
 subst ea ee eo
 obtain ⟨⟨x1,y1,k1⟩,h1⟩ : ∃ q,q=order2 Go.Sort.ltInt d a e k:=⟨_,rfl⟩
 obtain ⟨⟨x2,y2,k2⟩,h2⟩ : ∃ q,q=order2 Go.Sort.ltInt d y1 o k1:=⟨_,rfl⟩
 obtain ⟨⟨x3,y3,k3⟩,h3⟩ : ∃ q,q=order2 Go.Sort.ltInt d x1 x2 k2:=⟨_,rfl⟩
 have m1:=ord2_lt Go.Sort.ltInt h1 ha he
 have m2:=ord2_lt Go.Sort.ltInt h2 m1.2.1 ho
 have m3:=ord2_lt Go.Sort.ltInt h3 m1.1 m2.1
 have c1:=soI_order2 b room n cap hb hn d R c hc hcb a e a e k rfl rfl ha he (by omega)
 have c2:=soI_order2 b room n cap hb hn d R c hc hcb y1 o y1 o k1 rfl rfl m1.2.1 ho (by omega)
 have c3:=soI_order2 b room n cap hb hn d R c hc hcb x1 x2 x1 x2 k2 rfl rfl m1.1 m2.1 (by omega)
 have hm:median Go.Sort.ltInt d a e o k=(y3,k3):=by
  unfold median;simp only [← h1,← h2,← h3]
 rw [hm]
 rw [← h1] at c1;rw [← h2] at c2;rw [← h3] at c3
 dsimp only at c1 c2 c3 ⊢
 clear h1 h2 h3 hm
 refine ACall.enter (rs:=[.tmp 10]) 36 [(0,.slice (some ⟨b,0,none⟩) n cap),(1,.int .i64 a),(2,.int .i64 e),(3,.int .i64 o),(4,.pointer (some ⟨c,0,none⟩))] Try.func182 rfl rfl (Nat.le_of_ble_eq_true rfl) rfl ⟨rfl,rfl,rfl,rfl,rfl,trivial⟩ ?_
 refine k_a (k_e rfl (k_a (k_m rfl (k_m rfl ?_))))
 refine k_m rfl (k_m rfl ?_)
 refine ARun.call (lit_lt rfl) go_203 rfl (c1) ?_
 rintro _ _ ⟨rfl,rfl⟩
 refine k_m rfl ?_
 refine rC (Calm.extract rfl rfl) ?_
 refine rC (Calm.extract rfl rfl) ?_
 refine k_s rfl (k_e rfl ?_)
 refine k_u [(0,_),(1,_),(2,_),(3,_),(4,_),(10,_)] ?_
 refine k_a (k_m rfl (k_m rfl (k_m rfl (k_m rfl ?_))))
 refine ARun.call (lit_lt rfl) go_203 rfl (c2) ?_
 rintro _ _ ⟨rfl,rfl⟩
 refine k_m rfl ?_
 refine rC (Calm.extract rfl rfl) ?_
 refine rC (Calm.extract rfl rfl) ?_
 refine k_s rfl (k_e rfl ?_)
 refine k_u [(0,_),(1,_),(2,_),(3,_),(4,_),(10,_)] ?_
 refine k_a (k_m rfl (k_m rfl (k_m rfl (k_m rfl ?_))))
 refine ARun.call (lit_lt rfl) go_203 rfl (c3) ?_
 rintro _ _ ⟨rfl,rfl⟩
 refine k_m rfl ?_
 refine rC (Calm.extract rfl rfl) ?_
 refine rC (Calm.extract rfl rfl) ?_
 refine k_s rfl (k_e rfl ?_)
 refine k_u [(0,_),(1,_),(2,_),(3,_),(4,_),(10,_)] ?_
 refine k_a (k_m rfl (k_e rfl ?_))
 refine k_u [(0,_),(1,_),(2,_),(3,_),(4,_),(10,_)] ?_
 refine AWP.ret ?_
 refine ⟨_,_,⟨_,_,rfl,rfl,rfl⟩,Mem.Less.refl _,?_⟩
 exact ⟨rfl,rfl⟩
set_option maxHeartbeats 1000000 in
theorem soI_medadj {S : Mem} (b room n cap : Nat) (hb : Fresh S b) (hn : n ≤ 1048576) (d : Array Int) (R : Rw (fun _ => True) n d) (c : Nat) (hc : Fresh S c) (hcb : c ≠ b) (ia : Int) (a k : Nat) (ea : ia = a) (ha : 0 < a) (ha2 : a + 1 < n) (hk : k ≤ 900) :
  ACall Try.prog 181 #[.slice (some ⟨b,0,none⟩) n cap,.int .i64 ia,.pointer (some ⟨c,0,none⟩)] ((S.set b ⟨3,(d).toList.map encI,room⟩).set c ⟨3,[.int .i64 ((k:Nat):Int)],1⟩) fun r S'=>r = .int .i64 ((medianAdjacent Go.Sort.ltInt d a k).1:Nat)∧S'=(S.set b ⟨3,(d).toList.map encI,room⟩).set c ⟨3,[.int .i64 (((medianAdjacent Go.Sort.ltInt d a k).2:Nat):Int)],1⟩:=by
 subst ea
 obtain ⟨a,rfl⟩ : ∃ q,a=q+1:=⟨a-1,by omega⟩
 refine ACall.enter (rs:=[.tmp 6]) 15 [(0,.slice (some ⟨b,0,none⟩) n cap),(1,.int .i64 ((a+1:Nat):Int)),(2,.pointer (some ⟨c,0,none⟩))] Try.func181 rfl rfl (Nat.le_of_ble_eq_true rfl) rfl ⟨rfl,rfl,rfl,trivial⟩ ?_
 refine k_a (k_e rfl (k_a (k_m rfl (k_m rfl ?_))))
 refine rC (Calm.bin rfl rfl b_sub_i64) ?_
 refine k_m rfl (k_m rfl ?_)
 refine rC (Calm.bin rfl rfl b_add_i64) ?_
 refine k_m rfl ?_
 refine ARun.call (lit_lt rfl) go_182 rfl (soI_median b room n cap hb hn d R c hc hcb _ _ _ a (a+1) (a+2) k om_ rfl om_ (by omega) (by omega) (by omega) hk) ?_
 rintro _ _ ⟨rfl,rfl⟩
 refine k_e rfl ?_
 refine k_u [(0,_),(1,_),(2,_),(6,_)] ?_
 refine AWP.ret ?_
 refine ⟨_,_,⟨_,_,rfl,rfl,rfl⟩,Mem.Less.refl _,?_⟩
 exact ⟨rfl,rfl⟩
set_option maxHeartbeats 4000000 in
theorem soI_pivot {S : Mem} (b room n cap : Nat) (hb : Fresh S b) (hn : n ≤ 1048576) (d : Array Int) (R : Rw (fun _ => True) n d) (ia ie : Int) (a e : Nat) (ha : ia = a) (he : ie = e) (hae : a < e) (hen : e ≤ n) :
  ACall Try.prog 149 #[.slice (some ⟨b,0,none⟩) n cap,.int .i64 ia,.int .i64 ie] (S.set b ⟨3,(d).toList.map encI,room⟩) fun r S'=>r = .tuple #[.int .i64 ((choosePivot Go.Sort.ltInt d a e).1:Nat),.int .i64 (hintI (choosePivot Go.Sort.ltInt d a e).2)]∧S'=S.set b ⟨3,(d).toList.map encI,room⟩∧a≤(choosePivot Go.Sort.ltInt d a e).1∧(choosePivot Go.Sort.ltInt d a e).1<e:=by
 subst ha he
 obtain ⟨L,rfl⟩ : ∃ L,e=a+L:=⟨e-a,by omega⟩
 have z:=R.size
 refine ACall.enter (rs:=[.tmp 6,.tmp 7]) 57 [(0,.slice (some ⟨b,0,none⟩) n cap),(1,.int .i64 a),(2,.int .i64 ((a+L:Nat):Int))] Try.func149 rfl rfl (Nat.le_of_ble_eq_true rfl) rfl ⟨rfl,rfl,rfl,trivial⟩ ?_
 by_cases h8:8≤L
 ·refine k_a (k_s rfl (k_e rfl (k_a (k_m rfl ?_))))
  refine k_m rfl ?_
  refine rC (Calm.bin rfl rfl b_sub_i64) ?_
  refine k_e rfl ?_
  refine k_u [(0,_),(1,_),(2,_),(6,_),(7,_),(8,_)] ?_
  refine k_a ?_
  refine ARun.alloc (lit_lt rfl) ty_zero_3 ?_
  intro b9 f9
  have g9:=f9
  repeat ((with_reducible replace g9:=fresh_set g9);obtain ⟨g9,_⟩:=g9)
  try simp only [k_l1,k_l0,k_za,Nat.reduceAdd]
  refine k_n (k_a (k_m rfl (k_m rfl ?_)))
  refine rC (Calm.bin rfl rfl b_quo_i64) ?_
  refine rC (Calm.bin rfl rfl b_mul_i64) ?_
  refine rC (Calm.bin rfl rfl b_add_i64) ?_
  refine k_e rfl ?_
  refine k_u [(0,_),(1,_),(2,_),(6,_),(7,_),(8,_),(9,_),(10,_)] ?_
  refine k_a (k_m rfl (k_m rfl ?_))
  refine rC (Calm.bin rfl rfl b_quo_i64) ?_
  refine rC (Calm.bin rfl rfl b_mul_i64) ?_
  refine rC (Calm.bin rfl rfl b_add_i64) ?_
  refine k_e rfl ?_
  refine k_u [(0,_),(1,_),(2,_),(6,_),(7,_),(8,_),(9,_),(10,_),(11,_)] ?_
  refine k_a (k_m rfl (k_m rfl ?_))
  refine rC (Calm.bin rfl rfl b_quo_i64) ?_
  refine rC (Calm.bin rfl rfl b_mul_i64) ?_
  refine rC (Calm.bin rfl rfl b_add_i64) ?_
  refine k_e rfl ?_
  refine k_u [(0,_),(1,_),(2,_),(6,_),(7,_),(8,_),(9,_),(10,_),(11,_),(12,_)] ?_
  refine AWP.seq (k_a (k_m rfl ?_))
  refine rC (Calm.bin rfl rfl b_geq) ?_
  refine k_n ?_
  refine k_u [(0,_),(1,_),(2,_),(6,_),(7,_),(8,_),(9,_),(10,_),(11,_),(12,_),(32,_)] ?_
  refine k_T rfl ?_
  by_cases h50:50≤L
  ·refine AWP.seq (k_a (k_m rfl ?_))
   refine rC (Calm.bin rfl rfl b_geq) ?_
   refine k_n ?_
   refine k_u [(0,_),(1,_),(2,_),(6,_),(7,_),(8,_),(9,_),(10,_),(11,_),(12,_),(32,_),(34,_)] ?_
   refine k_T rfl ?_
   obtain ⟨⟨i1,k1⟩,q1⟩ : ∃ q,q=medianAdjacent Go.Sort.ltInt d (a+L / 4*1) 0:=⟨_,rfl⟩
   obtain ⟨⟨j1,k2⟩,q2⟩ : ∃ q,q=medianAdjacent Go.Sort.ltInt d (a+L / 4*2) k1:=⟨_,rfl⟩
   obtain ⟨⟨o1,k3⟩,q3⟩ : ∃ q,q=medianAdjacent Go.Sort.ltInt d (a+L / 4*3) k2:=⟨_,rfl⟩
   obtain ⟨⟨pv,k⟩,q4⟩ : ∃ q,q=median Go.Sort.ltInt d i1 j1 o1 k3:=⟨_,rfl⟩
   have m1:=medadj_lt Go.Sort.ltInt q1 (lo:=a) (hi:=a+L) (by omega) (by omega)
   have m2:=medadj_lt Go.Sort.ltInt q2 (lo:=a) (hi:=a+L) (by omega) (by omega)
   have m3:=medadj_lt Go.Sort.ltInt q3 (lo:=a) (hi:=a+L) (by omega) (by omega)
   have hr:=median_lt Go.Sort.ltInt q4 (lo:=a) (hi:=a+L) m1.1 m2.1 m3.1
   have n1:=m1.2;have n2:=m2.2;have n3:=m3.2;have n4:=hr.2
   have hp:choosePivot Go.Sort.ltInt d a (a+L)=(pv,if k=0 then .increasing else if k=12 then .decreasing else .unknown):=by unfold choosePivot;simp only [Nat.add_sub_cancel_left,if_pos h8,if_pos h50,← q1,← q2,← q3,← q4]
   replace hr:=hr.1
   refine k_a (k_m rfl (k_m rfl ?_))
   refine ARun.call (lit_lt rfl) go_181 rfl ((q1 ▸ soI_medadj b room n cap hb hn d R b9 g9 (by assumption) _ (a+L / 4*1) 0 om_ (by omega) (by omega) (by omega))) ?_
   rintro _ _ ⟨rfl,rfl⟩
   refine k_e rfl ?_
   refine k_u [(0,_),(1,_),(2,_),(6,_),(7,_),(8,_),(9,_),(10,_),(11,_),(12,_),(32,_),(34,_)] ?_
   refine k_a (k_m rfl (k_m rfl ?_))
   refine ARun.call (lit_lt rfl) go_181 rfl ((q2 ▸ soI_medadj b room n cap hb hn d R b9 g9 (by assumption) _ (a+L / 4*2) k1 om_ (by omega) (by omega) (by omega))) ?_
   rintro _ _ ⟨rfl,rfl⟩
   refine k_e rfl ?_
   refine k_u [(0,_),(1,_),(2,_),(6,_),(7,_),(8,_),(9,_),(10,_),(11,_),(12,_),(32,_),(34,_)] ?_
   refine AWP.region ?_
   refine k_m rfl (k_m rfl ?_)
   refine ARun.call (lit_lt rfl) go_181 rfl ((q3 ▸ soI_medadj b room n cap hb hn d R b9 g9 (by assumption) _ (a+L / 4*3) k2 om_ (by omega) (by omega) (by omega))) ?_
   rintro _ _ ⟨rfl,rfl⟩
   refine k_e rfl ?_
   refine k_u [(0,_),(1,_),(2,_),(6,_),(7,_),(8,_),(9,_),(10,_),(11,_),(12,_),(32,_),(34,_)] ?_
   refine AWP.region ?_
   refine k_m rfl (k_m rfl (k_m rfl (k_m rfl ?_)))
   refine ARun.call (lit_lt rfl) go_182 rfl ((q4 ▸ soI_median b room n cap hb hn d R b9 g9 (by assumption) _ _ _ i1 j1 o1 k3 rfl rfl rfl (by omega) (by omega) (by omega) (by omega))) ?_
   rintro _ _ ⟨rfl,rfl⟩
   refine k_e rfl ?_
   refine k_u [(0,_),(1,_),(2,_),(6,_),(7,_),(8,_),(9,_),(10,_),(11,_),(12,_),(32,_),(34,_)] ?_
   by_cases k0:k=0
   ·subst k0
    refine k_a ?_
    refine rC (ld_ ty_plain_3 rfl) ?_
    refine k_n ?_
    refine AWP.block ?_
    refine k_a ?_
    refine rC (Calm.bin rfl rfl b_eql) ?_
    refine k_e rfl ?_
    refine k_u [(0,_),(1,_),(2,_),(6,_),(7,_),(8,_),(9,_),(10,_),(11,_),(12,_),(32,_),(34,_),(49,_),(51,_)] ?_
    refine k_T rfl ?_
    refine k_a (k_m rfl (k_s rfl (k_e rfl ?_)))
    refine k_u [(0,_),(1,_),(2,_),(6,_),(7,_),(8,_),(9,_),(10,_),(11,_),(12,_),(32,_),(34,_),(49,_),(51,_)] ?_
    refine AWP.ret ?_
    refine ain_ret ?_
    refine ⟨_,S.set b ⟨3,(d).toList.map encI,room⟩,⟨_,_,rfl,⟨_,_,rfl,rfl,rfl⟩,rfl⟩,less_,?_⟩
    exact ⟨by rw [hp];rfl,rfl,by rw [hp];exact hr⟩
   ·refine k_a ?_
    refine rC (ld_ ty_plain_3 rfl) ?_
    refine k_n ?_
    refine AWP.block ?_
    refine k_a ?_
    refine rC (Calm.bin rfl rfl b_eql) ?_
    refine k_e rfl ?_
    refine k_u [(0,_),(1,_),(2,_),(6,_),(7,_),(8,_),(9,_),(10,_),(11,_),(12,_),(32,_),(34,_),(49,_),(51,_)] ?_
    refine k_F rfl ?_
    by_cases k1:k=12
    ·subst k1
     refine k_a ?_
     refine rC (Calm.bin rfl rfl b_eql) ?_
     refine k_e rfl ?_
     refine k_u [(0,_),(1,_),(2,_),(6,_),(7,_),(8,_),(9,_),(10,_),(11,_),(12,_),(32,_),(34,_),(49,_),(51,_),(54,_)] ?_
     refine k_T rfl ?_
     refine k_a (k_m rfl (k_s rfl (k_e rfl ?_)))
     refine k_u [(0,_),(1,_),(2,_),(6,_),(7,_),(8,_),(9,_),(10,_),(11,_),(12,_),(32,_),(34,_),(49,_),(51,_),(54,_)] ?_
     refine AWP.ret ?_
     refine ain_ret ?_
     refine ⟨_,S.set b ⟨3,(d).toList.map encI,room⟩,⟨_,_,rfl,⟨_,_,rfl,rfl,rfl⟩,rfl⟩,less_,?_⟩
     exact ⟨by rw [hp];rfl,rfl,by rw [hp];exact hr⟩
    ·refine k_a ?_
     refine rC (Calm.bin rfl rfl b_eql) ?_
     refine k_e rfl ?_
     refine k_u [(0,_),(1,_),(2,_),(6,_),(7,_),(8,_),(9,_),(10,_),(11,_),(12,_),(32,_),(34,_),(49,_),(51,_),(54,_)] ?_
     refine k_F rfl ?_
     refine k_a (k_m rfl (k_s rfl (k_e rfl ?_)))
     refine k_u [(0,_),(1,_),(2,_),(6,_),(7,_),(8,_),(9,_),(10,_),(11,_),(12,_),(32,_),(34,_),(49,_),(51,_),(54,_)] ?_
     refine AWP.ret ?_
     refine ain_ret ?_
     refine ⟨_,S.set b ⟨3,(d).toList.map encI,room⟩,⟨_,_,rfl,⟨_,_,rfl,rfl,rfl⟩,rfl⟩,less_,?_⟩
     exact ⟨by rw [hp,piv_hint k0 k1];rfl,rfl,by rw [hp];exact hr⟩
  ·refine AWP.seq (k_a (k_m rfl ?_))
   refine rC (Calm.bin rfl rfl b_geq) ?_
   refine k_n ?_
   refine k_u [(0,_),(1,_),(2,_),(6,_),(7,_),(8,_),(9,_),(10,_),(11,_),(12,_),(32,_),(34,_)] ?_
   refine k_F rfl ?_
   obtain ⟨⟨pv,k⟩,q4⟩ : ∃ q,q=median Go.Sort.ltInt d (a+L / 4*1) (a+L / 4*2) (a+L / 4*3) 0:=⟨_,rfl⟩
   have hr:=median_lt Go.Sort.ltInt q4 (lo:=a) (hi:=a+L) (by omega) (by omega) (by omega)
   have n4:=hr.2
   have hp:choosePivot Go.Sort.ltInt d a (a+L)=(pv,if k=0 then .increasing else if k=12 then .decreasing else .unknown):=by unfold choosePivot;simp only [Nat.add_sub_cancel_left,if_pos h8,if_neg h50,← q4]
   replace hr:=hr.1
   refine k_k ?_
   refine AWP.region ?_
   refine k_m rfl (k_m rfl (k_m rfl (k_m rfl ?_)))
   refine ARun.call (lit_lt rfl) go_182 rfl ((q4 ▸ soI_median b room n cap hb hn d R b9 g9 (by assumption) _ _ _ (a+L / 4*1) (a+L / 4*2) (a+L / 4*3) 0 om_ om_ om_ (by omega) (by omega) (by omega) (by omega))) ?_
   rintro _ _ ⟨rfl,rfl⟩
   refine k_e rfl ?_
   refine k_u [(0,_),(1,_),(2,_),(6,_),(7,_),(8,_),(9,_),(10,_),(11,_),(12,_),(32,_),(34,_)] ?_
   by_cases k0:k=0
   ·subst k0
    refine k_a ?_
    refine rC (ld_ ty_plain_3 rfl) ?_
    refine k_n ?_
    refine AWP.block ?_
    refine k_a ?_
    refine rC (Calm.bin rfl rfl b_eql) ?_
    refine k_e rfl ?_
    refine k_u [(0,_),(1,_),(2,_),(6,_),(7,_),(8,_),(9,_),(10,_),(11,_),(12,_),(32,_),(34,_),(49,_),(51,_)] ?_
    refine k_T rfl ?_
    refine k_a (k_m rfl (k_s rfl (k_e rfl ?_)))
    refine k_u [(0,_),(1,_),(2,_),(6,_),(7,_),(8,_),(9,_),(10,_),(11,_),(12,_),(32,_),(34,_),(49,_),(51,_)] ?_
    refine AWP.ret ?_
    refine ain_ret ?_
    refine ⟨_,S.set b ⟨3,(d).toList.map encI,room⟩,⟨_,_,rfl,⟨_,_,rfl,rfl,rfl⟩,rfl⟩,less_,?_⟩
    exact ⟨by rw [hp];rfl,rfl,by rw [hp];exact hr⟩
   ·refine k_a ?_
    refine rC (ld_ ty_plain_3 rfl) ?_
    refine k_n ?_
    refine AWP.block ?_
    refine k_a ?_
    refine rC (Calm.bin rfl rfl b_eql) ?_
    refine k_e rfl ?_
    refine k_u [(0,_),(1,_),(2,_),(6,_),(7,_),(8,_),(9,_),(10,_),(11,_),(12,_),(32,_),(34,_),(49,_),(51,_)] ?_
    refine k_F rfl ?_
    by_cases k1:k=12
    ·subst k1
     refine k_a ?_
     refine rC (Calm.bin rfl rfl b_eql) ?_
     refine k_e rfl ?_
     refine k_u [(0,_),(1,_),(2,_),(6,_),(7,_),(8,_),(9,_),(10,_),(11,_),(12,_),(32,_),(34,_),(49,_),(51,_),(54,_)] ?_
     refine k_T rfl ?_
     refine k_a (k_m rfl (k_s rfl (k_e rfl ?_)))
     refine k_u [(0,_),(1,_),(2,_),(6,_),(7,_),(8,_),(9,_),(10,_),(11,_),(12,_),(32,_),(34,_),(49,_),(51,_),(54,_)] ?_
     refine AWP.ret ?_
     refine ain_ret ?_
     refine ⟨_,S.set b ⟨3,(d).toList.map encI,room⟩,⟨_,_,rfl,⟨_,_,rfl,rfl,rfl⟩,rfl⟩,less_,?_⟩
     exact ⟨by rw [hp];rfl,rfl,by rw [hp];exact hr⟩
    ·refine k_a ?_
     refine rC (Calm.bin rfl rfl b_eql) ?_
     refine k_e rfl ?_
     refine k_u [(0,_),(1,_),(2,_),(6,_),(7,_),(8,_),(9,_),(10,_),(11,_),(12,_),(32,_),(34,_),(49,_),(51,_),(54,_)] ?_
     refine k_F rfl ?_
     refine k_a (k_m rfl (k_s rfl (k_e rfl ?_)))
     refine k_u [(0,_),(1,_),(2,_),(6,_),(7,_),(8,_),(9,_),(10,_),(11,_),(12,_),(32,_),(34,_),(49,_),(51,_),(54,_)] ?_
     refine AWP.ret ?_
     refine ain_ret ?_
     refine ⟨_,S.set b ⟨3,(d).toList.map encI,room⟩,⟨_,_,rfl,⟨_,_,rfl,rfl,rfl⟩,rfl⟩,less_,?_⟩
     exact ⟨by rw [hp,piv_hint k0 k1];rfl,rfl,by rw [hp];exact hr⟩
 ·refine k_a (k_s rfl (k_e rfl (k_a (k_m rfl ?_))))
  refine k_m rfl ?_
  refine rC (Calm.bin rfl rfl b_sub_i64) ?_
  refine k_e rfl ?_
  refine k_u [(0,_),(1,_),(2,_),(6,_),(7,_),(8,_)] ?_
  refine k_a ?_
  refine ARun.alloc (lit_lt rfl) ty_zero_3 ?_
  intro b9 f9
  have g9:=f9
  repeat ((with_reducible replace g9:=fresh_set g9);obtain ⟨g9,_⟩:=g9)
  try simp only [k_l1,k_l0,k_za,Nat.reduceAdd]
  refine k_n (k_a (k_m rfl (k_m rfl ?_)))
  refine rC (Calm.bin rfl rfl b_quo_i64) ?_
  refine rC (Calm.bin rfl rfl b_mul_i64) ?_
  refine rC (Calm.bin rfl rfl b_add_i64) ?_
  refine k_e rfl ?_
  refine k_u [(0,_),(1,_),(2,_),(6,_),(7,_),(8,_),(9,_),(10,_)] ?_
  refine k_a (k_m rfl (k_m rfl ?_))
  refine rC (Calm.bin rfl rfl b_quo_i64) ?_
  refine rC (Calm.bin rfl rfl b_mul_i64) ?_
  refine rC (Calm.bin rfl rfl b_add_i64) ?_
  refine k_e rfl ?_
  refine k_u [(0,_),(1,_),(2,_),(6,_),(7,_),(8,_),(9,_),(10,_),(11,_)] ?_
  refine k_a (k_m rfl (k_m rfl ?_))
  refine rC (Calm.bin rfl rfl b_quo_i64) ?_
  refine rC (Calm.bin rfl rfl b_mul_i64) ?_
  refine rC (Calm.bin rfl rfl b_add_i64) ?_
  refine k_e rfl ?_
  refine k_u [(0,_),(1,_),(2,_),(6,_),(7,_),(8,_),(9,_),(10,_),(11,_),(12,_)] ?_
  refine AWP.seq (k_a (k_m rfl ?_))
  refine rC (Calm.bin rfl rfl b_geq) ?_
  refine k_n ?_
  refine k_u [(0,_),(1,_),(2,_),(6,_),(7,_),(8,_),(9,_),(10,_),(11,_),(12,_),(32,_)] ?_
  refine k_F rfl ?_
  have hp:choosePivot Go.Sort.ltInt d a (a+L)=(a+L / 4*2,.increasing):=by unfold choosePivot;simp only [Nat.add_sub_cancel_left,if_neg h8];rfl
  refine k_k (k_a ?_)
  refine rC (ld_ ty_plain_3 rfl) ?_
  refine k_n ?_
  refine AWP.block ?_
  refine k_a ?_
  refine rC (Calm.bin rfl rfl b_eql) ?_
  refine k_e rfl ?_
  refine k_u [(0,_),(1,_),(2,_),(6,_),(7,_),(8,_),(9,_),(10,_),(11,_),(12,_),(32,_),(49,_),(51,_)] ?_
  refine k_T rfl ?_
  refine k_a (k_m rfl (k_s rfl (k_e rfl ?_)))
  refine k_u [(0,_),(1,_),(2,_),(6,_),(7,_),(8,_),(9,_),(10,_),(11,_),(12,_),(32,_),(49,_),(51,_)] ?_
  refine AWP.ret ?_
  refine ain_ret ?_
  refine ⟨_,S.set b ⟨3,(d).toList.map encI,room⟩,⟨_,_,rfl,⟨_,_,rfl,rfl,rfl⟩,rfl⟩,less_,?_⟩
  exact ⟨by rw [hp];exact piv_val om_,rfl,by rw [hp];exact ⟨by show a≤a+L / 4*2;omega,by show a+L / 4*2<a+L;omega⟩⟩
set_option maxHeartbeats 4000000 in
theorem soI_brk {S : Mem} (b room n cap : Nat) (hb : Fresh S b) (hn : n ≤ 1048576) (d : Array Int) (R : Rw (fun _ => True) n d) (ia ie : Int) (a e : Nat) (ha : ia = a) (he : ie = e) (hae : a ≤ e) (hen : e ≤ n) :
  ACall Try.prog 148 #[.slice (some ⟨b,0,none⟩) n cap,.int .i64 ia,.int .i64 ie] (S.set b ⟨3,(d).toList.map encI,room⟩) fun r S'=>S'=S.set b ⟨3,(breakPatterns d a e).toList.map encI,room⟩∧Rw (fun _=>True) n (breakPatterns d a e):=by
 subst ha he
 obtain ⟨L,rfl⟩ : ∃ L,e=a+L:=⟨e-a,by omega⟩
 have z:=R.size
 by_cases h8:8≤L
 ·have hbp:=bp_eq (d:=d) (a:=a) h8
  have hmb:=bp_mod L (by omega) (by omega)
  generalize hmo:1 <<< bitsLen L=mo at *
  generalize hba:a+L / 4*2-1=ba at *
  have hoL:((UInt64.ofNat L).toNat:Nat)=L:=by rw [UInt64.toNat_ofNat'];exact Nat.mod_eq_of_lt (by omega)
  refine ACall.enter (rs:=[]) 65 [(0,.slice (some ⟨b,0,none⟩) n cap),(1,.int .i64 a),(2,.int .i64 ((a+L:Nat):Int))] Try.func148 rfl rfl (Nat.le_of_ble_eq_true rfl) rfl ⟨rfl,rfl,rfl,trivial⟩ ?_
  refine k_a (k_m rfl (k_m rfl ?_))
  refine rC (Calm.bin rfl rfl b_sub_i64) ?_
  refine k_e rfl ?_
  refine k_u [(0,_),(1,_),(2,_),(6,_)] ?_
  refine k_a (k_m rfl ?_)
  refine rC (Calm.bin rfl rfl b_geq) ?_
  refine k_n ?_
  refine k_u [(0,_),(1,_),(2,_),(6,_),(15,_)] ?_
  refine k_T rfl ?_
  refine k_a (k_m rfl ?_)
  refine rC (Calm.conv rfl (conv_intW Try.underlying3 Try.underlying188 (IntWalk.u64_in _ (by omega)))) ?_
  refine ARun.alloc (lit_lt rfl) ty_zero_188 ?_
  intro b7 f7
  have g7:=f7
  repeat ((with_reducible replace g7:=fresh_set g7);obtain ⟨g7,_⟩:=g7)
  try simp only [k_l1,k_l0,k_za,Nat.reduceAdd]
  refine ARun.store1 rfl rfl ty_size_188 rfl own_ lens_ rfl ?_
  try simp only [k_ms,k_sz,k_ss,k_za,Nat.reduceAdd]
  refine k_n ?_
  refine k_u [(0,_),(1,_),(2,_),(6,_),(15,_),(7,_)] ?_
  refine AWP.less ((S.set b ⟨3,(d).toList.map encI,room⟩).set b7 (xorB (UInt64.ofNat L).toNat)) (by unfold xorB;rw [hoL,show ((a+L:Nat):Int)-(a:Int)=(L:Int) by omega];exact Mem.Less.refl _) ?_
  refine k_a (k_m rfl ?_)
  refine ARun.call (lit_lt rfl) go_179 rfl ((hmo ▸ so_pow _ L om_ (by omega) _)) ?_
  rintro _ _ ⟨rfl,rfl⟩
  refine k_e rfl ?_
  refine k_u [(0,_),(1,_),(2,_),(6,_),(15,_),(7,_),(8,_)] ?_
  refine k_a (k_m rfl (k_m rfl ?_))
  refine rC (Calm.bin rfl rfl b_quo_i64) ?_
  refine rC (Calm.bin rfl rfl b_mul_i64) ?_
  refine rC (Calm.bin rfl rfl b_add_i64) ?_
  refine rC (Calm.bin rfl rfl b_sub_i64) ?_
  refine k_e rfl ?_
  refine k_u [(0,_),(1,_),(2,_),(6,_),(15,_),(7,_),(8,_),(9,_)] ?_
  refine AWP.block ?_
  refine AWP.loop (X:=Nat × UInt64 × Array Int) (fun x=>[(0,.slice (some ⟨b,0,none⟩) n cap),(1,.int .i64 a),(6,.int .i64 L),(7,.pointer (some ⟨b7,0,none⟩)),(8,.int .u64 mo),(9,.int .i64 ((ba+(3-x.1):Nat):Int))]) (fun x=>(S.set b ⟨3,(x.2.2).toList.map encI,room⟩).set b7 (xorB (x.2.1).toNat)) (fun x=>x.1≤3∧Rw (fun _=>True) n x.2.2∧bpR a L mo ba x.1 x.2=bpR a L mo ba 3 (UInt64.ofNat L,d)) (fun x=>x.1) ((3,UInt64.ofNat L,d)) ⟨sb_,sb_,sb_,sb_,sb_,sb_,trivial⟩ (Mem.Less.refl _) (⟨Nat.le_refl _,R,rfl⟩) ?_
  rintro ⟨k,r,d1⟩ ⟨h1,R1,h3⟩
  (try dsimp only at *)
  have z1:=R1.size
  by_cases hk:0<k
  ·obtain ⟨k,rfl⟩ : ∃ q,k=q+1:=⟨k-1,by omega⟩
   refine AWP.seq (k_a (k_m rfl (k_m rfl (k_m rfl ?_))))
   refine rC (Calm.bin rfl rfl b_quo_i64) ?_
   refine rC (Calm.bin rfl rfl b_mul_i64) ?_
   refine rC (Calm.bin rfl rfl b_add_i64) ?_
   refine rC (Calm.bin rfl rfl b_add_i64) ?_
   refine rC (Calm.bin rfl rfl b_leq) ?_
   refine k_n ?_
   refine k_u [(0,_),(1,_),(6,_),(7,_),(8,_),(9,_),(33,_)] ?_
   refine k_T rfl ?_
   obtain ⟨r',hr'⟩ : ∃ r',r'=xorNext r:=⟨_,rfl⟩
   obtain ⟨o,ho⟩ : ∃ o,o=r'.toNat &&& (mo-1):=⟨_,rfl⟩
   have ho1:o≤mo-1:=by rw [ho];exact Nat.and_le_right
   have han:=and_n64 r'.toNat (mo-1) r'.toNat_lt (by omega)
   rw [← ho] at han
   refine k_k (AWP.seq ?_)
   refine AWP.block ?_
   refine k_a ?_
   refine ARun.call (lit_lt rfl) go_180 rfl ((hr' ▸ so_next b7 r _ (fresh_more g7 (by assumption)))) ?_
   rintro _ _ ⟨rfl,rfl⟩
   refine k_m rfl ?_
   refine rC (Calm.bin rfl rfl (bin_subW (sub_u64 mo (by omega) (by omega)))) ?_
   refine rC (Calm.bin rfl rfl (bin_andE han)) ?_
   refine rC (Calm.conv rfl (by first | exact conv_intW Try.underlying139 Try.underlying3 (IntWalk.i64_in _ (by omega)) | exact conv_int Try.underlying139 Try.underlying3)) ?_
   refine k_e rfl ?_
   refine k_u [(0,_),(1,_),(6,_),(7,_),(8,_),(9,_),(33,_),(10,_)] ?_
   by_cases hoL2:L≤o
   ·refine AWP.seq (k_a (k_m rfl (k_m rfl ?_)))
    refine rC (Calm.bin rfl rfl b_geq) ?_
    refine k_n ?_
    refine k_u [(0,_),(1,_),(6,_),(7,_),(8,_),(9,_),(33,_),(10,_),(43,_)] ?_
    refine k_T rfl ?_
    refine AWP.region ?_
    refine k_m rfl (k_m rfl ?_)
    refine rC (Calm.bin rfl rfl b_sub_i64) ?_
    refine k_e rfl ?_
    refine k_u [(0,_),(1,_),(6,_),(7,_),(8,_),(9,_),(33,_),(10,_),(43,_)] ?_
    refine AWP.draw [(0,true),(1,true),(2,true),(3,true),(4,true),(5,true),(6,true),(7,true),(8,true),(9,true),(10,true),(11,true),(12,true),(13,true),(14,true),(15,true),(16,true),(17,false),(18,true),(19,false)] [17,19] mixed (by kernel_rfl) ?_
    refine dP (hc:=fun _=>Calm.move rfl) (h:=?_)
    refine dP (hc:=fun _=>Calm.move rfl) (h:=?_)
    refine dP (hc:=fun _=>Calm.move rfl) (h:=?_)
    refine dP (hc:=fun _=>Calm.move rfl) (h:=?_)
    refine dP (hc:=fun _=>Calm.move rfl) (h:=?_)
    refine dP (hc:=fun _=>Calm.bin rfl rfl b_add_i64) (h:=?_)
    refine dP (hc:=fun _=>Calm.move rfl) (h:=?_)
    refine dP (hc:=fun _=>Calm.move rfl) (h:=?_)
    refine dP (hc:=fun _=>Calm.move rfl) (h:=?_)
    refine dP (hc:=fun _=>Calm.bin rfl rfl b_add_i64) (h:=?_)
    refine dP (hc:=fun _=>Calm.indexS Try.underlying24 ty_size_3 rfl rfl (by omega) (by omega)) (h:=?_)
    refine dC (hc:=Calm.load ty_plain_3 rfl (rd_row (k:=a+(o-L)) own_ rw_ rw_)) (h:=?_)
    refine dP (hc:=fun _=>Calm.move rfl) (h:=?_)
    refine dP (hc:=fun _=>Calm.move rfl) (h:=?_)
    refine dP (hc:=fun _=>Calm.indexS Try.underlying24 ty_size_3 rfl rfl (by omega) (by omega)) (h:=?_)
    refine dC (hc:=Calm.load ty_plain_3 rfl (rd_row (k:=ba+(2-k)) own_ rw_ rw_)) (h:=?_)
    refine dP (hc:=fun _=>Calm.indexS Try.underlying24 ty_size_3 rfl rfl (by omega) (by omega)) (h:=?_)
    refine draw_only rfl ?_
    refine ARun.storeRow encI (ba+(2-k)) rfl rfl ty_size_3 ⟨rfl,rfl⟩ own_ rw_ rw_ ?_
    try simp only [k_ms,k_sz,k_ss,k_za,Nat.reduceAdd]
    refine arun_nil ⟨fun h=>absurd h (by decide),?_⟩
    refine dP (hc:=fun _=>Calm.indexS Try.underlying24 ty_size_3 rfl rfl (by omega) (by omega)) (h:=?_)
    refine draw_only rfl ?_
    refine ARun.storeRow encI (a+(o-L)) rfl rfl ty_size_3 ⟨rfl,rfl⟩ own_ rw_ rw_ ?_
    try simp only [k_ms,k_sz,k_ss,k_za,Nat.reduceAdd]
    refine arun_nil ⟨fun h=>absurd h (by decide),?_⟩
    refine draw_nil ?_
    refine ain_n ?_
    refine athen_n ?_
    refine k_u [(0,_),(1,_),(6,_),(7,_),(8,_),(9,_),(33,_),(10,_),(43,_)] ?_
    refine AWP.region ?_
    refine k_m rfl ?_
    refine rC (Calm.bin rfl rfl b_add_i64) ?_
    refine k_e rfl ?_
    refine ⟨(k,r',swp d1 (ba+(2-k)) (a+(o-L))),?_,?_,?_,?_⟩
    all_goals (try dsimp only)
    ·exact ⟨sb_,sb_,sb_,sb_,sb_,sb_,trivial⟩
    ·rw [set_over _ _ _ _ (by first | assumption | (apply Ne.symm;assumption))];exact Mem.Less.refl _
    ·exact ⟨by omega,R1.swp _ _ (by omega) (by omega),by rw [← h3,bpR_succ,← hr',← ho,if_pos hoL2]⟩
    ·omega
   ·refine AWP.seq (k_a (k_m rfl (k_m rfl ?_)))
    refine rC (Calm.bin rfl rfl b_geq) ?_
    refine k_n ?_
    refine k_u [(0,_),(1,_),(6,_),(7,_),(8,_),(9,_),(33,_),(10,_),(43,_)] ?_
    refine k_F rfl ?_
    refine k_k ?_
    refine AWP.draw [(0,true),(1,true),(2,true),(3,true),(4,true),(5,true),(6,true),(7,true),(8,true),(9,true),(10,true),(11,true),(12,true),(13,true),(14,true),(15,true),(16,true),(17,false),(18,true),(19,false)] [17,19] mixed (by kernel_rfl) ?_
    refine dP (hc:=fun _=>Calm.move rfl) (h:=?_)
    refine dP (hc:=fun _=>Calm.move rfl) (h:=?_)
    refine dP (hc:=fun _=>Calm.move rfl) (h:=?_)
    refine dP (hc:=fun _=>Calm.move rfl) (h:=?_)
    refine dP (hc:=fun _=>Calm.move rfl) (h:=?_)
    refine dP (hc:=fun _=>Calm.bin rfl rfl b_add_i64) (h:=?_)
    refine dP (hc:=fun _=>Calm.move rfl) (h:=?_)
    refine dP (hc:=fun _=>Calm.move rfl) (h:=?_)
    refine dP (hc:=fun _=>Calm.move rfl) (h:=?_)
    refine dP (hc:=fun _=>Calm.bin rfl rfl b_add_i64) (h:=?_)
    refine dP (hc:=fun _=>Calm.indexS Try.underlying24 ty_size_3 rfl rfl (by omega) (by omega)) (h:=?_)
    refine dC (hc:=Calm.load ty_plain_3 rfl (rd_row (k:=a+o) own_ rw_ rw_)) (h:=?_)
    refine dP (hc:=fun _=>Calm.move rfl) (h:=?_)
    refine dP (hc:=fun _=>Calm.move rfl) (h:=?_)
    refine dP (hc:=fun _=>Calm.indexS Try.underlying24 ty_size_3 rfl rfl (by omega) (by omega)) (h:=?_)
    refine dC (hc:=Calm.load ty_plain_3 rfl (rd_row (k:=ba+(2-k)) own_ rw_ rw_)) (h:=?_)
    refine dP (hc:=fun _=>Calm.indexS Try.underlying24 ty_size_3 rfl rfl (by omega) (by omega)) (h:=?_)
    refine draw_only rfl ?_
    refine ARun.storeRow encI (ba+(2-k)) rfl rfl ty_size_3 ⟨rfl,rfl⟩ own_ rw_ rw_ ?_
    try simp only [k_ms,k_sz,k_ss,k_za,Nat.reduceAdd]
    refine arun_nil ⟨fun h=>absurd h (by decide),?_⟩
    refine dP (hc:=fun _=>Calm.indexS Try.underlying24 ty_size_3 rfl rfl (by omega) (by omega)) (h:=?_)
    refine draw_only rfl ?_
    refine ARun.storeRow encI (a+o) rfl rfl ty_size_3 ⟨rfl,rfl⟩ own_ rw_ rw_ ?_
    try simp only [k_ms,k_sz,k_ss,k_za,Nat.reduceAdd]
    refine arun_nil ⟨fun h=>absurd h (by decide),?_⟩
    refine draw_nil ?_
    refine ain_n ?_
    refine athen_n ?_
    refine k_u [(0,_),(1,_),(6,_),(7,_),(8,_),(9,_),(33,_),(10,_),(43,_)] ?_
    refine AWP.region ?_
    refine k_m rfl ?_
    refine rC (Calm.bin rfl rfl b_add_i64) ?_
    refine k_e rfl ?_
    refine ⟨(k,r',swp d1 (ba+(2-k)) (a+o)),?_,?_,?_,?_⟩
    all_goals (try dsimp only)
    ·exact ⟨sb_,sb_,sb_,sb_,sb_,sb_,trivial⟩
    ·rw [set_over _ _ _ _ (by first | assumption | (apply Ne.symm;assumption))];exact Mem.Less.refl _
    ·exact ⟨by omega,R1.swp _ _ (by omega) (by omega),by rw [← h3,bpR_succ,← hr',← ho,if_neg hoL2]⟩
    ·omega
  ·obtain rfl:k=0:=by omega
   refine AWP.seq (k_a (k_m rfl (k_m rfl (k_m rfl ?_))))
   refine rC (Calm.bin rfl rfl b_quo_i64) ?_
   refine rC (Calm.bin rfl rfl b_mul_i64) ?_
   refine rC (Calm.bin rfl rfl b_add_i64) ?_
   refine rC (Calm.bin rfl rfl b_add_i64) ?_
   refine rC (Calm.bin rfl rfl b_leq) ?_
   refine k_n ?_
   refine k_u [(0,_),(1,_),(6,_),(7,_),(8,_),(9,_),(33,_)] ?_
   refine k_F rfl ?_
   refine AWP.exit ?_
   refine athen_exit ?_
   refine athen_exit ?_
   refine ain_same ?_
   refine ⟨_,S.set b ⟨3,(d1).toList.map encI,room⟩,rfl,less_,?_⟩
   rw [hbp,← h3];exact ⟨rfl,R1⟩
 ·have hbp:breakPatterns d a (a+L)=d:=by unfold breakPatterns;simp only [Nat.add_sub_cancel_left];rw [if_neg (by omega)]
  rw [hbp]
  refine ACall.enter (rs:=[]) 65 [(0,.slice (some ⟨b,0,none⟩) n cap),(1,.int .i64 a),(2,.int .i64 ((a+L:Nat):Int))] Try.func148 rfl rfl (Nat.le_of_ble_eq_true rfl) rfl ⟨rfl,rfl,rfl,trivial⟩ ?_
  refine k_a (k_m rfl (k_m rfl ?_))
  refine rC (Calm.bin rfl rfl b_sub_i64) ?_
  refine k_e rfl ?_
  refine k_u [(0,_),(1,_),(2,_),(6,_)] ?_
  refine k_a (k_m rfl ?_)
  refine rC (Calm.bin rfl rfl b_geq) ?_
  refine k_n ?_
  refine k_u [(0,_),(1,_),(2,_),(6,_),(15,_)] ?_
  refine k_F rfl ?_
  refine AWP.skip ?_
  refine ⟨_,_,rfl,Mem.Less.refl _,?_⟩
  exact ⟨rfl,R⟩
set_option maxHeartbeats 4000000 in
theorem soI_pins {S : Mem} (b room n cap : Nat) (hb : Fresh S b) (hn : n ≤ 1048576) (d : Array Int) (R : Rw (fun _ => True) n d) (ia ie : Int) (a e : Nat) (ha : ia = a) (he : ie = e) (hae : a < e) (hen : e ≤ n) :
  ACall Try.prog 151 #[.slice (some ⟨b,0,none⟩) n cap,.int .i64 ia,.int .i64 ie] (S.set b ⟨3,(d).toList.map encI,room⟩) fun r S'=>r = .bool (partialInsertionSort Go.Sort.ltInt d a e).2∧S'=S.set b ⟨3,((partialInsertionSort Go.Sort.ltInt d a e).1).toList.map encI,room⟩∧Rw (fun _=>True) n (partialInsertionSort Go.Sort.ltInt d a e).1:=by
 subst ha he
 refine ACall.enter (rs:=[.tmp 6]) 133 [(0,.slice (some ⟨b,0,none⟩) n cap),(1,.int .i64 a),(2,.int .i64 e)] Try.func151 rfl rfl (Nat.le_of_ble_eq_true rfl) rfl ⟨rfl,rfl,rfl,trivial⟩ ?_
 refine k_a (k_e rfl (k_a (k_m rfl ?_)))
 refine rC (Calm.bin rfl rfl b_add_i64) ?_
 refine k_e rfl ?_
 refine k_u [(0,_),(1,_),(2,_),(6,_),(7,_)] ?_
 refine AWP.seq (k_a (k_e rfl ?_))
 refine AWP.block ?_
 refine AWP.loop (X:=Nat × Nat × Array Int) (fun x=>[(0,.slice (some ⟨b,0,none⟩) n cap),(1,.int .i64 a),(2,.int .i64 e),(7,.int .i64 x.2.1),(8,.int .i64 ((5-x.1:Nat):Int))]) (fun x=>S.set b ⟨3,(x.2.2).toList.map encI,room⟩) (fun x=>x.1≤5∧a+1≤x.2.1∧x.2.1≤e∧Rw (fun _=>True) n x.2.2∧partialIns Go.Sort.ltInt a e x.1 x.2.1 x.2.2=partialInsertionSort Go.Sort.ltInt d a e) (fun x=>x.1) ((5,a+1,d)) ⟨sb_,sb_,sb_,sb_,sb_,trivial⟩ (Mem.Less.refl _) (⟨Nat.le_refl _,by dsimp only;omega,by dsimp only;omega,R,rfl⟩) ?_
 rintro ⟨s,i,d1⟩ ⟨h1,h2,h4,R1,h3⟩
 (try dsimp only at *)
 have z1:=R1.size
 by_cases hs:0<s
 ·obtain ⟨s,rfl⟩ : ∃ q,s=q+1:=⟨s-1,by omega⟩
  refine AWP.seq (k_a (k_m rfl ?_))
  refine rC (Calm.bin rfl rfl b_lss) ?_
  refine k_n ?_
  refine k_u [(0,_),(1,_),(2,_),(7,_),(8,_),(14,_)] ?_
  refine k_T rfl ?_
  refine k_k (AWP.seq ?_)
  refine AWP.block ?_
  refine AWP.seq ?_
  refine AWP.join (X:=Nat) (fun x=>[(0,.slice (some ⟨b,0,none⟩) n cap),(1,.int .i64 a),(2,.int .i64 e),(7,.int .i64 x),(8,.int .i64 ((5-(s+1):Nat):Int))]) (fun _=>S.set b ⟨3,(d1).toList.map encI,room⟩) (fun x=>a+1≤x∧x≤e∧x=scanSorted Go.Sort.ltInt d1 e i) ?_ ?_
  ·refine AWP.block ?_
   refine AWP.loop (X:=Nat) (fun x=>[(0,.slice (some ⟨b,0,none⟩) n cap),(1,.int .i64 a),(2,.int .i64 e),(7,.int .i64 x),(8,.int .i64 ((5-(s+1):Nat):Int))]) (fun _=>S.set b ⟨3,(d1).toList.map encI,room⟩) (fun x=>a+1≤x∧x≤e∧scanSorted Go.Sort.ltInt d1 e x=scanSorted Go.Sort.ltInt d1 e i) (fun x=>e-x) (i) ⟨sb_,sb_,sb_,sb_,sb_,trivial⟩ (Mem.Less.refl _) (⟨h2,h4,rfl⟩) ?_
   rintro x ⟨q1,q2,q3⟩
   (try dsimp only at *)
   by_cases hx:x<e
   ·obtain ⟨x,rfl⟩ : ∃ q,x=q+1:=⟨x-1,by omega⟩
    refine AWP.seq (AWP.seq ?_)
    refine AWP.draw [(0,true),(1,true),(2,true),(3,true),(4,true),(5,true),(6,true),(7,true),(8,true),(9,true),(10,true),(11,true),(12,true),(13,false),(14,true),(15,true)] [] mixed (by kernel_rfl) ?_
    refine dP (hc:=fun _=>Calm.move rfl) (h:=?_)
    refine dP (hc:=fun _=>Calm.move rfl) (h:=?_)
    refine dP (hc:=fun _=>Calm.bin rfl rfl b_lss) (h:=?_)
    refine dP (hc:=fun _=>Calm.move rfl) (h:=?_)
    first|refine k_d ?_|refine dG (hc:=fun _=>Calm.move rfl) (h:=?_)
    first|refine k_d ?_|refine dG (hc:=fun _=>Calm.move rfl) (h:=?_)
    first|refine k_d ?_|refine dG (hc:=fun _=>Calm.indexS Try.underlying24 ty_size_3 rfl rfl (by omega) (by omega)) (h:=?_)
    first|refine k_d ?_|refine dL (hc:=Calm.load ty_plain_3 rfl (rd_row (k:=x+1) own_ rw_ rw_)) (h:=?_)
    first|refine k_d ?_|refine dG (hc:=fun _=>Calm.move rfl) (h:=?_)
    first|refine k_d ?_|refine dG (hc:=fun _=>Calm.move rfl) (h:=?_)
    first|refine k_d ?_|refine dG (hc:=fun _=>Calm.bin rfl rfl b_sub_i64) (h:=?_)
    first|refine k_d ?_|refine dG (hc:=fun _=>Calm.indexS Try.underlying24 ty_size_3 rfl rfl (by omega) (by omega)) (h:=?_)
    first|refine k_d ?_|refine dL (hc:=Calm.load ty_plain_3 rfl (rd_row (k:=x) own_ rw_ rw_)) (h:=?_)
    refine draw_only rfl ?_
    refine ARun.callG 3 true 20 rfl (lit_lt rfl) rfl (lit_lt rfl) go_152 rfl (soI_less _ _ _) ?_
    rintro _ _ ⟨rfl,rfl⟩
    refine arun_nil ⟨fun _=>less_,?_⟩
    first|refine k_d ?_|refine dG (hc:=fun _=>Calm.un rfl (una_not _)) (h:=?_)
    refine dP (hc:=fun _=>(by first | exact Calm.pickT rfl rfl | exact Calm.pickF rfl rfl)) (h:=?_)
    refine draw_nil ?_
    refine athen_n ?_
    refine k_u [(0,_),(1,_),(2,_),(7,_),(8,_),(32,_)] ?_
    refine AWP.condB rfl (fun hl=>?_) (fun hl=>?_)
    ·have hl:=nt_ hl
     refine k_k ?_
     refine AWP.block ?_
     refine AWP.region ?_
     refine k_m rfl ?_
     refine rC (Calm.bin rfl rfl b_add_i64) ?_
     refine k_s rfl ?_
     refine arun_nil ?_
     refine ain_n ?_
     refine athen_n ?_
     refine ⟨x+1+1,?_,?_,?_,?_⟩
     all_goals (try dsimp only)
     ·exact ⟨sb_,sb_,sb_,sb_,sb_,trivial⟩
     ·exact Mem.Less.refl _
     ·exact ⟨by omega,by omega,(ss_go Go.Sort.ltInt hx (by rw [Nat.add_sub_cancel];exact hl)).trans q3⟩
     ·omega
    ·have hl:=nf_ hl
     refine AWP.exit ?_
     refine athen_exit ?_
     refine athen_exit ?_
     refine ain_same ?_
     refine ⟨(x+1),?_,?_,?_⟩
     all_goals (try dsimp only)
     ·exact ⟨by omega,by omega,(ss_no Go.Sort.ltInt (by rw [Nat.add_sub_cancel];exact hl)).trans q3⟩
     ·exact ⟨sb_,sb_,sb_,sb_,sb_,trivial⟩
     ·exact Mem.Less.refl _
   ·refine AWP.seq (AWP.seq ?_)
    refine AWP.draw [(0,true),(1,true),(2,true),(3,true),(4,true),(5,true),(6,true),(7,true),(8,true),(9,true),(10,true),(11,true),(12,true),(13,false),(14,true),(15,true)] [] mixed (by kernel_rfl) ?_
    refine dP (hc:=fun _=>Calm.move rfl) (h:=?_)
    refine dP (hc:=fun _=>Calm.move rfl) (h:=?_)
    refine dP (hc:=fun _=>Calm.bin rfl rfl b_lss) (h:=?_)
    refine dP (hc:=fun _=>Calm.move rfl) (h:=?_)
    first|refine k_d ?_|refine dG (hc:=fun _=>Calm.move rfl) (h:=?_)
    first|refine k_d ?_|refine dG (hc:=fun _=>Calm.move rfl) (h:=?_)
    first|refine k_d ?_|refine dG (hc:=fun _=>Calm.indexS Try.underlying24 ty_size_3 rfl rfl (by omega) (by omega)) (h:=?_)
    first|refine k_d ?_|refine dL (hc:=Calm.load ty_plain_3 rfl (rd_row (k:=x+1) own_ rw_ rw_)) (h:=?_)
    first|refine k_d ?_|refine dG (hc:=fun _=>Calm.move rfl) (h:=?_)
    first|refine k_d ?_|refine dG (hc:=fun _=>Calm.move rfl) (h:=?_)
    first|refine k_d ?_|refine dG (hc:=fun _=>Calm.bin rfl rfl b_sub_i64) (h:=?_)
    first|refine k_d ?_|refine dG (hc:=fun _=>Calm.indexS Try.underlying24 ty_size_3 rfl rfl (by omega) (by omega)) (h:=?_)
    first|refine k_d ?_|refine dL (hc:=Calm.load ty_plain_3 rfl (rd_row (k:=x) own_ rw_ rw_)) (h:=?_)
    refine draw_only rfl ?_
    first | refine rS 20 ?_ | refine rU 20 ?_
    refine arun_nil ⟨fun _=>less_,?_⟩
    first|refine k_d ?_|refine dG (hc:=fun _=>Calm.un rfl (una_not _)) (h:=?_)
    refine dP (hc:=fun _=>(by first | exact Calm.pickT rfl rfl | exact Calm.pickF rfl rfl)) (h:=?_)
    refine draw_nil ?_
    refine athen_n ?_
    refine k_u [(0,_),(1,_),(2,_),(7,_),(8,_),(32,_)] ?_
    refine k_F rfl ?_
    refine AWP.exit ?_
    refine athen_exit ?_
    refine athen_exit ?_
    refine ain_same ?_
    refine ⟨x,?_,?_,?_⟩
    all_goals (try dsimp only)
    ·exact ⟨by omega,by omega,(ss_end Go.Sort.ltInt hx).trans q3⟩
    ·exact ⟨sb_,sb_,sb_,sb_,sb_,trivial⟩
    ·exact Mem.Less.refl _
  rintro x ⟨b1,b2,hS⟩
  intro _ _ hs_ hl_
  (try dsimp only at *)
  refine athen_n ?_
  refine AWP.sub _ hs_ (AWP.less _ hl_ ?_)
  clear hs_ hl_
  by_cases hxe:x=e
  ·refine AWP.seq (k_a (k_m rfl (k_m rfl ?_)))
   refine rC (Calm.bin rfl rfl b_eql) ?_
   refine k_n ?_
   refine k_u [(0,_),(1,_),(2,_),(7,_),(8,_),(37,_)] ?_
   refine k_T rfl ?_
   refine k_a (k_e rfl ?_)
   refine k_r ?_
   refine ain_ret ?_
   refine athen_ret ?_
   refine athen_ret ?_
   refine ain_ret ?_
   refine athen_ret ?_
   refine ⟨_,_,⟨_,_,rfl,rfl,rfl⟩,Mem.Less.refl _,?_⟩
   exact pis_res (M:=fun x=>S.set b ⟨3,(x).toList.map encI,room⟩) Go.Sort.ltInt h3 (.inl ⟨hS ▸ hxe,rfl,rfl⟩) R1
  ·refine AWP.seq (k_a (k_m rfl (k_m rfl ?_)))
   refine rC (Calm.bin rfl rfl b_eql) ?_
   refine k_n ?_
   refine k_u [(0,_),(1,_),(2,_),(7,_),(8,_),(37,_)] ?_
   refine k_F rfl ?_
   by_cases h50:e-a<50
   ·refine k_k (AWP.seq (k_a (k_m rfl (k_m rfl ?_))))
    refine rC (Calm.bin rfl rfl b_sub_i64) ?_
    refine rC (Calm.bin rfl rfl b_lss) ?_
    refine k_n ?_
    refine k_u [(0,_),(1,_),(2,_),(7,_),(8,_),(37,_),(41,_)] ?_
    refine k_T rfl ?_
    refine k_a (k_e rfl ?_)
    refine k_r ?_
    refine ain_ret ?_
    refine athen_ret ?_
    refine athen_ret ?_
    refine ain_ret ?_
    refine athen_ret ?_
    refine ⟨_,_,⟨_,_,rfl,rfl,rfl⟩,Mem.Less.refl _,?_⟩
    exact pis_res (M:=fun x=>S.set b ⟨3,(x).toList.map encI,room⟩) Go.Sort.ltInt h3 (.inr ⟨hS ▸ hxe,h50,rfl,rfl⟩) R1
   ·refine k_k (AWP.seq (k_a (k_m rfl (k_m rfl ?_))))
    refine rC (Calm.bin rfl rfl b_sub_i64) ?_
    refine rC (Calm.bin rfl rfl b_lss) ?_
    refine k_n ?_
    refine k_u [(0,_),(1,_),(2,_),(7,_),(8,_),(37,_),(41,_)] ?_
    refine k_F rfl ?_
    obtain ⟨w,rfl⟩ : ∃ q,x=q+1:=⟨x-1,by omega⟩
    refine k_k (AWP.seq ?_)
    refine AWP.draw [(0,true),(1,true),(2,true),(3,true),(4,true),(5,true),(6,true),(7,true),(8,true),(9,true),(10,true),(11,true),(12,true),(13,true),(14,true),(15,false),(16,true),(17,false)] [15,17] mixed (by kernel_rfl) ?_
    have R2:=R1.swp (w+1) w (by omega) (by omega)
    obtain ⟨d2,hd2⟩ : ∃ d2,d2=swp d1 (w+1) w:=⟨_,rfl⟩
    rw [← hd2] at R2
    refine dP (hc:=fun _=>Calm.move rfl) (h:=?_)
    refine dP (hc:=fun _=>Calm.move rfl) (h:=?_)
    refine dP (hc:=fun _=>Calm.move rfl) (h:=?_)
    refine dP (hc:=fun _=>Calm.move rfl) (h:=?_)
    refine dP (hc:=fun _=>Calm.bin rfl rfl b_sub_i64) (h:=?_)
    refine dP (hc:=fun _=>Calm.move rfl) (h:=?_)
    refine dP (hc:=fun _=>Calm.move rfl) (h:=?_)
    refine dP (hc:=fun _=>Calm.bin rfl rfl b_sub_i64) (h:=?_)
    refine dP (hc:=fun _=>Calm.indexS Try.underlying24 ty_size_3 rfl rfl (by omega) (by omega)) (h:=?_)
    refine dC (hc:=Calm.load ty_plain_3 rfl (rd_row (k:=w) own_ rw_ rw_)) (h:=?_)
    refine dP (hc:=fun _=>Calm.move rfl) (h:=?_)
    refine dP (hc:=fun _=>Calm.move rfl) (h:=?_)
    refine dP (hc:=fun _=>Calm.indexS Try.underlying24 ty_size_3 rfl rfl (by omega) (by omega)) (h:=?_)
    refine dC (hc:=Calm.load ty_plain_3 rfl (rd_row (k:=w+1) own_ rw_ rw_)) (h:=?_)
    refine dP (hc:=fun _=>Calm.indexS Try.underlying24 ty_size_3 rfl rfl (by omega) (by omega)) (h:=?_)
    refine draw_only rfl ?_
    refine ARun.storeRow encI (w+1) rfl rfl ty_size_3 ⟨rfl,rfl⟩ own_ rw_ rw_ ?_
    try simp only [k_ms,k_sz,k_ss,k_za,Nat.reduceAdd]
    refine arun_nil ⟨fun h=>absurd h (by decide),?_⟩
    refine dP (hc:=fun _=>Calm.indexS Try.underlying24 ty_size_3 rfl rfl (by omega) (by omega)) (h:=?_)
    refine draw_only rfl ?_
    refine ARun.storeRow encI (w) rfl rfl ty_size_3 ⟨rfl,rfl⟩ own_ rw_ rw_ ?_
    try simp only [k_ms,k_sz,k_ss,k_za,Nat.reduceAdd]
    refine arun_nil ⟨fun h=>absurd h (by decide),?_⟩
    refine draw_nil ?_
    refine athen_n ?_
    refine k_u [(0,_),(1,_),(2,_),(7,_),(8,_),(37,_),(41,_)] ?_
    refine AWP.less (S.set b ⟨3,(d2).toList.map encI,room⟩) (by rw [hd2];exact Mem.Less.refl _) ?_
    have z2:=R2.size
    refine AWP.seq (k_a (k_m rfl (k_m rfl ?_)))
    refine rC (Calm.bin rfl rfl b_sub_i64) ?_
    refine rC (Calm.bin rfl rfl b_geq) ?_
    refine k_n ?_
    refine k_u [(0,_),(1,_),(2,_),(7,_),(8,_),(37,_),(41,_),(61,_)] ?_
    refine AWP.join (X:=Array Int) (fun x=>[(0,.slice (some ⟨b,0,none⟩) n cap),(1,.int .i64 a),(2,.int .i64 e),(7,.int .i64 ((w+1:Nat):Int)),(8,.int .i64 ((5-(s+1):Nat):Int))]) (fun x=>S.set b ⟨3,(x).toList.map encI,room⟩) (fun x=>Rw (fun _=>True) n x∧x=(if w+1-a ≥ 2 then shiftDown Go.Sort.ltInt w d2 else d2)) ?_ ?_
    ·by_cases hw:2≤w+1-a
     ·refine k_T rfl ?_
      refine k_a (k_m rfl ?_)
      refine rC (Calm.bin rfl rfl b_sub_i64) ?_
      refine k_e rfl ?_
      refine k_u [(0,_),(1,_),(2,_),(7,_),(8,_),(37,_),(41,_),(61,_),(9,_)] ?_
      refine AWP.block ?_
      refine AWP.loop (X:=Nat × Array Int) (fun x=>[(0,.slice (some ⟨b,0,none⟩) n cap),(1,.int .i64 a),(2,.int .i64 e),(7,.int .i64 ((w+1:Nat):Int)),(8,.int .i64 ((5-(s+1):Nat):Int)),(9,.int .i64 x.1)]) (fun x=>S.set b ⟨3,(x.2).toList.map encI,room⟩) (fun x=>x.1≤w∧Rw (fun _=>True) n x.2∧shiftDown Go.Sort.ltInt x.1 x.2=shiftDown Go.Sort.ltInt w d2) (fun x=>x.1) ((w,d2)) ⟨sb_,sb_,sb_,sb_,sb_,sb_,trivial⟩ (Mem.Less.refl _) (⟨Nat.le_refl _,R2,rfl⟩) ?_
      rintro ⟨j,d3⟩ ⟨k1,R3,k3⟩
      (try dsimp only at *)
      have z3:=R3.size
      by_cases hj:0<j
      ·obtain ⟨j,rfl⟩ : ∃ q,j=q+1:=⟨j-1,by omega⟩
       refine AWP.seq (k_a (k_m rfl ?_))
       refine rC (Calm.bin rfl rfl b_geq) ?_
       refine k_n ?_
       refine k_u [(0,_),(1,_),(2,_),(7,_),(8,_),(9,_),(65,_)] ?_
       refine k_T rfl ?_
       refine k_k (AWP.seq ?_)
       refine AWP.block ?_
       refine AWP.seq (AWP.seq ?_)
       refine AWP.draw [(0,true),(1,true),(2,true),(3,true),(4,true),(5,true),(6,true),(7,true),(8,true),(9,false),(10,true)] [] mixed (by kernel_rfl) ?_
       refine dP (hc:=fun _=>Calm.move rfl) (h:=?_)
       refine dP (hc:=fun _=>Calm.move rfl) (h:=?_)
       refine dP (hc:=fun _=>Calm.indexS Try.underlying24 ty_size_3 rfl rfl (by omega) (by omega)) (h:=?_)
       refine dC (hc:=Calm.load ty_plain_3 rfl (rd_row (k:=j+1) own_ rw_ rw_)) (h:=?_)
       refine dP (hc:=fun _=>Calm.move rfl) (h:=?_)
       refine dP (hc:=fun _=>Calm.move rfl) (h:=?_)
       refine dP (hc:=fun _=>Calm.bin rfl rfl b_sub_i64) (h:=?_)
       refine dP (hc:=fun _=>Calm.indexS Try.underlying24 ty_size_3 rfl rfl (by omega) (by omega)) (h:=?_)
       refine dC (hc:=Calm.load ty_plain_3 rfl (rd_row (k:=j) own_ rw_ rw_)) (h:=?_)
       refine draw_only rfl ?_
       refine ARun.call (lit_lt rfl) go_152 rfl (soI_less _ _ _) ?_
       rintro _ _ ⟨rfl,rfl⟩
       refine arun_nil ⟨fun _=>less_,?_⟩
       refine dP (hc:=fun _=>Calm.un rfl (una_not _)) (h:=?_)
       refine draw_nil ?_
       refine athen_n ?_
       refine k_u [(0,_),(1,_),(2,_),(7,_),(8,_),(9,_),(65,_),(78,_)] ?_
       refine AWP.condB rfl (fun hl=>?_) (fun hl=>?_)
       ·have hl:=nt_ hl
        refine AWP.exit ?_
        refine athen_exit ?_
        refine ain_other rfl ?_
        refine athen_exit ?_
        refine athen_exit ?_
        refine ain_same ?_
        refine ⟨d3,?_,?_,?_⟩
        all_goals (try dsimp only)
        ·exact ⟨R3,by rw [if_pos hw,← k3,← sd_no Go.Sort.ltInt hl]⟩
        ·exact ⟨sb_,sb_,sb_,sb_,sb_,trivial⟩
        ·exact Mem.Less.refl _
       ·have hl:=nf_ hl
        refine k_k ?_
        refine AWP.draw [(0,true),(1,true),(2,true),(3,true),(4,true),(5,true),(6,true),(7,true),(8,true),(9,true),(10,true),(11,true),(12,true),(13,true),(14,true),(15,false),(16,true),(17,false)] [15,17] mixed (by kernel_rfl) ?_
        refine dP (hc:=fun _=>Calm.move rfl) (h:=?_)
        refine dP (hc:=fun _=>Calm.move rfl) (h:=?_)
        refine dP (hc:=fun _=>Calm.move rfl) (h:=?_)
        refine dP (hc:=fun _=>Calm.move rfl) (h:=?_)
        refine dP (hc:=fun _=>Calm.bin rfl rfl b_sub_i64) (h:=?_)
        refine dP (hc:=fun _=>Calm.move rfl) (h:=?_)
        refine dP (hc:=fun _=>Calm.move rfl) (h:=?_)
        refine dP (hc:=fun _=>Calm.bin rfl rfl b_sub_i64) (h:=?_)
        refine dP (hc:=fun _=>Calm.indexS Try.underlying24 ty_size_3 rfl rfl (by omega) (by omega)) (h:=?_)
        refine dC (hc:=Calm.load ty_plain_3 rfl (rd_row (k:=j) own_ rw_ rw_)) (h:=?_)
        refine dP (hc:=fun _=>Calm.move rfl) (h:=?_)
        refine dP (hc:=fun _=>Calm.move rfl) (h:=?_)
        refine dP (hc:=fun _=>Calm.indexS Try.underlying24 ty_size_3 rfl rfl (by omega) (by omega)) (h:=?_)
        refine dC (hc:=Calm.load ty_plain_3 rfl (rd_row (k:=j+1) own_ rw_ rw_)) (h:=?_)
        refine dP (hc:=fun _=>Calm.indexS Try.underlying24 ty_size_3 rfl rfl (by omega) (by omega)) (h:=?_)
        refine draw_only rfl ?_
        refine ARun.storeRow encI (j+1) rfl rfl ty_size_3 ⟨rfl,rfl⟩ own_ rw_ rw_ ?_
        try simp only [k_ms,k_sz,k_ss,k_za,Nat.reduceAdd]
        refine arun_nil ⟨fun h=>absurd h (by decide),?_⟩
        refine dP (hc:=fun _=>Calm.indexS Try.underlying24 ty_size_3 rfl rfl (by omega) (by omega)) (h:=?_)
        refine draw_only rfl ?_
        refine ARun.storeRow encI (j) rfl rfl ty_size_3 ⟨rfl,rfl⟩ own_ rw_ rw_ ?_
        try simp only [k_ms,k_sz,k_ss,k_za,Nat.reduceAdd]
        refine arun_nil ⟨fun h=>absurd h (by decide),?_⟩
        refine draw_nil ?_
        refine ain_n ?_
        refine athen_n ?_
        refine k_u [(0,_),(1,_),(2,_),(7,_),(8,_),(9,_),(65,_),(78,_)] ?_
        refine AWP.region ?_
        refine k_m rfl ?_
        refine rC (Calm.bin rfl rfl b_sub_i64) ?_
        refine k_e rfl ?_
        refine ⟨(j,swp d3 (j+1) j),?_,?_,?_,?_⟩
        all_goals (try dsimp only)
        ·exact ⟨sb_,sb_,sb_,sb_,sb_,sb_,trivial⟩
        ·exact Mem.Less.refl _
        ·exact ⟨by omega,R3.swp _ _ (by omega) (by omega),(sd_go Go.Sort.ltInt hl).trans k3⟩
        ·omega
      ·obtain rfl:j=0:=by omega
       refine AWP.seq (k_a (k_m rfl ?_))
       refine rC (Calm.bin rfl rfl b_geq) ?_
       refine k_n ?_
       refine k_u [(0,_),(1,_),(2,_),(7,_),(8,_),(9,_),(65,_)] ?_
       refine k_F rfl ?_
       refine AWP.exit ?_
       refine athen_exit ?_
       refine athen_exit ?_
       refine ain_same ?_
       refine ⟨d3,?_,?_,?_⟩
       all_goals (try dsimp only)
       ·exact ⟨R3,by rw [if_pos hw,← k3];rfl⟩
       ·exact ⟨sb_,sb_,sb_,sb_,sb_,trivial⟩
       ·exact Mem.Less.refl _
     ·refine k_F rfl ?_
      refine AWP.skip ?_
      refine ⟨d2,?_,?_,?_⟩
      all_goals (try dsimp only)
      ·exact ⟨R2,by rw [if_neg hw]⟩
      ·exact ⟨sb_,sb_,sb_,sb_,sb_,trivial⟩
      ·exact Mem.Less.refl _
    rintro d3 ⟨R3,hd3⟩
    intro _ _ hs_ hl_
    (try dsimp only at *)
    refine athen_n ?_
    refine AWP.sub _ hs_ (AWP.less _ hl_ ?_)
    clear hs_ hl_
    have z3:=R3.size
    refine k_a (k_m rfl (k_m rfl ?_))
    refine rC (Calm.bin rfl rfl b_sub_i64) ?_
    refine rC (Calm.bin rfl rfl b_geq) ?_
    refine k_n ?_
    refine k_u [(0,_),(1,_),(2,_),(7,_),(8,_),(98,_)] ?_
    refine AWP.join (X:=Array Int) (fun x=>[(0,.slice (some ⟨b,0,none⟩) n cap),(1,.int .i64 a),(2,.int .i64 e),(7,.int .i64 ((w+1:Nat):Int)),(8,.int .i64 ((5-(s+1):Nat):Int))]) (fun x=>S.set b ⟨3,(x).toList.map encI,room⟩) (fun x=>Rw (fun _=>True) n x∧x=(if e-(w+1) ≥ 2 then shiftUp Go.Sort.ltInt e (w+1+1) d3 else d3)) ?_ ?_
    ·by_cases hw:2≤e-(w+1)
     ·refine k_T rfl ?_
      refine k_a (k_m rfl ?_)
      refine rC (Calm.bin rfl rfl b_add_i64) ?_
      refine k_e rfl ?_
      refine k_u [(0,_),(1,_),(2,_),(7,_),(8,_),(98,_),(10,_)] ?_
      refine AWP.block ?_
      refine AWP.loop (X:=Nat × Array Int) (fun x=>[(0,.slice (some ⟨b,0,none⟩) n cap),(1,.int .i64 a),(2,.int .i64 e),(7,.int .i64 ((w+1:Nat):Int)),(8,.int .i64 ((5-(s+1):Nat):Int)),(10,.int .i64 x.1)]) (fun x=>S.set b ⟨3,(x.2).toList.map encI,room⟩) (fun x=>w+1+1≤x.1∧x.1≤e∧Rw (fun _=>True) n x.2∧shiftUp Go.Sort.ltInt e x.1 x.2=shiftUp Go.Sort.ltInt e (w+1+1) d3) (fun x=>e-x.1) ((w+1+1,d3)) ⟨sb_,sb_,sb_,sb_,sb_,sb_,trivial⟩ (Mem.Less.refl _) (⟨Nat.le_refl _,by dsimp only;omega,R3,rfl⟩) ?_
      rintro ⟨j,d4⟩ ⟨k1,k2,R4,k3⟩
      (try dsimp only at *)
      have z4:=R4.size
      by_cases hj:j<e
      ·obtain ⟨j,rfl⟩ : ∃ q,j=q+1:=⟨j-1,by omega⟩
       refine AWP.seq (k_a (k_m rfl (k_m rfl ?_)))
       refine rC (Calm.bin rfl rfl b_lss) ?_
       refine k_n ?_
       refine k_u [(0,_),(1,_),(2,_),(7,_),(8,_),(10,_),(103,_)] ?_
       refine k_T rfl ?_
       refine k_k (AWP.seq ?_)
       refine AWP.block ?_
       refine AWP.seq (AWP.seq ?_)
       refine AWP.draw [(0,true),(1,true),(2,true),(3,true),(4,true),(5,true),(6,true),(7,true),(8,true),(9,false),(10,true)] [] mixed (by kernel_rfl) ?_
       refine dP (hc:=fun _=>Calm.move rfl) (h:=?_)
       refine dP (hc:=fun _=>Calm.move rfl) (h:=?_)
       refine dP (hc:=fun _=>Calm.indexS Try.underlying24 ty_size_3 rfl rfl (by omega) (by omega)) (h:=?_)
       refine dC (hc:=Calm.load ty_plain_3 rfl (rd_row (k:=j+1) own_ rw_ rw_)) (h:=?_)
       refine dP (hc:=fun _=>Calm.move rfl) (h:=?_)
       refine dP (hc:=fun _=>Calm.move rfl) (h:=?_)
       refine dP (hc:=fun _=>Calm.bin rfl rfl b_sub_i64) (h:=?_)
       refine dP (hc:=fun _=>Calm.indexS Try.underlying24 ty_size_3 rfl rfl (by omega) (by omega)) (h:=?_)
       refine dC (hc:=Calm.load ty_plain_3 rfl (rd_row (k:=j) own_ rw_ rw_)) (h:=?_)
       refine draw_only rfl ?_
       refine ARun.call (lit_lt rfl) go_152 rfl (soI_less _ _ _) ?_
       rintro _ _ ⟨rfl,rfl⟩
       refine arun_nil ⟨fun _=>less_,?_⟩
       refine dP (hc:=fun _=>Calm.un rfl (una_not _)) (h:=?_)
       refine draw_nil ?_
       refine athen_n ?_
       refine k_u [(0,_),(1,_),(2,_),(7,_),(8,_),(10,_),(103,_),(116,_)] ?_
       refine AWP.condB rfl (fun hl=>?_) (fun hl=>?_)
       ·have hl:=nt_ hl
        refine AWP.exit ?_
        refine athen_exit ?_
        refine ain_other rfl ?_
        refine athen_exit ?_
        refine athen_exit ?_
        refine ain_same ?_
        refine ⟨d4,?_,?_,?_⟩
        all_goals (try dsimp only)
        ·exact ⟨R4,by rw [if_pos hw,← k3,← su_no Go.Sort.ltInt (by rw [Nat.add_sub_cancel];exact hl)]⟩
        ·exact ⟨sb_,sb_,sb_,sb_,sb_,trivial⟩
        ·exact Mem.Less.refl _
       ·have hl:=nf_ hl
        refine k_k ?_
        refine AWP.draw [(0,true),(1,true),(2,true),(3,true),(4,true),(5,true),(6,true),(7,true),(8,true),(9,true),(10,true),(11,true),(12,true),(13,true),(14,true),(15,false),(16,true),(17,false)] [15,17] mixed (by kernel_rfl) ?_
        refine dP (hc:=fun _=>Calm.move rfl) (h:=?_)
        refine dP (hc:=fun _=>Calm.move rfl) (h:=?_)
        refine dP (hc:=fun _=>Calm.move rfl) (h:=?_)
        refine dP (hc:=fun _=>Calm.move rfl) (h:=?_)
        refine dP (hc:=fun _=>Calm.bin rfl rfl b_sub_i64) (h:=?_)
        refine dP (hc:=fun _=>Calm.move rfl) (h:=?_)
        refine dP (hc:=fun _=>Calm.move rfl) (h:=?_)
        refine dP (hc:=fun _=>Calm.bin rfl rfl b_sub_i64) (h:=?_)
        refine dP (hc:=fun _=>Calm.indexS Try.underlying24 ty_size_3 rfl rfl (by omega) (by omega)) (h:=?_)
        refine dC (hc:=Calm.load ty_plain_3 rfl (rd_row (k:=j) own_ rw_ rw_)) (h:=?_)
        refine dP (hc:=fun _=>Calm.move rfl) (h:=?_)
        refine dP (hc:=fun _=>Calm.move rfl) (h:=?_)
        refine dP (hc:=fun _=>Calm.indexS Try.underlying24 ty_size_3 rfl rfl (by omega) (by omega)) (h:=?_)
        refine dC (hc:=Calm.load ty_plain_3 rfl (rd_row (k:=j+1) own_ rw_ rw_)) (h:=?_)
        refine dP (hc:=fun _=>Calm.indexS Try.underlying24 ty_size_3 rfl rfl (by omega) (by omega)) (h:=?_)
        refine draw_only rfl ?_
        refine ARun.storeRow encI (j+1) rfl rfl ty_size_3 ⟨rfl,rfl⟩ own_ rw_ rw_ ?_
        try simp only [k_ms,k_sz,k_ss,k_za,Nat.reduceAdd]
        refine arun_nil ⟨fun h=>absurd h (by decide),?_⟩
        refine dP (hc:=fun _=>Calm.indexS Try.underlying24 ty_size_3 rfl rfl (by omega) (by omega)) (h:=?_)
        refine draw_only rfl ?_
        refine ARun.storeRow encI (j) rfl rfl ty_size_3 ⟨rfl,rfl⟩ own_ rw_ rw_ ?_
        try simp only [k_ms,k_sz,k_ss,k_za,Nat.reduceAdd]
        refine arun_nil ⟨fun h=>absurd h (by decide),?_⟩
        refine draw_nil ?_
        refine ain_n ?_
        refine athen_n ?_
        refine k_u [(0,_),(1,_),(2,_),(7,_),(8,_),(10,_),(103,_),(116,_)] ?_
        refine AWP.region ?_
        refine k_m rfl ?_
        refine rC (Calm.bin rfl rfl b_add_i64) ?_
        refine k_e rfl ?_
        refine ⟨(j+1+1,swp d4 (j+1) j),?_,?_,?_,?_⟩
        all_goals (try dsimp only)
        ·exact ⟨sb_,sb_,sb_,sb_,sb_,sb_,trivial⟩
        ·exact Mem.Less.refl _
        ·exact ⟨by omega,by omega,R4.swp _ _ (by omega) (by omega),(su_go Go.Sort.ltInt (j:=j+1) hj (by rw [Nat.add_sub_cancel];exact hl)).trans k3⟩
        ·omega
      ·refine AWP.seq (k_a (k_m rfl (k_m rfl ?_)))
       refine rC (Calm.bin rfl rfl b_lss) ?_
       refine k_n ?_
       refine k_u [(0,_),(1,_),(2,_),(7,_),(8,_),(10,_),(103,_)] ?_
       refine k_F rfl ?_
       refine AWP.exit ?_
       refine athen_exit ?_
       refine athen_exit ?_
       refine ain_same ?_
       refine ⟨d4,?_,?_,?_⟩
       all_goals (try dsimp only)
       ·exact ⟨R4,by rw [if_pos hw,← k3,← su_end Go.Sort.ltInt hj]⟩
       ·exact ⟨sb_,sb_,sb_,sb_,sb_,trivial⟩
       ·exact Mem.Less.refl _
     ·refine k_F rfl ?_
      refine AWP.skip ?_
      refine ⟨d3,?_,?_,?_⟩
      all_goals (try dsimp only)
      ·exact ⟨R3,by rw [if_neg hw]⟩
      ·exact ⟨sb_,sb_,sb_,sb_,sb_,trivial⟩
      ·exact Mem.Less.refl _
    rintro d4 ⟨R4,hd4⟩
    intro _ _ hs_ hl_
    (try dsimp only at *)
    refine ain_n ?_
    refine athen_n ?_
    refine AWP.sub _ hs_ (AWP.less _ hl_ ?_)
    clear hs_ hl_
    refine AWP.region ?_
    refine k_m rfl ?_
    refine rC (Calm.bin rfl rfl b_add_i64) ?_
    refine k_e rfl ?_
    refine ⟨(s,w+1,d4),?_,?_,?_,?_⟩
    all_goals (try dsimp only)
    ·exact ⟨sb_,sb_,sb_,sb_,sb_,trivial⟩
    ·exact Mem.Less.refl _
    ·exact ⟨by omega,by omega,by omega,R4,(pi_step Go.Sort.ltInt hS (by omega) h50 hd2 hd3 hd4).trans h3⟩
    ·omega
 ·obtain rfl:s=0:=by omega
  refine AWP.seq (k_a (k_m rfl ?_))
  refine rC (Calm.bin rfl rfl b_lss) ?_
  refine k_n ?_
  refine k_u [(0,_),(1,_),(2,_),(7,_),(8,_),(14,_)] ?_
  refine k_F rfl ?_
  refine AWP.exit ?_
  refine athen_exit ?_
  refine athen_exit ?_
  refine ain_same ?_
  refine athen_n ?_
  refine k_a (k_e rfl ?_)
  refine AWP.ret ?_
  refine ⟨_,_,⟨_,_,rfl,rfl,rfl⟩,Mem.Less.refl _,?_⟩
  rw [← h3];exact ⟨rfl,rfl,R1⟩
end Go.Proofs.Ytgidjbpgkeemiaa
namespace Go.Proofs.Ytgidjbpgkeemiaa
open Go.RowKit
open Mv Srt
open Go.Sort (swp insInner insOuter insertionSort siftDown heapBuild heapPop heapSort scanUp scanDown partLoop partition partEqLoop partitionEqual scanSorted shiftDown shiftUp partialIns partialInsertionSort order2 median medianAdjacent choosePivot reverseLoop reverseRange breakStep breakPatterns pdq bitsLen xorNext Hint)
set_option maxRecDepth 4000
set_option maxHeartbeats 8000000 in
theorem soI_pdq {S : Mem} (b room n cap : Nat) (hb : Fresh S b) (hn : n ≤ 1048576) : ∀ (m : Nat) (d : Array Int) (R : Rw (fun _ => True) n d) (ia ie il : Int) (a e limit : Nat), ia = a → ie = e → il = limit → a ≤ e → e ≤ n → limit ≤ 1000 → e - a = m →
  ACall Try.prog 121 #[.slice (some ⟨b,0,none⟩) n cap,.int .i64 ia,.int .i64 ie,.int .i64 il] (S.set b ⟨3,(d).toList.map encI,room⟩) fun r S'=>S'=S.set b ⟨3,(pdq Go.Sort.ltInt d a e limit true true).toList.map encI,room⟩∧Rw (fun _=>True) n (pdq Go.Sort.ltInt d a e limit true true):=by
 intro m
 induction m using Nat.strongRecOn with
 | _ m ih =>
 intro d R ia ie il a e limit ha he hl hae hen hlim hm
 subst ha he hl
 refine ACall.enter (rs:=[]) 134 [(0,.slice (some ⟨b,0,none⟩) n cap),(1,.int .i64 a),(2,.int .i64 e),(3,.int .i64 limit)] Try.func121 rfl rfl (Nat.le_of_ble_eq_true rfl) rfl ⟨rfl,rfl,rfl,rfl,trivial⟩ ?_
 refine k_a (k_e rfl (k_a (k_e rfl ?_)))
 refine AWP.block ?_
 refine AWP.loop (X:=Nat × Nat × Nat × Bool × Bool × Array Int) (fun x=>[(0,.slice (some ⟨b,0,none⟩) n cap),(1,.int .i64 x.1),(2,.int .i64 x.2.1),(3,.int .i64 x.2.2.1),(8,.bool x.2.2.2.1),(9,.bool x.2.2.2.2.1)]) (fun x=>S.set b ⟨3,(x.2.2.2.2.2).toList.map encI,room⟩) (fun x=>x.1≤x.2.1∧x.2.1≤e∧Rw (fun _=>True) n x.2.2.2.2.2∧x.2.1-x.1≤m∧x.2.2.1≤limit∧pdq Go.Sort.ltInt x.2.2.2.2.2 x.1 x.2.1 x.2.2.1 x.2.2.2.1 x.2.2.2.2.1=pdq Go.Sort.ltInt d a e limit true true) (fun x=>x.2.1-x.1) ((a,e,limit,true,true,d)) ⟨sb_,sb_,sb_,sb_,sb_,sb_,trivial⟩ (Mem.Less.refl _) (⟨hae,Nat.le_refl _,R,by dsimp only;omega,Nat.le_refl _,rfl⟩) ?_
 rintro ⟨a1,e1,l1,w1,w2,d0⟩ ⟨h1,h2,R0,h4,h5,hq⟩
 (try dsimp only at *)
 have z0:=R0.size
 by_cases h12:e1-a1≤12
 ·refine AWP.block ?_
  refine k_a (k_m rfl (k_m rfl ?_))
  refine rC (Calm.bin rfl rfl b_sub_i64) ?_
  refine k_e rfl ?_
  refine k_u [(0,_),(1,_),(2,_),(3,_),(8,_),(9,_),(10,_)] ?_
  refine AWP.seq (k_a (k_m rfl ?_))
  refine rC (Calm.bin rfl rfl b_leq) ?_
  refine k_n ?_
  refine k_u [(0,_),(1,_),(2,_),(3,_),(8,_),(9,_),(10,_),(23,_)] ?_
  refine k_T rfl ?_
  refine k_a (k_m rfl (k_m rfl (k_m rfl ?_)))
  refine ARun.call (lit_lt rfl) go_146 rfl (soI_ins b room n cap hb hn d0 R0 _ _ a1 e1 rfl rfl (by omega) (by omega)) ?_
  rintro _ _ ⟨rfl,R1⟩
  refine k_n ?_
  refine k_u [(0,_),(1,_),(2,_),(3,_),(8,_),(9,_),(10,_),(23,_)] ?_
  refine k_r ?_
  refine ain_ret ?_
  refine athen_ret ?_
  refine ain_ret ?_
  refine ⟨_,_,rfl,Mem.Less.refl _,?_⟩
  rw [← hq,pdq_ins Go.Sort.ltInt h12];exact ⟨rfl,R1⟩
 ·refine AWP.block ?_
  refine k_a (k_m rfl (k_m rfl ?_))
  refine rC (Calm.bin rfl rfl b_sub_i64) ?_
  refine k_e rfl ?_
  refine k_u [(0,_),(1,_),(2,_),(3,_),(8,_),(9,_),(10,_)] ?_
  refine AWP.seq (k_a (k_m rfl ?_))
  refine rC (Calm.bin rfl rfl b_leq) ?_
  refine k_n ?_
  refine k_u [(0,_),(1,_),(2,_),(3,_),(8,_),(9,_),(10,_),(23,_)] ?_
  refine k_F rfl ?_
  by_cases hl0:l1=0
  ·refine k_k (AWP.seq (k_a (k_m rfl ?_)))
   refine rC (Calm.bin rfl rfl b_eql) ?_
   refine k_n ?_
   refine k_u [(0,_),(1,_),(2,_),(3,_),(8,_),(9,_),(10,_),(23,_),(29,_)] ?_
   refine k_T rfl ?_
   refine k_a (k_m rfl (k_m rfl (k_m rfl ?_)))
   refine ARun.call (lit_lt rfl) go_147 rfl (soI_heap b room n cap hb hn d0 R0 _ _ a1 e1 rfl rfl (by omega) (by omega)) ?_
   rintro _ _ ⟨rfl,R1⟩
   refine k_n ?_
   refine k_u [(0,_),(1,_),(2,_),(3,_),(8,_),(9,_),(10,_),(23,_),(29,_)] ?_
   refine k_r ?_
   refine ain_ret ?_
   refine athen_ret ?_
   refine ain_ret ?_
   refine ⟨_,_,rfl,Mem.Less.refl _,?_⟩
   rw [← hq,pdq_heap Go.Sort.ltInt h12 hl0];exact ⟨rfl,R1⟩
  ·refine k_k (AWP.seq (k_a (k_m rfl ?_)))
   refine rC (Calm.bin rfl rfl b_eql) ?_
   refine k_n ?_
   refine k_u [(0,_),(1,_),(2,_),(3,_),(8,_),(9,_),(10,_),(23,_),(29,_)] ?_
   refine k_F rfl ?_
   rw [pdq_1 Go.Sort.ltInt h12 hl0] at hq
   refine k_k (AWP.seq (k_a (k_m rfl ?_)))
   refine rC (Calm.un rfl (una_not _)) ?_
   refine k_n ?_
   refine k_u [(0,_),(1,_),(2,_),(3,_),(8,_),(9,_),(10,_),(23,_),(29,_),(35,_)] ?_
   refine AWP.join (X:=Nat × Array Int) (fun x=>[(0,.slice (some ⟨b,0,none⟩) n cap),(1,.int .i64 a1),(2,.int .i64 e1),(3,.int .i64 x.1),(8,.bool w1),(9,.bool w2),(10,.int .i64 ((e1-a1:Nat):Int))]) (fun x=>S.set b ⟨3,(x.2).toList.map encI,room⟩) (fun x=>x.1≤l1∧Rw (fun _=>True) n x.2∧pdq1 Go.Sort.ltInt x.2 a1 e1 x.1 w1 w2=pdq Go.Sort.ltInt d a e limit true true) ?_ ?_
   ·cases w1
    ·refine k_T rfl ?_
     refine k_a (k_m rfl (k_m rfl (k_m rfl ?_)))
     refine ARun.call (lit_lt rfl) go_148 rfl (soI_brk b room n cap hb hn d0 R0 _ _ a1 e1 rfl rfl (by omega) (by omega)) ?_
     rintro _ _ ⟨rfl,R1⟩
     refine k_n ?_
     refine k_u [(0,_),(1,_),(2,_),(3,_),(8,_),(9,_),(10,_),(23,_),(29,_),(35,_)] ?_
     refine AWP.region ?_
     refine k_m rfl ?_
     refine rC (Calm.bin rfl rfl b_sub_i64) ?_
     refine k_s rfl ?_
     refine arun_nil ?_
     refine ⟨(l1-1,breakPatterns d0 a1 e1),?_,?_,?_⟩
     all_goals (try dsimp only)
     ·exact ⟨by omega,R1,hq⟩
     ·exact ⟨sb_,sb_,sb_,sb_,sb_,sb_,sb_,trivial⟩
     ·exact Mem.Less.refl _
    ·refine k_F rfl ?_
     refine AWP.skip ?_
     refine ⟨(l1,d0),?_,?_,?_⟩
     all_goals (try dsimp only)
     ·exact ⟨Nat.le_refl _,R0,hq⟩
     ·exact ⟨sb_,sb_,sb_,sb_,sb_,sb_,sb_,trivial⟩
     ·exact Mem.Less.refl _
   rintro ⟨l2,d1⟩ ⟨k1,R1,hq⟩
   intro _ _ hs_ hl_
   (try dsimp only at *)
   refine athen_n ?_
   refine AWP.sub _ hs_ (AWP.less _ hl_ ?_)
   clear hs_ hl_
   have z1:=R1.size
   obtain ⟨⟨p0,ht⟩,hpc⟩ : ∃ q,q=choosePivot Go.Sort.ltInt d1 a1 e1:=⟨_,rfl⟩
   refine k_a (k_m rfl (k_m rfl (k_m rfl ?_)))
   refine ARun.call (lit_lt rfl) go_149 rfl ((hpc ▸ soI_pivot b room n cap hb hn d1 R1 _ _ a1 e1 rfl rfl (by omega) (by omega))) ?_
   rintro _ _ ⟨rfl,rfl,g1,g2⟩
   dsimp only at g1 g2
   rw [pdq1,← hpc] at hq
   dsimp only at hq
   refine k_m rfl ?_
   refine rC (Calm.extract rfl rfl) ?_
   refine rC (Calm.extract rfl rfl) ?_
   refine k_s rfl (k_e rfl ?_)
   refine k_u [(0,_),(1,_),(2,_),(3,_),(8,_),(9,_),(10,_),(11,_),(12,_)] ?_
   refine AWP.seq (k_a (k_m rfl ?_))
   refine rC (Calm.bin rfl rfl b_eql) ?_
   refine k_n ?_
   refine k_u [(0,_),(1,_),(2,_),(3,_),(8,_),(9,_),(10,_),(11,_),(12,_),(50,_)] ?_
   refine AWP.join (X:=Nat × Hint × Array Int) (fun x=>[(0,.slice (some ⟨b,0,none⟩) n cap),(1,.int .i64 a1),(2,.int .i64 e1),(3,.int .i64 l2),(8,.bool w1),(9,.bool w2),(10,.int .i64 ((e1-a1:Nat):Int)),(11,.int .i64 x.1),(12,.int .i64 (hintI x.2.1))]) (fun x=>S.set b ⟨3,(x.2.2).toList.map encI,room⟩) (fun x=>a1≤x.1∧x.1<e1∧Rw (fun _=>True) n x.2.2∧pdq2 Go.Sort.ltInt x.2.2 a1 e1 l2 w1 w2 x.1 x.2.1=pdq Go.Sort.ltInt d a e limit true true) ?_ ?_
   ·by_cases hde:ht = .decreasing
    ·subst hde
     refine k_T rfl ?_
     refine k_a (k_m rfl (k_m rfl (k_m rfl ?_)))
     refine ARun.call (lit_lt rfl) go_150 rfl (soI_rev b room n cap hb hn d1 R1 _ _ a1 e1 rfl rfl (by omega) (by omega)) ?_
     rintro _ _ ⟨rfl,R2⟩
     refine k_n ?_
     refine k_u [(0,_),(1,_),(2,_),(3,_),(8,_),(9,_),(10,_),(11,_),(12,_),(50,_)] ?_
     refine k_a (k_m rfl ?_)
     refine rC (Calm.bin rfl rfl b_sub_i64) ?_
     refine k_m rfl (k_m rfl ?_)
     refine rC (Calm.bin rfl rfl b_sub_i64) ?_
     refine rC (Calm.bin rfl rfl b_sub_i64) ?_
     refine k_e rfl ?_
     refine k_u [(0,_),(1,_),(2,_),(3,_),(8,_),(9,_),(10,_),(11,_),(12,_),(50,_)] ?_
     refine AWP.region ?_
     refine k_s rfl ?_
     refine arun_nil ?_
     refine ⟨(e1-1-(p0-a1),.increasing,reverseRange d1 a1 e1),?_,?_,?_⟩
     all_goals (try dsimp only)
     ·exact ⟨by omega,by omega,R2,by rw [if_pos rfl] at hq;exact hq⟩
     ·exact ⟨sb_,sb_,sb_,sb_,sb_,sb_,sb_,sb_,sb_,trivial⟩
     ·exact Mem.Less.refl _
    ·have hni:=hint_ne hde
     refine k_F rfl ?_
     refine AWP.skip ?_
     refine ⟨(p0,ht,d1),?_,?_,?_⟩
     all_goals (try dsimp only)
     ·exact ⟨g1,g2,R1,by rw [if_neg hde] at hq;exact hq⟩
     ·exact ⟨sb_,sb_,sb_,sb_,sb_,sb_,sb_,sb_,sb_,trivial⟩
     ·exact Mem.Less.refl _
   rintro ⟨pv,hi,d2⟩ ⟨g1,g2,R2,hq⟩
   intro _ _ hs_ hl_
   (try dsimp only at *)
   refine athen_n ?_
   refine AWP.sub _ hs_ (AWP.less _ hl_ ?_)
   clear hs_ hl_
   have z2:=R2.size
   have hh1:=hint_1 hi
   refine AWP.seq (AWP.seq ?_)
   refine AWP.join (X:=Bool) (fun x=>[(0,.slice (some ⟨b,0,none⟩) n cap),(1,.int .i64 a1),(2,.int .i64 e1),(3,.int .i64 l2),(8,.bool w1),(9,.bool w2),(10,.int .i64 ((e1-a1:Nat):Int)),(11,.int .i64 pv),(68,.bool x)]) (fun x=>S.set b ⟨3,(d2).toList.map encI,room⟩) (fun x=>x=(w1 && w2 && decide (hi = .increasing))) ?_ ?_
   ·cases w1
    ·refine AWP.region ?_
     refine k_m rfl (k_m rfl ?_)
     first|refine k_q 62 ?_|refine rG 62 (Calm.move rfl) ?_
     first|refine k_t rfl rfl ?_|refine k_f rfl rfl ?_
     refine k_m rfl ?_
     first|refine k_q 65 ?_|refine rG 65 (Calm.move rfl) ?_
     first|refine k_q 65 ?_|refine rG 65 (Calm.bin rfl rfl b_eql) ?_
     first|refine k_t rfl rfl ?_|refine k_f rfl rfl ?_
     refine arun_nil ?_
     refine ⟨false,?_,?_,?_⟩
     all_goals (try dsimp only)
     ·rfl
     ·exact ⟨sb_,sb_,sb_,sb_,sb_,sb_,sb_,sb_,sb_,trivial⟩
     ·exact Mem.Less.refl _
    ·cases w2
     ·refine AWP.region ?_
      refine k_m rfl (k_m rfl ?_)
      first|refine k_q 62 ?_|refine rG 62 (Calm.move rfl) ?_
      first|refine k_t rfl rfl ?_|refine k_f rfl rfl ?_
      refine k_m rfl ?_
      first|refine k_q 65 ?_|refine rG 65 (Calm.move rfl) ?_
      first|refine k_q 65 ?_|refine rG 65 (Calm.bin rfl rfl b_eql) ?_
      first|refine k_t rfl rfl ?_|refine k_f rfl rfl ?_
      refine arun_nil ?_
      refine ⟨false,?_,?_,?_⟩
      all_goals (try dsimp only)
      ·rfl
      ·exact ⟨sb_,sb_,sb_,sb_,sb_,sb_,sb_,sb_,sb_,trivial⟩
      ·exact Mem.Less.refl _
     ·refine AWP.region ?_
      refine k_m rfl (k_m rfl ?_)
      first|refine k_q 62 ?_|refine rG 62 (Calm.move rfl) ?_
      first|refine k_t rfl rfl ?_|refine k_f rfl rfl ?_
      refine k_m rfl ?_
      first|refine k_q 65 ?_|refine rG 65 (Calm.move rfl) ?_
      first|refine k_q 65 ?_|refine rG 65 (Calm.bin rfl rfl (bin_bool (bin_eql _ _) hh1)) ?_
      first|refine k_t rfl rfl ?_|refine k_f rfl rfl ?_
      refine arun_nil ?_
      refine ⟨(decide (hi = .increasing)),?_,?_,?_⟩
      all_goals (try dsimp only)
      ·simp
      ·exact ⟨sb_,sb_,sb_,sb_,sb_,sb_,sb_,sb_,sb_,trivial⟩
      ·exact Mem.Less.refl _
   rintro x hx
   intro _ _ hs_ hl_
   (try dsimp only at *)
   refine athen_n ?_
   refine AWP.sub _ hs_ (AWP.less _ hl_ ?_)
   clear hs_ hl_
   rw [pdq2,← hx] at hq
   refine AWP.join (X:=Array Int) (fun x=>[(0,.slice (some ⟨b,0,none⟩) n cap),(1,.int .i64 a1),(2,.int .i64 e1),(3,.int .i64 l2),(8,.bool w1),(9,.bool w2),(10,.int .i64 ((e1-a1:Nat):Int)),(11,.int .i64 pv)]) (fun x=>S.set b ⟨3,(x).toList.map encI,room⟩) (fun x=>Rw (fun _=>True) n x∧pdq3 Go.Sort.ltInt x a1 e1 l2 w1 w2 pv=pdq Go.Sort.ltInt d a e limit true true) ?_ ?_
   ·cases x
    ·refine k_F rfl ?_
     refine AWP.skip ?_
     refine ⟨d2,?_,?_,?_⟩
     all_goals (try dsimp only)
     ·exact ⟨R2,hq⟩
     ·exact ⟨sb_,sb_,sb_,sb_,sb_,sb_,sb_,sb_,trivial⟩
     ·exact Mem.Less.refl _
    ·refine k_T rfl ?_
     obtain ⟨⟨d3,pb⟩,hp3⟩ : ∃ q,q=partialInsertionSort Go.Sort.ltInt d2 a1 e1:=⟨_,rfl⟩
     rw [if_pos rfl,← hp3] at hq
     dsimp only at hq
     refine k_a (k_m rfl (k_m rfl (k_m rfl ?_)))
     refine ARun.call (lit_lt rfl) go_151 rfl ((hp3 ▸ soI_pins b room n cap hb hn d2 R2 _ _ a1 e1 rfl rfl (by omega) (by omega))) ?_
     rintro _ _ ⟨rfl,rfl,R3⟩
     refine k_n ?_
     refine k_u [(0,_),(1,_),(2,_),(3,_),(8,_),(9,_),(10,_),(11,_),(68,_),(72,_)] ?_
     cases pb
     ·refine k_F rfl ?_
      refine AWP.skip ?_
      refine ⟨d3,?_,?_,?_⟩
      all_goals (try dsimp only)
      ·exact ⟨R3,hq⟩
      ·exact ⟨sb_,sb_,sb_,sb_,sb_,sb_,sb_,sb_,trivial⟩
      ·exact Mem.Less.refl _
     ·refine k_T rfl ?_
      refine AWP.ret ?_
      refine join_ret ?_
      refine athen_ret ?_
      refine ain_ret ?_
      refine athen_ret ?_
      refine ain_ret ?_
      refine ⟨_,_,rfl,Mem.Less.refl _,?_⟩
      rw [← hq];exact ⟨rfl,R3⟩
   rintro d3 ⟨R3,hq⟩
   intro _ _ hs_ hl_
   (try dsimp only at *)
   refine athen_n ?_
   refine AWP.sub _ hs_ (AWP.less _ hl_ ?_)
   clear hs_ hl_
   clear hx
   have z3:=R3.size
   refine AWP.seq (AWP.seq ?_)
   refine AWP.join (X:=Bool) (fun x=>[(0,.slice (some ⟨b,0,none⟩) n cap),(1,.int .i64 a1),(2,.int .i64 e1),(3,.int .i64 l2),(8,.bool w1),(9,.bool w2),(10,.int .i64 ((e1-a1:Nat):Int)),(11,.int .i64 pv),(87,.bool x)]) (fun x=>S.set b ⟨3,(d3).toList.map encI,room⟩) (fun x=>x=(decide (a1 > 0) && !Go.Sort.ltInt d3[a1-1]! d3[pv]!)) ?_ ?_
   ·by_cases h0:0<a1
    ·refine AWP.draw [(0,true),(1,true),(2,true),(3,true),(4,true),(5,true),(6,true),(7,true),(8,true),(9,true),(10,true),(11,true),(12,false),(13,true),(14,true)] [] mixed (by kernel_rfl) ?_
     refine dP (hc:=fun _=>Calm.move rfl) (h:=?_)
     refine dP (hc:=fun _=>Calm.bin rfl rfl b_gtr) (h:=?_)
     refine dP (hc:=fun _=>Calm.move rfl) (h:=?_)
     first|refine k_d ?_|refine dG (hc:=fun _=>Calm.move rfl) (h:=?_)
     first|refine k_d ?_|refine dG (hc:=fun _=>Calm.move rfl) (h:=?_)
     first|refine k_d ?_|refine dG (hc:=fun _=>Calm.bin rfl rfl b_sub_i64) (h:=?_)
     first|refine k_d ?_|refine dG (hc:=fun _=>Calm.indexS Try.underlying24 ty_size_3 rfl rfl (by omega) (by omega)) (h:=?_)
     first|refine k_d ?_|refine dL (hc:=Calm.load ty_plain_3 rfl (rd_row (k:=a1-1) own_ rw_ rw_)) (h:=?_)
     first|refine k_d ?_|refine dG (hc:=fun _=>Calm.move rfl) (h:=?_)
     first|refine k_d ?_|refine dG (hc:=fun _=>Calm.move rfl) (h:=?_)
     first|refine k_d ?_|refine dG (hc:=fun _=>Calm.indexS Try.underlying24 ty_size_3 rfl rfl (by omega) (by omega)) (h:=?_)
     first|refine k_d ?_|refine dL (hc:=Calm.load ty_plain_3 rfl (rd_row (k:=pv) own_ rw_ rw_)) (h:=?_)
     refine draw_only rfl ?_
     refine ARun.callG 2 true 75 rfl (lit_lt rfl) rfl (lit_lt rfl) go_152 rfl (soI_less _ _ _) ?_
     rintro _ _ ⟨rfl,rfl⟩
     refine arun_nil ⟨fun _=>less_,?_⟩
     first|refine k_d ?_|refine dG (hc:=fun _=>Calm.un rfl (una_not _)) (h:=?_)
     refine dP (hc:=fun _=>(by first | exact Calm.pickT rfl rfl | exact Calm.pickF rfl rfl)) (h:=?_)
     refine draw_nil ?_
     refine ⟨(!Go.Sort.ltInt d3[a1-1]! d3[pv]!),?_,?_,?_⟩
     all_goals (try dsimp only)
     ·rw [decide_eq_true h0];rfl
     ·exact ⟨sb_,sb_,sb_,sb_,sb_,sb_,sb_,sb_,sb_,trivial⟩
     ·exact Mem.Less.refl _
    ·refine AWP.draw [(0,true),(1,true),(2,true),(3,true),(4,true),(5,true),(6,true),(7,true),(8,true),(9,true),(10,true),(11,true),(12,false),(13,true),(14,true)] [] mixed (by kernel_rfl) ?_
     refine dP (hc:=fun _=>Calm.move rfl) (h:=?_)
     refine dP (hc:=fun _=>Calm.bin rfl rfl b_gtr) (h:=?_)
     refine dP (hc:=fun _=>Calm.move rfl) (h:=?_)
     first|refine k_d ?_|refine dG (hc:=fun _=>Calm.move rfl) (h:=?_)
     first|refine k_d ?_|refine dG (hc:=fun _=>Calm.move rfl) (h:=?_)
     first|refine k_d ?_|refine dG (hc:=fun _=>Calm.bin rfl rfl b_sub_i64) (h:=?_)
     first|refine k_d ?_|refine dG (hc:=fun _=>Calm.indexS Try.underlying24 ty_size_3 rfl rfl (by omega) (by omega)) (h:=?_)
     first|refine k_d ?_|refine dL (hc:=Calm.load ty_plain_3 rfl (rd_row (k:=a1-1) own_ rw_ rw_)) (h:=?_)
     first|refine k_d ?_|refine dG (hc:=fun _=>Calm.move rfl) (h:=?_)
     first|refine k_d ?_|refine dG (hc:=fun _=>Calm.move rfl) (h:=?_)
     first|refine k_d ?_|refine dG (hc:=fun _=>Calm.indexS Try.underlying24 ty_size_3 rfl rfl (by omega) (by omega)) (h:=?_)
     first|refine k_d ?_|refine dL (hc:=Calm.load ty_plain_3 rfl (rd_row (k:=pv) own_ rw_ rw_)) (h:=?_)
     refine draw_only rfl ?_
     first | refine rS 75 ?_ | refine rU 75 ?_
     refine arun_nil ⟨fun _=>less_,?_⟩
     first|refine k_d ?_|refine dG (hc:=fun _=>Calm.un rfl (una_not _)) (h:=?_)
     refine dP (hc:=fun _=>(by first | exact Calm.pickT rfl rfl | exact Calm.pickF rfl rfl)) (h:=?_)
     refine draw_nil ?_
     refine ⟨false,?_,?_,?_⟩
     all_goals (try dsimp only)
     ·rw [decide_eq_false h0];rfl
     ·exact ⟨sb_,sb_,sb_,sb_,sb_,sb_,sb_,sb_,sb_,trivial⟩
     ·exact Mem.Less.refl _
   rintro x hx
   intro _ _ hs_ hl_
   (try dsimp only at *)
   refine athen_n ?_
   refine AWP.sub _ hs_ (AWP.less _ hl_ ?_)
   clear hs_ hl_
   rw [pdq3,← hx] at hq
   cases x
   ·refine k_F rfl ?_
    obtain ⟨⟨md,ap,d4⟩,hp4⟩ : ∃ q,q=partition Go.Sort.ltInt d3 a1 e1 pv:=⟨_,rfl⟩
    rw [if_neg Bool.false_ne_true,← hp4] at hq
    dsimp only at hq
    refine k_k (k_a (k_m rfl (k_m rfl (k_m rfl ?_))))
    refine k_m rfl ?_
    refine ARun.call (lit_lt rfl) go_154 rfl ((hp4 ▸ soI_part b room n cap hb hn d3 R3 _ _ _ a1 e1 pv rfl rfl rfl (by omega) (by omega) (by omega))) ?_
    rintro _ _ ⟨rfl,rfl,R4,g3,g4⟩
    dsimp only at R4 g3 g4
    rw [if_pos ⟨g3,g4⟩] at hq
    refine k_m rfl ?_
    refine rC (Calm.extract rfl rfl) ?_
    refine rC (Calm.extract rfl rfl) ?_
    refine k_s rfl (k_e rfl ?_)
    refine k_u [(0,_),(1,_),(2,_),(3,_),(8,_),(9,_),(10,_),(11,_),(87,_),(14,_),(15,_)] ?_
    by_cases hmd:md-a1<e1-md
    ·rw [if_pos hmd] at hq
     refine k_a (k_m rfl (k_e rfl ?_))
     refine k_u [(0,_),(1,_),(2,_),(3,_),(8,_),(9,_),(10,_),(11,_),(87,_),(14,_),(15,_)] ?_
     refine k_a (k_m rfl (k_m rfl ?_))
     refine rC (Calm.bin rfl rfl b_sub_i64) ?_
     refine k_m rfl (k_m rfl ?_)
     refine rC (Calm.bin rfl rfl b_sub_i64) ?_
     refine k_s rfl (k_e rfl ?_)
     refine k_u [(0,_),(1,_),(2,_),(3,_),(8,_),(9,_),(10,_),(11,_),(87,_),(14,_),(15,_),(16,_),(17,_)] ?_
     refine k_a (k_m rfl ?_)
     refine rC (Calm.bin rfl rfl b_quo_i64) ?_
     refine k_e rfl ?_
     refine k_u [(0,_),(1,_),(2,_),(3,_),(8,_),(9,_),(10,_),(11,_),(87,_),(14,_),(15,_),(16,_),(17,_),(18,_)] ?_
     refine k_a (k_m rfl (k_m rfl ?_))
     refine rC (Calm.bin rfl rfl b_lss) ?_
     refine k_n ?_
     refine k_u [(0,_),(1,_),(2,_),(3,_),(8,_),(9,_),(10,_),(11,_),(87,_),(14,_),(15,_),(16,_),(17,_),(18,_),(113,_)] ?_
     refine k_T rfl ?_
     refine k_a (k_m rfl (k_m rfl ?_))
     refine rC (Calm.bin rfl rfl b_geq) ?_
     refine k_e rfl ?_
     refine k_u [(0,_),(1,_),(2,_),(3,_),(8,_),(9,_),(10,_),(11,_),(87,_),(14,_),(15,_),(16,_),(17,_),(18,_),(113,_)] ?_
     refine k_a (k_m rfl (k_m rfl (k_m rfl (k_m rfl ?_))))
     refine ARun.call (lit_lt rfl) go_121 rfl (ih (md-a1) (by omega) d4 R4 _ _ _ a1 md l2 rfl rfl rfl (by omega) (by omega) (by omega) rfl) ?_
     rintro _ _ ⟨rfl,R5⟩
     refine k_n ?_
     refine k_u [(0,_),(1,_),(2,_),(3,_),(8,_),(9,_),(10,_),(11,_),(87,_),(14,_),(15,_),(16,_),(17,_),(18,_),(113,_)] ?_
     refine AWP.region ?_
     refine k_m rfl ?_
     refine rC (Calm.bin rfl rfl b_add_i64) ?_
     refine k_s rfl ?_
     refine arun_nil ?_
     refine ain_n ?_
     refine athen_n ?_
     refine ⟨(md+1,e1,l2,decide (md-a1 ≥ (e1-a1) / 8),ap,pdq Go.Sort.ltInt d4 a1 md l2 true true),?_,?_,?_,?_⟩
     all_goals (try dsimp only)
     ·exact ⟨sb_,sb_,sb_,sb_,wbv_ (by omega),sb_,trivial⟩
     ·exact Mem.Less.refl _
     ·exact ⟨by omega,by omega,R5,by omega,by omega,hq⟩
     ·omega
    ·rw [if_neg hmd] at hq
     refine k_a (k_m rfl (k_e rfl ?_))
     refine k_u [(0,_),(1,_),(2,_),(3,_),(8,_),(9,_),(10,_),(11,_),(87,_),(14,_),(15,_)] ?_
     refine k_a (k_m rfl (k_m rfl ?_))
     refine rC (Calm.bin rfl rfl b_sub_i64) ?_
     refine k_m rfl (k_m rfl ?_)
     refine rC (Calm.bin rfl rfl b_sub_i64) ?_
     refine k_s rfl (k_e rfl ?_)
     refine k_u [(0,_),(1,_),(2,_),(3,_),(8,_),(9,_),(10,_),(11,_),(87,_),(14,_),(15,_),(16,_),(17,_)] ?_
     refine k_a (k_m rfl ?_)
     refine rC (Calm.bin rfl rfl b_quo_i64) ?_
     refine k_e rfl ?_
     refine k_u [(0,_),(1,_),(2,_),(3,_),(8,_),(9,_),(10,_),(11,_),(87,_),(14,_),(15,_),(16,_),(17,_),(18,_)] ?_
     refine k_a (k_m rfl (k_m rfl ?_))
     refine rC (Calm.bin rfl rfl b_lss) ?_
     refine k_n ?_
     refine k_u [(0,_),(1,_),(2,_),(3,_),(8,_),(9,_),(10,_),(11,_),(87,_),(14,_),(15,_),(16,_),(17,_),(18,_),(113,_)] ?_
     refine k_F rfl ?_
     refine k_a (k_m rfl (k_m rfl ?_))
     refine rC (Calm.bin rfl rfl b_geq) ?_
     refine k_e rfl ?_
     refine k_u [(0,_),(1,_),(2,_),(3,_),(8,_),(9,_),(10,_),(11,_),(87,_),(14,_),(15,_),(16,_),(17,_),(18,_),(113,_)] ?_
     refine k_a (k_m rfl (k_m rfl ?_))
     refine rC (Calm.bin rfl rfl b_add_i64) ?_
     refine k_m rfl (k_m rfl ?_)
     refine ARun.call (lit_lt rfl) go_121 rfl (ih (e1-(md+1)) (by omega) d4 R4 _ _ _ (md+1) e1 l2 om_ rfl rfl (by omega) (by omega) (by omega) rfl) ?_
     rintro _ _ ⟨rfl,R5⟩
     refine k_n ?_
     refine k_u [(0,_),(1,_),(2,_),(3,_),(8,_),(9,_),(10,_),(11,_),(87,_),(14,_),(15,_),(16,_),(17,_),(18,_),(113,_)] ?_
     refine AWP.region ?_
     refine k_m rfl (k_s rfl ?_)
     refine arun_nil ?_
     refine ain_n ?_
     refine athen_n ?_
     refine ⟨(a1,md,l2,decide (e1-md ≥ (e1-a1) / 8),ap,pdq Go.Sort.ltInt d4 (md+1) e1 l2 true true),?_,?_,?_,?_⟩
     all_goals (try dsimp only)
     ·exact ⟨sb_,sb_,sb_,sb_,wbv_ (by omega),sb_,trivial⟩
     ·exact Mem.Less.refl _
     ·exact ⟨by omega,by omega,R5,by omega,by omega,hq⟩
     ·omega
   ·refine k_T rfl ?_
    obtain ⟨⟨md,d4⟩,hp4⟩ : ∃ q,q=partitionEqual Go.Sort.ltInt d3 a1 e1 pv:=⟨_,rfl⟩
    rw [if_pos rfl,← hp4] at hq
    dsimp only at hq
    refine k_a (k_m rfl (k_m rfl (k_m rfl (k_m rfl ?_))))
    refine ARun.call (lit_lt rfl) go_153 rfl ((hp4 ▸ soI_parteq b room n cap hb hn d3 R3 _ _ _ a1 e1 pv rfl rfl rfl (by omega) (by omega) (by omega))) ?_
    rintro _ _ ⟨rfl,rfl,R4,g3,g4⟩
    dsimp only at R4 g3 g4
    rw [if_pos ⟨g3,g4⟩] at hq
    refine k_e rfl ?_
    refine k_u [(0,_),(1,_),(2,_),(3,_),(8,_),(9,_),(10,_),(11,_),(87,_),(13,_)] ?_
    refine k_a (k_m rfl (k_e rfl ?_))
    refine k_u [(0,_),(1,_),(2,_),(3,_),(8,_),(9,_),(10,_),(11,_),(87,_),(13,_)] ?_
    refine AWP.exit ?_
    refine athen_exit ?_
    refine ain_same ?_
    refine athen_n ?_
    refine ⟨(md,e1,l2,w1,w2,d4),?_,?_,?_,?_⟩
    all_goals (try dsimp only)
    ·exact ⟨sb_,sb_,sb_,sb_,sb_,sb_,trivial⟩
    ·exact Mem.Less.refl _
    ·exact ⟨by omega,by omega,R4,by omega,by omega,hq⟩
    ·omega
set_option maxHeartbeats 1000000 in
theorem soI_sort {S : Mem} (b room n cap : Nat) (hb : Fresh S b) (hn : n ≤ 1048576) (d : Array Int) (R : Rw (fun _ => True) n d) :
  ACall Try.prog 85 #[.slice (some ⟨b,0,none⟩) n cap] (S.set b ⟨3,(d).toList.map encI,room⟩) fun r S'=>S'=S.set b ⟨3,(pdq Go.Sort.ltInt d 0 n (bitsLen n) true true).toList.map encI,room⟩∧Rw (fun _=>True) n (pdq Go.Sort.ltInt d 0 n (bitsLen n) true true):=by
 have hbl:=bitsLen_small n hn
 refine ACall.enter (rs:=[]) 11 [(0,.slice (some ⟨b,0,none⟩) n cap)] Try.func85 rfl rfl (Nat.le_of_ble_eq_true rfl) rfl ⟨rfl,trivial⟩ ?_
 refine k_a (k_m rfl ?_)
 refine rC (Calm.lenSl Try.underlying24 rfl) ?_
 refine k_e rfl ?_
 refine k_u [(0,_),(2,_)] ?_
 refine AWP.region ?_
 refine k_m rfl (k_m rfl (k_m rfl ?_))
 refine rC (Calm.conv rfl (by first | exact conv_intW Try.underlying3 Try.underlying139 (IntWalk.u64_in _ (by omega)) | exact conv_int Try.underlying3 Try.underlying139)) ?_
 refine ARun.call (lit_lt rfl) go_122 rfl (so_Len n (by omega) _) ?_
 rintro _ _ ⟨rfl,rfl⟩
 refine ARun.call (lit_lt rfl) go_121 rfl (soI_pdq b room n cap hb hn (n-0) d R _ _ _ 0 n (bitsLen n) rfl rfl rfl (Nat.zero_le _) (Nat.le_refl _) (by omega) rfl) ?_
 rintro _ _ ⟨rfl,R1⟩
 refine arun_nil ?_
 refine ⟨_,_,rfl,Mem.Less.refl _,?_⟩
 exact ⟨rfl,R1⟩
theorem soI_ins0 (S : Mem) : ACall Try.prog 146 #[.slice none 0 0, .int .i64 0, .int .i64 0] S fun r S' => S' = S := by
 refine ACall.enter (rs:=[]) 49 [(0,.slice none 0 0),(1,.int .i64 0),(2,.int .i64 0)] Try.func146 rfl rfl (Nat.le_of_ble_eq_true rfl) rfl ⟨rfl,rfl,rfl,trivial⟩ ?_
 refine k_a (k_m rfl ?_)
 refine rC (Calm.bin rfl rfl b_add_i64) ?_
 refine k_e rfl ?_
 refine k_u [(0,_),(1,_),(2,_),(6,_)] ?_
 refine AWP.block ?_
 refine AWP.loop (X:=Unit) (fun _=>[(0,.slice none 0 0),(2,.int .i64 0),(6,.int .i64 1)]) (fun _=>S) (fun _=>True) (fun _=>0) (()) ⟨sb_,sb_,sb_,trivial⟩ (Mem.Less.refl _) (trivial) ?_
 rintro _ _
 (try dsimp only at *)
 refine AWP.seq (k_a (k_m rfl (k_m rfl ?_)))
 refine rC (Calm.bin rfl rfl b_lss) ?_
 refine k_n ?_
 refine k_u [(0,_),(2,_),(6,_),(12,_)] ?_
 refine k_F rfl ?_
 refine AWP.exit ?_
 refine athen_exit ?_
 refine athen_exit ?_
 refine ain_same ?_
 refine ⟨_,S,rfl,Mem.Less.refl _,?_⟩
 exact rfl
theorem soI_pdq0 (S : Mem) : ACall Try.prog 121 #[.slice none 0 0, .int .i64 0, .int .i64 0, .int .i64 0] S fun r S' => S' = S := by
 refine ACall.enter (rs:=[]) 134 [(0,.slice none 0 0),(1,.int .i64 0),(2,.int .i64 0),(3,.int .i64 0)] Try.func121 rfl rfl (Nat.le_of_ble_eq_true rfl) rfl ⟨rfl,rfl,rfl,rfl,trivial⟩ ?_
 refine k_a (k_e rfl (k_a (k_e rfl ?_)))
 refine AWP.block ?_
 refine AWP.loop (X:=Unit) (fun _=>[(0,.slice none 0 0),(1,.int .i64 0),(2,.int .i64 0)]) (fun _=>S) (fun _=>True) (fun _=>0) (()) ⟨rfl,rfl,rfl,trivial⟩ (Mem.Less.refl _) (trivial) ?_
 rintro _ _
 (try dsimp only at *)
 refine AWP.block ?_
 refine k_a (k_m rfl (k_m rfl ?_))
 refine rC (Calm.bin rfl rfl b_sub_i64) ?_
 refine k_e rfl ?_
 refine k_u [(0,_),(1,_),(2,_),(10,_)] ?_
 refine AWP.seq (k_a (k_m rfl ?_))
 refine rC (Calm.bin rfl rfl b_leq) ?_
 refine k_n ?_
 refine k_u [(0,_),(1,_),(2,_),(10,_),(23,_)] ?_
 refine k_T rfl ?_
 refine k_a (k_m rfl (k_m rfl (k_m rfl ?_)))
 refine ARun.call (lit_lt rfl) go_146 rfl (soI_ins0 S) ?_
 rintro _ S1 h1
 rw [h1];clear h1 S1
 refine k_n ?_
 refine k_u [(0,_),(1,_),(2,_),(10,_),(23,_)] ?_
 refine k_r ?_
 refine ain_ret ?_
 refine athen_ret ?_
 refine ain_ret ?_
 refine ⟨_,S,rfl,Mem.Less.refl _,?_⟩
 exact rfl
theorem soI_sort0 (S : Mem) : ACall Try.prog 85 #[.slice none 0 0] S fun r S' => S' = S := by
 refine ACall.enter (rs:=[]) 11 [(0,.slice none 0 0)] Try.func85 rfl rfl (Nat.le_of_ble_eq_true rfl) rfl ⟨rfl,trivial⟩ ?_
 refine k_a (k_m rfl ?_)
 refine rC (Calm.lenSl Try.underlying24 rfl) ?_
 refine k_e rfl ?_
 refine k_u [(0,_),(2,_)] ?_
 refine AWP.region ?_
 refine k_m rfl (k_m rfl (k_m rfl ?_))
 refine rC (Calm.conv rfl (by first | exact conv_intW Try.underlying3 Try.underlying139 (IntWalk.u64_in _ (by omega)) | exact conv_int Try.underlying3 Try.underlying139)) ?_
 refine ARun.call (lit_lt rfl) go_122 rfl (so_Len 0 (by omega) _) ?_
 rintro _ S1 ⟨rfl,h1⟩
 rw [h1];clear h1 S1
 refine ARun.call (lit_lt rfl) go_121 rfl (soI_pdq0 S) ?_
 rintro _ S1 h1
 rw [h1];clear h1 S1
 refine arun_nil ?_
 refine ⟨_,S,rfl,Mem.Less.refl _,?_⟩
 exact rfl
end Go.Proofs.Ytgidjbpgkeemiaa
namespace Go.Proofs.Ytgidjbpgkeemiaa
open Go.RowKit Go.Shelf
open Mv Num Loser Srt
set_option maxRecDepth 8000
theorem sorted_int (l : List Int) (n : Nat) (hl : l.length = n) (d' : Array Int) (hd : d' = Go.Sort.pdq Go.Sort.ltInt l.toArray 0 n (Go.Sort.bitsLen n) true true) :
  d'.toList.Perm l∧d'.toList.Pairwise (· ≤ ·):=by
 have hO:Go.Sort.SWO Go.Sort.ltInt:=by
  unfold Go.Sort.ltInt
  exact ⟨fun a=>by simp,fun a b c h1 h2=>by simp at *;omega,fun a b c h1 h2=>by simp at *;omega⟩
 subst hl
 obtain ⟨p1,p2⟩:=Go.Sort.pdq_sorts _ hO l.toArray 0 l.length (Go.Sort.bitsLen l.length) true true (Nat.zero_le _) (by simp) (Or.inl rfl)
 rw [← hd] at p1 p2
 have hs:d'.size=l.length:=by rw [p1.1];simp
 refine ⟨?_,List.pairwise_iff_getElem.2 fun i j hi hj hij=>?_⟩
 ·have:=p1.2.2
  rw [show d'.extract 0 l.length=d' by rw [← hs];simp,show l.toArray.extract 0 l.length=l.toArray by simp] at this
  simpa using this
 ·have hj':j<l.length:=by simpa [hs] using hj
  have:=p2 i j (Nat.zero_le _) hij hj'
  unfold Go.Sort.ltInt at this
  rw [getElem!_pos d' j (by omega),getElem!_pos d' i (by omega)] at this
  simp at this
  simpa using this
theorem sorted_places {d' : Array Int} {l F : List Nat} {n : Nat} (hl : l.length = n) (hd : d' = Go.Sort.pdq Go.Sort.ltInt (castL l).toArray 0 n (Go.Sort.bitsLen n) true true) (hp : l.Perm F) (hF : F.Pairwise (· < ·)) : d'.toList = castL F := by
 obtain ⟨h1,h2⟩:=sorted_int (castL l) n (by unfold castL;rw [List.length_map];exact hl) d' hd
 have h3:d'.toList.Perm (castL F):=h1.trans (hp.map _)
 have h4:(castL F).Pairwise (· ≤ ·):=by
  unfold castL
  exact List.pairwise_map.2 (hF.imp fun h=>by omega)
 exact h3.eq_of_pairwise (fun a b _ _ h1 h2=>Int.le_antisymm h1 h2) h2 h4
noncomputable def locP (x : Ix) (what : ByteArray) : List Nat × Nat := if chkX x = 0 then (Fd.plcs (numsT (txtX x)) (numsT what), 0) else ([], 2)
theorem fre_step (f : Nat → Nat) (i : Nat) : ((List.range i).map f).map gI ++ [gI (f i)] = ((List.range (i + 1)).map f).map gI := by rw [List.range_succ, List.map_append, List.map_append]; rfl
set_option maxHeartbeats 4000000 in
theorem fd_Locate (x : Ix) (what : ByteArray) (cx : List Value) (S : Mem) (hx : IxV S cx x) (hw : what.size ≤ 140737488355328) :
  ACall Try.prog 42 #[.agg cx.toArray,.string what] S fun r S'=>∃ v,r = .tuple #[v,.int .i64 ((locP x what).2:Nat)]∧S.Less S'∧IntsV S' v (castL (locP x what).1):=by
 have hx0:=hx
 obtain ⟨p1,c1,n2,p2,c2,p3,c3,p4,c4,rfl,h1,h2,h3,h4⟩:=hx.parts
 unfold locP
 by_cases h0:chkX x=0
 ·obtain ⟨p,t,ho,hp⟩:=chk_ok h0
  rw [if_pos h0,ho.tx hp]
  obtain ⟨T,hT⟩ : ∃ T,T=numsT t:=⟨_,rfl⟩
  have hTl:T.length=x.col.size:=by rw [hT,numsT_length,ho.size]
  have hs:=ho.small
  obtain ⟨W,hW⟩ : ∃ W,W=numsT what:=⟨_,rfl⟩
  obtain ⟨F,hF⟩ : ∃ F,F=Fd.fromP T W:=⟨_,rfl⟩
  obtain ⟨O,hO⟩ : ∃ O,O=Fd.toP T W:=⟨_,rfl⟩
  have hFO:F≤O:=by have:=Fd.to_from T W;omega
  have hOl:O≤x.col.size+1:=by have:=Fd.to_le T W;omega
  have hpl:=Fd.places T W
  have hup:=Fd.plcs_up T W
  rw [← hO,← hF] at hpl
  rw [← hT,← hW]
  have hfb:∀ r,Fd.fre T r≤4096:=fun r=>by have:=Fd.fre_le T r;omega
  refine ACall.enter (rs:=[.tmp 4,.tmp 5]) 41 [(0,.agg #[.string x.col,.int .i64 x.pri,.slice p1 x.fir.length c1,.slice p2 n2 c2,.string x.bits,.int .i64 x.n,.slice p3 x.cnts.length c3,.slice p4 x.plcs.length c4]),(1,.string what)] Try.func42 rfl rfl (Nat.le_of_ble_eq_true rfl) rfl ⟨rfl,rfl,trivial⟩ ?_
  refine k_a ?_
  refine ARun.boxA (cs:=[_,_,_,_,_,_,_,_]) (lit_lt rfl) rfl ?_
  intro b2 f2
  have g2:=f2
  repeat ((with_reducible replace g2:=fresh_set g2);obtain ⟨g2,_⟩:=g2)
  try simp only [k_l1,k_l0,k_za,Nat.reduceAdd]
  refine k_s rfl (k_e rfl (k_a ?_))
  refine rC (ldA_ (cs:=[_,_,_,_,_,_,_,_]) ty_agg_48 ty_size_48 rfl) ?_
  refine ARun.call (lit_lt rfl) go_80 rfl (fd_open_ok x p t _ _ (hx0.less less_) ho hp) ?_
  rintro _ S1 ⟨b,rfl,hS1,hB⟩
  refine k_m rfl ?_
  refine rC (Calm.extract rfl rfl) ?_
  refine rC (Calm.extract rfl rfl) ?_
  refine k_s rfl (k_e rfl ?_)
  refine k_u [(0,_),(1,_),(2,_),(4,_),(5,_),(6,_),(7,_)] ?_
  refine AWP.seq (k_a (k_m rfl ?_))
  refine rC (Calm.bin rfl rfl b_neq) ?_
  refine k_n ?_
  refine k_u [(0,_),(1,_),(2,_),(4,_),(5,_),(6,_),(7,_),(18,_)] ?_
  refine k_F rfl ?_
  refine k_k (k_a (k_e rfl (k_a (k_m rfl ?_))))
  refine k_m rfl ?_
  refine ARun.call (lit_lt rfl) go_81 rfl (fd_within b x p t what _ hB hw) ?_
  rintro _ S2 ⟨rfl,q⟩
  rw [q,← hT,← hW,← hF,← hO];clear q S2
  have hSS:S.Less S1:=Mem.Less.trans less_ hS1
  clear hS1
  refine k_m rfl ?_
  refine rC (Calm.extract rfl rfl) ?_
  refine rC (Calm.extract rfl rfl) ?_
  refine k_s rfl (k_e rfl ?_)
  refine k_u [(0,_),(1,_),(2,_),(4,_),(5,_),(6,_),(7,_),(18,_),(8,_),(9,_),(10,_)] ?_
  refine AWP.seq (k_a (k_m rfl (k_e rfl ?_)))
  refine k_u [(0,_),(1,_),(2,_),(4,_),(5,_),(6,_),(7,_),(18,_),(8,_),(9,_),(10,_),(11,_)] ?_
  refine AWP.block ?_
  refine AWP.loop (X:=Nat × Option (Nat × Nat)) (fun y=>[(6,.pointer (some ⟨b,0,none⟩)),(8,outV y.2 y.1),(10,.int .i64 (O:Nat)),(11,.int .i64 ((F+y.1:Nat):Int))]) (fun y=>outM S1 y.2 3 (((List.range y.1).map (fun i=>Fd.fre T (F+i))).map gI)) (fun y=>y.1≤O-F∧OkO S1 y.2 y.1) (fun y=>O-F-y.1) ((0,none)) ⟨rfl,rfl,rfl,rfl,trivial⟩ (Mem.Less.refl _) (⟨Nat.zero_le _,okO_nil _⟩) ?_
  rintro ⟨i,o⟩ ⟨hi,hok⟩
  (try dsimp only at *)
  have hll:(((List.range i).map (fun i=>Fd.fre T (F+i))).map gI).length=i:=by simp
  by_cases hil:i<O-F
  ·refine AWP.seq (k_a (k_m rfl (k_m rfl ?_)))
   refine rC (Calm.bin rfl rfl b_lss) ?_
   refine k_n ?_
   refine k_u [(6,_),(8,_),(10,_),(11,_),(29,_)] ?_
   refine k_T rfl ?_
   have hpc:=fd_place b x p t (F+i) (outM S1 o 3 (((List.range i).map (fun i=>Fd.fre T (F+i))).map gI)) (hB.less (outM_over hok)) (by omega)
   rw [← hT] at hpc
   refine k_k (AWP.seq ?_)
   refine AWP.block ?_
   refine AWP.region ?_
   refine k_m rfl (k_m rfl (k_m rfl ?_))
   refine ARun.call (lit_lt rfl) go_84 rfl (hpc) ?_
   rintro _ S9 ⟨rfl,e9⟩
   rw [e9];clear e9 S9
   refine ARun.build1s (lit_lt rfl) ty_sl_24 rfl rfl ?_
   intro b36 f36
   have g36:=f36
   repeat ((with_reducible replace g36:=fresh_set g36);obtain ⟨g36,_⟩:=g36)
   refine ARun.appendO (lit_lt rfl) ty_sl_24 rfl hll (appO_of hok hll g36) rfl (news:=[_]) rds_ rfl (by omega) (by simp [Value.oneCell']) (by omega) (by omega) ?_
   intro b37 c37 ho3
   have ek:=fre_step (fun i=>Fd.fre T (F+i)) i
   refine k_s rfl ?_
   refine arun_nil ?_
   refine ain_n ?_
   refine athen_n ?_
   refine k_u [(6,_),(8,_),(10,_),(11,_),(29,_)] ?_
   refine AWP.region ?_
   refine k_m rfl ?_
   refine rC (Calm.bin rfl rfl b_add_i64) ?_
   refine k_e rfl ?_
   refine ⟨(i+1,some (b37,c37)),?_,?_,?_,?_⟩
   all_goals (try dsimp only)
   ·exact ⟨rfl,rfl,rfl,rfl,trivial⟩
   ·rw [← ek];exact Mem.Less.refl _
   ·exact ⟨hil,ho3⟩
   ·omega
  ·obtain rfl:i=O-F:=by omega
   refine AWP.seq (k_a (k_m rfl (k_m rfl ?_)))
   refine rC (Calm.bin rfl rfl b_lss) ?_
   refine k_n ?_
   refine k_u [(6,_),(8,_),(10,_),(11,_),(29,_)] ?_
   refine k_F rfl ?_
   obtain ⟨l,hl⟩ : ∃ l,l=(List.range (O-F)).map (fun i=>Fd.fre T (F+i)):=⟨_,rfl⟩
   have hln:l.length=O-F:=by rw [hl];simp
   rw [← hl] at hpl ⊢
   rcases o with _ | ⟨b8,c8⟩
   ·have hz:=hok.nil rfl
    have hle:l = []:=List.eq_nil_of_length_eq_zero (by omega)
    have hpe:Fd.plcs T W = []:=List.eq_nil_of_length_eq_zero (by rw [← hpl.length_eq];omega)
    refine AWP.exit ?_
    refine athen_exit ?_
    refine athen_exit ?_
    refine ain_same ?_
    refine athen_n ?_
    refine k_a (k_m rfl ?_)
    refine ARun.call (lit_lt rfl) go_85 rfl (soI_sort0 _) ?_
    rintro _ _ q9
    rw [q9]
    refine k_n ?_
    refine k_u [(6,_),(8,_),(10,_),(11,_),(29,_)] ?_
    refine k_a (k_m rfl (k_s rfl (k_e rfl ?_)))
    refine k_u [(6,_),(8,_),(10,_),(11,_),(29,_),(4,_),(5,_)] ?_
    refine AWP.ret ?_
    refine ⟨_,S1,⟨_,_,rfl,⟨_,_,rfl,rfl,rfl⟩,rfl⟩,Mem.Less.refl _,?_⟩
    exact ⟨_,rfl,hSS,by rw [hpe];exact Sl.nil _ _ _⟩
   ·obtain ⟨fb,hbc⟩:=hok.own b8 c8 rfl
    have hen:l.map gI=(castL l).toArray.toList.map encI:=by unfold castL;rw [List.toList_toArray,List.map_map];rfl
    rw [hen]
    have hR:Rw (fun _=>True) (O-F) (castL l).toArray:=⟨by unfold castL;simp [hln],fun _ _=>trivial⟩
    have hsort:=soI_sort (S:=S1) b8 c8 (O-F) c8 fb (by omega) (castL l).toArray hR
    obtain ⟨d',hd'⟩ : ∃ d',d'=Go.Sort.pdq Go.Sort.ltInt (castL l).toArray 0 (O-F) (Go.Sort.bitsLen (O-F)) true true:=⟨_,rfl⟩
    have hsd:=sorted_places hln hd' hpl hup
    rw [← hd',hsd] at hsort
    have hpn:(castL (Fd.plcs T W)).length=O-F:=by unfold castL;rw [List.length_map,← hpl.length_eq,hln]
    clear hd' hR hsd
    refine AWP.exit ?_
    refine athen_exit ?_
    refine athen_exit ?_
    refine ain_same ?_
    refine athen_n ?_
    refine k_a (k_m rfl ?_)
    refine ARun.call (lit_lt rfl) go_85 rfl (hsort) ?_
    rintro _ _ ⟨rfl,_⟩
    refine k_n ?_
    refine k_u [(6,_),(8,_),(10,_),(11,_),(29,_)] ?_
    refine k_a (k_m rfl (k_s rfl (k_e rfl ?_)))
    refine k_u [(6,_),(8,_),(10,_),(11,_),(29,_),(4,_),(5,_)] ?_
    refine AWP.ret ?_
    refine ⟨_,_,⟨_,_,rfl,⟨_,_,rfl,rfl,rfl⟩,rfl⟩,Mem.Less.refl _,?_⟩
    exact ⟨_,rfl,hSS.trans (Mem.less_set _ _ _ fb.1),Sl.own1 (g:=encI) (l:=castL (Fd.plcs T W)) (Mem.own_set_same _ _ _) List.prefix_rfl hpn hbc (by omega)⟩
 ·rw [if_neg h0]
  refine ACall.enter (rs:=[.tmp 4,.tmp 5]) 41 [(0,.agg #[.string x.col,.int .i64 x.pri,.slice p1 x.fir.length c1,.slice p2 n2 c2,.string x.bits,.int .i64 x.n,.slice p3 x.cnts.length c3,.slice p4 x.plcs.length c4]),(1,.string what)] Try.func42 rfl rfl (Nat.le_of_ble_eq_true rfl) rfl ⟨rfl,rfl,trivial⟩ ?_
  refine k_a ?_
  refine ARun.boxA (cs:=[_,_,_,_,_,_,_,_]) (lit_lt rfl) rfl ?_
  intro b2 f2
  have g2:=f2
  repeat ((with_reducible replace g2:=fresh_set g2);obtain ⟨g2,_⟩:=g2)
  try simp only [k_l1,k_l0,k_za,Nat.reduceAdd]
  refine k_s rfl (k_e rfl (k_a ?_))
  refine rC (ldA_ (cs:=[_,_,_,_,_,_,_,_]) ty_agg_48 ty_size_48 rfl) ?_
  refine ARun.call (lit_lt rfl) go_80 rfl (fd_open_no x _ _ (hx0.less less_) h0) ?_
  rintro _ S1 ⟨rfl,q⟩
  rw [q];clear q S1
  refine k_m rfl ?_
  refine rC (Calm.extract rfl rfl) ?_
  refine rC (Calm.extract rfl rfl) ?_
  refine k_s rfl (k_e rfl ?_)
  refine k_u [(0,_),(1,_),(2,_),(4,_),(5,_),(6,_),(7,_)] ?_
  refine AWP.seq (k_a (k_m rfl ?_))
  refine rC (Calm.bin rfl rfl b_neq) ?_
  refine k_n ?_
  refine k_u [(0,_),(1,_),(2,_),(4,_),(5,_),(6,_),(7,_),(18,_)] ?_
  refine k_T rfl ?_
  refine k_a (k_m rfl (k_s rfl (k_e rfl ?_)))
  refine k_u [(0,_),(1,_),(2,_),(4,_),(5,_),(6,_),(7,_),(18,_)] ?_
  refine k_r ?_
  refine ⟨_,S,⟨_,_,rfl,⟨_,_,rfl,rfl,rfl⟩,rfl⟩,less_,?_⟩
  exact ⟨_,rfl,Mem.Less.refl _,Sl.nil _ _ _⟩
end Go.Proofs.Ytgidjbpgkeemiaa
namespace Go.Proofs.Ytgidjbpgkeemiaa
open Go.RowKit Go.Shelf
open Mv Num Loser Srt
set_option maxRecDepth 8000
noncomputable def extP (x : Ix) (a n : Int) : ByteArray × Nat :=
  if chkX x ≠ 0 then (ByteArray.empty, 2) else if a < 0 ∨ n < 0 ∨ (x.col.size : Int) < a ∨ (x.col.size : Int) - a < n then (ByteArray.empty, 1) else ((txtX x).extract a.toNat (a + n).toNat, 0)
theorem told_ext {T ob : List Nat} {N k a m j y : Nat} (hj : j < m) (hl : ob.length = m) (h : ∀ i, i < m → N - k ≤ a + i → N - (k + 1) ≤ a + i → ob.getD i 0 = T.getD (a + i) 0) (hy : y = T.getD (a + j) 0) (hne : ∀ i, i < m → i ≠ j → N - (k + 1) ≤ a + i → N - k ≤ a + i) : ∀ i, i < m → N - (k + 1) ≤ a + i → (ob.set j y).getD i 0 = T.getD (a + i) 0 := fun i hi h2 => by
 by_cases e:i=j
 ·subst e
  rw [List.getD_eq_getElem?_getD,List.getElem?_set_self (by omega)];exact hy
 ·rw [List.getD_eq_getElem?_getD,List.getElem?_set_ne (Ne.symm e),← List.getD_eq_getElem?_getD]
  exact h i hi (hne i hi e h2) h2
theorem ext_ob {t : ByteArray} {ob : List Nat} {a m : Nat} (hl : ob.length = m) (hm : a + m ≤ t.size) (h : ∀ i, i < m → ob.getD i 0 = (numsT t).getD (a + i) 0) : bs (ofN ob) = t.extract a (a + m) := by
 have e:ob=((numsT t).drop a).take m:=List.ext_getElem (by rw [List.length_take,List.length_drop,numsT_length];omega) fun i h1 h2=>by
  have:=h i (by omega)
  rw [getD_get _ _ _ h1,getD_get _ _ _ (by rw [numsT_length];omega)] at this
  rw [this,List.getElem_take,List.getElem_drop]
 rw [e]
 apply str_ext
 rw [data_extract,bs_data,nums_map,← List.map_drop,← List.map_take]
 have e2:∀ l:List UInt8,ofN (l.map UInt8.toNat)=l:=fun l=>by
  unfold ofN;rw [List.map_map]
  exact (List.map_congr_left fun x _=>by simp).trans (List.map_id' l)
 rw [e2,List.drop_take,Nat.add_sub_cancel_left]
set_option maxHeartbeats 4000000 in
theorem fd_Extract (x : Ix) (aa nn : Int) (cx : List Value) (S : Mem) (hx : IxV S cx x) (ha64 : -9223372036854775808 ≤ aa ∧ aa < 9223372036854775808) (hn64 : -9223372036854775808 ≤ nn ∧ nn < 9223372036854775808) :
  ACall Try.prog 44 #[.agg cx.toArray,.int .i64 aa,.int .i64 nn] S fun r S'=>r = .tuple #[.string (extP x aa nn).1,.int .i64 ((extP x aa nn).2:Nat)]∧S'=S:=by
 have hx0:=hx
 obtain ⟨p1,c1,n2,p2,c2,p3,c3,p4,c4,rfl,h1,h2,h3,h4⟩:=hx.parts
 unfold extP
 by_cases h0:chkX x=0
 case neg =>
  rw [if_pos h0]
  refine ACall.enterR (args:=[.agg #[.string x.col,.int .i64 x.pri,.slice p1 x.fir.length c1,.slice p2 n2 c2,.string x.bits,.int .i64 x.n,.slice p3 x.cnts.length c3,.slice p4 x.plcs.length c4],.int .i64 aa,.int .i64 nn]) (rs:=[.tmp 6,.tmp 7]) 75 [(0,.agg #[.string x.col,.int .i64 x.pri,.slice p1 x.fir.length c1,.slice p2 n2 c2,.string x.bits,.int .i64 x.n,.slice p3 x.cnts.length c3,.slice p4 x.plcs.length c4]),(1,.int .i64 aa),(2,.int .i64 nn)] Try.func44 rfl rfl (Nat.le_of_ble_eq_true rfl) rfl ⟨rfl,rfl,rfl,trivial⟩ ?_
  refine AWPM.seqR (rs:=[.tmp 6,.tmp 7]) rfl ?_
  refine AWP.region ?_
  refine ARun.boxA (cs:=[_,_,_,_,_,_,_,_]) (lit_lt rfl) rfl ?_
  intro b3 f3
  have g3:=f3
  repeat ((with_reducible replace g3:=fresh_set g3);obtain ⟨g3,_⟩:=g3)
  try simp only [k_l1,k_l0,k_za,Nat.reduceAdd]
  refine ARun.box1 (lit_lt rfl) rfl rfl ?_
  intro b4 f4
  have g4:=f4
  repeat ((with_reducible replace g4:=fresh_set g4);obtain ⟨g4,_⟩:=g4)
  try simp only [k_l1,k_l0,k_za,Nat.reduceAdd]
  refine ARun.box1 (lit_lt rfl) rfl rfl ?_
  intro b5 f5
  have g5:=f5
  repeat ((with_reducible replace g5:=fresh_set g5);obtain ⟨g5,_⟩:=g5)
  try simp only [k_l1,k_l0,k_za,Nat.reduceAdd]
  refine k_s rfl (k_e rfl ?_)
  refine AWPM.seqR (rs:=[.tmp 6,.tmp 7]) rfl ?_
  refine AWP.region ?_
  refine rC (ldA_ (cs:=[_,_,_,_,_,_,_,_]) ty_agg_48 ty_size_48 rfl) ?_
  refine ARun.call (lit_lt rfl) go_80 rfl (fd_open_no x _ _ (hx0.less less_) h0) ?_
  rintro _ S1 ⟨rfl,q⟩
  rw [q];clear q S1
  refine k_m rfl ?_
  refine rC (Calm.extract rfl rfl) ?_
  refine rC (Calm.extract rfl rfl) ?_
  refine ARun.alloc (lit_lt rfl) ty_zero_85 ?_
  intro b8 f8
  have g8:=f8
  repeat ((with_reducible replace g8:=fresh_set g8);obtain ⟨g8,_⟩:=g8)
  try simp only [k_l1,k_l0,k_za,Nat.reduceAdd]
  refine ARun.store1 rfl rfl ty_size_85 rfl own_ lens_ rfl ?_
  try simp only [k_ms,k_sz,k_ss,k_za,Nat.reduceAdd]
  refine k_e rfl ?_
  refine AWPM.sub [(0,_),(1,_),(2,_),(3,_),(4,_),(5,_),(6,_),(7,_),(8,_),(9,_)] ⟨rfl,rfl,rfl,rfl,rfl,rfl,rfl,rfl,rfl,rfl,trivial⟩ ?_
  refine AWPM.seqR (rs:=[.tmp 6,.tmp 7]) rfl ?_
  refine k_a (k_m rfl ?_)
  refine rC (Calm.bin rfl rfl b_neq) ?_
  refine k_n ?_
  refine k_u [(0,_),(1,_),(2,_),(3,_),(4,_),(5,_),(6,_),(7,_),(8,_),(9,_),(19,_)] ?_
  refine k_T rfl ?_
  refine k_a (k_m rfl (k_s rfl (k_e rfl ?_)))
  refine k_u [(0,_),(1,_),(2,_),(3,_),(4,_),(5,_),(6,_),(7,_),(8,_),(9,_),(19,_)] ?_
  refine k_r ?_
  refine ⟨_,S,⟨_,_,rfl,⟨_,_,rfl,rfl,rfl⟩,rfl⟩,less_,?_⟩
  exact ⟨rfl,rfl⟩
 obtain ⟨p,t,ho,hp⟩:=chk_ok h0
 rw [if_neg (fun h=>h h0),ho.tx hp]
 have hs:=ho.small
 by_cases g1:aa<0
 ·rw [if_pos (.inl g1)]
  refine ACall.enterR (args:=[.agg #[.string x.col,.int .i64 x.pri,.slice p1 x.fir.length c1,.slice p2 n2 c2,.string x.bits,.int .i64 x.n,.slice p3 x.cnts.length c3,.slice p4 x.plcs.length c4],.int .i64 aa,.int .i64 nn]) (rs:=[.tmp 6,.tmp 7]) 75 [(0,.agg #[.string x.col,.int .i64 x.pri,.slice p1 x.fir.length c1,.slice p2 n2 c2,.string x.bits,.int .i64 x.n,.slice p3 x.cnts.length c3,.slice p4 x.plcs.length c4]),(1,.int .i64 aa),(2,.int .i64 nn)] Try.func44 rfl rfl (Nat.le_of_ble_eq_true rfl) rfl ⟨rfl,rfl,rfl,trivial⟩ ?_
  refine AWPM.seqR (rs:=[.tmp 6,.tmp 7]) rfl ?_
  refine AWP.region ?_
  refine ARun.boxA (cs:=[_,_,_,_,_,_,_,_]) (lit_lt rfl) rfl ?_
  intro b3 f3
  have g3:=f3
  repeat ((with_reducible replace g3:=fresh_set g3);obtain ⟨g3,_⟩:=g3)
  try simp only [k_l1,k_l0,k_za,Nat.reduceAdd]
  refine ARun.box1 (lit_lt rfl) rfl rfl ?_
  intro b4 f4
  have g4:=f4
  repeat ((with_reducible replace g4:=fresh_set g4);obtain ⟨g4,_⟩:=g4)
  try simp only [k_l1,k_l0,k_za,Nat.reduceAdd]
  refine ARun.box1 (lit_lt rfl) rfl rfl ?_
  intro b5 f5
  have g5:=f5
  repeat ((with_reducible replace g5:=fresh_set g5);obtain ⟨g5,_⟩:=g5)
  try simp only [k_l1,k_l0,k_za,Nat.reduceAdd]
  refine k_s rfl (k_e rfl ?_)
  refine AWPM.seqR (rs:=[.tmp 6,.tmp 7]) rfl ?_
  refine AWP.region ?_
  refine rC (ldA_ (cs:=[_,_,_,_,_,_,_,_]) ty_agg_48 ty_size_48 rfl) ?_
  refine ARun.call (lit_lt rfl) go_80 rfl (((((fd_open_ok x p t _ S hx0 ho hp).frame f3).frame f4).frame f5)) ?_
  rintro _ _ ⟨_,⟨_,⟨S1,⟨b,rfl,hS1,hB⟩,fa3,rfl⟩,fa4,rfl⟩,fa5,rfl⟩
  have k0:=hB.bk.col
  have ga4:=fa4
  repeat ((with_reducible replace ga4:=fresh_set ga4);obtain ⟨ga4,_⟩:=ga4)
  have ga5:=fa5
  repeat ((with_reducible replace ga5:=fresh_set ga5);obtain ⟨ga5,_⟩:=ga5)
  refine k_m rfl ?_
  refine rC (Calm.extract rfl rfl) ?_
  refine rC (Calm.extract rfl rfl) ?_
  refine ARun.alloc (lit_lt rfl) ty_zero_85 ?_
  intro b8 f8
  have g8:=f8
  repeat ((with_reducible replace g8:=fresh_set g8);obtain ⟨g8,_⟩:=g8)
  try simp only [k_l1,k_l0,k_za,Nat.reduceAdd]
  refine ARun.store1 rfl rfl ty_size_85 rfl own_ lens_ rfl ?_
  try simp only [k_ms,k_sz,k_ss,k_za,Nat.reduceAdd]
  refine k_e rfl ?_
  refine AWPM.sub [(0,_),(1,_),(2,_),(3,_),(4,_),(5,_),(6,_),(7,_),(8,_),(9,_)] ⟨rfl,rfl,rfl,rfl,rfl,rfl,rfl,rfl,rfl,rfl,trivial⟩ ?_
  refine AWPM.seqR (rs:=[.tmp 6,.tmp 7]) rfl ?_
  refine k_a (k_m rfl ?_)
  refine rC (Calm.bin rfl rfl b_neq) ?_
  refine k_n ?_
  refine k_u [(0,_),(1,_),(2,_),(3,_),(4,_),(5,_),(6,_),(7,_),(8,_),(9,_),(19,_)] ?_
  refine k_F rfl ?_
  refine k_k ?_
  refine AWPM.seqR (rs:=[.tmp 6,.tmp 7]) rfl ?_
  refine AWP.seq ?_
  refine AWP.draw [(0,true),(1,true),(2,true),(3,true),(4,true),(5,true),(6,true),(7,true),(8,true),(9,true),(10,true),(11,true),(12,true),(13,true),(14,true),(15,true),(16,true),(17,true),(18,true),(19,true),(20,true),(21,true),(22,true),(23,true),(24,true),(25,true),(26,true),(27,true)] [] mixed (by kernel_rfl) ?_
  refine dC (hc:=ld_ ty_plain_3 rfl) (h:=?_)
  refine dP (hc:=fun _=>Calm.bin rfl rfl b_lss) (h:=?_)
  refine dP (hc:=fun _=>Calm.move rfl) (h:=?_)
  first|refine k_d ?_|refine dL (hc:=ld_ ty_plain_3 rfl) (h:=?_)
  first|refine k_d ?_|refine dG (hc:=fun _=>Calm.bin rfl rfl b_lss) (h:=?_)
  refine dP (hc:=fun _=>(by first | exact Calm.pickT rfl rfl | exact Calm.pickF rfl rfl)) (h:=?_)
  refine dP (hc:=fun _=>Calm.move rfl) (h:=?_)
  first|refine k_d ?_|refine dL (hc:=ld_ ty_plain_3 rfl) (h:=?_)
  first|refine k_d ?_|refine dL (hc:=ld_ ty_plain_85 rfl) (h:=?_)
  first|refine k_d ?_|refine dG (hc:=fun _=>Calm.nilCheck rfl) (h:=?_)
  first|refine k_d ?_|refine dG (hc:=fun _=>Calm.fieldAddr ty_field_91_0 rfl) (h:=?_)
  first|refine k_d ?_|refine dG (hc:=fun _=>Calm.fieldAddr ty_field_48_0 rfl) (h:=?_)
  first|refine k_d ?_|refine dL (hc:=ld_ ty_plain_9 rfl) (h:=?_)
  first|refine k_d ?_|refine dL (hc:=Calm.lenStr (strT_spec ty_str_9) rfl) (h:=?_)
  first|refine k_d ?_|refine dG (hc:=fun _=>Calm.bin rfl rfl b_gtr) (h:=?_)
  refine dP (hc:=fun _=>(by first | exact Calm.pickT rfl rfl | exact Calm.pickF rfl rfl)) (h:=?_)
  refine dP (hc:=fun _=>Calm.move rfl) (h:=?_)
  first|refine k_d ?_|refine dL (hc:=ld_ ty_plain_3 rfl) (h:=?_)
  first|refine k_d ?_|refine dL (hc:=ld_ ty_plain_85 rfl) (h:=?_)
  first|refine k_d ?_|refine dG (hc:=fun _=>Calm.nilCheck rfl) (h:=?_)
  first|refine k_d ?_|refine dG (hc:=fun _=>Calm.fieldAddr ty_field_91_0 rfl) (h:=?_)
  first|refine k_d ?_|refine dG (hc:=fun _=>Calm.fieldAddr ty_field_48_0 rfl) (h:=?_)
  first|refine k_d ?_|refine dL (hc:=ld_ ty_plain_9 rfl) (h:=?_)
  first|refine k_d ?_|refine dL (hc:=Calm.lenStr (strT_spec ty_str_9) rfl) (h:=?_)
  first|refine k_d ?_|refine dL (hc:=ld_ ty_plain_3 rfl) (h:=?_)
  first|refine k_d ?_|refine dG (hc:=fun _=>Calm.bin rfl rfl b_sub_i64) (h:=?_)
  first|refine k_d ?_|refine dG (hc:=fun _=>Calm.bin rfl rfl b_gtr) (h:=?_)
  refine dP (hc:=fun _=>(by first | exact Calm.pickT rfl rfl | exact Calm.pickF rfl rfl)) (h:=?_)
  refine draw_nil ?_
  refine athen_n ?_
  refine k_u [(0,_),(1,_),(2,_),(3,_),(4,_),(5,_),(6,_),(7,_),(8,_),(9,_),(19,_),(48,_)] ?_
  refine k_T rfl ?_
  refine k_a (k_s rfl (k_e rfl ?_))
  refine k_r ?_
  refine ⟨_,S,⟨_,_,rfl,⟨_,_,rfl,rfl,rfl⟩,rfl⟩,hS1.trans less_,?_⟩
  exact ⟨rfl,rfl⟩
 by_cases g2:nn<0
 ·rw [if_pos (.inr (.inl g2))]
  refine ACall.enterR (args:=[.agg #[.string x.col,.int .i64 x.pri,.slice p1 x.fir.length c1,.slice p2 n2 c2,.string x.bits,.int .i64 x.n,.slice p3 x.cnts.length c3,.slice p4 x.plcs.length c4],.int .i64 aa,.int .i64 nn]) (rs:=[.tmp 6,.tmp 7]) 75 [(0,.agg #[.string x.col,.int .i64 x.pri,.slice p1 x.fir.length c1,.slice p2 n2 c2,.string x.bits,.int .i64 x.n,.slice p3 x.cnts.length c3,.slice p4 x.plcs.length c4]),(1,.int .i64 aa),(2,.int .i64 nn)] Try.func44 rfl rfl (Nat.le_of_ble_eq_true rfl) rfl ⟨rfl,rfl,rfl,trivial⟩ ?_
  refine AWPM.seqR (rs:=[.tmp 6,.tmp 7]) rfl ?_
  refine AWP.region ?_
  refine ARun.boxA (cs:=[_,_,_,_,_,_,_,_]) (lit_lt rfl) rfl ?_
  intro b3 f3
  have g3:=f3
  repeat ((with_reducible replace g3:=fresh_set g3);obtain ⟨g3,_⟩:=g3)
  try simp only [k_l1,k_l0,k_za,Nat.reduceAdd]
  refine ARun.box1 (lit_lt rfl) rfl rfl ?_
  intro b4 f4
  have g4:=f4
  repeat ((with_reducible replace g4:=fresh_set g4);obtain ⟨g4,_⟩:=g4)
  try simp only [k_l1,k_l0,k_za,Nat.reduceAdd]
  refine ARun.box1 (lit_lt rfl) rfl rfl ?_
  intro b5 f5
  have g5:=f5
  repeat ((with_reducible replace g5:=fresh_set g5);obtain ⟨g5,_⟩:=g5)
  try simp only [k_l1,k_l0,k_za,Nat.reduceAdd]
  refine k_s rfl (k_e rfl ?_)
  refine AWPM.seqR (rs:=[.tmp 6,.tmp 7]) rfl ?_
  refine AWP.region ?_
  refine rC (ldA_ (cs:=[_,_,_,_,_,_,_,_]) ty_agg_48 ty_size_48 rfl) ?_
  refine ARun.call (lit_lt rfl) go_80 rfl (((((fd_open_ok x p t _ S hx0 ho hp).frame f3).frame f4).frame f5)) ?_
  rintro _ _ ⟨_,⟨_,⟨S1,⟨b,rfl,hS1,hB⟩,fa3,rfl⟩,fa4,rfl⟩,fa5,rfl⟩
  have k0:=hB.bk.col
  have ga4:=fa4
  repeat ((with_reducible replace ga4:=fresh_set ga4);obtain ⟨ga4,_⟩:=ga4)
  have ga5:=fa5
  repeat ((with_reducible replace ga5:=fresh_set ga5);obtain ⟨ga5,_⟩:=ga5)
  refine k_m rfl ?_
  refine rC (Calm.extract rfl rfl) ?_
  refine rC (Calm.extract rfl rfl) ?_
  refine ARun.alloc (lit_lt rfl) ty_zero_85 ?_
  intro b8 f8
  have g8:=f8
  repeat ((with_reducible replace g8:=fresh_set g8);obtain ⟨g8,_⟩:=g8)
  try simp only [k_l1,k_l0,k_za,Nat.reduceAdd]
  refine ARun.store1 rfl rfl ty_size_85 rfl own_ lens_ rfl ?_
  try simp only [k_ms,k_sz,k_ss,k_za,Nat.reduceAdd]
  refine k_e rfl ?_
  refine AWPM.sub [(0,_),(1,_),(2,_),(3,_),(4,_),(5,_),(6,_),(7,_),(8,_),(9,_)] ⟨rfl,rfl,rfl,rfl,rfl,rfl,rfl,rfl,rfl,rfl,trivial⟩ ?_
  refine AWPM.seqR (rs:=[.tmp 6,.tmp 7]) rfl ?_
  refine k_a (k_m rfl ?_)
  refine rC (Calm.bin rfl rfl b_neq) ?_
  refine k_n ?_
  refine k_u [(0,_),(1,_),(2,_),(3,_),(4,_),(5,_),(6,_),(7,_),(8,_),(9,_),(19,_)] ?_
  refine k_F rfl ?_
  refine k_k ?_
  refine AWPM.seqR (rs:=[.tmp 6,.tmp 7]) rfl ?_
  refine AWP.seq ?_
  refine AWP.draw [(0,true),(1,true),(2,true),(3,true),(4,true),(5,true),(6,true),(7,true),(8,true),(9,true),(10,true),(11,true),(12,true),(13,true),(14,true),(15,true),(16,true),(17,true),(18,true),(19,true),(20,true),(21,true),(22,true),(23,true),(24,true),(25,true),(26,true),(27,true)] [] mixed (by kernel_rfl) ?_
  refine dC (hc:=ld_ ty_plain_3 rfl) (h:=?_)
  refine dP (hc:=fun _=>Calm.bin rfl rfl b_lss) (h:=?_)
  refine dP (hc:=fun _=>Calm.move rfl) (h:=?_)
  first|refine k_d ?_|refine dL (hc:=ld_ ty_plain_3 rfl) (h:=?_)
  first|refine k_d ?_|refine dG (hc:=fun _=>Calm.bin rfl rfl b_lss) (h:=?_)
  refine dP (hc:=fun _=>(by first | exact Calm.pickT rfl rfl | exact Calm.pickF rfl rfl)) (h:=?_)
  refine dP (hc:=fun _=>Calm.move rfl) (h:=?_)
  first|refine k_d ?_|refine dL (hc:=ld_ ty_plain_3 rfl) (h:=?_)
  first|refine k_d ?_|refine dL (hc:=ld_ ty_plain_85 rfl) (h:=?_)
  first|refine k_d ?_|refine dG (hc:=fun _=>Calm.nilCheck rfl) (h:=?_)
  first|refine k_d ?_|refine dG (hc:=fun _=>Calm.fieldAddr ty_field_91_0 rfl) (h:=?_)
  first|refine k_d ?_|refine dG (hc:=fun _=>Calm.fieldAddr ty_field_48_0 rfl) (h:=?_)
  first|refine k_d ?_|refine dL (hc:=ld_ ty_plain_9 rfl) (h:=?_)
  first|refine k_d ?_|refine dL (hc:=Calm.lenStr (strT_spec ty_str_9) rfl) (h:=?_)
  first|refine k_d ?_|refine dG (hc:=fun _=>Calm.bin rfl rfl b_gtr) (h:=?_)
  refine dP (hc:=fun _=>(by first | exact Calm.pickT rfl rfl | exact Calm.pickF rfl rfl)) (h:=?_)
  refine dP (hc:=fun _=>Calm.move rfl) (h:=?_)
  first|refine k_d ?_|refine dL (hc:=ld_ ty_plain_3 rfl) (h:=?_)
  first|refine k_d ?_|refine dL (hc:=ld_ ty_plain_85 rfl) (h:=?_)
  first|refine k_d ?_|refine dG (hc:=fun _=>Calm.nilCheck rfl) (h:=?_)
  first|refine k_d ?_|refine dG (hc:=fun _=>Calm.fieldAddr ty_field_91_0 rfl) (h:=?_)
  first|refine k_d ?_|refine dG (hc:=fun _=>Calm.fieldAddr ty_field_48_0 rfl) (h:=?_)
  first|refine k_d ?_|refine dL (hc:=ld_ ty_plain_9 rfl) (h:=?_)
  first|refine k_d ?_|refine dL (hc:=Calm.lenStr (strT_spec ty_str_9) rfl) (h:=?_)
  first|refine k_d ?_|refine dL (hc:=ld_ ty_plain_3 rfl) (h:=?_)
  first|refine k_d ?_|refine dG (hc:=fun _=>Calm.bin rfl rfl b_sub_i64) (h:=?_)
  first|refine k_d ?_|refine dG (hc:=fun _=>Calm.bin rfl rfl b_gtr) (h:=?_)
  refine dP (hc:=fun _=>(by first | exact Calm.pickT rfl rfl | exact Calm.pickF rfl rfl)) (h:=?_)
  refine draw_nil ?_
  refine athen_n ?_
  refine k_u [(0,_),(1,_),(2,_),(3,_),(4,_),(5,_),(6,_),(7,_),(8,_),(9,_),(19,_),(48,_)] ?_
  refine k_T rfl ?_
  refine k_a (k_s rfl (k_e rfl ?_))
  refine k_r ?_
  refine ⟨_,S,⟨_,_,rfl,⟨_,_,rfl,rfl,rfl⟩,rfl⟩,hS1.trans less_,?_⟩
  exact ⟨rfl,rfl⟩
 by_cases g3:(x.col.size:Int)<aa
 ·rw [if_pos (.inr (.inr (.inl g3)))]
  refine ACall.enterR (args:=[.agg #[.string x.col,.int .i64 x.pri,.slice p1 x.fir.length c1,.slice p2 n2 c2,.string x.bits,.int .i64 x.n,.slice p3 x.cnts.length c3,.slice p4 x.plcs.length c4],.int .i64 aa,.int .i64 nn]) (rs:=[.tmp 6,.tmp 7]) 75 [(0,.agg #[.string x.col,.int .i64 x.pri,.slice p1 x.fir.length c1,.slice p2 n2 c2,.string x.bits,.int .i64 x.n,.slice p3 x.cnts.length c3,.slice p4 x.plcs.length c4]),(1,.int .i64 aa),(2,.int .i64 nn)] Try.func44 rfl rfl (Nat.le_of_ble_eq_true rfl) rfl ⟨rfl,rfl,rfl,trivial⟩ ?_
  refine AWPM.seqR (rs:=[.tmp 6,.tmp 7]) rfl ?_
  refine AWP.region ?_
  refine ARun.boxA (cs:=[_,_,_,_,_,_,_,_]) (lit_lt rfl) rfl ?_
  intro b3 f3
  have g3:=f3
  repeat ((with_reducible replace g3:=fresh_set g3);obtain ⟨g3,_⟩:=g3)
  try simp only [k_l1,k_l0,k_za,Nat.reduceAdd]
  refine ARun.box1 (lit_lt rfl) rfl rfl ?_
  intro b4 f4
  have g4:=f4
  repeat ((with_reducible replace g4:=fresh_set g4);obtain ⟨g4,_⟩:=g4)
  try simp only [k_l1,k_l0,k_za,Nat.reduceAdd]
  refine ARun.box1 (lit_lt rfl) rfl rfl ?_
  intro b5 f5
  have g5:=f5
  repeat ((with_reducible replace g5:=fresh_set g5);obtain ⟨g5,_⟩:=g5)
  try simp only [k_l1,k_l0,k_za,Nat.reduceAdd]
  refine k_s rfl (k_e rfl ?_)
  refine AWPM.seqR (rs:=[.tmp 6,.tmp 7]) rfl ?_
  refine AWP.region ?_
  refine rC (ldA_ (cs:=[_,_,_,_,_,_,_,_]) ty_agg_48 ty_size_48 rfl) ?_
  refine ARun.call (lit_lt rfl) go_80 rfl (((((fd_open_ok x p t _ S hx0 ho hp).frame f3).frame f4).frame f5)) ?_
  rintro _ _ ⟨_,⟨_,⟨S1,⟨b,rfl,hS1,hB⟩,fa3,rfl⟩,fa4,rfl⟩,fa5,rfl⟩
  have k0:=hB.bk.col
  have ga4:=fa4
  repeat ((with_reducible replace ga4:=fresh_set ga4);obtain ⟨ga4,_⟩:=ga4)
  have ga5:=fa5
  repeat ((with_reducible replace ga5:=fresh_set ga5);obtain ⟨ga5,_⟩:=ga5)
  refine k_m rfl ?_
  refine rC (Calm.extract rfl rfl) ?_
  refine rC (Calm.extract rfl rfl) ?_
  refine ARun.alloc (lit_lt rfl) ty_zero_85 ?_
  intro b8 f8
  have g8:=f8
  repeat ((with_reducible replace g8:=fresh_set g8);obtain ⟨g8,_⟩:=g8)
  try simp only [k_l1,k_l0,k_za,Nat.reduceAdd]
  refine ARun.store1 rfl rfl ty_size_85 rfl own_ lens_ rfl ?_
  try simp only [k_ms,k_sz,k_ss,k_za,Nat.reduceAdd]
  refine k_e rfl ?_
  refine AWPM.sub [(0,_),(1,_),(2,_),(3,_),(4,_),(5,_),(6,_),(7,_),(8,_),(9,_)] ⟨rfl,rfl,rfl,rfl,rfl,rfl,rfl,rfl,rfl,rfl,trivial⟩ ?_
  refine AWPM.seqR (rs:=[.tmp 6,.tmp 7]) rfl ?_
  refine k_a (k_m rfl ?_)
  refine rC (Calm.bin rfl rfl b_neq) ?_
  refine k_n ?_
  refine k_u [(0,_),(1,_),(2,_),(3,_),(4,_),(5,_),(6,_),(7,_),(8,_),(9,_),(19,_)] ?_
  refine k_F rfl ?_
  refine k_k ?_
  refine AWPM.seqR (rs:=[.tmp 6,.tmp 7]) rfl ?_
  refine AWP.seq ?_
  refine AWP.draw [(0,true),(1,true),(2,true),(3,true),(4,true),(5,true),(6,true),(7,true),(8,true),(9,true),(10,true),(11,true),(12,true),(13,true),(14,true),(15,true),(16,true),(17,true),(18,true),(19,true),(20,true),(21,true),(22,true),(23,true),(24,true),(25,true),(26,true),(27,true)] [] mixed (by kernel_rfl) ?_
  refine dC (hc:=ld_ ty_plain_3 rfl) (h:=?_)
  refine dP (hc:=fun _=>Calm.bin rfl rfl b_lss) (h:=?_)
  refine dP (hc:=fun _=>Calm.move rfl) (h:=?_)
  first|refine k_d ?_|refine dL (hc:=ld_ ty_plain_3 rfl) (h:=?_)
  first|refine k_d ?_|refine dG (hc:=fun _=>Calm.bin rfl rfl b_lss) (h:=?_)
  refine dP (hc:=fun _=>(by first | exact Calm.pickT rfl rfl | exact Calm.pickF rfl rfl)) (h:=?_)
  refine dP (hc:=fun _=>Calm.move rfl) (h:=?_)
  first|refine k_d ?_|refine dL (hc:=ld_ ty_plain_3 rfl) (h:=?_)
  first|refine k_d ?_|refine dL (hc:=ld_ ty_plain_85 rfl) (h:=?_)
  first|refine k_d ?_|refine dG (hc:=fun _=>Calm.nilCheck rfl) (h:=?_)
  first|refine k_d ?_|refine dG (hc:=fun _=>Calm.fieldAddr ty_field_91_0 rfl) (h:=?_)
  first|refine k_d ?_|refine dG (hc:=fun _=>Calm.fieldAddr ty_field_48_0 rfl) (h:=?_)
  first|refine k_d ?_|refine dL (hc:=ld_ ty_plain_9 rfl) (h:=?_)
  first|refine k_d ?_|refine dL (hc:=Calm.lenStr (strT_spec ty_str_9) rfl) (h:=?_)
  first|refine k_d ?_|refine dG (hc:=fun _=>Calm.bin rfl rfl b_gtr) (h:=?_)
  refine dP (hc:=fun _=>(by first | exact Calm.pickT rfl rfl | exact Calm.pickF rfl rfl)) (h:=?_)
  refine dP (hc:=fun _=>Calm.move rfl) (h:=?_)
  first|refine k_d ?_|refine dL (hc:=ld_ ty_plain_3 rfl) (h:=?_)
  first|refine k_d ?_|refine dL (hc:=ld_ ty_plain_85 rfl) (h:=?_)
  first|refine k_d ?_|refine dG (hc:=fun _=>Calm.nilCheck rfl) (h:=?_)
  first|refine k_d ?_|refine dG (hc:=fun _=>Calm.fieldAddr ty_field_91_0 rfl) (h:=?_)
  first|refine k_d ?_|refine dG (hc:=fun _=>Calm.fieldAddr ty_field_48_0 rfl) (h:=?_)
  first|refine k_d ?_|refine dL (hc:=ld_ ty_plain_9 rfl) (h:=?_)
  first|refine k_d ?_|refine dL (hc:=Calm.lenStr (strT_spec ty_str_9) rfl) (h:=?_)
  first|refine k_d ?_|refine dL (hc:=ld_ ty_plain_3 rfl) (h:=?_)
  first|refine k_d ?_|refine dG (hc:=fun _=>Calm.bin rfl rfl b_sub_i64) (h:=?_)
  first|refine k_d ?_|refine dG (hc:=fun _=>Calm.bin rfl rfl b_gtr) (h:=?_)
  refine dP (hc:=fun _=>(by first | exact Calm.pickT rfl rfl | exact Calm.pickF rfl rfl)) (h:=?_)
  refine draw_nil ?_
  refine athen_n ?_
  refine k_u [(0,_),(1,_),(2,_),(3,_),(4,_),(5,_),(6,_),(7,_),(8,_),(9,_),(19,_),(48,_)] ?_
  refine k_T rfl ?_
  refine k_a (k_s rfl (k_e rfl ?_))
  refine k_r ?_
  refine ⟨_,S,⟨_,_,rfl,⟨_,_,rfl,rfl,rfl⟩,rfl⟩,hS1.trans less_,?_⟩
  exact ⟨rfl,rfl⟩
 by_cases g4:(x.col.size:Int)-aa<nn
 ·rw [if_pos (.inr (.inr (.inr g4)))]
  refine ACall.enterR (args:=[.agg #[.string x.col,.int .i64 x.pri,.slice p1 x.fir.length c1,.slice p2 n2 c2,.string x.bits,.int .i64 x.n,.slice p3 x.cnts.length c3,.slice p4 x.plcs.length c4],.int .i64 aa,.int .i64 nn]) (rs:=[.tmp 6,.tmp 7]) 75 [(0,.agg #[.string x.col,.int .i64 x.pri,.slice p1 x.fir.length c1,.slice p2 n2 c2,.string x.bits,.int .i64 x.n,.slice p3 x.cnts.length c3,.slice p4 x.plcs.length c4]),(1,.int .i64 aa),(2,.int .i64 nn)] Try.func44 rfl rfl (Nat.le_of_ble_eq_true rfl) rfl ⟨rfl,rfl,rfl,trivial⟩ ?_
  refine AWPM.seqR (rs:=[.tmp 6,.tmp 7]) rfl ?_
  refine AWP.region ?_
  refine ARun.boxA (cs:=[_,_,_,_,_,_,_,_]) (lit_lt rfl) rfl ?_
  intro b3 f3
  have g3:=f3
  repeat ((with_reducible replace g3:=fresh_set g3);obtain ⟨g3,_⟩:=g3)
  try simp only [k_l1,k_l0,k_za,Nat.reduceAdd]
  refine ARun.box1 (lit_lt rfl) rfl rfl ?_
  intro b4 f4
  have g4:=f4
  repeat ((with_reducible replace g4:=fresh_set g4);obtain ⟨g4,_⟩:=g4)
  try simp only [k_l1,k_l0,k_za,Nat.reduceAdd]
  refine ARun.box1 (lit_lt rfl) rfl rfl ?_
  intro b5 f5
  have g5:=f5
  repeat ((with_reducible replace g5:=fresh_set g5);obtain ⟨g5,_⟩:=g5)
  try simp only [k_l1,k_l0,k_za,Nat.reduceAdd]
  refine k_s rfl (k_e rfl ?_)
  refine AWPM.seqR (rs:=[.tmp 6,.tmp 7]) rfl ?_
  refine AWP.region ?_
  refine rC (ldA_ (cs:=[_,_,_,_,_,_,_,_]) ty_agg_48 ty_size_48 rfl) ?_
  refine ARun.call (lit_lt rfl) go_80 rfl (((((fd_open_ok x p t _ S hx0 ho hp).frame f3).frame f4).frame f5)) ?_
  rintro _ _ ⟨_,⟨_,⟨S1,⟨b,rfl,hS1,hB⟩,fa3,rfl⟩,fa4,rfl⟩,fa5,rfl⟩
  have k0:=hB.bk.col
  have ga4:=fa4
  repeat ((with_reducible replace ga4:=fresh_set ga4);obtain ⟨ga4,_⟩:=ga4)
  have ga5:=fa5
  repeat ((with_reducible replace ga5:=fresh_set ga5);obtain ⟨ga5,_⟩:=ga5)
  refine k_m rfl ?_
  refine rC (Calm.extract rfl rfl) ?_
  refine rC (Calm.extract rfl rfl) ?_
  refine ARun.alloc (lit_lt rfl) ty_zero_85 ?_
  intro b8 f8
  have g8:=f8
  repeat ((with_reducible replace g8:=fresh_set g8);obtain ⟨g8,_⟩:=g8)
  try simp only [k_l1,k_l0,k_za,Nat.reduceAdd]
  refine ARun.store1 rfl rfl ty_size_85 rfl own_ lens_ rfl ?_
  try simp only [k_ms,k_sz,k_ss,k_za,Nat.reduceAdd]
  refine k_e rfl ?_
  refine AWPM.sub [(0,_),(1,_),(2,_),(3,_),(4,_),(5,_),(6,_),(7,_),(8,_),(9,_)] ⟨rfl,rfl,rfl,rfl,rfl,rfl,rfl,rfl,rfl,rfl,trivial⟩ ?_
  refine AWPM.seqR (rs:=[.tmp 6,.tmp 7]) rfl ?_
  refine k_a (k_m rfl ?_)
  refine rC (Calm.bin rfl rfl b_neq) ?_
  refine k_n ?_
  refine k_u [(0,_),(1,_),(2,_),(3,_),(4,_),(5,_),(6,_),(7,_),(8,_),(9,_),(19,_)] ?_
  refine k_F rfl ?_
  refine k_k ?_
  refine AWPM.seqR (rs:=[.tmp 6,.tmp 7]) rfl ?_
  refine AWP.seq ?_
  refine AWP.draw [(0,true),(1,true),(2,true),(3,true),(4,true),(5,true),(6,true),(7,true),(8,true),(9,true),(10,true),(11,true),(12,true),(13,true),(14,true),(15,true),(16,true),(17,true),(18,true),(19,true),(20,true),(21,true),(22,true),(23,true),(24,true),(25,true),(26,true),(27,true)] [] mixed (by kernel_rfl) ?_
  refine dC (hc:=ld_ ty_plain_3 rfl) (h:=?_)
  refine dP (hc:=fun _=>Calm.bin rfl rfl b_lss) (h:=?_)
  refine dP (hc:=fun _=>Calm.move rfl) (h:=?_)
  first|refine k_d ?_|refine dL (hc:=ld_ ty_plain_3 rfl) (h:=?_)
  first|refine k_d ?_|refine dG (hc:=fun _=>Calm.bin rfl rfl b_lss) (h:=?_)
  refine dP (hc:=fun _=>(by first | exact Calm.pickT rfl rfl | exact Calm.pickF rfl rfl)) (h:=?_)
  refine dP (hc:=fun _=>Calm.move rfl) (h:=?_)
  first|refine k_d ?_|refine dL (hc:=ld_ ty_plain_3 rfl) (h:=?_)
  first|refine k_d ?_|refine dL (hc:=ld_ ty_plain_85 rfl) (h:=?_)
  first|refine k_d ?_|refine dG (hc:=fun _=>Calm.nilCheck rfl) (h:=?_)
  first|refine k_d ?_|refine dG (hc:=fun _=>Calm.fieldAddr ty_field_91_0 rfl) (h:=?_)
  first|refine k_d ?_|refine dG (hc:=fun _=>Calm.fieldAddr ty_field_48_0 rfl) (h:=?_)
  first|refine k_d ?_|refine dL (hc:=ld_ ty_plain_9 rfl) (h:=?_)
  first|refine k_d ?_|refine dL (hc:=Calm.lenStr (strT_spec ty_str_9) rfl) (h:=?_)
  first|refine k_d ?_|refine dG (hc:=fun _=>Calm.bin rfl rfl b_gtr) (h:=?_)
  refine dP (hc:=fun _=>(by first | exact Calm.pickT rfl rfl | exact Calm.pickF rfl rfl)) (h:=?_)
  refine dP (hc:=fun _=>Calm.move rfl) (h:=?_)
  first|refine k_d ?_|refine dL (hc:=ld_ ty_plain_3 rfl) (h:=?_)
  first|refine k_d ?_|refine dL (hc:=ld_ ty_plain_85 rfl) (h:=?_)
  first|refine k_d ?_|refine dG (hc:=fun _=>Calm.nilCheck rfl) (h:=?_)
  first|refine k_d ?_|refine dG (hc:=fun _=>Calm.fieldAddr ty_field_91_0 rfl) (h:=?_)
  first|refine k_d ?_|refine dG (hc:=fun _=>Calm.fieldAddr ty_field_48_0 rfl) (h:=?_)
  first|refine k_d ?_|refine dL (hc:=ld_ ty_plain_9 rfl) (h:=?_)
  first|refine k_d ?_|refine dL (hc:=Calm.lenStr (strT_spec ty_str_9) rfl) (h:=?_)
  first|refine k_d ?_|refine dL (hc:=ld_ ty_plain_3 rfl) (h:=?_)
  first|refine k_d ?_|refine dG (hc:=fun _=>Calm.bin rfl rfl b_sub_i64) (h:=?_)
  first|refine k_d ?_|refine dG (hc:=fun _=>Calm.bin rfl rfl b_gtr) (h:=?_)
  refine dP (hc:=fun _=>(by first | exact Calm.pickT rfl rfl | exact Calm.pickF rfl rfl)) (h:=?_)
  refine draw_nil ?_
  refine athen_n ?_
  refine k_u [(0,_),(1,_),(2,_),(3,_),(4,_),(5,_),(6,_),(7,_),(8,_),(9,_),(19,_),(48,_)] ?_
  refine k_T rfl ?_
  refine k_a (k_s rfl (k_e rfl ?_))
  refine k_r ?_
  refine ⟨_,S,⟨_,_,rfl,⟨_,_,rfl,rfl,rfl⟩,rfl⟩,hS1.trans less_,?_⟩
  exact ⟨rfl,rfl⟩
 obtain ⟨a,rfl⟩ : ∃ a:Nat,aa=a:=⟨aa.toNat,by omega⟩
 obtain ⟨m,rfl⟩ : ∃ m:Nat,nn=m:=⟨nn.toNat,by omega⟩
 have hb : ¬ ((a:Int)<0∨(m:Int)<0∨(x.col.size:Int)<a∨(x.col.size:Int)-a<m):=fun h=>by rcases h with h | h | h | h <;> omega
 rw [if_neg hb,Int.toNat_natCast,show ((a:Int)+m).toNat=a+m by omega]
 have hcol:=ho.col
 have hple:=ho.le
 have htz:=ho.size
 obtain ⟨T,hT⟩ : ∃ T,T=numsT t:=⟨_,rfl⟩
 have hTl:T.length=x.col.size:=by rw [hT,numsT_length,htz]
 obtain ⟨N,hN⟩ : ∃ N,N=x.col.size:=⟨_,rfl⟩
 refine ACall.enterR (args:=[.agg #[.string x.col,.int .i64 x.pri,.slice p1 x.fir.length c1,.slice p2 n2 c2,.string x.bits,.int .i64 x.n,.slice p3 x.cnts.length c3,.slice p4 x.plcs.length c4],.int .i64 (a:Int),.int .i64 (m:Int)]) (rs:=[.tmp 6,.tmp 7]) 75 [(0,.agg #[.string x.col,.int .i64 x.pri,.slice p1 x.fir.length c1,.slice p2 n2 c2,.string x.bits,.int .i64 x.n,.slice p3 x.cnts.length c3,.slice p4 x.plcs.length c4]),(1,.int .i64 (a:Int)),(2,.int .i64 (m:Int))] Try.func44 rfl rfl (Nat.le_of_ble_eq_true rfl) rfl ⟨rfl,rfl,rfl,trivial⟩ ?_
 refine AWPM.seqR (rs:=[.tmp 6,.tmp 7]) rfl ?_
 refine AWP.region ?_
 refine ARun.boxA (cs:=[_,_,_,_,_,_,_,_]) (lit_lt rfl) rfl ?_
 intro b3 f3
 have g3:=f3
 repeat ((with_reducible replace g3:=fresh_set g3);obtain ⟨g3,_⟩:=g3)
 try simp only [k_l1,k_l0,k_za,Nat.reduceAdd]
 refine ARun.box1 (lit_lt rfl) rfl rfl ?_
 intro b4 f4
 have g4:=f4
 repeat ((with_reducible replace g4:=fresh_set g4);obtain ⟨g4,_⟩:=g4)
 try simp only [k_l1,k_l0,k_za,Nat.reduceAdd]
 refine ARun.box1 (lit_lt rfl) rfl rfl ?_
 intro b5 f5
 have g5:=f5
 repeat ((with_reducible replace g5:=fresh_set g5);obtain ⟨g5,_⟩:=g5)
 try simp only [k_l1,k_l0,k_za,Nat.reduceAdd]
 refine k_s rfl (k_e rfl ?_)
 refine AWPM.seqR (rs:=[.tmp 6,.tmp 7]) rfl ?_
 refine AWP.region ?_
 refine rC (ldA_ (cs:=[_,_,_,_,_,_,_,_]) ty_agg_48 ty_size_48 rfl) ?_
 refine ARun.call (lit_lt rfl) go_80 rfl (((((fd_open_ok x p t _ S hx0 ho hp).frame f3).frame f4).frame f5)) ?_
 rintro _ _ ⟨_,⟨_,⟨S1,⟨b,rfl,hS1,hB⟩,fa3,rfl⟩,fa4,rfl⟩,fa5,rfl⟩
 have k0:=hB.bk.col
 have ga4:=fa4
 repeat ((with_reducible replace ga4:=fresh_set ga4);obtain ⟨ga4,_⟩:=ga4)
 have ga5:=fa5
 repeat ((with_reducible replace ga5:=fresh_set ga5);obtain ⟨ga5,_⟩:=ga5)
 refine k_m rfl ?_
 refine rC (Calm.extract rfl rfl) ?_
 refine rC (Calm.extract rfl rfl) ?_
 refine ARun.alloc (lit_lt rfl) ty_zero_85 ?_
 intro b8 f8
 have g8:=f8
 repeat ((with_reducible replace g8:=fresh_set g8);obtain ⟨g8,_⟩:=g8)
 try simp only [k_l1,k_l0,k_za,Nat.reduceAdd]
 refine ARun.store1 rfl rfl ty_size_85 rfl own_ lens_ rfl ?_
 try simp only [k_ms,k_sz,k_ss,k_za,Nat.reduceAdd]
 refine k_e rfl ?_
 refine AWPM.sub [(0,_),(1,_),(2,_),(3,_),(4,_),(5,_),(6,_),(7,_),(8,_),(9,_)] ⟨rfl,rfl,rfl,rfl,rfl,rfl,rfl,rfl,rfl,rfl,trivial⟩ ?_
 refine AWPM.seqR (rs:=[.tmp 6,.tmp 7]) rfl ?_
 refine k_a (k_m rfl ?_)
 refine rC (Calm.bin rfl rfl b_neq) ?_
 refine k_n ?_
 refine k_u [(0,_),(1,_),(2,_),(3,_),(4,_),(5,_),(6,_),(7,_),(8,_),(9,_),(19,_)] ?_
 refine k_F rfl ?_
 refine k_k ?_
 refine AWPM.seqR (rs:=[.tmp 6,.tmp 7]) rfl ?_
 refine AWP.seq ?_
 refine AWP.draw [(0,true),(1,true),(2,true),(3,true),(4,true),(5,true),(6,true),(7,true),(8,true),(9,true),(10,true),(11,true),(12,true),(13,true),(14,true),(15,true),(16,true),(17,true),(18,true),(19,true),(20,true),(21,true),(22,true),(23,true),(24,true),(25,true),(26,true),(27,true)] [] mixed (by kernel_rfl) ?_
 refine dC (hc:=ld_ ty_plain_3 rfl) (h:=?_)
 refine dP (hc:=fun _=>Calm.bin rfl rfl b_lss) (h:=?_)
 refine dP (hc:=fun _=>Calm.move rfl) (h:=?_)
 first|refine k_d ?_|refine dL (hc:=ld_ ty_plain_3 rfl) (h:=?_)
 first|refine k_d ?_|refine dG (hc:=fun _=>Calm.bin rfl rfl b_lss) (h:=?_)
 refine dP (hc:=fun _=>(by first | exact Calm.pickT rfl rfl | exact Calm.pickF rfl rfl)) (h:=?_)
 refine dP (hc:=fun _=>Calm.move rfl) (h:=?_)
 first|refine k_d ?_|refine dL (hc:=ld_ ty_plain_3 rfl) (h:=?_)
 first|refine k_d ?_|refine dL (hc:=ld_ ty_plain_85 rfl) (h:=?_)
 first|refine k_d ?_|refine dG (hc:=fun _=>Calm.nilCheck rfl) (h:=?_)
 first|refine k_d ?_|refine dG (hc:=fun _=>Calm.fieldAddr ty_field_91_0 rfl) (h:=?_)
 first|refine k_d ?_|refine dG (hc:=fun _=>Calm.fieldAddr ty_field_48_0 rfl) (h:=?_)
 first|refine k_d ?_|refine dL (hc:=ld_ ty_plain_9 rfl) (h:=?_)
 first|refine k_d ?_|refine dL (hc:=Calm.lenStr (strT_spec ty_str_9) rfl) (h:=?_)
 first|refine k_d ?_|refine dG (hc:=fun _=>Calm.bin rfl rfl b_gtr) (h:=?_)
 refine dP (hc:=fun _=>(by first | exact Calm.pickT rfl rfl | exact Calm.pickF rfl rfl)) (h:=?_)
 refine dP (hc:=fun _=>Calm.move rfl) (h:=?_)
 first|refine k_d ?_|refine dL (hc:=ld_ ty_plain_3 rfl) (h:=?_)
 first|refine k_d ?_|refine dL (hc:=ld_ ty_plain_85 rfl) (h:=?_)
 first|refine k_d ?_|refine dG (hc:=fun _=>Calm.nilCheck rfl) (h:=?_)
 first|refine k_d ?_|refine dG (hc:=fun _=>Calm.fieldAddr ty_field_91_0 rfl) (h:=?_)
 first|refine k_d ?_|refine dG (hc:=fun _=>Calm.fieldAddr ty_field_48_0 rfl) (h:=?_)
 first|refine k_d ?_|refine dL (hc:=ld_ ty_plain_9 rfl) (h:=?_)
 first|refine k_d ?_|refine dL (hc:=Calm.lenStr (strT_spec ty_str_9) rfl) (h:=?_)
 first|refine k_d ?_|refine dL (hc:=ld_ ty_plain_3 rfl) (h:=?_)
 first|refine k_d ?_|refine dG (hc:=fun _=>Calm.bin rfl rfl b_sub_i64) (h:=?_)
 first|refine k_d ?_|refine dG (hc:=fun _=>Calm.bin rfl rfl b_gtr) (h:=?_)
 refine dP (hc:=fun _=>(by first | exact Calm.pickT rfl rfl | exact Calm.pickF rfl rfl)) (h:=?_)
 refine draw_nil ?_
 refine athen_n ?_
 refine k_u [(0,_),(1,_),(2,_),(3,_),(4,_),(5,_),(6,_),(7,_),(8,_),(9,_),(19,_),(48,_)] ?_
 refine k_F rfl ?_
 refine k_k ?_
 refine AWPM.seqR (rs:=[.tmp 6,.tmp 7]) rfl ?_
 refine AWP.region ?_
 refine rC (ld_ ty_plain_3 rfl) ?_
 refine ARun.makeSlice (lit_lt rfl) ty_sl_107 rfl rfl (by omega) (by omega) (by omega) (by omega) ?_
 intro b50 f50
 have g50:=f50
 repeat ((with_reducible replace g50:=fresh_set g50);obtain ⟨g50,_⟩:=g50)
 refine ARun.alloc (lit_lt rfl) ty_zero_107 ?_
 intro b10 f10
 have g10:=f10
 repeat ((with_reducible replace g10:=fresh_set g10);obtain ⟨g10,_⟩:=g10)
 try simp only [k_l1,k_l0,k_za,Nat.reduceAdd]
 refine ARun.store1 rfl rfl ty_size_107 rfl own_ lens_ rfl ?_
 try simp only [k_ms,k_sz,k_ss,k_za,Nat.reduceAdd]
 refine k_n ?_
 refine AWPM.sub [(0,_),(1,_),(2,_),(3,_),(4,_),(5,_),(6,_),(7,_),(8,_),(9,_),(19,_),(48,_),(10,_)] ⟨rfl,rfl,rfl,rfl,rfl,rfl,rfl,rfl,rfl,rfl,rfl,rfl,rfl,trivial⟩ ?_
 refine AWPM.seqM ?_
 refine AWPM.seq ?_
 refine AWP.region ?_
 refine rC (ld_ ty_plain_85 rfl) ?_
 refine ARun.call (lit_lt rfl) go_72 rfl (fd_rows _ _) ?_
 rintro _ _ ⟨q,fq,rfl,rfl⟩
 intro S0 w0 e w hs0 hg
 have gq:=fq
 repeat ((with_reducible replace gq:=fresh_set gq);obtain ⟨gq,_⟩:=gq)
 refine wpIn_block ?_
 have em:((m:Int)).toNat=m:=by omega
 have ez:madeL [Value.int .u8 0] m=(List.replicate m 0).map encB:=by rw [madeL_one,List.map_replicate];rfl
 simp only [em,Nat.mul_one,ez] at hs0
 obtain ⟨M6,hM6⟩ : ∃ M6,M6=(((((S1.set b3 ⟨48,[.string x.col,.int .i64 x.pri,.slice p1 x.fir.length c1,.slice p2 n2 c2,.string x.bits,.int .i64 x.n,.slice p3 x.cnts.length c3,.slice p4 x.plcs.length c4],8⟩).set b4 ⟨3,[.int .i64 (a:Int)],1⟩).set b5 ⟨3,[.int .i64 (m:Int)],1⟩).set b8 ⟨85,[.pointer (some ⟨b,0,none⟩)],1⟩).set b10 ⟨107,[.slice (some ⟨b50,0,none⟩) m m],1⟩).set q ⟨85,[.pointer (some ⟨b,0,none⟩)],1⟩:=⟨_,rfl⟩
 have hM:S1.Less M6:=by rw [hM6];exact less_
 have o4:M6.own b4=some ⟨3,[.int .i64 (a:Int)],1⟩:=by rw [hM6];exact own_
 have o5:M6.own b5=some ⟨3,[.int .i64 (m:Int)],1⟩:=by rw [hM6];exact own_
 have o8:M6.own b8=some ⟨85,[.pointer (some ⟨b,0,none⟩)],1⟩:=by rw [hM6];exact own_
 have o10:M6.own b10=some ⟨107,[.slice (some ⟨b50,0,none⟩) m m],1⟩:=by rw [hM6];exact own_
 have oq:M6.own q=some ⟨85,[.pointer (some ⟨b,0,none⟩)],1⟩:=by rw [hM6];exact own_
 have f50':Fresh M6 b50:=by rw [hM6];exact fresh_more (fresh_more (fresh_more (fresh_more (fresh_more (fresh_more g50 ne_) ne_) ne_) ne_) ne_) ne_
 replace hs0:Step S0 w0 (M6.set b50 ⟨5,(List.replicate m 0).map encB,m⟩) w:=hs0.less (by rw [hM6];exact less_)
 have hBM:=hB.less hM
 have hSM:=hS1.trans hM
 have y4:b4≠b50:=f50'.ne o4
 have y5:b5≠b50:=f50'.ne o5
 have y8:b8≠b50:=f50'.ne o8
 have y10:b10≠b50:=f50'.ne o10
 have yq:q≠b50:=f50'.ne oq
 clear hM6 hM fq gq f10 g10 f8 g8 fa3 fa4 fa5 ga4 ga5 hB hS1 k0
 rw [← hT] at hcol
 refine range_view3 (N:=75) (p1:=53) (p2:=54) (S0:=S0) (w0:=w0) (gf:=109) (lb:=#[.pointer (some ⟨q,0,none⟩)]) (N+1) 0 (fun k=>.int .i64 (rowK T k:Int)) (fun k=>.int .i64 ((N-k:Nat):Int)) (fun k Z=>∃ ob:List Nat,Mem.Less (M6.set b50 ⟨5,ob.map encB,m⟩) Z∧ob.length=m∧(∀ y ∈ ob,y<256)∧k+a≤N ∧ ∀ i,i<m→N-k≤a+i→ob.getD i 0=T.getD (a+i) 0) (fun _ Z=>∃ ob:List Nat,Mem.Less (M6.set b50 ⟨5,ob.map encB,m⟩) Z∧ob.length=m∧(∀ y ∈ ob,y<256) ∧ ∀ i,i<m→ob.getD i 0=T.getD (a+i) 0) [(4,.pointer (some ⟨b4,0,none⟩)),(5,.pointer (some ⟨b5,0,none⟩)),(8,.pointer (some ⟨b8,0,none⟩)),(10,.pointer (some ⟨b10,0,none⟩)),(52,.func (.func 109) #[] #[.pointer (some ⟨q,0,none⟩)])] (hg.sub ⟨rfl,rfl,rfl,rfl,rfl,trivial⟩) rfl (enters_of Try.func109 (by kernel_rfl) rfl) (lit_lt rfl) (lit_lt rfl) ?start ?it ?round ?done ?stop
 case start=>exact ⟨_,⟨_,Mem.Less.refl _,by simp,fun y hy=>by rw [List.eq_of_mem_replicate hy];decide,by omega,fun i hi h=>by omega⟩,hs0⟩
 case done=>rintro D Z W ⟨ob,_,_,_,h,_⟩;omega
 case it =>
  intro l J Jx W hK hY hJ0
  rw [hN] at hY ⊢
  refine rows_it l q b x.col p T hcol hs J Jx W (fun k W hj=>?_) hY hJ0
  obtain ⟨Z,⟨ob,hl,_⟩,hv,hab⟩:=hK k W hj
  have hMZ:=Mem.Less.trans (show M6.Less (M6.set b50 ⟨5,ob.map encB,m⟩) from less_) hl
  exact ⟨Z,(hBM.less hMZ).bk,Mem.own_knows (hMZ.own oq) 0 _ (fun j u hj=>by rw [Nat.zero_add];exact hj),hv,hab⟩
 case round =>
  intro l k Z hk ⟨ob,hl,l1,l2,l3,l4⟩
  refine GWP.less _ hl ?_
  have hrk:=rowK_le T k
  rw [hTl,← hN] at hrk
  have hfr:Fd.fre T (rowK T k)=N-k:=by rw [hN,← hTl];exact Fd.fre_rw T _ (Nat.sub_le _ _)
  obtain ⟨r,hr⟩ : ∃ r,r=rowK T k:=⟨_,rfl⟩
  rw [← hr] at hrk hfr ⊢
  have hBk:=(hBM.less (show M6.Less (M6.set b50 ⟨5,ob.map encB,m⟩) from less_)).bk
  by_cases hle:N-k≤a
  ·skip
   refine GWP.seq ?_
   refine GWP.region ?_
   refine k_e rfl ?_
   refine GWP.sub [(54,_),(53,_),(4,_),(5,_),(8,_),(10,_),(11,_)] ⟨rfl,rfl,rfl,rfl,rfl,rfl,rfl,trivial⟩ ?_
   refine GWP.region ?_
   refine k_e rfl ?_
   refine GWP.block ?_
   refine GWP.seq ?_
   refine GWP.seq ?_
   refine GWP.region ?_
   refine k_m rfl ?_
   refine rC (ld_ ty_plain_3 rfl) ?_
   refine rC (Calm.bin rfl rfl b_leq) ?_
   refine k_n ?_
   refine GWP.sub [(54,_),(53,_),(4,_),(5,_),(8,_),(10,_),(11,_),(12,_),(57,_)] ⟨rfl,rfl,rfl,rfl,rfl,rfl,rfl,rfl,rfl,trivial⟩ ?_
   refine GWP.condT rfl (by first|rfl|(simp;done)|(simp;omega)) ?_
   refine GWP.exit ?_
   refine athen_exit ?_
   refine ain_other rfl ?_
   exact .inr ⟨rfl,ob,Mem.Less.refl _,l1,l2,fun i hi=>l4 i hi (by omega)⟩
  ·by_cases hin:N-k≤a+m
   ·have hne:r≠p:=fun e=>by have:=(hcol.f0 (r:=r) (by omega)).1 e;omega
    have hby:=hcol.row (r:=r) (by omega) hne
    rw [hfr,byT_getD] at hby
    obtain ⟨y,hy⟩ : ∃ y,y=byT x.col (Ord.atR p r):=⟨_,rfl⟩
    have hy256:y<256:=by rw [hy];exact byT_lt _ _
    obtain ⟨j,hj⟩ : ∃ j,j=N-k-1-a:=⟨_,rfl⟩
    have hjm:j<m:=by omega
    refine GWP.seq ?_
    refine GWP.region ?_
    refine k_e rfl ?_
    refine GWP.sub [(54,_),(53,_),(4,_),(5,_),(8,_),(10,_),(11,_)] ⟨rfl,rfl,rfl,rfl,rfl,rfl,rfl,trivial⟩ ?_
    refine GWP.region ?_
    refine k_e rfl ?_
    refine GWP.block ?_
    refine GWP.seq ?_
    refine GWP.seq ?_
    refine GWP.region ?_
    refine k_m rfl ?_
    refine rC (ld_ ty_plain_3 rfl) ?_
    refine rC (Calm.bin rfl rfl b_leq) ?_
    refine k_n ?_
    refine GWP.sub [(54,_),(53,_),(4,_),(5,_),(8,_),(10,_),(11,_),(12,_),(57,_)] ⟨rfl,rfl,rfl,rfl,rfl,rfl,rfl,rfl,rfl,trivial⟩ ?_
    refine GWP.condF rfl (by first|rfl|(simp;done)|(simp;omega)) ?_
    refine GWP.skip ?_
    refine athen_n ?_
    refine GWP.seq ?_
    refine GWP.region ?_
    refine k_m rfl ?_
    refine rC (ld_ ty_plain_3 rfl) ?_
    refine rC (ld_ ty_plain_3 rfl) ?_
    refine rC (Calm.bin rfl rfl b_add_i64) ?_
    refine rC (Calm.bin rfl rfl b_leq) ?_
    refine k_n ?_
    refine GWP.sub [(54,_),(53,_),(4,_),(5,_),(8,_),(10,_),(11,_),(12,_),(57,_),(62,_)] ⟨rfl,rfl,rfl,rfl,rfl,rfl,rfl,rfl,rfl,rfl,trivial⟩ ?_
    refine GWP.condT rfl (by first|rfl|(simp;done)|(simp;omega)) ?_
    refine GWP.draw [(0,true),(1,true),(2,true),(3,true),(4,true),(5,true),(6,true),(7,false),(8,true),(9,false)] [9] mixed (by kernel_rfl) ?_
    refine dC (hc:=ld_ ty_plain_107 rfl) (h:=?_)
    refine dP (hc:=fun _=>Calm.move rfl) (h:=?_)
    refine dP (hc:=fun _=>Calm.bin rfl rfl b_sub_i64) (h:=?_)
    refine dC (hc:=ld_ ty_plain_3 rfl) (h:=?_)
    refine dP (hc:=fun _=>Calm.bin rfl rfl b_sub_i64) (h:=?_)
    refine dC (hc:=ld_ ty_plain_85 rfl) (h:=?_)
    refine dP (hc:=fun _=>Calm.move rfl) (h:=?_)
    refine draw_only rfl ?_
    refine ARun.call (lit_lt rfl) go_86 rfl (fd_byteOf _ b x.col p r _ hBk rfl (by omega) hple hne hs) ?_
    rintro _ S9 ⟨rfl,e9⟩
    rw [e9,← hy];clear e9 S9
    refine arun_nil ⟨fun _=>less_,?_⟩
    refine dP (hc:=fun _=>Calm.indexS Try.underlying107 ty_size_5 rfl rfl (by omega) (by omega)) (h:=?_)
    refine draw_only rfl ?_
    refine ARun.store1 rfl rfl ty_size_5 rfl own_ (by rw [List.length_map];omega) rfl ?_
    try simp only [k_ms,k_sz,k_ss,k_za,Nat.reduceAdd]
    refine arun_nil ⟨fun h=>absurd h (by decide),?_⟩
    refine draw_nil ?_
    refine ain_n ?_
    rw [show ((((N-k:Nat):Int)-1-(a:Int)).toNat*1)=j by omega,show (ob.map encB).set j (.int .u8 (y:Int))=(ob.set j y).map encB from (List.map_set ..).symm]
    exact .inl ⟨rfl,ob.set j y,Mem.Less.refl _,by rw [List.length_set];exact l1,fun z hz=>by rcases List.mem_or_eq_of_mem_set hz with h | h;exact l2 z h;rw [h];exact hy256,by omega,told_ext hjm l1 (fun i hi h1 h2=>l4 i hi h1) (by rw [hj,show a+(N-k-1-a)=N-k-1 by omega,← hby];exact hy) (hne:=fun i hi h1 h2=>by omega)⟩
   ·skip
    refine GWP.seq ?_
    refine GWP.region ?_
    refine k_e rfl ?_
    refine GWP.sub [(54,_),(53,_),(4,_),(5,_),(8,_),(10,_),(11,_)] ⟨rfl,rfl,rfl,rfl,rfl,rfl,rfl,trivial⟩ ?_
    refine GWP.region ?_
    refine k_e rfl ?_
    refine GWP.block ?_
    refine GWP.seq ?_
    refine GWP.seq ?_
    refine GWP.region ?_
    refine k_m rfl ?_
    refine rC (ld_ ty_plain_3 rfl) ?_
    refine rC (Calm.bin rfl rfl b_leq) ?_
    refine k_n ?_
    refine GWP.sub [(54,_),(53,_),(4,_),(5,_),(8,_),(10,_),(11,_),(12,_),(57,_)] ⟨rfl,rfl,rfl,rfl,rfl,rfl,rfl,rfl,rfl,trivial⟩ ?_
    refine GWP.condF rfl (by first|rfl|(simp;done)|(simp;omega)) ?_
    refine GWP.skip ?_
    refine athen_n ?_
    refine GWP.seq ?_
    refine GWP.region ?_
    refine k_m rfl ?_
    refine rC (ld_ ty_plain_3 rfl) ?_
    refine rC (ld_ ty_plain_3 rfl) ?_
    refine rC (Calm.bin rfl rfl b_add_i64) ?_
    refine rC (Calm.bin rfl rfl b_leq) ?_
    refine k_n ?_
    refine GWP.sub [(54,_),(53,_),(4,_),(5,_),(8,_),(10,_),(11,_),(12,_),(57,_),(62,_)] ⟨rfl,rfl,rfl,rfl,rfl,rfl,rfl,rfl,rfl,rfl,trivial⟩ ?_
    refine GWP.condF rfl (by first|rfl|(simp;done)|(simp;omega)) ?_
    refine GWP.skip ?_
    refine ain_n ?_
    exact .inl ⟨rfl,ob,Mem.Less.refl _,l1,l2,by omega,fun i hi h=>by omega⟩
 case stop =>
  rintro D k Z W hk ⟨ob,hl,l1,l2,l3⟩ hst hD hK
  replace hst:=hst.less hl
  clear hl hs0
  have ee:bs (ofN ob)=t.extract a (a+m):=ext_ob l1 (by omega) (by rw [← hT];exact l3)
  have hcs:(t.extract a (a+m)).size≤281474976710656:=by rw [← ee,bs_size];unfold ofN;rw [List.length_map];omega
  refine GWP.endM (rs:=[.tmp 6,.tmp 7]) (N:=75) rfl hst hD hK (hg.sub (show Sub [(4,.pointer (some ⟨b4,0,none⟩)),(5,.pointer (some ⟨b5,0,none⟩)),(8,.pointer (some ⟨b8,0,none⟩)),(10,.pointer (some ⟨b10,0,none⟩))] _ from ⟨rfl,rfl,rfl,rfl,trivial⟩)) ?_
  refine GWP.seq ?_
  refine GWP.region ?_
  refine rC (ld_ ty_plain_107 rfl) ?_
  refine rC (Calm.as (show Value.string (bs (ofN ob)) = .string (t.extract a (a+m)) by rw [ee]) (Calm.toStr (l:=ofN ob) ty_bytes_107 ty_str_9 rfl (by unfold ofN;rw [List.length_map];exact l1) (by rw [← ofN_cells ob l2];exact rds_own (r:=⟨5,ob.map encB,m⟩) (Mem.own_set_same _ _ _)))) ?_
  refine ARun.call (lit_lt rfl) go_87 rfl (ACall.of_calls (fun w=>lib_Clone (t.extract a (a+m)) w hcs)) ?_
  rintro _ S9 ⟨rfl,e9⟩
  rw [e9];clear e9 S9
  refine k_s rfl (k_e rfl ?_)
  refine GWP.sub [(4,_),(5,_),(8,_),(10,_),(6,_),(7,_)] ⟨rfl,rfl,rfl,rfl,rfl,rfl,trivial⟩ ?_
  refine GWP.ret ?_
  refine ⟨_,S,⟨_,_,rfl,⟨_,_,rfl,rfl,rfl⟩,rfl⟩,hSM.trans less_,?_⟩
  exact ⟨rfl,rfl⟩
end Go.Proofs.Ytgidjbpgkeemiaa
namespace Go.Proofs.Ytgidjbpgkeemiaa
open Go.RowKit
open Mv
namespace Mv
/-- No block of what is known to be fixed. -/
def RoFree (M : Mem) (b : Nat) : Prop := ∀ a v, M.ro a = some v → a.block ≠ b
/-- A slice that grows, and is owned. -/
structure Gro (M : Mem) (o : Option (Nat × Nat)) (e : TypeId) (cs : List Value) : Prop where
  nil : o = none → cs = []
  own : ∀ b c, o = some (b, c) → M.own b = some ⟨e, cs, c⟩ ∧ cs.length ≤ c ∧ RoFree M b
def Away (o : Option (Nat × Nat)) (b : Nat) : Prop := ∀ q c, o = some (q, c) → q ≠ b
def Apart (o o' : Option (Nat × Nat)) : Prop := ∀ q c, o = some (q, c) → Away o' q
theorem Away.nil (b : Nat) : Away none b := fun q c h => by cases h
theorem Apart.nil (o : Option (Nat × Nat)) : Apart none o := fun q c h => by cases h
theorem Apart.symm {o o' : Option (Nat × Nat)} (h : Apart o o') : Apart o' o := fun q c e q' c' e' h' => h q' c' e' q c e h'.symm
theorem Gro.empty (M : Mem) (e : TypeId) : Gro M none e [] := ⟨fun _ => rfl, fun b c h => by cases h⟩
theorem Gro.set {M : Mem} {o : Option (Nat × Nat)} {e : TypeId} {cs : List Value} (h : Gro M o e cs) {b : Nat} (r : Blk) (ha : Away o b) : Gro (M.set b r) o e cs :=
 ⟨h.nil,fun q c eq=>⟨(Mem.own_set_other _ _ (ha q c eq)).trans (h.own q c eq).1,(h.own q c eq).2.1,(h.own q c eq).2.2⟩⟩
/-- What a step leaves as it was: all that is owned, but one slice's block; b is new to it. -/
structure Left (M M' : Mem) (o : Option (Nat × Nat)) (b : Nat) : Prop where
  own : ∀ x r, M.own x = some r → (∀ c, o ≠ some (x, c)) → M'.own x = some r ∧ x ≠ b
  ro : M'.ro = M.ro
theorem Left.gro {M M' : Mem} {o o' : Option (Nat × Nat)} {b : Nat} {e : TypeId} {cs : List Value} (h : Left M M' o b) (hg : Gro M o' e cs) (ha : Apart o o') : Gro M' o' e cs ∧ Away o' b := by
 refine ⟨⟨hg.nil,fun q c e=>?_⟩,fun q c e=>?_⟩
 ·obtain ⟨h1,h2,h3⟩:=hg.own q c e
  exact ⟨(h.own q _ h1 (fun c' e'=>ha q c' e' q c e rfl)).1,h2,fun a v hv=>h3 a v (by rw [← h.ro];exact hv)⟩
 ·obtain ⟨h1,_⟩:=hg.own q c e
  exact (h.own q _ h1 (fun c' e'=>ha q c' e' q c e rfl)).2
theorem Left.less {B M M' : Mem} {o : Option (Nat × Nat)} {b : Nat} (h : Left M M' o b) (hB : B.Less M) (ho : ∀ q c, o = some (q, c) → B.own q = none) : B.Less M' ∧ B.own b = none := by
 have key:∀ x r,B.own x=some r→M'.own x=some r∧x≠b:=fun x r hx=>h.own x r (hB.1 x r hx) (fun c e=>by have:=ho x c e;rw [hx] at this;cases this)
 refine ⟨⟨fun x r hx=>(key x r hx).1,hB.2.trans h.ro.symm⟩,?_⟩
 cases hb:B.own b with
 | none=>rfl
 | some r=>exact absurd rfl (key b r hb).2
theorem Left.at_ {M M' : Mem} {o : Option (Nat × Nat)} {b x : Nat} {r : Blk} (h : Left M M' o b) (hx : M.own x = some r) (ha : Away o x) : M'.own x = some r ∧ x ≠ b :=
 h.own x r hx fun c e=>ha x c e rfl
/-- The memory without a growing slice's block. -/
def delo (M : Mem) : Option (Nat × Nat) → Mem
  | none => M
  | some q => M.del q.1
theorem delo_ro (M : Mem) (o : Option (Nat × Nat)) : (delo M o).ro = M.ro := by cases o <;> rfl
theorem delo_own {M : Mem} {o : Option (Nat × Nat)} {x : Nat} {r : Blk} (hx : M.own x = some r) (ho : ∀ c, o ≠ some (x, c)) : (delo M o).own x = some r := by
 cases o with
 | none=>exact hx
 | some q=>exact (Mem.own_del_other _ (fun e=>ho q.2 (by rw [e]))).trans hx
section
variable {P : Program} {N : Nat} {E : Env} {M : Mem} {ops : Array Oper} {ty : TypeId} {pos : String} {aft : Array Edge}
theorem ARun.appendG {os : List Oper} {K : Env → Mem → Prop} {T e : TypeId} {y : Nat} {z : Value} {x1 x2 : Operand} {o : Option (Nat × Nat)} {n : Nat} {cs news : List Value} {a2 : Addr} {m c2 d : Nat} (hn : d < N) (hT : slT P T = some (e, 1, y, [z]))
  (hx:ev E x1=some (outV o n)) (hcs:cs.length=n) (hg:Gro M o e cs)
  (hy:ev E x2=some (.slice (some a2) m c2)) (hnews:M.rds a2 news) (hnl:news.length=m) (hm:0<m) (h1:∀ v ∈ news,v.oneCell'=true) (hfit:(n+m)*y≤140737488355328) (h63:n+m≤9223372036854775807)
  (h:∀ b c M',Gro M' (some (b,c)) e (cs ++ news)→Left M M' o b→ARun P N ops os K ((d,outV (some (b,c)) (n+m)) :: E) M') :
  ARun P N ops (⟨some d,.call ⟨.builtin .append,#[x1,x2],#[T,T]⟩,ty,pos,aft,none⟩ :: os) K E M:=by
 refine ARun.appendO (S:=delo M o) hn hT hx hcs ⟨fun ho=>?_,fun b c ho=>?_⟩ hy hnews hnl hm h1 hfit h63 fun b c hok=>?_
 ·subst ho;exact ⟨hg.nil rfl,Mem.Less.refl _⟩
 ·subst ho;exact ⟨(hg.own b c rfl).1,Mem.Less.refl _⟩
 ·obtain ⟨hf,hbc⟩:=hok.own b c rfl
  refine h b c _ ⟨fun e=>(by cases e),fun b' c' e=>?_⟩ ⟨fun x r hx ho=>?_,?_⟩
  ·cases e
   exact ⟨Mem.own_set_same _ _ _,by rw [List.length_append];omega,fun a v hv=>hf.2 a v hv⟩
  ·have hd:=delo_own hx ho
   have hne:x≠b:=hf.ne hd
   exact ⟨(Mem.own_set_other _ _ hne).trans hd,hne⟩
  ·show (delo M o).ro=M.ro;exact delo_ro M o
end
end Mv
end Go.Proofs.Ytgidjbpgkeemiaa
namespace Go.Proofs.Ytgidjbpgkeemiaa
open Go.RowKit Go.Shelf
open Mv Num Loser Srt
def bkI (s : ByteArray) (p : Nat) (vf vm vp : Value) : Blk := ⟨48, ixC ⟨s, p, [], [], ByteArray.empty, 0, [], []⟩ vf vm (.slice none 0 0) vp, 8⟩
def bkN (F : Nat → Nat) : Blk := ⟨3, (tb 256 F).map gI, 256⟩
def bkZ : Blk := ⟨48, ixC zix (.slice none 0 0) (.slice none 0 0) (.slice none 0 0) (.slice none 0 0), 8⟩
structure EI (s : ByteArray) (p : Nat) (c : List Nat) (vf : Value) (B0 : Mem) (b4 b8 b53 : Nat) (MB M : Mem) (om : Option (Nat × Nat)) (hs : List Value) (ob : Option (Nat × Nat)) (bl : List Bool) (op : Option (Nat × Nat)) (pl : List Nat) (F : Nat → Nat) : Prop where
  base : B0.Less MB
  less : MB.Less M
  n4 : MB.own b4 = none
  n8 : MB.own b8 = none
  n53 : MB.own b53 = none
  ne : b8 ≠ b53
  ne8 : b8 ≠ b4
  ne53 : b53 ≠ b4
  nm : ∀ q k, om = some (q, k) → MB.own q = none
  nb : ∀ q k, ob = some (q, k) → MB.own q = none
  np : ∀ q k, op = some (q, k) → MB.own q = none
  m4 : Away om b4
  b4' : Away ob b4
  p4 : Away op b4
  m8 : Away om b8
  m53 : Away om b53
  b8' : Away ob b8
  b53' : Away ob b53
  p8 : Away op b8
  p53 : Away op b53
  amb : Apart om ob
  amp : Apart om op
  abp : Apart ob op
  o4 : M.own b4 = some bkZ
  o8 : M.own b8 = some (bkI s p vf (outV om hs.length) (outV op pl.length))
  o53 : M.own b53 = some (bkN F)
  gm : Gro M om 24 hs
  gb : Gro M ob 4 (bl.map gB)
  gp : Gro M op 3 (pl.map gI)
  rows : ∀ j (h : j < hs.length), IdxR MB hs[j] (mkRow c p j)
section
variable {s : ByteArray} {p : Nat} {c : List Nat} {vf : Value} {B0 : Mem} {b4 b8 b53 : Nat} {MB M M' : Mem} {om ob op : Option (Nat × Nat)} {hs : List Value} {bl : List Bool} {pl : List Nat} {F : Nat → Nat}
theorem gro_away {o : Option (Nat × Nat)} {e : TypeId} {cs : List Value} {x : Nat} (h : Gro M o e cs) (hx : Fresh M x) : Away o x := fun q k e' => hx.ne (h.own q k e').1
theorem EI.temp (h : EI s p c vf B0 b4 b8 b53 MB M om hs ob bl op pl F) {x : Nat} (hx : Fresh M x) (r : Blk) : EI s p c vf B0 b4 b8 b53 MB (M.set x r) om hs ob bl op pl F :=
 { h with
  less:=h.less.trans (Mem.less_set _ _ _ hx.1)
  o4:=(Mem.own_set_other _ _ (hx.ne h.o4)).trans h.o4
  o8:=(Mem.own_set_other _ _ (hx.ne h.o8)).trans h.o8
  o53:=(Mem.own_set_other _ _ (hx.ne h.o53)).trans h.o53
  gm:=h.gm.set r (gro_away h.gm hx)
  gb:=h.gb.set r (gro_away h.gb hx)
  gp:=h.gp.set r (gro_away h.gp hx) }
theorem set_less {A B : Mem} {x : Nat} {r : Blk} (h : A.Less B) : (A.set x r).Less (B.set x r) := ⟨fun b r' hb => by
 by_cases e:b=x
 ·subst e;rw [Mem.own_set_same] at hb ⊢;exact hb
 ·rw [Mem.own_set_other _ _ e] at hb ⊢;exact h.1 b r' hb,h.2⟩
theorem EI.clone (h : EI s p c vf B0 b4 b8 b53 MB M om hs ob bl op pl F) {x : Nat} (hx : Fresh M x) (r : Blk) : EI s p c vf B0 b4 b8 b53 (MB.set x r) (M.set x r) om hs ob bl op pl F := by
 have h1:=h.temp hx r
 have hf:MB.own x=none:=(hx.less h.less).1
 exact { h1 with
  base:=h.base.trans (Mem.less_set _ _ _ hf)
  less:=set_less h.less
  n4:=(Mem.own_set_other _ _ (hx.ne h.o4)).trans h.n4
  n8:=(Mem.own_set_other _ _ (hx.ne h.o8)).trans h.n8
  n53:=(Mem.own_set_other _ _ (hx.ne h.o53)).trans h.n53
  nm:=fun q k e=>(Mem.own_set_other _ _ (gro_away h.gm hx q k e)).trans (h.nm q k e)
  nb:=fun q k e=>(Mem.own_set_other _ _ (gro_away h.gb hx q k e)).trans (h.nb q k e)
  np:=fun q k e=>(Mem.own_set_other _ _ (gro_away h.gp hx q k e)).trans (h.np q k e)
  rows:=fun j hj=>(h.rows j hj).less (Mem.less_set _ _ _ hf) }
theorem EI.marks (h : EI s p c vf B0 b4 b8 b53 MB M om hs ob bl op pl F) {b k : Nat} {v : Value} (hl : Mv.Left M M' om b) (hg : Gro M' (some (b, k)) 24 (hs ++ [v])) (hv : IdxR MB v (mkRow c p hs.length)) : EI s p c vf B0 b4 b8 b53 MB (M'.set b8 (bkI s p vf (outV (some (b, k)) (hs.length + 1)) (outV op pl.length))) (some (b, k)) (hs ++ [v]) ob bl op pl F := by
 obtain ⟨l1,l2⟩:=hl.less h.less h.nm
 obtain ⟨q5,q6⟩:=hl.at_ h.o4 h.m4
 obtain ⟨q1,q2⟩:=hl.at_ h.o8 h.m8
 obtain ⟨q3,q4⟩:=hl.at_ h.o53 h.m53
 obtain ⟨g1,g2⟩:=hl.gro h.gb h.amb
 obtain ⟨g3,g4⟩:=hl.gro h.gp h.amp
 exact { h with
  less:=⟨fun x r hx=>(Mem.own_set_other _ _ (fun e=>by subst e;rw [h.n8] at hx;cases hx)).trans (l1.1 x r hx),l1.2⟩
  nm:=fun q k' e=>by cases e;exact l2
  m4:=fun q k' e=>by cases e;exact Ne.symm q6
  o4:=(Mem.own_set_other _ _ (Ne.symm h.ne8)).trans q5
  m8:=fun q k' e=>by cases e;exact Ne.symm q2
  m53:=fun q k' e=>by cases e;exact Ne.symm q4
  amb:=fun q k' e=>by cases e;exact g2
  amp:=fun q k' e=>by cases e;exact g4
  o8:=by rw [List.length_append];exact Mem.own_set_same _ _ _
  o53:=(Mem.own_set_other _ _ (Ne.symm h.ne)).trans q3
  gm:=hg.set _ (fun q k' e=>by cases e;exact Ne.symm q2)
  gb:=g1.set _ h.b8'
  gp:=g3.set _ h.p8
  rows:=fun j hj=>by
   rcases Nat.lt_or_ge j hs.length with hj' | hj'
   ·rw [List.getElem_append_left hj'];exact h.rows j hj'
   ·have e:j=hs.length:=by rw [List.length_append] at hj;simp at hj;omega
    subst e
    rw [List.getElem_append_right (Nat.le_refl _)];simpa using hv }
theorem EI.bools (h : EI s p c vf B0 b4 b8 b53 MB M om hs ob bl op pl F) {b k : Nat} {x : Bool} (hl : Mv.Left M M' ob b) (hg : Gro M' (some (b, k)) 4 (bl.map gB ++ [gB x])) : EI s p c vf B0 b4 b8 b53 MB M' om hs (some (b, k)) (bl ++ [x]) op pl F := by
 obtain ⟨l1,l2⟩:=hl.less h.less h.nb
 obtain ⟨q5,q6⟩:=hl.at_ h.o4 h.b4'
 obtain ⟨q1,q2⟩:=hl.at_ h.o8 h.b8'
 obtain ⟨q3,q4⟩:=hl.at_ h.o53 h.b53'
 obtain ⟨g1,g2⟩:=hl.gro h.gm h.amb.symm
 obtain ⟨g3,g4⟩:=hl.gro h.gp h.abp
 exact { h with
  less:=l1
  nb:=fun q k' e=>by cases e;exact l2
  b4':=fun q k' e=>by cases e;exact Ne.symm q6
  o4:=q5
  b8':=fun q k' e=>by cases e;exact Ne.symm q2
  b53':=fun q k' e=>by cases e;exact Ne.symm q4
  amb:=fun q k' e q' k'' e'=>by cases e';exact Ne.symm (g2 q k' e)
  abp:=fun q k' e=>by cases e;exact g4
  o8:=q1
  o53:=q3
  gm:=g1
  gb:=by rw [List.map_append];exact hg
  gp:=g3 }
theorem EI.places (h : EI s p c vf B0 b4 b8 b53 MB M om hs ob bl op pl F) {b k a : Nat} (hl : Mv.Left M M' op b) (hg : Gro M' (some (b, k)) 3 (pl.map gI ++ [gI a])) : EI s p c vf B0 b4 b8 b53 MB (M'.set b8 (bkI s p vf (outV om hs.length) (outV (some (b, k)) (pl.length + 1)))) om hs ob bl (some (b, k)) (pl ++ [a]) F := by
 obtain ⟨l1,l2⟩:=hl.less h.less h.np
 obtain ⟨q5,q6⟩:=hl.at_ h.o4 h.p4
 obtain ⟨q1,q2⟩:=hl.at_ h.o8 h.p8
 obtain ⟨q3,q4⟩:=hl.at_ h.o53 h.p53
 obtain ⟨g1,g2⟩:=hl.gro h.gm h.amp.symm
 obtain ⟨g3,g4⟩:=hl.gro h.gb h.abp.symm
 exact { h with
  less:=⟨fun x r hx=>(Mem.own_set_other _ _ (fun e=>by subst e;rw [h.n8] at hx;cases hx)).trans (l1.1 x r hx),l1.2⟩
  np:=fun q k' e=>by cases e;exact l2
  p4:=fun q k' e=>by cases e;exact Ne.symm q6
  o4:=(Mem.own_set_other _ _ (Ne.symm h.ne8)).trans q5
  p8:=fun q k' e=>by cases e;exact Ne.symm q2
  p53:=fun q k' e=>by cases e;exact Ne.symm q4
  amp:=fun q k' e q' k'' e'=>by cases e';exact Ne.symm (g2 q k' e)
  abp:=fun q k' e q' k'' e'=>by cases e';exact Ne.symm (g4 q k' e)
  o8:=by rw [List.length_append];exact Mem.own_set_same _ _ _
  o53:=(Mem.own_set_other _ _ (Ne.symm h.ne)).trans q3
  gm:=g1.set _ h.m8
  gb:=g3.set _ h.b8'
  gp:=by rw [List.map_append];exact hg.set _ (fun q k' e=>by cases e;exact Ne.symm q2) }
theorem EI.count (h : EI s p c vf B0 b4 b8 b53 MB M om hs ob bl op pl F) (G : Nat → Nat) : EI s p c vf B0 b4 b8 b53 MB (M.set b53 (bkN G)) om hs ob bl op pl G :=
 { h with
  less:=⟨fun x r hx=>(Mem.own_set_other _ _ (fun e=>by subst e;rw [h.n53] at hx;cases hx)).trans (h.less.1 x r hx),h.less.2⟩
  o4:=(Mem.own_set_other _ _ (Ne.symm h.ne53)).trans h.o4
  o8:=(Mem.own_set_other _ _ h.ne).trans h.o8
  o53:=Mem.own_set_same _ _ _
  gm:=h.gm.set _ h.m53
  gb:=h.gb.set _ h.b53'
  gp:=h.gp.set _ h.p53 }
theorem EI.same (h : EI s p c vf B0 b4 b8 b53 MB M om hs ob bl op pl F) {G : Nat → Nat} (e : bkN F = bkN G) : EI s p c vf B0 b4 b8 b53 MB M om hs ob bl op pl G := { h with o53 := e ▸ h.o53 }
theorem gro_sl {α : Type} {g : α → Value} {A : Mem} {o : Option (Nat × Nat)} {e : TypeId} {l : List α} (h : Gro A o e (l.map g)) (hm : l.length ≤ 9223372036854775807) : Sl 1 (fun x => [g x]) A (outV o l.length) l := by
 cases o with
 | none =>
  have:=h.nil rfl
  obtain rfl:l = []:=List.eq_nil_of_length_eq_zero (by have:=congrArg List.length this;simpa using this)
  exact Sl.nil _ _ _
 | some q =>
  obtain ⟨h1,h2,_⟩:=h.own q.1 q.2 rfl
  exact Sl.own1 (g:=g) (l:=l) h1 List.prefix_rfl rfl (by rw [List.length_map] at h2;exact h2) hm
theorem less_out {A B : Mem} {x : Nat} {r : Blk} (h : A.Less B) (hx : A.own x = none) : A.Less (B.set x r) :=
 ⟨fun y r' hy=>(Mem.own_set_other _ _ (fun e=>by subst e;rw [hx] at hy;cases hy)).trans (h.1 y r' hy),h.2⟩
theorem set_own {M : Mem} {b : Nat} {r : Blk} (h : M.own b = some r) : M.set b r = M := by
 cases M with
 | mk f g =>
  unfold Mem.set
  congr 1
  funext k
  by_cases e:k=b
  ·subst e;rw [if_pos rfl];exact h.symm
  ·rw [if_neg e]
theorem gro_del {A : Mem} {o : Option (Nat × Nat)} {e : TypeId} {cs : List Value} {b : Nat} (h : Gro A o e cs) (ha : Away o b) : Gro (A.del b) o e cs :=
 ⟨h.nil,fun q k eq=>⟨(Mem.own_del_other _ (ha q k eq)).trans (h.own q k eq).1,(h.own q k eq).2.1,(h.own q k eq).2.2⟩⟩
theorem less_delR {A B : Mem} {x : Nat} (h : A.Less B) (hx : A.own x = none) : A.Less (B.del x) :=
 ⟨fun y r' hy=>(Mem.own_del_other _ (fun e=>by subst e;rw [hx] at hy;cases hy)).trans (h.1 y r' hy),h.2⟩
theorem EI.cut (h : EI s p c vf B0 b4 b8 b53 MB M om hs ob bl op pl F) (f4 : Fresh B0 b4) (f8 : Fresh B0 b8) : ∃ Md, M = (Md.set b4 bkZ).set b8 (bkI s p vf (outV om hs.length) (outV op pl.length)) ∧ Fresh Md b4 ∧ Fresh Md b8 ∧ MB.Less Md ∧ Gro Md om 24 hs ∧ Gro Md ob 4 (bl.map gB) ∧ Gro Md op 3 (pl.map gI) := by
 have hro:M.ro=B0.ro:=(h.base.trans h.less).2.symm
 refine ⟨(M.del b8).del b4,?_,⟨by simp [Mem.del],fun a v hv=>f4.2 a v (by rw [← hro];exact hv)⟩,⟨by simp [Mem.del],fun a v hv=>f8.2 a v (by rw [← hro];exact hv)⟩,less_delR (less_delR h.less h.n8) h.n4,gro_del (gro_del h.gm h.m8) h.m4,gro_del (gro_del h.gb h.b8') h.b4',gro_del (gro_del h.gp h.p8) h.p4⟩
 have h4:(M.del b8).own b4=some bkZ:=(Mem.own_del_other _ (Ne.symm h.ne8)).trans h.o4
 rw [del_set,set_own h4,del_set,set_own h.o8]
theorem EI.done (h : EI s p c vf B0 b4 b8 b53 MB M om hs ob bl op pl F) {Md : Mem} (hl : MB.Less Md) (gm : Gro Md om 24 hs) (gp : Gro Md op 3 (pl.map gI)) (hm : hs.length = c.length / 16 + 1) (h1 : hs.length ≤ 9223372036854775807) (h2 : pl.length ≤ 9223372036854775807) :
  SlOf IdxR Md (outV om hs.length) (mksP c p)∧IdxR Md (outV op pl.length) pl:=by
 refine ⟨⟨hs,by rw [mksP_length];exact hm,?_,fun i hi hi'=>?_⟩,gro_sl (g:=gI) gp h2⟩
 ·have:=gro_sl (g:=fun x:Value=>x) (l:=hs) (by rw [List.map_id'];exact gm) h1
  exact this
 ·have e:(mksP c p)[i]=mkRow c p i:=by simp [mksP]
  rw [e]
  exact (h.rows i hi').less hl
end
end Go.Proofs.Ytgidjbpgkeemiaa
namespace Go.Proofs.Ytgidjbpgkeemiaa
open Go.RowKit Go.Shelf
open Mv Num Loser Srt
set_option maxRecDepth 8000
set_option maxHeartbeats 1000000 in
theorem rfd_Ends (s : ByteArray) (S : Mem) (hs : s.size ≤ 4096) :
  ACall Try.prog 74 #[.string s] S fun r S'=>S.Less S'∧IdxR S' r (Fd.plc (numsT s)):=by
 have hpl:Fd.plc (numsT s)=s.size :: Ord.endsR (numsT s) s.size:=by unfold Fd.plc;rw [numsT_length]
 have hel:(Ord.endsR (numsT s) s.size).length=s.size:=by have:=Fd.plc_length (numsT s);rw [hpl,List.length_cons,numsT_length] at this;omega
 refine ACall.enter (rs:=[.tmp 2]) 16 [(0,.string s)] Try.func74 rfl rfl (Nat.le_of_ble_eq_true rfl) rfl ⟨rfl,trivial⟩ ?_
 refine k_a (k_e rfl (k_a (k_m rfl ?_)))
 refine ARun.call (lit_lt rfl) go_88 rfl (rr_Numbers s _ (by omega)) ?_
 rintro _ S1 ⟨hS1,hu1⟩
 refine ARun.call (lit_lt rfl) go_48 rfl (rr_Ends _ (numsT s) _ hu1) ?_
 rintro _ S2 hE
 obtain ⟨_,u2,rfl,hS2,hu2⟩:=hE.resolve_right (fun h=>by have:=h.1;rw [numsT_length] at this;omega)
 rw [numsT_length] at hu2
 have hSS2:=hS1.trans hS2
 clear hS1 hS2 hu1 hE
 refine k_m rfl ?_
 refine rC (Calm.extract rfl rfl) ?_
 refine rC (Calm.extract rfl rfl) ?_
 refine k_s rfl (k_e rfl ?_)
 refine k_u [(0,_),(2,_),(3,_)] ?_
 refine k_a (k_m rfl ?_)
 refine rC (Calm.lenStr (strT_spec ty_str_9) rfl) ?_
 refine ARun.build1s (lit_lt rfl) ty_sl_24 rfl rfl ?_
 intro b13 f13
 have g13:=f13
 repeat ((with_reducible replace g13:=fresh_set g13);obtain ⟨g13,_⟩:=g13)
 refine k_m rfl ?_
 refine ARun.appendOK (n:=1) (o:=some (b13,1)) (k:=1) (m:=s.size) (cs:=[gI s.size]) (news:=(Ord.endsR (numsT s) s.size).map gI) (lit_lt rfl) ty_sl_24 rfl rfl rfl (okO_own f13 (Nat.le_refl _)) (appN1 (okO_own f13 (Nat.le_refl _)) rfl) rfl (Src.less (Src.cast_len (src_sl hu2) hel) (Mem.less_set _ _ _ f13.1)) (by rw [List.length_map,Nat.mul_one,hel]) (one_cells (fun _=>rfl) _) (by omega) (by omega) ?_
 intro o1 ho1
 rw [outN_one]
 refine k_e rfl ?_
 refine k_u [(0,_),(2,_),(3,_)] ?_
 refine AWP.ret ?_
 refine ⟨_,_,⟨_,_,rfl,rfl,rfl⟩,Mem.Less.refl _,?_⟩
 exact ⟨hSS2.trans (outM_over ho1),by rw [hpl];exact sl_outV (g:=gI) (l:=s.size :: Ord.endsR (numsT s) s.size) ho1 (by rw [List.length_cons,hel];omega) (by omega)⟩
theorem clt_step (c : List Nat) (i x : Nat) (hi : i < c.length) : clt (c.take (i + 1)) x = if c[i] < x then clt (c.take i) x + 1 else clt (c.take i) x := by
 unfold clt
 rw [List.take_succ_eq_append_getElem hi,List.countP_append,List.countP_singleton]
 by_cases h:c[i]<x
 ·simp [h]
 ·simp [h]
theorem nums_get (s : ByteArray) (k : Nat) (h : k < (numsT s).length) : (numsT s)[k] = byT s k := by rw [← byT_getD, getD_get _ _ _ h]
theorem tb_snoc (n : Nat) (f : Nat → Nat) : (tb n f).map gI ++ [gI (f n)] = (tb (n + 1) f).map gI := by unfold tb; rw [List.range_succ, List.map_append, List.map_append]; rfl
def plN (t : List Nat) (r : Nat) : List Nat := ((Fd.plc t).take r).filter (fun a => decide (a % 16 = 0))
theorem EI.start {s : ByteArray} {p : Nat} {c : List Nat} {vf : Value} {M2 : Mem} {b4 b8 b53 : Nat} {t : List Nat} (h4 : Fresh M2 b4) (h8 : Fresh M2 b8) (h53 : Fresh M2 b53) (e84 : b8 ≠ b4) (e534 : b53 ≠ b4) (hne : b53 ≠ b8) : EI s p c vf M2 b4 b8 b53 M2 (((M2.set b4 bkZ).set b8 (bkI s p vf (outV none 0) (outV none 0))).set b53 (bkN (Fd.mk c p 0))) none [] none ((smpR t).take 0) none (plN t 0) (Fd.mk c p 0) where
 base:=Mem.Less.refl _
 less:=((Mem.less_set _ _ _ h4.1).trans (Mem.less_set _ _ _ (fresh_more h8 e84).1)).trans (Mem.less_set _ _ _ (fresh_more (fresh_more h53 e534) hne).1)
 n4:=h4.1
 n8:=h8.1
 n53:=h53.1
 ne:=Ne.symm hne
 ne8:=e84
 ne53:=e534
 nm:=fun q k e=>by cases e
 nb:=fun q k e=>by cases e
 np:=fun q k e=>by cases e
 m4:=Away.nil _
 b4':=Away.nil _
 p4:=Away.nil _
 m8:=Away.nil _
 m53:=Away.nil _
 b8':=Away.nil _
 b53':=Away.nil _
 p8:=Away.nil _
 p53:=Away.nil _
 amb:=Apart.nil _
 amp:=Apart.nil _
 abp:=Apart.nil _
 o4:=(Mem.own_set_other _ _ (Ne.symm e534)).trans ((Mem.own_set_other _ _ (Ne.symm e84)).trans (Mem.own_set_same _ _ _))
 o8:=(Mem.own_set_other _ _ (Ne.symm hne)).trans (Mem.own_set_same _ _ _)
 o53:=Mem.own_set_same _ _ _
 gm:=Gro.empty _ _
 gb:=Gro.empty _ _
 gp:=Gro.empty _ _
 rows:=fun j h=>absurd h (Nat.not_lt_zero _)
theorem bkN_zero (c : List Nat) (p : Nat) : bkN (Fd.mk c p 0) = ⟨3, madeL [.int .i64 0] 256, 256⟩ := by
 unfold bkN
 congr 1
 rw [madeL_one]
 unfold tb
 rw [List.map_map]
 exact (List.map_congr_left fun x _=>by show gI (Fd.mk c p 0 x)=_;rw [Fd.mk_zero]).trans (by simp [gI,List.map_const'])
set_option maxHeartbeats 8000000 in
theorem rfd_Make (s : ByteArray) (pp : Int) (S : Mem) :
  ACall Try.prog 34 #[.string s,.int .i64 pp] S (MkR s pp S):=by
 by_cases h0:(textP s pp).2=0
 case neg =>
  refine ACall.enter (rs:=[.cell 4 48,.tmp 5]) 107 [(0,.string s),(1,.int .i64 pp)] Try.func34 rfl rfl (Nat.le_of_ble_eq_true rfl) rfl ⟨rfl,rfl,trivial⟩ ?_
  refine k_a ?_
  refine ARun.alloc (lit_lt rfl) ty_zero_48 ?_
  intro b4 f4
  have g4:=f4
  repeat ((with_reducible replace g4:=fresh_set g4);obtain ⟨g4,_⟩:=g4)
  try simp only [k_l1,k_l0,k_za,Nat.reduceAdd]
  refine k_e rfl (k_a (k_m rfl (k_m rfl ?_)))
  refine ARun.call (lit_lt rfl) go_58 rfl (rr_Text s pp _) ?_
  rintro _ S9 ⟨rfl,e9⟩
  rw [e9];clear e9 S9
  refine k_m rfl ?_
  refine rC (Calm.extract rfl rfl) ?_
  refine rC (Calm.extract rfl rfl) ?_
  refine k_s rfl (k_e rfl ?_)
  refine k_u [(0,_),(1,_),(4,_),(5,_),(6,_),(7,_)] ?_
  refine AWP.seq (k_a (k_m rfl ?_))
  refine rC (Calm.bin rfl rfl b_neq) ?_
  refine k_n ?_
  refine k_u [(0,_),(1,_),(4,_),(5,_),(6,_),(7,_),(23,_)] ?_
  refine k_T rfl ?_
  refine k_a ?_
  refine rC (Calm.build (cs:=[_,_,_,_,_,_,_,_]) ty_bld_48 rfl rfl) ?_
  refine k_m rfl ?_
  first|refine k_A rfl rfl ty_size_48 ?_|refine k_B rfl rfl ty_size_48 ?_
  try simp only [k_ms,k_sz,k_ss,k_za,Nat.reduceAdd]
  refine k_e rfl ?_
  refine k_u [(0,_),(1,_),(4,_),(5,_),(6,_),(7,_),(23,_)] ?_
  refine k_r ?_
  refine ⟨_,S,⟨_,_,_,rfl,.inr ⟨ty_agg_48,[_,_,_,_,_,_,_,_],ty_size_48,rds_,rfl⟩,⟨_,_,rfl,rfl,rfl⟩,rfl⟩,less_,?_⟩
  exact .inr ⟨h0,rfl,rfl⟩
 obtain ⟨p,rfl,hp,hs,hcol,htz⟩:=text_col h0
 obtain ⟨tx,htx⟩ : ∃ tx,tx=(textP s (p:Int)).1:=⟨_,rfl⟩
 rw [← htx] at hcol htz
 obtain ⟨t,ht⟩ : ∃ t,t=numsT tx:=⟨_,rfl⟩
 have htl:t.length=s.size:=by rw [ht,numsT_length,htz]
 rw [← ht] at hcol
 obtain ⟨c,hc⟩ : ∃ c,c=numsT s:=⟨_,rfl⟩
 have hcl:c.length=s.size:=by rw [hc,numsT_length]
 refine ACall.enter (rs:=[.cell 4 48,.tmp 5]) 107 [(0,.string s),(1,.int .i64 (p:Int))] Try.func34 rfl rfl (Nat.le_of_ble_eq_true rfl) rfl ⟨rfl,rfl,trivial⟩ ?_
 refine k_a ?_
 refine ARun.alloc (lit_lt rfl) ty_zero_48 ?_
 intro b4 f4
 have g4:=f4
 repeat ((with_reducible replace g4:=fresh_set g4);obtain ⟨g4,_⟩:=g4)
 try simp only [k_l1,k_l0,k_za,Nat.reduceAdd]
 refine k_e rfl (k_a (k_m rfl (k_m rfl ?_)))
 refine ARun.call (lit_lt rfl) go_58 rfl (rr_Text s p _) ?_
 rintro _ S9 ⟨rfl,e9⟩
 rw [e9,h0,← htx];clear e9 S9
 refine k_m rfl ?_
 refine rC (Calm.extract rfl rfl) ?_
 refine rC (Calm.extract rfl rfl) ?_
 refine k_s rfl (k_e rfl ?_)
 refine k_u [(0,_),(1,_),(4,_),(5,_),(6,_),(7,_)] ?_
 refine AWP.seq (k_a (k_m rfl ?_))
 refine rC (Calm.bin rfl rfl b_neq) ?_
 refine k_n ?_
 refine k_u [(0,_),(1,_),(4,_),(5,_),(6,_),(7,_),(23,_)] ?_
 refine k_F rfl ?_
 refine k_k (k_a (k_m rfl (k_m rfl ?_)))
 refine rC (Calm.build (cs:=[_,_,_,_,_,_,_,_]) ty_bld_48 rfl rfl) ?_
 refine ARun.alloc (lit_lt rfl) ty_zero_48 ?_
 intro b8 f8
 have g8:=f8
 repeat ((with_reducible replace g8:=fresh_set g8);obtain ⟨g8,_⟩:=g8)
 try simp only [k_l1,k_l0,k_za,Nat.reduceAdd]
 first|refine k_A rfl rfl ty_size_48 ?_|refine k_B rfl rfl ty_size_48 ?_
 try simp only [k_ms,k_sz,k_ss,k_za,Nat.reduceAdd]
 refine k_n ?_
 refine k_u [(0,_),(1,_),(4,_),(5,_),(6,_),(7,_),(23,_),(8,_)] ?_
 obtain ⟨M7,hM7⟩ : ∃ M7,M7=S.set b4 ⟨48,ixC zix (.slice none 0 0) (.slice none 0 0) (.slice none 0 0) (.slice none 0 0),8⟩:=⟨_,rfl⟩
 refine AWP.seq (k_a (k_e rfl ?_))
 refine AWP.block ?_
 refine AWP.loop (X:=Nat × Option (Nat × Nat)) (fun x=>[(0,.string s),(4,.pointer (some ⟨b4,0,none⟩)),(6,.string tx),(8,.pointer (some ⟨b8,0,none⟩)),(9,.int .i64 x.1)]) (fun x=>outM (M7.set b8 ⟨48,ixC ⟨s,p,[],[],ByteArray.empty,0,[],[]⟩ (outV x.2 x.1) (.slice none 0 0) (.slice none 0 0) (.slice none 0 0),8⟩) x.2 3 ((tb x.1 (clt c)).map gI)) (fun x=>x.1≤257∧OkO (M7.set b8 ⟨48,ixC ⟨s,p,[],[],ByteArray.empty,0,[],[]⟩ (outV x.2 x.1) (.slice none 0 0) (.slice none 0 0) (.slice none 0 0),8⟩) x.2 x.1) (fun x=>257-x.1) ((0,none)) ⟨rfl,rfl,rfl,rfl,rfl,trivial⟩ (by rw [hM7];exact Mem.Less.refl _) (⟨Nat.zero_le _,okO_nil _⟩) ?_
 rintro ⟨i,o⟩ ⟨hi,hO⟩
 (try dsimp only at *)
 have h8:=own_outM (e:=3) (cs:=(tb i (clt c)).map gI) hO (Mem.own_set_same _ _ _)
 by_cases hil:i≤256
 ·refine AWP.seq (k_a (k_m rfl ?_))
  refine rC (Calm.bin rfl rfl b_leq) ?_
  refine k_n ?_
  refine k_u [(0,_),(4,_),(6,_),(8,_),(9,_),(30,_)] ?_
  refine k_T rfl ?_
  refine k_k (AWP.seq ?_)
  refine AWP.block ?_
  refine k_a (k_e rfl (AWP.seq (k_a (k_e rfl ?_))))
  refine AWP.block ?_
  refine AWP.loop (X:=Nat) (fun k=>[(0,.string s),(4,.pointer (some ⟨b4,0,none⟩)),(6,.string tx),(8,.pointer (some ⟨b8,0,none⟩)),(9,.int .i64 i),(10,.int .i64 (clt (c.take k) i:Nat)),(11,.int .i64 k)]) (fun k=>outM (M7.set b8 ⟨48,ixC ⟨s,p,[],[],ByteArray.empty,0,[],[]⟩ (outV o i) (.slice none 0 0) (.slice none 0 0) (.slice none 0 0),8⟩) o 3 ((tb i (clt c)).map gI)) (fun k=>k≤s.size) (fun k=>s.size-k) (0) ⟨rfl,rfl,rfl,rfl,rfl,rfl,rfl,trivial⟩ (Mem.Less.refl _) (Nat.zero_le _) ?_
  rintro k hk
  (try dsimp only at *)
  by_cases hkl:k<s.size
  ·refine AWP.seq (k_a (k_m rfl (k_m rfl ?_)))
   refine rC (Calm.lenStr (strT_spec ty_str_9) rfl) ?_
   refine rC (Calm.bin rfl rfl b_lss) ?_
   refine k_n ?_
   refine k_u [(0,_),(4,_),(6,_),(8,_),(9,_),(10,_),(11,_),(36,_)] ?_
   refine k_T rfl ?_
   have hst:=clt_step c k i (by omega)
   have hle:=clt_le (c.take k) i
   rw [List.length_take] at hle
   obtain ⟨x,hx⟩ : ∃ x,x=byT s k:=⟨_,rfl⟩
   have hx256:x<256:=by rw [hx];exact byT_lt _ _
   have hck:c[k]'(by omega)=x:=by subst hc;rw [hx];exact nums_get s k _
   rw [hck] at hst
   refine k_k (AWP.seq ?_)
   refine AWP.block ?_
   refine k_a (k_m rfl (k_m rfl ?_))
   refine rC (Calm.as ((byT_val s k).trans (by rw [← hx])) (Calm.indexStrN (strT_spec ty_str_9) rfl rfl hkl)) ?_
   refine rC (Calm.conv rfl (by first | exact conv_intW Try.underlying5 Try.underlying3 (IntWalk.i64_in _ (by omega)) | exact conv_intW Try.underlying5 Try.underlying3 (wrap_nb_i64 _) | exact conv_int Try.underlying5 Try.underlying3)) ?_
   refine k_m rfl ?_
   refine rC (Calm.bin rfl rfl b_lss) ?_
   refine k_n ?_
   refine k_u [(0,_),(4,_),(6,_),(8,_),(9,_),(10,_),(11,_),(36,_),(44,_)] ?_
   by_cases hxi:x<i
   ·refine k_T rfl ?_
    rw [if_pos hxi] at hst
    refine AWP.region ?_
    refine k_m rfl ?_
    refine rC (Calm.bin rfl rfl b_add_i64) ?_
    refine k_s rfl ?_
    refine arun_nil ?_
    refine ain_n ?_
    refine athen_n ?_
    refine k_u [(0,_),(4,_),(6,_),(8,_),(9,_),(10,_),(11,_),(36,_),(44,_)] ?_
    refine AWP.region ?_
    refine k_m rfl ?_
    refine rC (Calm.bin rfl rfl b_add_i64) ?_
    refine k_e rfl ?_
    refine ⟨k+1,?_,?_,?_,?_⟩
    all_goals (try dsimp only)
    ·exact ⟨sq_,sq_,sq_,sq_,sq_,some_int (by omega),sq_,trivial⟩
    ·exact Mem.Less.refl _
    ·exact hkl
    ·omega
   ·refine k_F rfl ?_
    rw [if_neg hxi] at hst
    refine AWP.skip ?_
    refine ain_n ?_
    refine athen_n ?_
    refine AWP.region ?_
    refine k_m rfl ?_
    refine rC (Calm.bin rfl rfl b_add_i64) ?_
    refine k_e rfl ?_
    refine ⟨k+1,?_,?_,?_,?_⟩
    all_goals (try dsimp only)
    ·exact ⟨sq_,sq_,sq_,sq_,sq_,some_int (by omega),sq_,trivial⟩
    ·exact Mem.Less.refl _
    ·exact hkl
    ·omega
  ·obtain rfl:k=s.size:=by omega
   refine AWP.seq (k_a (k_m rfl (k_m rfl ?_)))
   refine rC (Calm.lenStr (strT_spec ty_str_9) rfl) ?_
   refine rC (Calm.bin rfl rfl b_lss) ?_
   refine k_n ?_
   refine k_u [(0,_),(4,_),(6,_),(8,_),(9,_),(10,_),(11,_),(36,_)] ?_
   refine k_F rfl ?_
   rw [show c.take s.size=c from List.take_of_length_le (by omega)]
   have hll:((tb i (clt c)).map gI).length=i:=by rw [List.length_map,tb_length]
   refine AWP.exit ?_
   refine athen_exit ?_
   refine athen_exit ?_
   refine ain_same ?_
   refine athen_n ?_
   refine AWP.region ?_
   refine rC (Calm.fieldAddr ty_field_48_2 rfl) ?_
   refine rC (Calm.load (v:=outV o i) ty_plain_24 rfl (rd_own' h8 rfl)) ?_
   refine k_m rfl ?_
   refine ARun.build1s (lit_lt rfl) ty_sl_24 rfl rfl ?_
   intro b50 f50
   have g50:=f50
   repeat ((with_reducible replace g50:=fresh_set g50);obtain ⟨g50,_⟩:=g50)
   refine ARun.appendO (o:=o) (n:=i) (m:=1) (cs:=(tb i (clt c)).map gI) (lit_lt rfl) ty_sl_24 rfl hll (appO_of hO hll g50) rfl (news:=[_]) rds_ rfl (by omega) (by simp [Value.oneCell',outV]) (by omega) (by omega) ?_
   intro b51 c51 ho3
   refine rC (Calm.fieldAddr ty_field_48_2 rfl) ?_
   refine ARun.store1 rfl rfl ty_size_24 rfl (own_outM ho3 (Mem.own_set_same _ _ _)) (by show 0+2<8;decide) rfl ?_
   try simp only [k_ms,k_sz,k_ss,k_za,Nat.reduceAdd]
   refine arun_nil ?_
   refine ain_n ?_
   refine athen_n ?_
   refine k_u [(0,_),(4,_),(6,_),(8,_),(9,_),(10,_),(11,_),(36,_)] ?_
   have hsn:=tb_snoc i (clt c)
   rw [outM_in ho3]
   refine AWP.region ?_
   refine k_m rfl ?_
   refine rC (Calm.bin rfl rfl b_add_i64) ?_
   refine k_e rfl ?_
   refine ⟨(i+1,some (b51,c51)),?_,?_,?_,?_⟩
   all_goals (try dsimp only)
   ·exact ⟨rfl,rfl,rfl,rfl,rfl,trivial⟩
   ·rw [← hsn];exact Mem.Less.refl _
   ·exact ⟨by omega,okO_in ho3⟩
   ·omega
 ·obtain rfl:i=257:=by omega
  refine AWP.seq (k_a (k_m rfl ?_))
  refine rC (Calm.bin rfl rfl b_leq) ?_
  refine k_n ?_
  refine k_u [(0,_),(4,_),(6,_),(8,_),(9,_),(30,_)] ?_
  refine k_F rfl ?_
  rw [hM7] at hO ⊢
  obtain ⟨hO7,hav⟩:=okO_un hO
  rw [outM_under hav]
  obtain ⟨M1,hM1⟩ : ∃ M1,M1=outM S o 3 ((tb 257 (clt c)).map gI):=⟨_,rfl⟩
  have hSM:S.Less M1:=by rw [hM1];exact outM_over hO7
  have hfir:IdxR M1 (outV o 257) (firP s):=by rw [hM1];unfold firP;rw [← hc];exact sl_outV (g:=gI) hO7 (tb_length _ _) (by decide)
  have z8:Fresh M1 b8:=by rw [hM1];exact fresh_outM' g8 fun q k e=>(hav q k e).2
  have z4:Fresh M1 b4:=by rw [hM1];exact fresh_outM' f4 fun q k e=>(hav q k e).1
  have e84:b8≠b4:=ne_
  rw [← hM1]
  clear h8 hO hO7 hM1 hav hM7
  obtain ⟨vf,hvf⟩ : ∃ vf,vf=outV o 257:=⟨_,rfl⟩
  rw [← hvf] at hfir ⊢
  obtain ⟨fa,fc,rfl,_⟩:=id hfir
  refine AWP.exit ?_
  refine athen_exit ?_
  refine athen_exit ?_
  refine ain_same ?_
  refine athen_n ?_
  refine k_a ?_
  refine ARun.makeSlice (lit_lt rfl) ty_sl_24 rfl rfl (by omega) (by omega) (by omega) (by omega) ?_
  intro b53 f53
  have g53:=f53
  repeat ((with_reducible replace g53:=fresh_set g53);obtain ⟨g53,_⟩:=g53)
  refine k_e rfl ?_
  refine k_u [(0,_),(4,_),(6,_),(8,_),(9,_),(30,_),(12,_)] ?_
  refine k_a (k_e rfl (AWP.seq (k_a (k_m rfl ?_))))
  refine ARun.call (lit_lt rfl) go_74 rfl (((((rfd_Ends tx M1 (by omega)).frame z4).frame (fresh_more z8 e84)).frame f53)) ?_
  rintro ve _ ⟨_,⟨_,⟨M2,⟨hM12,hve⟩,z4',rfl⟩,z8',rfl⟩,z53',rfl⟩
  have w53:=z53'
  repeat ((with_reducible replace w53:=fresh_set w53);obtain ⟨w53,_⟩:=w53)
  have e534:b53≠b4:=ne_
  have e538:b53≠b8:=ne_
  have w8:=(fresh_set z8').1
  have hSM2:=hSM.trans hM12
  replace hfir:=idxR_less _ _ _ _ hfir hM12
  clear hSM hM12 z8 z4 z8' z53'
  rw [← ht] at hve
  obtain ⟨ea,ec,rfl,e1,e2,e3⟩:=id hve
  rw [show (Fd.plc t).length=s.size+1 from (Fd.plc_length t).trans (by rw [htl])] at *
  refine rC (Calm.lenSl Try.underlying24 rfl) ?_
  refine k_m rfl (k_n ?_)
  refine k_u [(0,_),(4,_),(6,_),(8,_),(9,_),(30,_),(12,_),(13,_),(55,_),(56,_),(57,_)] ?_
  obtain ⟨M0,hM0⟩ : ∃ M0,M0=((M2.set b4 bkZ).set b8 (bkI s p (.slice fa 257 fc) (outV none 0) (outV none 0))).set b53 (bkN (Fd.mk c p 0)):=⟨_,rfl⟩
  refine AWP.block ?_
  refine AWP.loop (X:=Nat × Mem × Mem × Option (Nat × Nat) × List Value × Option (Nat × Nat) × Option (Nat × Nat)) (fun x=>[(4,.pointer (some ⟨b4,0,none⟩)),(6,.string tx),(8,.pointer (some ⟨b8,0,none⟩)),(12,.slice (some ⟨b53,0,none⟩) 256 256),(13,outV x.2.2.2.2.2.1 x.1),(55,.slice ea (s.size+1) ec),(56,.int .i64 (s.size+1:Nat)),(57,.int .i64 x.1)]) (fun x=>x.2.2.1) (fun x=>x.1≤s.size+1∧x.2.2.2.2.1.length=(x.1+15) / 16∧EI s p c (.slice fa 257 fc) M2 b4 b8 b53 x.2.1 x.2.2.1 x.2.2.2.1 x.2.2.2.2.1 x.2.2.2.2.2.1 ((smpR t).take x.1) x.2.2.2.2.2.2 (plN t x.1) (Fd.mk c p x.1)) (fun x=>s.size+1-x.1) ((0,M2,M0,none,[],none,none)) ⟨rfl,rfl,rfl,rfl,rfl,rfl,rfl,rfl,trivial⟩ (by rw [hM0,bkN_zero];exact Mem.Less.refl _) (⟨Nat.zero_le _,by show (0:Nat)=(0+15) / 16;decide,by rw [hM0];exact EI.start z4' w8 w53 e84 e534 e538⟩) ?_
  rintro ⟨r,MB,M,om,hs,ob,op⟩ ⟨hr,hhl,hI⟩
  (try dsimp only at *)
  by_cases hrl:r<s.size+1
  ·have hpll:(Fd.plc t).length=s.size+1:=(Fd.plc_length t).trans (by rw [htl])
   obtain ⟨a,ha⟩ : ∃ a,a=Fd.fre t r:=⟨_,rfl⟩
   have hal:a≤s.size:=by have:=Fd.fre_le t r;omega
   have hge:(Fd.plc t)[r]'(by omega)=a:=by rw [ha];exact Fd.fre_get t r (by omega)
   obtain ⟨eb,eo,rfl,hek⟩:=e3.resolve_left (fun e=>by rw [e] at hpll;simp at hpll)
   have hka:=hek r (by omega)
   rw [hge] at hka
   unfold i64n at hka
   replace hka:=hka.less (hI.base.trans hI.less)
   have hpls:plN t (r+1)=plN t r ++ (if a % 16=0 then [a] else []):=by unfold plN;rw [plcR_take t r (by omega),hge]
   have hsms:(smpR t).take (r+1)=(smpR t).take r ++ [decide (a % 16=0)]:=by rw [List.take_succ_eq_append_getElem (by rw [smpR_length];omega)];congr 2;unfold smpR;rw [List.getElem_map,hge]
   have hsl:((smpR t).take r).length=r:=by rw [List.length_take,smpR_length];omega
   have hplt:(plN t r).length≤4097:=by unfold plN;exact Nat.le_trans (List.length_filter_le ..) (by rw [List.length_take];omega)
   refine k_a ?_
   refine rC (Calm.bin rfl rfl b_lss) ?_
   refine k_n (AWP.seq ?_)
   refine k_T rfl ?_
   refine k_k (AWP.seq ?_)
   refine AWP.block ?_
   refine k_a (k_m rfl ?_)
   refine rC (Calm.indexS Try.underlying24 ty_size_3 rfl rfl (by omega) (by omega)) ?_
   refine rC (ld_ ty_plain_3 rfl) ?_
   refine k_s rfl (k_e rfl ?_)
   refine k_u [(4,_),(6,_),(8,_),(12,_),(13,_),(55,_),(56,_),(57,_),(58,_),(14,_),(15,_)] ?_
   refine AWP.seq (k_a (k_m rfl ?_))
   refine rC (Calm.bin rfl rfl b_rem) ?_
   refine rC (Calm.bin rfl rfl b_eql) ?_
   refine k_n ?_
   refine k_u [(4,_),(6,_),(8,_),(12,_),(13,_),(55,_),(56,_),(57,_),(58,_),(14,_),(15,_),(64,_)] ?_
   refine AWP.join (X:=Mem × Mem × Option (Nat × Nat) × List Value) (fun y=>[(4,.pointer (some ⟨b4,0,none⟩)),(6,.string tx),(8,.pointer (some ⟨b8,0,none⟩)),(12,.slice (some ⟨b53,0,none⟩) 256 256),(13,outV ob r),(14,.int .i64 r),(15,.int .i64 a),(55,.slice (some ⟨eb,eo,none⟩) (s.size+1) ec),(56,.int .i64 (s.size+1:Nat)),(57,.int .i64 r)]) (fun y=>y.2.1) (fun y=>y.2.2.2.length=(r+1+15) / 16∧EI s p c (.slice fa 257 fc) M2 b4 b8 b53 y.1 y.2.1 y.2.2.1 y.2.2.2 ob ((smpR t).take r) op (plN t r) (Fd.mk c p r)) ?_ ?_
   ·by_cases h16:r % 16=0
    ·refine k_T rfl ?_
     refine AWP.draw [(0,true),(1,true),(3,true),(2,false),(4,false),(5,false),(6,false),(7,true),(8,false)] [6,8] mixed (by kernel_rfl) ?_
     refine dP (hc:=fun _=>Calm.fieldAddr ty_field_48_3 rfl) (h:=?_)
     refine dC (hc:=Calm.load (v:=outV om hs.length) ty_plain_42 rfl (rd_own' hI.o8 rfl)) (h:=?_)
     refine dP (hc:=fun _=>Calm.move rfl) (h:=?_)
     refine draw_only rfl ?_
     refine ARun.build0 (lit_lt rfl) ty_sl_24 ?_
     intro b67 f67
     have g67:=f67
     repeat ((with_reducible replace g67:=fresh_set g67);obtain ⟨g67,_⟩:=g67)
     refine arun_nil ⟨fun _=>less_,?_⟩
     refine draw_only rfl ?_
     refine ARun.appendOK (n:=1) (o:=some (b67,0)) (k:=0) (m:=256) (cs:=[]) (news:=(tb 256 (Fd.mk c p r)).map gI) (lit_lt rfl) ty_sl_24 rfl rfl rfl (okO_own f67 (Nat.zero_le _)) (appN1 (okO_own f67 (Nat.zero_le _)) rfl) rfl (src_own (r:=bkN (Fd.mk c p r)) ((Mem.own_set_other _ _ (f67.ne hI.o53)).trans hI.o53) List.prefix_rfl) (by rw [List.length_map,tb_length]) (one_cells (fun _=>rfl) _) (by omega) (by omega) ?_
     intro o1 ho1
     obtain ⟨b69,c69,rfl⟩:=ho1.some (by decide)
     obtain ⟨f69,hc69⟩:=ho1.own b69 c69 rfl
     rw [outN_one,List.nil_append,show outM M (some (b69,c69)) 3 ((tb 256 (Fd.mk c p r)).map gI)=M.set b69 ⟨3,(tb 256 (Fd.mk c p r)).map gI,c69⟩ from rfl]
     have hIc:=hI.clone f69 ⟨3,(tb 256 (Fd.mk c p r)).map gI,c69⟩
     have hnew:IdxR (MB.set b69 ⟨3,(tb 256 (Fd.mk c p r)).map gI,c69⟩) (.slice (some ⟨b69,0,none⟩) 256 c69) (mkRow c p hs.length):=by unfold mkRow;rw [show 16*hs.length=r by omega];exact Sl.own1 (g:=gI) (l:=tb 256 (Fd.mk c p r)) (Mem.own_set_same _ _ _) List.prefix_rfl (tb_length _ _) (by omega) (by decide)
     refine arun_nil ⟨fun _=>less_,?_⟩
     refine draw_only rfl ?_
     refine ARun.build1s (lit_lt rfl) ty_sl_42 rfl rfl ?_
     intro b70 f70
     have g70:=f70
     repeat ((with_reducible replace g70:=fresh_set g70);obtain ⟨g70,_⟩:=g70)
     refine arun_nil ⟨fun _=>less_,?_⟩
     refine draw_only rfl ?_
     refine ARun.appendG (o:=om) (n:=hs.length) (cs:=hs) (m:=1) (lit_lt rfl) ty_sl_42 rfl rfl ((hIc.temp f70 ⟨24,[.slice (some ⟨b69,0,none⟩) 256 c69],1⟩).gm) rfl (news:=[_]) rds_ rfl (by omega) (by simp [Value.oneCell',outV]) (by omega) (by omega) ?_
     intro b71 c71 N1 hg1 hlf
     have hIt:=hIc.temp f70 ⟨24,[.slice (some ⟨b69,0,none⟩) 256 c69],1⟩
     have hI1:=hIt.marks hlf hg1 hnew
     refine arun_nil ⟨fun h=>absurd h (by decide),?_⟩
     refine dP (hc:=fun _=>Calm.fieldAddr ty_field_48_3 rfl) (h:=?_)
     refine draw_only rfl ?_
     refine ARun.store1 rfl rfl ty_size_42 rfl (hlf.at_ hIt.o8 hIt.m8).1 (by show 0+3<8;decide) rfl ?_
     try simp only [k_ms,k_sz,k_ss,k_za,Nat.reduceAdd]
     refine arun_nil ⟨fun h=>absurd h (by decide),?_⟩
     refine draw_nil ?_
     refine ⟨(MB.set b69 ⟨3,(tb 256 (Fd.mk c p r)).map gI,c69⟩,N1.set b8 (bkI s p (.slice fa 257 fc) (outV (some (b71,c71)) (hs.length+1)) (outV op (plN t r).length)),some (b71,c71),hs ++ [.slice (some ⟨b69,0,none⟩) 256 c69]),?_,?_,?_⟩
     all_goals (try dsimp only)
     ·exact ⟨by rw [List.length_append];show hs.length+1=_;omega,hI1⟩
     ·exact ⟨sq_,sq_,sq_,sq_,sq_,sq_,sq_,sq_,sq_,sq_,trivial⟩
     ·exact Mem.Less.refl _
    ·refine k_F rfl ?_
     refine AWP.skip ?_
     refine ⟨(MB,M,om,hs),?_,?_,?_⟩
     all_goals (try dsimp only)
     ·exact ⟨by omega,hI⟩
     ·exact ⟨sq_,sq_,sq_,sq_,sq_,sq_,sq_,sq_,sq_,sq_,trivial⟩
     ·exact Mem.Less.refl _
   rintro ⟨MB2,N2,om2,hs2⟩ ⟨hl2,hI2⟩
   intro _ _ hs_ hl_
   (try dsimp only at *)
   refine athen_n ?_
   refine AWP.sub _ hs_ (AWP.less _ hl_ ?_)
   clear hs_ hl_
   refine k_a (k_m rfl (k_m rfl ?_))
   refine rC (Calm.bin rfl rfl b_rem) ?_
   refine rC (Calm.bin rfl rfl b_eql) ?_
   refine ARun.build1s (lit_lt rfl) ty_sl_40 rfl rfl ?_
   intro b77 f77
   have g77:=f77
   repeat ((with_reducible replace g77:=fresh_set g77);obtain ⟨g77,_⟩:=g77)
   refine ARun.appendG (o:=ob) (n:=r) (cs:=((smpR t).take r).map gB) (m:=1) (lit_lt rfl) ty_sl_40 rfl (by rw [List.length_map,hsl]) ((hI2.temp f77 ⟨4,[.bool (decide ((a:Int) % 16=0))],1⟩).gb) rfl (news:=[_]) rds_ rfl (by omega) (by simp [Value.oneCell']) (by omega) (by omega) ?_
   intro b78 c78 N3 hg3 hlf3
   rw [modc] at hg3
   have hI3:=(hI2.temp f77 ⟨4,[.bool (decide ((a:Int) % 16=0))],1⟩).bools hlf3 hg3
   rw [← hsms] at hI3
   clear hlf3 hg3 hI2
   refine k_e rfl ?_
   refine k_u [(4,_),(6,_),(8,_),(12,_),(13,_),(14,_),(15,_),(55,_),(56,_),(57,_)] ?_
   refine AWP.seq (k_a (k_m rfl ?_))
   refine rC (Calm.bin rfl rfl b_rem) ?_
   refine rC (Calm.bin rfl rfl b_eql) ?_
   refine k_n ?_
   refine k_u [(4,_),(6,_),(8,_),(12,_),(13,_),(14,_),(15,_),(55,_),(56,_),(57,_),(81,_)] ?_
   refine AWP.join (X:=Mem × Option (Nat × Nat)) (fun y=>[(4,.pointer (some ⟨b4,0,none⟩)),(6,.string tx),(8,.pointer (some ⟨b8,0,none⟩)),(12,.slice (some ⟨b53,0,none⟩) 256 256),(13,outV (some (b78,c78)) (r+1)),(14,.int .i64 r),(15,.int .i64 a),(55,.slice (some ⟨eb,eo,none⟩) (s.size+1) ec),(56,.int .i64 (s.size+1:Nat)),(57,.int .i64 r)]) (fun y=>y.1) (fun y=>EI s p c (.slice fa 257 fc) M2 b4 b8 b53 MB2 y.1 om2 hs2 (some (b78,c78)) ((smpR t).take (r+1)) y.2 (plN t (r+1)) (Fd.mk c p r)) ?_ ?_
   ·by_cases a16:a % 16=0
    ·refine k_T rfl ?_
     rw [if_pos a16] at hpls
     refine AWP.region ?_
     refine rC (Calm.fieldAddr ty_field_48_5 rfl) ?_
     refine rC (Calm.load (v:=outV op (plN t r).length) ty_plain_24 rfl (rd_own' hI3.o8 rfl)) ?_
     refine k_m rfl ?_
     refine ARun.build1s (lit_lt rfl) ty_sl_24 rfl rfl ?_
     intro b85 f85
     have g85:=f85
     repeat ((with_reducible replace g85:=fresh_set g85);obtain ⟨g85,_⟩:=g85)
     refine ARun.appendG (o:=op) (n:=(plN t r).length) (cs:=(plN t r).map gI) (m:=1) (lit_lt rfl) ty_sl_24 rfl (List.length_map ..) ((hI3.temp f85 ⟨3,[.int .i64 (a:Int)],1⟩).gp) rfl (news:=[_]) rds_ rfl (by omega) (by simp [Value.oneCell']) (by omega) (by omega) ?_
     intro b86 c86 N4 hg4 hlf4
     have hIt:=hI3.temp f85 ⟨3,[.int .i64 (a:Int)],1⟩
     have hI4:=hIt.places hlf4 hg4
     rw [← hpls] at hI4
     refine rC (Calm.fieldAddr ty_field_48_5 rfl) ?_
     refine ARun.store1 rfl rfl ty_size_24 rfl (hlf4.at_ hIt.o8 hIt.p8).1 (by show 0+7<8;decide) rfl ?_
     try simp only [k_ms,k_sz,k_ss,k_za,Nat.reduceAdd]
     refine arun_nil ?_
     refine ⟨(N4.set b8 (bkI s p (.slice fa 257 fc) (outV om2 hs2.length) (outV (some (b86,c86)) ((plN t r).length+1))),some (b86,c86)),?_,?_,?_⟩
     all_goals (try dsimp only)
     ·exact hI4
     ·exact ⟨sq_,sq_,sq_,sq_,sq_,sq_,sq_,sq_,sq_,sq_,trivial⟩
     ·exact Mem.Less.refl _
    ·refine k_F rfl ?_
     rw [if_neg a16,List.append_nil] at hpls
     refine AWP.skip ?_
     refine ⟨(N3,op),?_,?_,?_⟩
     all_goals (try dsimp only)
     ·rw [hpls];exact hI3
     ·exact ⟨sq_,sq_,sq_,sq_,sq_,sq_,sq_,sq_,sq_,sq_,trivial⟩
     ·exact Mem.Less.refl _
   rintro ⟨N5,op5⟩ hI5
   intro _ _ hs_ hl_
   (try dsimp only at *)
   refine athen_n ?_
   refine AWP.sub _ hs_ (AWP.less _ hl_ ?_)
   clear hs_ hl_
   have hf0:=hcol.f0 (r:=r) (by omega)
   rw [← ha] at hf0
   by_cases ha0:0<a
   ·refine k_a (k_m rfl ?_)
    refine rC (Calm.bin rfl rfl b_gtr) ?_
    refine k_n ?_
    refine k_u [(4,_),(6,_),(8,_),(12,_),(13,_),(14,_),(15,_),(55,_),(56,_),(57,_),(89,_)] ?_
    refine k_T rfl ?_
    obtain ⟨x,hx⟩ : ∃ x,x=byT tx (a-1):=⟨_,rfl⟩
    have hx256:x<256:=by rw [hx];exact byT_lt _ _
    have hrp:r≠p:=fun e=>by have:=hf0.1 e;omega
    have hby:c.getD (Ord.atR p r) 0=x:=by rw [hc,hx];exact (hcol.row (r:=r) (by omega) hrp).trans (by rw [← ha,ht];exact byT_getD _ _)
    have hmn:=fun u=>Fd.mk_next hcol (r:=r) (by omega) hrp u
    rw [← hc,hby] at hmn
    have hml:=Fd.mk_le c p r x
    refine AWP.region ?_
    refine k_m rfl (k_m rfl (k_m rfl ?_))
    refine rC (Calm.bin rfl rfl b_sub_i64) ?_
    refine rC (Calm.as ((show Value.int .u8 (nb (at8 tx.data.toList (((a:Int)-1).toNat))) = .int .u8 (nb (at8 tx.data.toList (a-1))) by rw [show ((a:Int)-1).toNat=a-1 by omega]).trans ((byT_val tx (a-1)).trans (by rw [← hx]))) (Calm.indexStr (strT_spec ty_str_9) rfl rfl (by omega) (by omega))) ?_
    refine rC (Calm.indexS Try.underlying24 ty_size_3 rfl rfl (by omega) (by omega)) ?_
    refine rC (Calm.as (tb_val 256 (Fd.mk c p r) x (by rw [tb_length];omega)) (Calm.load ty_plain_3 rfl (rd_list (g:=gI) x (by rw [tb_length];omega) hI5.o53 (by omega)))) ?_
    refine rC (Calm.bin rfl rfl b_add_i64) ?_
    refine rC (Calm.indexS Try.underlying24 ty_size_3 rfl rfl (by omega) (by omega)) ?_
    refine ARun.store1 rfl rfl ty_size_3 rfl hI5.o53 (by unfold bkN;rw [List.length_map,tb_length];omega) rfl ?_
    try simp only [k_ms,k_sz,k_ss,k_za,Nat.reduceAdd]
    refine arun_nil ?_
    refine ain_n ?_
    refine athen_n ?_
    refine k_u [(4,_),(6,_),(8,_),(12,_),(13,_),(14,_),(15,_),(55,_),(56,_),(57,_),(89,_)] ?_
    have hset:=tb_set 256 (Fd.mk c p r) (Fd.mk c p (r+1)) x (Fd.mk c p r x+1) (fun u _=>(hmn u).trans (by by_cases e:u=x;(rw [if_pos e,if_pos e,e]);(rw [if_neg e,if_neg e])))
    simp only [Nat.zero_add,Nat.mul_one]
    refine AWP.region ?_
    refine rC (Calm.bin rfl rfl b_add_i64) ?_
    refine k_m rfl (k_n ?_)
    refine ⟨(r+1,MB2,N5.set b53 (bkN (Fd.mk c p (r+1))),om2,hs2,some (b78,c78),op5),?_,?_,?_,?_⟩
    all_goals (try dsimp only)
    ·exact ⟨sq_,sq_,sq_,sq_,sq_,sq_,sq_,sq_,trivial⟩
    ·unfold bkN;rw [← hset];exact Mem.Less.refl _
    ·exact ⟨hrl,hl2,hI5.count _⟩
    ·omega
   ·refine k_a (k_m rfl ?_)
    refine rC (Calm.bin rfl rfl b_gtr) ?_
    refine k_n ?_
    refine k_u [(4,_),(6,_),(8,_),(12,_),(13,_),(14,_),(15,_),(55,_),(56,_),(57,_),(89,_)] ?_
    refine k_F rfl ?_
    have hrp:r=p:=hf0.2 (by omega)
    have hsame:bkN (Fd.mk c p r)=bkN (Fd.mk c p (r+1)):=by unfold bkN;congr 2;exact tb_congr fun u _=>by rw [hrp];exact (Fd.mk_prim c p u).symm
    refine AWP.skip ?_
    refine ain_n ?_
    refine athen_n ?_
    refine AWP.region ?_
    refine rC (Calm.bin rfl rfl b_add_i64) ?_
    refine k_m rfl (k_n ?_)
    refine ⟨(r+1,MB2,N5,om2,hs2,some (b78,c78),op5),?_,?_,?_,?_⟩
    all_goals (try dsimp only)
    ·exact ⟨sq_,sq_,sq_,sq_,sq_,sq_,sq_,sq_,trivial⟩
    ·exact Mem.Less.refl _
    ·exact ⟨hrl,hl2,hI5.same hsame⟩
    ·omega
  ·obtain rfl:r=s.size+1:=by omega
   refine k_a ?_
   refine rC (Calm.bin rfl rfl b_lss) ?_
   refine k_n (AWP.seq ?_)
   refine k_F rfl ?_
   have esm:(smpR t).take (s.size+1)=smpR t:=List.take_of_length_le (by rw [smpR_length];omega)
   have epl:plN t (s.size+1)=plcR t:=by unfold plN plcR;rw [List.take_of_length_le (by rw [Fd.plc_length];omega)]
   have esl:(smpR t).length=s.size+1:=by rw [smpR_length];omega
   rw [esm,epl] at hI
   have hpll:(plcR t).length≤4097:=by unfold plcR;exact Nat.le_trans (List.length_filter_le ..) (by rw [Fd.plc_length];omega)
   obtain ⟨Md,hMd,f4d,f8d,hMBd,gmd,gbd,gpd⟩:=hI.cut z4' w8
   have hsl:=gro_sl (g:=gB) gbd (by omega)
   rw [esl] at hsl
   have hdone:=hI.done hMBd gmd gpd (by omega) (by omega) (by omega)
   have hBd:=hI.base.trans hMBd
   have e48:b4≠b8:=Ne.symm hI.ne8
   clear hI gmd gbd gpd
   subst hMd
   refine AWP.exit ?_
   refine athen_exit ?_
   refine athen_exit ?_
   refine ain_same ?_
   refine athen_n ?_
   refine k_a (k_m rfl ?_)
   refine ARun.call (lit_lt rfl) go_75 rfl ((((rselV_OfS _ (smpR t) Md hsl).frame f4d).frame (fresh_more f8d (Ne.symm e48)))) ?_
   rintro _ _ ⟨_,⟨M9,hr9,f49,rfl⟩,f89,rfl⟩
   obtain ⟨pa,ca,rfl,hM9,hvc⟩:=hr9.slices
   refine k_m rfl ?_
   refine rC (Calm.extract rfl rfl) ?_
   refine rC (Calm.extract rfl rfl) ?_
   refine rC (Calm.fieldAddr ty_field_48_4 rfl) ?_
   refine ARun.store rfl rfl ty_size_46 (Mem.own_set_same _ _ _) (by show 0+4+3≤8;decide) (by simp [Value.cells,Value.oneCell']) ?_
   try simp only [k_ms,k_sz,k_ss,k_za,Nat.reduceAdd]
   refine k_n ?_
   refine k_u [(4,_),(6,_),(8,_),(12,_),(13,_),(55,_),(56,_),(57,_),(58,_)] ?_
   have hshp:(⟨48,spl (bkI s p (.slice fa 257 fc) (outV om hs.length) (outV op (plcR t).length)).cells (0+4) [.string (Sel.ofP (smpR t)).1,.int .i64 (Sel.ofP (smpR t)).2.1,.slice pa (Sel.ofP (smpR t)).2.2.1.length ca],8⟩ : Blk)=⟨48,[.string s,.int .i64 (p:Int),.slice fa 257 fc,outV om hs.length,.string (Sel.ofP (smpR t)).1,.int .i64 (Sel.ofP (smpR t)).2.1,.slice pa (Sel.ofP (smpR t)).2.2.1.length ca,outV op (plcR t).length],8⟩:=rfl
   refine AWP.less ((M9.set b4 bkZ).set b8 ⟨48,[.string s,.int .i64 (p:Int),.slice fa 257 fc,outV om hs.length,.string (Sel.ofP (smpR t)).1,.int .i64 (Sel.ofP (smpR t)).2.1,.slice pa (Sel.ofP (smpR t)).2.2.1.length ca,outV op (plcR t).length],8⟩) (by rw [← hshp];exact Mem.Less.refl _) ?_
   refine k_a ?_
   refine rC (ldA_ (cs:=[_,_,_,_,_,_,_,_]) ty_agg_48 ty_size_48 rfl) ?_
   refine ARun.storeAll (cs:=[.string s,.int .i64 (p:Int),.slice fa 257 fc,outV om hs.length,.string (Sel.ofP (smpR t)).1,.int .i64 (Sel.ofP (smpR t)).2.1,.slice pa (Sel.ofP (smpR t)).2.2.1.length ca,outV op (plcR t).length]) rfl rfl ty_size_48 ((Mem.own_set_other _ _ e48).trans (Mem.own_set_same _ _ _)) rfl (by cases om <;> cases op <;> simp [Value.oneCell',outV]) ?_
   try simp only [k_ms,k_sz,k_ss,k_za,Nat.reduceAdd]
   have hSM9:=(hSM2.trans hBd).trans hM9
   have hfl9:(firP s).length=257:=tb_length _ _
   rw [hfl9] at hfir
   have hfin:IxV M9 (ixC (ixP s ((p:Int)).toNat tx) (.slice fa 257 fc) (outV om hs.length) (.slice pa (Sel.ofP (smpR t)).2.2.1.length ca) (outV op (plcR t).length)) (ixP s ((p:Int)).toNat tx):=by unfold ixP;rw [← ht];exact ⟨_,_,_,_,rfl,idx_ints ((idxR_less _ _ _ _ hfir (hBd.trans hM9))),(slOf_ints (by rw [Int.toNat_natCast,← hc];exact hdone.1)).less intsV_less hM9,hvc,intsV_less _ _ _ _ (idx_ints hdone.2) hM9⟩
   have hcs:ixC (ixP s ((p:Int)).toNat tx) (.slice fa 257 fc) (outV om hs.length) (.slice pa (Sel.ofP (smpR t)).2.2.1.length ca) (outV op (plcR t).length) = [.string s,.int .i64 (p:Int),.slice fa 257 fc,outV om hs.length,.string (Sel.ofP (smpR t)).1,.int .i64 (Sel.ofP (smpR t)).2.1,.slice pa (Sel.ofP (smpR t)).2.2.1.length ca,outV op (plcR t).length]:=by unfold ixP;rw [← ht];rfl
   have f4x:=fresh_set f89
   refine k_e rfl ?_
   refine k_u [(4,_),(6,_),(8,_),(12,_),(13,_),(55,_),(56,_),(57,_),(58,_),(5,_)] ?_
   refine AWP.ret ?_
   refine ⟨_,M9,⟨_,_,_,rfl,.inr ⟨ty_agg_48,[_,_,_,_,_,_,_,_],ty_size_48,rds_,rfl⟩,⟨_,_,rfl,rfl,rfl⟩,rfl⟩,(less_out (less_out (less_out (Mem.Less.refl _) f49.1) f4x.1.1) f49.1),?_⟩
   exact .inl ⟨h0,ixC (ixP s ((p:Int)).toNat tx) (.slice fa 257 fc) (outV om hs.length) (.slice pa (Sel.ofP (smpR t)).2.2.1.length ca) (outV op (plcR t).length),by rw [hcs];rfl,hSM9,by rw [← htx];exact hfin⟩
end Go.Proofs.Ytgidjbpgkeemiaa
namespace Go.Proofs.Ytgidjbpgkeemiaa
open Go.RowKit Go.Shelf
open Mv Num Loser Srt
set_option maxRecDepth 8000
theorem mksP_row (s : ByteArray) (p : Nat) : ∀ m ∈ mksP (numsT s) p, m.length = 256 ∧ ∀ y ∈ m, y ≤ s.size := fun m hm => by
 unfold mksP at hm
 obtain ⟨k,_,rfl⟩:=List.mem_map.1 hm
 refine ⟨tb_length _ _,fun y hy=>?_⟩
 unfold mkRow tb at hy
 obtain ⟨u,_,rfl⟩:=List.mem_map.1 hy
 have:=Fd.mk_le (numsT s) p (16*k) u
 rw [numsT_length] at this;exact this
theorem fit_mk (s : ByteArray) (p : Nat) (t : ByteArray) (hs : s.size ≤ 4096) : FitX (ixP s p t) := by
 refine ⟨?_,fun m hm=>?_⟩
 ·show ((mksP (numsT s) p).map castL).length≤_
  rw [List.length_map,mksP_length,numsT_length];omega
 ·obtain ⟨m',hm',rfl⟩:=List.mem_map.1 (show m ∈ (mksP (numsT s) p).map castL from hm)
  unfold castL
  rw [List.length_map,(mksP_row s p m' hm').1];decide
theorem in64_mk (s : ByteArray) (p : Nat) (t : ByteArray) (hs : s.size ≤ 4096) : In64 (ixP s p t).mks := fun m hm y hy => by
 obtain ⟨m',hm',rfl⟩:=List.mem_map.1 (show m ∈ (mksP (numsT s) p).map castL from hm)
 obtain ⟨k,hk,rfl⟩:=List.mem_map.1 hy
 have:=(mksP_row s p m' hm').2 k hk
 omega
theorem same_both {x : Ix} (h0 : (textP x.col x.pri).2 = 0) (h64 : In64 x.mks) : sameD x (mkX x) = sameX x (mkX x) := by
 obtain ⟨p,ep,q1,q2,q3,q4⟩:=text_col h0
 have e1:(mkX x).col=x.col:=rfl
 have e2:(mkX x).pri=x.pri:=by show ((x.pri.toNat:Nat):Int)=x.pri;omega
 have e3:marksU x.mks=marksU (mkX x).mks ↔ x.mks=(mkX x).mks:=⟨marksU_inj h64 (in64_mk _ _ _ q2),fun h=>by rw [h]⟩
 unfold sameD sameX
 rw [Bool.eq_iff_iff]
 simp only [Bool.and_eq_true,decide_eq_true_eq,e1,e2,e3,true_and]
 constructor
 ·rintro ⟨a,b,⟨c,d⟩,e⟩;exact ⟨a,b,e,c,d⟩
 ·rintro ⟨a,b,e,c,d⟩;exact ⟨a,b,⟨c,d⟩,e⟩
set_option maxHeartbeats 4000000 in
theorem rfd_Check (x : Ix) (cx : List Value) (S : Mem) (hx : IxV S cx x) (fx : FitX x) (h64 : In64 x.mks) :
  ACall Try.prog 37 #[.agg cx.toArray] S fun r S'=>r = .int .i64 (chkX x:Nat)∧S'=S:=by
 have hx0:=hx
 obtain ⟨v2,v3,v6,v7,rfl,h1,h2,h3,h4⟩:=hx
 by_cases h0:(textP x.col x.pri).2=0
 ·have hsb:=same_both h0 h64
  obtain ⟨_,_,_,hsm,_,_⟩:=text_col h0
  have fy:=fit_mk x.col x.pri.toNat (textP x.col x.pri).1 hsm
  by_cases h5:sameX x (mkX x)=true
  ·have e:chkX x=0:=by unfold chkX;rw [if_pos ⟨h0,h5⟩]
   rw [e]
   refine ACall.enter (rs:=[.tmp 2]) 21 [(0,.agg #[.string x.col,.int .i64 x.pri,v2,v3,.string x.bits,.int .i64 x.n,v6,v7])] Try.func37 rfl rfl (Nat.le_of_ble_eq_true rfl) rfl ⟨rfl,trivial⟩ ?_
   refine k_a ?_
   refine ARun.boxA (cs:=[_,_,_,_,_,_,_,_]) (lit_lt rfl) rfl ?_
   intro b1 f1
   have g1:=f1
   repeat ((with_reducible replace g1:=fresh_set g1);obtain ⟨g1,_⟩:=g1)
   try simp only [k_l1,k_l0,k_za,Nat.reduceAdd]
   refine k_e rfl (k_a ?_)
   refine rC (Calm.fieldAddr ty_field_48_0 rfl) ?_
   refine rC (ld_ ty_plain_9 rfl) ?_
   refine rC (Calm.fieldAddr ty_field_48_1 rfl) ?_
   refine rC (ld_ ty_plain_3 rfl) ?_
   refine ARun.call (lit_lt rfl) go_34 rfl (((rfd_Make x.col x.pri S).frame f1)) ?_
   rintro _ _ ⟨S1,hm,f1a,rfl⟩
   obtain ⟨p1,c1,n2,p2,c2,p3,c3,p4,c4,hyy⟩:=hm.yes h0
   obtain ⟨y,hye⟩ : ∃ y,y=ixP x.col x.pri.toNat (textP x.col x.pri).1:=⟨_,rfl⟩
   obtain ⟨rfl,hS1,hy⟩:=hyy y hye
   clear hyy hm
   rw [← hye] at fy
   refine k_m rfl ?_
   refine rC (Calm.extract rfl rfl) ?_
   refine rC (Calm.extract rfl rfl) ?_
   refine ARun.alloc (lit_lt rfl) ty_zero_48 ?_
   intro b3 f3
   have g3:=f3
   repeat ((with_reducible replace g3:=fresh_set g3);obtain ⟨g3,_⟩:=g3)
   try simp only [k_l1,k_l0,k_za,Nat.reduceAdd]
   first|refine k_A rfl rfl ty_size_48 ?_|refine k_B rfl rfl ty_size_48 ?_
   try simp only [k_ms,k_sz,k_ss,k_za,Nat.reduceAdd]
   refine k_e rfl ?_
   refine k_u [(0,_),(1,_),(2,_),(3,_),(4,_)] ?_
   refine AWP.seq (k_a (k_m rfl ?_))
   refine rC (Calm.bin rfl rfl b_neq) ?_
   refine k_m rfl ?_
   first|refine k_q 15 ?_|refine rG 15 (ldA_ (cs:=[_,_,_,_,_,_,_,_]) ty_agg_48 ty_size_48 rfl) ?_
   first|refine k_q 15 ?_|refine rG 15 (ldA_ (cs:=[_,_,_,_,_,_,_,_]) ty_agg_48 ty_size_48 rfl) ?_
   refine ARun.callG 2 false 15 rfl (lit_lt rfl) rfl (lit_lt rfl) go_35 rfl (rfd_Same x _ _ _ _ (hx0.less (hS1.trans less_)) (hy.less less_) fx fy) ?_
   rintro _ S2 ⟨rfl,q⟩
   rw [q];clear q S2
   rw [show sameD x y=true from by rw [hye];exact hsb.trans h5]
   first|refine k_q 15 ?_|refine rG 15 (Calm.un rfl (una_not _)) ?_
   first|refine k_t rfl rfl ?_|refine k_f rfl rfl ?_
   refine k_n ?_
   refine k_u [(0,_),(1,_),(2,_),(3,_),(4,_),(20,_)] ?_
   refine k_F rfl ?_
   refine k_k (k_a (k_e rfl ?_))
   refine AWP.ret ?_
   refine ⟨_,S,⟨_,_,rfl,rfl,rfl⟩,hS1.trans less_,?_⟩
   exact ⟨rfl,rfl⟩
  ·have e:chkX x=2:=by unfold chkX;rw [if_neg (fun h=>h5 h.2)]
   rw [e]
   refine ACall.enter (rs:=[.tmp 2]) 21 [(0,.agg #[.string x.col,.int .i64 x.pri,v2,v3,.string x.bits,.int .i64 x.n,v6,v7])] Try.func37 rfl rfl (Nat.le_of_ble_eq_true rfl) rfl ⟨rfl,trivial⟩ ?_
   refine k_a ?_
   refine ARun.boxA (cs:=[_,_,_,_,_,_,_,_]) (lit_lt rfl) rfl ?_
   intro b1 f1
   have g1:=f1
   repeat ((with_reducible replace g1:=fresh_set g1);obtain ⟨g1,_⟩:=g1)
   try simp only [k_l1,k_l0,k_za,Nat.reduceAdd]
   refine k_e rfl (k_a ?_)
   refine rC (Calm.fieldAddr ty_field_48_0 rfl) ?_
   refine rC (ld_ ty_plain_9 rfl) ?_
   refine rC (Calm.fieldAddr ty_field_48_1 rfl) ?_
   refine rC (ld_ ty_plain_3 rfl) ?_
   refine ARun.call (lit_lt rfl) go_34 rfl (((rfd_Make x.col x.pri S).frame f1)) ?_
   rintro _ _ ⟨S1,hm,f1a,rfl⟩
   obtain ⟨p1,c1,n2,p2,c2,p3,c3,p4,c4,hyy⟩:=hm.yes h0
   obtain ⟨y,hye⟩ : ∃ y,y=ixP x.col x.pri.toNat (textP x.col x.pri).1:=⟨_,rfl⟩
   obtain ⟨rfl,hS1,hy⟩:=hyy y hye
   clear hyy hm
   rw [← hye] at fy
   refine k_m rfl ?_
   refine rC (Calm.extract rfl rfl) ?_
   refine rC (Calm.extract rfl rfl) ?_
   refine ARun.alloc (lit_lt rfl) ty_zero_48 ?_
   intro b3 f3
   have g3:=f3
   repeat ((with_reducible replace g3:=fresh_set g3);obtain ⟨g3,_⟩:=g3)
   try simp only [k_l1,k_l0,k_za,Nat.reduceAdd]
   first|refine k_A rfl rfl ty_size_48 ?_|refine k_B rfl rfl ty_size_48 ?_
   try simp only [k_ms,k_sz,k_ss,k_za,Nat.reduceAdd]
   refine k_e rfl ?_
   refine k_u [(0,_),(1,_),(2,_),(3,_),(4,_)] ?_
   refine AWP.seq (k_a (k_m rfl ?_))
   refine rC (Calm.bin rfl rfl b_neq) ?_
   refine k_m rfl ?_
   first|refine k_q 15 ?_|refine rG 15 (ldA_ (cs:=[_,_,_,_,_,_,_,_]) ty_agg_48 ty_size_48 rfl) ?_
   first|refine k_q 15 ?_|refine rG 15 (ldA_ (cs:=[_,_,_,_,_,_,_,_]) ty_agg_48 ty_size_48 rfl) ?_
   refine ARun.callG 2 false 15 rfl (lit_lt rfl) rfl (lit_lt rfl) go_35 rfl (rfd_Same x _ _ _ _ (hx0.less (hS1.trans less_)) (hy.less less_) fx fy) ?_
   rintro _ S2 ⟨rfl,q⟩
   rw [q];clear q S2
   rw [show sameD x y=false from by rw [hye];exact hsb.trans (Bool.eq_false_iff.2 h5)]
   first|refine k_q 15 ?_|refine rG 15 (Calm.un rfl (una_not _)) ?_
   first|refine k_t rfl rfl ?_|refine k_f rfl rfl ?_
   refine k_n ?_
   refine k_u [(0,_),(1,_),(2,_),(3,_),(4,_),(20,_)] ?_
   refine k_T rfl ?_
   refine k_a (k_e rfl ?_)
   refine k_r ?_
   refine ⟨_,S,⟨_,_,rfl,rfl,rfl⟩,hS1.trans less_,?_⟩
   exact ⟨rfl,rfl⟩
 ·have e:chkX x=2:=by unfold chkX;rw [if_neg (fun h=>h0 h.1)]
  rw [e]
  refine ACall.enter (rs:=[.tmp 2]) 21 [(0,.agg #[.string x.col,.int .i64 x.pri,v2,v3,.string x.bits,.int .i64 x.n,v6,v7])] Try.func37 rfl rfl (Nat.le_of_ble_eq_true rfl) rfl ⟨rfl,trivial⟩ ?_
  refine k_a ?_
  refine ARun.boxA (cs:=[_,_,_,_,_,_,_,_]) (lit_lt rfl) rfl ?_
  intro b1 f1
  have g1:=f1
  repeat ((with_reducible replace g1:=fresh_set g1);obtain ⟨g1,_⟩:=g1)
  try simp only [k_l1,k_l0,k_za,Nat.reduceAdd]
  refine k_e rfl (k_a ?_)
  refine rC (Calm.fieldAddr ty_field_48_0 rfl) ?_
  refine rC (ld_ ty_plain_9 rfl) ?_
  refine rC (Calm.fieldAddr ty_field_48_1 rfl) ?_
  refine rC (ld_ ty_plain_3 rfl) ?_
  refine ARun.call (lit_lt rfl) go_34 rfl (((rfd_Make x.col x.pri S).frame f1)) ?_
  rintro _ _ ⟨S1,hm,f1a,rfl⟩
  obtain ⟨rfl,hSS⟩:=hm.no h0
  obtain rfl:S=S1:=hSS.symm
  clear hSS hm
  refine k_m rfl ?_
  refine rC (Calm.extract rfl rfl) ?_
  refine rC (Calm.extract rfl rfl) ?_
  refine ARun.alloc (lit_lt rfl) ty_zero_48 ?_
  intro b3 f3
  have g3:=f3
  repeat ((with_reducible replace g3:=fresh_set g3);obtain ⟨g3,_⟩:=g3)
  try simp only [k_l1,k_l0,k_za,Nat.reduceAdd]
  first|refine k_A rfl rfl ty_size_48 ?_|refine k_B rfl rfl ty_size_48 ?_
  try simp only [k_ms,k_sz,k_ss,k_za,Nat.reduceAdd]
  refine k_e rfl ?_
  refine k_u [(0,_),(1,_),(2,_),(3,_),(4,_)] ?_
  refine AWP.seq (k_a (k_m rfl ?_))
  refine rC (Calm.bin rfl rfl b_neq) ?_
  refine k_m rfl ?_
  first|refine k_q 15 ?_|refine rG 15 (ldA_ (cs:=[_,_,_,_,_,_,_,_]) ty_agg_48 ty_size_48 rfl) ?_
  first|refine k_q 15 ?_|refine rG 15 (ldA_ (cs:=[_,_,_,_,_,_,_,_]) ty_agg_48 ty_size_48 rfl) ?_
  first | refine rS 15 ?_ | refine rU 15 ?_
  first|refine k_q 15 ?_|refine rG 15 (Calm.un rfl (una_not _)) ?_
  first|refine k_t rfl rfl ?_|refine k_f rfl rfl ?_
  refine k_n ?_
  refine k_u [(0,_),(1,_),(2,_),(3,_),(4,_),(20,_)] ?_
  refine k_T rfl ?_
  refine k_a (k_e rfl ?_)
  refine k_r ?_
  refine ⟨_,S,⟨_,_,rfl,rfl,rfl⟩,less_,?_⟩
  exact ⟨rfl,rfl⟩
theorem rfd_Text (x : Ix) (cx : List Value) (S : Mem) (hx : IxV S cx x) :
  ACall Try.prog 82 #[.agg cx.toArray] S fun r S'=>r = .string (txtX x)∧S'=S:=by
 obtain ⟨v2,v3,v6,v7,rfl,h1,h2,h3,h4⟩:=hx
 refine ACall.enter (rs:=[.tmp 2]) 14 [(0,.agg #[.string x.col,.int .i64 x.pri,v2,v3,.string x.bits,.int .i64 x.n,v6,v7])] Try.func82 rfl rfl (Nat.le_of_ble_eq_true rfl) rfl ⟨rfl,trivial⟩ ?_
 refine k_a ?_
 refine ARun.boxA (cs:=[_,_,_,_,_,_,_,_]) (lit_lt rfl) rfl ?_
 intro b1 f1
 have g1:=f1
 repeat ((with_reducible replace g1:=fresh_set g1);obtain ⟨g1,_⟩:=g1)
 try simp only [k_l1,k_l0,k_za,Nat.reduceAdd]
 refine k_e rfl (k_a ?_)
 refine rC (Calm.fieldAddr ty_field_48_0 rfl) ?_
 refine rC (ld_ ty_plain_9 rfl) ?_
 refine rC (Calm.fieldAddr ty_field_48_1 rfl) ?_
 refine rC (ld_ ty_plain_3 rfl) ?_
 refine ARun.call (lit_lt rfl) go_58 rfl (rr_Text x.col x.pri _) ?_
 rintro _ S9 ⟨rfl,e9⟩
 rw [e9];clear e9 S9
 refine k_m rfl ?_
 refine rC (Calm.extract rfl rfl) ?_
 refine rC (Calm.extract rfl rfl) ?_
 refine k_s rfl (k_e rfl ?_)
 refine k_u [(0,_),(1,_),(2,_),(3,_)] ?_
 refine k_a (k_m rfl (k_e rfl ?_))
 refine k_u [(0,_),(1,_),(2,_),(3,_)] ?_
 refine AWP.ret ?_
 refine ⟨_,S,⟨_,_,rfl,rfl,rfl⟩,less_,?_⟩
 exact ⟨rfl,rfl⟩
def begS (s w : ByteArray) : Bool := Fd.beg (numsT w) (numsT s)
theorem nums_cut (s : ByteArray) (a b : Nat) : numsT (s.extract a b) = ((numsT s).take b).drop a := by
 rw [nums_map,nums_map,data_extract,List.map_drop,List.map_take]
theorem rfd_begins (s w : ByteArray) (S : Mem) (hs : s.size ≤ 140737488355328) (hw : w.size ≤ 140737488355328) :
  ACall Try.prog 83 #[.string s,.string w] S fun r S'=>r = .bool (begS s w)∧S'=S:=by
 by_cases hl:w.size≤s.size
 ·have e:(decide (s.extract 0 w.size=w))=begS s w:=by
   unfold begS Fd.beg
   refine decide_eq_decide.2 ⟨fun h=>?_,fun h=>?_⟩
   ·have:=nums_cut s 0 w.size
    rw [h,List.drop_zero] at this
    rw [numsT_length];exact this.symm
   ·refine nums_inj ?_
    rw [nums_cut,List.drop_zero];rw [numsT_length] at h;exact h
  refine ACall.enter (rs:=[.tmp 4]) 18 [(0,.string s),(1,.string w)] Try.func83 rfl rfl (Nat.le_of_ble_eq_true rfl) rfl ⟨rfl,rfl,trivial⟩ ?_
  refine k_a (k_e rfl (k_a (k_m rfl ?_)))
  refine rC (Calm.lenStr (strT_spec ty_str_9) rfl) ?_
  refine k_m rfl ?_
  refine rC (Calm.lenStr (strT_spec ty_str_9) rfl) ?_
  refine rC (Calm.bin rfl rfl b_geq) ?_
  refine k_m rfl ?_
  first|refine k_q 10 ?_|refine rG 10 (Calm.move rfl) ?_
  first|refine k_q 10 ?_|refine rG 10 (Calm.move rfl) ?_
  first|refine k_q 10 ?_|refine rG 10 (Calm.lenStr (strT_spec ty_str_9) rfl) ?_
  first|refine k_q 10 ?_|refine rG 10 (Calm.as (congrArg Value.string (show s.extract ((0:Int)).toNat ((w.size:Int)).toNat=s.extract 0 w.size by simp)) (Calm.sliceStr (strT_spec ty_str_9) rfl (bnd_some _ _ rfl (by omega) (by omega)) (bnd_none _ _))) ?_
  first|refine k_q 10 ?_|refine rG 10 (Calm.move rfl) ?_
  first|refine k_q 10 ?_|refine rG 10 (Calm.bin rfl rfl (bin_str_eql _ _)) ?_
  first|refine k_t rfl rfl ?_|refine k_f rfl rfl ?_
  refine k_e rfl ?_
  refine k_u [(0,_),(1,_),(4,_)] ?_
  refine AWP.ret ?_
  refine ⟨_,S,⟨_,_,rfl,rfl,rfl⟩,less_,?_⟩
  exact ⟨by rw [← e];rfl,rfl⟩
 ·have e:begS s w=false:=by
   unfold begS Fd.beg
   refine decide_eq_false fun h=>?_
   have:=congrArg List.length h
   rw [List.length_take,numsT_length,numsT_length] at this
   omega
  refine ACall.enter (rs:=[.tmp 4]) 18 [(0,.string s),(1,.string w)] Try.func83 rfl rfl (Nat.le_of_ble_eq_true rfl) rfl ⟨rfl,rfl,trivial⟩ ?_
  refine k_a (k_e rfl (k_a (k_m rfl ?_)))
  refine rC (Calm.lenStr (strT_spec ty_str_9) rfl) ?_
  refine k_m rfl ?_
  refine rC (Calm.lenStr (strT_spec ty_str_9) rfl) ?_
  refine rC (Calm.bin rfl rfl b_geq) ?_
  refine k_m rfl ?_
  first|refine k_q 10 ?_|refine rG 10 (Calm.move rfl) ?_
  first|refine k_q 10 ?_|refine rG 10 (Calm.move rfl) ?_
  first|refine k_q 10 ?_|refine rG 10 (Calm.lenStr (strT_spec ty_str_9) rfl) ?_
  first|refine k_q 10 ?_|refine rG 10 (Calm.sliceStr (strT_spec ty_str_9) rfl (bnd_some _ _ rfl (by omega) (by omega)) (bnd_none _ _)) ?_
  first|refine k_q 10 ?_|refine rG 10 (Calm.move rfl) ?_
  first|refine k_q 10 ?_|refine rG 10 (Calm.bin rfl rfl (bin_str_eql _ _)) ?_
  first|refine k_t rfl rfl ?_|refine k_f rfl rfl ?_
  refine k_e rfl ?_
  refine k_u [(0,_),(1,_),(4,_)] ?_
  refine AWP.ret ?_
  refine ⟨_,S,⟨_,_,rfl,rfl,rfl⟩,less_,?_⟩
  exact ⟨by rw [e];rfl,rfl⟩
end Go.Proofs.Ytgidjbpgkeemiaa
