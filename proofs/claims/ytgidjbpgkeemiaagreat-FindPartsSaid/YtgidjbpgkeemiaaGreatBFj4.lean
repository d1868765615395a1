/-
  Texts that belong together: SortOB, Sort2OB, Sort3OB.
-/
import Derived.Test.YtgidjbpgkeemiaaGreatBFj3
set_option linter.unusedVariables false
set_option linter.unusedSimpArgs false
set_option linter.unusedSectionVars false
namespace Go.Proofs.YtgidjbpgkeemiaaGreat
open Go.RowKit
open Mv Srt
open Go.Sort (swp insInner insOuter insertionSort siftDown heapBuild heapPop heapSort scanUp scanDown partLoop partition partEqLoop partitionEqual scanSorted shiftDown shiftUp partialIns partialInsertionSort order2 median medianAdjacent choosePivot reverseLoop reverseRange breakStep breakPatterns pdq bitsLen xorNext Hint)
set_option maxRecDepth 4000
def encB (x : Nat) : Value := .int .u8 (x : Int)
theorem soB_nan (x : Nat) (S : Mem) : ACall Tryz.prog 83 #[encB x] S fun r S' => r = .bool false ∧ S' = S := by
 unfold encB
 refine ACall.enter (rs:=[.tmp 2]) 6 [(0,.int .u8 x)] Tryz.func83 rfl rfl (Nat.le_of_ble_eq_true rfl) rfl ⟨rfl,trivial⟩ ?_
 refine k_a (k_e rfl (k_a (k_m rfl (k_m rfl ?_))))
 refine rC (Calm.bin rfl rfl b_neq) ?_
 refine k_e rfl ?_
 refine k_u [(0,_),(2,_)] ?_
 refine AWP.ret ?_
 refine ⟨_,S,⟨_,_,rfl,rfl,rfl⟩,less_,?_⟩
 exact ⟨rfl,rfl⟩
theorem soB_less (x y : Nat) (S : Mem) : ACall Tryz.prog 55 #[encB x, encB y] S fun r S' => r = .bool (ltN x y) ∧ S' = S := by
 have hlt:decide ((x:Int)<(y:Int))=ltN x y:=by unfold ltN;rw [Bool.eq_iff_iff];simp
 have hx:=soB_nan x S
 unfold encB at *
 refine ACall.enter (rs:=[.tmp 4]) 17 [(0,.int .u8 x),(1,.int .u8 y)] Tryz.func55 rfl rfl (Nat.le_of_ble_eq_true rfl) rfl ⟨rfl,rfl,trivial⟩ ?_
 refine k_a (k_e rfl (k_a (k_m rfl ?_)))
 refine ARun.call (lit_lt rfl) go_83 rfl (hx) ?_
 rintro _ S1 ⟨rfl,h1⟩
 rw [h1];clear h1 S1
 refine k_m rfl ?_
 first|refine k_q 7 ?_|refine rG 7 (Calm.move rfl) ?_
 first | refine rS 7 ?_ | refine rU 7 ?_
 first|refine k_q 7 ?_|refine rG 7 (Calm.un rfl (una_not _)) ?_
 first|refine k_t rfl rfl ?_|refine k_f rfl rfl ?_
 refine k_m rfl ?_
 first|refine k_q 12 ?_|refine rG 12 (Calm.move rfl) ?_
 first|refine k_q 12 ?_|refine rG 12 (Calm.move rfl) ?_
 first|refine k_q 12 ?_|refine rG 12 (Calm.bin rfl rfl (bin_bool (bin_lss _ _) hlt)) ?_
 first|refine k_t rfl rfl ?_|refine k_f rfl rfl ?_
 refine k_e rfl ?_
 refine k_u [(0,_),(1,_),(4,_)] ?_
 refine AWP.ret ?_
 refine ⟨_,S,⟨_,_,rfl,rfl,rfl⟩,less_,?_⟩
 exact ⟨rfl,rfl⟩
set_option maxHeartbeats 4000000 in
theorem soB_ins {S : Mem} (b room n cap : Nat) (hb : Fresh S b) (hn : n ≤ 1048576) (d : Array Nat) (R : Rw (fun _ => True) n d) (ia ie : Int) (a e : Nat) (ha : ia = a) (he : ie = e) (han : a ≤ n) (hen : e ≤ n) :
  ACall Tryz.prog 75 #[.slice (some ⟨b,0,none⟩) n cap,.int .i64 ia,.int .i64 ie] (S.set b ⟨5,(d).toList.map encB,room⟩) fun r S'=>S'=S.set b ⟨5,(insertionSort ltN d a e).toList.map encB,room⟩∧Rw (fun _=>True) n (insertionSort ltN d a e):=by
 subst ha he
 refine ACall.enter (rs:=[]) 49 [(0,.slice (some ⟨b,0,none⟩) n cap),(1,.int .i64 a),(2,.int .i64 e)] Tryz.func75 rfl rfl (Nat.le_of_ble_eq_true rfl) rfl ⟨rfl,rfl,rfl,trivial⟩ ?_
 refine k_a (k_m rfl ?_)
 refine rC (Calm.bin rfl rfl b_add_i64) ?_
 refine k_e rfl ?_
 refine k_u [(0,_),(1,_),(2,_),(6,_)] ?_
 refine AWP.block ?_
 refine AWP.loop (X:=Nat × Array Nat) (fun x=>[(0,.slice (some ⟨b,0,none⟩) n cap),(1,.int .i64 a),(2,.int .i64 e),(6,.int .i64 x.1)]) (fun x=>S.set b ⟨5,(x.2).toList.map encB,room⟩) (fun x=>a<x.1∧(x.1≤n∨e≤x.1)∧Rw (fun _=>True) n x.2∧insOuter ltN a e x.1 x.2=insertionSort ltN d a e) (fun x=>e-x.1) ((a+1,d)) ⟨sb_,sb_,sb_,sb_,trivial⟩ (Mem.Less.refl _) (⟨by omega,by omega,R,rfl⟩) ?_
 rintro ⟨i,d1⟩ ⟨h1,h2,R1,h3⟩
 (try dsimp only at *)
 have z1:=R1.size
 by_cases hi:i<e
 ·refine AWP.seq (k_a (k_m rfl (k_m rfl ?_)))
  refine rC (Calm.bin rfl rfl b_lss) ?_
  refine k_n ?_
  refine k_u [(0,_),(1,_),(2,_),(6,_),(12,_)] ?_
  refine k_T rfl ?_
  refine k_k (AWP.seq ?_)
  refine AWP.block ?_
  refine k_a (k_m rfl (k_e rfl ?_))
  refine k_u [(0,_),(1,_),(2,_),(6,_),(12,_),(7,_)] ?_
  refine AWP.block ?_
  refine AWP.loop (X:=Nat × Array Nat) (fun x=>[(0,.slice (some ⟨b,0,none⟩) n cap),(1,.int .i64 a),(2,.int .i64 e),(6,.int .i64 i),(7,.int .i64 x.1)]) (fun x=>S.set b ⟨5,(x.2).toList.map encB,room⟩) (fun x=>x.1≤i∧Rw (fun _=>True) n x.2∧insInner ltN a x.1 x.2=insInner ltN a i d1) (fun x=>x.1) ((i,d1)) ⟨rfl,rfl,rfl,rfl,rfl,trivial⟩ (Mem.Less.refl _) (⟨Nat.le_refl _,R1,rfl⟩) ?_
  rintro ⟨j,d2⟩ ⟨k1,R2,k3⟩
  (try dsimp only at *)
  have z2:=R2.size
  have q0:=outer_go ltN (a:=a) (d:=d1) hi
  by_cases ha:a<j
  ·obtain ⟨j,rfl⟩ : ∃ q,j=q+1:=⟨j-1,by omega⟩
   refine AWP.seq (AWP.seq ?_)
   refine AWP.draw [(0,true),(1,true),(2,true),(3,true),(4,true),(5,true),(6,true),(7,true),(8,true),(9,true),(10,true),(11,true),(12,true),(13,false),(14,true)] [] mixed (by kernel_rfl) ?_
   refine dP (hc:=fun _=>Calm.move rfl) (h:=?_)
   refine dP (hc:=fun _=>Calm.move rfl) (h:=?_)
   refine dP (hc:=fun _=>Calm.bin rfl rfl b_gtr) (h:=?_)
   refine dP (hc:=fun _=>Calm.move rfl) (h:=?_)
   first|refine k_d ?_|refine dG (hc:=fun _=>Calm.move rfl) (h:=?_)
   first|refine k_d ?_|refine dG (hc:=fun _=>Calm.move rfl) (h:=?_)
   first|refine k_d ?_|refine dG (hc:=fun _=>Calm.indexS Tryz.underlying41 ty_size_5 rfl rfl (by omega) (by omega)) (h:=?_)
   first|refine k_d ?_|refine dL (hc:=Calm.load ty_plain_5 rfl (rd_row (k:=j+1) own_ rw_ rw_)) (h:=?_)
   first|refine k_d ?_|refine dG (hc:=fun _=>Calm.move rfl) (h:=?_)
   first|refine k_d ?_|refine dG (hc:=fun _=>Calm.move rfl) (h:=?_)
   first|refine k_d ?_|refine dG (hc:=fun _=>Calm.bin rfl rfl b_sub_i64) (h:=?_)
   first|refine k_d ?_|refine dG (hc:=fun _=>Calm.indexS Tryz.underlying41 ty_size_5 rfl rfl (by omega) (by omega)) (h:=?_)
   first|refine k_d ?_|refine dL (hc:=Calm.load ty_plain_5 rfl (rd_row (k:=j) own_ rw_ rw_)) (h:=?_)
   refine draw_only rfl ?_
   refine ARun.callG 3 true 19 rfl (lit_lt rfl) rfl (lit_lt rfl) go_55 rfl (soB_less _ _ _) ?_
   rintro _ _ ⟨rfl,rfl⟩
   refine arun_nil ⟨fun _=>less_,?_⟩
   refine dP (hc:=fun _=>(by first | exact Calm.pickT rfl rfl | exact Calm.pickF rfl rfl)) (h:=?_)
   refine draw_nil ?_
   refine athen_n ?_
   refine k_u [(0,_),(1,_),(2,_),(6,_),(7,_),(30,_)] ?_
   refine AWP.condB rfl (fun hl=>?_) (fun hl=>?_)
   ·refine k_k (AWP.seq ?_)
    refine AWP.block ?_
    refine AWP.draw [(0,true),(1,true),(2,true),(3,true),(4,true),(5,true),(6,true),(7,true),(8,true),(9,true),(10,true),(11,true),(12,true),(13,true),(14,true),(15,false),(16,true),(17,false)] [15,17] mixed (by kernel_rfl) ?_
    refine dP (hc:=fun _=>Calm.move rfl) (h:=?_)
    refine dP (hc:=fun _=>Calm.move rfl) (h:=?_)
    refine dP (hc:=fun _=>Calm.move rfl) (h:=?_)
    refine dP (hc:=fun _=>Calm.move rfl) (h:=?_)
    refine dP (hc:=fun _=>Calm.bin rfl rfl b_sub_i64) (h:=?_)
    refine dP (hc:=fun _=>Calm.move rfl) (h:=?_)
    refine dP (hc:=fun _=>Calm.move rfl) (h:=?_)
    refine dP (hc:=fun _=>Calm.bin rfl rfl b_sub_i64) (h:=?_)
    refine dP (hc:=fun _=>Calm.indexS Tryz.underlying41 ty_size_5 rfl rfl (by omega) (by omega)) (h:=?_)
    refine dC (hc:=Calm.load ty_plain_5 rfl (rd_row (k:=j) own_ rw_ rw_)) (h:=?_)
    refine dP (hc:=fun _=>Calm.move rfl) (h:=?_)
    refine dP (hc:=fun _=>Calm.move rfl) (h:=?_)
    refine dP (hc:=fun _=>Calm.indexS Tryz.underlying41 ty_size_5 rfl rfl (by omega) (by omega)) (h:=?_)
    refine dC (hc:=Calm.load ty_plain_5 rfl (rd_row (k:=j+1) own_ rw_ rw_)) (h:=?_)
    refine dP (hc:=fun _=>Calm.indexS Tryz.underlying41 ty_size_5 rfl rfl (by omega) (by omega)) (h:=?_)
    refine draw_only rfl ?_
    refine ARun.storeRow encB (j+1) rfl rfl ty_size_5 ⟨rfl,rfl⟩ own_ rw_ rw_ ?_
    try simp only [k_ms,k_sz,k_ss,k_za,Nat.reduceAdd]
    refine arun_nil ⟨fun h=>absurd h (by decide),?_⟩
    refine dP (hc:=fun _=>Calm.indexS Tryz.underlying41 ty_size_5 rfl rfl (by omega) (by omega)) (h:=?_)
    refine draw_only rfl ?_
    refine ARun.storeRow encB (j) rfl rfl ty_size_5 ⟨rfl,rfl⟩ own_ rw_ rw_ ?_
    try simp only [k_ms,k_sz,k_ss,k_za,Nat.reduceAdd]
    refine arun_nil ⟨fun h=>absurd h (by decide),?_⟩
    refine draw_nil ?_
    refine ain_n ?_
    refine athen_n ?_
    refine k_u [(0,_),(1,_),(2,_),(6,_),(7,_),(30,_)] ?_
    refine AWP.region ?_
    refine k_m rfl ?_
    refine rC (Calm.bin rfl rfl b_sub_i64) ?_
    refine k_e rfl ?_
    refine ⟨(j,swp d2 (j+1) j),?_,?_,?_,?_⟩
    all_goals (try dsimp only)
    ·exact ⟨sb_,sb_,sb_,sb_,sb_,trivial⟩
    ·exact Mem.Less.refl _
    ·exact ⟨by omega,R2.swp _ _ (by omega) (by omega),(ins_go ltN ha hl).trans k3⟩
    ·omega
   ·refine AWP.exit ?_
    refine athen_exit ?_
    refine athen_exit ?_
    refine ain_same ?_
    refine ain_n ?_
    refine athen_n ?_
    refine AWP.region ?_
    refine k_m rfl ?_
    refine rC (Calm.bin rfl rfl b_add_i64) ?_
    refine k_e rfl ?_
    refine ⟨(i+1,d2),?_,?_,?_,?_⟩
    all_goals (try dsimp only)
    ·exact ⟨sb_,sb_,sb_,sb_,trivial⟩
    ·exact Mem.Less.refl _
    ·exact ⟨by omega,by omega,R2,by rw [← k3,← ins_no ltN hl] at q0;exact q0.trans h3⟩
    ·omega
  ·refine AWP.seq (AWP.seq ?_)
   refine AWP.draw [(0,true),(1,true),(2,true),(3,true),(4,true),(5,true),(6,true),(7,true),(8,true),(9,true),(10,true),(11,true),(12,true),(13,false),(14,true)] [] mixed (by kernel_rfl) ?_
   refine dP (hc:=fun _=>Calm.move rfl) (h:=?_)
   refine dP (hc:=fun _=>Calm.move rfl) (h:=?_)
   refine dP (hc:=fun _=>Calm.bin rfl rfl b_gtr) (h:=?_)
   refine dP (hc:=fun _=>Calm.move rfl) (h:=?_)
   first|refine k_d ?_|refine dG (hc:=fun _=>Calm.move rfl) (h:=?_)
   first|refine k_d ?_|refine dG (hc:=fun _=>Calm.move rfl) (h:=?_)
   first|refine k_d ?_|refine dG (hc:=fun _=>Calm.indexS Tryz.underlying41 ty_size_5 rfl rfl (by omega) (by omega)) (h:=?_)
   first|refine k_d ?_|refine dL (hc:=Calm.load ty_plain_5 rfl (rd_row (k:=j+1) own_ rw_ rw_)) (h:=?_)
   first|refine k_d ?_|refine dG (hc:=fun _=>Calm.move rfl) (h:=?_)
   first|refine k_d ?_|refine dG (hc:=fun _=>Calm.move rfl) (h:=?_)
   first|refine k_d ?_|refine dG (hc:=fun _=>Calm.bin rfl rfl b_sub_i64) (h:=?_)
   first|refine k_d ?_|refine dG (hc:=fun _=>Calm.indexS Tryz.underlying41 ty_size_5 rfl rfl (by omega) (by omega)) (h:=?_)
   first|refine k_d ?_|refine dL (hc:=Calm.load ty_plain_5 rfl (rd_row (k:=j) own_ rw_ rw_)) (h:=?_)
   refine draw_only rfl ?_
   first | refine rS 19 ?_ | refine rU 19 ?_
   refine arun_nil ⟨fun _=>less_,?_⟩
   refine dP (hc:=fun _=>(by first | exact Calm.pickT rfl rfl | exact Calm.pickF rfl rfl)) (h:=?_)
   refine draw_nil ?_
   refine athen_n ?_
   refine k_u [(0,_),(1,_),(2,_),(6,_),(7,_),(30,_)] ?_
   refine k_F rfl ?_
   refine AWP.exit ?_
   refine athen_exit ?_
   refine athen_exit ?_
   refine ain_same ?_
   refine ain_n ?_
   refine athen_n ?_
   refine AWP.region ?_
   refine k_m rfl ?_
   refine rC (Calm.bin rfl rfl b_add_i64) ?_
   refine k_e rfl ?_
   refine ⟨(i+1,d2),?_,?_,?_,?_⟩
   all_goals (try dsimp only)
   ·exact ⟨sb_,sb_,sb_,sb_,trivial⟩
   ·exact Mem.Less.refl _
   ·exact ⟨by omega,by omega,R2,by rw [← k3,← ins_end ltN ha] at q0;exact q0.trans h3⟩
   ·omega
 ·refine AWP.seq (k_a (k_m rfl (k_m rfl ?_)))
  refine rC (Calm.bin rfl rfl b_lss) ?_
  refine k_n ?_
  refine k_u [(0,_),(1,_),(2,_),(6,_),(12,_)] ?_
  refine k_F rfl ?_
  refine AWP.exit ?_
  refine athen_exit ?_
  refine athen_exit ?_
  refine ain_same ?_
  refine ⟨_,_,rfl,Mem.Less.refl _,?_⟩
  rw [← h3,← outer_end ltN hi];exact ⟨rfl,R1⟩
set_option maxHeartbeats 4000000 in
theorem soB_sift {S : Mem} (b room n cap : Nat) (hb : Fresh S b) (hn : n ≤ 1048576) (d : Array Nat) (R : Rw (fun _ => True) n d) (il ih iF : Int) (lo hi first : Nat) (el : il = lo) (eh : ih = hi) (ef : iF = first) (hlo : lo ≤ n) (hfn : first + hi ≤ n) :
  ACall Tryz.prog 99 #[.slice (some ⟨b,0,none⟩) n cap,.int .i64 il,.int .i64 ih,.int .i64 iF] (S.set b ⟨5,(d).toList.map encB,room⟩) fun r S'=>S'=S.set b ⟨5,(siftDown ltN hi first lo d).toList.map encB,room⟩∧Rw (fun _=>True) n (siftDown ltN hi first lo d):=by
 subst el eh ef
 refine ACall.enter (rs:=[]) 76 [(0,.slice (some ⟨b,0,none⟩) n cap),(1,.int .i64 lo),(2,.int .i64 hi),(3,.int .i64 first)] Tryz.func99 rfl rfl (Nat.le_of_ble_eq_true rfl) rfl ⟨rfl,rfl,rfl,rfl,trivial⟩ ?_
 refine k_a (k_m rfl (k_e rfl ?_))
 refine k_u [(0,_),(1,_),(2,_),(3,_),(8,_)] ?_
 refine AWP.block ?_
 refine AWP.loop (X:=Nat × Array Nat) (fun x=>[(0,.slice (some ⟨b,0,none⟩) n cap),(2,.int .i64 hi),(3,.int .i64 first),(8,.int .i64 x.1)]) (fun x=>S.set b ⟨5,(x.2).toList.map encB,room⟩) (fun x=>x.1≤n∧Rw (fun _=>True) n x.2∧siftDown ltN hi first x.1 x.2=siftDown ltN hi first lo d) (fun x=>n+1-x.1) ((lo,d)) ⟨rfl,rfl,rfl,rfl,trivial⟩ (Mem.Less.refl _) (⟨hlo,R,rfl⟩) ?_
 rintro ⟨r,d1⟩ ⟨h1,R1,h3⟩
 (try dsimp only at *)
 have z1:=R1.size
 by_cases hc:hi≤2*r+1
 ·refine AWP.block ?_
  refine k_a (k_m rfl ?_)
  refine rC (Calm.bin rfl rfl b_mul_i64) ?_
  refine rC (Calm.bin rfl rfl b_add_i64) ?_
  refine k_e rfl ?_
  refine k_u [(0,_),(2,_),(3,_),(8,_),(9,_)] ?_
  refine AWP.seq (k_a (k_m rfl (k_m rfl ?_)))
  refine rC (Calm.bin rfl rfl b_geq) ?_
  refine k_n ?_
  refine k_u [(0,_),(2,_),(3,_),(8,_),(9,_),(16,_)] ?_
  refine k_T rfl ?_
  refine AWP.exit ?_
  refine athen_exit ?_
  refine ain_other rfl ?_
  refine athen_exit ?_
  refine ain_same ?_
  refine ⟨_,_,rfl,Mem.Less.refl _,?_⟩
  rw [← h3,← sift_leaf ltN hc];exact ⟨rfl,R1⟩
 ·refine AWP.block ?_
  refine k_a (k_m rfl ?_)
  refine rC (Calm.bin rfl rfl b_mul_i64) ?_
  refine rC (Calm.bin rfl rfl b_add_i64) ?_
  refine k_e rfl ?_
  refine k_u [(0,_),(2,_),(3,_),(8,_),(9,_)] ?_
  refine AWP.seq (k_a (k_m rfl (k_m rfl ?_)))
  refine rC (Calm.bin rfl rfl b_geq) ?_
  refine k_n ?_
  refine k_u [(0,_),(2,_),(3,_),(8,_),(9,_),(16,_)] ?_
  refine k_F rfl ?_
  by_cases h2:2*r+2<hi
  ·refine k_k (AWP.seq (AWP.seq ?_))
   refine AWP.draw [(0,true),(1,true),(2,true),(3,true),(4,true),(5,true),(6,true),(7,true),(8,true),(9,true),(10,true),(11,true),(12,true),(13,true),(14,true),(15,true),(16,true),(17,true),(18,false),(19,true)] [] mixed (by kernel_rfl) ?_
   refine dP (hc:=fun _=>Calm.move rfl) (h:=?_)
   refine dP (hc:=fun _=>Calm.bin rfl rfl b_add_i64) (h:=?_)
   refine dP (hc:=fun _=>Calm.move rfl) (h:=?_)
   refine dP (hc:=fun _=>Calm.bin rfl rfl b_lss) (h:=?_)
   refine dP (hc:=fun _=>Calm.move rfl) (h:=?_)
   first|refine k_d ?_|refine dG (hc:=fun _=>Calm.move rfl) (h:=?_)
   first|refine k_d ?_|refine dG (hc:=fun _=>Calm.move rfl) (h:=?_)
   first|refine k_d ?_|refine dG (hc:=fun _=>Calm.move rfl) (h:=?_)
   first|refine k_d ?_|refine dG (hc:=fun _=>Calm.bin rfl rfl b_add_i64) (h:=?_)
   first|refine k_d ?_|refine dG (hc:=fun _=>Calm.indexS Tryz.underlying41 ty_size_5 rfl rfl (by omega) (by omega)) (h:=?_)
   first|refine k_d ?_|refine dL (hc:=Calm.load ty_plain_5 rfl (rd_row (k:=first+(2*r+1)) own_ rw_ rw_)) (h:=?_)
   first|refine k_d ?_|refine dG (hc:=fun _=>Calm.move rfl) (h:=?_)
   first|refine k_d ?_|refine dG (hc:=fun _=>Calm.move rfl) (h:=?_)
   first|refine k_d ?_|refine dG (hc:=fun _=>Calm.move rfl) (h:=?_)
   first|refine k_d ?_|refine dG (hc:=fun _=>Calm.bin rfl rfl b_add_i64) (h:=?_)
   first|refine k_d ?_|refine dG (hc:=fun _=>Calm.bin rfl rfl b_add_i64) (h:=?_)
   first|refine k_d ?_|refine dG (hc:=fun _=>Calm.indexS Tryz.underlying41 ty_size_5 rfl rfl (by omega) (by omega)) (h:=?_)
   first|refine k_d ?_|refine dL (hc:=Calm.load ty_plain_5 rfl (rd_row (k:=first+(2*r+2)) own_ rw_ rw_)) (h:=?_)
   refine draw_only rfl ?_
   refine ARun.callG 4 true 21 rfl (lit_lt rfl) rfl (lit_lt rfl) go_55 rfl (soB_less _ _ _) ?_
   rintro _ _ ⟨rfl,rfl⟩
   refine arun_nil ⟨fun _=>less_,?_⟩
   refine dP (hc:=fun _=>(by first | exact Calm.pickT rfl rfl | exact Calm.pickF rfl rfl)) (h:=?_)
   refine draw_nil ?_
   refine athen_n ?_
   refine k_u [(0,_),(2,_),(3,_),(8,_),(9,_),(16,_),(36,_)] ?_
   refine AWP.condB rfl (fun hl=>?_) (fun hl=>?_)
   ·have ch:child ltN hi first r d1=2*r+2:=if_pos ⟨h2,hl⟩
    refine AWP.region ?_
    refine k_m rfl ?_
    refine rC (Calm.bin rfl rfl b_add_i64) ?_
    refine k_e rfl ?_
    refine k_u [(0,_),(2,_),(3,_),(8,_),(9,_),(16,_),(36,_)] ?_
    refine AWP.seq (AWP.seq ?_)
    refine AWP.draw [(0,true),(1,true),(2,true),(3,true),(4,true),(5,true),(6,true),(7,true),(8,true),(9,true),(10,true),(11,true),(12,false),(13,true)] [] mixed (by kernel_rfl) ?_
    refine dP (hc:=fun _=>Calm.move rfl) (h:=?_)
    refine dP (hc:=fun _=>Calm.move rfl) (h:=?_)
    refine dP (hc:=fun _=>Calm.move rfl) (h:=?_)
    refine dP (hc:=fun _=>Calm.bin rfl rfl b_add_i64) (h:=?_)
    refine dP (hc:=fun _=>Calm.indexS Tryz.underlying41 ty_size_5 rfl rfl (by omega) (by omega)) (h:=?_)
    refine dC (hc:=Calm.load ty_plain_5 rfl (rd_row (k:=first+r) own_ rw_ rw_)) (h:=?_)
    refine dP (hc:=fun _=>Calm.move rfl) (h:=?_)
    refine dP (hc:=fun _=>Calm.move rfl) (h:=?_)
    refine dP (hc:=fun _=>Calm.move rfl) (h:=?_)
    refine dP (hc:=fun _=>Calm.bin rfl rfl b_add_i64) (h:=?_)
    refine dP (hc:=fun _=>Calm.indexS Tryz.underlying41 ty_size_5 rfl rfl (by omega) (by omega)) (h:=?_)
    refine dC (hc:=Calm.load ty_plain_5 rfl (rd_row (k:=first+(2*r+2)) own_ rw_ rw_)) (h:=?_)
    refine draw_only rfl ?_
    refine ARun.call (lit_lt rfl) go_55 rfl (soB_less _ _ _) ?_
    rintro _ _ ⟨rfl,rfl⟩
    refine arun_nil ⟨fun _=>less_,?_⟩
    refine dP (hc:=fun _=>Calm.un rfl (una_not _)) (h:=?_)
    refine draw_nil ?_
    refine athen_n ?_
    refine k_u [(0,_),(2,_),(3,_),(8,_),(9,_),(16,_),(36,_),(52,_)] ?_
    refine AWP.condB rfl (fun hl2=>?_) (fun hl2=>?_)
    ·have hl2:=nt_ hl2
     refine k_r ?_
     refine ain_ret ?_
     refine athen_ret ?_
     refine ain_ret ?_
     refine ⟨_,_,rfl,Mem.Less.refl _,?_⟩
     rw [← h3,← sift_stop ltN hc (by rw [ch];exact hl2)];exact ⟨rfl,R1⟩
    ·have hl2:=nf_ hl2
     refine k_k (AWP.seq ?_)
     refine AWP.draw [(0,true),(1,true),(2,true),(3,true),(4,true),(5,true),(6,true),(7,true),(8,true),(9,true),(10,true),(11,true),(12,true),(13,true),(14,true),(15,true),(16,true),(17,true),(18,true),(19,true),(20,true),(21,false),(22,true),(23,false)] [21,23] mixed (by kernel_rfl) ?_
     refine dP (hc:=fun _=>Calm.move rfl) (h:=?_)
     refine dP (hc:=fun _=>Calm.move rfl) (h:=?_)
     refine dP (hc:=fun _=>Calm.move rfl) (h:=?_)
     refine dP (hc:=fun _=>Calm.bin rfl rfl b_add_i64) (h:=?_)
     refine dP (hc:=fun _=>Calm.move rfl) (h:=?_)
     refine dP (hc:=fun _=>Calm.move rfl) (h:=?_)
     refine dP (hc:=fun _=>Calm.move rfl) (h:=?_)
     refine dP (hc:=fun _=>Calm.bin rfl rfl b_add_i64) (h:=?_)
     refine dP (hc:=fun _=>Calm.move rfl) (h:=?_)
     refine dP (hc:=fun _=>Calm.move rfl) (h:=?_)
     refine dP (hc:=fun _=>Calm.move rfl) (h:=?_)
     refine dP (hc:=fun _=>Calm.bin rfl rfl b_add_i64) (h:=?_)
     refine dP (hc:=fun _=>Calm.indexS Tryz.underlying41 ty_size_5 rfl rfl (by omega) (by omega)) (h:=?_)
     refine dC (hc:=Calm.load ty_plain_5 rfl (rd_row (k:=first+(2*r+2)) own_ rw_ rw_)) (h:=?_)
     refine dP (hc:=fun _=>Calm.move rfl) (h:=?_)
     refine dP (hc:=fun _=>Calm.move rfl) (h:=?_)
     refine dP (hc:=fun _=>Calm.move rfl) (h:=?_)
     refine dP (hc:=fun _=>Calm.bin rfl rfl b_add_i64) (h:=?_)
     refine dP (hc:=fun _=>Calm.indexS Tryz.underlying41 ty_size_5 rfl rfl (by omega) (by omega)) (h:=?_)
     refine dC (hc:=Calm.load ty_plain_5 rfl (rd_row (k:=first+r) own_ rw_ rw_)) (h:=?_)
     refine dP (hc:=fun _=>Calm.indexS Tryz.underlying41 ty_size_5 rfl rfl (by omega) (by omega)) (h:=?_)
     refine draw_only rfl ?_
     refine ARun.storeRow encB (first+r) rfl rfl ty_size_5 ⟨rfl,rfl⟩ own_ rw_ rw_ ?_
     try simp only [k_ms,k_sz,k_ss,k_za,Nat.reduceAdd]
     refine arun_nil ⟨fun h=>absurd h (by decide),?_⟩
     refine dP (hc:=fun _=>Calm.indexS Tryz.underlying41 ty_size_5 rfl rfl (by omega) (by omega)) (h:=?_)
     refine draw_only rfl ?_
     refine ARun.storeRow encB (first+(2*r+2)) rfl rfl ty_size_5 ⟨rfl,rfl⟩ own_ rw_ rw_ ?_
     try simp only [k_ms,k_sz,k_ss,k_za,Nat.reduceAdd]
     refine arun_nil ⟨fun h=>absurd h (by decide),?_⟩
     refine draw_nil ?_
     refine athen_n ?_
     refine k_u [(0,_),(2,_),(3,_),(8,_),(9,_),(16,_),(36,_),(52,_)] ?_
     refine AWP.region ?_
     refine k_m rfl (k_s rfl ?_)
     refine arun_nil ?_
     refine ain_n ?_
     refine athen_n ?_
     refine ⟨(2*r+2,swp d1 (first+r) (first+(2*r+2))),?_,?_,?_,?_⟩
     all_goals (try dsimp only)
     ·exact ⟨sb_,sb_,sb_,sb_,trivial⟩
     ·exact Mem.Less.refl _
     ·exact ⟨by omega,R1.swp _ _ (by omega) (by omega),by have q0:=sift_go ltN hc (by rw [ch];exact hl2);rw [ch] at q0;exact q0.trans h3⟩
     ·omega
   ·have ch:child ltN hi first r d1=2*r+1:=if_neg (fun h=>Bool.noConfusion (hl.symm.trans h.2))
    refine k_k (AWP.seq (AWP.seq ?_))
    refine AWP.draw [(0,true),(1,true),(2,true),(3,true),(4,true),(5,true),(6,true),(7,true),(8,true),(9,true),(10,true),(11,true),(12,false),(13,true)] [] mixed (by kernel_rfl) ?_
    refine dP (hc:=fun _=>Calm.move rfl) (h:=?_)
    refine dP (hc:=fun _=>Calm.move rfl) (h:=?_)
    refine dP (hc:=fun _=>Calm.move rfl) (h:=?_)
    refine dP (hc:=fun _=>Calm.bin rfl rfl b_add_i64) (h:=?_)
    refine dP (hc:=fun _=>Calm.indexS Tryz.underlying41 ty_size_5 rfl rfl (by omega) (by omega)) (h:=?_)
    refine dC (hc:=Calm.load ty_plain_5 rfl (rd_row (k:=first+r) own_ rw_ rw_)) (h:=?_)
    refine dP (hc:=fun _=>Calm.move rfl) (h:=?_)
    refine dP (hc:=fun _=>Calm.move rfl) (h:=?_)
    refine dP (hc:=fun _=>Calm.move rfl) (h:=?_)
    refine dP (hc:=fun _=>Calm.bin rfl rfl b_add_i64) (h:=?_)
    refine dP (hc:=fun _=>Calm.indexS Tryz.underlying41 ty_size_5 rfl rfl (by omega) (by omega)) (h:=?_)
    refine dC (hc:=Calm.load ty_plain_5 rfl (rd_row (k:=first+(2*r+1)) own_ rw_ rw_)) (h:=?_)
    refine draw_only rfl ?_
    refine ARun.call (lit_lt rfl) go_55 rfl (soB_less _ _ _) ?_
    rintro _ _ ⟨rfl,rfl⟩
    refine arun_nil ⟨fun _=>less_,?_⟩
    refine dP (hc:=fun _=>Calm.un rfl (una_not _)) (h:=?_)
    refine draw_nil ?_
    refine athen_n ?_
    refine k_u [(0,_),(2,_),(3,_),(8,_),(9,_),(16,_),(36,_),(52,_)] ?_
    refine AWP.condB rfl (fun hl2=>?_) (fun hl2=>?_)
    ·have hl2:=nt_ hl2
     refine k_r ?_
     refine ain_ret ?_
     refine athen_ret ?_
     refine ain_ret ?_
     refine ⟨_,_,rfl,Mem.Less.refl _,?_⟩
     rw [← h3,← sift_stop ltN hc (by rw [ch];exact hl2)];exact ⟨rfl,R1⟩
    ·have hl2:=nf_ hl2
     refine k_k (AWP.seq ?_)
     refine AWP.draw [(0,true),(1,true),(2,true),(3,true),(4,true),(5,true),(6,true),(7,true),(8,true),(9,true),(10,true),(11,true),(12,true),(13,true),(14,true),(15,true),(16,true),(17,true),(18,true),(19,true),(20,true),(21,false),(22,true),(23,false)] [21,23] mixed (by kernel_rfl) ?_
     refine dP (hc:=fun _=>Calm.move rfl) (h:=?_)
     refine dP (hc:=fun _=>Calm.move rfl) (h:=?_)
     refine dP (hc:=fun _=>Calm.move rfl) (h:=?_)
     refine dP (hc:=fun _=>Calm.bin rfl rfl b_add_i64) (h:=?_)
     refine dP (hc:=fun _=>Calm.move rfl) (h:=?_)
     refine dP (hc:=fun _=>Calm.move rfl) (h:=?_)
     refine dP (hc:=fun _=>Calm.move rfl) (h:=?_)
     refine dP (hc:=fun _=>Calm.bin rfl rfl b_add_i64) (h:=?_)
     refine dP (hc:=fun _=>Calm.move rfl) (h:=?_)
     refine dP (hc:=fun _=>Calm.move rfl) (h:=?_)
     refine dP (hc:=fun _=>Calm.move rfl) (h:=?_)
     refine dP (hc:=fun _=>Calm.bin rfl rfl b_add_i64) (h:=?_)
     refine dP (hc:=fun _=>Calm.indexS Tryz.underlying41 ty_size_5 rfl rfl (by omega) (by omega)) (h:=?_)
     refine dC (hc:=Calm.load ty_plain_5 rfl (rd_row (k:=first+(2*r+1)) own_ rw_ rw_)) (h:=?_)
     refine dP (hc:=fun _=>Calm.move rfl) (h:=?_)
     refine dP (hc:=fun _=>Calm.move rfl) (h:=?_)
     refine dP (hc:=fun _=>Calm.move rfl) (h:=?_)
     refine dP (hc:=fun _=>Calm.bin rfl rfl b_add_i64) (h:=?_)
     refine dP (hc:=fun _=>Calm.indexS Tryz.underlying41 ty_size_5 rfl rfl (by omega) (by omega)) (h:=?_)
     refine dC (hc:=Calm.load ty_plain_5 rfl (rd_row (k:=first+r) own_ rw_ rw_)) (h:=?_)
     refine dP (hc:=fun _=>Calm.indexS Tryz.underlying41 ty_size_5 rfl rfl (by omega) (by omega)) (h:=?_)
     refine draw_only rfl ?_
     refine ARun.storeRow encB (first+r) rfl rfl ty_size_5 ⟨rfl,rfl⟩ own_ rw_ rw_ ?_
     try simp only [k_ms,k_sz,k_ss,k_za,Nat.reduceAdd]
     refine arun_nil ⟨fun h=>absurd h (by decide),?_⟩
     refine dP (hc:=fun _=>Calm.indexS Tryz.underlying41 ty_size_5 rfl rfl (by omega) (by omega)) (h:=?_)
     refine draw_only rfl ?_
     refine ARun.storeRow encB (first+(2*r+1)) rfl rfl ty_size_5 ⟨rfl,rfl⟩ own_ rw_ rw_ ?_
     try simp only [k_ms,k_sz,k_ss,k_za,Nat.reduceAdd]
     refine arun_nil ⟨fun h=>absurd h (by decide),?_⟩
     refine draw_nil ?_
     refine athen_n ?_
     refine k_u [(0,_),(2,_),(3,_),(8,_),(9,_),(16,_),(36,_),(52,_)] ?_
     refine AWP.region ?_
     refine k_m rfl (k_s rfl ?_)
     refine arun_nil ?_
     refine ain_n ?_
     refine athen_n ?_
     refine ⟨(2*r+1,swp d1 (first+r) (first+(2*r+1))),?_,?_,?_,?_⟩
     all_goals (try dsimp only)
     ·exact ⟨sb_,sb_,sb_,sb_,trivial⟩
     ·exact Mem.Less.refl _
     ·exact ⟨by omega,R1.swp _ _ (by omega) (by omega),by have q0:=sift_go ltN hc (by rw [ch];exact hl2);rw [ch] at q0;exact q0.trans h3⟩
     ·omega
  ·refine k_k (AWP.seq (AWP.seq ?_))
   refine AWP.draw [(0,true),(1,true),(2,true),(3,true),(4,true),(5,true),(6,true),(7,true),(8,true),(9,true),(10,true),(11,true),(12,true),(13,true),(14,true),(15,true),(16,true),(17,true),(18,false),(19,true)] [] mixed (by kernel_rfl) ?_
   refine dP (hc:=fun _=>Calm.move rfl) (h:=?_)
   refine dP (hc:=fun _=>Calm.bin rfl rfl b_add_i64) (h:=?_)
   refine dP (hc:=fun _=>Calm.move rfl) (h:=?_)
   refine dP (hc:=fun _=>Calm.bin rfl rfl b_lss) (h:=?_)
   refine dP (hc:=fun _=>Calm.move rfl) (h:=?_)
   first|refine k_d ?_|refine dG (hc:=fun _=>Calm.move rfl) (h:=?_)
   first|refine k_d ?_|refine dG (hc:=fun _=>Calm.move rfl) (h:=?_)
   first|refine k_d ?_|refine dG (hc:=fun _=>Calm.move rfl) (h:=?_)
   first|refine k_d ?_|refine dG (hc:=fun _=>Calm.bin rfl rfl b_add_i64) (h:=?_)
   first|refine k_d ?_|refine dG (hc:=fun _=>Calm.indexS Tryz.underlying41 ty_size_5 rfl rfl (by omega) (by omega)) (h:=?_)
   first|refine k_d ?_|refine dL (hc:=Calm.load ty_plain_5 rfl (rd_row (k:=first+(2*r+1)) own_ rw_ rw_)) (h:=?_)
   first|refine k_d ?_|refine dG (hc:=fun _=>Calm.move rfl) (h:=?_)
   first|refine k_d ?_|refine dG (hc:=fun _=>Calm.move rfl) (h:=?_)
   first|refine k_d ?_|refine dG (hc:=fun _=>Calm.move rfl) (h:=?_)
   first|refine k_d ?_|refine dG (hc:=fun _=>Calm.bin rfl rfl b_add_i64) (h:=?_)
   first|refine k_d ?_|refine dG (hc:=fun _=>Calm.bin rfl rfl b_add_i64) (h:=?_)
   first|refine k_d ?_|refine dG (hc:=fun _=>Calm.indexS Tryz.underlying41 ty_size_5 rfl rfl (by omega) (by omega)) (h:=?_)
   first|refine k_d ?_|refine dL (hc:=Calm.load ty_plain_5 rfl (rd_row (k:=first+(2*r+2)) own_ rw_ rw_)) (h:=?_)
   refine draw_only rfl ?_
   first | refine rS 21 ?_ | refine rU 21 ?_
   refine arun_nil ⟨fun _=>less_,?_⟩
   refine dP (hc:=fun _=>(by first | exact Calm.pickT rfl rfl | exact Calm.pickF rfl rfl)) (h:=?_)
   refine draw_nil ?_
   refine athen_n ?_
   refine k_u [(0,_),(2,_),(3,_),(8,_),(9,_),(16,_),(36,_)] ?_
   refine k_F rfl ?_
   have ch:child ltN hi first r d1=2*r+1:=if_neg (fun h=>h2 h.1)
   refine k_k (AWP.seq (AWP.seq ?_))
   refine AWP.draw [(0,true),(1,true),(2,true),(3,true),(4,true),(5,true),(6,true),(7,true),(8,true),(9,true),(10,true),(11,true),(12,false),(13,true)] [] mixed (by kernel_rfl) ?_
   refine dP (hc:=fun _=>Calm.move rfl) (h:=?_)
   refine dP (hc:=fun _=>Calm.move rfl) (h:=?_)
   refine dP (hc:=fun _=>Calm.move rfl) (h:=?_)
   refine dP (hc:=fun _=>Calm.bin rfl rfl b_add_i64) (h:=?_)
   refine dP (hc:=fun _=>Calm.indexS Tryz.underlying41 ty_size_5 rfl rfl (by omega) (by omega)) (h:=?_)
   refine dC (hc:=Calm.load ty_plain_5 rfl (rd_row (k:=first+r) own_ rw_ rw_)) (h:=?_)
   refine dP (hc:=fun _=>Calm.move rfl) (h:=?_)
   refine dP (hc:=fun _=>Calm.move rfl) (h:=?_)
   refine dP (hc:=fun _=>Calm.move rfl) (h:=?_)
   refine dP (hc:=fun _=>Calm.bin rfl rfl b_add_i64) (h:=?_)
   refine dP (hc:=fun _=>Calm.indexS Tryz.underlying41 ty_size_5 rfl rfl (by omega) (by omega)) (h:=?_)
   refine dC (hc:=Calm.load ty_plain_5 rfl (rd_row (k:=first+(2*r+1)) own_ rw_ rw_)) (h:=?_)
   refine draw_only rfl ?_
   refine ARun.call (lit_lt rfl) go_55 rfl (soB_less _ _ _) ?_
   rintro _ _ ⟨rfl,rfl⟩
   refine arun_nil ⟨fun _=>less_,?_⟩
   refine dP (hc:=fun _=>Calm.un rfl (una_not _)) (h:=?_)
   refine draw_nil ?_
   refine athen_n ?_
   refine k_u [(0,_),(2,_),(3,_),(8,_),(9,_),(16,_),(36,_),(52,_)] ?_
   refine AWP.condB rfl (fun hl2=>?_) (fun hl2=>?_)
   ·have hl2:=nt_ hl2
    refine k_r ?_
    refine ain_ret ?_
    refine athen_ret ?_
    refine ain_ret ?_
    refine ⟨_,_,rfl,Mem.Less.refl _,?_⟩
    rw [← h3,← sift_stop ltN hc (by rw [ch];exact hl2)];exact ⟨rfl,R1⟩
   ·have hl2:=nf_ hl2
    refine k_k (AWP.seq ?_)
    refine AWP.draw [(0,true),(1,true),(2,true),(3,true),(4,true),(5,true),(6,true),(7,true),(8,true),(9,true),(10,true),(11,true),(12,true),(13,true),(14,true),(15,true),(16,true),(17,true),(18,true),(19,true),(20,true),(21,false),(22,true),(23,false)] [21,23] mixed (by kernel_rfl) ?_
    refine dP (hc:=fun _=>Calm.move rfl) (h:=?_)
    refine dP (hc:=fun _=>Calm.move rfl) (h:=?_)
    refine dP (hc:=fun _=>Calm.move rfl) (h:=?_)
    refine dP (hc:=fun _=>Calm.bin rfl rfl b_add_i64) (h:=?_)
    refine dP (hc:=fun _=>Calm.move rfl) (h:=?_)
    refine dP (hc:=fun _=>Calm.move rfl) (h:=?_)
    refine dP (hc:=fun _=>Calm.move rfl) (h:=?_)
    refine dP (hc:=fun _=>Calm.bin rfl rfl b_add_i64) (h:=?_)
    refine dP (hc:=fun _=>Calm.move rfl) (h:=?_)
    refine dP (hc:=fun _=>Calm.move rfl) (h:=?_)
    refine dP (hc:=fun _=>Calm.move rfl) (h:=?_)
    refine dP (hc:=fun _=>Calm.bin rfl rfl b_add_i64) (h:=?_)
    refine dP (hc:=fun _=>Calm.indexS Tryz.underlying41 ty_size_5 rfl rfl (by omega) (by omega)) (h:=?_)
    refine dC (hc:=Calm.load ty_plain_5 rfl (rd_row (k:=first+(2*r+1)) own_ rw_ rw_)) (h:=?_)
    refine dP (hc:=fun _=>Calm.move rfl) (h:=?_)
    refine dP (hc:=fun _=>Calm.move rfl) (h:=?_)
    refine dP (hc:=fun _=>Calm.move rfl) (h:=?_)
    refine dP (hc:=fun _=>Calm.bin rfl rfl b_add_i64) (h:=?_)
    refine dP (hc:=fun _=>Calm.indexS Tryz.underlying41 ty_size_5 rfl rfl (by omega) (by omega)) (h:=?_)
    refine dC (hc:=Calm.load ty_plain_5 rfl (rd_row (k:=first+r) own_ rw_ rw_)) (h:=?_)
    refine dP (hc:=fun _=>Calm.indexS Tryz.underlying41 ty_size_5 rfl rfl (by omega) (by omega)) (h:=?_)
    refine draw_only rfl ?_
    refine ARun.storeRow encB (first+r) rfl rfl ty_size_5 ⟨rfl,rfl⟩ own_ rw_ rw_ ?_
    try simp only [k_ms,k_sz,k_ss,k_za,Nat.reduceAdd]
    refine arun_nil ⟨fun h=>absurd h (by decide),?_⟩
    refine dP (hc:=fun _=>Calm.indexS Tryz.underlying41 ty_size_5 rfl rfl (by omega) (by omega)) (h:=?_)
    refine draw_only rfl ?_
    refine ARun.storeRow encB (first+(2*r+1)) rfl rfl ty_size_5 ⟨rfl,rfl⟩ own_ rw_ rw_ ?_
    try simp only [k_ms,k_sz,k_ss,k_za,Nat.reduceAdd]
    refine arun_nil ⟨fun h=>absurd h (by decide),?_⟩
    refine draw_nil ?_
    refine athen_n ?_
    refine k_u [(0,_),(2,_),(3,_),(8,_),(9,_),(16,_),(36,_),(52,_)] ?_
    refine AWP.region ?_
    refine k_m rfl (k_s rfl ?_)
    refine arun_nil ?_
    refine ain_n ?_
    refine athen_n ?_
    refine ⟨(2*r+1,swp d1 (first+r) (first+(2*r+1))),?_,?_,?_,?_⟩
    all_goals (try dsimp only)
    ·exact ⟨sb_,sb_,sb_,sb_,trivial⟩
    ·exact Mem.Less.refl _
    ·exact ⟨by omega,R1.swp _ _ (by omega) (by omega),by have q0:=sift_go ltN hc (by rw [ch];exact hl2);rw [ch] at q0;exact q0.trans h3⟩
    ·omega
set_option maxHeartbeats 4000000 in
theorem soB_heap {S : Mem} (b room n cap : Nat) (hb : Fresh S b) (hn : n ≤ 1048576) (d : Array Nat) (R : Rw (fun _ => True) n d) (ia ie : Int) (a e : Nat) (ha : ia = a) (he : ie = e) (hae : a < e) (hen : e ≤ n) :
  ACall Tryz.prog 76 #[.slice (some ⟨b,0,none⟩) n cap,.int .i64 ia,.int .i64 ie] (S.set b ⟨5,(d).toList.map encB,room⟩) fun r S'=>S'=S.set b ⟨5,(heapSort ltN d a e).toList.map encB,room⟩∧Rw (fun _=>True) n (heapSort ltN d a e):=by
 subst ha he
 obtain ⟨L,rfl⟩ : ∃ L,e=a+L:=⟨e-a,by omega⟩
 have hH:heapPop ltN a L (heapBuild ltN L a ((L-1) / 2+1) d)=heapSort ltN d a (a+L):=by unfold heapSort;rw [Nat.add_sub_cancel_left]
 refine ACall.enter (rs:=[]) 56 [(0,.slice (some ⟨b,0,none⟩) n cap),(1,.int .i64 a),(2,.int .i64 ((a+L:Nat):Int))] Tryz.func76 rfl rfl (Nat.le_of_ble_eq_true rfl) rfl ⟨rfl,rfl,rfl,trivial⟩ ?_
 refine k_a (k_m rfl (k_e rfl ?_))
 refine k_u [(0,_),(1,_),(2,_),(6,_)] ?_
 refine k_a (k_e rfl (k_a (k_m rfl (k_m rfl ?_))))
 refine rC (Calm.bin rfl rfl b_sub_i64) ?_
 refine k_e rfl ?_
 refine k_u [(0,_),(1,_),(2,_),(6,_),(7,_),(8,_)] ?_
 refine AWP.seq (k_a (k_m rfl ?_))
 refine rC (Calm.bin rfl rfl b_sub_i64) ?_
 refine rC (Calm.bin rfl rfl b_quo_i64) ?_
 refine k_e rfl ?_
 refine k_u [(0,_),(1,_),(2,_),(6,_),(7,_),(8,_),(9,_)] ?_
 refine AWP.block ?_
 refine AWP.loop (X:=Nat × Array Nat) (fun x=>[(0,.slice (some ⟨b,0,none⟩) n cap),(6,.int .i64 a),(7,.int .i64 0),(8,.int .i64 L),(9,.int .i64 ((x.1:Int)-1))]) (fun x=>S.set b ⟨5,(x.2).toList.map encB,room⟩) (fun x=>x.1≤L∧Rw (fun _=>True) n x.2∧heapPop ltN a L (heapBuild ltN L a x.1 x.2)=heapSort ltN d a (a+L)) (fun x=>x.1) (((L-1) / 2+1,d)) ⟨sb_,sb_,sb_,sb_,sb_,trivial⟩ (Mem.Less.refl _) (⟨by omega,R,hH⟩) ?_
 rintro ⟨k,d1⟩ ⟨h1,R1,h3⟩
 (try dsimp only at *)
 by_cases hk:0<k
 ·obtain ⟨k,rfl⟩ : ∃ q,k=q+1:=⟨k-1,by omega⟩
  refine AWP.seq (k_a (k_m rfl ?_))
  refine rC (Calm.bin rfl rfl b_geq) ?_
  refine k_n ?_
  refine k_u [(0,_),(6,_),(7,_),(8,_),(9,_),(19,_)] ?_
  refine k_T rfl ?_
  refine k_k (AWP.seq ?_)
  refine AWP.block ?_
  refine AWP.region ?_
  refine k_m rfl (k_m rfl (k_m rfl (k_m rfl ?_)))
  refine ARun.call (lit_lt rfl) go_99 rfl (soB_sift b room n cap hb hn d1 R1 _ _ _ k L a rw_ rw_ rfl (by omega) (by omega)) ?_
  rintro _ _ ⟨rfl,R2⟩
  refine arun_nil ?_
  refine ain_n ?_
  refine athen_n ?_
  refine k_u [(0,_),(6,_),(7,_),(8,_),(9,_),(19,_)] ?_
  refine AWP.region ?_
  refine k_m rfl ?_
  refine rC (Calm.bin rfl rfl b_sub_i64) ?_
  refine k_e rfl ?_
  refine ⟨(k,siftDown ltN L a k d1),?_,?_,?_,?_⟩
  all_goals (try dsimp only)
  ·exact ⟨sb_,sb_,sb_,sb_,sb_,trivial⟩
  ·exact Mem.Less.refl _
  ·exact ⟨by omega,R2,h3⟩
  ·omega
 ·obtain rfl:k=0:=by omega
  refine AWP.seq (k_a (k_m rfl ?_))
  refine rC (Calm.bin rfl rfl b_geq) ?_
  refine k_n ?_
  refine k_u [(0,_),(6,_),(7,_),(8,_),(9,_),(19,_)] ?_
  refine k_F rfl ?_
  refine AWP.exit ?_
  refine athen_exit ?_
  refine athen_exit ?_
  refine ain_same ?_
  refine athen_n ?_
  refine k_a (k_m rfl ?_)
  refine rC (Calm.bin rfl rfl b_sub_i64) ?_
  refine k_e rfl ?_
  refine k_u [(0,_),(6,_),(7,_),(8,_),(9,_),(19,_),(10,_)] ?_
  refine AWP.block ?_
  refine AWP.loop (X:=Nat × Array Nat) (fun x=>[(0,.slice (some ⟨b,0,none⟩) n cap),(6,.int .i64 a),(7,.int .i64 0),(10,.int .i64 ((x.1:Int)-1))]) (fun x=>S.set b ⟨5,(x.2).toList.map encB,room⟩) (fun x=>x.1≤L∧Rw (fun _=>True) n x.2∧heapPop ltN a x.1 x.2=heapSort ltN d a (a+L)) (fun x=>x.1) ((L,d1)) ⟨sb_,sb_,sb_,sb_,trivial⟩ (Mem.Less.refl _) (⟨Nat.le_refl _,R1,h3⟩) ?_
  rintro ⟨k,d2⟩ ⟨k1,R2,k3⟩
  (try dsimp only at *)
  have z2:=R2.size
  by_cases hk:0<k
  ·obtain ⟨k,rfl⟩ : ∃ q,k=q+1:=⟨k-1,by omega⟩
   refine AWP.seq (k_a (k_m rfl ?_))
   refine rC (Calm.bin rfl rfl b_geq) ?_
   refine k_n ?_
   refine k_u [(0,_),(6,_),(7,_),(10,_),(30,_)] ?_
   refine k_T rfl ?_
   refine k_k (AWP.seq ?_)
   refine AWP.block ?_
   refine AWP.seq ?_
   refine AWP.draw [(0,true),(1,true),(2,true),(3,true),(4,true),(5,true),(6,true),(7,true),(8,true),(9,true),(10,true),(11,true),(12,true),(13,true),(14,true),(15,true),(16,true),(17,false),(18,true),(19,false)] [17,19] mixed (by kernel_rfl) ?_
   refine dP (hc:=fun _=>Calm.move rfl) (h:=?_)
   refine dP (hc:=fun _=>Calm.move rfl) (h:=?_)
   refine dP (hc:=fun _=>Calm.move rfl) (h:=?_)
   refine dP (hc:=fun _=>Calm.move rfl) (h:=?_)
   refine dP (hc:=fun _=>Calm.move rfl) (h:=?_)
   refine dP (hc:=fun _=>Calm.bin rfl rfl b_add_i64) (h:=?_)
   refine dP (hc:=fun _=>Calm.move rfl) (h:=?_)
   refine dP (hc:=fun _=>Calm.move rfl) (h:=?_)
   refine dP (hc:=fun _=>Calm.move rfl) (h:=?_)
   refine dP (hc:=fun _=>Calm.bin rfl rfl b_add_i64) (h:=?_)
   refine dP (hc:=fun _=>Calm.indexS Tryz.underlying41 ty_size_5 rfl rfl (by omega) (by omega)) (h:=?_)
   refine dC (hc:=Calm.load ty_plain_5 rfl (rd_row (k:=a+k) own_ rw_ rw_)) (h:=?_)
   refine dP (hc:=fun _=>Calm.move rfl) (h:=?_)
   refine dP (hc:=fun _=>Calm.move rfl) (h:=?_)
   refine dP (hc:=fun _=>Calm.indexS Tryz.underlying41 ty_size_5 rfl rfl (by omega) (by omega)) (h:=?_)
   refine dC (hc:=Calm.load ty_plain_5 rfl (rd_row (k:=a) own_ rw_ rw_)) (h:=?_)
   refine dP (hc:=fun _=>Calm.indexS Tryz.underlying41 ty_size_5 rfl rfl (by omega) (by omega)) (h:=?_)
   refine draw_only rfl ?_
   refine ARun.storeRow encB (a) rfl rfl ty_size_5 ⟨rfl,rfl⟩ own_ rw_ rw_ ?_
   try simp only [k_ms,k_sz,k_ss,k_za,Nat.reduceAdd]
   refine arun_nil ⟨fun h=>absurd h (by decide),?_⟩
   refine dP (hc:=fun _=>Calm.indexS Tryz.underlying41 ty_size_5 rfl rfl (by omega) (by omega)) (h:=?_)
   refine draw_only rfl ?_
   refine ARun.storeRow encB (a+k) rfl rfl ty_size_5 ⟨rfl,rfl⟩ own_ rw_ rw_ ?_
   try simp only [k_ms,k_sz,k_ss,k_za,Nat.reduceAdd]
   refine arun_nil ⟨fun h=>absurd h (by decide),?_⟩
   refine draw_nil ?_
   refine athen_n ?_
   refine k_u [(0,_),(6,_),(7,_),(10,_),(30,_)] ?_
   refine AWP.region ?_
   refine k_m rfl (k_m rfl (k_m rfl (k_m rfl ?_)))
   refine ARun.call (lit_lt rfl) go_99 rfl (soB_sift b room n cap hb hn (swp d2 a (a+k)) (R2.swp _ _ (by omega) (by omega)) _ _ _ 0 k a rfl rw_ rfl (by omega) (by omega)) ?_
   rintro _ _ ⟨rfl,R3⟩
   refine arun_nil ?_
   refine ain_n ?_
   refine athen_n ?_
   refine k_u [(0,_),(6,_),(7,_),(10,_),(30,_)] ?_
   refine AWP.region ?_
   refine k_m rfl ?_
   refine rC (Calm.bin rfl rfl b_sub_i64) ?_
   refine k_e rfl ?_
   refine ⟨(k,siftDown ltN k a 0 (swp d2 a (a+k))),?_,?_,?_,?_⟩
   all_goals (try dsimp only)
   ·exact ⟨sb_,sb_,sb_,sb_,trivial⟩
   ·exact Mem.Less.refl _
   ·exact ⟨by omega,R3,k3⟩
   ·omega
  ·obtain rfl:k=0:=by omega
   refine AWP.seq (k_a (k_m rfl ?_))
   refine rC (Calm.bin rfl rfl b_geq) ?_
   refine k_n ?_
   refine k_u [(0,_),(6,_),(7,_),(10,_),(30,_)] ?_
   refine k_F rfl ?_
   refine AWP.exit ?_
   refine athen_exit ?_
   refine athen_exit ?_
   refine ain_same ?_
   refine ⟨_,_,rfl,Mem.Less.refl _,?_⟩
   rw [← k3];exact ⟨rfl,R2⟩
set_option maxHeartbeats 4000000 in
theorem soB_part {S : Mem} (b room n cap : Nat) (hb : Fresh S b) (hn : n ≤ 1048576) (d : Array Nat) (R : Rw (fun _ => True) n d) (ia ie ip : Int) (a e p : Nat) (ha : ia = a) (he : ie = e) (hpp : ip = p) (hap : a ≤ p) (hpe : p < e) (hen : e ≤ n) :
  ACall Tryz.prog 82 #[.slice (some ⟨b,0,none⟩) n cap,.int .i64 ia,.int .i64 ie,.int .i64 ip] (S.set b ⟨5,(d).toList.map encB,room⟩) fun r S'=>PartR Nat (fun x:Array Nat=>S.set b ⟨5,(x).toList.map encB,room⟩) (fun _=>True) n (partition ltN d a e p) a e r S':=by
 subst ha he hpp
 obtain ⟨J,rfl⟩ : ∃ J,e=J+1:=⟨e-1,by omega⟩
 have R0:=R.swp a p (by omega) (by omega)
 have z:=R.size
 obtain ⟨d0,hd0⟩ : ∃ d0,d0=swp d a p:=⟨_,rfl⟩
 rw [← hd0] at R0
 have z0:=R0.size
 refine ACall.enter (rs:=[.tmp 8,.tmp 9]) 168 [(0,.slice (some ⟨b,0,none⟩) n cap),(1,.int .i64 a),(2,.int .i64 ((J+1:Nat):Int)),(3,.int .i64 p)] Tryz.func82 rfl rfl (Nat.le_of_ble_eq_true rfl) rfl ⟨rfl,rfl,rfl,rfl,trivial⟩ ?_
 refine k_a (k_s rfl (k_e rfl (AWP.seq ?_)))
 refine AWP.draw [(0,true),(1,true),(2,true),(3,true),(4,true),(5,true),(6,true),(7,true),(8,true),(9,true),(10,true),(11,true),(12,true),(13,false),(14,true),(15,false)] [13,15] mixed (by kernel_rfl) ?_
 refine dP (hc:=fun _=>Calm.move rfl) (h:=?_)
 refine dP (hc:=fun _=>Calm.move rfl) (h:=?_)
 refine dP (hc:=fun _=>Calm.move rfl) (h:=?_)
 refine dP (hc:=fun _=>Calm.move rfl) (h:=?_)
 refine dP (hc:=fun _=>Calm.move rfl) (h:=?_)
 refine dP (hc:=fun _=>Calm.move rfl) (h:=?_)
 refine dP (hc:=fun _=>Calm.indexS Tryz.underlying41 ty_size_5 rfl rfl (by omega) (by omega)) (h:=?_)
 refine dC (hc:=Calm.load ty_plain_5 rfl (rd_row (k:=p) own_ rw_ rw_)) (h:=?_)
 refine dP (hc:=fun _=>Calm.move rfl) (h:=?_)
 refine dP (hc:=fun _=>Calm.move rfl) (h:=?_)
 refine dP (hc:=fun _=>Calm.indexS Tryz.underlying41 ty_size_5 rfl rfl (by omega) (by omega)) (h:=?_)
 refine dC (hc:=Calm.load ty_plain_5 rfl (rd_row (k:=a) own_ rw_ rw_)) (h:=?_)
 refine dP (hc:=fun _=>Calm.indexS Tryz.underlying41 ty_size_5 rfl rfl (by omega) (by omega)) (h:=?_)
 refine draw_only rfl ?_
 refine ARun.storeRow encB (a) rfl rfl ty_size_5 ⟨rfl,rfl⟩ own_ rw_ rw_ ?_
 try simp only [k_ms,k_sz,k_ss,k_za,Nat.reduceAdd]
 refine arun_nil ⟨fun h=>absurd h (by decide),?_⟩
 refine dP (hc:=fun _=>Calm.indexS Tryz.underlying41 ty_size_5 rfl rfl (by omega) (by omega)) (h:=?_)
 refine draw_only rfl ?_
 refine ARun.storeRow encB (p) rfl rfl ty_size_5 ⟨rfl,rfl⟩ own_ rw_ rw_ ?_
 try simp only [k_ms,k_sz,k_ss,k_za,Nat.reduceAdd]
 refine arun_nil ⟨fun h=>absurd h (by decide),?_⟩
 refine draw_nil ?_
 refine athen_n ?_
 refine k_u [(0,_),(1,_),(2,_),(3,_),(8,_),(9,_)] ?_
 refine AWP.less (S.set b ⟨5,(d0).toList.map encB,room⟩) (by rw [hd0];exact Mem.Less.refl _) ?_
 refine k_a (k_m rfl ?_)
 refine rC (Calm.bin rfl rfl b_add_i64) ?_
 refine k_m rfl ?_
 refine rC (Calm.bin rfl rfl b_sub_i64) ?_
 refine k_s rfl (k_e rfl ?_)
 refine k_u [(0,_),(1,_),(2,_),(3,_),(8,_),(9,_),(10,_),(11,_)] ?_
 refine AWP.seq ?_
 refine AWP.join (X:=Nat) (fun x=>[(0,.slice (some ⟨b,0,none⟩) n cap),(1,.int .i64 a),(10,.int .i64 x),(11,.int .i64 J)]) (fun _=>S.set b ⟨5,(d0).toList.map encB,room⟩) (fun x=>a+1≤x∧x≤J+1∧x=scanUp (fun x=>ltN x d0[a]!) d0 (J) (a+1)) ?_ ?_
 ·refine AWP.block ?_
  refine AWP.loop (X:=Nat) (fun x=>[(0,.slice (some ⟨b,0,none⟩) n cap),(1,.int .i64 a),(10,.int .i64 x),(11,.int .i64 J)]) (fun _=>S.set b ⟨5,(d0).toList.map encB,room⟩) (fun x=>a+1≤x∧x≤J+1∧scanUp (fun x=>ltN x d0[a]!) d0 (J) x=scanUp (fun x=>ltN x d0[a]!) d0 (J) (a+1)) (fun x=>J+1-x) ((a+1)) ⟨sb_,sb_,sb_,sb_,trivial⟩ (Mem.Less.refl _) (⟨by omega,by omega,rfl⟩) ?_
  rintro i ⟨q1,q2,q3⟩
  (try dsimp only at *)
  by_cases hij:i≤J
  ·refine AWP.seq (AWP.seq ?_)
   refine AWP.draw [(0,true),(1,true),(2,true),(3,true),(4,true),(5,true),(6,true),(7,true),(8,true),(9,true),(10,true),(11,true),(12,false),(13,true)] [] mixed (by kernel_rfl) ?_
   refine dP (hc:=fun _=>Calm.move rfl) (h:=?_)
   refine dP (hc:=fun _=>Calm.move rfl) (h:=?_)
   refine dP (hc:=fun _=>Calm.bin rfl rfl b_leq) (h:=?_)
   refine dP (hc:=fun _=>Calm.move rfl) (h:=?_)
   first|refine k_d ?_|refine dG (hc:=fun _=>Calm.move rfl) (h:=?_)
   first|refine k_d ?_|refine dG (hc:=fun _=>Calm.move rfl) (h:=?_)
   first|refine k_d ?_|refine dG (hc:=fun _=>Calm.indexS Tryz.underlying41 ty_size_5 rfl rfl (by omega) (by omega)) (h:=?_)
   first|refine k_d ?_|refine dL (hc:=Calm.load ty_plain_5 rfl (rd_row (k:=i) own_ rw_ rw_)) (h:=?_)
   first|refine k_d ?_|refine dG (hc:=fun _=>Calm.move rfl) (h:=?_)
   first|refine k_d ?_|refine dG (hc:=fun _=>Calm.move rfl) (h:=?_)
   first|refine k_d ?_|refine dG (hc:=fun _=>Calm.indexS Tryz.underlying41 ty_size_5 rfl rfl (by omega) (by omega)) (h:=?_)
   first|refine k_d ?_|refine dL (hc:=Calm.load ty_plain_5 rfl (rd_row (k:=a) own_ rw_ rw_)) (h:=?_)
   refine draw_only rfl ?_
   refine ARun.callG 3 true 33 rfl (lit_lt rfl) rfl (lit_lt rfl) go_55 rfl (soB_less _ _ _) ?_
   rintro _ _ ⟨rfl,rfl⟩
   refine arun_nil ⟨fun _=>less_,?_⟩
   refine dP (hc:=fun _=>(by first | exact Calm.pickT rfl rfl | exact Calm.pickF rfl rfl)) (h:=?_)
   refine draw_nil ?_
   refine athen_n ?_
   refine k_u [(0,_),(1,_),(10,_),(11,_),(43,_)] ?_
   refine AWP.condB rfl (fun hl=>?_) (fun hl=>?_)
   ·refine k_k ?_
    refine AWP.block ?_
    refine AWP.region ?_
    refine k_m rfl ?_
    refine rC (Calm.bin rfl rfl b_add_i64) ?_
    refine k_s rfl ?_
    refine arun_nil ?_
    refine ain_n ?_
    refine athen_n ?_
    refine ⟨i+1,?_,?_,?_,?_⟩
    all_goals (try dsimp only)
    ·exact ⟨sb_,sb_,sb_,sb_,trivial⟩
    ·exact Mem.Less.refl _
    ·exact ⟨by omega,by omega,(up_go (p:=(fun x=>ltN x d0[a]!)) hij (by simp only [hl,Bool.not_true,Bool.not_false])).trans q3⟩
    ·omega
   ·refine AWP.exit ?_
    refine athen_exit ?_
    refine athen_exit ?_
    refine ain_same ?_
    refine ⟨i,?_,?_,?_⟩
    all_goals (try dsimp only)
    ·exact ⟨by omega,by omega,(up_no (p:=(fun x=>ltN x d0[a]!)) (by simp only [hl,Bool.not_true,Bool.not_false])).trans q3⟩
    ·exact ⟨sb_,sb_,sb_,sb_,trivial⟩
    ·exact Mem.Less.refl _
  ·refine AWP.seq (AWP.seq ?_)
   refine AWP.draw [(0,true),(1,true),(2,true),(3,true),(4,true),(5,true),(6,true),(7,true),(8,true),(9,true),(10,true),(11,true),(12,false),(13,true)] [] mixed (by kernel_rfl) ?_
   refine dP (hc:=fun _=>Calm.move rfl) (h:=?_)
   refine dP (hc:=fun _=>Calm.move rfl) (h:=?_)
   refine dP (hc:=fun _=>Calm.bin rfl rfl b_leq) (h:=?_)
   refine dP (hc:=fun _=>Calm.move rfl) (h:=?_)
   first|refine k_d ?_|refine dG (hc:=fun _=>Calm.move rfl) (h:=?_)
   first|refine k_d ?_|refine dG (hc:=fun _=>Calm.move rfl) (h:=?_)
   first|refine k_d ?_|refine dG (hc:=fun _=>Calm.indexS Tryz.underlying41 ty_size_5 rfl rfl (by omega) (by omega)) (h:=?_)
   first|refine k_d ?_|refine dL (hc:=Calm.load ty_plain_5 rfl (rd_row (k:=i) own_ rw_ rw_)) (h:=?_)
   first|refine k_d ?_|refine dG (hc:=fun _=>Calm.move rfl) (h:=?_)
   first|refine k_d ?_|refine dG (hc:=fun _=>Calm.move rfl) (h:=?_)
   first|refine k_d ?_|refine dG (hc:=fun _=>Calm.indexS Tryz.underlying41 ty_size_5 rfl rfl (by omega) (by omega)) (h:=?_)
   first|refine k_d ?_|refine dL (hc:=Calm.load ty_plain_5 rfl (rd_row (k:=a) own_ rw_ rw_)) (h:=?_)
   refine draw_only rfl ?_
   first | refine rS 33 ?_ | refine rU 33 ?_
   refine arun_nil ⟨fun _=>less_,?_⟩
   refine dP (hc:=fun _=>(by first | exact Calm.pickT rfl rfl | exact Calm.pickF rfl rfl)) (h:=?_)
   refine draw_nil ?_
   refine athen_n ?_
   refine k_u [(0,_),(1,_),(10,_),(11,_),(43,_)] ?_
   refine k_F rfl ?_
   refine AWP.exit ?_
   refine athen_exit ?_
   refine athen_exit ?_
   refine ain_same ?_
   refine ⟨i,?_,?_,?_⟩
   all_goals (try dsimp only)
   ·exact ⟨by omega,by omega,(up_end (p:=(fun x=>ltN x d0[a]!)) hij).trans q3⟩
   ·exact ⟨sb_,sb_,sb_,sb_,trivial⟩
   ·exact Mem.Less.refl _
 rintro i2 ⟨b1,b2,hU⟩
 intro _ _ hs_ hl_
 (try dsimp only at *)
 refine athen_n ?_
 refine AWP.sub _ hs_ (AWP.less _ hl_ ?_)
 clear hs_ hl_
 refine AWP.seq ?_
 refine AWP.join (X:=Nat) (fun x=>[(0,.slice (some ⟨b,0,none⟩) n cap),(1,.int .i64 a),(10,.int .i64 i2),(11,.int .i64 x)]) (fun _=>S.set b ⟨5,(d0).toList.map encB,room⟩) (fun x=>a≤x∧x≤J∧x=scanDown (fun x=>!ltN x d0[a]!) d0 i2 J) ?_ ?_
 ·refine AWP.block ?_
  refine AWP.loop (X:=Nat) (fun x=>[(0,.slice (some ⟨b,0,none⟩) n cap),(1,.int .i64 a),(10,.int .i64 i2),(11,.int .i64 x)]) (fun _=>S.set b ⟨5,(d0).toList.map encB,room⟩) (fun x=>a≤x∧x≤J∧scanDown (fun x=>!ltN x d0[a]!) d0 i2 x=scanDown (fun x=>!ltN x d0[a]!) d0 i2 J) (fun x=>x) (J) ⟨sb_,sb_,sb_,sb_,trivial⟩ (Mem.Less.refl _) (⟨by omega,by omega,rfl⟩) ?_
  rintro j ⟨q1,q2,q3⟩
  (try dsimp only at *)
  by_cases hij:i2≤j
  ·obtain ⟨j,rfl⟩ : ∃ q,j=q+1:=⟨j-1,by omega⟩
   refine AWP.seq (AWP.seq ?_)
   refine AWP.draw [(0,true),(1,true),(2,true),(3,true),(4,true),(5,true),(6,true),(7,true),(8,true),(9,true),(10,true),(11,true),(12,false),(13,true),(14,true)] [] mixed (by kernel_rfl) ?_
   refine dP (hc:=fun _=>Calm.move rfl) (h:=?_)
   refine dP (hc:=fun _=>Calm.move rfl) (h:=?_)
   refine dP (hc:=fun _=>Calm.bin rfl rfl b_leq) (h:=?_)
   refine dP (hc:=fun _=>Calm.move rfl) (h:=?_)
   first|refine k_d ?_|refine dG (hc:=fun _=>Calm.move rfl) (h:=?_)
   first|refine k_d ?_|refine dG (hc:=fun _=>Calm.move rfl) (h:=?_)
   first|refine k_d ?_|refine dG (hc:=fun _=>Calm.indexS Tryz.underlying41 ty_size_5 rfl rfl (by omega) (by omega)) (h:=?_)
   first|refine k_d ?_|refine dL (hc:=Calm.load ty_plain_5 rfl (rd_row (k:=j+1) own_ rw_ rw_)) (h:=?_)
   first|refine k_d ?_|refine dG (hc:=fun _=>Calm.move rfl) (h:=?_)
   first|refine k_d ?_|refine dG (hc:=fun _=>Calm.move rfl) (h:=?_)
   first|refine k_d ?_|refine dG (hc:=fun _=>Calm.indexS Tryz.underlying41 ty_size_5 rfl rfl (by omega) (by omega)) (h:=?_)
   first|refine k_d ?_|refine dL (hc:=Calm.load ty_plain_5 rfl (rd_row (k:=a) own_ rw_ rw_)) (h:=?_)
   refine draw_only rfl ?_
   refine ARun.callG 3 true 49 rfl (lit_lt rfl) rfl (lit_lt rfl) go_55 rfl (soB_less _ _ _) ?_
   rintro _ _ ⟨rfl,rfl⟩
   refine arun_nil ⟨fun _=>less_,?_⟩
   first|refine k_d ?_|refine dG (hc:=fun _=>Calm.un rfl (una_not _)) (h:=?_)
   refine dP (hc:=fun _=>(by first | exact Calm.pickT rfl rfl | exact Calm.pickF rfl rfl)) (h:=?_)
   refine draw_nil ?_
   refine athen_n ?_
   refine k_u [(0,_),(1,_),(10,_),(11,_),(60,_)] ?_
   refine AWP.condB rfl (fun hl=>?_) (fun hl=>?_)
   ·have hl:=nt_ hl
    refine k_k ?_
    refine AWP.block ?_
    refine AWP.region ?_
    refine k_m rfl ?_
    refine rC (Calm.bin rfl rfl b_sub_i64) ?_
    refine k_s rfl ?_
    refine arun_nil ?_
    refine ain_n ?_
    refine athen_n ?_
    refine ⟨j,?_,?_,?_,?_⟩
    all_goals (try dsimp only)
    ·exact ⟨sb_,sb_,sb_,sb_,trivial⟩
    ·exact Mem.Less.refl _
    ·exact ⟨by omega,by omega,(down_go (p:=(fun x=>!ltN x d0[a]!)) hij (by simp only [hl,Bool.not_true,Bool.not_false])).trans q3⟩
    ·omega
   ·have hl:=nf_ hl
    refine AWP.exit ?_
    refine athen_exit ?_
    refine athen_exit ?_
    refine ain_same ?_
    refine ⟨(j+1),?_,?_,?_⟩
    all_goals (try dsimp only)
    ·exact ⟨by omega,by omega,(down_no (p:=(fun x=>!ltN x d0[a]!)) (by omega) (by simp only [hl,Bool.not_true,Bool.not_false])).trans q3⟩
    ·exact ⟨sb_,sb_,sb_,sb_,trivial⟩
    ·exact Mem.Less.refl _
  ·refine AWP.seq (AWP.seq ?_)
   refine AWP.draw [(0,true),(1,true),(2,true),(3,true),(4,true),(5,true),(6,true),(7,true),(8,true),(9,true),(10,true),(11,true),(12,false),(13,true),(14,true)] [] mixed (by kernel_rfl) ?_
   refine dP (hc:=fun _=>Calm.move rfl) (h:=?_)
   refine dP (hc:=fun _=>Calm.move rfl) (h:=?_)
   refine dP (hc:=fun _=>Calm.bin rfl rfl b_leq) (h:=?_)
   refine dP (hc:=fun _=>Calm.move rfl) (h:=?_)
   first|refine k_d ?_|refine dG (hc:=fun _=>Calm.move rfl) (h:=?_)
   first|refine k_d ?_|refine dG (hc:=fun _=>Calm.move rfl) (h:=?_)
   first|refine k_d ?_|refine dG (hc:=fun _=>Calm.indexS Tryz.underlying41 ty_size_5 rfl rfl (by omega) (by omega)) (h:=?_)
   first|refine k_d ?_|refine dL (hc:=Calm.load ty_plain_5 rfl (rd_row (k:=j+1) own_ rw_ rw_)) (h:=?_)
   first|refine k_d ?_|refine dG (hc:=fun _=>Calm.move rfl) (h:=?_)
   first|refine k_d ?_|refine dG (hc:=fun _=>Calm.move rfl) (h:=?_)
   first|refine k_d ?_|refine dG (hc:=fun _=>Calm.indexS Tryz.underlying41 ty_size_5 rfl rfl (by omega) (by omega)) (h:=?_)
   first|refine k_d ?_|refine dL (hc:=Calm.load ty_plain_5 rfl (rd_row (k:=a) own_ rw_ rw_)) (h:=?_)
   refine draw_only rfl ?_
   first | refine rS 49 ?_ | refine rU 49 ?_
   refine arun_nil ⟨fun _=>less_,?_⟩
   first|refine k_d ?_|refine dG (hc:=fun _=>Calm.un rfl (una_not _)) (h:=?_)
   refine dP (hc:=fun _=>(by first | exact Calm.pickT rfl rfl | exact Calm.pickF rfl rfl)) (h:=?_)
   refine draw_nil ?_
   refine athen_n ?_
   refine k_u [(0,_),(1,_),(10,_),(11,_),(60,_)] ?_
   refine k_F rfl ?_
   refine AWP.exit ?_
   refine athen_exit ?_
   refine athen_exit ?_
   refine ain_same ?_
   refine ⟨j,?_,?_,?_⟩
   all_goals (try dsimp only)
   ·exact ⟨by omega,by omega,(down_end (p:=(fun x=>!ltN x d0[a]!)) hij).trans q3⟩
   ·exact ⟨sb_,sb_,sb_,sb_,trivial⟩
   ·exact Mem.Less.refl _
 rintro j2 ⟨b3,b4,hD⟩
 intro _ _ hs_ hl_
 (try dsimp only at *)
 refine athen_n ?_
 refine AWP.sub _ hs_ (AWP.less _ hl_ ?_)
 clear hs_ hl_
 by_cases hx:j2<i2
 ·refine AWP.seq (k_a (k_m rfl (k_m rfl ?_)))
  refine rC (Calm.bin rfl rfl b_gtr) ?_
  refine k_n ?_
  refine k_u [(0,_),(1,_),(10,_),(11,_),(65,_)] ?_
  refine k_T rfl ?_
  refine AWP.seq ?_
  refine AWP.draw [(0,true),(1,true),(2,true),(3,true),(4,true),(5,true),(6,true),(7,true),(8,true),(9,true),(10,true),(11,true),(12,true),(13,false),(14,true),(15,false)] [13,15] mixed (by kernel_rfl) ?_
  refine dP (hc:=fun _=>Calm.move rfl) (h:=?_)
  refine dP (hc:=fun _=>Calm.move rfl) (h:=?_)
  refine dP (hc:=fun _=>Calm.move rfl) (h:=?_)
  refine dP (hc:=fun _=>Calm.move rfl) (h:=?_)
  refine dP (hc:=fun _=>Calm.move rfl) (h:=?_)
  refine dP (hc:=fun _=>Calm.move rfl) (h:=?_)
  refine dP (hc:=fun _=>Calm.indexS Tryz.underlying41 ty_size_5 rfl rfl (by omega) (by omega)) (h:=?_)
  refine dC (hc:=Calm.load ty_plain_5 rfl (rd_row (k:=a) own_ rw_ rw_)) (h:=?_)
  refine dP (hc:=fun _=>Calm.move rfl) (h:=?_)
  refine dP (hc:=fun _=>Calm.move rfl) (h:=?_)
  refine dP (hc:=fun _=>Calm.indexS Tryz.underlying41 ty_size_5 rfl rfl (by omega) (by omega)) (h:=?_)
  refine dC (hc:=Calm.load ty_plain_5 rfl (rd_row (k:=j2) own_ rw_ rw_)) (h:=?_)
  refine dP (hc:=fun _=>Calm.indexS Tryz.underlying41 ty_size_5 rfl rfl (by omega) (by omega)) (h:=?_)
  refine draw_only rfl ?_
  refine ARun.storeRow encB (j2) rfl rfl ty_size_5 ⟨rfl,rfl⟩ own_ rw_ rw_ ?_
  try simp only [k_ms,k_sz,k_ss,k_za,Nat.reduceAdd]
  refine arun_nil ⟨fun h=>absurd h (by decide),?_⟩
  refine dP (hc:=fun _=>Calm.indexS Tryz.underlying41 ty_size_5 rfl rfl (by omega) (by omega)) (h:=?_)
  refine draw_only rfl ?_
  refine ARun.storeRow encB (a) rfl rfl ty_size_5 ⟨rfl,rfl⟩ own_ rw_ rw_ ?_
  try simp only [k_ms,k_sz,k_ss,k_za,Nat.reduceAdd]
  refine arun_nil ⟨fun h=>absurd h (by decide),?_⟩
  refine draw_nil ?_
  refine athen_n ?_
  refine k_u [(0,_),(1,_),(10,_),(11,_),(65,_)] ?_
  refine k_a (k_m rfl (k_s rfl (k_e rfl ?_)))
  refine k_u [(0,_),(1,_),(10,_),(11,_),(65,_),(8,_),(9,_)] ?_
  refine k_r ?_
  refine ⟨_,_,⟨_,_,rfl,⟨_,_,rfl,rfl,rfl⟩,rfl⟩,Mem.Less.refl _,?_⟩
  exact part_res1 ltN hd0 hU hD hx (R0.swp _ _ (by omega) (by omega)) (by omega) (by omega)
 ·refine AWP.seq (k_a (k_m rfl (k_m rfl ?_)))
  refine rC (Calm.bin rfl rfl b_gtr) ?_
  refine k_n ?_
  refine k_u [(0,_),(1,_),(10,_),(11,_),(65,_)] ?_
  refine k_F rfl ?_
  refine k_k (AWP.seq ?_)
  refine AWP.draw [(0,true),(1,true),(2,true),(3,true),(4,true),(5,true),(6,true),(7,true),(8,true),(9,true),(10,true),(11,true),(12,true),(13,false),(14,true),(15,false)] [13,15] mixed (by kernel_rfl) ?_
  have R1:=R0.swp i2 j2 (by omega) (by omega)
  have hst:partLoop ltN a (i2+1) (j2-1) (swp d0 i2 j2)=partLoop ltN a (i2+1) (j2-1) (swp d0 i2 j2):=rfl
  refine dP (hc:=fun _=>Calm.move rfl) (h:=?_)
  refine dP (hc:=fun _=>Calm.move rfl) (h:=?_)
  refine dP (hc:=fun _=>Calm.move rfl) (h:=?_)
  refine dP (hc:=fun _=>Calm.move rfl) (h:=?_)
  refine dP (hc:=fun _=>Calm.move rfl) (h:=?_)
  refine dP (hc:=fun _=>Calm.move rfl) (h:=?_)
  refine dP (hc:=fun _=>Calm.indexS Tryz.underlying41 ty_size_5 rfl rfl (by omega) (by omega)) (h:=?_)
  refine dC (hc:=Calm.load ty_plain_5 rfl (rd_row (k:=j2) own_ rw_ rw_)) (h:=?_)
  refine dP (hc:=fun _=>Calm.move rfl) (h:=?_)
  refine dP (hc:=fun _=>Calm.move rfl) (h:=?_)
  refine dP (hc:=fun _=>Calm.indexS Tryz.underlying41 ty_size_5 rfl rfl (by omega) (by omega)) (h:=?_)
  refine dC (hc:=Calm.load ty_plain_5 rfl (rd_row (k:=i2) own_ rw_ rw_)) (h:=?_)
  refine dP (hc:=fun _=>Calm.indexS Tryz.underlying41 ty_size_5 rfl rfl (by omega) (by omega)) (h:=?_)
  refine draw_only rfl ?_
  refine ARun.storeRow encB (i2) rfl rfl ty_size_5 ⟨rfl,rfl⟩ own_ rw_ rw_ ?_
  try simp only [k_ms,k_sz,k_ss,k_za,Nat.reduceAdd]
  refine arun_nil ⟨fun h=>absurd h (by decide),?_⟩
  refine dP (hc:=fun _=>Calm.indexS Tryz.underlying41 ty_size_5 rfl rfl (by omega) (by omega)) (h:=?_)
  refine draw_only rfl ?_
  refine ARun.storeRow encB (j2) rfl rfl ty_size_5 ⟨rfl,rfl⟩ own_ rw_ rw_ ?_
  try simp only [k_ms,k_sz,k_ss,k_za,Nat.reduceAdd]
  refine arun_nil ⟨fun h=>absurd h (by decide),?_⟩
  refine draw_nil ?_
  refine athen_n ?_
  refine k_u [(0,_),(1,_),(10,_),(11,_),(65,_)] ?_
  refine k_a (k_m rfl ?_)
  refine rC (Calm.bin rfl rfl b_add_i64) ?_
  refine k_e rfl ?_
  refine k_u [(0,_),(1,_),(10,_),(11,_),(65,_)] ?_
  refine k_a (k_m rfl ?_)
  refine rC (Calm.bin rfl rfl b_sub_i64) ?_
  refine k_e rfl ?_
  refine k_u [(0,_),(1,_),(10,_),(11,_),(65,_)] ?_
  refine AWP.seq ?_
  refine AWP.join (X:=Nat × Array Nat) (fun x=>[(0,.slice (some ⟨b,0,none⟩) n cap),(1,.int .i64 a),(11,.int .i64 x.1)]) (fun x=>S.set b ⟨5,(x.2).toList.map encB,room⟩) (fun x=>a≤x.1∧x.1≤J∧Rw (fun _=>True) n x.2∧(x.1,x.2)=partLoop ltN a (i2+1) (j2-1) (swp d0 i2 j2)) ?_ ?_
  ·refine AWP.block ?_
   refine AWP.loop (X:=Nat × Nat × Array Nat) (fun x=>[(0,.slice (some ⟨b,0,none⟩) n cap),(1,.int .i64 a),(10,.int .i64 x.1),(11,.int .i64 x.2.1)]) (fun x=>S.set b ⟨5,(x.2.2).toList.map encB,room⟩) (fun x=>a+1≤x.1∧x.1≤J+1∧a≤x.2.1∧x.2.1≤J∧Rw (fun _=>True) n x.2.2∧partLoop ltN a x.1 x.2.1 x.2.2=partLoop ltN a (i2+1) (j2-1) (swp d0 i2 j2)) (fun x=>J+1-x.1) ((i2+1,j2-1,swp d0 i2 j2)) ⟨sb_,sb_,sb_,sb_,trivial⟩ (Mem.Less.refl _) (⟨by dsimp only;omega,by dsimp only;omega,by dsimp only;omega,by dsimp only;omega,R1,rfl⟩) ?_
   rintro ⟨I2,J2,d2⟩ ⟨m1,m2,m4,m5,R2,m3⟩
   (try dsimp only at *)
   have z2:=R2.size
   refine AWP.block ?_
   refine AWP.seq ?_
   refine AWP.join (X:=Nat) (fun x=>[(0,.slice (some ⟨b,0,none⟩) n cap),(1,.int .i64 a),(10,.int .i64 x),(11,.int .i64 J2)]) (fun _=>S.set b ⟨5,(d2).toList.map encB,room⟩) (fun x=>a+1≤x∧x≤J+1∧x=scanUp (fun x=>ltN x d2[a]!) d2 (J2) I2) ?_ ?_
   ·refine AWP.block ?_
    refine AWP.loop (X:=Nat) (fun x=>[(0,.slice (some ⟨b,0,none⟩) n cap),(1,.int .i64 a),(10,.int .i64 x),(11,.int .i64 J2)]) (fun _=>S.set b ⟨5,(d2).toList.map encB,room⟩) (fun x=>a+1≤x∧x≤J+1∧scanUp (fun x=>ltN x d2[a]!) d2 (J2) x=scanUp (fun x=>ltN x d2[a]!) d2 (J2) I2) (fun x=>J+1-x) (I2) ⟨sb_,sb_,sb_,sb_,trivial⟩ (Mem.Less.refl _) (⟨by omega,by omega,rfl⟩) ?_
    rintro i ⟨q1,q2,q3⟩
    (try dsimp only at *)
    by_cases hij:i≤J2
    ·refine AWP.seq (AWP.seq ?_)
     refine AWP.draw [(0,true),(1,true),(2,true),(3,true),(4,true),(5,true),(6,true),(7,true),(8,true),(9,true),(10,true),(11,true),(12,false),(13,true)] [] mixed (by kernel_rfl) ?_
     refine dP (hc:=fun _=>Calm.move rfl) (h:=?_)
     refine dP (hc:=fun _=>Calm.move rfl) (h:=?_)
     refine dP (hc:=fun _=>Calm.bin rfl rfl b_leq) (h:=?_)
     refine dP (hc:=fun _=>Calm.move rfl) (h:=?_)
     first|refine k_d ?_|refine dG (hc:=fun _=>Calm.move rfl) (h:=?_)
     first|refine k_d ?_|refine dG (hc:=fun _=>Calm.move rfl) (h:=?_)
     first|refine k_d ?_|refine dG (hc:=fun _=>Calm.indexS Tryz.underlying41 ty_size_5 rfl rfl (by omega) (by omega)) (h:=?_)
     first|refine k_d ?_|refine dL (hc:=Calm.load ty_plain_5 rfl (rd_row (k:=i) own_ rw_ rw_)) (h:=?_)
     first|refine k_d ?_|refine dG (hc:=fun _=>Calm.move rfl) (h:=?_)
     first|refine k_d ?_|refine dG (hc:=fun _=>Calm.move rfl) (h:=?_)
     first|refine k_d ?_|refine dG (hc:=fun _=>Calm.indexS Tryz.underlying41 ty_size_5 rfl rfl (by omega) (by omega)) (h:=?_)
     first|refine k_d ?_|refine dL (hc:=Calm.load ty_plain_5 rfl (rd_row (k:=a) own_ rw_ rw_)) (h:=?_)
     refine draw_only rfl ?_
     refine ARun.callG 3 true 102 rfl (lit_lt rfl) rfl (lit_lt rfl) go_55 rfl (soB_less _ _ _) ?_
     rintro _ _ ⟨rfl,rfl⟩
     refine arun_nil ⟨fun _=>less_,?_⟩
     refine dP (hc:=fun _=>(by first | exact Calm.pickT rfl rfl | exact Calm.pickF rfl rfl)) (h:=?_)
     refine draw_nil ?_
     refine athen_n ?_
     refine k_u [(0,_),(1,_),(10,_),(11,_),(112,_)] ?_
     refine AWP.condB rfl (fun hl=>?_) (fun hl=>?_)
     ·refine k_k ?_
      refine AWP.block ?_
      refine AWP.region ?_
      refine k_m rfl ?_
      refine rC (Calm.bin rfl rfl b_add_i64) ?_
      refine k_s rfl ?_
      refine arun_nil ?_
      refine ain_n ?_
      refine athen_n ?_
      refine ⟨i+1,?_,?_,?_,?_⟩
      all_goals (try dsimp only)
      ·exact ⟨sb_,sb_,sb_,sb_,trivial⟩
      ·exact Mem.Less.refl _
      ·exact ⟨by omega,by omega,(up_go (p:=(fun x=>ltN x d2[a]!)) hij (by simp only [hl,Bool.not_true,Bool.not_false])).trans q3⟩
      ·omega
     ·refine AWP.exit ?_
      refine athen_exit ?_
      refine athen_exit ?_
      refine ain_same ?_
      refine ⟨i,?_,?_,?_⟩
      all_goals (try dsimp only)
      ·exact ⟨by omega,by omega,(up_no (p:=(fun x=>ltN x d2[a]!)) (by simp only [hl,Bool.not_true,Bool.not_false])).trans q3⟩
      ·exact ⟨sb_,sb_,sb_,sb_,trivial⟩
      ·exact Mem.Less.refl _
    ·refine AWP.seq (AWP.seq ?_)
     refine AWP.draw [(0,true),(1,true),(2,true),(3,true),(4,true),(5,true),(6,true),(7,true),(8,true),(9,true),(10,true),(11,true),(12,false),(13,true)] [] mixed (by kernel_rfl) ?_
     refine dP (hc:=fun _=>Calm.move rfl) (h:=?_)
     refine dP (hc:=fun _=>Calm.move rfl) (h:=?_)
     refine dP (hc:=fun _=>Calm.bin rfl rfl b_leq) (h:=?_)
     refine dP (hc:=fun _=>Calm.move rfl) (h:=?_)
     first|refine k_d ?_|refine dG (hc:=fun _=>Calm.move rfl) (h:=?_)
     first|refine k_d ?_|refine dG (hc:=fun _=>Calm.move rfl) (h:=?_)
     first|refine k_d ?_|refine dG (hc:=fun _=>Calm.indexS Tryz.underlying41 ty_size_5 rfl rfl (by omega) (by omega)) (h:=?_)
     first|refine k_d ?_|refine dL (hc:=Calm.load ty_plain_5 rfl (rd_row (k:=i) own_ rw_ rw_)) (h:=?_)
     first|refine k_d ?_|refine dG (hc:=fun _=>Calm.move rfl) (h:=?_)
     first|refine k_d ?_|refine dG (hc:=fun _=>Calm.move rfl) (h:=?_)
     first|refine k_d ?_|refine dG (hc:=fun _=>Calm.indexS Tryz.underlying41 ty_size_5 rfl rfl (by omega) (by omega)) (h:=?_)
     first|refine k_d ?_|refine dL (hc:=Calm.load ty_plain_5 rfl (rd_row (k:=a) own_ rw_ rw_)) (h:=?_)
     refine draw_only rfl ?_
     first | refine rS 102 ?_ | refine rU 102 ?_
     refine arun_nil ⟨fun _=>less_,?_⟩
     refine dP (hc:=fun _=>(by first | exact Calm.pickT rfl rfl | exact Calm.pickF rfl rfl)) (h:=?_)
     refine draw_nil ?_
     refine athen_n ?_
     refine k_u [(0,_),(1,_),(10,_),(11,_),(112,_)] ?_
     refine k_F rfl ?_
     refine AWP.exit ?_
     refine athen_exit ?_
     refine athen_exit ?_
     refine ain_same ?_
     refine ⟨i,?_,?_,?_⟩
     all_goals (try dsimp only)
     ·exact ⟨by omega,by omega,(up_end (p:=(fun x=>ltN x d2[a]!)) hij).trans q3⟩
     ·exact ⟨sb_,sb_,sb_,sb_,trivial⟩
     ·exact Mem.Less.refl _
   rintro i2 ⟨b1,b2,hU⟩
   intro _ _ hs_ hl_
   (try dsimp only at *)
   refine athen_n ?_
   refine AWP.sub _ hs_ (AWP.less _ hl_ ?_)
   clear hs_ hl_
   refine AWP.seq ?_
   refine AWP.join (X:=Nat) (fun x=>[(0,.slice (some ⟨b,0,none⟩) n cap),(1,.int .i64 a),(10,.int .i64 i2),(11,.int .i64 x)]) (fun _=>S.set b ⟨5,(d2).toList.map encB,room⟩) (fun x=>a≤x∧x≤J∧x=scanDown (fun x=>!ltN x d2[a]!) d2 i2 J2) ?_ ?_
   ·refine AWP.block ?_
    refine AWP.loop (X:=Nat) (fun x=>[(0,.slice (some ⟨b,0,none⟩) n cap),(1,.int .i64 a),(10,.int .i64 i2),(11,.int .i64 x)]) (fun _=>S.set b ⟨5,(d2).toList.map encB,room⟩) (fun x=>a≤x∧x≤J∧scanDown (fun x=>!ltN x d2[a]!) d2 i2 x=scanDown (fun x=>!ltN x d2[a]!) d2 i2 J2) (fun x=>x) (J2) ⟨sb_,sb_,sb_,sb_,trivial⟩ (Mem.Less.refl _) (⟨by omega,by omega,rfl⟩) ?_
    rintro j ⟨q1,q2,q3⟩
    (try dsimp only at *)
    by_cases hij:i2≤j
    ·obtain ⟨j,rfl⟩ : ∃ q,j=q+1:=⟨j-1,by omega⟩
     refine AWP.seq (AWP.seq ?_)
     refine AWP.draw [(0,true),(1,true),(2,true),(3,true),(4,true),(5,true),(6,true),(7,true),(8,true),(9,true),(10,true),(11,true),(12,false),(13,true),(14,true)] [] mixed (by kernel_rfl) ?_
     refine dP (hc:=fun _=>Calm.move rfl) (h:=?_)
     refine dP (hc:=fun _=>Calm.move rfl) (h:=?_)
     refine dP (hc:=fun _=>Calm.bin rfl rfl b_leq) (h:=?_)
     refine dP (hc:=fun _=>Calm.move rfl) (h:=?_)
     first|refine k_d ?_|refine dG (hc:=fun _=>Calm.move rfl) (h:=?_)
     first|refine k_d ?_|refine dG (hc:=fun _=>Calm.move rfl) (h:=?_)
     first|refine k_d ?_|refine dG (hc:=fun _=>Calm.indexS Tryz.underlying41 ty_size_5 rfl rfl (by omega) (by omega)) (h:=?_)
     first|refine k_d ?_|refine dL (hc:=Calm.load ty_plain_5 rfl (rd_row (k:=j+1) own_ rw_ rw_)) (h:=?_)
     first|refine k_d ?_|refine dG (hc:=fun _=>Calm.move rfl) (h:=?_)
     first|refine k_d ?_|refine dG (hc:=fun _=>Calm.move rfl) (h:=?_)
     first|refine k_d ?_|refine dG (hc:=fun _=>Calm.indexS Tryz.underlying41 ty_size_5 rfl rfl (by omega) (by omega)) (h:=?_)
     first|refine k_d ?_|refine dL (hc:=Calm.load ty_plain_5 rfl (rd_row (k:=a) own_ rw_ rw_)) (h:=?_)
     refine draw_only rfl ?_
     refine ARun.callG 3 true 118 rfl (lit_lt rfl) rfl (lit_lt rfl) go_55 rfl (soB_less _ _ _) ?_
     rintro _ _ ⟨rfl,rfl⟩
     refine arun_nil ⟨fun _=>less_,?_⟩
     first|refine k_d ?_|refine dG (hc:=fun _=>Calm.un rfl (una_not _)) (h:=?_)
     refine dP (hc:=fun _=>(by first | exact Calm.pickT rfl rfl | exact Calm.pickF rfl rfl)) (h:=?_)
     refine draw_nil ?_
     refine athen_n ?_
     refine k_u [(0,_),(1,_),(10,_),(11,_),(129,_)] ?_
     refine AWP.condB rfl (fun hl=>?_) (fun hl=>?_)
     ·have hl:=nt_ hl
      refine k_k ?_
      refine AWP.block ?_
      refine AWP.region ?_
      refine k_m rfl ?_
      refine rC (Calm.bin rfl rfl b_sub_i64) ?_
      refine k_s rfl ?_
      refine arun_nil ?_
      refine ain_n ?_
      refine athen_n ?_
      refine ⟨j,?_,?_,?_,?_⟩
      all_goals (try dsimp only)
      ·exact ⟨sb_,sb_,sb_,sb_,trivial⟩
      ·exact Mem.Less.refl _
      ·exact ⟨by omega,by omega,(down_go (p:=(fun x=>!ltN x d2[a]!)) hij (by simp only [hl,Bool.not_true,Bool.not_false])).trans q3⟩
      ·omega
     ·have hl:=nf_ hl
      refine AWP.exit ?_
      refine athen_exit ?_
      refine athen_exit ?_
      refine ain_same ?_
      refine ⟨(j+1),?_,?_,?_⟩
      all_goals (try dsimp only)
      ·exact ⟨by omega,by omega,(down_no (p:=(fun x=>!ltN x d2[a]!)) (by omega) (by simp only [hl,Bool.not_true,Bool.not_false])).trans q3⟩
      ·exact ⟨sb_,sb_,sb_,sb_,trivial⟩
      ·exact Mem.Less.refl _
    ·refine AWP.seq (AWP.seq ?_)
     refine AWP.draw [(0,true),(1,true),(2,true),(3,true),(4,true),(5,true),(6,true),(7,true),(8,true),(9,true),(10,true),(11,true),(12,false),(13,true),(14,true)] [] mixed (by kernel_rfl) ?_
     refine dP (hc:=fun _=>Calm.move rfl) (h:=?_)
     refine dP (hc:=fun _=>Calm.move rfl) (h:=?_)
     refine dP (hc:=fun _=>Calm.bin rfl rfl b_leq) (h:=?_)
     refine dP (hc:=fun _=>Calm.move rfl) (h:=?_)
     first|refine k_d ?_|refine dG (hc:=fun _=>Calm.move rfl) (h:=?_)
     first|refine k_d ?_|refine dG (hc:=fun _=>Calm.move rfl) (h:=?_)
     first|refine k_d ?_|refine dG (hc:=fun _=>Calm.indexS Tryz.underlying41 ty_size_5 rfl rfl (by omega) (by omega)) (h:=?_)
     first|refine k_d ?_|refine dL (hc:=Calm.load ty_plain_5 rfl (rd_row (k:=j+1) own_ rw_ rw_)) (h:=?_)
     first|refine k_d ?_|refine dG (hc:=fun _=>Calm.move rfl) (h:=?_)
     first|refine k_d ?_|refine dG (hc:=fun _=>Calm.move rfl) (h:=?_)
     first|refine k_d ?_|refine dG (hc:=fun _=>Calm.indexS Tryz.underlying41 ty_size_5 rfl rfl (by omega) (by omega)) (h:=?_)
     first|refine k_d ?_|refine dL (hc:=Calm.load ty_plain_5 rfl (rd_row (k:=a) own_ rw_ rw_)) (h:=?_)
     refine draw_only rfl ?_
     first | refine rS 118 ?_ | refine rU 118 ?_
     refine arun_nil ⟨fun _=>less_,?_⟩
     first|refine k_d ?_|refine dG (hc:=fun _=>Calm.un rfl (una_not _)) (h:=?_)
     refine dP (hc:=fun _=>(by first | exact Calm.pickT rfl rfl | exact Calm.pickF rfl rfl)) (h:=?_)
     refine draw_nil ?_
     refine athen_n ?_
     refine k_u [(0,_),(1,_),(10,_),(11,_),(129,_)] ?_
     refine k_F rfl ?_
     refine AWP.exit ?_
     refine athen_exit ?_
     refine athen_exit ?_
     refine ain_same ?_
     refine ⟨j,?_,?_,?_⟩
     all_goals (try dsimp only)
     ·exact ⟨by omega,by omega,(down_end (p:=(fun x=>!ltN x d2[a]!)) hij).trans q3⟩
     ·exact ⟨sb_,sb_,sb_,sb_,trivial⟩
     ·exact Mem.Less.refl _
   rintro j2 ⟨b3,b4,hD⟩
   intro _ _ hs_ hl_
   (try dsimp only at *)
   refine athen_n ?_
   refine AWP.sub _ hs_ (AWP.less _ hl_ ?_)
   clear hs_ hl_
   by_cases hx:j2<i2
   ·refine AWP.seq (k_a (k_m rfl (k_m rfl ?_)))
    refine rC (Calm.bin rfl rfl b_gtr) ?_
    refine k_n ?_
    refine k_u [(0,_),(1,_),(10,_),(11,_),(134,_)] ?_
    refine k_T rfl ?_
    refine AWP.exit ?_
    refine athen_exit ?_
    refine ain_other rfl ?_
    refine athen_exit ?_
    refine ain_same ?_
    refine ⟨(j2,d2),?_,?_,?_⟩
    all_goals (try dsimp only)
    ·exact ⟨by omega,by omega,R2,(part_stop ltN hU hD hx).trans m3⟩
    ·exact ⟨sb_,sb_,sb_,trivial⟩
    ·exact Mem.Less.refl _
   ·refine AWP.seq (k_a (k_m rfl (k_m rfl ?_)))
    refine rC (Calm.bin rfl rfl b_gtr) ?_
    refine k_n ?_
    refine k_u [(0,_),(1,_),(10,_),(11,_),(134,_)] ?_
    refine k_F rfl ?_
    refine k_k (AWP.seq ?_)
    refine AWP.draw [(0,true),(1,true),(2,true),(3,true),(4,true),(5,true),(6,true),(7,true),(8,true),(9,true),(10,true),(11,true),(12,true),(13,false),(14,true),(15,false)] [13,15] mixed (by kernel_rfl) ?_
    refine dP (hc:=fun _=>Calm.move rfl) (h:=?_)
    refine dP (hc:=fun _=>Calm.move rfl) (h:=?_)
    refine dP (hc:=fun _=>Calm.move rfl) (h:=?_)
    refine dP (hc:=fun _=>Calm.move rfl) (h:=?_)
    refine dP (hc:=fun _=>Calm.move rfl) (h:=?_)
    refine dP (hc:=fun _=>Calm.move rfl) (h:=?_)
    refine dP (hc:=fun _=>Calm.indexS Tryz.underlying41 ty_size_5 rfl rfl (by omega) (by omega)) (h:=?_)
    refine dC (hc:=Calm.load ty_plain_5 rfl (rd_row (k:=j2) own_ rw_ rw_)) (h:=?_)
    refine dP (hc:=fun _=>Calm.move rfl) (h:=?_)
    refine dP (hc:=fun _=>Calm.move rfl) (h:=?_)
    refine dP (hc:=fun _=>Calm.indexS Tryz.underlying41 ty_size_5 rfl rfl (by omega) (by omega)) (h:=?_)
    refine dC (hc:=Calm.load ty_plain_5 rfl (rd_row (k:=i2) own_ rw_ rw_)) (h:=?_)
    refine dP (hc:=fun _=>Calm.indexS Tryz.underlying41 ty_size_5 rfl rfl (by omega) (by omega)) (h:=?_)
    refine draw_only rfl ?_
    refine ARun.storeRow encB (i2) rfl rfl ty_size_5 ⟨rfl,rfl⟩ own_ rw_ rw_ ?_
    try simp only [k_ms,k_sz,k_ss,k_za,Nat.reduceAdd]
    refine arun_nil ⟨fun h=>absurd h (by decide),?_⟩
    refine dP (hc:=fun _=>Calm.indexS Tryz.underlying41 ty_size_5 rfl rfl (by omega) (by omega)) (h:=?_)
    refine draw_only rfl ?_
    refine ARun.storeRow encB (j2) rfl rfl ty_size_5 ⟨rfl,rfl⟩ own_ rw_ rw_ ?_
    try simp only [k_ms,k_sz,k_ss,k_za,Nat.reduceAdd]
    refine arun_nil ⟨fun h=>absurd h (by decide),?_⟩
    refine draw_nil ?_
    refine athen_n ?_
    refine k_u [(0,_),(1,_),(10,_),(11,_),(134,_)] ?_
    refine k_a (k_m rfl ?_)
    refine rC (Calm.bin rfl rfl b_add_i64) ?_
    refine k_e rfl ?_
    refine k_u [(0,_),(1,_),(10,_),(11,_),(134,_)] ?_
    refine AWP.region ?_
    refine k_m rfl ?_
    refine rC (Calm.bin rfl rfl b_sub_i64) ?_
    refine k_s rfl ?_
    refine arun_nil ?_
    refine ain_n ?_
    refine athen_n ?_
    refine ⟨(i2+1,j2-1,swp d2 i2 j2),?_,?_,?_,?_⟩
    all_goals (try dsimp only)
    ·exact ⟨sb_,sb_,sb_,sb_,trivial⟩
    ·exact Mem.Less.refl _
    ·exact ⟨by omega,by omega,by omega,by omega,R2.swp _ _ (by omega) (by omega),(part_go ltN hU hD hx).trans m3⟩
    ·(have:I2≤i2:=by rw [hU];exact Go.Sort.scanUp_ge _ _ _ _);omega
  rintro ⟨j3,d3⟩ ⟨t1,t2,R3,t3⟩
  intro _ _ hs_ hl_
  (try dsimp only at *)
  refine athen_n ?_
  refine AWP.sub _ hs_ (AWP.less _ hl_ ?_)
  clear hs_ hl_
  have z3:=R3.size
  refine AWP.seq ?_
  refine AWP.draw [(0,true),(1,true),(2,true),(3,true),(4,true),(5,true),(6,true),(7,true),(8,true),(9,true),(10,true),(11,true),(12,true),(13,false),(14,true),(15,false)] [13,15] mixed (by kernel_rfl) ?_
  refine dP (hc:=fun _=>Calm.move rfl) (h:=?_)
  refine dP (hc:=fun _=>Calm.move rfl) (h:=?_)
  refine dP (hc:=fun _=>Calm.move rfl) (h:=?_)
  refine dP (hc:=fun _=>Calm.move rfl) (h:=?_)
  refine dP (hc:=fun _=>Calm.move rfl) (h:=?_)
  refine dP (hc:=fun _=>Calm.move rfl) (h:=?_)
  refine dP (hc:=fun _=>Calm.indexS Tryz.underlying41 ty_size_5 rfl rfl (by omega) (by omega)) (h:=?_)
  refine dC (hc:=Calm.load ty_plain_5 rfl (rd_row (k:=a) own_ rw_ rw_)) (h:=?_)
  refine dP (hc:=fun _=>Calm.move rfl) (h:=?_)
  refine dP (hc:=fun _=>Calm.move rfl) (h:=?_)
  refine dP (hc:=fun _=>Calm.indexS Tryz.underlying41 ty_size_5 rfl rfl (by omega) (by omega)) (h:=?_)
  refine dC (hc:=Calm.load ty_plain_5 rfl (rd_row (k:=j3) own_ rw_ rw_)) (h:=?_)
  refine dP (hc:=fun _=>Calm.indexS Tryz.underlying41 ty_size_5 rfl rfl (by omega) (by omega)) (h:=?_)
  refine draw_only rfl ?_
  refine ARun.storeRow encB (j3) rfl rfl ty_size_5 ⟨rfl,rfl⟩ own_ rw_ rw_ ?_
  try simp only [k_ms,k_sz,k_ss,k_za,Nat.reduceAdd]
  refine arun_nil ⟨fun h=>absurd h (by decide),?_⟩
  refine dP (hc:=fun _=>Calm.indexS Tryz.underlying41 ty_size_5 rfl rfl (by omega) (by omega)) (h:=?_)
  refine draw_only rfl ?_
  refine ARun.storeRow encB (a) rfl rfl ty_size_5 ⟨rfl,rfl⟩ own_ rw_ rw_ ?_
  try simp only [k_ms,k_sz,k_ss,k_za,Nat.reduceAdd]
  refine arun_nil ⟨fun h=>absurd h (by decide),?_⟩
  refine draw_nil ?_
  refine athen_n ?_
  refine k_u [(0,_),(1,_),(11,_)] ?_
  refine k_a (k_m rfl (k_s rfl (k_e rfl ?_)))
  refine k_u [(0,_),(1,_),(11,_),(8,_),(9,_)] ?_
  refine AWP.ret ?_
  refine ⟨_,_,⟨_,_,rfl,⟨_,_,rfl,rfl,rfl⟩,rfl⟩,Mem.Less.refl _,?_⟩
  exact part_res2 ltN hd0 hU hD hx t3 (R3.swp _ _ (by omega) (by omega)) (by omega) (by omega)
set_option maxHeartbeats 4000000 in
theorem soB_parteq {S : Mem} (b room n cap : Nat) (hb : Fresh S b) (hn : n ≤ 1048576) (d : Array Nat) (R : Rw (fun _ => True) n d) (ia ie ip : Int) (a e p : Nat) (ha : ia = a) (he : ie = e) (hpp : ip = p) (hap : a ≤ p) (hpe : p < e) (hen : e ≤ n) :
  ACall Tryz.prog 81 #[.slice (some ⟨b,0,none⟩) n cap,.int .i64 ia,.int .i64 ie,.int .i64 ip] (S.set b ⟨5,(d).toList.map encB,room⟩) fun r S'=>PartEqR Nat (fun x:Array Nat=>S.set b ⟨5,(x).toList.map encB,room⟩) (fun _=>True) n (partitionEqual ltN d a e p) a e r S':=by
 subst ha he hpp
 obtain ⟨J,rfl⟩ : ∃ J,e=J+1:=⟨e-1,by omega⟩
 have R0:=R.swp a p (by omega) (by omega)
 have z:=R.size
 obtain ⟨d0,hd0⟩ : ∃ d0,d0=swp d a p:=⟨_,rfl⟩
 rw [← hd0] at R0
 have z0:=R0.size
 refine ACall.enter (rs:=[.tmp 8]) 84 [(0,.slice (some ⟨b,0,none⟩) n cap),(1,.int .i64 a),(2,.int .i64 ((J+1:Nat):Int)),(3,.int .i64 p)] Tryz.func81 rfl rfl (Nat.le_of_ble_eq_true rfl) rfl ⟨rfl,rfl,rfl,rfl,trivial⟩ ?_
 refine k_a (k_e rfl (AWP.seq ?_))
 refine AWP.draw [(0,true),(1,true),(2,true),(3,true),(4,true),(5,true),(6,true),(7,true),(8,true),(9,true),(10,true),(11,true),(12,true),(13,false),(14,true),(15,false)] [13,15] mixed (by kernel_rfl) ?_
 refine dP (hc:=fun _=>Calm.move rfl) (h:=?_)
 refine dP (hc:=fun _=>Calm.move rfl) (h:=?_)
 refine dP (hc:=fun _=>Calm.move rfl) (h:=?_)
 refine dP (hc:=fun _=>Calm.move rfl) (h:=?_)
 refine dP (hc:=fun _=>Calm.move rfl) (h:=?_)
 refine dP (hc:=fun _=>Calm.move rfl) (h:=?_)
 refine dP (hc:=fun _=>Calm.indexS Tryz.underlying41 ty_size_5 rfl rfl (by omega) (by omega)) (h:=?_)
 refine dC (hc:=Calm.load ty_plain_5 rfl (rd_row (k:=p) own_ rw_ rw_)) (h:=?_)
 refine dP (hc:=fun _=>Calm.move rfl) (h:=?_)
 refine dP (hc:=fun _=>Calm.move rfl) (h:=?_)
 refine dP (hc:=fun _=>Calm.indexS Tryz.underlying41 ty_size_5 rfl rfl (by omega) (by omega)) (h:=?_)
 refine dC (hc:=Calm.load ty_plain_5 rfl (rd_row (k:=a) own_ rw_ rw_)) (h:=?_)
 refine dP (hc:=fun _=>Calm.indexS Tryz.underlying41 ty_size_5 rfl rfl (by omega) (by omega)) (h:=?_)
 refine draw_only rfl ?_
 refine ARun.storeRow encB (a) rfl rfl ty_size_5 ⟨rfl,rfl⟩ own_ rw_ rw_ ?_
 try simp only [k_ms,k_sz,k_ss,k_za,Nat.reduceAdd]
 refine arun_nil ⟨fun h=>absurd h (by decide),?_⟩
 refine dP (hc:=fun _=>Calm.indexS Tryz.underlying41 ty_size_5 rfl rfl (by omega) (by omega)) (h:=?_)
 refine draw_only rfl ?_
 refine ARun.storeRow encB (p) rfl rfl ty_size_5 ⟨rfl,rfl⟩ own_ rw_ rw_ ?_
 try simp only [k_ms,k_sz,k_ss,k_za,Nat.reduceAdd]
 refine arun_nil ⟨fun h=>absurd h (by decide),?_⟩
 refine draw_nil ?_
 refine athen_n ?_
 refine k_u [(0,_),(1,_),(2,_),(3,_),(8,_)] ?_
 refine AWP.less (S.set b ⟨5,(d0).toList.map encB,room⟩) (by rw [hd0];exact Mem.Less.refl _) ?_
 refine k_a (k_m rfl ?_)
 refine rC (Calm.bin rfl rfl b_add_i64) ?_
 refine k_m rfl ?_
 refine rC (Calm.bin rfl rfl b_sub_i64) ?_
 refine k_s rfl (k_e rfl ?_)
 refine k_u [(0,_),(1,_),(2,_),(3,_),(8,_),(9,_),(10,_)] ?_
 refine AWP.seq ?_
 refine AWP.block ?_
 refine AWP.loop (X:=Nat × Nat × Array Nat) (fun x=>[(0,.slice (some ⟨b,0,none⟩) n cap),(1,.int .i64 a),(9,.int .i64 x.1),(10,.int .i64 x.2.1)]) (fun x=>S.set b ⟨5,(x.2.2).toList.map encB,room⟩) (fun x=>a+1≤x.1∧x.1≤J+1∧a≤x.2.1∧x.2.1≤J∧Rw (fun _=>True) n x.2.2∧partEqLoop ltN a x.1 x.2.1 x.2.2=partEqLoop ltN a (a+1) J d0) (fun x=>J+1-x.1) ((a+1,J,d0)) ⟨sb_,sb_,sb_,sb_,trivial⟩ (Mem.Less.refl _) (⟨by dsimp only;omega,by dsimp only;omega,by dsimp only;omega,by dsimp only;omega,R0,rfl⟩) ?_
 rintro ⟨I2,J2,d2⟩ ⟨m1,m2,m4,m5,R2,m3⟩
 (try dsimp only at *)
 have z2:=R2.size
 refine AWP.block ?_
 refine AWP.seq ?_
 refine AWP.join (X:=Nat) (fun x=>[(0,.slice (some ⟨b,0,none⟩) n cap),(1,.int .i64 a),(9,.int .i64 x),(10,.int .i64 J2)]) (fun _=>S.set b ⟨5,(d2).toList.map encB,room⟩) (fun x=>a+1≤x∧x≤J+1∧x=scanUp (fun x=>!ltN d2[a]! x) d2 (J2) I2) ?_ ?_
 ·refine AWP.block ?_
  refine AWP.loop (X:=Nat) (fun x=>[(0,.slice (some ⟨b,0,none⟩) n cap),(1,.int .i64 a),(9,.int .i64 x),(10,.int .i64 J2)]) (fun _=>S.set b ⟨5,(d2).toList.map encB,room⟩) (fun x=>a+1≤x∧x≤J+1∧scanUp (fun x=>!ltN d2[a]! x) d2 (J2) x=scanUp (fun x=>!ltN d2[a]! x) d2 (J2) I2) (fun x=>J+1-x) (I2) ⟨sb_,sb_,sb_,sb_,trivial⟩ (Mem.Less.refl _) (⟨by omega,by omega,rfl⟩) ?_
  rintro i ⟨q1,q2,q3⟩
  (try dsimp only at *)
  by_cases hij:i≤J2
  ·refine AWP.seq (AWP.seq ?_)
   refine AWP.draw [(0,true),(1,true),(2,true),(3,true),(4,true),(5,true),(6,true),(7,true),(8,true),(9,true),(10,true),(11,true),(12,false),(13,true),(14,true)] [] mixed (by kernel_rfl) ?_
   refine dP (hc:=fun _=>Calm.move rfl) (h:=?_)
   refine dP (hc:=fun _=>Calm.move rfl) (h:=?_)
   refine dP (hc:=fun _=>Calm.bin rfl rfl b_leq) (h:=?_)
   refine dP (hc:=fun _=>Calm.move rfl) (h:=?_)
   first|refine k_d ?_|refine dG (hc:=fun _=>Calm.move rfl) (h:=?_)
   first|refine k_d ?_|refine dG (hc:=fun _=>Calm.move rfl) (h:=?_)
   first|refine k_d ?_|refine dG (hc:=fun _=>Calm.indexS Tryz.underlying41 ty_size_5 rfl rfl (by omega) (by omega)) (h:=?_)
   first|refine k_d ?_|refine dL (hc:=Calm.load ty_plain_5 rfl (rd_row (k:=a) own_ rw_ rw_)) (h:=?_)
   first|refine k_d ?_|refine dG (hc:=fun _=>Calm.move rfl) (h:=?_)
   first|refine k_d ?_|refine dG (hc:=fun _=>Calm.move rfl) (h:=?_)
   first|refine k_d ?_|refine dG (hc:=fun _=>Calm.indexS Tryz.underlying41 ty_size_5 rfl rfl (by omega) (by omega)) (h:=?_)
   first|refine k_d ?_|refine dL (hc:=Calm.load ty_plain_5 rfl (rd_row (k:=i) own_ rw_ rw_)) (h:=?_)
   refine draw_only rfl ?_
   refine ARun.callG 3 true 32 rfl (lit_lt rfl) rfl (lit_lt rfl) go_55 rfl (soB_less _ _ _) ?_
   rintro _ _ ⟨rfl,rfl⟩
   refine arun_nil ⟨fun _=>less_,?_⟩
   first|refine k_d ?_|refine dG (hc:=fun _=>Calm.un rfl (una_not _)) (h:=?_)
   refine dP (hc:=fun _=>(by first | exact Calm.pickT rfl rfl | exact Calm.pickF rfl rfl)) (h:=?_)
   refine draw_nil ?_
   refine athen_n ?_
   refine k_u [(0,_),(1,_),(9,_),(10,_),(43,_)] ?_
   refine AWP.condB rfl (fun hl=>?_) (fun hl=>?_)
   ·have hl:=nt_ hl
    refine k_k ?_
    refine AWP.block ?_
    refine AWP.region ?_
    refine k_m rfl ?_
    refine rC (Calm.bin rfl rfl b_add_i64) ?_
    refine k_s rfl ?_
    refine arun_nil ?_
    refine ain_n ?_
    refine athen_n ?_
    refine ⟨i+1,?_,?_,?_,?_⟩
    all_goals (try dsimp only)
    ·exact ⟨sb_,sb_,sb_,sb_,trivial⟩
    ·exact Mem.Less.refl _
    ·exact ⟨by omega,by omega,(up_go (p:=(fun x=>!ltN d2[a]! x)) hij (by simp only [hl,Bool.not_true,Bool.not_false])).trans q3⟩
    ·omega
   ·have hl:=nf_ hl
    refine AWP.exit ?_
    refine athen_exit ?_
    refine athen_exit ?_
    refine ain_same ?_
    refine ⟨i,?_,?_,?_⟩
    all_goals (try dsimp only)
    ·exact ⟨by omega,by omega,(up_no (p:=(fun x=>!ltN d2[a]! x)) (by simp only [hl,Bool.not_true,Bool.not_false])).trans q3⟩
    ·exact ⟨sb_,sb_,sb_,sb_,trivial⟩
    ·exact Mem.Less.refl _
  ·refine AWP.seq (AWP.seq ?_)
   refine AWP.draw [(0,true),(1,true),(2,true),(3,true),(4,true),(5,true),(6,true),(7,true),(8,true),(9,true),(10,true),(11,true),(12,false),(13,true),(14,true)] [] mixed (by kernel_rfl) ?_
   refine dP (hc:=fun _=>Calm.move rfl) (h:=?_)
   refine dP (hc:=fun _=>Calm.move rfl) (h:=?_)
   refine dP (hc:=fun _=>Calm.bin rfl rfl b_leq) (h:=?_)
   refine dP (hc:=fun _=>Calm.move rfl) (h:=?_)
   first|refine k_d ?_|refine dG (hc:=fun _=>Calm.move rfl) (h:=?_)
   first|refine k_d ?_|refine dG (hc:=fun _=>Calm.move rfl) (h:=?_)
   first|refine k_d ?_|refine dG (hc:=fun _=>Calm.indexS Tryz.underlying41 ty_size_5 rfl rfl (by omega) (by omega)) (h:=?_)
   first|refine k_d ?_|refine dL (hc:=Calm.load ty_plain_5 rfl (rd_row (k:=a) own_ rw_ rw_)) (h:=?_)
   first|refine k_d ?_|refine dG (hc:=fun _=>Calm.move rfl) (h:=?_)
   first|refine k_d ?_|refine dG (hc:=fun _=>Calm.move rfl) (h:=?_)
   first|refine k_d ?_|refine dG (hc:=fun _=>Calm.indexS Tryz.underlying41 ty_size_5 rfl rfl (by omega) (by omega)) (h:=?_)
   first|refine k_d ?_|refine dL (hc:=Calm.load ty_plain_5 rfl (rd_row (k:=i) own_ rw_ rw_)) (h:=?_)
   refine draw_only rfl ?_
   first | refine rS 32 ?_ | refine rU 32 ?_
   refine arun_nil ⟨fun _=>less_,?_⟩
   first|refine k_d ?_|refine dG (hc:=fun _=>Calm.un rfl (una_not _)) (h:=?_)
   refine dP (hc:=fun _=>(by first | exact Calm.pickT rfl rfl | exact Calm.pickF rfl rfl)) (h:=?_)
   refine draw_nil ?_
   refine athen_n ?_
   refine k_u [(0,_),(1,_),(9,_),(10,_),(43,_)] ?_
   refine k_F rfl ?_
   refine AWP.exit ?_
   refine athen_exit ?_
   refine athen_exit ?_
   refine ain_same ?_
   refine ⟨i,?_,?_,?_⟩
   all_goals (try dsimp only)
   ·exact ⟨by omega,by omega,(up_end (p:=(fun x=>!ltN d2[a]! x)) hij).trans q3⟩
   ·exact ⟨sb_,sb_,sb_,sb_,trivial⟩
   ·exact Mem.Less.refl _
 rintro i2 ⟨b1,b2,hU⟩
 intro _ _ hs_ hl_
 (try dsimp only at *)
 refine athen_n ?_
 refine AWP.sub _ hs_ (AWP.less _ hl_ ?_)
 clear hs_ hl_
 refine AWP.seq ?_
 refine AWP.join (X:=Nat) (fun x=>[(0,.slice (some ⟨b,0,none⟩) n cap),(1,.int .i64 a),(9,.int .i64 i2),(10,.int .i64 x)]) (fun _=>S.set b ⟨5,(d2).toList.map encB,room⟩) (fun x=>a≤x∧x≤J∧x=scanDown (fun x=>ltN d2[a]! x) d2 i2 J2) ?_ ?_
 ·refine AWP.block ?_
  refine AWP.loop (X:=Nat) (fun x=>[(0,.slice (some ⟨b,0,none⟩) n cap),(1,.int .i64 a),(9,.int .i64 i2),(10,.int .i64 x)]) (fun _=>S.set b ⟨5,(d2).toList.map encB,room⟩) (fun x=>a≤x∧x≤J∧scanDown (fun x=>ltN d2[a]! x) d2 i2 x=scanDown (fun x=>ltN d2[a]! x) d2 i2 J2) (fun x=>x) (J2) ⟨sb_,sb_,sb_,sb_,trivial⟩ (Mem.Less.refl _) (⟨by omega,by omega,rfl⟩) ?_
  rintro j ⟨q1,q2,q3⟩
  (try dsimp only at *)
  by_cases hij:i2≤j
  ·obtain ⟨j,rfl⟩ : ∃ q,j=q+1:=⟨j-1,by omega⟩
   refine AWP.seq (AWP.seq ?_)
   refine AWP.draw [(0,true),(1,true),(2,true),(3,true),(4,true),(5,true),(6,true),(7,true),(8,true),(9,true),(10,true),(11,true),(12,false),(13,true)] [] mixed (by kernel_rfl) ?_
   refine dP (hc:=fun _=>Calm.move rfl) (h:=?_)
   refine dP (hc:=fun _=>Calm.move rfl) (h:=?_)
   refine dP (hc:=fun _=>Calm.bin rfl rfl b_leq) (h:=?_)
   refine dP (hc:=fun _=>Calm.move rfl) (h:=?_)
   first|refine k_d ?_|refine dG (hc:=fun _=>Calm.move rfl) (h:=?_)
   first|refine k_d ?_|refine dG (hc:=fun _=>Calm.move rfl) (h:=?_)
   first|refine k_d ?_|refine dG (hc:=fun _=>Calm.indexS Tryz.underlying41 ty_size_5 rfl rfl (by omega) (by omega)) (h:=?_)
   first|refine k_d ?_|refine dL (hc:=Calm.load ty_plain_5 rfl (rd_row (k:=a) own_ rw_ rw_)) (h:=?_)
   first|refine k_d ?_|refine dG (hc:=fun _=>Calm.move rfl) (h:=?_)
   first|refine k_d ?_|refine dG (hc:=fun _=>Calm.move rfl) (h:=?_)
   first|refine k_d ?_|refine dG (hc:=fun _=>Calm.indexS Tryz.underlying41 ty_size_5 rfl rfl (by omega) (by omega)) (h:=?_)
   first|refine k_d ?_|refine dL (hc:=Calm.load ty_plain_5 rfl (rd_row (k:=j+1) own_ rw_ rw_)) (h:=?_)
   refine draw_only rfl ?_
   refine ARun.callG 3 true 49 rfl (lit_lt rfl) rfl (lit_lt rfl) go_55 rfl (soB_less _ _ _) ?_
   rintro _ _ ⟨rfl,rfl⟩
   refine arun_nil ⟨fun _=>less_,?_⟩
   refine dP (hc:=fun _=>(by first | exact Calm.pickT rfl rfl | exact Calm.pickF rfl rfl)) (h:=?_)
   refine draw_nil ?_
   refine athen_n ?_
   refine k_u [(0,_),(1,_),(9,_),(10,_),(59,_)] ?_
   refine AWP.condB rfl (fun hl=>?_) (fun hl=>?_)
   ·refine k_k ?_
    refine AWP.block ?_
    refine AWP.region ?_
    refine k_m rfl ?_
    refine rC (Calm.bin rfl rfl b_sub_i64) ?_
    refine k_s rfl ?_
    refine arun_nil ?_
    refine ain_n ?_
    refine athen_n ?_
    refine ⟨j,?_,?_,?_,?_⟩
    all_goals (try dsimp only)
    ·exact ⟨sb_,sb_,sb_,sb_,trivial⟩
    ·exact Mem.Less.refl _
    ·exact ⟨by omega,by omega,(down_go (p:=(fun x=>ltN d2[a]! x)) hij (by simp only [hl,Bool.not_true,Bool.not_false])).trans q3⟩
    ·omega
   ·refine AWP.exit ?_
    refine athen_exit ?_
    refine athen_exit ?_
    refine ain_same ?_
    refine ⟨(j+1),?_,?_,?_⟩
    all_goals (try dsimp only)
    ·exact ⟨by omega,by omega,(down_no (p:=(fun x=>ltN d2[a]! x)) (by omega) (by simp only [hl,Bool.not_true,Bool.not_false])).trans q3⟩
    ·exact ⟨sb_,sb_,sb_,sb_,trivial⟩
    ·exact Mem.Less.refl _
  ·refine AWP.seq (AWP.seq ?_)
   refine AWP.draw [(0,true),(1,true),(2,true),(3,true),(4,true),(5,true),(6,true),(7,true),(8,true),(9,true),(10,true),(11,true),(12,false),(13,true)] [] mixed (by kernel_rfl) ?_
   refine dP (hc:=fun _=>Calm.move rfl) (h:=?_)
   refine dP (hc:=fun _=>Calm.move rfl) (h:=?_)
   refine dP (hc:=fun _=>Calm.bin rfl rfl b_leq) (h:=?_)
   refine dP (hc:=fun _=>Calm.move rfl) (h:=?_)
   first|refine k_d ?_|refine dG (hc:=fun _=>Calm.move rfl) (h:=?_)
   first|refine k_d ?_|refine dG (hc:=fun _=>Calm.move rfl) (h:=?_)
   first|refine k_d ?_|refine dG (hc:=fun _=>Calm.indexS Tryz.underlying41 ty_size_5 rfl rfl (by omega) (by omega)) (h:=?_)
   first|refine k_d ?_|refine dL (hc:=Calm.load ty_plain_5 rfl (rd_row (k:=a) own_ rw_ rw_)) (h:=?_)
   first|refine k_d ?_|refine dG (hc:=fun _=>Calm.move rfl) (h:=?_)
   first|refine k_d ?_|refine dG (hc:=fun _=>Calm.move rfl) (h:=?_)
   first|refine k_d ?_|refine dG (hc:=fun _=>Calm.indexS Tryz.underlying41 ty_size_5 rfl rfl (by omega) (by omega)) (h:=?_)
   first|refine k_d ?_|refine dL (hc:=Calm.load ty_plain_5 rfl (rd_row (k:=j+1) own_ rw_ rw_)) (h:=?_)
   refine draw_only rfl ?_
   first | refine rS 49 ?_ | refine rU 49 ?_
   refine arun_nil ⟨fun _=>less_,?_⟩
   refine dP (hc:=fun _=>(by first | exact Calm.pickT rfl rfl | exact Calm.pickF rfl rfl)) (h:=?_)
   refine draw_nil ?_
   refine athen_n ?_
   refine k_u [(0,_),(1,_),(9,_),(10,_),(59,_)] ?_
   refine k_F rfl ?_
   refine AWP.exit ?_
   refine athen_exit ?_
   refine athen_exit ?_
   refine ain_same ?_
   refine ⟨j,?_,?_,?_⟩
   all_goals (try dsimp only)
   ·exact ⟨by omega,by omega,(down_end (p:=(fun x=>ltN d2[a]! x)) hij).trans q3⟩
   ·exact ⟨sb_,sb_,sb_,sb_,trivial⟩
   ·exact Mem.Less.refl _
 rintro j2 ⟨b3,b4,hD⟩
 intro _ _ hs_ hl_
 (try dsimp only at *)
 refine athen_n ?_
 refine AWP.sub _ hs_ (AWP.less _ hl_ ?_)
 clear hs_ hl_
 by_cases hx:j2<i2
 ·refine AWP.seq (k_a (k_m rfl (k_m rfl ?_)))
  refine rC (Calm.bin rfl rfl b_gtr) ?_
  refine k_n ?_
  refine k_u [(0,_),(1,_),(9,_),(10,_),(64,_)] ?_
  refine k_T rfl ?_
  refine AWP.exit ?_
  refine athen_exit ?_
  refine ain_other rfl ?_
  refine athen_exit ?_
  refine ain_same ?_
  refine athen_n ?_
  refine k_a (k_m rfl (k_e rfl ?_))
  refine k_u [(0,_),(1,_),(9,_),(10,_),(64,_),(8,_)] ?_
  refine AWP.ret ?_
  refine ⟨_,_,⟨_,_,rfl,rfl,rfl⟩,Mem.Less.refl _,?_⟩
  exact parteq_res ltN hd0 ((parteq_stop ltN hU hD hx).trans m3) R2 (by omega) (by omega)
 ·refine AWP.seq (k_a (k_m rfl (k_m rfl ?_)))
  refine rC (Calm.bin rfl rfl b_gtr) ?_
  refine k_n ?_
  refine k_u [(0,_),(1,_),(9,_),(10,_),(64,_)] ?_
  refine k_F rfl ?_
  refine k_k (AWP.seq ?_)
  refine AWP.draw [(0,true),(1,true),(2,true),(3,true),(4,true),(5,true),(6,true),(7,true),(8,true),(9,true),(10,true),(11,true),(12,true),(13,false),(14,true),(15,false)] [13,15] mixed (by kernel_rfl) ?_
  refine dP (hc:=fun _=>Calm.move rfl) (h:=?_)
  refine dP (hc:=fun _=>Calm.move rfl) (h:=?_)
  refine dP (hc:=fun _=>Calm.move rfl) (h:=?_)
  refine dP (hc:=fun _=>Calm.move rfl) (h:=?_)
  refine dP (hc:=fun _=>Calm.move rfl) (h:=?_)
  refine dP (hc:=fun _=>Calm.move rfl) (h:=?_)
  refine dP (hc:=fun _=>Calm.indexS Tryz.underlying41 ty_size_5 rfl rfl (by omega) (by omega)) (h:=?_)
  refine dC (hc:=Calm.load ty_plain_5 rfl (rd_row (k:=j2) own_ rw_ rw_)) (h:=?_)
  refine dP (hc:=fun _=>Calm.move rfl) (h:=?_)
  refine dP (hc:=fun _=>Calm.move rfl) (h:=?_)
  refine dP (hc:=fun _=>Calm.indexS Tryz.underlying41 ty_size_5 rfl rfl (by omega) (by omega)) (h:=?_)
  refine dC (hc:=Calm.load ty_plain_5 rfl (rd_row (k:=i2) own_ rw_ rw_)) (h:=?_)
  refine dP (hc:=fun _=>Calm.indexS Tryz.underlying41 ty_size_5 rfl rfl (by omega) (by omega)) (h:=?_)
  refine draw_only rfl ?_
  refine ARun.storeRow encB (i2) rfl rfl ty_size_5 ⟨rfl,rfl⟩ own_ rw_ rw_ ?_
  try simp only [k_ms,k_sz,k_ss,k_za,Nat.reduceAdd]
  refine arun_nil ⟨fun h=>absurd h (by decide),?_⟩
  refine dP (hc:=fun _=>Calm.indexS Tryz.underlying41 ty_size_5 rfl rfl (by omega) (by omega)) (h:=?_)
  refine draw_only rfl ?_
  refine ARun.storeRow encB (j2) rfl rfl ty_size_5 ⟨rfl,rfl⟩ own_ rw_ rw_ ?_
  try simp only [k_ms,k_sz,k_ss,k_za,Nat.reduceAdd]
  refine arun_nil ⟨fun h=>absurd h (by decide),?_⟩
  refine draw_nil ?_
  refine athen_n ?_
  refine k_u [(0,_),(1,_),(9,_),(10,_),(64,_)] ?_
  refine k_a (k_m rfl ?_)
  refine rC (Calm.bin rfl rfl b_add_i64) ?_
  refine k_e rfl ?_
  refine k_u [(0,_),(1,_),(9,_),(10,_),(64,_)] ?_
  refine AWP.region ?_
  refine k_m rfl ?_
  refine rC (Calm.bin rfl rfl b_sub_i64) ?_
  refine k_s rfl ?_
  refine arun_nil ?_
  refine ain_n ?_
  refine athen_n ?_
  refine ⟨(i2+1,j2-1,swp d2 i2 j2),?_,?_,?_,?_⟩
  all_goals (try dsimp only)
  ·exact ⟨sb_,sb_,sb_,sb_,trivial⟩
  ·exact Mem.Less.refl _
  ·exact ⟨by omega,by omega,by omega,by omega,R2.swp _ _ (by omega) (by omega),(parteq_go ltN hU hD hx).trans m3⟩
  ·(have:I2≤i2:=by rw [hU];exact Go.Sort.scanUp_ge _ _ _ _);omega
end Go.Proofs.YtgidjbpgkeemiaaGreat
namespace Go.Proofs.YtgidjbpgkeemiaaGreat
open Go.RowKit
open Mv Srt
open Go.Sort (swp insInner insOuter insertionSort siftDown heapBuild heapPop heapSort scanUp scanDown partLoop partition partEqLoop partitionEqual scanSorted shiftDown shiftUp partialIns partialInsertionSort order2 median medianAdjacent choosePivot reverseLoop reverseRange breakStep breakPatterns pdq bitsLen xorNext Hint)
set_option maxRecDepth 4000
set_option maxHeartbeats 4000000 in
theorem soB_rev {S : Mem} (b room n cap : Nat) (hb : Fresh S b) (hn : n ≤ 1048576) (d : Array Nat) (R : Rw (fun _ => True) n d) (ia ie : Int) (a e : Nat) (ha : ia = a) (he : ie = e) (hae : a < e) (hen : e ≤ n) :
  ACall Tryz.prog 79 #[.slice (some ⟨b,0,none⟩) n cap,.int .i64 ia,.int .i64 ie] (S.set b ⟨5,(d).toList.map encB,room⟩) fun r S'=>S'=S.set b ⟨5,(reverseRange d a e).toList.map encB,room⟩∧Rw (fun _=>True) n (reverseRange d a e):=by
 subst ha he
 refine ACall.enter (rs:=[]) 32 [(0,.slice (some ⟨b,0,none⟩) n cap),(1,.int .i64 a),(2,.int .i64 e)] Tryz.func79 rfl rfl (Nat.le_of_ble_eq_true rfl) rfl ⟨rfl,rfl,rfl,trivial⟩ ?_
 refine k_a (k_m rfl (k_e rfl ?_))
 refine k_u [(0,_),(1,_),(2,_),(6,_)] ?_
 refine k_a (k_m rfl ?_)
 refine rC (Calm.bin rfl rfl b_sub_i64) ?_
 refine k_e rfl ?_
 refine k_u [(0,_),(1,_),(2,_),(6,_),(7,_)] ?_
 refine AWP.block ?_
 refine AWP.loop (X:=Nat × Nat × Array Nat) (fun x=>[(0,.slice (some ⟨b,0,none⟩) n cap),(6,.int .i64 x.1),(7,.int .i64 x.2.1)]) (fun x=>S.set b ⟨5,(x.2.2).toList.map encB,room⟩) (fun x=>x.1≤n∧x.2.1<e∧Rw (fun _=>True) n x.2.2∧reverseLoop x.1 x.2.1 x.2.2=reverseRange d a e) (fun x=>x.2.1) ((a,e-1,d)) ⟨sb_,sb_,sb_,trivial⟩ (Mem.Less.refl _) (⟨by dsimp only;omega,by dsimp only;omega,R,rfl⟩) ?_
 rintro ⟨i,j,d1⟩ ⟨h1,h2,R1,h3⟩
 (try dsimp only at *)
 have z1:=R1.size
 by_cases hij:i<j
 ·refine AWP.seq (k_a (k_m rfl (k_m rfl ?_)))
  refine rC (Calm.bin rfl rfl b_lss) ?_
  refine k_n ?_
  refine k_u [(0,_),(6,_),(7,_),(13,_)] ?_
  refine k_T rfl ?_
  refine k_k ?_
  refine AWP.block ?_
  refine AWP.seq ?_
  refine AWP.draw [(0,true),(1,true),(2,true),(3,true),(4,true),(5,true),(6,true),(7,true),(8,true),(9,true),(10,true),(11,true),(12,true),(13,false),(14,true),(15,false)] [13,15] mixed (by kernel_rfl) ?_
  refine dP (hc:=fun _=>Calm.move rfl) (h:=?_)
  refine dP (hc:=fun _=>Calm.move rfl) (h:=?_)
  refine dP (hc:=fun _=>Calm.move rfl) (h:=?_)
  refine dP (hc:=fun _=>Calm.move rfl) (h:=?_)
  refine dP (hc:=fun _=>Calm.move rfl) (h:=?_)
  refine dP (hc:=fun _=>Calm.move rfl) (h:=?_)
  refine dP (hc:=fun _=>Calm.indexS Tryz.underlying41 ty_size_5 rfl rfl (by omega) (by omega)) (h:=?_)
  refine dC (hc:=Calm.load ty_plain_5 rfl (rd_row (k:=j) own_ rw_ rw_)) (h:=?_)
  refine dP (hc:=fun _=>Calm.move rfl) (h:=?_)
  refine dP (hc:=fun _=>Calm.move rfl) (h:=?_)
  refine dP (hc:=fun _=>Calm.indexS Tryz.underlying41 ty_size_5 rfl rfl (by omega) (by omega)) (h:=?_)
  refine dC (hc:=Calm.load ty_plain_5 rfl (rd_row (k:=i) own_ rw_ rw_)) (h:=?_)
  refine dP (hc:=fun _=>Calm.indexS Tryz.underlying41 ty_size_5 rfl rfl (by omega) (by omega)) (h:=?_)
  refine draw_only rfl ?_
  refine ARun.storeRow encB (i) rfl rfl ty_size_5 ⟨rfl,rfl⟩ own_ rw_ rw_ ?_
  try simp only [k_ms,k_sz,k_ss,k_za,Nat.reduceAdd]
  refine arun_nil ⟨fun h=>absurd h (by decide),?_⟩
  refine dP (hc:=fun _=>Calm.indexS Tryz.underlying41 ty_size_5 rfl rfl (by omega) (by omega)) (h:=?_)
  refine draw_only rfl ?_
  refine ARun.storeRow encB (j) rfl rfl ty_size_5 ⟨rfl,rfl⟩ own_ rw_ rw_ ?_
  try simp only [k_ms,k_sz,k_ss,k_za,Nat.reduceAdd]
  refine arun_nil ⟨fun h=>absurd h (by decide),?_⟩
  refine draw_nil ?_
  refine athen_n ?_
  refine k_u [(0,_),(6,_),(7,_),(13,_)] ?_
  refine k_a (k_m rfl ?_)
  refine rC (Calm.bin rfl rfl b_add_i64) ?_
  refine k_e rfl ?_
  refine k_u [(0,_),(6,_),(7,_),(13,_)] ?_
  refine AWP.region ?_
  refine k_m rfl ?_
  refine rC (Calm.bin rfl rfl b_sub_i64) ?_
  refine k_s rfl ?_
  refine arun_nil ?_
  refine ain_n ?_
  refine athen_n ?_
  refine ⟨(i+1,j-1,swp d1 i j),?_,?_,?_,?_⟩
  all_goals (try dsimp only)
  ·exact ⟨sb_,sb_,sb_,trivial⟩
  ·exact Mem.Less.refl _
  ·exact ⟨by omega,by omega,R1.swp _ _ (by omega) (by omega),(rev_go hij).trans h3⟩
  ·omega
 ·refine AWP.seq (k_a (k_m rfl (k_m rfl ?_)))
  refine rC (Calm.bin rfl rfl b_lss) ?_
  refine k_n ?_
  refine k_u [(0,_),(6,_),(7,_),(13,_)] ?_
  refine k_F rfl ?_
  refine AWP.exit ?_
  refine athen_exit ?_
  refine athen_exit ?_
  refine ain_same ?_
  refine ⟨_,_,rfl,Mem.Less.refl _,?_⟩
  rw [← h3,← rev_end hij];exact ⟨rfl,R1⟩
set_option maxHeartbeats 1000000 in
theorem soB_order2 {S : Mem} (b room n cap : Nat) (hb : Fresh S b) (hn : n ≤ 1048576) (d : Array Nat) (R : Rw (fun _ => True) n d) (c : Nat) (hc : Fresh S c) (hcb : c ≠ b) (ia ie : Int) (a e k : Nat) (ea : ia = a) (ee : ie = e) (ha : a < n) (he : e < n) (hk : k ≤ 1000) :
  ACall Tryz.prog 106 #[.slice (some ⟨b,0,none⟩) n cap,.int .i64 ia,.int .i64 ie,.pointer (some ⟨c,0,none⟩)] ((S.set b ⟨5,(d).toList.map encB,room⟩).set c ⟨3,[.int .i64 ((k:Nat):Int)],1⟩) fun r S'=>r = .tuple #[.int .i64 ((order2 ltN d a e k).1:Nat),.int .i64 ((order2 ltN d a e k).2.1:Nat)]∧S'=(S.set b ⟨5,(d).toList.map encB,room⟩).set c ⟨3,[.int .i64 (((order2 ltN d a e k).2.2:Nat):Int)],1⟩:=by
 subst ea ee
 have z:=R.size
 refine ACall.enter (rs:=[.tmp 8,.tmp 9]) 28 [(0,.slice (some ⟨b,0,none⟩) n cap),(1,.int .i64 a),(2,.int .i64 e),(3,.pointer (some ⟨c,0,none⟩))] Tryz.func106 rfl rfl (Nat.le_of_ble_eq_true rfl) rfl ⟨rfl,rfl,rfl,rfl,trivial⟩ ?_
 refine k_a (k_s rfl (k_e rfl (AWP.seq (AWP.seq ?_))))
 refine AWP.draw [(0,true),(1,true),(2,true),(3,true),(4,true),(5,true),(6,true),(7,true),(8,false)] [] mixed (by kernel_rfl) ?_
 refine dP (hc:=fun _=>Calm.move rfl) (h:=?_)
 refine dP (hc:=fun _=>Calm.move rfl) (h:=?_)
 refine dP (hc:=fun _=>Calm.indexS Tryz.underlying41 ty_size_5 rfl rfl (by omega) (by omega)) (h:=?_)
 refine dC (hc:=Calm.load ty_plain_5 rfl (rd_row (k:=e) own_ rw_ rw_)) (h:=?_)
 refine dP (hc:=fun _=>Calm.move rfl) (h:=?_)
 refine dP (hc:=fun _=>Calm.move rfl) (h:=?_)
 refine dP (hc:=fun _=>Calm.indexS Tryz.underlying41 ty_size_5 rfl rfl (by omega) (by omega)) (h:=?_)
 refine dC (hc:=Calm.load ty_plain_5 rfl (rd_row (k:=a) own_ rw_ rw_)) (h:=?_)
 refine draw_only rfl ?_
 refine ARun.call (lit_lt rfl) go_55 rfl (soB_less _ _ _) ?_
 rintro _ _ ⟨rfl,rfl⟩
 refine arun_nil ⟨fun _=>less_,?_⟩
 refine draw_nil ?_
 refine athen_n ?_
 refine k_u [(0,_),(1,_),(2,_),(3,_),(8,_),(9,_),(18,_)] ?_
 refine AWP.condB rfl (fun hl=>?_) (fun hl=>?_)
 ·have hl:ltN d[e]! d[a]! = true:=hl
  refine k_a (k_m rfl ?_)
  refine rC (Calm.nilCheck rfl) ?_
  refine rC (ld_ ty_plain_3 rfl) ?_
  refine rC (Calm.bin rfl rfl b_add_i64) ?_
  refine rC (Calm.nilCheck rfl) ?_
  refine ARun.store1 rfl rfl ty_size_3 rfl own_ lens_ rfl ?_
  try simp only [k_ms,k_sz,k_ss,k_za,Nat.reduceAdd]
  refine k_n ?_
  refine k_u [(0,_),(1,_),(2,_),(3,_),(8,_),(9,_),(18,_)] ?_
  refine k_a (k_m rfl (k_m rfl (k_s rfl (k_e rfl ?_))))
  refine k_u [(0,_),(1,_),(2,_),(3,_),(8,_),(9,_),(18,_)] ?_
  refine k_r ?_
  refine ⟨_,_,⟨_,_,rfl,⟨_,_,rfl,rfl,rfl⟩,rfl⟩,Mem.Less.refl _,?_⟩
  exact ⟨by rw [order2,if_pos hl];rfl,by rw [order2,if_pos hl];rfl⟩
 ·have hl:ltN d[e]! d[a]! = false:=hl
  refine k_k (k_a (k_m rfl (k_m rfl (k_s rfl ?_))))
  refine k_e rfl ?_
  refine k_u [(0,_),(1,_),(2,_),(3,_),(8,_),(9,_),(18,_)] ?_
  refine AWP.ret ?_
  refine ⟨_,_,⟨_,_,rfl,⟨_,_,rfl,rfl,rfl⟩,rfl⟩,Mem.Less.refl _,?_⟩
  exact ⟨by rw [order2,if_neg (by intro h;exact Bool.noConfusion (hl.symm.trans h))];rfl,by rw [order2,if_neg (by intro h;exact Bool.noConfusion (hl.symm.trans h))]⟩
set_option maxHeartbeats 1000000 in
theorem soB_median {S : Mem} (b room n cap : Nat) (hb : Fresh S b) (hn : n ≤ 1048576) (d : Array Nat) (R : Rw (fun _ => True) n d) (c : Nat) (hc : Fresh S c) (hcb : c ≠ b) (ia ie io : Int) (a e o k : Nat) (ea : ia = a) (ee : ie = e) (eo : io = o) (ha : a < n) (he : e < n) (ho : o < n) (hk : k ≤ 900) :
  ACall Tryz.prog 101 #[.slice (some ⟨b,0,none⟩) n cap,.int .i64 ia,.int .i64 ie,.int .i64 io,.pointer (some ⟨c,0,none⟩)] ((S.set b ⟨5,(d).toList.map encB,room⟩).set c ⟨3,[.int .i64 ((k:Nat):Int)],1⟩) fun r S'=>r = .int .i64 ((median ltN d a e o k).1:Nat)∧S'=(S.set b ⟨5,(d).toList.map encB,room⟩).set c ⟨3,[.int .i64 (((median ltN d a e o k).2:Nat):Int)],1⟩:=by
 subst ea ee eo
 obtain ⟨⟨x1,y1,k1⟩,h1⟩ : ∃ q,q=order2 ltN d a e k:=⟨_,rfl⟩
 obtain ⟨⟨x2,y2,k2⟩,h2⟩ : ∃ q,q=order2 ltN d y1 o k1:=⟨_,rfl⟩
 obtain ⟨⟨x3,y3,k3⟩,h3⟩ : ∃ q,q=order2 ltN d x1 x2 k2:=⟨_,rfl⟩
 have m1:=ord2_lt ltN h1 ha he
 have m2:=ord2_lt ltN h2 m1.2.1 ho
 have m3:=ord2_lt ltN h3 m1.1 m2.1
 have c1:=soB_order2 b room n cap hb hn d R c hc hcb a e a e k rfl rfl ha he (by omega)
 have c2:=soB_order2 b room n cap hb hn d R c hc hcb y1 o y1 o k1 rfl rfl m1.2.1 ho (by omega)
 have c3:=soB_order2 b room n cap hb hn d R c hc hcb x1 x2 x1 x2 k2 rfl rfl m1.1 m2.1 (by omega)
 have hm:median ltN d a e o k=(y3,k3):=by
  unfold median;simp only [← h1,← h2,← h3]
 rw [hm]
 rw [← h1] at c1;rw [← h2] at c2;rw [← h3] at c3
 dsimp only at c1 c2 c3 ⊢
 clear h1 h2 h3 hm
 refine ACall.enter (rs:=[.tmp 10]) 36 [(0,.slice (some ⟨b,0,none⟩) n cap),(1,.int .i64 a),(2,.int .i64 e),(3,.int .i64 o),(4,.pointer (some ⟨c,0,none⟩))] Tryz.func101 rfl rfl (Nat.le_of_ble_eq_true rfl) rfl ⟨rfl,rfl,rfl,rfl,rfl,trivial⟩ ?_
 refine k_a (k_e rfl (k_a (k_m rfl (k_m rfl ?_))))
 refine k_m rfl (k_m rfl ?_)
 refine ARun.call (lit_lt rfl) go_106 rfl (c1) ?_
 rintro _ _ ⟨rfl,rfl⟩
 refine k_m rfl ?_
 refine rC (Calm.extract rfl rfl) ?_
 refine rC (Calm.extract rfl rfl) ?_
 refine k_s rfl (k_e rfl ?_)
 refine k_u [(0,_),(1,_),(2,_),(3,_),(4,_),(10,_)] ?_
 refine k_a (k_m rfl (k_m rfl (k_m rfl (k_m rfl ?_))))
 refine ARun.call (lit_lt rfl) go_106 rfl (c2) ?_
 rintro _ _ ⟨rfl,rfl⟩
 refine k_m rfl ?_
 refine rC (Calm.extract rfl rfl) ?_
 refine rC (Calm.extract rfl rfl) ?_
 refine k_s rfl (k_e rfl ?_)
 refine k_u [(0,_),(1,_),(2,_),(3,_),(4,_),(10,_)] ?_
 refine k_a (k_m rfl (k_m rfl (k_m rfl (k_m rfl ?_))))
 refine ARun.call (lit_lt rfl) go_106 rfl (c3) ?_
 rintro _ _ ⟨rfl,rfl⟩
 refine k_m rfl ?_
 refine rC (Calm.extract rfl rfl) ?_
 refine rC (Calm.extract rfl rfl) ?_
 refine k_s rfl (k_e rfl ?_)
 refine k_u [(0,_),(1,_),(2,_),(3,_),(4,_),(10,_)] ?_
 refine k_a (k_m rfl (k_e rfl ?_))
 refine k_u [(0,_),(1,_),(2,_),(3,_),(4,_),(10,_)] ?_
 refine AWP.ret ?_
 refine ⟨_,_,⟨_,_,rfl,rfl,rfl⟩,Mem.Less.refl _,?_⟩
 exact ⟨rfl,rfl⟩
set_option maxHeartbeats 1000000 in
theorem soB_medadj {S : Mem} (b room n cap : Nat) (hb : Fresh S b) (hn : n ≤ 1048576) (d : Array Nat) (R : Rw (fun _ => True) n d) (c : Nat) (hc : Fresh S c) (hcb : c ≠ b) (ia : Int) (a k : Nat) (ea : ia = a) (ha : 0 < a) (ha2 : a + 1 < n) (hk : k ≤ 900) :
  ACall Tryz.prog 100 #[.slice (some ⟨b,0,none⟩) n cap,.int .i64 ia,.pointer (some ⟨c,0,none⟩)] ((S.set b ⟨5,(d).toList.map encB,room⟩).set c ⟨3,[.int .i64 ((k:Nat):Int)],1⟩) fun r S'=>r = .int .i64 ((medianAdjacent ltN d a k).1:Nat)∧S'=(S.set b ⟨5,(d).toList.map encB,room⟩).set c ⟨3,[.int .i64 (((medianAdjacent ltN d a k).2:Nat):Int)],1⟩:=by
 subst ea
 obtain ⟨a,rfl⟩ : ∃ q,a=q+1:=⟨a-1,by omega⟩
 refine ACall.enter (rs:=[.tmp 6]) 15 [(0,.slice (some ⟨b,0,none⟩) n cap),(1,.int .i64 ((a+1:Nat):Int)),(2,.pointer (some ⟨c,0,none⟩))] Tryz.func100 rfl rfl (Nat.le_of_ble_eq_true rfl) rfl ⟨rfl,rfl,rfl,trivial⟩ ?_
 refine k_a (k_e rfl (k_a (k_m rfl (k_m rfl ?_))))
 refine rC (Calm.bin rfl rfl b_sub_i64) ?_
 refine k_m rfl (k_m rfl ?_)
 refine rC (Calm.bin rfl rfl b_add_i64) ?_
 refine k_m rfl ?_
 refine ARun.call (lit_lt rfl) go_101 rfl (soB_median b room n cap hb hn d R c hc hcb _ _ _ a (a+1) (a+2) k om_ rfl om_ (by omega) (by omega) (by omega) hk) ?_
 rintro _ _ ⟨rfl,rfl⟩
 refine k_e rfl ?_
 refine k_u [(0,_),(1,_),(2,_),(6,_)] ?_
 refine AWP.ret ?_
 refine ⟨_,_,⟨_,_,rfl,rfl,rfl⟩,Mem.Less.refl _,?_⟩
 exact ⟨rfl,rfl⟩
set_option maxHeartbeats 4000000 in
theorem soB_pivot {S : Mem} (b room n cap : Nat) (hb : Fresh S b) (hn : n ≤ 1048576) (d : Array Nat) (R : Rw (fun _ => True) n d) (ia ie : Int) (a e : Nat) (ha : ia = a) (he : ie = e) (hae : a < e) (hen : e ≤ n) :
  ACall Tryz.prog 78 #[.slice (some ⟨b,0,none⟩) n cap,.int .i64 ia,.int .i64 ie] (S.set b ⟨5,(d).toList.map encB,room⟩) fun r S'=>r = .tuple #[.int .i64 ((choosePivot ltN d a e).1:Nat),.int .i64 (hintI (choosePivot ltN d a e).2)]∧S'=S.set b ⟨5,(d).toList.map encB,room⟩∧a≤(choosePivot ltN d a e).1∧(choosePivot ltN d a e).1<e:=by
 subst ha he
 obtain ⟨L,rfl⟩ : ∃ L,e=a+L:=⟨e-a,by omega⟩
 have z:=R.size
 refine ACall.enter (rs:=[.tmp 6,.tmp 7]) 57 [(0,.slice (some ⟨b,0,none⟩) n cap),(1,.int .i64 a),(2,.int .i64 ((a+L:Nat):Int))] Tryz.func78 rfl rfl (Nat.le_of_ble_eq_true rfl) rfl ⟨rfl,rfl,rfl,trivial⟩ ?_
 by_cases h8:8≤L
 ·refine k_a (k_s rfl (k_e rfl (k_a (k_m rfl ?_))))
  refine k_m rfl ?_
  refine rC (Calm.bin rfl rfl b_sub_i64) ?_
  refine k_e rfl ?_
  refine k_u [(0,_),(1,_),(2,_),(6,_),(7,_),(8,_)] ?_
  refine k_a ?_
  refine ARun.alloc (lit_lt rfl) ty_zero_3 ?_
  intro b9 f9
  have g9:=f9
  repeat ((with_reducible replace g9:=fresh_set g9);obtain ⟨g9,_⟩:=g9)
  try simp only [k_l1,k_l0,k_za,Nat.reduceAdd]
  refine k_n (k_a (k_m rfl (k_m rfl ?_)))
  refine rC (Calm.bin rfl rfl b_quo_i64) ?_
  refine rC (Calm.bin rfl rfl b_mul_i64) ?_
  refine rC (Calm.bin rfl rfl b_add_i64) ?_
  refine k_e rfl ?_
  refine k_u [(0,_),(1,_),(2,_),(6,_),(7,_),(8,_),(9,_),(10,_)] ?_
  refine k_a (k_m rfl (k_m rfl ?_))
  refine rC (Calm.bin rfl rfl b_quo_i64) ?_
  refine rC (Calm.bin rfl rfl b_mul_i64) ?_
  refine rC (Calm.bin rfl rfl b_add_i64) ?_
  refine k_e rfl ?_
  refine k_u [(0,_),(1,_),(2,_),(6,_),(7,_),(8,_),(9,_),(10,_),(11,_)] ?_
  refine k_a (k_m rfl (k_m rfl ?_))
  refine rC (Calm.bin rfl rfl b_quo_i64) ?_
  refine rC (Calm.bin rfl rfl b_mul_i64) ?_
  refine rC (Calm.bin rfl rfl b_add_i64) ?_
  refine k_e rfl ?_
  refine k_u [(0,_),(1,_),(2,_),(6,_),(7,_),(8,_),(9,_),(10,_),(11,_),(12,_)] ?_
  refine AWP.seq (k_a (k_m rfl ?_))
  refine rC (Calm.bin rfl rfl b_geq) ?_
  refine k_n ?_
  refine k_u [(0,_),(1,_),(2,_),(6,_),(7,_),(8,_),(9,_),(10,_),(11,_),(12,_),(32,_)] ?_
  refine k_T rfl ?_
  by_cases h50:50≤L
  ·refine AWP.seq (k_a (k_m rfl ?_))
   refine rC (Calm.bin rfl rfl b_geq) ?_
   refine k_n ?_
   refine k_u [(0,_),(1,_),(2,_),(6,_),(7,_),(8,_),(9,_),(10,_),(11,_),(12,_),(32,_),(34,_)] ?_
   refine k_T rfl ?_
   obtain ⟨⟨i1,k1⟩,q1⟩ : ∃ q,q=medianAdjacent ltN d (a+L / 4*1) 0:=⟨_,rfl⟩
   obtain ⟨⟨j1,k2⟩,q2⟩ : ∃ q,q=medianAdjacent ltN d (a+L / 4*2) k1:=⟨_,rfl⟩
   obtain ⟨⟨o1,k3⟩,q3⟩ : ∃ q,q=medianAdjacent ltN d (a+L / 4*3) k2:=⟨_,rfl⟩
   obtain ⟨⟨pv,k⟩,q4⟩ : ∃ q,q=median ltN d i1 j1 o1 k3:=⟨_,rfl⟩
   have m1:=medadj_lt ltN q1 (lo:=a) (hi:=a+L) (by omega) (by omega)
   have m2:=medadj_lt ltN q2 (lo:=a) (hi:=a+L) (by omega) (by omega)
   have m3:=medadj_lt ltN q3 (lo:=a) (hi:=a+L) (by omega) (by omega)
   have hr:=median_lt ltN q4 (lo:=a) (hi:=a+L) m1.1 m2.1 m3.1
   have n1:=m1.2;have n2:=m2.2;have n3:=m3.2;have n4:=hr.2
   have hp:choosePivot ltN d a (a+L)=(pv,if k=0 then .increasing else if k=12 then .decreasing else .unknown):=by unfold choosePivot;simp only [Nat.add_sub_cancel_left,if_pos h8,if_pos h50,← q1,← q2,← q3,← q4]
   replace hr:=hr.1
   refine k_a (k_m rfl (k_m rfl ?_))
   refine ARun.call (lit_lt rfl) go_100 rfl ((q1 ▸ soB_medadj b room n cap hb hn d R b9 g9 (by assumption) _ (a+L / 4*1) 0 om_ (by omega) (by omega) (by omega))) ?_
   rintro _ _ ⟨rfl,rfl⟩
   refine k_e rfl ?_
   refine k_u [(0,_),(1,_),(2,_),(6,_),(7,_),(8,_),(9,_),(10,_),(11,_),(12,_),(32,_),(34,_)] ?_
   refine k_a (k_m rfl (k_m rfl ?_))
   refine ARun.call (lit_lt rfl) go_100 rfl ((q2 ▸ soB_medadj b room n cap hb hn d R b9 g9 (by assumption) _ (a+L / 4*2) k1 om_ (by omega) (by omega) (by omega))) ?_
   rintro _ _ ⟨rfl,rfl⟩
   refine k_e rfl ?_
   refine k_u [(0,_),(1,_),(2,_),(6,_),(7,_),(8,_),(9,_),(10,_),(11,_),(12,_),(32,_),(34,_)] ?_
   refine AWP.region ?_
   refine k_m rfl (k_m rfl ?_)
   refine ARun.call (lit_lt rfl) go_100 rfl ((q3 ▸ soB_medadj b room n cap hb hn d R b9 g9 (by assumption) _ (a+L / 4*3) k2 om_ (by omega) (by omega) (by omega))) ?_
   rintro _ _ ⟨rfl,rfl⟩
   refine k_e rfl ?_
   refine k_u [(0,_),(1,_),(2,_),(6,_),(7,_),(8,_),(9,_),(10,_),(11,_),(12,_),(32,_),(34,_)] ?_
   refine AWP.region ?_
   refine k_m rfl (k_m rfl (k_m rfl (k_m rfl ?_)))
   refine ARun.call (lit_lt rfl) go_101 rfl ((q4 ▸ soB_median b room n cap hb hn d R b9 g9 (by assumption) _ _ _ i1 j1 o1 k3 rfl rfl rfl (by omega) (by omega) (by omega) (by omega))) ?_
   rintro _ _ ⟨rfl,rfl⟩
   refine k_e rfl ?_
   refine k_u [(0,_),(1,_),(2,_),(6,_),(7,_),(8,_),(9,_),(10,_),(11,_),(12,_),(32,_),(34,_)] ?_
   by_cases k0:k=0
   ·subst k0
    refine k_a ?_
    refine rC (ld_ ty_plain_3 rfl) ?_
    refine k_n ?_
    refine AWP.block ?_
    refine k_a ?_
    refine rC (Calm.bin rfl rfl b_eql) ?_
    refine k_e rfl ?_
    refine k_u [(0,_),(1,_),(2,_),(6,_),(7,_),(8,_),(9,_),(10,_),(11,_),(12,_),(32,_),(34,_),(49,_),(51,_)] ?_
    refine k_T rfl ?_
    refine k_a (k_m rfl (k_s rfl (k_e rfl ?_)))
    refine k_u [(0,_),(1,_),(2,_),(6,_),(7,_),(8,_),(9,_),(10,_),(11,_),(12,_),(32,_),(34,_),(49,_),(51,_)] ?_
    refine AWP.ret ?_
    refine ain_ret ?_
    refine ⟨_,S.set b ⟨5,(d).toList.map encB,room⟩,⟨_,_,rfl,⟨_,_,rfl,rfl,rfl⟩,rfl⟩,less_,?_⟩
    exact ⟨by rw [hp];rfl,rfl,by rw [hp];exact hr⟩
   ·refine k_a ?_
    refine rC (ld_ ty_plain_3 rfl) ?_
    refine k_n ?_
    refine AWP.block ?_
    refine k_a ?_
    refine rC (Calm.bin rfl rfl b_eql) ?_
    refine k_e rfl ?_
    refine k_u [(0,_),(1,_),(2,_),(6,_),(7,_),(8,_),(9,_),(10,_),(11,_),(12,_),(32,_),(34,_),(49,_),(51,_)] ?_
    refine k_F rfl ?_
    by_cases k1:k=12
    ·subst k1
     refine k_a ?_
     refine rC (Calm.bin rfl rfl b_eql) ?_
     refine k_e rfl ?_
     refine k_u [(0,_),(1,_),(2,_),(6,_),(7,_),(8,_),(9,_),(10,_),(11,_),(12,_),(32,_),(34,_),(49,_),(51,_),(54,_)] ?_
     refine k_T rfl ?_
     refine k_a (k_m rfl (k_s rfl (k_e rfl ?_)))
     refine k_u [(0,_),(1,_),(2,_),(6,_),(7,_),(8,_),(9,_),(10,_),(11,_),(12,_),(32,_),(34,_),(49,_),(51,_),(54,_)] ?_
     refine AWP.ret ?_
     refine ain_ret ?_
     refine ⟨_,S.set b ⟨5,(d).toList.map encB,room⟩,⟨_,_,rfl,⟨_,_,rfl,rfl,rfl⟩,rfl⟩,less_,?_⟩
     exact ⟨by rw [hp];rfl,rfl,by rw [hp];exact hr⟩
    ·refine k_a ?_
     refine rC (Calm.bin rfl rfl b_eql) ?_
     refine k_e rfl ?_
     refine k_u [(0,_),(1,_),(2,_),(6,_),(7,_),(8,_),(9,_),(10,_),(11,_),(12,_),(32,_),(34,_),(49,_),(51,_),(54,_)] ?_
     refine k_F rfl ?_
     refine k_a (k_m rfl (k_s rfl (k_e rfl ?_)))
     refine k_u [(0,_),(1,_),(2,_),(6,_),(7,_),(8,_),(9,_),(10,_),(11,_),(12,_),(32,_),(34,_),(49,_),(51,_),(54,_)] ?_
     refine AWP.ret ?_
     refine ain_ret ?_
     refine ⟨_,S.set b ⟨5,(d).toList.map encB,room⟩,⟨_,_,rfl,⟨_,_,rfl,rfl,rfl⟩,rfl⟩,less_,?_⟩
     exact ⟨by rw [hp,piv_hint k0 k1];rfl,rfl,by rw [hp];exact hr⟩
  ·refine AWP.seq (k_a (k_m rfl ?_))
   refine rC (Calm.bin rfl rfl b_geq) ?_
   refine k_n ?_
   refine k_u [(0,_),(1,_),(2,_),(6,_),(7,_),(8,_),(9,_),(10,_),(11,_),(12,_),(32,_),(34,_)] ?_
   refine k_F rfl ?_
   obtain ⟨⟨pv,k⟩,q4⟩ : ∃ q,q=median ltN d (a+L / 4*1) (a+L / 4*2) (a+L / 4*3) 0:=⟨_,rfl⟩
   have hr:=median_lt ltN q4 (lo:=a) (hi:=a+L) (by omega) (by omega) (by omega)
   have n4:=hr.2
   have hp:choosePivot ltN d a (a+L)=(pv,if k=0 then .increasing else if k=12 then .decreasing else .unknown):=by unfold choosePivot;simp only [Nat.add_sub_cancel_left,if_pos h8,if_neg h50,← q4]
   replace hr:=hr.1
   refine k_k ?_
   refine AWP.region ?_
   refine k_m rfl (k_m rfl (k_m rfl (k_m rfl ?_)))
   refine ARun.call (lit_lt rfl) go_101 rfl ((q4 ▸ soB_median b room n cap hb hn d R b9 g9 (by assumption) _ _ _ (a+L / 4*1) (a+L / 4*2) (a+L / 4*3) 0 om_ om_ om_ (by omega) (by omega) (by omega) (by omega))) ?_
   rintro _ _ ⟨rfl,rfl⟩
   refine k_e rfl ?_
   refine k_u [(0,_),(1,_),(2,_),(6,_),(7,_),(8,_),(9,_),(10,_),(11,_),(12,_),(32,_),(34,_)] ?_
   by_cases k0:k=0
   ·subst k0
    refine k_a ?_
    refine rC (ld_ ty_plain_3 rfl) ?_
    refine k_n ?_
    refine AWP.block ?_
    refine k_a ?_
    refine rC (Calm.bin rfl rfl b_eql) ?_
    refine k_e rfl ?_
    refine k_u [(0,_),(1,_),(2,_),(6,_),(7,_),(8,_),(9,_),(10,_),(11,_),(12,_),(32,_),(34,_),(49,_),(51,_)] ?_
    refine k_T rfl ?_
    refine k_a (k_m rfl (k_s rfl (k_e rfl ?_)))
    refine k_u [(0,_),(1,_),(2,_),(6,_),(7,_),(8,_),(9,_),(10,_),(11,_),(12,_),(32,_),(34,_),(49,_),(51,_)] ?_
    refine AWP.ret ?_
    refine ain_ret ?_
    refine ⟨_,S.set b ⟨5,(d).toList.map encB,room⟩,⟨_,_,rfl,⟨_,_,rfl,rfl,rfl⟩,rfl⟩,less_,?_⟩
    exact ⟨by rw [hp];rfl,rfl,by rw [hp];exact hr⟩
   ·refine k_a ?_
    refine rC (ld_ ty_plain_3 rfl) ?_
    refine k_n ?_
    refine AWP.block ?_
    refine k_a ?_
    refine rC (Calm.bin rfl rfl b_eql) ?_
    refine k_e rfl ?_
    refine k_u [(0,_),(1,_),(2,_),(6,_),(7,_),(8,_),(9,_),(10,_),(11,_),(12,_),(32,_),(34,_),(49,_),(51,_)] ?_
    refine k_F rfl ?_
    by_cases k1:k=12
    ·subst k1
     refine k_a ?_
     refine rC (Calm.bin rfl rfl b_eql) ?_
     refine k_e rfl ?_
     refine k_u [(0,_),(1,_),(2,_),(6,_),(7,_),(8,_),(9,_),(10,_),(11,_),(12,_),(32,_),(34,_),(49,_),(51,_),(54,_)] ?_
     refine k_T rfl ?_
     refine k_a (k_m rfl (k_s rfl (k_e rfl ?_)))
     refine k_u [(0,_),(1,_),(2,_),(6,_),(7,_),(8,_),(9,_),(10,_),(11,_),(12,_),(32,_),(34,_),(49,_),(51,_),(54,_)] ?_
     refine AWP.ret ?_
     refine ain_ret ?_
     refine ⟨_,S.set b ⟨5,(d).toList.map encB,room⟩,⟨_,_,rfl,⟨_,_,rfl,rfl,rfl⟩,rfl⟩,less_,?_⟩
     exact ⟨by rw [hp];rfl,rfl,by rw [hp];exact hr⟩
    ·refine k_a ?_
     refine rC (Calm.bin rfl rfl b_eql) ?_
     refine k_e rfl ?_
     refine k_u [(0,_),(1,_),(2,_),(6,_),(7,_),(8,_),(9,_),(10,_),(11,_),(12,_),(32,_),(34,_),(49,_),(51,_),(54,_)] ?_
     refine k_F rfl ?_
     refine k_a (k_m rfl (k_s rfl (k_e rfl ?_)))
     refine k_u [(0,_),(1,_),(2,_),(6,_),(7,_),(8,_),(9,_),(10,_),(11,_),(12,_),(32,_),(34,_),(49,_),(51,_),(54,_)] ?_
     refine AWP.ret ?_
     refine ain_ret ?_
     refine ⟨_,S.set b ⟨5,(d).toList.map encB,room⟩,⟨_,_,rfl,⟨_,_,rfl,rfl,rfl⟩,rfl⟩,less_,?_⟩
     exact ⟨by rw [hp,piv_hint k0 k1];rfl,rfl,by rw [hp];exact hr⟩
 ·refine k_a (k_s rfl (k_e rfl (k_a (k_m rfl ?_))))
  refine k_m rfl ?_
  refine rC (Calm.bin rfl rfl b_sub_i64) ?_
  refine k_e rfl ?_
  refine k_u [(0,_),(1,_),(2,_),(6,_),(7,_),(8,_)] ?_
  refine k_a ?_
  refine ARun.alloc (lit_lt rfl) ty_zero_3 ?_
  intro b9 f9
  have g9:=f9
  repeat ((with_reducible replace g9:=fresh_set g9);obtain ⟨g9,_⟩:=g9)
  try simp only [k_l1,k_l0,k_za,Nat.reduceAdd]
  refine k_n (k_a (k_m rfl (k_m rfl ?_)))
  refine rC (Calm.bin rfl rfl b_quo_i64) ?_
  refine rC (Calm.bin rfl rfl b_mul_i64) ?_
  refine rC (Calm.bin rfl rfl b_add_i64) ?_
  refine k_e rfl ?_
  refine k_u [(0,_),(1,_),(2,_),(6,_),(7,_),(8,_),(9,_),(10,_)] ?_
  refine k_a (k_m rfl (k_m rfl ?_))
  refine rC (Calm.bin rfl rfl b_quo_i64) ?_
  refine rC (Calm.bin rfl rfl b_mul_i64) ?_
  refine rC (Calm.bin rfl rfl b_add_i64) ?_
  refine k_e rfl ?_
  refine k_u [(0,_),(1,_),(2,_),(6,_),(7,_),(8,_),(9,_),(10,_),(11,_)] ?_
  refine k_a (k_m rfl (k_m rfl ?_))
  refine rC (Calm.bin rfl rfl b_quo_i64) ?_
  refine rC (Calm.bin rfl rfl b_mul_i64) ?_
  refine rC (Calm.bin rfl rfl b_add_i64) ?_
  refine k_e rfl ?_
  refine k_u [(0,_),(1,_),(2,_),(6,_),(7,_),(8,_),(9,_),(10,_),(11,_),(12,_)] ?_
  refine AWP.seq (k_a (k_m rfl ?_))
  refine rC (Calm.bin rfl rfl b_geq) ?_
  refine k_n ?_
  refine k_u [(0,_),(1,_),(2,_),(6,_),(7,_),(8,_),(9,_),(10,_),(11,_),(12,_),(32,_)] ?_
  refine k_F rfl ?_
  have hp:choosePivot ltN d a (a+L)=(a+L / 4*2,.increasing):=by unfold choosePivot;simp only [Nat.add_sub_cancel_left,if_neg h8];rfl
  refine k_k (k_a ?_)
  refine rC (ld_ ty_plain_3 rfl) ?_
  refine k_n ?_
  refine AWP.block ?_
  refine k_a ?_
  refine rC (Calm.bin rfl rfl b_eql) ?_
  refine k_e rfl ?_
  refine k_u [(0,_),(1,_),(2,_),(6,_),(7,_),(8,_),(9,_),(10,_),(11,_),(12,_),(32,_),(49,_),(51,_)] ?_
  refine k_T rfl ?_
  refine k_a (k_m rfl (k_s rfl (k_e rfl ?_)))
  refine k_u [(0,_),(1,_),(2,_),(6,_),(7,_),(8,_),(9,_),(10,_),(11,_),(12,_),(32,_),(49,_),(51,_)] ?_
  refine AWP.ret ?_
  refine ain_ret ?_
  refine ⟨_,S.set b ⟨5,(d).toList.map encB,room⟩,⟨_,_,rfl,⟨_,_,rfl,rfl,rfl⟩,rfl⟩,less_,?_⟩
  exact ⟨by rw [hp];exact piv_val om_,rfl,by rw [hp];exact ⟨by show a≤a+L / 4*2;omega,by show a+L / 4*2<a+L;omega⟩⟩
set_option maxHeartbeats 4000000 in
theorem soB_brk {S : Mem} (b room n cap : Nat) (hb : Fresh S b) (hn : n ≤ 1048576) (d : Array Nat) (R : Rw (fun _ => True) n d) (ia ie : Int) (a e : Nat) (ha : ia = a) (he : ie = e) (hae : a ≤ e) (hen : e ≤ n) :
  ACall Tryz.prog 77 #[.slice (some ⟨b,0,none⟩) n cap,.int .i64 ia,.int .i64 ie] (S.set b ⟨5,(d).toList.map encB,room⟩) fun r S'=>S'=S.set b ⟨5,(breakPatterns d a e).toList.map encB,room⟩∧Rw (fun _=>True) n (breakPatterns d a e):=by
 subst ha he
 obtain ⟨L,rfl⟩ : ∃ L,e=a+L:=⟨e-a,by omega⟩
 have z:=R.size
 by_cases h8:8≤L
 ·have hbp:=bp_eq (d:=d) (a:=a) h8
  have hmb:=bp_mod L (by omega) (by omega)
  generalize hmo:1 <<< bitsLen L=mo at *
  generalize hba:a+L / 4*2-1=ba at *
  have hoL:((UInt64.ofNat L).toNat:Nat)=L:=by rw [UInt64.toNat_ofNat'];exact Nat.mod_eq_of_lt (by omega)
  refine ACall.enter (rs:=[]) 65 [(0,.slice (some ⟨b,0,none⟩) n cap),(1,.int .i64 a),(2,.int .i64 ((a+L:Nat):Int))] Tryz.func77 rfl rfl (Nat.le_of_ble_eq_true rfl) rfl ⟨rfl,rfl,rfl,trivial⟩ ?_
  refine k_a (k_m rfl (k_m rfl ?_))
  refine rC (Calm.bin rfl rfl b_sub_i64) ?_
  refine k_e rfl ?_
  refine k_u [(0,_),(1,_),(2,_),(6,_)] ?_
  refine k_a (k_m rfl ?_)
  refine rC (Calm.bin rfl rfl b_geq) ?_
  refine k_n ?_
  refine k_u [(0,_),(1,_),(2,_),(6,_),(15,_)] ?_
  refine k_T rfl ?_
  refine k_a (k_m rfl ?_)
  refine rC (Calm.conv rfl (conv_intW Tryz.underlying3 Tryz.underlying128 (IntWalk.u64_in _ (by omega)))) ?_
  refine ARun.alloc (lit_lt rfl) ty_zero_128 ?_
  intro b7 f7
  have g7:=f7
  repeat ((with_reducible replace g7:=fresh_set g7);obtain ⟨g7,_⟩:=g7)
  try simp only [k_l1,k_l0,k_za,Nat.reduceAdd]
  refine ARun.store1 rfl rfl ty_size_128 rfl own_ lens_ rfl ?_
  try simp only [k_ms,k_sz,k_ss,k_za,Nat.reduceAdd]
  refine k_n ?_
  refine k_u [(0,_),(1,_),(2,_),(6,_),(15,_),(7,_)] ?_
  refine AWP.less ((S.set b ⟨5,(d).toList.map encB,room⟩).set b7 (xorB (UInt64.ofNat L).toNat)) (by unfold xorB;rw [hoL,show ((a+L:Nat):Int)-(a:Int)=(L:Int) by omega];exact Mem.Less.refl _) ?_
  refine k_a (k_m rfl ?_)
  refine ARun.call (lit_lt rfl) go_87 rfl ((hmo ▸ so_pow _ L om_ (by omega) _)) ?_
  rintro _ _ ⟨rfl,rfl⟩
  refine k_e rfl ?_
  refine k_u [(0,_),(1,_),(2,_),(6,_),(15,_),(7,_),(8,_)] ?_
  refine k_a (k_m rfl (k_m rfl ?_))
  refine rC (Calm.bin rfl rfl b_quo_i64) ?_
  refine rC (Calm.bin rfl rfl b_mul_i64) ?_
  refine rC (Calm.bin rfl rfl b_add_i64) ?_
  refine rC (Calm.bin rfl rfl b_sub_i64) ?_
  refine k_e rfl ?_
  refine k_u [(0,_),(1,_),(2,_),(6,_),(15,_),(7,_),(8,_),(9,_)] ?_
  refine AWP.block ?_
  refine AWP.loop (X:=Nat × UInt64 × Array Nat) (fun x=>[(0,.slice (some ⟨b,0,none⟩) n cap),(1,.int .i64 a),(6,.int .i64 L),(7,.pointer (some ⟨b7,0,none⟩)),(8,.int .u64 mo),(9,.int .i64 ((ba+(3-x.1):Nat):Int))]) (fun x=>(S.set b ⟨5,(x.2.2).toList.map encB,room⟩).set b7 (xorB (x.2.1).toNat)) (fun x=>x.1≤3∧Rw (fun _=>True) n x.2.2∧bpR a L mo ba x.1 x.2=bpR a L mo ba 3 (UInt64.ofNat L,d)) (fun x=>x.1) ((3,UInt64.ofNat L,d)) ⟨sb_,sb_,sb_,sb_,sb_,sb_,trivial⟩ (Mem.Less.refl _) (⟨Nat.le_refl _,R,rfl⟩) ?_
  rintro ⟨k,r,d1⟩ ⟨h1,R1,h3⟩
  (try dsimp only at *)
  have z1:=R1.size
  by_cases hk:0<k
  ·obtain ⟨k,rfl⟩ : ∃ q,k=q+1:=⟨k-1,by omega⟩
   refine AWP.seq (k_a (k_m rfl (k_m rfl (k_m rfl ?_))))
   refine rC (Calm.bin rfl rfl b_quo_i64) ?_
   refine rC (Calm.bin rfl rfl b_mul_i64) ?_
   refine rC (Calm.bin rfl rfl b_add_i64) ?_
   refine rC (Calm.bin rfl rfl b_add_i64) ?_
   refine rC (Calm.bin rfl rfl b_leq) ?_
   refine k_n ?_
   refine k_u [(0,_),(1,_),(6,_),(7,_),(8,_),(9,_),(33,_)] ?_
   refine k_T rfl ?_
   obtain ⟨r',hr'⟩ : ∃ r',r'=xorNext r:=⟨_,rfl⟩
   obtain ⟨o,ho⟩ : ∃ o,o=r'.toNat &&& (mo-1):=⟨_,rfl⟩
   have ho1:o≤mo-1:=by rw [ho];exact Nat.and_le_right
   have han:=and_n64 r'.toNat (mo-1) r'.toNat_lt (by omega)
   rw [← ho] at han
   refine k_k (AWP.seq ?_)
   refine AWP.block ?_
   refine k_a ?_
   refine ARun.call (lit_lt rfl) go_88 rfl ((hr' ▸ so_next b7 r _ (fresh_more g7 (by assumption)))) ?_
   rintro _ _ ⟨rfl,rfl⟩
   refine k_m rfl ?_
   refine rC (Calm.bin rfl rfl (bin_subW (sub_u64 mo (by omega) (by omega)))) ?_
   refine rC (Calm.bin rfl rfl (bin_andE han)) ?_
   refine rC (Calm.conv rfl (by first | exact conv_intW Tryz.underlying92 Tryz.underlying3 (IntWalk.i64_in _ (by omega)) | exact conv_int Tryz.underlying92 Tryz.underlying3)) ?_
   refine k_e rfl ?_
   refine k_u [(0,_),(1,_),(6,_),(7,_),(8,_),(9,_),(33,_),(10,_)] ?_
   by_cases hoL2:L≤o
   ·refine AWP.seq (k_a (k_m rfl (k_m rfl ?_)))
    refine rC (Calm.bin rfl rfl b_geq) ?_
    refine k_n ?_
    refine k_u [(0,_),(1,_),(6,_),(7,_),(8,_),(9,_),(33,_),(10,_),(43,_)] ?_
    refine k_T rfl ?_
    refine AWP.region ?_
    refine k_m rfl (k_m rfl ?_)
    refine rC (Calm.bin rfl rfl b_sub_i64) ?_
    refine k_e rfl ?_
    refine k_u [(0,_),(1,_),(6,_),(7,_),(8,_),(9,_),(33,_),(10,_),(43,_)] ?_
    refine AWP.draw [(0,true),(1,true),(2,true),(3,true),(4,true),(5,true),(6,true),(7,true),(8,true),(9,true),(10,true),(11,true),(12,true),(13,true),(14,true),(15,true),(16,true),(17,false),(18,true),(19,false)] [17,19] mixed (by kernel_rfl) ?_
    refine dP (hc:=fun _=>Calm.move rfl) (h:=?_)
    refine dP (hc:=fun _=>Calm.move rfl) (h:=?_)
    refine dP (hc:=fun _=>Calm.move rfl) (h:=?_)
    refine dP (hc:=fun _=>Calm.move rfl) (h:=?_)
    refine dP (hc:=fun _=>Calm.move rfl) (h:=?_)
    refine dP (hc:=fun _=>Calm.bin rfl rfl b_add_i64) (h:=?_)
    refine dP (hc:=fun _=>Calm.move rfl) (h:=?_)
    refine dP (hc:=fun _=>Calm.move rfl) (h:=?_)
    refine dP (hc:=fun _=>Calm.move rfl) (h:=?_)
    refine dP (hc:=fun _=>Calm.bin rfl rfl b_add_i64) (h:=?_)
    refine dP (hc:=fun _=>Calm.indexS Tryz.underlying41 ty_size_5 rfl rfl (by omega) (by omega)) (h:=?_)
    refine dC (hc:=Calm.load ty_plain_5 rfl (rd_row (k:=a+(o-L)) own_ rw_ rw_)) (h:=?_)
    refine dP (hc:=fun _=>Calm.move rfl) (h:=?_)
    refine dP (hc:=fun _=>Calm.move rfl) (h:=?_)
    refine dP (hc:=fun _=>Calm.indexS Tryz.underlying41 ty_size_5 rfl rfl (by omega) (by omega)) (h:=?_)
    refine dC (hc:=Calm.load ty_plain_5 rfl (rd_row (k:=ba+(2-k)) own_ rw_ rw_)) (h:=?_)
    refine dP (hc:=fun _=>Calm.indexS Tryz.underlying41 ty_size_5 rfl rfl (by omega) (by omega)) (h:=?_)
    refine draw_only rfl ?_
    refine ARun.storeRow encB (ba+(2-k)) rfl rfl ty_size_5 ⟨rfl,rfl⟩ own_ rw_ rw_ ?_
    try simp only [k_ms,k_sz,k_ss,k_za,Nat.reduceAdd]
    refine arun_nil ⟨fun h=>absurd h (by decide),?_⟩
    refine dP (hc:=fun _=>Calm.indexS Tryz.underlying41 ty_size_5 rfl rfl (by omega) (by omega)) (h:=?_)
    refine draw_only rfl ?_
    refine ARun.storeRow encB (a+(o-L)) rfl rfl ty_size_5 ⟨rfl,rfl⟩ own_ rw_ rw_ ?_
    try simp only [k_ms,k_sz,k_ss,k_za,Nat.reduceAdd]
    refine arun_nil ⟨fun h=>absurd h (by decide),?_⟩
    refine draw_nil ?_
    refine ain_n ?_
    refine athen_n ?_
    refine k_u [(0,_),(1,_),(6,_),(7,_),(8,_),(9,_),(33,_),(10,_),(43,_)] ?_
    refine AWP.region ?_
    refine k_m rfl ?_
    refine rC (Calm.bin rfl rfl b_add_i64) ?_
    refine k_e rfl ?_
    refine ⟨(k,r',swp d1 (ba+(2-k)) (a+(o-L))),?_,?_,?_,?_⟩
    all_goals (try dsimp only)
    ·exact ⟨sb_,sb_,sb_,sb_,sb_,sb_,trivial⟩
    ·rw [set_over _ _ _ _ (by first | assumption | (apply Ne.symm;assumption))];exact Mem.Less.refl _
    ·exact ⟨by omega,R1.swp _ _ (by omega) (by omega),by rw [← h3,bpR_succ,← hr',← ho,if_pos hoL2]⟩
    ·omega
   ·refine AWP.seq (k_a (k_m rfl (k_m rfl ?_)))
    refine rC (Calm.bin rfl rfl b_geq) ?_
    refine k_n ?_
    refine k_u [(0,_),(1,_),(6,_),(7,_),(8,_),(9,_),(33,_),(10,_),(43,_)] ?_
    refine k_F rfl ?_
    refine k_k ?_
    refine AWP.draw [(0,true),(1,true),(2,true),(3,true),(4,true),(5,true),(6,true),(7,true),(8,true),(9,true),(10,true),(11,true),(12,true),(13,true),(14,true),(15,true),(16,true),(17,false),(18,true),(19,false)] [17,19] mixed (by kernel_rfl) ?_
    refine dP (hc:=fun _=>Calm.move rfl) (h:=?_)
    refine dP (hc:=fun _=>Calm.move rfl) (h:=?_)
    refine dP (hc:=fun _=>Calm.move rfl) (h:=?_)
    refine dP (hc:=fun _=>Calm.move rfl) (h:=?_)
    refine dP (hc:=fun _=>Calm.move rfl) (h:=?_)
    refine dP (hc:=fun _=>Calm.bin rfl rfl b_add_i64) (h:=?_)
    refine dP (hc:=fun _=>Calm.move rfl) (h:=?_)
    refine dP (hc:=fun _=>Calm.move rfl) (h:=?_)
    refine dP (hc:=fun _=>Calm.move rfl) (h:=?_)
    refine dP (hc:=fun _=>Calm.bin rfl rfl b_add_i64) (h:=?_)
    refine dP (hc:=fun _=>Calm.indexS Tryz.underlying41 ty_size_5 rfl rfl (by omega) (by omega)) (h:=?_)
    refine dC (hc:=Calm.load ty_plain_5 rfl (rd_row (k:=a+o) own_ rw_ rw_)) (h:=?_)
    refine dP (hc:=fun _=>Calm.move rfl) (h:=?_)
    refine dP (hc:=fun _=>Calm.move rfl) (h:=?_)
    refine dP (hc:=fun _=>Calm.indexS Tryz.underlying41 ty_size_5 rfl rfl (by omega) (by omega)) (h:=?_)
    refine dC (hc:=Calm.load ty_plain_5 rfl (rd_row (k:=ba+(2-k)) own_ rw_ rw_)) (h:=?_)
    refine dP (hc:=fun _=>Calm.indexS Tryz.underlying41 ty_size_5 rfl rfl (by omega) (by omega)) (h:=?_)
    refine draw_only rfl ?_
    refine ARun.storeRow encB (ba+(2-k)) rfl rfl ty_size_5 ⟨rfl,rfl⟩ own_ rw_ rw_ ?_
    try simp only [k_ms,k_sz,k_ss,k_za,Nat.reduceAdd]
    refine arun_nil ⟨fun h=>absurd h (by decide),?_⟩
    refine dP (hc:=fun _=>Calm.indexS Tryz.underlying41 ty_size_5 rfl rfl (by omega) (by omega)) (h:=?_)
    refine draw_only rfl ?_
    refine ARun.storeRow encB (a+o) rfl rfl ty_size_5 ⟨rfl,rfl⟩ own_ rw_ rw_ ?_
    try simp only [k_ms,k_sz,k_ss,k_za,Nat.reduceAdd]
    refine arun_nil ⟨fun h=>absurd h (by decide),?_⟩
    refine draw_nil ?_
    refine ain_n ?_
    refine athen_n ?_
    refine k_u [(0,_),(1,_),(6,_),(7,_),(8,_),(9,_),(33,_),(10,_),(43,_)] ?_
    refine AWP.region ?_
    refine k_m rfl ?_
    refine rC (Calm.bin rfl rfl b_add_i64) ?_
    refine k_e rfl ?_
    refine ⟨(k,r',swp d1 (ba+(2-k)) (a+o)),?_,?_,?_,?_⟩
    all_goals (try dsimp only)
    ·exact ⟨sb_,sb_,sb_,sb_,sb_,sb_,trivial⟩
    ·rw [set_over _ _ _ _ (by first | assumption | (apply Ne.symm;assumption))];exact Mem.Less.refl _
    ·exact ⟨by omega,R1.swp _ _ (by omega) (by omega),by rw [← h3,bpR_succ,← hr',← ho,if_neg hoL2]⟩
    ·omega
  ·obtain rfl:k=0:=by omega
   refine AWP.seq (k_a (k_m rfl (k_m rfl (k_m rfl ?_))))
   refine rC (Calm.bin rfl rfl b_quo_i64) ?_
   refine rC (Calm.bin rfl rfl b_mul_i64) ?_
   refine rC (Calm.bin rfl rfl b_add_i64) ?_
   refine rC (Calm.bin rfl rfl b_add_i64) ?_
   refine rC (Calm.bin rfl rfl b_leq) ?_
   refine k_n ?_
   refine k_u [(0,_),(1,_),(6,_),(7,_),(8,_),(9,_),(33,_)] ?_
   refine k_F rfl ?_
   refine AWP.exit ?_
   refine athen_exit ?_
   refine athen_exit ?_
   refine ain_same ?_
   refine ⟨_,S.set b ⟨5,(d1).toList.map encB,room⟩,rfl,less_,?_⟩
   rw [hbp,← h3];exact ⟨rfl,R1⟩
 ·have hbp:breakPatterns d a (a+L)=d:=by unfold breakPatterns;simp only [Nat.add_sub_cancel_left];rw [if_neg (by omega)]
  rw [hbp]
  refine ACall.enter (rs:=[]) 65 [(0,.slice (some ⟨b,0,none⟩) n cap),(1,.int .i64 a),(2,.int .i64 ((a+L:Nat):Int))] Tryz.func77 rfl rfl (Nat.le_of_ble_eq_true rfl) rfl ⟨rfl,rfl,rfl,trivial⟩ ?_
  refine k_a (k_m rfl (k_m rfl ?_))
  refine rC (Calm.bin rfl rfl b_sub_i64) ?_
  refine k_e rfl ?_
  refine k_u [(0,_),(1,_),(2,_),(6,_)] ?_
  refine k_a (k_m rfl ?_)
  refine rC (Calm.bin rfl rfl b_geq) ?_
  refine k_n ?_
  refine k_u [(0,_),(1,_),(2,_),(6,_),(15,_)] ?_
  refine k_F rfl ?_
  refine AWP.skip ?_
  refine ⟨_,_,rfl,Mem.Less.refl _,?_⟩
  exact ⟨rfl,R⟩
set_option maxHeartbeats 4000000 in
theorem soB_pins {S : Mem} (b room n cap : Nat) (hb : Fresh S b) (hn : n ≤ 1048576) (d : Array Nat) (R : Rw (fun _ => True) n d) (ia ie : Int) (a e : Nat) (ha : ia = a) (he : ie = e) (hae : a < e) (hen : e ≤ n) :
  ACall Tryz.prog 80 #[.slice (some ⟨b,0,none⟩) n cap,.int .i64 ia,.int .i64 ie] (S.set b ⟨5,(d).toList.map encB,room⟩) fun r S'=>r = .bool (partialInsertionSort ltN d a e).2∧S'=S.set b ⟨5,((partialInsertionSort ltN d a e).1).toList.map encB,room⟩∧Rw (fun _=>True) n (partialInsertionSort ltN d a e).1:=by
 subst ha he
 refine ACall.enter (rs:=[.tmp 6]) 133 [(0,.slice (some ⟨b,0,none⟩) n cap),(1,.int .i64 a),(2,.int .i64 e)] Tryz.func80 rfl rfl (Nat.le_of_ble_eq_true rfl) rfl ⟨rfl,rfl,rfl,trivial⟩ ?_
 refine k_a (k_e rfl (k_a (k_m rfl ?_)))
 refine rC (Calm.bin rfl rfl b_add_i64) ?_
 refine k_e rfl ?_
 refine k_u [(0,_),(1,_),(2,_),(6,_),(7,_)] ?_
 refine AWP.seq (k_a (k_e rfl ?_))
 refine AWP.block ?_
 refine AWP.loop (X:=Nat × Nat × Array Nat) (fun x=>[(0,.slice (some ⟨b,0,none⟩) n cap),(1,.int .i64 a),(2,.int .i64 e),(7,.int .i64 x.2.1),(8,.int .i64 ((5-x.1:Nat):Int))]) (fun x=>S.set b ⟨5,(x.2.2).toList.map encB,room⟩) (fun x=>x.1≤5∧a+1≤x.2.1∧x.2.1≤e∧Rw (fun _=>True) n x.2.2∧partialIns ltN a e x.1 x.2.1 x.2.2=partialInsertionSort ltN d a e) (fun x=>x.1) ((5,a+1,d)) ⟨sb_,sb_,sb_,sb_,sb_,trivial⟩ (Mem.Less.refl _) (⟨Nat.le_refl _,by dsimp only;omega,by dsimp only;omega,R,rfl⟩) ?_
 rintro ⟨s,i,d1⟩ ⟨h1,h2,h4,R1,h3⟩
 (try dsimp only at *)
 have z1:=R1.size
 by_cases hs:0<s
 ·obtain ⟨s,rfl⟩ : ∃ q,s=q+1:=⟨s-1,by omega⟩
  refine AWP.seq (k_a (k_m rfl ?_))
  refine rC (Calm.bin rfl rfl b_lss) ?_
  refine k_n ?_
  refine k_u [(0,_),(1,_),(2,_),(7,_),(8,_),(14,_)] ?_
  refine k_T rfl ?_
  refine k_k (AWP.seq ?_)
  refine AWP.block ?_
  refine AWP.seq ?_
  refine AWP.join (X:=Nat) (fun x=>[(0,.slice (some ⟨b,0,none⟩) n cap),(1,.int .i64 a),(2,.int .i64 e),(7,.int .i64 x),(8,.int .i64 ((5-(s+1):Nat):Int))]) (fun _=>S.set b ⟨5,(d1).toList.map encB,room⟩) (fun x=>a+1≤x∧x≤e∧x=scanSorted ltN d1 e i) ?_ ?_
  ·refine AWP.block ?_
   refine AWP.loop (X:=Nat) (fun x=>[(0,.slice (some ⟨b,0,none⟩) n cap),(1,.int .i64 a),(2,.int .i64 e),(7,.int .i64 x),(8,.int .i64 ((5-(s+1):Nat):Int))]) (fun _=>S.set b ⟨5,(d1).toList.map encB,room⟩) (fun x=>a+1≤x∧x≤e∧scanSorted ltN d1 e x=scanSorted ltN d1 e i) (fun x=>e-x) (i) ⟨sb_,sb_,sb_,sb_,sb_,trivial⟩ (Mem.Less.refl _) (⟨h2,h4,rfl⟩) ?_
   rintro x ⟨q1,q2,q3⟩
   (try dsimp only at *)
   by_cases hx:x<e
   ·obtain ⟨x,rfl⟩ : ∃ q,x=q+1:=⟨x-1,by omega⟩
    refine AWP.seq (AWP.seq ?_)
    refine AWP.draw [(0,true),(1,true),(2,true),(3,true),(4,true),(5,true),(6,true),(7,true),(8,true),(9,true),(10,true),(11,true),(12,true),(13,false),(14,true),(15,true)] [] mixed (by kernel_rfl) ?_
    refine dP (hc:=fun _=>Calm.move rfl) (h:=?_)
    refine dP (hc:=fun _=>Calm.move rfl) (h:=?_)
    refine dP (hc:=fun _=>Calm.bin rfl rfl b_lss) (h:=?_)
    refine dP (hc:=fun _=>Calm.move rfl) (h:=?_)
    first|refine k_d ?_|refine dG (hc:=fun _=>Calm.move rfl) (h:=?_)
    first|refine k_d ?_|refine dG (hc:=fun _=>Calm.move rfl) (h:=?_)
    first|refine k_d ?_|refine dG (hc:=fun _=>Calm.indexS Tryz.underlying41 ty_size_5 rfl rfl (by omega) (by omega)) (h:=?_)
    first|refine k_d ?_|refine dL (hc:=Calm.load ty_plain_5 rfl (rd_row (k:=x+1) own_ rw_ rw_)) (h:=?_)
    first|refine k_d ?_|refine dG (hc:=fun _=>Calm.move rfl) (h:=?_)
    first|refine k_d ?_|refine dG (hc:=fun _=>Calm.move rfl) (h:=?_)
    first|refine k_d ?_|refine dG (hc:=fun _=>Calm.bin rfl rfl b_sub_i64) (h:=?_)
    first|refine k_d ?_|refine dG (hc:=fun _=>Calm.indexS Tryz.underlying41 ty_size_5 rfl rfl (by omega) (by omega)) (h:=?_)
    first|refine k_d ?_|refine dL (hc:=Calm.load ty_plain_5 rfl (rd_row (k:=x) own_ rw_ rw_)) (h:=?_)
    refine draw_only rfl ?_
    refine ARun.callG 3 true 20 rfl (lit_lt rfl) rfl (lit_lt rfl) go_55 rfl (soB_less _ _ _) ?_
    rintro _ _ ⟨rfl,rfl⟩
    refine arun_nil ⟨fun _=>less_,?_⟩
    first|refine k_d ?_|refine dG (hc:=fun _=>Calm.un rfl (una_not _)) (h:=?_)
    refine dP (hc:=fun _=>(by first | exact Calm.pickT rfl rfl | exact Calm.pickF rfl rfl)) (h:=?_)
    refine draw_nil ?_
    refine athen_n ?_
    refine k_u [(0,_),(1,_),(2,_),(7,_),(8,_),(32,_)] ?_
    refine AWP.condB rfl (fun hl=>?_) (fun hl=>?_)
    ·have hl:=nt_ hl
     refine k_k ?_
     refine AWP.block ?_
     refine AWP.region ?_
     refine k_m rfl ?_
     refine rC (Calm.bin rfl rfl b_add_i64) ?_
     refine k_s rfl ?_
     refine arun_nil ?_
     refine ain_n ?_
     refine athen_n ?_
     refine ⟨x+1+1,?_,?_,?_,?_⟩
     all_goals (try dsimp only)
     ·exact ⟨sb_,sb_,sb_,sb_,sb_,trivial⟩
     ·exact Mem.Less.refl _
     ·exact ⟨by omega,by omega,(ss_go ltN hx (by rw [Nat.add_sub_cancel];exact hl)).trans q3⟩
     ·omega
    ·have hl:=nf_ hl
     refine AWP.exit ?_
     refine athen_exit ?_
     refine athen_exit ?_
     refine ain_same ?_
     refine ⟨(x+1),?_,?_,?_⟩
     all_goals (try dsimp only)
     ·exact ⟨by omega,by omega,(ss_no ltN (by rw [Nat.add_sub_cancel];exact hl)).trans q3⟩
     ·exact ⟨sb_,sb_,sb_,sb_,sb_,trivial⟩
     ·exact Mem.Less.refl _
   ·refine AWP.seq (AWP.seq ?_)
    refine AWP.draw [(0,true),(1,true),(2,true),(3,true),(4,true),(5,true),(6,true),(7,true),(8,true),(9,true),(10,true),(11,true),(12,true),(13,false),(14,true),(15,true)] [] mixed (by kernel_rfl) ?_
    refine dP (hc:=fun _=>Calm.move rfl) (h:=?_)
    refine dP (hc:=fun _=>Calm.move rfl) (h:=?_)
    refine dP (hc:=fun _=>Calm.bin rfl rfl b_lss) (h:=?_)
    refine dP (hc:=fun _=>Calm.move rfl) (h:=?_)
    first|refine k_d ?_|refine dG (hc:=fun _=>Calm.move rfl) (h:=?_)
    first|refine k_d ?_|refine dG (hc:=fun _=>Calm.move rfl) (h:=?_)
    first|refine k_d ?_|refine dG (hc:=fun _=>Calm.indexS Tryz.underlying41 ty_size_5 rfl rfl (by omega) (by omega)) (h:=?_)
    first|refine k_d ?_|refine dL (hc:=Calm.load ty_plain_5 rfl (rd_row (k:=x+1) own_ rw_ rw_)) (h:=?_)
    first|refine k_d ?_|refine dG (hc:=fun _=>Calm.move rfl) (h:=?_)
    first|refine k_d ?_|refine dG (hc:=fun _=>Calm.move rfl) (h:=?_)
    first|refine k_d ?_|refine dG (hc:=fun _=>Calm.bin rfl rfl b_sub_i64) (h:=?_)
    first|refine k_d ?_|refine dG (hc:=fun _=>Calm.indexS Tryz.underlying41 ty_size_5 rfl rfl (by omega) (by omega)) (h:=?_)
    first|refine k_d ?_|refine dL (hc:=Calm.load ty_plain_5 rfl (rd_row (k:=x) own_ rw_ rw_)) (h:=?_)
    refine draw_only rfl ?_
    first | refine rS 20 ?_ | refine rU 20 ?_
    refine arun_nil ⟨fun _=>less_,?_⟩
    first|refine k_d ?_|refine dG (hc:=fun _=>Calm.un rfl (una_not _)) (h:=?_)
    refine dP (hc:=fun _=>(by first | exact Calm.pickT rfl rfl | exact Calm.pickF rfl rfl)) (h:=?_)
    refine draw_nil ?_
    refine athen_n ?_
    refine k_u [(0,_),(1,_),(2,_),(7,_),(8,_),(32,_)] ?_
    refine k_F rfl ?_
    refine AWP.exit ?_
    refine athen_exit ?_
    refine athen_exit ?_
    refine ain_same ?_
    refine ⟨x,?_,?_,?_⟩
    all_goals (try dsimp only)
    ·exact ⟨by omega,by omega,(ss_end ltN hx).trans q3⟩
    ·exact ⟨sb_,sb_,sb_,sb_,sb_,trivial⟩
    ·exact Mem.Less.refl _
  rintro x ⟨b1,b2,hS⟩
  intro _ _ hs_ hl_
  (try dsimp only at *)
  refine athen_n ?_
  refine AWP.sub _ hs_ (AWP.less _ hl_ ?_)
  clear hs_ hl_
  by_cases hxe:x=e
  ·refine AWP.seq (k_a (k_m rfl (k_m rfl ?_)))
   refine rC (Calm.bin rfl rfl b_eql) ?_
   refine k_n ?_
   refine k_u [(0,_),(1,_),(2,_),(7,_),(8,_),(37,_)] ?_
   refine k_T rfl ?_
   refine k_a (k_e rfl ?_)
   refine k_r ?_
   refine ain_ret ?_
   refine athen_ret ?_
   refine athen_ret ?_
   refine ain_ret ?_
   refine athen_ret ?_
   refine ⟨_,_,⟨_,_,rfl,rfl,rfl⟩,Mem.Less.refl _,?_⟩
   exact pis_res (M:=fun x=>S.set b ⟨5,(x).toList.map encB,room⟩) ltN h3 (.inl ⟨hS ▸ hxe,rfl,rfl⟩) R1
  ·refine AWP.seq (k_a (k_m rfl (k_m rfl ?_)))
   refine rC (Calm.bin rfl rfl b_eql) ?_
   refine k_n ?_
   refine k_u [(0,_),(1,_),(2,_),(7,_),(8,_),(37,_)] ?_
   refine k_F rfl ?_
   by_cases h50:e-a<50
   ·refine k_k (AWP.seq (k_a (k_m rfl (k_m rfl ?_))))
    refine rC (Calm.bin rfl rfl b_sub_i64) ?_
    refine rC (Calm.bin rfl rfl b_lss) ?_
    refine k_n ?_
    refine k_u [(0,_),(1,_),(2,_),(7,_),(8,_),(37,_),(41,_)] ?_
    refine k_T rfl ?_
    refine k_a (k_e rfl ?_)
    refine k_r ?_
    refine ain_ret ?_
    refine athen_ret ?_
    refine athen_ret ?_
    refine ain_ret ?_
    refine athen_ret ?_
    refine ⟨_,_,⟨_,_,rfl,rfl,rfl⟩,Mem.Less.refl _,?_⟩
    exact pis_res (M:=fun x=>S.set b ⟨5,(x).toList.map encB,room⟩) ltN h3 (.inr ⟨hS ▸ hxe,h50,rfl,rfl⟩) R1
   ·refine k_k (AWP.seq (k_a (k_m rfl (k_m rfl ?_))))
    refine rC (Calm.bin rfl rfl b_sub_i64) ?_
    refine rC (Calm.bin rfl rfl b_lss) ?_
    refine k_n ?_
    refine k_u [(0,_),(1,_),(2,_),(7,_),(8,_),(37,_),(41,_)] ?_
    refine k_F rfl ?_
    obtain ⟨w,rfl⟩ : ∃ q,x=q+1:=⟨x-1,by omega⟩
    refine k_k (AWP.seq ?_)
    refine AWP.draw [(0,true),(1,true),(2,true),(3,true),(4,true),(5,true),(6,true),(7,true),(8,true),(9,true),(10,true),(11,true),(12,true),(13,true),(14,true),(15,false),(16,true),(17,false)] [15,17] mixed (by kernel_rfl) ?_
    have R2:=R1.swp (w+1) w (by omega) (by omega)
    obtain ⟨d2,hd2⟩ : ∃ d2,d2=swp d1 (w+1) w:=⟨_,rfl⟩
    rw [← hd2] at R2
    refine dP (hc:=fun _=>Calm.move rfl) (h:=?_)
    refine dP (hc:=fun _=>Calm.move rfl) (h:=?_)
    refine dP (hc:=fun _=>Calm.move rfl) (h:=?_)
    refine dP (hc:=fun _=>Calm.move rfl) (h:=?_)
    refine dP (hc:=fun _=>Calm.bin rfl rfl b_sub_i64) (h:=?_)
    refine dP (hc:=fun _=>Calm.move rfl) (h:=?_)
    refine dP (hc:=fun _=>Calm.move rfl) (h:=?_)
    refine dP (hc:=fun _=>Calm.bin rfl rfl b_sub_i64) (h:=?_)
    refine dP (hc:=fun _=>Calm.indexS Tryz.underlying41 ty_size_5 rfl rfl (by omega) (by omega)) (h:=?_)
    refine dC (hc:=Calm.load ty_plain_5 rfl (rd_row (k:=w) own_ rw_ rw_)) (h:=?_)
    refine dP (hc:=fun _=>Calm.move rfl) (h:=?_)
    refine dP (hc:=fun _=>Calm.move rfl) (h:=?_)
    refine dP (hc:=fun _=>Calm.indexS Tryz.underlying41 ty_size_5 rfl rfl (by omega) (by omega)) (h:=?_)
    refine dC (hc:=Calm.load ty_plain_5 rfl (rd_row (k:=w+1) own_ rw_ rw_)) (h:=?_)
    refine dP (hc:=fun _=>Calm.indexS Tryz.underlying41 ty_size_5 rfl rfl (by omega) (by omega)) (h:=?_)
    refine draw_only rfl ?_
    refine ARun.storeRow encB (w+1) rfl rfl ty_size_5 ⟨rfl,rfl⟩ own_ rw_ rw_ ?_
    try simp only [k_ms,k_sz,k_ss,k_za,Nat.reduceAdd]
    refine arun_nil ⟨fun h=>absurd h (by decide),?_⟩
    refine dP (hc:=fun _=>Calm.indexS Tryz.underlying41 ty_size_5 rfl rfl (by omega) (by omega)) (h:=?_)
    refine draw_only rfl ?_
    refine ARun.storeRow encB (w) rfl rfl ty_size_5 ⟨rfl,rfl⟩ own_ rw_ rw_ ?_
    try simp only [k_ms,k_sz,k_ss,k_za,Nat.reduceAdd]
    refine arun_nil ⟨fun h=>absurd h (by decide),?_⟩
    refine draw_nil ?_
    refine athen_n ?_
    refine k_u [(0,_),(1,_),(2,_),(7,_),(8,_),(37,_),(41,_)] ?_
    refine AWP.less (S.set b ⟨5,(d2).toList.map encB,room⟩) (by rw [hd2];exact Mem.Less.refl _) ?_
    have z2:=R2.size
    refine AWP.seq (k_a (k_m rfl (k_m rfl ?_)))
    refine rC (Calm.bin rfl rfl b_sub_i64) ?_
    refine rC (Calm.bin rfl rfl b_geq) ?_
    refine k_n ?_
    refine k_u [(0,_),(1,_),(2,_),(7,_),(8,_),(37,_),(41,_),(61,_)] ?_
    refine AWP.join (X:=Array Nat) (fun x=>[(0,.slice (some ⟨b,0,none⟩) n cap),(1,.int .i64 a),(2,.int .i64 e),(7,.int .i64 ((w+1:Nat):Int)),(8,.int .i64 ((5-(s+1):Nat):Int))]) (fun x=>S.set b ⟨5,(x).toList.map encB,room⟩) (fun x=>Rw (fun _=>True) n x∧x=(if w+1-a ≥ 2 then shiftDown ltN w d2 else d2)) ?_ ?_
    ·by_cases hw:2≤w+1-a
     ·refine k_T rfl ?_
      refine k_a (k_m rfl ?_)
      refine rC (Calm.bin rfl rfl b_sub_i64) ?_
      refine k_e rfl ?_
      refine k_u [(0,_),(1,_),(2,_),(7,_),(8,_),(37,_),(41,_),(61,_),(9,_)] ?_
      refine AWP.block ?_
      refine AWP.loop (X:=Nat × Array Nat) (fun x=>[(0,.slice (some ⟨b,0,none⟩) n cap),(1,.int .i64 a),(2,.int .i64 e),(7,.int .i64 ((w+1:Nat):Int)),(8,.int .i64 ((5-(s+1):Nat):Int)),(9,.int .i64 x.1)]) (fun x=>S.set b ⟨5,(x.2).toList.map encB,room⟩) (fun x=>x.1≤w∧Rw (fun _=>True) n x.2∧shiftDown ltN x.1 x.2=shiftDown ltN w d2) (fun x=>x.1) ((w,d2)) ⟨sb_,sb_,sb_,sb_,sb_,sb_,trivial⟩ (Mem.Less.refl _) (⟨Nat.le_refl _,R2,rfl⟩) ?_
      rintro ⟨j,d3⟩ ⟨k1,R3,k3⟩
      (try dsimp only at *)
      have z3:=R3.size
      by_cases hj:0<j
      ·obtain ⟨j,rfl⟩ : ∃ q,j=q+1:=⟨j-1,by omega⟩
       refine AWP.seq (k_a (k_m rfl ?_))
       refine rC (Calm.bin rfl rfl b_geq) ?_
       refine k_n ?_
       refine k_u [(0,_),(1,_),(2,_),(7,_),(8,_),(9,_),(65,_)] ?_
       refine k_T rfl ?_
       refine k_k (AWP.seq ?_)
       refine AWP.block ?_
       refine AWP.seq (AWP.seq ?_)
       refine AWP.draw [(0,true),(1,true),(2,true),(3,true),(4,true),(5,true),(6,true),(7,true),(8,true),(9,false),(10,true)] [] mixed (by kernel_rfl) ?_
       refine dP (hc:=fun _=>Calm.move rfl) (h:=?_)
       refine dP (hc:=fun _=>Calm.move rfl) (h:=?_)
       refine dP (hc:=fun _=>Calm.indexS Tryz.underlying41 ty_size_5 rfl rfl (by omega) (by omega)) (h:=?_)
       refine dC (hc:=Calm.load ty_plain_5 rfl (rd_row (k:=j+1) own_ rw_ rw_)) (h:=?_)
       refine dP (hc:=fun _=>Calm.move rfl) (h:=?_)
       refine dP (hc:=fun _=>Calm.move rfl) (h:=?_)
       refine dP (hc:=fun _=>Calm.bin rfl rfl b_sub_i64) (h:=?_)
       refine dP (hc:=fun _=>Calm.indexS Tryz.underlying41 ty_size_5 rfl rfl (by omega) (by omega)) (h:=?_)
       refine dC (hc:=Calm.load ty_plain_5 rfl (rd_row (k:=j) own_ rw_ rw_)) (h:=?_)
       refine draw_only rfl ?_
       refine ARun.call (lit_lt rfl) go_55 rfl (soB_less _ _ _) ?_
       rintro _ _ ⟨rfl,rfl⟩
       refine arun_nil ⟨fun _=>less_,?_⟩
       refine dP (hc:=fun _=>Calm.un rfl (una_not _)) (h:=?_)
       refine draw_nil ?_
       refine athen_n ?_
       refine k_u [(0,_),(1,_),(2,_),(7,_),(8,_),(9,_),(65,_),(78,_)] ?_
       refine AWP.condB rfl (fun hl=>?_) (fun hl=>?_)
       ·have hl:=nt_ hl
        refine AWP.exit ?_
        refine athen_exit ?_
        refine ain_other rfl ?_
        refine athen_exit ?_
        refine athen_exit ?_
        refine ain_same ?_
        refine ⟨d3,?_,?_,?_⟩
        all_goals (try dsimp only)
        ·exact ⟨R3,by rw [if_pos hw,← k3,← sd_no ltN hl]⟩
        ·exact ⟨sb_,sb_,sb_,sb_,sb_,trivial⟩
        ·exact Mem.Less.refl _
       ·have hl:=nf_ hl
        refine k_k ?_
        refine AWP.draw [(0,true),(1,true),(2,true),(3,true),(4,true),(5,true),(6,true),(7,true),(8,true),(9,true),(10,true),(11,true),(12,true),(13,true),(14,true),(15,false),(16,true),(17,false)] [15,17] mixed (by kernel_rfl) ?_
        refine dP (hc:=fun _=>Calm.move rfl) (h:=?_)
        refine dP (hc:=fun _=>Calm.move rfl) (h:=?_)
        refine dP (hc:=fun _=>Calm.move rfl) (h:=?_)
        refine dP (hc:=fun _=>Calm.move rfl) (h:=?_)
        refine dP (hc:=fun _=>Calm.bin rfl rfl b_sub_i64) (h:=?_)
        refine dP (hc:=fun _=>Calm.move rfl) (h:=?_)
        refine dP (hc:=fun _=>Calm.move rfl) (h:=?_)
        refine dP (hc:=fun _=>Calm.bin rfl rfl b_sub_i64) (h:=?_)
        refine dP (hc:=fun _=>Calm.indexS Tryz.underlying41 ty_size_5 rfl rfl (by omega) (by omega)) (h:=?_)
        refine dC (hc:=Calm.load ty_plain_5 rfl (rd_row (k:=j) own_ rw_ rw_)) (h:=?_)
        refine dP (hc:=fun _=>Calm.move rfl) (h:=?_)
        refine dP (hc:=fun _=>Calm.move rfl) (h:=?_)
        refine dP (hc:=fun _=>Calm.indexS Tryz.underlying41 ty_size_5 rfl rfl (by omega) (by omega)) (h:=?_)
        refine dC (hc:=Calm.load ty_plain_5 rfl (rd_row (k:=j+1) own_ rw_ rw_)) (h:=?_)
        refine dP (hc:=fun _=>Calm.indexS Tryz.underlying41 ty_size_5 rfl rfl (by omega) (by omega)) (h:=?_)
        refine draw_only rfl ?_
        refine ARun.storeRow encB (j+1) rfl rfl ty_size_5 ⟨rfl,rfl⟩ own_ rw_ rw_ ?_
        try simp only [k_ms,k_sz,k_ss,k_za,Nat.reduceAdd]
        refine arun_nil ⟨fun h=>absurd h (by decide),?_⟩
        refine dP (hc:=fun _=>Calm.indexS Tryz.underlying41 ty_size_5 rfl rfl (by omega) (by omega)) (h:=?_)
        refine draw_only rfl ?_
        refine ARun.storeRow encB (j) rfl rfl ty_size_5 ⟨rfl,rfl⟩ own_ rw_ rw_ ?_
        try simp only [k_ms,k_sz,k_ss,k_za,Nat.reduceAdd]
        refine arun_nil ⟨fun h=>absurd h (by decide),?_⟩
        refine draw_nil ?_
        refine ain_n ?_
        refine athen_n ?_
        refine k_u [(0,_),(1,_),(2,_),(7,_),(8,_),(9,_),(65,_),(78,_)] ?_
        refine AWP.region ?_
        refine k_m rfl ?_
        refine rC (Calm.bin rfl rfl b_sub_i64) ?_
        refine k_e rfl ?_
        refine ⟨(j,swp d3 (j+1) j),?_,?_,?_,?_⟩
        all_goals (try dsimp only)
        ·exact ⟨sb_,sb_,sb_,sb_,sb_,sb_,trivial⟩
        ·exact Mem.Less.refl _
        ·exact ⟨by omega,R3.swp _ _ (by omega) (by omega),(sd_go ltN hl).trans k3⟩
        ·omega
      ·obtain rfl:j=0:=by omega
       refine AWP.seq (k_a (k_m rfl ?_))
       refine rC (Calm.bin rfl rfl b_geq) ?_
       refine k_n ?_
       refine k_u [(0,_),(1,_),(2,_),(7,_),(8,_),(9,_),(65,_)] ?_
       refine k_F rfl ?_
       refine AWP.exit ?_
       refine athen_exit ?_
       refine athen_exit ?_
       refine ain_same ?_
       refine ⟨d3,?_,?_,?_⟩
       all_goals (try dsimp only)
       ·exact ⟨R3,by rw [if_pos hw,← k3];rfl⟩
       ·exact ⟨sb_,sb_,sb_,sb_,sb_,trivial⟩
       ·exact Mem.Less.refl _
     ·refine k_F rfl ?_
      refine AWP.skip ?_
      refine ⟨d2,?_,?_,?_⟩
      all_goals (try dsimp only)
      ·exact ⟨R2,by rw [if_neg hw]⟩
      ·exact ⟨sb_,sb_,sb_,sb_,sb_,trivial⟩
      ·exact Mem.Less.refl _
    rintro d3 ⟨R3,hd3⟩
    intro _ _ hs_ hl_
    (try dsimp only at *)
    refine athen_n ?_
    refine AWP.sub _ hs_ (AWP.less _ hl_ ?_)
    clear hs_ hl_
    have z3:=R3.size
    refine k_a (k_m rfl (k_m rfl ?_))
    refine rC (Calm.bin rfl rfl b_sub_i64) ?_
    refine rC (Calm.bin rfl rfl b_geq) ?_
    refine k_n ?_
    refine k_u [(0,_),(1,_),(2,_),(7,_),(8,_),(98,_)] ?_
    refine AWP.join (X:=Array Nat) (fun x=>[(0,.slice (some ⟨b,0,none⟩) n cap),(1,.int .i64 a),(2,.int .i64 e),(7,.int .i64 ((w+1:Nat):Int)),(8,.int .i64 ((5-(s+1):Nat):Int))]) (fun x=>S.set b ⟨5,(x).toList.map encB,room⟩) (fun x=>Rw (fun _=>True) n x∧x=(if e-(w+1) ≥ 2 then shiftUp ltN e (w+1+1) d3 else d3)) ?_ ?_
    ·by_cases hw:2≤e-(w+1)
     ·refine k_T rfl ?_
      refine k_a (k_m rfl ?_)
      refine rC (Calm.bin rfl rfl b_add_i64) ?_
      refine k_e rfl ?_
      refine k_u [(0,_),(1,_),(2,_),(7,_),(8,_),(98,_),(10,_)] ?_
      refine AWP.block ?_
      refine AWP.loop (X:=Nat × Array Nat) (fun x=>[(0,.slice (some ⟨b,0,none⟩) n cap),(1,.int .i64 a),(2,.int .i64 e),(7,.int .i64 ((w+1:Nat):Int)),(8,.int .i64 ((5-(s+1):Nat):Int)),(10,.int .i64 x.1)]) (fun x=>S.set b ⟨5,(x.2).toList.map encB,room⟩) (fun x=>w+1+1≤x.1∧x.1≤e∧Rw (fun _=>True) n x.2∧shiftUp ltN e x.1 x.2=shiftUp ltN e (w+1+1) d3) (fun x=>e-x.1) ((w+1+1,d3)) ⟨sb_,sb_,sb_,sb_,sb_,sb_,trivial⟩ (Mem.Less.refl _) (⟨Nat.le_refl _,by dsimp only;omega,R3,rfl⟩) ?_
      rintro ⟨j,d4⟩ ⟨k1,k2,R4,k3⟩
      (try dsimp only at *)
      have z4:=R4.size
      by_cases hj:j<e
      ·obtain ⟨j,rfl⟩ : ∃ q,j=q+1:=⟨j-1,by omega⟩
       refine AWP.seq (k_a (k_m rfl (k_m rfl ?_)))
       refine rC (Calm.bin rfl rfl b_lss) ?_
       refine k_n ?_
       refine k_u [(0,_),(1,_),(2,_),(7,_),(8,_),(10,_),(103,_)] ?_
       refine k_T rfl ?_
       refine k_k (AWP.seq ?_)
       refine AWP.block ?_
       refine AWP.seq (AWP.seq ?_)
       refine AWP.draw [(0,true),(1,true),(2,true),(3,true),(4,true),(5,true),(6,true),(7,true),(8,true),(9,false),(10,true)] [] mixed (by kernel_rfl) ?_
       refine dP (hc:=fun _=>Calm.move rfl) (h:=?_)
       refine dP (hc:=fun _=>Calm.move rfl) (h:=?_)
       refine dP (hc:=fun _=>Calm.indexS Tryz.underlying41 ty_size_5 rfl rfl (by omega) (by omega)) (h:=?_)
       refine dC (hc:=Calm.load ty_plain_5 rfl (rd_row (k:=j+1) own_ rw_ rw_)) (h:=?_)
       refine dP (hc:=fun _=>Calm.move rfl) (h:=?_)
       refine dP (hc:=fun _=>Calm.move rfl) (h:=?_)
       refine dP (hc:=fun _=>Calm.bin rfl rfl b_sub_i64) (h:=?_)
       refine dP (hc:=fun _=>Calm.indexS Tryz.underlying41 ty_size_5 rfl rfl (by omega) (by omega)) (h:=?_)
       refine dC (hc:=Calm.load ty_plain_5 rfl (rd_row (k:=j) own_ rw_ rw_)) (h:=?_)
       refine draw_only rfl ?_
       refine ARun.call (lit_lt rfl) go_55 rfl (soB_less _ _ _) ?_
       rintro _ _ ⟨rfl,rfl⟩
       refine arun_nil ⟨fun _=>less_,?_⟩
       refine dP (hc:=fun _=>Calm.un rfl (una_not _)) (h:=?_)
       refine draw_nil ?_
       refine athen_n ?_
       refine k_u [(0,_),(1,_),(2,_),(7,_),(8,_),(10,_),(103,_),(116,_)] ?_
       refine AWP.condB rfl (fun hl=>?_) (fun hl=>?_)
       ·have hl:=nt_ hl
        refine AWP.exit ?_
        refine athen_exit ?_
        refine ain_other rfl ?_
        refine athen_exit ?_
        refine athen_exit ?_
        refine ain_same ?_
        refine ⟨d4,?_,?_,?_⟩
        all_goals (try dsimp only)
        ·exact ⟨R4,by rw [if_pos hw,← k3,← su_no ltN (by rw [Nat.add_sub_cancel];exact hl)]⟩
        ·exact ⟨sb_,sb_,sb_,sb_,sb_,trivial⟩
        ·exact Mem.Less.refl _
       ·have hl:=nf_ hl
        refine k_k ?_
        refine AWP.draw [(0,true),(1,true),(2,true),(3,true),(4,true),(5,true),(6,true),(7,true),(8,true),(9,true),(10,true),(11,true),(12,true),(13,true),(14,true),(15,false),(16,true),(17,false)] [15,17] mixed (by kernel_rfl) ?_
        refine dP (hc:=fun _=>Calm.move rfl) (h:=?_)
        refine dP (hc:=fun _=>Calm.move rfl) (h:=?_)
        refine dP (hc:=fun _=>Calm.move rfl) (h:=?_)
        refine dP (hc:=fun _=>Calm.move rfl) (h:=?_)
        refine dP (hc:=fun _=>Calm.bin rfl rfl b_sub_i64) (h:=?_)
        refine dP (hc:=fun _=>Calm.move rfl) (h:=?_)
        refine dP (hc:=fun _=>Calm.move rfl) (h:=?_)
        refine dP (hc:=fun _=>Calm.bin rfl rfl b_sub_i64) (h:=?_)
        refine dP (hc:=fun _=>Calm.indexS Tryz.underlying41 ty_size_5 rfl rfl (by omega) (by omega)) (h:=?_)
        refine dC (hc:=Calm.load ty_plain_5 rfl (rd_row (k:=j) own_ rw_ rw_)) (h:=?_)
        refine dP (hc:=fun _=>Calm.move rfl) (h:=?_)
        refine dP (hc:=fun _=>Calm.move rfl) (h:=?_)
        refine dP (hc:=fun _=>Calm.indexS Tryz.underlying41 ty_size_5 rfl rfl (by omega) (by omega)) (h:=?_)
        refine dC (hc:=Calm.load ty_plain_5 rfl (rd_row (k:=j+1) own_ rw_ rw_)) (h:=?_)
        refine dP (hc:=fun _=>Calm.indexS Tryz.underlying41 ty_size_5 rfl rfl (by omega) (by omega)) (h:=?_)
        refine draw_only rfl ?_
        refine ARun.storeRow encB (j+1) rfl rfl ty_size_5 ⟨rfl,rfl⟩ own_ rw_ rw_ ?_
        try simp only [k_ms,k_sz,k_ss,k_za,Nat.reduceAdd]
        refine arun_nil ⟨fun h=>absurd h (by decide),?_⟩
        refine dP (hc:=fun _=>Calm.indexS Tryz.underlying41 ty_size_5 rfl rfl (by omega) (by omega)) (h:=?_)
        refine draw_only rfl ?_
        refine ARun.storeRow encB (j) rfl rfl ty_size_5 ⟨rfl,rfl⟩ own_ rw_ rw_ ?_
        try simp only [k_ms,k_sz,k_ss,k_za,Nat.reduceAdd]
        refine arun_nil ⟨fun h=>absurd h (by decide),?_⟩
        refine draw_nil ?_
        refine ain_n ?_
        refine athen_n ?_
        refine k_u [(0,_),(1,_),(2,_),(7,_),(8,_),(10,_),(103,_),(116,_)] ?_
        refine AWP.region ?_
        refine k_m rfl ?_
        refine rC (Calm.bin rfl rfl b_add_i64) ?_
        refine k_e rfl ?_
        refine ⟨(j+1+1,swp d4 (j+1) j),?_,?_,?_,?_⟩
        all_goals (try dsimp only)
        ·exact ⟨sb_,sb_,sb_,sb_,sb_,sb_,trivial⟩
        ·exact Mem.Less.refl _
        ·exact ⟨by omega,by omega,R4.swp _ _ (by omega) (by omega),(su_go ltN (j:=j+1) hj (by rw [Nat.add_sub_cancel];exact hl)).trans k3⟩
        ·omega
      ·refine AWP.seq (k_a (k_m rfl (k_m rfl ?_)))
       refine rC (Calm.bin rfl rfl b_lss) ?_
       refine k_n ?_
       refine k_u [(0,_),(1,_),(2,_),(7,_),(8,_),(10,_),(103,_)] ?_
       refine k_F rfl ?_
       refine AWP.exit ?_
       refine athen_exit ?_
       refine athen_exit ?_
       refine ain_same ?_
       refine ⟨d4,?_,?_,?_⟩
       all_goals (try dsimp only)
       ·exact ⟨R4,by rw [if_pos hw,← k3,← su_end ltN hj]⟩
       ·exact ⟨sb_,sb_,sb_,sb_,sb_,trivial⟩
       ·exact Mem.Less.refl _
     ·refine k_F rfl ?_
      refine AWP.skip ?_
      refine ⟨d3,?_,?_,?_⟩
      all_goals (try dsimp only)
      ·exact ⟨R3,by rw [if_neg hw]⟩
      ·exact ⟨sb_,sb_,sb_,sb_,sb_,trivial⟩
      ·exact Mem.Less.refl _
    rintro d4 ⟨R4,hd4⟩
    intro _ _ hs_ hl_
    (try dsimp only at *)
    refine ain_n ?_
    refine athen_n ?_
    refine AWP.sub _ hs_ (AWP.less _ hl_ ?_)
    clear hs_ hl_
    refine AWP.region ?_
    refine k_m rfl ?_
    refine rC (Calm.bin rfl rfl b_add_i64) ?_
    refine k_e rfl ?_
    refine ⟨(s,w+1,d4),?_,?_,?_,?_⟩
    all_goals (try dsimp only)
    ·exact ⟨sb_,sb_,sb_,sb_,sb_,trivial⟩
    ·exact Mem.Less.refl _
    ·exact ⟨by omega,by omega,by omega,R4,(pi_step ltN hS (by omega) h50 hd2 hd3 hd4).trans h3⟩
    ·omega
 ·obtain rfl:s=0:=by omega
  refine AWP.seq (k_a (k_m rfl ?_))
  refine rC (Calm.bin rfl rfl b_lss) ?_
  refine k_n ?_
  refine k_u [(0,_),(1,_),(2,_),(7,_),(8,_),(14,_)] ?_
  refine k_F rfl ?_
  refine AWP.exit ?_
  refine athen_exit ?_
  refine athen_exit ?_
  refine ain_same ?_
  refine athen_n ?_
  refine k_a (k_e rfl ?_)
  refine AWP.ret ?_
  refine ⟨_,_,⟨_,_,rfl,rfl,rfl⟩,Mem.Less.refl _,?_⟩
  rw [← h3];exact ⟨rfl,rfl,R1⟩
end Go.Proofs.YtgidjbpgkeemiaaGreat
namespace Go.Proofs.YtgidjbpgkeemiaaGreat
open Go.RowKit
open Mv Srt
open Go.Sort (swp insInner insOuter insertionSort siftDown heapBuild heapPop heapSort scanUp scanDown partLoop partition partEqLoop partitionEqual scanSorted shiftDown shiftUp partialIns partialInsertionSort order2 median medianAdjacent choosePivot reverseLoop reverseRange breakStep breakPatterns pdq bitsLen xorNext Hint)
set_option maxRecDepth 4000
set_option maxHeartbeats 8000000 in
theorem soB_pdq {S : Mem} (b room n cap : Nat) (hb : Fresh S b) (hn : n ≤ 1048576) : ∀ (m : Nat) (d : Array Nat) (R : Rw (fun _ => True) n d) (ia ie il : Int) (a e limit : Nat), ia = a → ie = e → il = limit → a ≤ e → e ≤ n → limit ≤ 1000 → e - a = m →
  ACall Tryz.prog 54 #[.slice (some ⟨b,0,none⟩) n cap,.int .i64 ia,.int .i64 ie,.int .i64 il] (S.set b ⟨5,(d).toList.map encB,room⟩) fun r S'=>S'=S.set b ⟨5,(pdq ltN d a e limit true true).toList.map encB,room⟩∧Rw (fun _=>True) n (pdq ltN d a e limit true true):=by
 intro m
 induction m using Nat.strongRecOn with
 | _ m ih =>
 intro d R ia ie il a e limit ha he hl hae hen hlim hm
 subst ha he hl
 refine ACall.enter (rs:=[]) 134 [(0,.slice (some ⟨b,0,none⟩) n cap),(1,.int .i64 a),(2,.int .i64 e),(3,.int .i64 limit)] Tryz.func54 rfl rfl (Nat.le_of_ble_eq_true rfl) rfl ⟨rfl,rfl,rfl,rfl,trivial⟩ ?_
 refine k_a (k_e rfl (k_a (k_e rfl ?_)))
 refine AWP.block ?_
 refine AWP.loop (X:=Nat × Nat × Nat × Bool × Bool × Array Nat) (fun x=>[(0,.slice (some ⟨b,0,none⟩) n cap),(1,.int .i64 x.1),(2,.int .i64 x.2.1),(3,.int .i64 x.2.2.1),(8,.bool x.2.2.2.1),(9,.bool x.2.2.2.2.1)]) (fun x=>S.set b ⟨5,(x.2.2.2.2.2).toList.map encB,room⟩) (fun x=>x.1≤x.2.1∧x.2.1≤e∧Rw (fun _=>True) n x.2.2.2.2.2∧x.2.1-x.1≤m∧x.2.2.1≤limit∧pdq ltN x.2.2.2.2.2 x.1 x.2.1 x.2.2.1 x.2.2.2.1 x.2.2.2.2.1=pdq ltN d a e limit true true) (fun x=>x.2.1-x.1) ((a,e,limit,true,true,d)) ⟨sb_,sb_,sb_,sb_,sb_,sb_,trivial⟩ (Mem.Less.refl _) (⟨hae,Nat.le_refl _,R,by dsimp only;omega,Nat.le_refl _,rfl⟩) ?_
 rintro ⟨a1,e1,l1,w1,w2,d0⟩ ⟨h1,h2,R0,h4,h5,hq⟩
 (try dsimp only at *)
 have z0:=R0.size
 by_cases h12:e1-a1≤12
 ·refine AWP.block ?_
  refine k_a (k_m rfl (k_m rfl ?_))
  refine rC (Calm.bin rfl rfl b_sub_i64) ?_
  refine k_e rfl ?_
  refine k_u [(0,_),(1,_),(2,_),(3,_),(8,_),(9,_),(10,_)] ?_
  refine AWP.seq (k_a (k_m rfl ?_))
  refine rC (Calm.bin rfl rfl b_leq) ?_
  refine k_n ?_
  refine k_u [(0,_),(1,_),(2,_),(3,_),(8,_),(9,_),(10,_),(23,_)] ?_
  refine k_T rfl ?_
  refine k_a (k_m rfl (k_m rfl (k_m rfl ?_)))
  refine ARun.call (lit_lt rfl) go_75 rfl (soB_ins b room n cap hb hn d0 R0 _ _ a1 e1 rfl rfl (by omega) (by omega)) ?_
  rintro _ _ ⟨rfl,R1⟩
  refine k_n ?_
  refine k_u [(0,_),(1,_),(2,_),(3,_),(8,_),(9,_),(10,_),(23,_)] ?_
  refine k_r ?_
  refine ain_ret ?_
  refine athen_ret ?_
  refine ain_ret ?_
  refine ⟨_,_,rfl,Mem.Less.refl _,?_⟩
  rw [← hq,pdq_ins ltN h12];exact ⟨rfl,R1⟩
 ·refine AWP.block ?_
  refine k_a (k_m rfl (k_m rfl ?_))
  refine rC (Calm.bin rfl rfl b_sub_i64) ?_
  refine k_e rfl ?_
  refine k_u [(0,_),(1,_),(2,_),(3,_),(8,_),(9,_),(10,_)] ?_
  refine AWP.seq (k_a (k_m rfl ?_))
  refine rC (Calm.bin rfl rfl b_leq) ?_
  refine k_n ?_
  refine k_u [(0,_),(1,_),(2,_),(3,_),(8,_),(9,_),(10,_),(23,_)] ?_
  refine k_F rfl ?_
  by_cases hl0:l1=0
  ·refine k_k (AWP.seq (k_a (k_m rfl ?_)))
   refine rC (Calm.bin rfl rfl b_eql) ?_
   refine k_n ?_
   refine k_u [(0,_),(1,_),(2,_),(3,_),(8,_),(9,_),(10,_),(23,_),(29,_)] ?_
   refine k_T rfl ?_
   refine k_a (k_m rfl (k_m rfl (k_m rfl ?_)))
   refine ARun.call (lit_lt rfl) go_76 rfl (soB_heap b room n cap hb hn d0 R0 _ _ a1 e1 rfl rfl (by omega) (by omega)) ?_
   rintro _ _ ⟨rfl,R1⟩
   refine k_n ?_
   refine k_u [(0,_),(1,_),(2,_),(3,_),(8,_),(9,_),(10,_),(23,_),(29,_)] ?_
   refine k_r ?_
   refine ain_ret ?_
   refine athen_ret ?_
   refine ain_ret ?_
   refine ⟨_,_,rfl,Mem.Less.refl _,?_⟩
   rw [← hq,pdq_heap ltN h12 hl0];exact ⟨rfl,R1⟩
  ·refine k_k (AWP.seq (k_a (k_m rfl ?_)))
   refine rC (Calm.bin rfl rfl b_eql) ?_
   refine k_n ?_
   refine k_u [(0,_),(1,_),(2,_),(3,_),(8,_),(9,_),(10,_),(23,_),(29,_)] ?_
   refine k_F rfl ?_
   rw [pdq_1 ltN h12 hl0] at hq
   refine k_k (AWP.seq (k_a (k_m rfl ?_)))
   refine rC (Calm.un rfl (una_not _)) ?_
   refine k_n ?_
   refine k_u [(0,_),(1,_),(2,_),(3,_),(8,_),(9,_),(10,_),(23,_),(29,_),(35,_)] ?_
   refine AWP.join (X:=Nat × Array Nat) (fun x=>[(0,.slice (some ⟨b,0,none⟩) n cap),(1,.int .i64 a1),(2,.int .i64 e1),(3,.int .i64 x.1),(8,.bool w1),(9,.bool w2),(10,.int .i64 ((e1-a1:Nat):Int))]) (fun x=>S.set b ⟨5,(x.2).toList.map encB,room⟩) (fun x=>x.1≤l1∧Rw (fun _=>True) n x.2∧pdq1 ltN x.2 a1 e1 x.1 w1 w2=pdq ltN d a e limit true true) ?_ ?_
   ·cases w1
    ·refine k_T rfl ?_
     refine k_a (k_m rfl (k_m rfl (k_m rfl ?_)))
     refine ARun.call (lit_lt rfl) go_77 rfl (soB_brk b room n cap hb hn d0 R0 _ _ a1 e1 rfl rfl (by omega) (by omega)) ?_
     rintro _ _ ⟨rfl,R1⟩
     refine k_n ?_
     refine k_u [(0,_),(1,_),(2,_),(3,_),(8,_),(9,_),(10,_),(23,_),(29,_),(35,_)] ?_
     refine AWP.region ?_
     refine k_m rfl ?_
     refine rC (Calm.bin rfl rfl b_sub_i64) ?_
     refine k_s rfl ?_
     refine arun_nil ?_
     refine ⟨(l1-1,breakPatterns d0 a1 e1),?_,?_,?_⟩
     all_goals (try dsimp only)
     ·exact ⟨by omega,R1,hq⟩
     ·exact ⟨sb_,sb_,sb_,sb_,sb_,sb_,sb_,trivial⟩
     ·exact Mem.Less.refl _
    ·refine k_F rfl ?_
     refine AWP.skip ?_
     refine ⟨(l1,d0),?_,?_,?_⟩
     all_goals (try dsimp only)
     ·exact ⟨Nat.le_refl _,R0,hq⟩
     ·exact ⟨sb_,sb_,sb_,sb_,sb_,sb_,sb_,trivial⟩
     ·exact Mem.Less.refl _
   rintro ⟨l2,d1⟩ ⟨k1,R1,hq⟩
   intro _ _ hs_ hl_
   (try dsimp only at *)
   refine athen_n ?_
   refine AWP.sub _ hs_ (AWP.less _ hl_ ?_)
   clear hs_ hl_
   have z1:=R1.size
   obtain ⟨⟨p0,ht⟩,hpc⟩ : ∃ q,q=choosePivot ltN d1 a1 e1:=⟨_,rfl⟩
   refine k_a (k_m rfl (k_m rfl (k_m rfl ?_)))
   refine ARun.call (lit_lt rfl) go_78 rfl ((hpc ▸ soB_pivot b room n cap hb hn d1 R1 _ _ a1 e1 rfl rfl (by omega) (by omega))) ?_
   rintro _ _ ⟨rfl,rfl,g1,g2⟩
   dsimp only at g1 g2
   rw [pdq1,← hpc] at hq
   dsimp only at hq
   refine k_m rfl ?_
   refine rC (Calm.extract rfl rfl) ?_
   refine rC (Calm.extract rfl rfl) ?_
   refine k_s rfl (k_e rfl ?_)
   refine k_u [(0,_),(1,_),(2,_),(3,_),(8,_),(9,_),(10,_),(11,_),(12,_)] ?_
   refine AWP.seq (k_a (k_m rfl ?_))
   refine rC (Calm.bin rfl rfl b_eql) ?_
   refine k_n ?_
   refine k_u [(0,_),(1,_),(2,_),(3,_),(8,_),(9,_),(10,_),(11,_),(12,_),(50,_)] ?_
   refine AWP.join (X:=Nat × Hint × Array Nat) (fun x=>[(0,.slice (some ⟨b,0,none⟩) n cap),(1,.int .i64 a1),(2,.int .i64 e1),(3,.int .i64 l2),(8,.bool w1),(9,.bool w2),(10,.int .i64 ((e1-a1:Nat):Int)),(11,.int .i64 x.1),(12,.int .i64 (hintI x.2.1))]) (fun x=>S.set b ⟨5,(x.2.2).toList.map encB,room⟩) (fun x=>a1≤x.1∧x.1<e1∧Rw (fun _=>True) n x.2.2∧pdq2 ltN x.2.2 a1 e1 l2 w1 w2 x.1 x.2.1=pdq ltN d a e limit true true) ?_ ?_
   ·by_cases hde:ht = .decreasing
    ·subst hde
     refine k_T rfl ?_
     refine k_a (k_m rfl (k_m rfl (k_m rfl ?_)))
     refine ARun.call (lit_lt rfl) go_79 rfl (soB_rev b room n cap hb hn d1 R1 _ _ a1 e1 rfl rfl (by omega) (by omega)) ?_
     rintro _ _ ⟨rfl,R2⟩
     refine k_n ?_
     refine k_u [(0,_),(1,_),(2,_),(3,_),(8,_),(9,_),(10,_),(11,_),(12,_),(50,_)] ?_
     refine k_a (k_m rfl ?_)
     refine rC (Calm.bin rfl rfl b_sub_i64) ?_
     refine k_m rfl (k_m rfl ?_)
     refine rC (Calm.bin rfl rfl b_sub_i64) ?_
     refine rC (Calm.bin rfl rfl b_sub_i64) ?_
     refine k_e rfl ?_
     refine k_u [(0,_),(1,_),(2,_),(3,_),(8,_),(9,_),(10,_),(11,_),(12,_),(50,_)] ?_
     refine AWP.region ?_
     refine k_s rfl ?_
     refine arun_nil ?_
     refine ⟨(e1-1-(p0-a1),.increasing,reverseRange d1 a1 e1),?_,?_,?_⟩
     all_goals (try dsimp only)
     ·exact ⟨by omega,by omega,R2,by rw [if_pos rfl] at hq;exact hq⟩
     ·exact ⟨sb_,sb_,sb_,sb_,sb_,sb_,sb_,sb_,sb_,trivial⟩
     ·exact Mem.Less.refl _
    ·have hni:=hint_ne hde
     refine k_F rfl ?_
     refine AWP.skip ?_
     refine ⟨(p0,ht,d1),?_,?_,?_⟩
     all_goals (try dsimp only)
     ·exact ⟨g1,g2,R1,by rw [if_neg hde] at hq;exact hq⟩
     ·exact ⟨sb_,sb_,sb_,sb_,sb_,sb_,sb_,sb_,sb_,trivial⟩
     ·exact Mem.Less.refl _
   rintro ⟨pv,hi,d2⟩ ⟨g1,g2,R2,hq⟩
   intro _ _ hs_ hl_
   (try dsimp only at *)
   refine athen_n ?_
   refine AWP.sub _ hs_ (AWP.less _ hl_ ?_)
   clear hs_ hl_
   have z2:=R2.size
   have hh1:=hint_1 hi
   refine AWP.seq (AWP.seq ?_)
   refine AWP.join (X:=Bool) (fun x=>[(0,.slice (some ⟨b,0,none⟩) n cap),(1,.int .i64 a1),(2,.int .i64 e1),(3,.int .i64 l2),(8,.bool w1),(9,.bool w2),(10,.int .i64 ((e1-a1:Nat):Int)),(11,.int .i64 pv),(68,.bool x)]) (fun x=>S.set b ⟨5,(d2).toList.map encB,room⟩) (fun x=>x=(w1 && w2 && decide (hi = .increasing))) ?_ ?_
   ·cases w1
    ·refine AWP.region ?_
     refine k_m rfl (k_m rfl ?_)
     first|refine k_q 62 ?_|refine rG 62 (Calm.move rfl) ?_
     first|refine k_t rfl rfl ?_|refine k_f rfl rfl ?_
     refine k_m rfl ?_
     first|refine k_q 65 ?_|refine rG 65 (Calm.move rfl) ?_
     first|refine k_q 65 ?_|refine rG 65 (Calm.bin rfl rfl b_eql) ?_
     first|refine k_t rfl rfl ?_|refine k_f rfl rfl ?_
     refine arun_nil ?_
     refine ⟨false,?_,?_,?_⟩
     all_goals (try dsimp only)
     ·rfl
     ·exact ⟨sb_,sb_,sb_,sb_,sb_,sb_,sb_,sb_,sb_,trivial⟩
     ·exact Mem.Less.refl _
    ·cases w2
     ·refine AWP.region ?_
      refine k_m rfl (k_m rfl ?_)
      first|refine k_q 62 ?_|refine rG 62 (Calm.move rfl) ?_
      first|refine k_t rfl rfl ?_|refine k_f rfl rfl ?_
      refine k_m rfl ?_
      first|refine k_q 65 ?_|refine rG 65 (Calm.move rfl) ?_
      first|refine k_q 65 ?_|refine rG 65 (Calm.bin rfl rfl b_eql) ?_
      first|refine k_t rfl rfl ?_|refine k_f rfl rfl ?_
      refine arun_nil ?_
      refine ⟨false,?_,?_,?_⟩
      all_goals (try dsimp only)
      ·rfl
      ·exact ⟨sb_,sb_,sb_,sb_,sb_,sb_,sb_,sb_,sb_,trivial⟩
      ·exact Mem.Less.refl _
     ·refine AWP.region ?_
      refine k_m rfl (k_m rfl ?_)
      first|refine k_q 62 ?_|refine rG 62 (Calm.move rfl) ?_
      first|refine k_t rfl rfl ?_|refine k_f rfl rfl ?_
      refine k_m rfl ?_
      first|refine k_q 65 ?_|refine rG 65 (Calm.move rfl) ?_
      first|refine k_q 65 ?_|refine rG 65 (Calm.bin rfl rfl (bin_bool (bin_eql _ _) hh1)) ?_
      first|refine k_t rfl rfl ?_|refine k_f rfl rfl ?_
      refine arun_nil ?_
      refine ⟨(decide (hi = .increasing)),?_,?_,?_⟩
      all_goals (try dsimp only)
      ·simp
      ·exact ⟨sb_,sb_,sb_,sb_,sb_,sb_,sb_,sb_,sb_,trivial⟩
      ·exact Mem.Less.refl _
   rintro x hx
   intro _ _ hs_ hl_
   (try dsimp only at *)
   refine athen_n ?_
   refine AWP.sub _ hs_ (AWP.less _ hl_ ?_)
   clear hs_ hl_
   rw [pdq2,← hx] at hq
   refine AWP.join (X:=Array Nat) (fun x=>[(0,.slice (some ⟨b,0,none⟩) n cap),(1,.int .i64 a1),(2,.int .i64 e1),(3,.int .i64 l2),(8,.bool w1),(9,.bool w2),(10,.int .i64 ((e1-a1:Nat):Int)),(11,.int .i64 pv)]) (fun x=>S.set b ⟨5,(x).toList.map encB,room⟩) (fun x=>Rw (fun _=>True) n x∧pdq3 ltN x a1 e1 l2 w1 w2 pv=pdq ltN d a e limit true true) ?_ ?_
   ·cases x
    ·refine k_F rfl ?_
     refine AWP.skip ?_
     refine ⟨d2,?_,?_,?_⟩
     all_goals (try dsimp only)
     ·exact ⟨R2,hq⟩
     ·exact ⟨sb_,sb_,sb_,sb_,sb_,sb_,sb_,sb_,trivial⟩
     ·exact Mem.Less.refl _
    ·refine k_T rfl ?_
     obtain ⟨⟨d3,pb⟩,hp3⟩ : ∃ q,q=partialInsertionSort ltN d2 a1 e1:=⟨_,rfl⟩
     rw [if_pos rfl,← hp3] at hq
     dsimp only at hq
     refine k_a (k_m rfl (k_m rfl (k_m rfl ?_)))
     refine ARun.call (lit_lt rfl) go_80 rfl ((hp3 ▸ soB_pins b room n cap hb hn d2 R2 _ _ a1 e1 rfl rfl (by omega) (by omega))) ?_
     rintro _ _ ⟨rfl,rfl,R3⟩
     refine k_n ?_
     refine k_u [(0,_),(1,_),(2,_),(3,_),(8,_),(9,_),(10,_),(11,_),(68,_),(72,_)] ?_
     cases pb
     ·refine k_F rfl ?_
      refine AWP.skip ?_
      refine ⟨d3,?_,?_,?_⟩
      all_goals (try dsimp only)
      ·exact ⟨R3,hq⟩
      ·exact ⟨sb_,sb_,sb_,sb_,sb_,sb_,sb_,sb_,trivial⟩
      ·exact Mem.Less.refl _
     ·refine k_T rfl ?_
      refine AWP.ret ?_
      refine join_ret ?_
      refine athen_ret ?_
      refine ain_ret ?_
      refine athen_ret ?_
      refine ain_ret ?_
      refine ⟨_,_,rfl,Mem.Less.refl _,?_⟩
      rw [← hq];exact ⟨rfl,R3⟩
   rintro d3 ⟨R3,hq⟩
   intro _ _ hs_ hl_
   (try dsimp only at *)
   refine athen_n ?_
   refine AWP.sub _ hs_ (AWP.less _ hl_ ?_)
   clear hs_ hl_
   clear hx
   have z3:=R3.size
   refine AWP.seq (AWP.seq ?_)
   refine AWP.join (X:=Bool) (fun x=>[(0,.slice (some ⟨b,0,none⟩) n cap),(1,.int .i64 a1),(2,.int .i64 e1),(3,.int .i64 l2),(8,.bool w1),(9,.bool w2),(10,.int .i64 ((e1-a1:Nat):Int)),(11,.int .i64 pv),(87,.bool x)]) (fun x=>S.set b ⟨5,(d3).toList.map encB,room⟩) (fun x=>x=(decide (a1 > 0) && !ltN d3[a1-1]! d3[pv]!)) ?_ ?_
   ·by_cases h0:0<a1
    ·refine AWP.draw [(0,true),(1,true),(2,true),(3,true),(4,true),(5,true),(6,true),(7,true),(8,true),(9,true),(10,true),(11,true),(12,false),(13,true),(14,true)] [] mixed (by kernel_rfl) ?_
     refine dP (hc:=fun _=>Calm.move rfl) (h:=?_)
     refine dP (hc:=fun _=>Calm.bin rfl rfl b_gtr) (h:=?_)
     refine dP (hc:=fun _=>Calm.move rfl) (h:=?_)
     first|refine k_d ?_|refine dG (hc:=fun _=>Calm.move rfl) (h:=?_)
     first|refine k_d ?_|refine dG (hc:=fun _=>Calm.move rfl) (h:=?_)
     first|refine k_d ?_|refine dG (hc:=fun _=>Calm.bin rfl rfl b_sub_i64) (h:=?_)
     first|refine k_d ?_|refine dG (hc:=fun _=>Calm.indexS Tryz.underlying41 ty_size_5 rfl rfl (by omega) (by omega)) (h:=?_)
     first|refine k_d ?_|refine dL (hc:=Calm.load ty_plain_5 rfl (rd_row (k:=a1-1) own_ rw_ rw_)) (h:=?_)
     first|refine k_d ?_|refine dG (hc:=fun _=>Calm.move rfl) (h:=?_)
     first|refine k_d ?_|refine dG (hc:=fun _=>Calm.move rfl) (h:=?_)
     first|refine k_d ?_|refine dG (hc:=fun _=>Calm.indexS Tryz.underlying41 ty_size_5 rfl rfl (by omega) (by omega)) (h:=?_)
     first|refine k_d ?_|refine dL (hc:=Calm.load ty_plain_5 rfl (rd_row (k:=pv) own_ rw_ rw_)) (h:=?_)
     refine draw_only rfl ?_
     refine ARun.callG 2 true 75 rfl (lit_lt rfl) rfl (lit_lt rfl) go_55 rfl (soB_less _ _ _) ?_
     rintro _ _ ⟨rfl,rfl⟩
     refine arun_nil ⟨fun _=>less_,?_⟩
     first|refine k_d ?_|refine dG (hc:=fun _=>Calm.un rfl (una_not _)) (h:=?_)
     refine dP (hc:=fun _=>(by first | exact Calm.pickT rfl rfl | exact Calm.pickF rfl rfl)) (h:=?_)
     refine draw_nil ?_
     refine ⟨(!ltN d3[a1-1]! d3[pv]!),?_,?_,?_⟩
     all_goals (try dsimp only)
     ·rw [decide_eq_true h0];rfl
     ·exact ⟨sb_,sb_,sb_,sb_,sb_,sb_,sb_,sb_,sb_,trivial⟩
     ·exact Mem.Less.refl _
    ·refine AWP.draw [(0,true),(1,true),(2,true),(3,true),(4,true),(5,true),(6,true),(7,true),(8,true),(9,true),(10,true),(11,true),(12,false),(13,true),(14,true)] [] mixed (by kernel_rfl) ?_
     refine dP (hc:=fun _=>Calm.move rfl) (h:=?_)
     refine dP (hc:=fun _=>Calm.bin rfl rfl b_gtr) (h:=?_)
     refine dP (hc:=fun _=>Calm.move rfl) (h:=?_)
     first|refine k_d ?_|refine dG (hc:=fun _=>Calm.move rfl) (h:=?_)
     first|refine k_d ?_|refine dG (hc:=fun _=>Calm.move rfl) (h:=?_)
     first|refine k_d ?_|refine dG (hc:=fun _=>Calm.bin rfl rfl b_sub_i64) (h:=?_)
     first|refine k_d ?_|refine dG (hc:=fun _=>Calm.indexS Tryz.underlying41 ty_size_5 rfl rfl (by omega) (by omega)) (h:=?_)
     first|refine k_d ?_|refine dL (hc:=Calm.load ty_plain_5 rfl (rd_row (k:=a1-1) own_ rw_ rw_)) (h:=?_)
     first|refine k_d ?_|refine dG (hc:=fun _=>Calm.move rfl) (h:=?_)
     first|refine k_d ?_|refine dG (hc:=fun _=>Calm.move rfl) (h:=?_)
     first|refine k_d ?_|refine dG (hc:=fun _=>Calm.indexS Tryz.underlying41 ty_size_5 rfl rfl (by omega) (by omega)) (h:=?_)
     first|refine k_d ?_|refine dL (hc:=Calm.load ty_plain_5 rfl (rd_row (k:=pv) own_ rw_ rw_)) (h:=?_)
     refine draw_only rfl ?_
     first | refine rS 75 ?_ | refine rU 75 ?_
     refine arun_nil ⟨fun _=>less_,?_⟩
     first|refine k_d ?_|refine dG (hc:=fun _=>Calm.un rfl (una_not _)) (h:=?_)
     refine dP (hc:=fun _=>(by first | exact Calm.pickT rfl rfl | exact Calm.pickF rfl rfl)) (h:=?_)
     refine draw_nil ?_
     refine ⟨false,?_,?_,?_⟩
     all_goals (try dsimp only)
     ·rw [decide_eq_false h0];rfl
     ·exact ⟨sb_,sb_,sb_,sb_,sb_,sb_,sb_,sb_,sb_,trivial⟩
     ·exact Mem.Less.refl _
   rintro x hx
   intro _ _ hs_ hl_
   (try dsimp only at *)
   refine athen_n ?_
   refine AWP.sub _ hs_ (AWP.less _ hl_ ?_)
   clear hs_ hl_
   rw [pdq3,← hx] at hq
   cases x
   ·refine k_F rfl ?_
    obtain ⟨⟨md,ap,d4⟩,hp4⟩ : ∃ q,q=partition ltN d3 a1 e1 pv:=⟨_,rfl⟩
    rw [if_neg Bool.false_ne_true,← hp4] at hq
    dsimp only at hq
    refine k_k (k_a (k_m rfl (k_m rfl (k_m rfl ?_))))
    refine k_m rfl ?_
    refine ARun.call (lit_lt rfl) go_82 rfl ((hp4 ▸ soB_part b room n cap hb hn d3 R3 _ _ _ a1 e1 pv rfl rfl rfl (by omega) (by omega) (by omega))) ?_
    rintro _ _ ⟨rfl,rfl,R4,g3,g4⟩
    dsimp only at R4 g3 g4
    rw [if_pos ⟨g3,g4⟩] at hq
    refine k_m rfl ?_
    refine rC (Calm.extract rfl rfl) ?_
    refine rC (Calm.extract rfl rfl) ?_
    refine k_s rfl (k_e rfl ?_)
    refine k_u [(0,_),(1,_),(2,_),(3,_),(8,_),(9,_),(10,_),(11,_),(87,_),(14,_),(15,_)] ?_
    by_cases hmd:md-a1<e1-md
    ·rw [if_pos hmd] at hq
     refine k_a (k_m rfl (k_e rfl ?_))
     refine k_u [(0,_),(1,_),(2,_),(3,_),(8,_),(9,_),(10,_),(11,_),(87,_),(14,_),(15,_)] ?_
     refine k_a (k_m rfl (k_m rfl ?_))
     refine rC (Calm.bin rfl rfl b_sub_i64) ?_
     refine k_m rfl (k_m rfl ?_)
     refine rC (Calm.bin rfl rfl b_sub_i64) ?_
     refine k_s rfl (k_e rfl ?_)
     refine k_u [(0,_),(1,_),(2,_),(3,_),(8,_),(9,_),(10,_),(11,_),(87,_),(14,_),(15,_),(16,_),(17,_)] ?_
     refine k_a (k_m rfl ?_)
     refine rC (Calm.bin rfl rfl b_quo_i64) ?_
     refine k_e rfl ?_
     refine k_u [(0,_),(1,_),(2,_),(3,_),(8,_),(9,_),(10,_),(11,_),(87,_),(14,_),(15,_),(16,_),(17,_),(18,_)] ?_
     refine k_a (k_m rfl (k_m rfl ?_))
     refine rC (Calm.bin rfl rfl b_lss) ?_
     refine k_n ?_
     refine k_u [(0,_),(1,_),(2,_),(3,_),(8,_),(9,_),(10,_),(11,_),(87,_),(14,_),(15,_),(16,_),(17,_),(18,_),(113,_)] ?_
     refine k_T rfl ?_
     refine k_a (k_m rfl (k_m rfl ?_))
     refine rC (Calm.bin rfl rfl b_geq) ?_
     refine k_e rfl ?_
     refine k_u [(0,_),(1,_),(2,_),(3,_),(8,_),(9,_),(10,_),(11,_),(87,_),(14,_),(15,_),(16,_),(17,_),(18,_),(113,_)] ?_
     refine k_a (k_m rfl (k_m rfl (k_m rfl (k_m rfl ?_))))
     refine ARun.call (lit_lt rfl) go_54 rfl (ih (md-a1) (by omega) d4 R4 _ _ _ a1 md l2 rfl rfl rfl (by omega) (by omega) (by omega) rfl) ?_
     rintro _ _ ⟨rfl,R5⟩
     refine k_n ?_
     refine k_u [(0,_),(1,_),(2,_),(3,_),(8,_),(9,_),(10,_),(11,_),(87,_),(14,_),(15,_),(16,_),(17,_),(18,_),(113,_)] ?_
     refine AWP.region ?_
     refine k_m rfl ?_
     refine rC (Calm.bin rfl rfl b_add_i64) ?_
     refine k_s rfl ?_
     refine arun_nil ?_
     refine ain_n ?_
     refine athen_n ?_
     refine ⟨(md+1,e1,l2,decide (md-a1 ≥ (e1-a1) / 8),ap,pdq ltN d4 a1 md l2 true true),?_,?_,?_,?_⟩
     all_goals (try dsimp only)
     ·exact ⟨sb_,sb_,sb_,sb_,wbv_ (by omega),sb_,trivial⟩
     ·exact Mem.Less.refl _
     ·exact ⟨by omega,by omega,R5,by omega,by omega,hq⟩
     ·omega
    ·rw [if_neg hmd] at hq
     refine k_a (k_m rfl (k_e rfl ?_))
     refine k_u [(0,_),(1,_),(2,_),(3,_),(8,_),(9,_),(10,_),(11,_),(87,_),(14,_),(15,_)] ?_
     refine k_a (k_m rfl (k_m rfl ?_))
     refine rC (Calm.bin rfl rfl b_sub_i64) ?_
     refine k_m rfl (k_m rfl ?_)
     refine rC (Calm.bin rfl rfl b_sub_i64) ?_
     refine k_s rfl (k_e rfl ?_)
     refine k_u [(0,_),(1,_),(2,_),(3,_),(8,_),(9,_),(10,_),(11,_),(87,_),(14,_),(15,_),(16,_),(17,_)] ?_
     refine k_a (k_m rfl ?_)
     refine rC (Calm.bin rfl rfl b_quo_i64) ?_
     refine k_e rfl ?_
     refine k_u [(0,_),(1,_),(2,_),(3,_),(8,_),(9,_),(10,_),(11,_),(87,_),(14,_),(15,_),(16,_),(17,_),(18,_)] ?_
     refine k_a (k_m rfl (k_m rfl ?_))
     refine rC (Calm.bin rfl rfl b_lss) ?_
     refine k_n ?_
     refine k_u [(0,_),(1,_),(2,_),(3,_),(8,_),(9,_),(10,_),(11,_),(87,_),(14,_),(15,_),(16,_),(17,_),(18,_),(113,_)] ?_
     refine k_F rfl ?_
     refine k_a (k_m rfl (k_m rfl ?_))
     refine rC (Calm.bin rfl rfl b_geq) ?_
     refine k_e rfl ?_
     refine k_u [(0,_),(1,_),(2,_),(3,_),(8,_),(9,_),(10,_),(11,_),(87,_),(14,_),(15,_),(16,_),(17,_),(18,_),(113,_)] ?_
     refine k_a (k_m rfl (k_m rfl ?_))
     refine rC (Calm.bin rfl rfl b_add_i64) ?_
     refine k_m rfl (k_m rfl ?_)
     refine ARun.call (lit_lt rfl) go_54 rfl (ih (e1-(md+1)) (by omega) d4 R4 _ _ _ (md+1) e1 l2 om_ rfl rfl (by omega) (by omega) (by omega) rfl) ?_
     rintro _ _ ⟨rfl,R5⟩
     refine k_n ?_
     refine k_u [(0,_),(1,_),(2,_),(3,_),(8,_),(9,_),(10,_),(11,_),(87,_),(14,_),(15,_),(16,_),(17,_),(18,_),(113,_)] ?_
     refine AWP.region ?_
     refine k_m rfl (k_s rfl ?_)
     refine arun_nil ?_
     refine ain_n ?_
     refine athen_n ?_
     refine ⟨(a1,md,l2,decide (e1-md ≥ (e1-a1) / 8),ap,pdq ltN d4 (md+1) e1 l2 true true),?_,?_,?_,?_⟩
     all_goals (try dsimp only)
     ·exact ⟨sb_,sb_,sb_,sb_,wbv_ (by omega),sb_,trivial⟩
     ·exact Mem.Less.refl _
     ·exact ⟨by omega,by omega,R5,by omega,by omega,hq⟩
     ·omega
   ·refine k_T rfl ?_
    obtain ⟨⟨md,d4⟩,hp4⟩ : ∃ q,q=partitionEqual ltN d3 a1 e1 pv:=⟨_,rfl⟩
    rw [if_pos rfl,← hp4] at hq
    dsimp only at hq
    refine k_a (k_m rfl (k_m rfl (k_m rfl (k_m rfl ?_))))
    refine ARun.call (lit_lt rfl) go_81 rfl ((hp4 ▸ soB_parteq b room n cap hb hn d3 R3 _ _ _ a1 e1 pv rfl rfl rfl (by omega) (by omega) (by omega))) ?_
    rintro _ _ ⟨rfl,rfl,R4,g3,g4⟩
    dsimp only at R4 g3 g4
    rw [if_pos ⟨g3,g4⟩] at hq
    refine k_e rfl ?_
    refine k_u [(0,_),(1,_),(2,_),(3,_),(8,_),(9,_),(10,_),(11,_),(87,_),(13,_)] ?_
    refine k_a (k_m rfl (k_e rfl ?_))
    refine k_u [(0,_),(1,_),(2,_),(3,_),(8,_),(9,_),(10,_),(11,_),(87,_),(13,_)] ?_
    refine AWP.exit ?_
    refine athen_exit ?_
    refine ain_same ?_
    refine athen_n ?_
    refine ⟨(md,e1,l2,w1,w2,d4),?_,?_,?_,?_⟩
    all_goals (try dsimp only)
    ·exact ⟨sb_,sb_,sb_,sb_,sb_,sb_,trivial⟩
    ·exact Mem.Less.refl _
    ·exact ⟨by omega,by omega,R4,by omega,by omega,hq⟩
    ·omega
set_option maxHeartbeats 1000000 in
theorem soB_sort {S : Mem} (b room n cap : Nat) (hb : Fresh S b) (hn : n ≤ 1048576) (d : Array Nat) (R : Rw (fun _ => True) n d) :
  ACall Tryz.prog 31 #[.slice (some ⟨b,0,none⟩) n cap] (S.set b ⟨5,(d).toList.map encB,room⟩) fun r S'=>S'=S.set b ⟨5,(pdq ltN d 0 n (bitsLen n) true true).toList.map encB,room⟩∧Rw (fun _=>True) n (pdq ltN d 0 n (bitsLen n) true true):=by
 have hbl:=bitsLen_small n hn
 refine ACall.enter (rs:=[]) 11 [(0,.slice (some ⟨b,0,none⟩) n cap)] Tryz.func31 rfl rfl (Nat.le_of_ble_eq_true rfl) rfl ⟨rfl,trivial⟩ ?_
 refine k_a (k_m rfl ?_)
 refine rC (Calm.lenSl Tryz.underlying41 rfl) ?_
 refine k_e rfl ?_
 refine k_u [(0,_),(2,_)] ?_
 refine AWP.region ?_
 refine k_m rfl (k_m rfl (k_m rfl ?_))
 refine rC (Calm.conv rfl (by first | exact conv_intW Tryz.underlying3 Tryz.underlying92 (IntWalk.u64_in _ (by omega)) | exact conv_int Tryz.underlying3 Tryz.underlying92)) ?_
 refine ARun.call (lit_lt rfl) go_45 rfl (so_Len n (by omega) _) ?_
 rintro _ _ ⟨rfl,rfl⟩
 refine ARun.call (lit_lt rfl) go_54 rfl (soB_pdq b room n cap hb hn (n-0) d R _ _ _ 0 n (bitsLen n) rfl rfl rfl (Nat.zero_le _) (Nat.le_refl _) (by omega) rfl) ?_
 rintro _ _ ⟨rfl,R1⟩
 refine arun_nil ?_
 refine ⟨_,_,rfl,Mem.Less.refl _,?_⟩
 exact ⟨rfl,R1⟩
theorem soB_ins0 (S : Mem) : ACall Tryz.prog 75 #[.slice none 0 0, .int .i64 0, .int .i64 0] S fun r S' => S' = S := by
 refine ACall.enter (rs:=[]) 49 [(0,.slice none 0 0),(1,.int .i64 0),(2,.int .i64 0)] Tryz.func75 rfl rfl (Nat.le_of_ble_eq_true rfl) rfl ⟨rfl,rfl,rfl,trivial⟩ ?_
 refine k_a (k_m rfl ?_)
 refine rC (Calm.bin rfl rfl b_add_i64) ?_
 refine k_e rfl ?_
 refine k_u [(0,_),(1,_),(2,_),(6,_)] ?_
 refine AWP.block ?_
 refine AWP.loop (X:=Unit) (fun _=>[(0,.slice none 0 0),(2,.int .i64 0),(6,.int .i64 1)]) (fun _=>S) (fun _=>True) (fun _=>0) (()) ⟨sb_,sb_,sb_,trivial⟩ (Mem.Less.refl _) (trivial) ?_
 rintro _ _
 (try dsimp only at *)
 refine AWP.seq (k_a (k_m rfl (k_m rfl ?_)))
 refine rC (Calm.bin rfl rfl b_lss) ?_
 refine k_n ?_
 refine k_u [(0,_),(2,_),(6,_),(12,_)] ?_
 refine k_F rfl ?_
 refine AWP.exit ?_
 refine athen_exit ?_
 refine athen_exit ?_
 refine ain_same ?_
 refine ⟨_,S,rfl,Mem.Less.refl _,?_⟩
 exact rfl
theorem soB_pdq0 (S : Mem) : ACall Tryz.prog 54 #[.slice none 0 0, .int .i64 0, .int .i64 0, .int .i64 0] S fun r S' => S' = S := by
 refine ACall.enter (rs:=[]) 134 [(0,.slice none 0 0),(1,.int .i64 0),(2,.int .i64 0),(3,.int .i64 0)] Tryz.func54 rfl rfl (Nat.le_of_ble_eq_true rfl) rfl ⟨rfl,rfl,rfl,rfl,trivial⟩ ?_
 refine k_a (k_e rfl (k_a (k_e rfl ?_)))
 refine AWP.block ?_
 refine AWP.loop (X:=Unit) (fun _=>[(0,.slice none 0 0),(1,.int .i64 0),(2,.int .i64 0)]) (fun _=>S) (fun _=>True) (fun _=>0) (()) ⟨rfl,rfl,rfl,trivial⟩ (Mem.Less.refl _) (trivial) ?_
 rintro _ _
 (try dsimp only at *)
 refine AWP.block ?_
 refine k_a (k_m rfl (k_m rfl ?_))
 refine rC (Calm.bin rfl rfl b_sub_i64) ?_
 refine k_e rfl ?_
 refine k_u [(0,_),(1,_),(2,_),(10,_)] ?_
 refine AWP.seq (k_a (k_m rfl ?_))
 refine rC (Calm.bin rfl rfl b_leq) ?_
 refine k_n ?_
 refine k_u [(0,_),(1,_),(2,_),(10,_),(23,_)] ?_
 refine k_T rfl ?_
 refine k_a (k_m rfl (k_m rfl (k_m rfl ?_)))
 refine ARun.call (lit_lt rfl) go_75 rfl (soB_ins0 S) ?_
 rintro _ S1 h1
 rw [h1];clear h1 S1
 refine k_n ?_
 refine k_u [(0,_),(1,_),(2,_),(10,_),(23,_)] ?_
 refine k_r ?_
 refine ain_ret ?_
 refine athen_ret ?_
 refine ain_ret ?_
 refine ⟨_,S,rfl,Mem.Less.refl _,?_⟩
 exact rfl
theorem soB_sort0 (S : Mem) : ACall Tryz.prog 31 #[.slice none 0 0] S fun r S' => S' = S := by
 refine ACall.enter (rs:=[]) 11 [(0,.slice none 0 0)] Tryz.func31 rfl rfl (Nat.le_of_ble_eq_true rfl) rfl ⟨rfl,trivial⟩ ?_
 refine k_a (k_m rfl ?_)
 refine rC (Calm.lenSl Tryz.underlying41 rfl) ?_
 refine k_e rfl ?_
 refine k_u [(0,_),(2,_)] ?_
 refine AWP.region ?_
 refine k_m rfl (k_m rfl (k_m rfl ?_))
 refine rC (Calm.conv rfl (by first | exact conv_intW Tryz.underlying3 Tryz.underlying92 (IntWalk.u64_in _ (by omega)) | exact conv_int Tryz.underlying3 Tryz.underlying92)) ?_
 refine ARun.call (lit_lt rfl) go_45 rfl (so_Len 0 (by omega) _) ?_
 rintro _ S1 ⟨rfl,h1⟩
 rw [h1];clear h1 S1
 refine ARun.call (lit_lt rfl) go_54 rfl (soB_pdq0 S) ?_
 rintro _ S1 h1
 rw [h1];clear h1 S1
 refine arun_nil ?_
 refine ⟨_,S,rfl,Mem.Less.refl _,?_⟩
 exact rfl
end Go.Proofs.YtgidjbpgkeemiaaGreat
