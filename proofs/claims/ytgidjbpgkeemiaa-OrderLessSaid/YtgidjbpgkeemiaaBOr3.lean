/-
  Texts that belong together: SortCI, SortY, Sort2CI, Sort3CI, Od1.
-/
import Derived.Test.YtgidjbpgkeemiaaBOr2
set_option linter.unusedVariables false
set_option linter.unusedSimpArgs false
set_option linter.unusedSectionVars false
namespace Go.Proofs.Ytgidjbpgkeemiaa
open Go.RowKit
open Mv Srt
open Go.Sort (swp insInner insOuter insertionSort siftDown heapBuild heapPop heapSort scanUp scanDown partLoop partition partEqLoop partitionEqual scanSorted shiftDown shiftUp partialIns partialInsertionSort order2 median medianAdjacent choosePivot reverseLoop reverseRange breakStep breakPatterns pdq bitsLen xorNext Hint)
set_option maxRecDepth 4000
set_option maxHeartbeats 4000000 in
theorem soC_ins {α : Type} [Inhabited α] {enc : α → Value} {cf : α → α → Int} {okP : α → Prop} {g : Nat} {cb : List Value} {S : Mem} (C : CmpC Try.prog enc cf okP g cb S) (b room n cap : Nat) (hb : Fresh S b) (hn : n ≤ 1048576) (d : Array α) (R : Rw okP n d) (ia ie : Int) (a e : Nat) (ha : ia = a) (he : ie = e) (han : a ≤ n) (hen : e ≤ n) :
  ACall Try.prog 167 #[.slice (some ⟨b,0,none⟩) n cap,.int .i64 ia,.int .i64 ie,.func (.func g) #[] cb.toArray] (S.set b ⟨3,(d).toList.map enc,room⟩) fun r S'=>S'=S.set b ⟨3,(insertionSort (lq cf) d a e).toList.map enc,room⟩∧Rw okP n (insertionSort (lq cf) d a e):=by
 subst ha he
 refine ACall.enter (rs:=[]) 53 [(0,.slice (some ⟨b,0,none⟩) n cap),(1,.int .i64 a),(2,.int .i64 e),(3,.func (.func g) #[] cb.toArray)] Try.func167 rfl rfl (Nat.le_of_ble_eq_true rfl) rfl ⟨rfl,rfl,rfl,rfl,trivial⟩ ?_
 refine k_a (k_m rfl ?_)
 refine rC (Calm.bin rfl rfl b_add_i64) ?_
 refine k_e rfl ?_
 refine k_u [(0,_),(1,_),(2,_),(3,_),(8,_)] ?_
 refine AWP.block ?_
 refine AWP.loop (X:=Nat × Array α) (fun x=>[(0,.slice (some ⟨b,0,none⟩) n cap),(1,.int .i64 a),(2,.int .i64 e),(3,.func (.func g) #[] cb.toArray),(8,.int .i64 x.1)]) (fun x=>S.set b ⟨3,(x.2).toList.map enc,room⟩) (fun x=>a<x.1∧(x.1≤n∨e≤x.1)∧Rw okP n x.2∧insOuter (lq cf) a e x.1 x.2=insertionSort (lq cf) d a e) (fun x=>e-x.1) ((a+1,d)) ⟨sb_,sb_,sb_,sb_,sb_,trivial⟩ (Mem.Less.refl _) (⟨by omega,by omega,R,rfl⟩) ?_
 rintro ⟨i,d1⟩ ⟨h1,h2,R1,h3⟩
 (try dsimp only at *)
 have z1:=R1.size
 by_cases hi:i<e
 ·refine AWP.seq (k_a (k_m rfl (k_m rfl ?_)))
  refine rC (Calm.bin rfl rfl b_lss) ?_
  refine k_n ?_
  refine k_u [(0,_),(1,_),(2,_),(3,_),(8,_),(14,_)] ?_
  refine k_T rfl ?_
  refine k_k (AWP.seq ?_)
  refine AWP.block ?_
  refine k_a (k_m rfl (k_e rfl ?_))
  refine k_u [(0,_),(1,_),(2,_),(3,_),(8,_),(14,_),(9,_)] ?_
  refine AWP.block ?_
  refine AWP.loop (X:=Nat × Array α) (fun x=>[(0,.slice (some ⟨b,0,none⟩) n cap),(1,.int .i64 a),(2,.int .i64 e),(3,.func (.func g) #[] cb.toArray),(8,.int .i64 i),(9,.int .i64 x.1)]) (fun x=>S.set b ⟨3,(x.2).toList.map enc,room⟩) (fun x=>x.1≤i∧Rw okP n x.2∧insInner (lq cf) a x.1 x.2=insInner (lq cf) a i d1) (fun x=>x.1) ((i,d1)) ⟨rfl,rfl,rfl,rfl,rfl,rfl,trivial⟩ (Mem.Less.refl _) (⟨Nat.le_refl _,R1,rfl⟩) ?_
  rintro ⟨j,d2⟩ ⟨k1,R2,k3⟩
  (try dsimp only at *)
  have z2:=R2.size
  have q0:=outer_go (lq cf) (a:=a) (d:=d1) hi
  by_cases ha:a<j
  ·obtain ⟨j,rfl⟩ : ∃ q,j=q+1:=⟨j-1,by omega⟩
   refine AWP.seq (AWP.seq ?_)
   refine AWP.draw [(0,true),(1,true),(2,true),(3,true),(4,true),(5,true),(6,true),(7,true),(8,true),(9,true),(10,true),(11,true),(12,true),(13,true),(14,false),(15,true),(16,true)] [] mixed (by kernel_rfl) ?_
   refine dP (hc:=fun _=>Calm.move rfl) (h:=?_)
   refine dP (hc:=fun _=>Calm.move rfl) (h:=?_)
   refine dP (hc:=fun _=>Calm.bin rfl rfl b_gtr) (h:=?_)
   refine dP (hc:=fun _=>Calm.move rfl) (h:=?_)
   first|refine k_d ?_|refine dG (hc:=fun _=>Calm.move rfl) (h:=?_)
   first|refine k_d ?_|refine dG (hc:=fun _=>Calm.move rfl) (h:=?_)
   first|refine k_d ?_|refine dG (hc:=fun _=>Calm.move rfl) (h:=?_)
   first|refine k_d ?_|refine dG (hc:=fun _=>Calm.indexS Try.underlying24 ty_size_3 rfl rfl (by omega) (by omega)) (h:=?_)
   first|refine k_d ?_|refine dL (hc:=Calm.load ty_plain_3 rfl (rd_row (k:=j+1) own_ rw_ rw_)) (h:=?_)
   first|refine k_d ?_|refine dG (hc:=fun _=>Calm.move rfl) (h:=?_)
   first|refine k_d ?_|refine dG (hc:=fun _=>Calm.move rfl) (h:=?_)
   first|refine k_d ?_|refine dG (hc:=fun _=>Calm.bin rfl rfl b_sub_i64) (h:=?_)
   first|refine k_d ?_|refine dG (hc:=fun _=>Calm.indexS Try.underlying24 ty_size_3 rfl rfl (by omega) (by omega)) (h:=?_)
   first|refine k_d ?_|refine dL (hc:=Calm.load ty_plain_3 rfl (rd_row (k:=j) own_ rw_ rw_)) (h:=?_)
   refine draw_only rfl ?_
   refine rUn 21 ?_
   refine ARun.callV (first:=[]) (cap:=cb) (lit_lt rfl) C.go rfl rfl (C.call less_ (R2.ok (j+1) rw_) (R2.ok (j) rw_)) ?_
   rintro _ _ ⟨rfl,rfl⟩
   refine arun_nil ⟨fun _=>less_,?_⟩
   first|refine k_d ?_|refine dG (hc:=fun _=>Calm.bin rfl rfl b_lss) (h:=?_)
   refine dP (hc:=fun _=>(by first | exact Calm.pickT rfl rfl | exact Calm.pickF rfl rfl)) (h:=?_)
   refine draw_nil ?_
   refine athen_n ?_
   refine k_u [(0,_),(1,_),(2,_),(3,_),(8,_),(9,_),(34,_)] ?_
   refine AWP.condB rfl (fun hl=>?_) (fun hl=>?_)
   ·refine k_k (AWP.seq ?_)
    refine AWP.block ?_
    refine AWP.draw [(0,true),(1,true),(2,true),(3,true),(4,true),(5,true),(6,true),(7,true),(8,true),(9,true),(10,true),(11,true),(12,true),(13,true),(14,true),(15,false),(16,true),(17,false)] [15,17] mixed (by kernel_rfl) ?_
    refine dP (hc:=fun _=>Calm.move rfl) (h:=?_)
    refine dP (hc:=fun _=>Calm.move rfl) (h:=?_)
    refine dP (hc:=fun _=>Calm.move rfl) (h:=?_)
    refine dP (hc:=fun _=>Calm.move rfl) (h:=?_)
    refine dP (hc:=fun _=>Calm.bin rfl rfl b_sub_i64) (h:=?_)
    refine dP (hc:=fun _=>Calm.move rfl) (h:=?_)
    refine dP (hc:=fun _=>Calm.move rfl) (h:=?_)
    refine dP (hc:=fun _=>Calm.bin rfl rfl b_sub_i64) (h:=?_)
    refine dP (hc:=fun _=>Calm.indexS Try.underlying24 ty_size_3 rfl rfl (by omega) (by omega)) (h:=?_)
    refine dC (hc:=Calm.load ty_plain_3 rfl (rd_row (k:=j) own_ rw_ rw_)) (h:=?_)
    refine dP (hc:=fun _=>Calm.move rfl) (h:=?_)
    refine dP (hc:=fun _=>Calm.move rfl) (h:=?_)
    refine dP (hc:=fun _=>Calm.indexS Try.underlying24 ty_size_3 rfl rfl (by omega) (by omega)) (h:=?_)
    refine dC (hc:=Calm.load ty_plain_3 rfl (rd_row (k:=j+1) own_ rw_ rw_)) (h:=?_)
    refine dP (hc:=fun _=>Calm.indexS Try.underlying24 ty_size_3 rfl rfl (by omega) (by omega)) (h:=?_)
    refine draw_only rfl ?_
    refine ARun.storeRow enc (j+1) rfl rfl ty_size_3 (C.one _) own_ rw_ rw_ ?_
    try simp only [k_ms,k_sz,k_ss,k_za,Nat.reduceAdd]
    refine arun_nil ⟨fun h=>absurd h (by decide),?_⟩
    refine dP (hc:=fun _=>Calm.indexS Try.underlying24 ty_size_3 rfl rfl (by omega) (by omega)) (h:=?_)
    refine draw_only rfl ?_
    refine ARun.storeRow enc (j) rfl rfl ty_size_3 (C.one _) own_ rw_ rw_ ?_
    try simp only [k_ms,k_sz,k_ss,k_za,Nat.reduceAdd]
    refine arun_nil ⟨fun h=>absurd h (by decide),?_⟩
    refine draw_nil ?_
    refine ain_n ?_
    refine athen_n ?_
    refine k_u [(0,_),(1,_),(2,_),(3,_),(8,_),(9,_),(34,_)] ?_
    refine AWP.region ?_
    refine k_m rfl ?_
    refine rC (Calm.bin rfl rfl b_sub_i64) ?_
    refine k_e rfl ?_
    refine ⟨(j,swp d2 (j+1) j),?_,?_,?_,?_⟩
    all_goals (try dsimp only)
    ·exact ⟨sb_,sb_,sb_,sb_,sb_,sb_,trivial⟩
    ·exact Mem.Less.refl _
    ·exact ⟨by omega,R2.swp _ _ (by omega) (by omega),(ins_go (lq cf) ha hl).trans k3⟩
    ·omega
   ·refine AWP.exit ?_
    refine athen_exit ?_
    refine athen_exit ?_
    refine ain_same ?_
    refine ain_n ?_
    refine athen_n ?_
    refine AWP.region ?_
    refine k_m rfl ?_
    refine rC (Calm.bin rfl rfl b_add_i64) ?_
    refine k_e rfl ?_
    refine ⟨(i+1,d2),?_,?_,?_,?_⟩
    all_goals (try dsimp only)
    ·exact ⟨sb_,sb_,sb_,sb_,sb_,trivial⟩
    ·exact Mem.Less.refl _
    ·exact ⟨by omega,by omega,R2,by rw [← k3,← ins_no (lq cf) hl] at q0;exact q0.trans h3⟩
    ·omega
  ·refine AWP.seq (AWP.seq ?_)
   refine AWP.draw [(0,true),(1,true),(2,true),(3,true),(4,true),(5,true),(6,true),(7,true),(8,true),(9,true),(10,true),(11,true),(12,true),(13,true),(14,false),(15,true),(16,true)] [] mixed (by kernel_rfl) ?_
   refine dP (hc:=fun _=>Calm.move rfl) (h:=?_)
   refine dP (hc:=fun _=>Calm.move rfl) (h:=?_)
   refine dP (hc:=fun _=>Calm.bin rfl rfl b_gtr) (h:=?_)
   refine dP (hc:=fun _=>Calm.move rfl) (h:=?_)
   first|refine k_d ?_|refine dG (hc:=fun _=>Calm.move rfl) (h:=?_)
   first|refine k_d ?_|refine dG (hc:=fun _=>Calm.move rfl) (h:=?_)
   first|refine k_d ?_|refine dG (hc:=fun _=>Calm.move rfl) (h:=?_)
   first|refine k_d ?_|refine dG (hc:=fun _=>Calm.indexS Try.underlying24 ty_size_3 rfl rfl (by omega) (by omega)) (h:=?_)
   first|refine k_d ?_|refine dL (hc:=Calm.load ty_plain_3 rfl (rd_row (k:=j+1) own_ rw_ rw_)) (h:=?_)
   first|refine k_d ?_|refine dG (hc:=fun _=>Calm.move rfl) (h:=?_)
   first|refine k_d ?_|refine dG (hc:=fun _=>Calm.move rfl) (h:=?_)
   first|refine k_d ?_|refine dG (hc:=fun _=>Calm.bin rfl rfl b_sub_i64) (h:=?_)
   first|refine k_d ?_|refine dG (hc:=fun _=>Calm.indexS Try.underlying24 ty_size_3 rfl rfl (by omega) (by omega)) (h:=?_)
   first|refine k_d ?_|refine dL (hc:=Calm.load ty_plain_3 rfl (rd_row (k:=j) own_ rw_ rw_)) (h:=?_)
   refine draw_only rfl ?_
   first | refine rS 21 ?_ | refine rU 21 ?_
   refine arun_nil ⟨fun _=>less_,?_⟩
   first|refine k_d ?_|refine dG (hc:=fun _=>Calm.bin rfl rfl b_lss) (h:=?_)
   refine dP (hc:=fun _=>(by first | exact Calm.pickT rfl rfl | exact Calm.pickF rfl rfl)) (h:=?_)
   refine draw_nil ?_
   refine athen_n ?_
   refine k_u [(0,_),(1,_),(2,_),(3,_),(8,_),(9,_),(34,_)] ?_
   refine k_F rfl ?_
   refine AWP.exit ?_
   refine athen_exit ?_
   refine athen_exit ?_
   refine ain_same ?_
   refine ain_n ?_
   refine athen_n ?_
   refine AWP.region ?_
   refine k_m rfl ?_
   refine rC (Calm.bin rfl rfl b_add_i64) ?_
   refine k_e rfl ?_
   refine ⟨(i+1,d2),?_,?_,?_,?_⟩
   all_goals (try dsimp only)
   ·exact ⟨sb_,sb_,sb_,sb_,sb_,trivial⟩
   ·exact Mem.Less.refl _
   ·exact ⟨by omega,by omega,R2,by rw [← k3,← ins_end (lq cf) ha] at q0;exact q0.trans h3⟩
   ·omega
 ·refine AWP.seq (k_a (k_m rfl (k_m rfl ?_)))
  refine rC (Calm.bin rfl rfl b_lss) ?_
  refine k_n ?_
  refine k_u [(0,_),(1,_),(2,_),(3,_),(8,_),(14,_)] ?_
  refine k_F rfl ?_
  refine AWP.exit ?_
  refine athen_exit ?_
  refine athen_exit ?_
  refine ain_same ?_
  refine ⟨_,_,rfl,Mem.Less.refl _,?_⟩
  rw [← h3,← outer_end (lq cf) hi];exact ⟨rfl,R1⟩
set_option maxHeartbeats 4000000 in
theorem soC_sift {α : Type} [Inhabited α] {enc : α → Value} {cf : α → α → Int} {okP : α → Prop} {g : Nat} {cb : List Value} {S : Mem} (C : CmpC Try.prog enc cf okP g cb S) (b room n cap : Nat) (hb : Fresh S b) (hn : n ≤ 1048576) (d : Array α) (R : Rw okP n d) (il ih iF : Int) (lo hi first : Nat) (el : il = lo) (eh : ih = hi) (ef : iF = first) (hlo : lo ≤ n) (hfn : first + hi ≤ n) :
  ACall Try.prog 200 #[.slice (some ⟨b,0,none⟩) n cap,.int .i64 il,.int .i64 ih,.int .i64 iF,.func (.func g) #[] cb.toArray] (S.set b ⟨3,(d).toList.map enc,room⟩) fun r S'=>S'=S.set b ⟨3,(siftDown (lq cf) hi first lo d).toList.map enc,room⟩∧Rw okP n (siftDown (lq cf) hi first lo d):=by
 subst el eh ef
 refine ACall.enter (rs:=[]) 82 [(0,.slice (some ⟨b,0,none⟩) n cap),(1,.int .i64 lo),(2,.int .i64 hi),(3,.int .i64 first),(4,.func (.func g) #[] cb.toArray)] Try.func200 rfl rfl (Nat.le_of_ble_eq_true rfl) rfl ⟨rfl,rfl,rfl,rfl,rfl,trivial⟩ ?_
 refine k_a (k_m rfl (k_e rfl ?_))
 refine k_u [(0,_),(1,_),(2,_),(3,_),(4,_),(10,_)] ?_
 refine AWP.block ?_
 refine AWP.loop (X:=Nat × Array α) (fun x=>[(0,.slice (some ⟨b,0,none⟩) n cap),(2,.int .i64 hi),(3,.int .i64 first),(4,.func (.func g) #[] cb.toArray),(10,.int .i64 x.1)]) (fun x=>S.set b ⟨3,(x.2).toList.map enc,room⟩) (fun x=>x.1≤n∧Rw okP n x.2∧siftDown (lq cf) hi first x.1 x.2=siftDown (lq cf) hi first lo d) (fun x=>n+1-x.1) ((lo,d)) ⟨rfl,rfl,rfl,rfl,rfl,trivial⟩ (Mem.Less.refl _) (⟨hlo,R,rfl⟩) ?_
 rintro ⟨r,d1⟩ ⟨h1,R1,h3⟩
 (try dsimp only at *)
 have z1:=R1.size
 by_cases hc:hi≤2*r+1
 ·refine AWP.block ?_
  refine k_a (k_m rfl ?_)
  refine rC (Calm.bin rfl rfl b_mul_i64) ?_
  refine rC (Calm.bin rfl rfl b_add_i64) ?_
  refine k_e rfl ?_
  refine k_u [(0,_),(2,_),(3,_),(4,_),(10,_),(11,_)] ?_
  refine AWP.seq (k_a (k_m rfl (k_m rfl ?_)))
  refine rC (Calm.bin rfl rfl b_geq) ?_
  refine k_n ?_
  refine k_u [(0,_),(2,_),(3,_),(4,_),(10,_),(11,_),(18,_)] ?_
  refine k_T rfl ?_
  refine AWP.exit ?_
  refine athen_exit ?_
  refine ain_other rfl ?_
  refine athen_exit ?_
  refine ain_same ?_
  refine ⟨_,_,rfl,Mem.Less.refl _,?_⟩
  rw [← h3,← sift_leaf (lq cf) hc];exact ⟨rfl,R1⟩
 ·refine AWP.block ?_
  refine k_a (k_m rfl ?_)
  refine rC (Calm.bin rfl rfl b_mul_i64) ?_
  refine rC (Calm.bin rfl rfl b_add_i64) ?_
  refine k_e rfl ?_
  refine k_u [(0,_),(2,_),(3,_),(4,_),(10,_),(11,_)] ?_
  refine AWP.seq (k_a (k_m rfl (k_m rfl ?_)))
  refine rC (Calm.bin rfl rfl b_geq) ?_
  refine k_n ?_
  refine k_u [(0,_),(2,_),(3,_),(4,_),(10,_),(11,_),(18,_)] ?_
  refine k_F rfl ?_
  by_cases h2:2*r+2<hi
  ·refine k_k (AWP.seq (AWP.seq ?_))
   refine AWP.draw [(0,true),(1,true),(2,true),(3,true),(4,true),(5,true),(6,true),(7,true),(8,true),(9,true),(10,true),(11,true),(12,true),(13,true),(14,true),(15,true),(16,true),(17,true),(18,true),(19,false),(20,true),(21,true)] [] mixed (by kernel_rfl) ?_
   refine dP (hc:=fun _=>Calm.move rfl) (h:=?_)
   refine dP (hc:=fun _=>Calm.bin rfl rfl b_add_i64) (h:=?_)
   refine dP (hc:=fun _=>Calm.move rfl) (h:=?_)
   refine dP (hc:=fun _=>Calm.bin rfl rfl b_lss) (h:=?_)
   refine dP (hc:=fun _=>Calm.move rfl) (h:=?_)
   first|refine k_d ?_|refine dG (hc:=fun _=>Calm.move rfl) (h:=?_)
   first|refine k_d ?_|refine dG (hc:=fun _=>Calm.move rfl) (h:=?_)
   first|refine k_d ?_|refine dG (hc:=fun _=>Calm.move rfl) (h:=?_)
   first|refine k_d ?_|refine dG (hc:=fun _=>Calm.move rfl) (h:=?_)
   first|refine k_d ?_|refine dG (hc:=fun _=>Calm.bin rfl rfl b_add_i64) (h:=?_)
   first|refine k_d ?_|refine dG (hc:=fun _=>Calm.indexS Try.underlying24 ty_size_3 rfl rfl (by omega) (by omega)) (h:=?_)
   first|refine k_d ?_|refine dL (hc:=Calm.load ty_plain_3 rfl (rd_row (k:=first+(2*r+1)) own_ rw_ rw_)) (h:=?_)
   first|refine k_d ?_|refine dG (hc:=fun _=>Calm.move rfl) (h:=?_)
   first|refine k_d ?_|refine dG (hc:=fun _=>Calm.move rfl) (h:=?_)
   first|refine k_d ?_|refine dG (hc:=fun _=>Calm.move rfl) (h:=?_)
   first|refine k_d ?_|refine dG (hc:=fun _=>Calm.bin rfl rfl b_add_i64) (h:=?_)
   first|refine k_d ?_|refine dG (hc:=fun _=>Calm.bin rfl rfl b_add_i64) (h:=?_)
   first|refine k_d ?_|refine dG (hc:=fun _=>Calm.indexS Try.underlying24 ty_size_3 rfl rfl (by omega) (by omega)) (h:=?_)
   first|refine k_d ?_|refine dL (hc:=Calm.load ty_plain_3 rfl (rd_row (k:=first+(2*r+2)) own_ rw_ rw_)) (h:=?_)
   refine draw_only rfl ?_
   refine rUn 23 ?_
   refine ARun.callV (first:=[]) (cap:=cb) (lit_lt rfl) C.go rfl rfl (C.call less_ (R1.ok (first+(2*r+1)) rw_) (R1.ok (first+(2*r+2)) rw_)) ?_
   rintro _ _ ⟨rfl,rfl⟩
   refine arun_nil ⟨fun _=>less_,?_⟩
   first|refine k_d ?_|refine dG (hc:=fun _=>Calm.bin rfl rfl b_lss) (h:=?_)
   refine dP (hc:=fun _=>(by first | exact Calm.pickT rfl rfl | exact Calm.pickF rfl rfl)) (h:=?_)
   refine draw_nil ?_
   refine athen_n ?_
   refine k_u [(0,_),(2,_),(3,_),(4,_),(10,_),(11,_),(18,_),(40,_)] ?_
   refine AWP.condB rfl (fun hl=>?_) (fun hl=>?_)
   ·have ch:child (lq cf) hi first r d1=2*r+2:=if_pos ⟨h2,hl⟩
    refine AWP.region ?_
    refine k_m rfl ?_
    refine rC (Calm.bin rfl rfl b_add_i64) ?_
    refine k_e rfl ?_
    refine k_u [(0,_),(2,_),(3,_),(4,_),(10,_),(11,_),(18,_),(40,_)] ?_
    refine AWP.seq (AWP.seq ?_)
    refine AWP.draw [(0,true),(1,true),(2,true),(3,true),(4,true),(5,true),(6,true),(7,true),(8,true),(9,true),(10,true),(11,true),(12,true),(13,false),(14,true),(15,true)] [] mixed (by kernel_rfl) ?_
    refine dP (hc:=fun _=>Calm.move rfl) (h:=?_)
    refine dP (hc:=fun _=>Calm.move rfl) (h:=?_)
    refine dP (hc:=fun _=>Calm.move rfl) (h:=?_)
    refine dP (hc:=fun _=>Calm.move rfl) (h:=?_)
    refine dP (hc:=fun _=>Calm.bin rfl rfl b_add_i64) (h:=?_)
    refine dP (hc:=fun _=>Calm.indexS Try.underlying24 ty_size_3 rfl rfl (by omega) (by omega)) (h:=?_)
    refine dC (hc:=Calm.load ty_plain_3 rfl (rd_row (k:=first+r) own_ rw_ rw_)) (h:=?_)
    refine dP (hc:=fun _=>Calm.move rfl) (h:=?_)
    refine dP (hc:=fun _=>Calm.move rfl) (h:=?_)
    refine dP (hc:=fun _=>Calm.move rfl) (h:=?_)
    refine dP (hc:=fun _=>Calm.bin rfl rfl b_add_i64) (h:=?_)
    refine dP (hc:=fun _=>Calm.indexS Try.underlying24 ty_size_3 rfl rfl (by omega) (by omega)) (h:=?_)
    refine dC (hc:=Calm.load ty_plain_3 rfl (rd_row (k:=first+(2*r+2)) own_ rw_ rw_)) (h:=?_)
    refine draw_only rfl ?_
    refine ARun.callV (first:=[]) (cap:=cb) (lit_lt rfl) C.go rfl rfl (C.call less_ (R1.ok (first+r) rw_) (R1.ok (first+(2*r+2)) rw_)) ?_
    rintro _ _ ⟨rfl,rfl⟩
    refine arun_nil ⟨fun _=>less_,?_⟩
    refine dP (hc:=fun _=>Calm.bin rfl rfl b_lss) (h:=?_)
    refine dP (hc:=fun _=>Calm.un rfl (una_not _)) (h:=?_)
    refine draw_nil ?_
    refine athen_n ?_
    refine k_u [(0,_),(2,_),(3,_),(4,_),(10,_),(11,_),(18,_),(40,_),(58,_)] ?_
    refine AWP.condB rfl (fun hl2=>?_) (fun hl2=>?_)
    ·have hl2:=nt_ hl2
     refine k_r ?_
     refine ain_ret ?_
     refine athen_ret ?_
     refine ain_ret ?_
     refine ⟨_,_,rfl,Mem.Less.refl _,?_⟩
     rw [← h3,← sift_stop (lq cf) hc (by rw [ch];exact hl2)];exact ⟨rfl,R1⟩
    ·have hl2:=nf_ hl2
     refine k_k (AWP.seq ?_)
     refine AWP.draw [(0,true),(1,true),(2,true),(3,true),(4,true),(5,true),(6,true),(7,true),(8,true),(9,true),(10,true),(11,true),(12,true),(13,true),(14,true),(15,true),(16,true),(17,true),(18,true),(19,true),(20,true),(21,false),(22,true),(23,false)] [21,23] mixed (by kernel_rfl) ?_
     refine dP (hc:=fun _=>Calm.move rfl) (h:=?_)
     refine dP (hc:=fun _=>Calm.move rfl) (h:=?_)
     refine dP (hc:=fun _=>Calm.move rfl) (h:=?_)
     refine dP (hc:=fun _=>Calm.bin rfl rfl b_add_i64) (h:=?_)
     refine dP (hc:=fun _=>Calm.move rfl) (h:=?_)
     refine dP (hc:=fun _=>Calm.move rfl) (h:=?_)
     refine dP (hc:=fun _=>Calm.move rfl) (h:=?_)
     refine dP (hc:=fun _=>Calm.bin rfl rfl b_add_i64) (h:=?_)
     refine dP (hc:=fun _=>Calm.move rfl) (h:=?_)
     refine dP (hc:=fun _=>Calm.move rfl) (h:=?_)
     refine dP (hc:=fun _=>Calm.move rfl) (h:=?_)
     refine dP (hc:=fun _=>Calm.bin rfl rfl b_add_i64) (h:=?_)
     refine dP (hc:=fun _=>Calm.indexS Try.underlying24 ty_size_3 rfl rfl (by omega) (by omega)) (h:=?_)
     refine dC (hc:=Calm.load ty_plain_3 rfl (rd_row (k:=first+(2*r+2)) own_ rw_ rw_)) (h:=?_)
     refine dP (hc:=fun _=>Calm.move rfl) (h:=?_)
     refine dP (hc:=fun _=>Calm.move rfl) (h:=?_)
     refine dP (hc:=fun _=>Calm.move rfl) (h:=?_)
     refine dP (hc:=fun _=>Calm.bin rfl rfl b_add_i64) (h:=?_)
     refine dP (hc:=fun _=>Calm.indexS Try.underlying24 ty_size_3 rfl rfl (by omega) (by omega)) (h:=?_)
     refine dC (hc:=Calm.load ty_plain_3 rfl (rd_row (k:=first+r) own_ rw_ rw_)) (h:=?_)
     refine dP (hc:=fun _=>Calm.indexS Try.underlying24 ty_size_3 rfl rfl (by omega) (by omega)) (h:=?_)
     refine draw_only rfl ?_
     refine ARun.storeRow enc (first+r) rfl rfl ty_size_3 (C.one _) own_ rw_ rw_ ?_
     try simp only [k_ms,k_sz,k_ss,k_za,Nat.reduceAdd]
     refine arun_nil ⟨fun h=>absurd h (by decide),?_⟩
     refine dP (hc:=fun _=>Calm.indexS Try.underlying24 ty_size_3 rfl rfl (by omega) (by omega)) (h:=?_)
     refine draw_only rfl ?_
     refine ARun.storeRow enc (first+(2*r+2)) rfl rfl ty_size_3 (C.one _) own_ rw_ rw_ ?_
     try simp only [k_ms,k_sz,k_ss,k_za,Nat.reduceAdd]
     refine arun_nil ⟨fun h=>absurd h (by decide),?_⟩
     refine draw_nil ?_
     refine athen_n ?_
     refine k_u [(0,_),(2,_),(3,_),(4,_),(10,_),(11,_),(18,_),(40,_),(58,_)] ?_
     refine AWP.region ?_
     refine k_m rfl (k_s rfl ?_)
     refine arun_nil ?_
     refine ain_n ?_
     refine athen_n ?_
     refine ⟨(2*r+2,swp d1 (first+r) (first+(2*r+2))),?_,?_,?_,?_⟩
     all_goals (try dsimp only)
     ·exact ⟨sb_,sb_,sb_,sb_,sb_,trivial⟩
     ·exact Mem.Less.refl _
     ·exact ⟨by omega,R1.swp _ _ (by omega) (by omega),by have q0:=sift_go (lq cf) hc (by rw [ch];exact hl2);rw [ch] at q0;exact q0.trans h3⟩
     ·omega
   ·have ch:child (lq cf) hi first r d1=2*r+1:=if_neg (fun h=>Bool.noConfusion (hl.symm.trans h.2))
    refine k_k (AWP.seq (AWP.seq ?_))
    refine AWP.draw [(0,true),(1,true),(2,true),(3,true),(4,true),(5,true),(6,true),(7,true),(8,true),(9,true),(10,true),(11,true),(12,true),(13,false),(14,true),(15,true)] [] mixed (by kernel_rfl) ?_
    refine dP (hc:=fun _=>Calm.move rfl) (h:=?_)
    refine dP (hc:=fun _=>Calm.move rfl) (h:=?_)
    refine dP (hc:=fun _=>Calm.move rfl) (h:=?_)
    refine dP (hc:=fun _=>Calm.move rfl) (h:=?_)
    refine dP (hc:=fun _=>Calm.bin rfl rfl b_add_i64) (h:=?_)
    refine dP (hc:=fun _=>Calm.indexS Try.underlying24 ty_size_3 rfl rfl (by omega) (by omega)) (h:=?_)
    refine dC (hc:=Calm.load ty_plain_3 rfl (rd_row (k:=first+r) own_ rw_ rw_)) (h:=?_)
    refine dP (hc:=fun _=>Calm.move rfl) (h:=?_)
    refine dP (hc:=fun _=>Calm.move rfl) (h:=?_)
    refine dP (hc:=fun _=>Calm.move rfl) (h:=?_)
    refine dP (hc:=fun _=>Calm.bin rfl rfl b_add_i64) (h:=?_)
    refine dP (hc:=fun _=>Calm.indexS Try.underlying24 ty_size_3 rfl rfl (by omega) (by omega)) (h:=?_)
    refine dC (hc:=Calm.load ty_plain_3 rfl (rd_row (k:=first+(2*r+1)) own_ rw_ rw_)) (h:=?_)
    refine draw_only rfl ?_
    refine ARun.callV (first:=[]) (cap:=cb) (lit_lt rfl) C.go rfl rfl (C.call less_ (R1.ok (first+r) rw_) (R1.ok (first+(2*r+1)) rw_)) ?_
    rintro _ _ ⟨rfl,rfl⟩
    refine arun_nil ⟨fun _=>less_,?_⟩
    refine dP (hc:=fun _=>Calm.bin rfl rfl b_lss) (h:=?_)
    refine dP (hc:=fun _=>Calm.un rfl (una_not _)) (h:=?_)
    refine draw_nil ?_
    refine athen_n ?_
    refine k_u [(0,_),(2,_),(3,_),(4,_),(10,_),(11,_),(18,_),(40,_),(58,_)] ?_
    refine AWP.condB rfl (fun hl2=>?_) (fun hl2=>?_)
    ·have hl2:=nt_ hl2
     refine k_r ?_
     refine ain_ret ?_
     refine athen_ret ?_
     refine ain_ret ?_
     refine ⟨_,_,rfl,Mem.Less.refl _,?_⟩
     rw [← h3,← sift_stop (lq cf) hc (by rw [ch];exact hl2)];exact ⟨rfl,R1⟩
    ·have hl2:=nf_ hl2
     refine k_k (AWP.seq ?_)
     refine AWP.draw [(0,true),(1,true),(2,true),(3,true),(4,true),(5,true),(6,true),(7,true),(8,true),(9,true),(10,true),(11,true),(12,true),(13,true),(14,true),(15,true),(16,true),(17,true),(18,true),(19,true),(20,true),(21,false),(22,true),(23,false)] [21,23] mixed (by kernel_rfl) ?_
     refine dP (hc:=fun _=>Calm.move rfl) (h:=?_)
     refine dP (hc:=fun _=>Calm.move rfl) (h:=?_)
     refine dP (hc:=fun _=>Calm.move rfl) (h:=?_)
     refine dP (hc:=fun _=>Calm.bin rfl rfl b_add_i64) (h:=?_)
     refine dP (hc:=fun _=>Calm.move rfl) (h:=?_)
     refine dP (hc:=fun _=>Calm.move rfl) (h:=?_)
     refine dP (hc:=fun _=>Calm.move rfl) (h:=?_)
     refine dP (hc:=fun _=>Calm.bin rfl rfl b_add_i64) (h:=?_)
     refine dP (hc:=fun _=>Calm.move rfl) (h:=?_)
     refine dP (hc:=fun _=>Calm.move rfl) (h:=?_)
     refine dP (hc:=fun _=>Calm.move rfl) (h:=?_)
     refine dP (hc:=fun _=>Calm.bin rfl rfl b_add_i64) (h:=?_)
     refine dP (hc:=fun _=>Calm.indexS Try.underlying24 ty_size_3 rfl rfl (by omega) (by omega)) (h:=?_)
     refine dC (hc:=Calm.load ty_plain_3 rfl (rd_row (k:=first+(2*r+1)) own_ rw_ rw_)) (h:=?_)
     refine dP (hc:=fun _=>Calm.move rfl) (h:=?_)
     refine dP (hc:=fun _=>Calm.move rfl) (h:=?_)
     refine dP (hc:=fun _=>Calm.move rfl) (h:=?_)
     refine dP (hc:=fun _=>Calm.bin rfl rfl b_add_i64) (h:=?_)
     refine dP (hc:=fun _=>Calm.indexS Try.underlying24 ty_size_3 rfl rfl (by omega) (by omega)) (h:=?_)
     refine dC (hc:=Calm.load ty_plain_3 rfl (rd_row (k:=first+r) own_ rw_ rw_)) (h:=?_)
     refine dP (hc:=fun _=>Calm.indexS Try.underlying24 ty_size_3 rfl rfl (by omega) (by omega)) (h:=?_)
     refine draw_only rfl ?_
     refine ARun.storeRow enc (first+r) rfl rfl ty_size_3 (C.one _) own_ rw_ rw_ ?_
     try simp only [k_ms,k_sz,k_ss,k_za,Nat.reduceAdd]
     refine arun_nil ⟨fun h=>absurd h (by decide),?_⟩
     refine dP (hc:=fun _=>Calm.indexS Try.underlying24 ty_size_3 rfl rfl (by omega) (by omega)) (h:=?_)
     refine draw_only rfl ?_
     refine ARun.storeRow enc (first+(2*r+1)) rfl rfl ty_size_3 (C.one _) own_ rw_ rw_ ?_
     try simp only [k_ms,k_sz,k_ss,k_za,Nat.reduceAdd]
     refine arun_nil ⟨fun h=>absurd h (by decide),?_⟩
     refine draw_nil ?_
     refine athen_n ?_
     refine k_u [(0,_),(2,_),(3,_),(4,_),(10,_),(11,_),(18,_),(40,_),(58,_)] ?_
     refine AWP.region ?_
     refine k_m rfl (k_s rfl ?_)
     refine arun_nil ?_
     refine ain_n ?_
     refine athen_n ?_
     refine ⟨(2*r+1,swp d1 (first+r) (first+(2*r+1))),?_,?_,?_,?_⟩
     all_goals (try dsimp only)
     ·exact ⟨sb_,sb_,sb_,sb_,sb_,trivial⟩
     ·exact Mem.Less.refl _
     ·exact ⟨by omega,R1.swp _ _ (by omega) (by omega),by have q0:=sift_go (lq cf) hc (by rw [ch];exact hl2);rw [ch] at q0;exact q0.trans h3⟩
     ·omega
  ·refine k_k (AWP.seq (AWP.seq ?_))
   refine AWP.draw [(0,true),(1,true),(2,true),(3,true),(4,true),(5,true),(6,true),(7,true),(8,true),(9,true),(10,true),(11,true),(12,true),(13,true),(14,true),(15,true),(16,true),(17,true),(18,true),(19,false),(20,true),(21,true)] [] mixed (by kernel_rfl) ?_
   refine dP (hc:=fun _=>Calm.move rfl) (h:=?_)
   refine dP (hc:=fun _=>Calm.bin rfl rfl b_add_i64) (h:=?_)
   refine dP (hc:=fun _=>Calm.move rfl) (h:=?_)
   refine dP (hc:=fun _=>Calm.bin rfl rfl b_lss) (h:=?_)
   refine dP (hc:=fun _=>Calm.move rfl) (h:=?_)
   first|refine k_d ?_|refine dG (hc:=fun _=>Calm.move rfl) (h:=?_)
   first|refine k_d ?_|refine dG (hc:=fun _=>Calm.move rfl) (h:=?_)
   first|refine k_d ?_|refine dG (hc:=fun _=>Calm.move rfl) (h:=?_)
   first|refine k_d ?_|refine dG (hc:=fun _=>Calm.move rfl) (h:=?_)
   first|refine k_d ?_|refine dG (hc:=fun _=>Calm.bin rfl rfl b_add_i64) (h:=?_)
   first|refine k_d ?_|refine dG (hc:=fun _=>Calm.indexS Try.underlying24 ty_size_3 rfl rfl (by omega) (by omega)) (h:=?_)
   first|refine k_d ?_|refine dL (hc:=Calm.load ty_plain_3 rfl (rd_row (k:=first+(2*r+1)) own_ rw_ rw_)) (h:=?_)
   first|refine k_d ?_|refine dG (hc:=fun _=>Calm.move rfl) (h:=?_)
   first|refine k_d ?_|refine dG (hc:=fun _=>Calm.move rfl) (h:=?_)
   first|refine k_d ?_|refine dG (hc:=fun _=>Calm.move rfl) (h:=?_)
   first|refine k_d ?_|refine dG (hc:=fun _=>Calm.bin rfl rfl b_add_i64) (h:=?_)
   first|refine k_d ?_|refine dG (hc:=fun _=>Calm.bin rfl rfl b_add_i64) (h:=?_)
   first|refine k_d ?_|refine dG (hc:=fun _=>Calm.indexS Try.underlying24 ty_size_3 rfl rfl (by omega) (by omega)) (h:=?_)
   first|refine k_d ?_|refine dL (hc:=Calm.load ty_plain_3 rfl (rd_row (k:=first+(2*r+2)) own_ rw_ rw_)) (h:=?_)
   refine draw_only rfl ?_
   first | refine rS 23 ?_ | refine rU 23 ?_
   refine arun_nil ⟨fun _=>less_,?_⟩
   first|refine k_d ?_|refine dG (hc:=fun _=>Calm.bin rfl rfl b_lss) (h:=?_)
   refine dP (hc:=fun _=>(by first | exact Calm.pickT rfl rfl | exact Calm.pickF rfl rfl)) (h:=?_)
   refine draw_nil ?_
   refine athen_n ?_
   refine k_u [(0,_),(2,_),(3,_),(4,_),(10,_),(11,_),(18,_),(40,_)] ?_
   refine k_F rfl ?_
   have ch:child (lq cf) hi first r d1=2*r+1:=if_neg (fun h=>h2 h.1)
   refine k_k (AWP.seq (AWP.seq ?_))
   refine AWP.draw [(0,true),(1,true),(2,true),(3,true),(4,true),(5,true),(6,true),(7,true),(8,true),(9,true),(10,true),(11,true),(12,true),(13,false),(14,true),(15,true)] [] mixed (by kernel_rfl) ?_
   refine dP (hc:=fun _=>Calm.move rfl) (h:=?_)
   refine dP (hc:=fun _=>Calm.move rfl) (h:=?_)
   refine dP (hc:=fun _=>Calm.move rfl) (h:=?_)
   refine dP (hc:=fun _=>Calm.move rfl) (h:=?_)
   refine dP (hc:=fun _=>Calm.bin rfl rfl b_add_i64) (h:=?_)
   refine dP (hc:=fun _=>Calm.indexS Try.underlying24 ty_size_3 rfl rfl (by omega) (by omega)) (h:=?_)
   refine dC (hc:=Calm.load ty_plain_3 rfl (rd_row (k:=first+r) own_ rw_ rw_)) (h:=?_)
   refine dP (hc:=fun _=>Calm.move rfl) (h:=?_)
   refine dP (hc:=fun _=>Calm.move rfl) (h:=?_)
   refine dP (hc:=fun _=>Calm.move rfl) (h:=?_)
   refine dP (hc:=fun _=>Calm.bin rfl rfl b_add_i64) (h:=?_)
   refine dP (hc:=fun _=>Calm.indexS Try.underlying24 ty_size_3 rfl rfl (by omega) (by omega)) (h:=?_)
   refine dC (hc:=Calm.load ty_plain_3 rfl (rd_row (k:=first+(2*r+1)) own_ rw_ rw_)) (h:=?_)
   refine draw_only rfl ?_
   refine ARun.callV (first:=[]) (cap:=cb) (lit_lt rfl) C.go rfl rfl (C.call less_ (R1.ok (first+r) rw_) (R1.ok (first+(2*r+1)) rw_)) ?_
   rintro _ _ ⟨rfl,rfl⟩
   refine arun_nil ⟨fun _=>less_,?_⟩
   refine dP (hc:=fun _=>Calm.bin rfl rfl b_lss) (h:=?_)
   refine dP (hc:=fun _=>Calm.un rfl (una_not _)) (h:=?_)
   refine draw_nil ?_
   refine athen_n ?_
   refine k_u [(0,_),(2,_),(3,_),(4,_),(10,_),(11,_),(18,_),(40,_),(58,_)] ?_
   refine AWP.condB rfl (fun hl2=>?_) (fun hl2=>?_)
   ·have hl2:=nt_ hl2
    refine k_r ?_
    refine ain_ret ?_
    refine athen_ret ?_
    refine ain_ret ?_
    refine ⟨_,_,rfl,Mem.Less.refl _,?_⟩
    rw [← h3,← sift_stop (lq cf) hc (by rw [ch];exact hl2)];exact ⟨rfl,R1⟩
   ·have hl2:=nf_ hl2
    refine k_k (AWP.seq ?_)
    refine AWP.draw [(0,true),(1,true),(2,true),(3,true),(4,true),(5,true),(6,true),(7,true),(8,true),(9,true),(10,true),(11,true),(12,true),(13,true),(14,true),(15,true),(16,true),(17,true),(18,true),(19,true),(20,true),(21,false),(22,true),(23,false)] [21,23] mixed (by kernel_rfl) ?_
    refine dP (hc:=fun _=>Calm.move rfl) (h:=?_)
    refine dP (hc:=fun _=>Calm.move rfl) (h:=?_)
    refine dP (hc:=fun _=>Calm.move rfl) (h:=?_)
    refine dP (hc:=fun _=>Calm.bin rfl rfl b_add_i64) (h:=?_)
    refine dP (hc:=fun _=>Calm.move rfl) (h:=?_)
    refine dP (hc:=fun _=>Calm.move rfl) (h:=?_)
    refine dP (hc:=fun _=>Calm.move rfl) (h:=?_)
    refine dP (hc:=fun _=>Calm.bin rfl rfl b_add_i64) (h:=?_)
    refine dP (hc:=fun _=>Calm.move rfl) (h:=?_)
    refine dP (hc:=fun _=>Calm.move rfl) (h:=?_)
    refine dP (hc:=fun _=>Calm.move rfl) (h:=?_)
    refine dP (hc:=fun _=>Calm.bin rfl rfl b_add_i64) (h:=?_)
    refine dP (hc:=fun _=>Calm.indexS Try.underlying24 ty_size_3 rfl rfl (by omega) (by omega)) (h:=?_)
    refine dC (hc:=Calm.load ty_plain_3 rfl (rd_row (k:=first+(2*r+1)) own_ rw_ rw_)) (h:=?_)
    refine dP (hc:=fun _=>Calm.move rfl) (h:=?_)
    refine dP (hc:=fun _=>Calm.move rfl) (h:=?_)
    refine dP (hc:=fun _=>Calm.move rfl) (h:=?_)
    refine dP (hc:=fun _=>Calm.bin rfl rfl b_add_i64) (h:=?_)
    refine dP (hc:=fun _=>Calm.indexS Try.underlying24 ty_size_3 rfl rfl (by omega) (by omega)) (h:=?_)
    refine dC (hc:=Calm.load ty_plain_3 rfl (rd_row (k:=first+r) own_ rw_ rw_)) (h:=?_)
    refine dP (hc:=fun _=>Calm.indexS Try.underlying24 ty_size_3 rfl rfl (by omega) (by omega)) (h:=?_)
    refine draw_only rfl ?_
    refine ARun.storeRow enc (first+r) rfl rfl ty_size_3 (C.one _) own_ rw_ rw_ ?_
    try simp only [k_ms,k_sz,k_ss,k_za,Nat.reduceAdd]
    refine arun_nil ⟨fun h=>absurd h (by decide),?_⟩
    refine dP (hc:=fun _=>Calm.indexS Try.underlying24 ty_size_3 rfl rfl (by omega) (by omega)) (h:=?_)
    refine draw_only rfl ?_
    refine ARun.storeRow enc (first+(2*r+1)) rfl rfl ty_size_3 (C.one _) own_ rw_ rw_ ?_
    try simp only [k_ms,k_sz,k_ss,k_za,Nat.reduceAdd]
    refine arun_nil ⟨fun h=>absurd h (by decide),?_⟩
    refine draw_nil ?_
    refine athen_n ?_
    refine k_u [(0,_),(2,_),(3,_),(4,_),(10,_),(11,_),(18,_),(40,_),(58,_)] ?_
    refine AWP.region ?_
    refine k_m rfl (k_s rfl ?_)
    refine arun_nil ?_
    refine ain_n ?_
    refine athen_n ?_
    refine ⟨(2*r+1,swp d1 (first+r) (first+(2*r+1))),?_,?_,?_,?_⟩
    all_goals (try dsimp only)
    ·exact ⟨sb_,sb_,sb_,sb_,sb_,trivial⟩
    ·exact Mem.Less.refl _
    ·exact ⟨by omega,R1.swp _ _ (by omega) (by omega),by have q0:=sift_go (lq cf) hc (by rw [ch];exact hl2);rw [ch] at q0;exact q0.trans h3⟩
    ·omega
set_option maxHeartbeats 4000000 in
theorem soC_heap {α : Type} [Inhabited α] {enc : α → Value} {cf : α → α → Int} {okP : α → Prop} {g : Nat} {cb : List Value} {S : Mem} (C : CmpC Try.prog enc cf okP g cb S) (b room n cap : Nat) (hb : Fresh S b) (hn : n ≤ 1048576) (d : Array α) (R : Rw okP n d) (ia ie : Int) (a e : Nat) (ha : ia = a) (he : ie = e) (hae : a < e) (hen : e ≤ n) :
  ACall Try.prog 168 #[.slice (some ⟨b,0,none⟩) n cap,.int .i64 ia,.int .i64 ie,.func (.func g) #[] cb.toArray] (S.set b ⟨3,(d).toList.map enc,room⟩) fun r S'=>S'=S.set b ⟨3,(heapSort (lq cf) d a e).toList.map enc,room⟩∧Rw okP n (heapSort (lq cf) d a e):=by
 subst ha he
 obtain ⟨L,rfl⟩ : ∃ L,e=a+L:=⟨e-a,by omega⟩
 have hH:heapPop (lq cf) a L (heapBuild (lq cf) L a ((L-1) / 2+1) d)=heapSort (lq cf) d a (a+L):=by unfold heapSort;rw [Nat.add_sub_cancel_left]
 refine ACall.enter (rs:=[]) 60 [(0,.slice (some ⟨b,0,none⟩) n cap),(1,.int .i64 a),(2,.int .i64 ((a+L:Nat):Int)),(3,.func (.func g) #[] cb.toArray)] Try.func168 rfl rfl (Nat.le_of_ble_eq_true rfl) rfl ⟨rfl,rfl,rfl,rfl,trivial⟩ ?_
 refine k_a (k_m rfl (k_e rfl ?_))
 refine k_u [(0,_),(1,_),(2,_),(3,_),(8,_)] ?_
 refine k_a (k_e rfl (k_a (k_m rfl (k_m rfl ?_))))
 refine rC (Calm.bin rfl rfl b_sub_i64) ?_
 refine k_e rfl ?_
 refine k_u [(0,_),(1,_),(2,_),(3,_),(8,_),(9,_),(10,_)] ?_
 refine AWP.seq (k_a (k_m rfl ?_))
 refine rC (Calm.bin rfl rfl b_sub_i64) ?_
 refine rC (Calm.bin rfl rfl b_quo_i64) ?_
 refine k_e rfl ?_
 refine k_u [(0,_),(1,_),(2,_),(3,_),(8,_),(9,_),(10,_),(11,_)] ?_
 refine AWP.block ?_
 refine AWP.loop (X:=Nat × Array α) (fun x=>[(0,.slice (some ⟨b,0,none⟩) n cap),(3,.func (.func g) #[] cb.toArray),(8,.int .i64 a),(9,.int .i64 0),(10,.int .i64 L),(11,.int .i64 ((x.1:Int)-1))]) (fun x=>S.set b ⟨3,(x.2).toList.map enc,room⟩) (fun x=>x.1≤L∧Rw okP n x.2∧heapPop (lq cf) a L (heapBuild (lq cf) L a x.1 x.2)=heapSort (lq cf) d a (a+L)) (fun x=>x.1) (((L-1) / 2+1,d)) ⟨sb_,sb_,sb_,sb_,sb_,sb_,trivial⟩ (Mem.Less.refl _) (⟨by omega,R,hH⟩) ?_
 rintro ⟨k,d1⟩ ⟨h1,R1,h3⟩
 (try dsimp only at *)
 by_cases hk:0<k
 ·obtain ⟨k,rfl⟩ : ∃ q,k=q+1:=⟨k-1,by omega⟩
  refine AWP.seq (k_a (k_m rfl ?_))
  refine rC (Calm.bin rfl rfl b_geq) ?_
  refine k_n ?_
  refine k_u [(0,_),(3,_),(8,_),(9,_),(10,_),(11,_),(21,_)] ?_
  refine k_T rfl ?_
  refine k_k (AWP.seq ?_)
  refine AWP.block ?_
  refine AWP.region ?_
  refine k_m rfl (k_m rfl (k_m rfl (k_m rfl (k_m rfl ?_))))
  refine ARun.call (lit_lt rfl) go_200 rfl (soC_sift C b room n cap hb hn d1 R1 _ _ _ k L a rw_ rw_ rfl (by omega) (by omega)) ?_
  rintro _ _ ⟨rfl,R2⟩
  refine arun_nil ?_
  refine ain_n ?_
  refine athen_n ?_
  refine k_u [(0,_),(3,_),(8,_),(9,_),(10,_),(11,_),(21,_)] ?_
  refine AWP.region ?_
  refine k_m rfl ?_
  refine rC (Calm.bin rfl rfl b_sub_i64) ?_
  refine k_e rfl ?_
  refine ⟨(k,siftDown (lq cf) L a k d1),?_,?_,?_,?_⟩
  all_goals (try dsimp only)
  ·exact ⟨sb_,sb_,sb_,sb_,sb_,sb_,trivial⟩
  ·exact Mem.Less.refl _
  ·exact ⟨by omega,R2,h3⟩
  ·omega
 ·obtain rfl:k=0:=by omega
  refine AWP.seq (k_a (k_m rfl ?_))
  refine rC (Calm.bin rfl rfl b_geq) ?_
  refine k_n ?_
  refine k_u [(0,_),(3,_),(8,_),(9,_),(10,_),(11,_),(21,_)] ?_
  refine k_F rfl ?_
  refine AWP.exit ?_
  refine athen_exit ?_
  refine athen_exit ?_
  refine ain_same ?_
  refine athen_n ?_
  refine k_a (k_m rfl ?_)
  refine rC (Calm.bin rfl rfl b_sub_i64) ?_
  refine k_e rfl ?_
  refine k_u [(0,_),(3,_),(8,_),(9,_),(10,_),(11,_),(21,_),(12,_)] ?_
  refine AWP.block ?_
  refine AWP.loop (X:=Nat × Array α) (fun x=>[(0,.slice (some ⟨b,0,none⟩) n cap),(3,.func (.func g) #[] cb.toArray),(8,.int .i64 a),(9,.int .i64 0),(12,.int .i64 ((x.1:Int)-1))]) (fun x=>S.set b ⟨3,(x.2).toList.map enc,room⟩) (fun x=>x.1≤L∧Rw okP n x.2∧heapPop (lq cf) a x.1 x.2=heapSort (lq cf) d a (a+L)) (fun x=>x.1) ((L,d1)) ⟨sb_,sb_,sb_,sb_,sb_,trivial⟩ (Mem.Less.refl _) (⟨Nat.le_refl _,R1,h3⟩) ?_
  rintro ⟨k,d2⟩ ⟨k1,R2,k3⟩
  (try dsimp only at *)
  have z2:=R2.size
  by_cases hk:0<k
  ·obtain ⟨k,rfl⟩ : ∃ q,k=q+1:=⟨k-1,by omega⟩
   refine AWP.seq (k_a (k_m rfl ?_))
   refine rC (Calm.bin rfl rfl b_geq) ?_
   refine k_n ?_
   refine k_u [(0,_),(3,_),(8,_),(9,_),(12,_),(33,_)] ?_
   refine k_T rfl ?_
   refine k_k (AWP.seq ?_)
   refine AWP.block ?_
   refine AWP.seq ?_
   refine AWP.draw [(0,true),(1,true),(2,true),(3,true),(4,true),(5,true),(6,true),(7,true),(8,true),(9,true),(10,true),(11,true),(12,true),(13,true),(14,true),(15,true),(16,true),(17,false),(18,true),(19,false)] [17,19] mixed (by kernel_rfl) ?_
   refine dP (hc:=fun _=>Calm.move rfl) (h:=?_)
   refine dP (hc:=fun _=>Calm.move rfl) (h:=?_)
   refine dP (hc:=fun _=>Calm.move rfl) (h:=?_)
   refine dP (hc:=fun _=>Calm.move rfl) (h:=?_)
   refine dP (hc:=fun _=>Calm.move rfl) (h:=?_)
   refine dP (hc:=fun _=>Calm.bin rfl rfl b_add_i64) (h:=?_)
   refine dP (hc:=fun _=>Calm.move rfl) (h:=?_)
   refine dP (hc:=fun _=>Calm.move rfl) (h:=?_)
   refine dP (hc:=fun _=>Calm.move rfl) (h:=?_)
   refine dP (hc:=fun _=>Calm.bin rfl rfl b_add_i64) (h:=?_)
   refine dP (hc:=fun _=>Calm.indexS Try.underlying24 ty_size_3 rfl rfl (by omega) (by omega)) (h:=?_)
   refine dC (hc:=Calm.load ty_plain_3 rfl (rd_row (k:=a+k) own_ rw_ rw_)) (h:=?_)
   refine dP (hc:=fun _=>Calm.move rfl) (h:=?_)
   refine dP (hc:=fun _=>Calm.move rfl) (h:=?_)
   refine dP (hc:=fun _=>Calm.indexS Try.underlying24 ty_size_3 rfl rfl (by omega) (by omega)) (h:=?_)
   refine dC (hc:=Calm.load ty_plain_3 rfl (rd_row (k:=a) own_ rw_ rw_)) (h:=?_)
   refine dP (hc:=fun _=>Calm.indexS Try.underlying24 ty_size_3 rfl rfl (by omega) (by omega)) (h:=?_)
   refine draw_only rfl ?_
   refine ARun.storeRow enc (a) rfl rfl ty_size_3 (C.one _) own_ rw_ rw_ ?_
   try simp only [k_ms,k_sz,k_ss,k_za,Nat.reduceAdd]
   refine arun_nil ⟨fun h=>absurd h (by decide),?_⟩
   refine dP (hc:=fun _=>Calm.indexS Try.underlying24 ty_size_3 rfl rfl (by omega) (by omega)) (h:=?_)
   refine draw_only rfl ?_
   refine ARun.storeRow enc (a+k) rfl rfl ty_size_3 (C.one _) own_ rw_ rw_ ?_
   try simp only [k_ms,k_sz,k_ss,k_za,Nat.reduceAdd]
   refine arun_nil ⟨fun h=>absurd h (by decide),?_⟩
   refine draw_nil ?_
   refine athen_n ?_
   refine k_u [(0,_),(3,_),(8,_),(9,_),(12,_),(33,_)] ?_
   refine AWP.region ?_
   refine k_m rfl (k_m rfl (k_m rfl (k_m rfl (k_m rfl ?_))))
   refine ARun.call (lit_lt rfl) go_200 rfl (soC_sift C b room n cap hb hn (swp d2 a (a+k)) (R2.swp _ _ (by omega) (by omega)) _ _ _ 0 k a rfl rw_ rfl (by omega) (by omega)) ?_
   rintro _ _ ⟨rfl,R3⟩
   refine arun_nil ?_
   refine ain_n ?_
   refine athen_n ?_
   refine k_u [(0,_),(3,_),(8,_),(9,_),(12,_),(33,_)] ?_
   refine AWP.region ?_
   refine k_m rfl ?_
   refine rC (Calm.bin rfl rfl b_sub_i64) ?_
   refine k_e rfl ?_
   refine ⟨(k,siftDown (lq cf) k a 0 (swp d2 a (a+k))),?_,?_,?_,?_⟩
   all_goals (try dsimp only)
   ·exact ⟨sb_,sb_,sb_,sb_,sb_,trivial⟩
   ·exact Mem.Less.refl _
   ·exact ⟨by omega,R3,k3⟩
   ·omega
  ·obtain rfl:k=0:=by omega
   refine AWP.seq (k_a (k_m rfl ?_))
   refine rC (Calm.bin rfl rfl b_geq) ?_
   refine k_n ?_
   refine k_u [(0,_),(3,_),(8,_),(9,_),(12,_),(33,_)] ?_
   refine k_F rfl ?_
   refine AWP.exit ?_
   refine athen_exit ?_
   refine athen_exit ?_
   refine ain_same ?_
   refine ⟨_,_,rfl,Mem.Less.refl _,?_⟩
   rw [← k3];exact ⟨rfl,R2⟩
set_option maxHeartbeats 4000000 in
theorem soC_part {α : Type} [Inhabited α] {enc : α → Value} {cf : α → α → Int} {okP : α → Prop} {g : Nat} {cb : List Value} {S : Mem} (C : CmpC Try.prog enc cf okP g cb S) (b room n cap : Nat) (hb : Fresh S b) (hn : n ≤ 1048576) (d : Array α) (R : Rw okP n d) (ia ie ip : Int) (a e p : Nat) (ha : ia = a) (he : ie = e) (hpp : ip = p) (hap : a ≤ p) (hpe : p < e) (hen : e ≤ n) :
  ACall Try.prog 174 #[.slice (some ⟨b,0,none⟩) n cap,.int .i64 ia,.int .i64 ie,.int .i64 ip,.func (.func g) #[] cb.toArray] (S.set b ⟨3,(d).toList.map enc,room⟩) fun r S'=>PartR α (fun x:Array α=>S.set b ⟨3,(x).toList.map enc,room⟩) okP n (partition (lq cf) d a e p) a e r S':=by
 subst ha he hpp
 obtain ⟨J,rfl⟩ : ∃ J,e=J+1:=⟨e-1,by omega⟩
 have R0:=R.swp a p (by omega) (by omega)
 have z:=R.size
 obtain ⟨d0,hd0⟩ : ∃ d0,d0=swp d a p:=⟨_,rfl⟩
 rw [← hd0] at R0
 have z0:=R0.size
 refine ACall.enter (rs:=[.tmp 10,.tmp 11]) 178 [(0,.slice (some ⟨b,0,none⟩) n cap),(1,.int .i64 a),(2,.int .i64 ((J+1:Nat):Int)),(3,.int .i64 p),(4,.func (.func g) #[] cb.toArray)] Try.func174 rfl rfl (Nat.le_of_ble_eq_true rfl) rfl ⟨rfl,rfl,rfl,rfl,rfl,trivial⟩ ?_
 refine k_a (k_s rfl (k_e rfl (AWP.seq ?_)))
 refine AWP.draw [(0,true),(1,true),(2,true),(3,true),(4,true),(5,true),(6,true),(7,true),(8,true),(9,true),(10,true),(11,true),(12,true),(13,false),(14,true),(15,false)] [13,15] mixed (by kernel_rfl) ?_
 refine dP (hc:=fun _=>Calm.move rfl) (h:=?_)
 refine dP (hc:=fun _=>Calm.move rfl) (h:=?_)
 refine dP (hc:=fun _=>Calm.move rfl) (h:=?_)
 refine dP (hc:=fun _=>Calm.move rfl) (h:=?_)
 refine dP (hc:=fun _=>Calm.move rfl) (h:=?_)
 refine dP (hc:=fun _=>Calm.move rfl) (h:=?_)
 refine dP (hc:=fun _=>Calm.indexS Try.underlying24 ty_size_3 rfl rfl (by omega) (by omega)) (h:=?_)
 refine dC (hc:=Calm.load ty_plain_3 rfl (rd_row (k:=p) own_ rw_ rw_)) (h:=?_)
 refine dP (hc:=fun _=>Calm.move rfl) (h:=?_)
 refine dP (hc:=fun _=>Calm.move rfl) (h:=?_)
 refine dP (hc:=fun _=>Calm.indexS Try.underlying24 ty_size_3 rfl rfl (by omega) (by omega)) (h:=?_)
 refine dC (hc:=Calm.load ty_plain_3 rfl (rd_row (k:=a) own_ rw_ rw_)) (h:=?_)
 refine dP (hc:=fun _=>Calm.indexS Try.underlying24 ty_size_3 rfl rfl (by omega) (by omega)) (h:=?_)
 refine draw_only rfl ?_
 refine ARun.storeRow enc (a) rfl rfl ty_size_3 (C.one _) own_ rw_ rw_ ?_
 try simp only [k_ms,k_sz,k_ss,k_za,Nat.reduceAdd]
 refine arun_nil ⟨fun h=>absurd h (by decide),?_⟩
 refine dP (hc:=fun _=>Calm.indexS Try.underlying24 ty_size_3 rfl rfl (by omega) (by omega)) (h:=?_)
 refine draw_only rfl ?_
 refine ARun.storeRow enc (p) rfl rfl ty_size_3 (C.one _) own_ rw_ rw_ ?_
 try simp only [k_ms,k_sz,k_ss,k_za,Nat.reduceAdd]
 refine arun_nil ⟨fun h=>absurd h (by decide),?_⟩
 refine draw_nil ?_
 refine athen_n ?_
 refine k_u [(0,_),(1,_),(2,_),(3,_),(4,_),(10,_),(11,_)] ?_
 refine AWP.less (S.set b ⟨3,(d0).toList.map enc,room⟩) (by rw [hd0];exact Mem.Less.refl _) ?_
 refine k_a (k_m rfl ?_)
 refine rC (Calm.bin rfl rfl b_add_i64) ?_
 refine k_m rfl ?_
 refine rC (Calm.bin rfl rfl b_sub_i64) ?_
 refine k_s rfl (k_e rfl ?_)
 refine k_u [(0,_),(1,_),(2,_),(3,_),(4,_),(10,_),(11,_),(12,_),(13,_)] ?_
 refine AWP.seq ?_
 refine AWP.join (X:=Nat) (fun x=>[(0,.slice (some ⟨b,0,none⟩) n cap),(1,.int .i64 a),(4,.func (.func g) #[] cb.toArray),(12,.int .i64 x),(13,.int .i64 J)]) (fun _=>S.set b ⟨3,(d0).toList.map enc,room⟩) (fun x=>a+1≤x∧x≤J+1∧x=scanUp (fun x=>(lq cf) x d0[a]!) d0 (J) (a+1)) ?_ ?_
 ·refine AWP.block ?_
  refine AWP.loop (X:=Nat) (fun x=>[(0,.slice (some ⟨b,0,none⟩) n cap),(1,.int .i64 a),(4,.func (.func g) #[] cb.toArray),(12,.int .i64 x),(13,.int .i64 J)]) (fun _=>S.set b ⟨3,(d0).toList.map enc,room⟩) (fun x=>a+1≤x∧x≤J+1∧scanUp (fun x=>(lq cf) x d0[a]!) d0 (J) x=scanUp (fun x=>(lq cf) x d0[a]!) d0 (J) (a+1)) (fun x=>J+1-x) ((a+1)) ⟨sb_,sb_,sb_,sb_,sb_,trivial⟩ (Mem.Less.refl _) (⟨by omega,by omega,rfl⟩) ?_
  rintro i ⟨q1,q2,q3⟩
  (try dsimp only at *)
  by_cases hij:i≤J
  ·refine AWP.seq (AWP.seq ?_)
   refine AWP.draw [(0,true),(1,true),(2,true),(3,true),(4,true),(5,true),(6,true),(7,true),(8,true),(9,true),(10,true),(11,true),(12,true),(13,false),(14,true),(15,true)] [] mixed (by kernel_rfl) ?_
   refine dP (hc:=fun _=>Calm.move rfl) (h:=?_)
   refine dP (hc:=fun _=>Calm.move rfl) (h:=?_)
   refine dP (hc:=fun _=>Calm.bin rfl rfl b_leq) (h:=?_)
   refine dP (hc:=fun _=>Calm.move rfl) (h:=?_)
   first|refine k_d ?_|refine dG (hc:=fun _=>Calm.move rfl) (h:=?_)
   first|refine k_d ?_|refine dG (hc:=fun _=>Calm.move rfl) (h:=?_)
   first|refine k_d ?_|refine dG (hc:=fun _=>Calm.move rfl) (h:=?_)
   first|refine k_d ?_|refine dG (hc:=fun _=>Calm.indexS Try.underlying24 ty_size_3 rfl rfl (by omega) (by omega)) (h:=?_)
   first|refine k_d ?_|refine dL (hc:=Calm.load ty_plain_3 rfl (rd_row (k:=i) own_ rw_ rw_)) (h:=?_)
   first|refine k_d ?_|refine dG (hc:=fun _=>Calm.move rfl) (h:=?_)
   first|refine k_d ?_|refine dG (hc:=fun _=>Calm.move rfl) (h:=?_)
   first|refine k_d ?_|refine dG (hc:=fun _=>Calm.indexS Try.underlying24 ty_size_3 rfl rfl (by omega) (by omega)) (h:=?_)
   first|refine k_d ?_|refine dL (hc:=Calm.load ty_plain_3 rfl (rd_row (k:=a) own_ rw_ rw_)) (h:=?_)
   refine draw_only rfl ?_
   refine rUn 35 ?_
   refine ARun.callV (first:=[]) (cap:=cb) (lit_lt rfl) C.go rfl rfl (C.call less_ (R0.ok (i) rw_) (R0.ok (a) rw_)) ?_
   rintro _ _ ⟨rfl,rfl⟩
   refine arun_nil ⟨fun _=>less_,?_⟩
   first|refine k_d ?_|refine dG (hc:=fun _=>Calm.bin rfl rfl b_lss) (h:=?_)
   refine dP (hc:=fun _=>(by first | exact Calm.pickT rfl rfl | exact Calm.pickF rfl rfl)) (h:=?_)
   refine draw_nil ?_
   refine athen_n ?_
   refine k_u [(0,_),(1,_),(4,_),(12,_),(13,_),(47,_)] ?_
   refine AWP.condB rfl (fun hl=>?_) (fun hl=>?_)
   ·refine k_k ?_
    refine AWP.block ?_
    refine AWP.region ?_
    refine k_m rfl ?_
    refine rC (Calm.bin rfl rfl b_add_i64) ?_
    refine k_s rfl ?_
    refine arun_nil ?_
    refine ain_n ?_
    refine athen_n ?_
    refine ⟨i+1,?_,?_,?_,?_⟩
    all_goals (try dsimp only)
    ·exact ⟨sb_,sb_,sb_,sb_,sb_,trivial⟩
    ·exact Mem.Less.refl _
    ·exact ⟨by omega,by omega,(up_go (p:=(fun x=>(lq cf) x d0[a]!)) hij (by simp only [lq_,hl,Bool.not_true,Bool.not_false])).trans q3⟩
    ·omega
   ·refine AWP.exit ?_
    refine athen_exit ?_
    refine athen_exit ?_
    refine ain_same ?_
    refine ⟨i,?_,?_,?_⟩
    all_goals (try dsimp only)
    ·exact ⟨by omega,by omega,(up_no (p:=(fun x=>(lq cf) x d0[a]!)) (by simp only [lq_,hl,Bool.not_true,Bool.not_false])).trans q3⟩
    ·exact ⟨sb_,sb_,sb_,sb_,sb_,trivial⟩
    ·exact Mem.Less.refl _
  ·refine AWP.seq (AWP.seq ?_)
   refine AWP.draw [(0,true),(1,true),(2,true),(3,true),(4,true),(5,true),(6,true),(7,true),(8,true),(9,true),(10,true),(11,true),(12,true),(13,false),(14,true),(15,true)] [] mixed (by kernel_rfl) ?_
   refine dP (hc:=fun _=>Calm.move rfl) (h:=?_)
   refine dP (hc:=fun _=>Calm.move rfl) (h:=?_)
   refine dP (hc:=fun _=>Calm.bin rfl rfl b_leq) (h:=?_)
   refine dP (hc:=fun _=>Calm.move rfl) (h:=?_)
   first|refine k_d ?_|refine dG (hc:=fun _=>Calm.move rfl) (h:=?_)
   first|refine k_d ?_|refine dG (hc:=fun _=>Calm.move rfl) (h:=?_)
   first|refine k_d ?_|refine dG (hc:=fun _=>Calm.move rfl) (h:=?_)
   first|refine k_d ?_|refine dG (hc:=fun _=>Calm.indexS Try.underlying24 ty_size_3 rfl rfl (by omega) (by omega)) (h:=?_)
   first|refine k_d ?_|refine dL (hc:=Calm.load ty_plain_3 rfl (rd_row (k:=i) own_ rw_ rw_)) (h:=?_)
   first|refine k_d ?_|refine dG (hc:=fun _=>Calm.move rfl) (h:=?_)
   first|refine k_d ?_|refine dG (hc:=fun _=>Calm.move rfl) (h:=?_)
   first|refine k_d ?_|refine dG (hc:=fun _=>Calm.indexS Try.underlying24 ty_size_3 rfl rfl (by omega) (by omega)) (h:=?_)
   first|refine k_d ?_|refine dL (hc:=Calm.load ty_plain_3 rfl (rd_row (k:=a) own_ rw_ rw_)) (h:=?_)
   refine draw_only rfl ?_
   first | refine rS 35 ?_ | refine rU 35 ?_
   refine arun_nil ⟨fun _=>less_,?_⟩
   first|refine k_d ?_|refine dG (hc:=fun _=>Calm.bin rfl rfl b_lss) (h:=?_)
   refine dP (hc:=fun _=>(by first | exact Calm.pickT rfl rfl | exact Calm.pickF rfl rfl)) (h:=?_)
   refine draw_nil ?_
   refine athen_n ?_
   refine k_u [(0,_),(1,_),(4,_),(12,_),(13,_),(47,_)] ?_
   refine k_F rfl ?_
   refine AWP.exit ?_
   refine athen_exit ?_
   refine athen_exit ?_
   refine ain_same ?_
   refine ⟨i,?_,?_,?_⟩
   all_goals (try dsimp only)
   ·exact ⟨by omega,by omega,(up_end (p:=(fun x=>(lq cf) x d0[a]!)) hij).trans q3⟩
   ·exact ⟨sb_,sb_,sb_,sb_,sb_,trivial⟩
   ·exact Mem.Less.refl _
 rintro i2 ⟨b1,b2,hU⟩
 intro _ _ hs_ hl_
 (try dsimp only at *)
 refine athen_n ?_
 refine AWP.sub _ hs_ (AWP.less _ hl_ ?_)
 clear hs_ hl_
 refine AWP.seq ?_
 refine AWP.join (X:=Nat) (fun x=>[(0,.slice (some ⟨b,0,none⟩) n cap),(1,.int .i64 a),(4,.func (.func g) #[] cb.toArray),(12,.int .i64 i2),(13,.int .i64 x)]) (fun _=>S.set b ⟨3,(d0).toList.map enc,room⟩) (fun x=>a≤x∧x≤J∧x=scanDown (fun x=>!(lq cf) x d0[a]!) d0 i2 J) ?_ ?_
 ·refine AWP.block ?_
  refine AWP.loop (X:=Nat) (fun x=>[(0,.slice (some ⟨b,0,none⟩) n cap),(1,.int .i64 a),(4,.func (.func g) #[] cb.toArray),(12,.int .i64 i2),(13,.int .i64 x)]) (fun _=>S.set b ⟨3,(d0).toList.map enc,room⟩) (fun x=>a≤x∧x≤J∧scanDown (fun x=>!(lq cf) x d0[a]!) d0 i2 x=scanDown (fun x=>!(lq cf) x d0[a]!) d0 i2 J) (fun x=>x) (J) ⟨sb_,sb_,sb_,sb_,sb_,trivial⟩ (Mem.Less.refl _) (⟨by omega,by omega,rfl⟩) ?_
  rintro j ⟨q1,q2,q3⟩
  (try dsimp only at *)
  by_cases hij:i2≤j
  ·obtain ⟨j,rfl⟩ : ∃ q,j=q+1:=⟨j-1,by omega⟩
   refine AWP.seq (AWP.seq ?_)
   refine AWP.draw [(0,true),(1,true),(2,true),(3,true),(4,true),(5,true),(6,true),(7,true),(8,true),(9,true),(10,true),(11,true),(12,true),(13,false),(14,true),(15,true),(16,true)] [] mixed (by kernel_rfl) ?_
   refine dP (hc:=fun _=>Calm.move rfl) (h:=?_)
   refine dP (hc:=fun _=>Calm.move rfl) (h:=?_)
   refine dP (hc:=fun _=>Calm.bin rfl rfl b_leq) (h:=?_)
   refine dP (hc:=fun _=>Calm.move rfl) (h:=?_)
   first|refine k_d ?_|refine dG (hc:=fun _=>Calm.move rfl) (h:=?_)
   first|refine k_d ?_|refine dG (hc:=fun _=>Calm.move rfl) (h:=?_)
   first|refine k_d ?_|refine dG (hc:=fun _=>Calm.move rfl) (h:=?_)
   first|refine k_d ?_|refine dG (hc:=fun _=>Calm.indexS Try.underlying24 ty_size_3 rfl rfl (by omega) (by omega)) (h:=?_)
   first|refine k_d ?_|refine dL (hc:=Calm.load ty_plain_3 rfl (rd_row (k:=j+1) own_ rw_ rw_)) (h:=?_)
   first|refine k_d ?_|refine dG (hc:=fun _=>Calm.move rfl) (h:=?_)
   first|refine k_d ?_|refine dG (hc:=fun _=>Calm.move rfl) (h:=?_)
   first|refine k_d ?_|refine dG (hc:=fun _=>Calm.indexS Try.underlying24 ty_size_3 rfl rfl (by omega) (by omega)) (h:=?_)
   first|refine k_d ?_|refine dL (hc:=Calm.load ty_plain_3 rfl (rd_row (k:=a) own_ rw_ rw_)) (h:=?_)
   refine draw_only rfl ?_
   refine rUn 53 ?_
   refine ARun.callV (first:=[]) (cap:=cb) (lit_lt rfl) C.go rfl rfl (C.call less_ (R0.ok (j+1) rw_) (R0.ok (a) rw_)) ?_
   rintro _ _ ⟨rfl,rfl⟩
   refine arun_nil ⟨fun _=>less_,?_⟩
   first|refine k_d ?_|refine dG (hc:=fun _=>Calm.bin rfl rfl b_lss) (h:=?_)
   first|refine k_d ?_|refine dG (hc:=fun _=>Calm.un rfl (una_not _)) (h:=?_)
   refine dP (hc:=fun _=>(by first | exact Calm.pickT rfl rfl | exact Calm.pickF rfl rfl)) (h:=?_)
   refine draw_nil ?_
   refine athen_n ?_
   refine k_u [(0,_),(1,_),(4,_),(12,_),(13,_),(66,_)] ?_
   refine AWP.condB rfl (fun hl=>?_) (fun hl=>?_)
   ·have hl:=nt_ hl
    refine k_k ?_
    refine AWP.block ?_
    refine AWP.region ?_
    refine k_m rfl ?_
    refine rC (Calm.bin rfl rfl b_sub_i64) ?_
    refine k_s rfl ?_
    refine arun_nil ?_
    refine ain_n ?_
    refine athen_n ?_
    refine ⟨j,?_,?_,?_,?_⟩
    all_goals (try dsimp only)
    ·exact ⟨sb_,sb_,sb_,sb_,sb_,trivial⟩
    ·exact Mem.Less.refl _
    ·exact ⟨by omega,by omega,(down_go (p:=(fun x=>!(lq cf) x d0[a]!)) hij (by simp only [lq_,hl,Bool.not_true,Bool.not_false])).trans q3⟩
    ·omega
   ·have hl:=nf_ hl
    refine AWP.exit ?_
    refine athen_exit ?_
    refine athen_exit ?_
    refine ain_same ?_
    refine ⟨(j+1),?_,?_,?_⟩
    all_goals (try dsimp only)
    ·exact ⟨by omega,by omega,(down_no (p:=(fun x=>!(lq cf) x d0[a]!)) (by omega) (by simp only [lq_,hl,Bool.not_true,Bool.not_false])).trans q3⟩
    ·exact ⟨sb_,sb_,sb_,sb_,sb_,trivial⟩
    ·exact Mem.Less.refl _
  ·refine AWP.seq (AWP.seq ?_)
   refine AWP.draw [(0,true),(1,true),(2,true),(3,true),(4,true),(5,true),(6,true),(7,true),(8,true),(9,true),(10,true),(11,true),(12,true),(13,false),(14,true),(15,true),(16,true)] [] mixed (by kernel_rfl) ?_
   refine dP (hc:=fun _=>Calm.move rfl) (h:=?_)
   refine dP (hc:=fun _=>Calm.move rfl) (h:=?_)
   refine dP (hc:=fun _=>Calm.bin rfl rfl b_leq) (h:=?_)
   refine dP (hc:=fun _=>Calm.move rfl) (h:=?_)
   first|refine k_d ?_|refine dG (hc:=fun _=>Calm.move rfl) (h:=?_)
   first|refine k_d ?_|refine dG (hc:=fun _=>Calm.move rfl) (h:=?_)
   first|refine k_d ?_|refine dG (hc:=fun _=>Calm.move rfl) (h:=?_)
   first|refine k_d ?_|refine dG (hc:=fun _=>Calm.indexS Try.underlying24 ty_size_3 rfl rfl (by omega) (by omega)) (h:=?_)
   first|refine k_d ?_|refine dL (hc:=Calm.load ty_plain_3 rfl (rd_row (k:=j+1) own_ rw_ rw_)) (h:=?_)
   first|refine k_d ?_|refine dG (hc:=fun _=>Calm.move rfl) (h:=?_)
   first|refine k_d ?_|refine dG (hc:=fun _=>Calm.move rfl) (h:=?_)
   first|refine k_d ?_|refine dG (hc:=fun _=>Calm.indexS Try.underlying24 ty_size_3 rfl rfl (by omega) (by omega)) (h:=?_)
   first|refine k_d ?_|refine dL (hc:=Calm.load ty_plain_3 rfl (rd_row (k:=a) own_ rw_ rw_)) (h:=?_)
   refine draw_only rfl ?_
   first | refine rS 53 ?_ | refine rU 53 ?_
   refine arun_nil ⟨fun _=>less_,?_⟩
   first|refine k_d ?_|refine dG (hc:=fun _=>Calm.bin rfl rfl b_lss) (h:=?_)
   first|refine k_d ?_|refine dG (hc:=fun _=>Calm.un rfl (una_not _)) (h:=?_)
   refine dP (hc:=fun _=>(by first | exact Calm.pickT rfl rfl | exact Calm.pickF rfl rfl)) (h:=?_)
   refine draw_nil ?_
   refine athen_n ?_
   refine k_u [(0,_),(1,_),(4,_),(12,_),(13,_),(66,_)] ?_
   refine k_F rfl ?_
   refine AWP.exit ?_
   refine athen_exit ?_
   refine athen_exit ?_
   refine ain_same ?_
   refine ⟨j,?_,?_,?_⟩
   all_goals (try dsimp only)
   ·exact ⟨by omega,by omega,(down_end (p:=(fun x=>!(lq cf) x d0[a]!)) hij).trans q3⟩
   ·exact ⟨sb_,sb_,sb_,sb_,sb_,trivial⟩
   ·exact Mem.Less.refl _
 rintro j2 ⟨b3,b4,hD⟩
 intro _ _ hs_ hl_
 (try dsimp only at *)
 refine athen_n ?_
 refine AWP.sub _ hs_ (AWP.less _ hl_ ?_)
 clear hs_ hl_
 by_cases hx:j2<i2
 ·refine AWP.seq (k_a (k_m rfl (k_m rfl ?_)))
  refine rC (Calm.bin rfl rfl b_gtr) ?_
  refine k_n ?_
  refine k_u [(0,_),(1,_),(4,_),(12,_),(13,_),(71,_)] ?_
  refine k_T rfl ?_
  refine AWP.seq ?_
  refine AWP.draw [(0,true),(1,true),(2,true),(3,true),(4,true),(5,true),(6,true),(7,true),(8,true),(9,true),(10,true),(11,true),(12,true),(13,false),(14,true),(15,false)] [13,15] mixed (by kernel_rfl) ?_
  refine dP (hc:=fun _=>Calm.move rfl) (h:=?_)
  refine dP (hc:=fun _=>Calm.move rfl) (h:=?_)
  refine dP (hc:=fun _=>Calm.move rfl) (h:=?_)
  refine dP (hc:=fun _=>Calm.move rfl) (h:=?_)
  refine dP (hc:=fun _=>Calm.move rfl) (h:=?_)
  refine dP (hc:=fun _=>Calm.move rfl) (h:=?_)
  refine dP (hc:=fun _=>Calm.indexS Try.underlying24 ty_size_3 rfl rfl (by omega) (by omega)) (h:=?_)
  refine dC (hc:=Calm.load ty_plain_3 rfl (rd_row (k:=a) own_ rw_ rw_)) (h:=?_)
  refine dP (hc:=fun _=>Calm.move rfl) (h:=?_)
  refine dP (hc:=fun _=>Calm.move rfl) (h:=?_)
  refine dP (hc:=fun _=>Calm.indexS Try.underlying24 ty_size_3 rfl rfl (by omega) (by omega)) (h:=?_)
  refine dC (hc:=Calm.load ty_plain_3 rfl (rd_row (k:=j2) own_ rw_ rw_)) (h:=?_)
  refine dP (hc:=fun _=>Calm.indexS Try.underlying24 ty_size_3 rfl rfl (by omega) (by omega)) (h:=?_)
  refine draw_only rfl ?_
  refine ARun.storeRow enc (j2) rfl rfl ty_size_3 (C.one _) own_ rw_ rw_ ?_
  try simp only [k_ms,k_sz,k_ss,k_za,Nat.reduceAdd]
  refine arun_nil ⟨fun h=>absurd h (by decide),?_⟩
  refine dP (hc:=fun _=>Calm.indexS Try.underlying24 ty_size_3 rfl rfl (by omega) (by omega)) (h:=?_)
  refine draw_only rfl ?_
  refine ARun.storeRow enc (a) rfl rfl ty_size_3 (C.one _) own_ rw_ rw_ ?_
  try simp only [k_ms,k_sz,k_ss,k_za,Nat.reduceAdd]
  refine arun_nil ⟨fun h=>absurd h (by decide),?_⟩
  refine draw_nil ?_
  refine athen_n ?_
  refine k_u [(0,_),(1,_),(4,_),(12,_),(13,_),(71,_)] ?_
  refine k_a (k_m rfl (k_s rfl (k_e rfl ?_)))
  refine k_u [(0,_),(1,_),(4,_),(12,_),(13,_),(71,_),(10,_),(11,_)] ?_
  refine k_r ?_
  refine ⟨_,_,⟨_,_,rfl,⟨_,_,rfl,rfl,rfl⟩,rfl⟩,Mem.Less.refl _,?_⟩
  exact part_res1 (lq cf) hd0 hU hD hx (R0.swp _ _ (by omega) (by omega)) (by omega) (by omega)
 ·refine AWP.seq (k_a (k_m rfl (k_m rfl ?_)))
  refine rC (Calm.bin rfl rfl b_gtr) ?_
  refine k_n ?_
  refine k_u [(0,_),(1,_),(4,_),(12,_),(13,_),(71,_)] ?_
  refine k_F rfl ?_
  refine k_k (AWP.seq ?_)
  refine AWP.draw [(0,true),(1,true),(2,true),(3,true),(4,true),(5,true),(6,true),(7,true),(8,true),(9,true),(10,true),(11,true),(12,true),(13,false),(14,true),(15,false)] [13,15] mixed (by kernel_rfl) ?_
  have R1:=R0.swp i2 j2 (by omega) (by omega)
  have hst:partLoop (lq cf) a (i2+1) (j2-1) (swp d0 i2 j2)=partLoop (lq cf) a (i2+1) (j2-1) (swp d0 i2 j2):=rfl
  refine dP (hc:=fun _=>Calm.move rfl) (h:=?_)
  refine dP (hc:=fun _=>Calm.move rfl) (h:=?_)
  refine dP (hc:=fun _=>Calm.move rfl) (h:=?_)
  refine dP (hc:=fun _=>Calm.move rfl) (h:=?_)
  refine dP (hc:=fun _=>Calm.move rfl) (h:=?_)
  refine dP (hc:=fun _=>Calm.move rfl) (h:=?_)
  refine dP (hc:=fun _=>Calm.indexS Try.underlying24 ty_size_3 rfl rfl (by omega) (by omega)) (h:=?_)
  refine dC (hc:=Calm.load ty_plain_3 rfl (rd_row (k:=j2) own_ rw_ rw_)) (h:=?_)
  refine dP (hc:=fun _=>Calm.move rfl) (h:=?_)
  refine dP (hc:=fun _=>Calm.move rfl) (h:=?_)
  refine dP (hc:=fun _=>Calm.indexS Try.underlying24 ty_size_3 rfl rfl (by omega) (by omega)) (h:=?_)
  refine dC (hc:=Calm.load ty_plain_3 rfl (rd_row (k:=i2) own_ rw_ rw_)) (h:=?_)
  refine dP (hc:=fun _=>Calm.indexS Try.underlying24 ty_size_3 rfl rfl (by omega) (by omega)) (h:=?_)
  refine draw_only rfl ?_
  refine ARun.storeRow enc (i2) rfl rfl ty_size_3 (C.one _) own_ rw_ rw_ ?_
  try simp only [k_ms,k_sz,k_ss,k_za,Nat.reduceAdd]
  refine arun_nil ⟨fun h=>absurd h (by decide),?_⟩
  refine dP (hc:=fun _=>Calm.indexS Try.underlying24 ty_size_3 rfl rfl (by omega) (by omega)) (h:=?_)
  refine draw_only rfl ?_
  refine ARun.storeRow enc (j2) rfl rfl ty_size_3 (C.one _) own_ rw_ rw_ ?_
  try simp only [k_ms,k_sz,k_ss,k_za,Nat.reduceAdd]
  refine arun_nil ⟨fun h=>absurd h (by decide),?_⟩
  refine draw_nil ?_
  refine athen_n ?_
  refine k_u [(0,_),(1,_),(4,_),(12,_),(13,_),(71,_)] ?_
  refine k_a (k_m rfl ?_)
  refine rC (Calm.bin rfl rfl b_add_i64) ?_
  refine k_e rfl ?_
  refine k_u [(0,_),(1,_),(4,_),(12,_),(13,_),(71,_)] ?_
  refine k_a (k_m rfl ?_)
  refine rC (Calm.bin rfl rfl b_sub_i64) ?_
  refine k_e rfl ?_
  refine k_u [(0,_),(1,_),(4,_),(12,_),(13,_),(71,_)] ?_
  refine AWP.seq ?_
  refine AWP.join (X:=Nat × Array α) (fun x=>[(0,.slice (some ⟨b,0,none⟩) n cap),(1,.int .i64 a),(13,.int .i64 x.1)]) (fun x=>S.set b ⟨3,(x.2).toList.map enc,room⟩) (fun x=>a≤x.1∧x.1≤J∧Rw okP n x.2∧(x.1,x.2)=partLoop (lq cf) a (i2+1) (j2-1) (swp d0 i2 j2)) ?_ ?_
  ·refine AWP.block ?_
   refine AWP.loop (X:=Nat × Nat × Array α) (fun x=>[(0,.slice (some ⟨b,0,none⟩) n cap),(1,.int .i64 a),(4,.func (.func g) #[] cb.toArray),(12,.int .i64 x.1),(13,.int .i64 x.2.1)]) (fun x=>S.set b ⟨3,(x.2.2).toList.map enc,room⟩) (fun x=>a+1≤x.1∧x.1≤J+1∧a≤x.2.1∧x.2.1≤J∧Rw okP n x.2.2∧partLoop (lq cf) a x.1 x.2.1 x.2.2=partLoop (lq cf) a (i2+1) (j2-1) (swp d0 i2 j2)) (fun x=>J+1-x.1) ((i2+1,j2-1,swp d0 i2 j2)) ⟨sb_,sb_,sb_,sb_,sb_,trivial⟩ (Mem.Less.refl _) (⟨by dsimp only;omega,by dsimp only;omega,by dsimp only;omega,by dsimp only;omega,R1,rfl⟩) ?_
   rintro ⟨I2,J2,d2⟩ ⟨m1,m2,m4,m5,R2,m3⟩
   (try dsimp only at *)
   have z2:=R2.size
   refine AWP.block ?_
   refine AWP.seq ?_
   refine AWP.join (X:=Nat) (fun x=>[(0,.slice (some ⟨b,0,none⟩) n cap),(1,.int .i64 a),(4,.func (.func g) #[] cb.toArray),(12,.int .i64 x),(13,.int .i64 J2)]) (fun _=>S.set b ⟨3,(d2).toList.map enc,room⟩) (fun x=>a+1≤x∧x≤J+1∧x=scanUp (fun x=>(lq cf) x d2[a]!) d2 (J2) I2) ?_ ?_
   ·refine AWP.block ?_
    refine AWP.loop (X:=Nat) (fun x=>[(0,.slice (some ⟨b,0,none⟩) n cap),(1,.int .i64 a),(4,.func (.func g) #[] cb.toArray),(12,.int .i64 x),(13,.int .i64 J2)]) (fun _=>S.set b ⟨3,(d2).toList.map enc,room⟩) (fun x=>a+1≤x∧x≤J+1∧scanUp (fun x=>(lq cf) x d2[a]!) d2 (J2) x=scanUp (fun x=>(lq cf) x d2[a]!) d2 (J2) I2) (fun x=>J+1-x) (I2) ⟨sb_,sb_,sb_,sb_,sb_,trivial⟩ (Mem.Less.refl _) (⟨by omega,by omega,rfl⟩) ?_
    rintro i ⟨q1,q2,q3⟩
    (try dsimp only at *)
    by_cases hij:i≤J2
    ·refine AWP.seq (AWP.seq ?_)
     refine AWP.draw [(0,true),(1,true),(2,true),(3,true),(4,true),(5,true),(6,true),(7,true),(8,true),(9,true),(10,true),(11,true),(12,true),(13,false),(14,true),(15,true)] [] mixed (by kernel_rfl) ?_
     refine dP (hc:=fun _=>Calm.move rfl) (h:=?_)
     refine dP (hc:=fun _=>Calm.move rfl) (h:=?_)
     refine dP (hc:=fun _=>Calm.bin rfl rfl b_leq) (h:=?_)
     refine dP (hc:=fun _=>Calm.move rfl) (h:=?_)
     first|refine k_d ?_|refine dG (hc:=fun _=>Calm.move rfl) (h:=?_)
     first|refine k_d ?_|refine dG (hc:=fun _=>Calm.move rfl) (h:=?_)
     first|refine k_d ?_|refine dG (hc:=fun _=>Calm.move rfl) (h:=?_)
     first|refine k_d ?_|refine dG (hc:=fun _=>Calm.indexS Try.underlying24 ty_size_3 rfl rfl (by omega) (by omega)) (h:=?_)
     first|refine k_d ?_|refine dL (hc:=Calm.load ty_plain_3 rfl (rd_row (k:=i) own_ rw_ rw_)) (h:=?_)
     first|refine k_d ?_|refine dG (hc:=fun _=>Calm.move rfl) (h:=?_)
     first|refine k_d ?_|refine dG (hc:=fun _=>Calm.move rfl) (h:=?_)
     first|refine k_d ?_|refine dG (hc:=fun _=>Calm.indexS Try.underlying24 ty_size_3 rfl rfl (by omega) (by omega)) (h:=?_)
     first|refine k_d ?_|refine dL (hc:=Calm.load ty_plain_3 rfl (rd_row (k:=a) own_ rw_ rw_)) (h:=?_)
     refine draw_only rfl ?_
     refine rUn 108 ?_
     refine ARun.callV (first:=[]) (cap:=cb) (lit_lt rfl) C.go rfl rfl (C.call less_ (R2.ok (i) rw_) (R2.ok (a) rw_)) ?_
     rintro _ _ ⟨rfl,rfl⟩
     refine arun_nil ⟨fun _=>less_,?_⟩
     first|refine k_d ?_|refine dG (hc:=fun _=>Calm.bin rfl rfl b_lss) (h:=?_)
     refine dP (hc:=fun _=>(by first | exact Calm.pickT rfl rfl | exact Calm.pickF rfl rfl)) (h:=?_)
     refine draw_nil ?_
     refine athen_n ?_
     refine k_u [(0,_),(1,_),(4,_),(12,_),(13,_),(120,_)] ?_
     refine AWP.condB rfl (fun hl=>?_) (fun hl=>?_)
     ·refine k_k ?_
      refine AWP.block ?_
      refine AWP.region ?_
      refine k_m rfl ?_
      refine rC (Calm.bin rfl rfl b_add_i64) ?_
      refine k_s rfl ?_
      refine arun_nil ?_
      refine ain_n ?_
      refine athen_n ?_
      refine ⟨i+1,?_,?_,?_,?_⟩
      all_goals (try dsimp only)
      ·exact ⟨sb_,sb_,sb_,sb_,sb_,trivial⟩
      ·exact Mem.Less.refl _
      ·exact ⟨by omega,by omega,(up_go (p:=(fun x=>(lq cf) x d2[a]!)) hij (by simp only [lq_,hl,Bool.not_true,Bool.not_false])).trans q3⟩
      ·omega
     ·refine AWP.exit ?_
      refine athen_exit ?_
      refine athen_exit ?_
      refine ain_same ?_
      refine ⟨i,?_,?_,?_⟩
      all_goals (try dsimp only)
      ·exact ⟨by omega,by omega,(up_no (p:=(fun x=>(lq cf) x d2[a]!)) (by simp only [lq_,hl,Bool.not_true,Bool.not_false])).trans q3⟩
      ·exact ⟨sb_,sb_,sb_,sb_,sb_,trivial⟩
      ·exact Mem.Less.refl _
    ·refine AWP.seq (AWP.seq ?_)
     refine AWP.draw [(0,true),(1,true),(2,true),(3,true),(4,true),(5,true),(6,true),(7,true),(8,true),(9,true),(10,true),(11,true),(12,true),(13,false),(14,true),(15,true)] [] mixed (by kernel_rfl) ?_
     refine dP (hc:=fun _=>Calm.move rfl) (h:=?_)
     refine dP (hc:=fun _=>Calm.move rfl) (h:=?_)
     refine dP (hc:=fun _=>Calm.bin rfl rfl b_leq) (h:=?_)
     refine dP (hc:=fun _=>Calm.move rfl) (h:=?_)
     first|refine k_d ?_|refine dG (hc:=fun _=>Calm.move rfl) (h:=?_)
     first|refine k_d ?_|refine dG (hc:=fun _=>Calm.move rfl) (h:=?_)
     first|refine k_d ?_|refine dG (hc:=fun _=>Calm.move rfl) (h:=?_)
     first|refine k_d ?_|refine dG (hc:=fun _=>Calm.indexS Try.underlying24 ty_size_3 rfl rfl (by omega) (by omega)) (h:=?_)
     first|refine k_d ?_|refine dL (hc:=Calm.load ty_plain_3 rfl (rd_row (k:=i) own_ rw_ rw_)) (h:=?_)
     first|refine k_d ?_|refine dG (hc:=fun _=>Calm.move rfl) (h:=?_)
     first|refine k_d ?_|refine dG (hc:=fun _=>Calm.move rfl) (h:=?_)
     first|refine k_d ?_|refine dG (hc:=fun _=>Calm.indexS Try.underlying24 ty_size_3 rfl rfl (by omega) (by omega)) (h:=?_)
     first|refine k_d ?_|refine dL (hc:=Calm.load ty_plain_3 rfl (rd_row (k:=a) own_ rw_ rw_)) (h:=?_)
     refine draw_only rfl ?_
     first | refine rS 108 ?_ | refine rU 108 ?_
     refine arun_nil ⟨fun _=>less_,?_⟩
     first|refine k_d ?_|refine dG (hc:=fun _=>Calm.bin rfl rfl b_lss) (h:=?_)
     refine dP (hc:=fun _=>(by first | exact Calm.pickT rfl rfl | exact Calm.pickF rfl rfl)) (h:=?_)
     refine draw_nil ?_
     refine athen_n ?_
     refine k_u [(0,_),(1,_),(4,_),(12,_),(13,_),(120,_)] ?_
     refine k_F rfl ?_
     refine AWP.exit ?_
     refine athen_exit ?_
     refine athen_exit ?_
     refine ain_same ?_
     refine ⟨i,?_,?_,?_⟩
     all_goals (try dsimp only)
     ·exact ⟨by omega,by omega,(up_end (p:=(fun x=>(lq cf) x d2[a]!)) hij).trans q3⟩
     ·exact ⟨sb_,sb_,sb_,sb_,sb_,trivial⟩
     ·exact Mem.Less.refl _
   rintro i2 ⟨b1,b2,hU⟩
   intro _ _ hs_ hl_
   (try dsimp only at *)
   refine athen_n ?_
   refine AWP.sub _ hs_ (AWP.less _ hl_ ?_)
   clear hs_ hl_
   refine AWP.seq ?_
   refine AWP.join (X:=Nat) (fun x=>[(0,.slice (some ⟨b,0,none⟩) n cap),(1,.int .i64 a),(4,.func (.func g) #[] cb.toArray),(12,.int .i64 i2),(13,.int .i64 x)]) (fun _=>S.set b ⟨3,(d2).toList.map enc,room⟩) (fun x=>a≤x∧x≤J∧x=scanDown (fun x=>!(lq cf) x d2[a]!) d2 i2 J2) ?_ ?_
   ·refine AWP.block ?_
    refine AWP.loop (X:=Nat) (fun x=>[(0,.slice (some ⟨b,0,none⟩) n cap),(1,.int .i64 a),(4,.func (.func g) #[] cb.toArray),(12,.int .i64 i2),(13,.int .i64 x)]) (fun _=>S.set b ⟨3,(d2).toList.map enc,room⟩) (fun x=>a≤x∧x≤J∧scanDown (fun x=>!(lq cf) x d2[a]!) d2 i2 x=scanDown (fun x=>!(lq cf) x d2[a]!) d2 i2 J2) (fun x=>x) (J2) ⟨sb_,sb_,sb_,sb_,sb_,trivial⟩ (Mem.Less.refl _) (⟨by omega,by omega,rfl⟩) ?_
    rintro j ⟨q1,q2,q3⟩
    (try dsimp only at *)
    by_cases hij:i2≤j
    ·obtain ⟨j,rfl⟩ : ∃ q,j=q+1:=⟨j-1,by omega⟩
     refine AWP.seq (AWP.seq ?_)
     refine AWP.draw [(0,true),(1,true),(2,true),(3,true),(4,true),(5,true),(6,true),(7,true),(8,true),(9,true),(10,true),(11,true),(12,true),(13,false),(14,true),(15,true),(16,true)] [] mixed (by kernel_rfl) ?_
     refine dP (hc:=fun _=>Calm.move rfl) (h:=?_)
     refine dP (hc:=fun _=>Calm.move rfl) (h:=?_)
     refine dP (hc:=fun _=>Calm.bin rfl rfl b_leq) (h:=?_)
     refine dP (hc:=fun _=>Calm.move rfl) (h:=?_)
     first|refine k_d ?_|refine dG (hc:=fun _=>Calm.move rfl) (h:=?_)
     first|refine k_d ?_|refine dG (hc:=fun _=>Calm.move rfl) (h:=?_)
     first|refine k_d ?_|refine dG (hc:=fun _=>Calm.move rfl) (h:=?_)
     first|refine k_d ?_|refine dG (hc:=fun _=>Calm.indexS Try.underlying24 ty_size_3 rfl rfl (by omega) (by omega)) (h:=?_)
     first|refine k_d ?_|refine dL (hc:=Calm.load ty_plain_3 rfl (rd_row (k:=j+1) own_ rw_ rw_)) (h:=?_)
     first|refine k_d ?_|refine dG (hc:=fun _=>Calm.move rfl) (h:=?_)
     first|refine k_d ?_|refine dG (hc:=fun _=>Calm.move rfl) (h:=?_)
     first|refine k_d ?_|refine dG (hc:=fun _=>Calm.indexS Try.underlying24 ty_size_3 rfl rfl (by omega) (by omega)) (h:=?_)
     first|refine k_d ?_|refine dL (hc:=Calm.load ty_plain_3 rfl (rd_row (k:=a) own_ rw_ rw_)) (h:=?_)
     refine draw_only rfl ?_
     refine rUn 126 ?_
     refine ARun.callV (first:=[]) (cap:=cb) (lit_lt rfl) C.go rfl rfl (C.call less_ (R2.ok (j+1) rw_) (R2.ok (a) rw_)) ?_
     rintro _ _ ⟨rfl,rfl⟩
     refine arun_nil ⟨fun _=>less_,?_⟩
     first|refine k_d ?_|refine dG (hc:=fun _=>Calm.bin rfl rfl b_lss) (h:=?_)
     first|refine k_d ?_|refine dG (hc:=fun _=>Calm.un rfl (una_not _)) (h:=?_)
     refine dP (hc:=fun _=>(by first | exact Calm.pickT rfl rfl | exact Calm.pickF rfl rfl)) (h:=?_)
     refine draw_nil ?_
     refine athen_n ?_
     refine k_u [(0,_),(1,_),(4,_),(12,_),(13,_),(139,_)] ?_
     refine AWP.condB rfl (fun hl=>?_) (fun hl=>?_)
     ·have hl:=nt_ hl
      refine k_k ?_
      refine AWP.block ?_
      refine AWP.region ?_
      refine k_m rfl ?_
      refine rC (Calm.bin rfl rfl b_sub_i64) ?_
      refine k_s rfl ?_
      refine arun_nil ?_
      refine ain_n ?_
      refine athen_n ?_
      refine ⟨j,?_,?_,?_,?_⟩
      all_goals (try dsimp only)
      ·exact ⟨sb_,sb_,sb_,sb_,sb_,trivial⟩
      ·exact Mem.Less.refl _
      ·exact ⟨by omega,by omega,(down_go (p:=(fun x=>!(lq cf) x d2[a]!)) hij (by simp only [lq_,hl,Bool.not_true,Bool.not_false])).trans q3⟩
      ·omega
     ·have hl:=nf_ hl
      refine AWP.exit ?_
      refine athen_exit ?_
      refine athen_exit ?_
      refine ain_same ?_
      refine ⟨(j+1),?_,?_,?_⟩
      all_goals (try dsimp only)
      ·exact ⟨by omega,by omega,(down_no (p:=(fun x=>!(lq cf) x d2[a]!)) (by omega) (by simp only [lq_,hl,Bool.not_true,Bool.not_false])).trans q3⟩
      ·exact ⟨sb_,sb_,sb_,sb_,sb_,trivial⟩
      ·exact Mem.Less.refl _
    ·refine AWP.seq (AWP.seq ?_)
     refine AWP.draw [(0,true),(1,true),(2,true),(3,true),(4,true),(5,true),(6,true),(7,true),(8,true),(9,true),(10,true),(11,true),(12,true),(13,false),(14,true),(15,true),(16,true)] [] mixed (by kernel_rfl) ?_
     refine dP (hc:=fun _=>Calm.move rfl) (h:=?_)
     refine dP (hc:=fun _=>Calm.move rfl) (h:=?_)
     refine dP (hc:=fun _=>Calm.bin rfl rfl b_leq) (h:=?_)
     refine dP (hc:=fun _=>Calm.move rfl) (h:=?_)
     first|refine k_d ?_|refine dG (hc:=fun _=>Calm.move rfl) (h:=?_)
     first|refine k_d ?_|refine dG (hc:=fun _=>Calm.move rfl) (h:=?_)
     first|refine k_d ?_|refine dG (hc:=fun _=>Calm.move rfl) (h:=?_)
     first|refine k_d ?_|refine dG (hc:=fun _=>Calm.indexS Try.underlying24 ty_size_3 rfl rfl (by omega) (by omega)) (h:=?_)
     first|refine k_d ?_|refine dL (hc:=Calm.load ty_plain_3 rfl (rd_row (k:=j+1) own_ rw_ rw_)) (h:=?_)
     first|refine k_d ?_|refine dG (hc:=fun _=>Calm.move rfl) (h:=?_)
     first|refine k_d ?_|refine dG (hc:=fun _=>Calm.move rfl) (h:=?_)
     first|refine k_d ?_|refine dG (hc:=fun _=>Calm.indexS Try.underlying24 ty_size_3 rfl rfl (by omega) (by omega)) (h:=?_)
     first|refine k_d ?_|refine dL (hc:=Calm.load ty_plain_3 rfl (rd_row (k:=a) own_ rw_ rw_)) (h:=?_)
     refine draw_only rfl ?_
     first | refine rS 126 ?_ | refine rU 126 ?_
     refine arun_nil ⟨fun _=>less_,?_⟩
     first|refine k_d ?_|refine dG (hc:=fun _=>Calm.bin rfl rfl b_lss) (h:=?_)
     first|refine k_d ?_|refine dG (hc:=fun _=>Calm.un rfl (una_not _)) (h:=?_)
     refine dP (hc:=fun _=>(by first | exact Calm.pickT rfl rfl | exact Calm.pickF rfl rfl)) (h:=?_)
     refine draw_nil ?_
     refine athen_n ?_
     refine k_u [(0,_),(1,_),(4,_),(12,_),(13,_),(139,_)] ?_
     refine k_F rfl ?_
     refine AWP.exit ?_
     refine athen_exit ?_
     refine athen_exit ?_
     refine ain_same ?_
     refine ⟨j,?_,?_,?_⟩
     all_goals (try dsimp only)
     ·exact ⟨by omega,by omega,(down_end (p:=(fun x=>!(lq cf) x d2[a]!)) hij).trans q3⟩
     ·exact ⟨sb_,sb_,sb_,sb_,sb_,trivial⟩
     ·exact Mem.Less.refl _
   rintro j2 ⟨b3,b4,hD⟩
   intro _ _ hs_ hl_
   (try dsimp only at *)
   refine athen_n ?_
   refine AWP.sub _ hs_ (AWP.less _ hl_ ?_)
   clear hs_ hl_
   by_cases hx:j2<i2
   ·refine AWP.seq (k_a (k_m rfl (k_m rfl ?_)))
    refine rC (Calm.bin rfl rfl b_gtr) ?_
    refine k_n ?_
    refine k_u [(0,_),(1,_),(4,_),(12,_),(13,_),(144,_)] ?_
    refine k_T rfl ?_
    refine AWP.exit ?_
    refine athen_exit ?_
    refine ain_other rfl ?_
    refine athen_exit ?_
    refine ain_same ?_
    refine ⟨(j2,d2),?_,?_,?_⟩
    all_goals (try dsimp only)
    ·exact ⟨by omega,by omega,R2,(part_stop (lq cf) hU hD hx).trans m3⟩
    ·exact ⟨sb_,sb_,sb_,trivial⟩
    ·exact Mem.Less.refl _
   ·refine AWP.seq (k_a (k_m rfl (k_m rfl ?_)))
    refine rC (Calm.bin rfl rfl b_gtr) ?_
    refine k_n ?_
    refine k_u [(0,_),(1,_),(4,_),(12,_),(13,_),(144,_)] ?_
    refine k_F rfl ?_
    refine k_k (AWP.seq ?_)
    refine AWP.draw [(0,true),(1,true),(2,true),(3,true),(4,true),(5,true),(6,true),(7,true),(8,true),(9,true),(10,true),(11,true),(12,true),(13,false),(14,true),(15,false)] [13,15] mixed (by kernel_rfl) ?_
    refine dP (hc:=fun _=>Calm.move rfl) (h:=?_)
    refine dP (hc:=fun _=>Calm.move rfl) (h:=?_)
    refine dP (hc:=fun _=>Calm.move rfl) (h:=?_)
    refine dP (hc:=fun _=>Calm.move rfl) (h:=?_)
    refine dP (hc:=fun _=>Calm.move rfl) (h:=?_)
    refine dP (hc:=fun _=>Calm.move rfl) (h:=?_)
    refine dP (hc:=fun _=>Calm.indexS Try.underlying24 ty_size_3 rfl rfl (by omega) (by omega)) (h:=?_)
    refine dC (hc:=Calm.load ty_plain_3 rfl (rd_row (k:=j2) own_ rw_ rw_)) (h:=?_)
    refine dP (hc:=fun _=>Calm.move rfl) (h:=?_)
    refine dP (hc:=fun _=>Calm.move rfl) (h:=?_)
    refine dP (hc:=fun _=>Calm.indexS Try.underlying24 ty_size_3 rfl rfl (by omega) (by omega)) (h:=?_)
    refine dC (hc:=Calm.load ty_plain_3 rfl (rd_row (k:=i2) own_ rw_ rw_)) (h:=?_)
    refine dP (hc:=fun _=>Calm.indexS Try.underlying24 ty_size_3 rfl rfl (by omega) (by omega)) (h:=?_)
    refine draw_only rfl ?_
    refine ARun.storeRow enc (i2) rfl rfl ty_size_3 (C.one _) own_ rw_ rw_ ?_
    try simp only [k_ms,k_sz,k_ss,k_za,Nat.reduceAdd]
    refine arun_nil ⟨fun h=>absurd h (by decide),?_⟩
    refine dP (hc:=fun _=>Calm.indexS Try.underlying24 ty_size_3 rfl rfl (by omega) (by omega)) (h:=?_)
    refine draw_only rfl ?_
    refine ARun.storeRow enc (j2) rfl rfl ty_size_3 (C.one _) own_ rw_ rw_ ?_
    try simp only [k_ms,k_sz,k_ss,k_za,Nat.reduceAdd]
    refine arun_nil ⟨fun h=>absurd h (by decide),?_⟩
    refine draw_nil ?_
    refine athen_n ?_
    refine k_u [(0,_),(1,_),(4,_),(12,_),(13,_),(144,_)] ?_
    refine k_a (k_m rfl ?_)
    refine rC (Calm.bin rfl rfl b_add_i64) ?_
    refine k_e rfl ?_
    refine k_u [(0,_),(1,_),(4,_),(12,_),(13,_),(144,_)] ?_
    refine AWP.region ?_
    refine k_m rfl ?_
    refine rC (Calm.bin rfl rfl b_sub_i64) ?_
    refine k_s rfl ?_
    refine arun_nil ?_
    refine ain_n ?_
    refine athen_n ?_
    refine ⟨(i2+1,j2-1,swp d2 i2 j2),?_,?_,?_,?_⟩
    all_goals (try dsimp only)
    ·exact ⟨sb_,sb_,sb_,sb_,sb_,trivial⟩
    ·exact Mem.Less.refl _
    ·exact ⟨by omega,by omega,by omega,by omega,R2.swp _ _ (by omega) (by omega),(part_go (lq cf) hU hD hx).trans m3⟩
    ·(have:I2≤i2:=by rw [hU];exact Go.Sort.scanUp_ge _ _ _ _);omega
  rintro ⟨j3,d3⟩ ⟨t1,t2,R3,t3⟩
  intro _ _ hs_ hl_
  (try dsimp only at *)
  refine athen_n ?_
  refine AWP.sub _ hs_ (AWP.less _ hl_ ?_)
  clear hs_ hl_
  have z3:=R3.size
  refine AWP.seq ?_
  refine AWP.draw [(0,true),(1,true),(2,true),(3,true),(4,true),(5,true),(6,true),(7,true),(8,true),(9,true),(10,true),(11,true),(12,true),(13,false),(14,true),(15,false)] [13,15] mixed (by kernel_rfl) ?_
  refine dP (hc:=fun _=>Calm.move rfl) (h:=?_)
  refine dP (hc:=fun _=>Calm.move rfl) (h:=?_)
  refine dP (hc:=fun _=>Calm.move rfl) (h:=?_)
  refine dP (hc:=fun _=>Calm.move rfl) (h:=?_)
  refine dP (hc:=fun _=>Calm.move rfl) (h:=?_)
  refine dP (hc:=fun _=>Calm.move rfl) (h:=?_)
  refine dP (hc:=fun _=>Calm.indexS Try.underlying24 ty_size_3 rfl rfl (by omega) (by omega)) (h:=?_)
  refine dC (hc:=Calm.load ty_plain_3 rfl (rd_row (k:=a) own_ rw_ rw_)) (h:=?_)
  refine dP (hc:=fun _=>Calm.move rfl) (h:=?_)
  refine dP (hc:=fun _=>Calm.move rfl) (h:=?_)
  refine dP (hc:=fun _=>Calm.indexS Try.underlying24 ty_size_3 rfl rfl (by omega) (by omega)) (h:=?_)
  refine dC (hc:=Calm.load ty_plain_3 rfl (rd_row (k:=j3) own_ rw_ rw_)) (h:=?_)
  refine dP (hc:=fun _=>Calm.indexS Try.underlying24 ty_size_3 rfl rfl (by omega) (by omega)) (h:=?_)
  refine draw_only rfl ?_
  refine ARun.storeRow enc (j3) rfl rfl ty_size_3 (C.one _) own_ rw_ rw_ ?_
  try simp only [k_ms,k_sz,k_ss,k_za,Nat.reduceAdd]
  refine arun_nil ⟨fun h=>absurd h (by decide),?_⟩
  refine dP (hc:=fun _=>Calm.indexS Try.underlying24 ty_size_3 rfl rfl (by omega) (by omega)) (h:=?_)
  refine draw_only rfl ?_
  refine ARun.storeRow enc (a) rfl rfl ty_size_3 (C.one _) own_ rw_ rw_ ?_
  try simp only [k_ms,k_sz,k_ss,k_za,Nat.reduceAdd]
  refine arun_nil ⟨fun h=>absurd h (by decide),?_⟩
  refine draw_nil ?_
  refine athen_n ?_
  refine k_u [(0,_),(1,_),(13,_)] ?_
  refine k_a (k_m rfl (k_s rfl (k_e rfl ?_)))
  refine k_u [(0,_),(1,_),(13,_),(10,_),(11,_)] ?_
  refine AWP.ret ?_
  refine ⟨_,_,⟨_,_,rfl,⟨_,_,rfl,rfl,rfl⟩,rfl⟩,Mem.Less.refl _,?_⟩
  exact part_res2 (lq cf) hd0 hU hD hx t3 (R3.swp _ _ (by omega) (by omega)) (by omega) (by omega)
set_option maxHeartbeats 4000000 in
theorem soC_parteq {α : Type} [Inhabited α] {enc : α → Value} {cf : α → α → Int} {okP : α → Prop} {g : Nat} {cb : List Value} {S : Mem} (C : CmpC Try.prog enc cf okP g cb S) (b room n cap : Nat) (hb : Fresh S b) (hn : n ≤ 1048576) (d : Array α) (R : Rw okP n d) (ia ie ip : Int) (a e p : Nat) (ha : ia = a) (he : ie = e) (hpp : ip = p) (hap : a ≤ p) (hpe : p < e) (hen : e ≤ n) :
  ACall Try.prog 173 #[.slice (some ⟨b,0,none⟩) n cap,.int .i64 ia,.int .i64 ie,.int .i64 ip,.func (.func g) #[] cb.toArray] (S.set b ⟨3,(d).toList.map enc,room⟩) fun r S'=>PartEqR α (fun x:Array α=>S.set b ⟨3,(x).toList.map enc,room⟩) okP n (partitionEqual (lq cf) d a e p) a e r S':=by
 subst ha he hpp
 obtain ⟨J,rfl⟩ : ∃ J,e=J+1:=⟨e-1,by omega⟩
 have R0:=R.swp a p (by omega) (by omega)
 have z:=R.size
 obtain ⟨d0,hd0⟩ : ∃ d0,d0=swp d a p:=⟨_,rfl⟩
 rw [← hd0] at R0
 have z0:=R0.size
 refine ACall.enter (rs:=[.tmp 10]) 90 [(0,.slice (some ⟨b,0,none⟩) n cap),(1,.int .i64 a),(2,.int .i64 ((J+1:Nat):Int)),(3,.int .i64 p),(4,.func (.func g) #[] cb.toArray)] Try.func173 rfl rfl (Nat.le_of_ble_eq_true rfl) rfl ⟨rfl,rfl,rfl,rfl,rfl,trivial⟩ ?_
 refine k_a (k_e rfl (AWP.seq ?_))
 refine AWP.draw [(0,true),(1,true),(2,true),(3,true),(4,true),(5,true),(6,true),(7,true),(8,true),(9,true),(10,true),(11,true),(12,true),(13,false),(14,true),(15,false)] [13,15] mixed (by kernel_rfl) ?_
 refine dP (hc:=fun _=>Calm.move rfl) (h:=?_)
 refine dP (hc:=fun _=>Calm.move rfl) (h:=?_)
 refine dP (hc:=fun _=>Calm.move rfl) (h:=?_)
 refine dP (hc:=fun _=>Calm.move rfl) (h:=?_)
 refine dP (hc:=fun _=>Calm.move rfl) (h:=?_)
 refine dP (hc:=fun _=>Calm.move rfl) (h:=?_)
 refine dP (hc:=fun _=>Calm.indexS Try.underlying24 ty_size_3 rfl rfl (by omega) (by omega)) (h:=?_)
 refine dC (hc:=Calm.load ty_plain_3 rfl (rd_row (k:=p) own_ rw_ rw_)) (h:=?_)
 refine dP (hc:=fun _=>Calm.move rfl) (h:=?_)
 refine dP (hc:=fun _=>Calm.move rfl) (h:=?_)
 refine dP (hc:=fun _=>Calm.indexS Try.underlying24 ty_size_3 rfl rfl (by omega) (by omega)) (h:=?_)
 refine dC (hc:=Calm.load ty_plain_3 rfl (rd_row (k:=a) own_ rw_ rw_)) (h:=?_)
 refine dP (hc:=fun _=>Calm.indexS Try.underlying24 ty_size_3 rfl rfl (by omega) (by omega)) (h:=?_)
 refine draw_only rfl ?_
 refine ARun.storeRow enc (a) rfl rfl ty_size_3 (C.one _) own_ rw_ rw_ ?_
 try simp only [k_ms,k_sz,k_ss,k_za,Nat.reduceAdd]
 refine arun_nil ⟨fun h=>absurd h (by decide),?_⟩
 refine dP (hc:=fun _=>Calm.indexS Try.underlying24 ty_size_3 rfl rfl (by omega) (by omega)) (h:=?_)
 refine draw_only rfl ?_
 refine ARun.storeRow enc (p) rfl rfl ty_size_3 (C.one _) own_ rw_ rw_ ?_
 try simp only [k_ms,k_sz,k_ss,k_za,Nat.reduceAdd]
 refine arun_nil ⟨fun h=>absurd h (by decide),?_⟩
 refine draw_nil ?_
 refine athen_n ?_
 refine k_u [(0,_),(1,_),(2,_),(3,_),(4,_),(10,_)] ?_
 refine AWP.less (S.set b ⟨3,(d0).toList.map enc,room⟩) (by rw [hd0];exact Mem.Less.refl _) ?_
 refine k_a (k_m rfl ?_)
 refine rC (Calm.bin rfl rfl b_add_i64) ?_
 refine k_m rfl ?_
 refine rC (Calm.bin rfl rfl b_sub_i64) ?_
 refine k_s rfl (k_e rfl ?_)
 refine k_u [(0,_),(1,_),(2,_),(3,_),(4,_),(10,_),(11,_),(12,_)] ?_
 refine AWP.seq ?_
 refine AWP.block ?_
 refine AWP.loop (X:=Nat × Nat × Array α) (fun x=>[(0,.slice (some ⟨b,0,none⟩) n cap),(1,.int .i64 a),(4,.func (.func g) #[] cb.toArray),(11,.int .i64 x.1),(12,.int .i64 x.2.1)]) (fun x=>S.set b ⟨3,(x.2.2).toList.map enc,room⟩) (fun x=>a+1≤x.1∧x.1≤J+1∧a≤x.2.1∧x.2.1≤J∧Rw okP n x.2.2∧partEqLoop (lq cf) a x.1 x.2.1 x.2.2=partEqLoop (lq cf) a (a+1) J d0) (fun x=>J+1-x.1) ((a+1,J,d0)) ⟨sb_,sb_,sb_,sb_,sb_,trivial⟩ (Mem.Less.refl _) (⟨by dsimp only;omega,by dsimp only;omega,by dsimp only;omega,by dsimp only;omega,R0,rfl⟩) ?_
 rintro ⟨I2,J2,d2⟩ ⟨m1,m2,m4,m5,R2,m3⟩
 (try dsimp only at *)
 have z2:=R2.size
 refine AWP.block ?_
 refine AWP.seq ?_
 refine AWP.join (X:=Nat) (fun x=>[(0,.slice (some ⟨b,0,none⟩) n cap),(1,.int .i64 a),(4,.func (.func g) #[] cb.toArray),(11,.int .i64 x),(12,.int .i64 J2)]) (fun _=>S.set b ⟨3,(d2).toList.map enc,room⟩) (fun x=>a+1≤x∧x≤J+1∧x=scanUp (fun x=>!(lq cf) d2[a]! x) d2 (J2) I2) ?_ ?_
 ·refine AWP.block ?_
  refine AWP.loop (X:=Nat) (fun x=>[(0,.slice (some ⟨b,0,none⟩) n cap),(1,.int .i64 a),(4,.func (.func g) #[] cb.toArray),(11,.int .i64 x),(12,.int .i64 J2)]) (fun _=>S.set b ⟨3,(d2).toList.map enc,room⟩) (fun x=>a+1≤x∧x≤J+1∧scanUp (fun x=>!(lq cf) d2[a]! x) d2 (J2) x=scanUp (fun x=>!(lq cf) d2[a]! x) d2 (J2) I2) (fun x=>J+1-x) (I2) ⟨sb_,sb_,sb_,sb_,sb_,trivial⟩ (Mem.Less.refl _) (⟨by omega,by omega,rfl⟩) ?_
  rintro i ⟨q1,q2,q3⟩
  (try dsimp only at *)
  by_cases hij:i≤J2
  ·refine AWP.seq (AWP.seq ?_)
   refine AWP.draw [(0,true),(1,true),(2,true),(3,true),(4,true),(5,true),(6,true),(7,true),(8,true),(9,true),(10,true),(11,true),(12,true),(13,false),(14,true),(15,true),(16,true)] [] mixed (by kernel_rfl) ?_
   refine dP (hc:=fun _=>Calm.move rfl) (h:=?_)
   refine dP (hc:=fun _=>Calm.move rfl) (h:=?_)
   refine dP (hc:=fun _=>Calm.bin rfl rfl b_leq) (h:=?_)
   refine dP (hc:=fun _=>Calm.move rfl) (h:=?_)
   first|refine k_d ?_|refine dG (hc:=fun _=>Calm.move rfl) (h:=?_)
   first|refine k_d ?_|refine dG (hc:=fun _=>Calm.move rfl) (h:=?_)
   first|refine k_d ?_|refine dG (hc:=fun _=>Calm.move rfl) (h:=?_)
   first|refine k_d ?_|refine dG (hc:=fun _=>Calm.indexS Try.underlying24 ty_size_3 rfl rfl (by omega) (by omega)) (h:=?_)
   first|refine k_d ?_|refine dL (hc:=Calm.load ty_plain_3 rfl (rd_row (k:=a) own_ rw_ rw_)) (h:=?_)
   first|refine k_d ?_|refine dG (hc:=fun _=>Calm.move rfl) (h:=?_)
   first|refine k_d ?_|refine dG (hc:=fun _=>Calm.move rfl) (h:=?_)
   first|refine k_d ?_|refine dG (hc:=fun _=>Calm.indexS Try.underlying24 ty_size_3 rfl rfl (by omega) (by omega)) (h:=?_)
   first|refine k_d ?_|refine dL (hc:=Calm.load ty_plain_3 rfl (rd_row (k:=i) own_ rw_ rw_)) (h:=?_)
   refine draw_only rfl ?_
   refine rUn 34 ?_
   refine ARun.callV (first:=[]) (cap:=cb) (lit_lt rfl) C.go rfl rfl (C.call less_ (R2.ok (a) rw_) (R2.ok (i) rw_)) ?_
   rintro _ _ ⟨rfl,rfl⟩
   refine arun_nil ⟨fun _=>less_,?_⟩
   first|refine k_d ?_|refine dG (hc:=fun _=>Calm.bin rfl rfl b_lss) (h:=?_)
   first|refine k_d ?_|refine dG (hc:=fun _=>Calm.un rfl (una_not _)) (h:=?_)
   refine dP (hc:=fun _=>(by first | exact Calm.pickT rfl rfl | exact Calm.pickF rfl rfl)) (h:=?_)
   refine draw_nil ?_
   refine athen_n ?_
   refine k_u [(0,_),(1,_),(4,_),(11,_),(12,_),(47,_)] ?_
   refine AWP.condB rfl (fun hl=>?_) (fun hl=>?_)
   ·have hl:=nt_ hl
    refine k_k ?_
    refine AWP.block ?_
    refine AWP.region ?_
    refine k_m rfl ?_
    refine rC (Calm.bin rfl rfl b_add_i64) ?_
    refine k_s rfl ?_
    refine arun_nil ?_
    refine ain_n ?_
    refine athen_n ?_
    refine ⟨i+1,?_,?_,?_,?_⟩
    all_goals (try dsimp only)
    ·exact ⟨sb_,sb_,sb_,sb_,sb_,trivial⟩
    ·exact Mem.Less.refl _
    ·exact ⟨by omega,by omega,(up_go (p:=(fun x=>!(lq cf) d2[a]! x)) hij (by simp only [lq_,hl,Bool.not_true,Bool.not_false])).trans q3⟩
    ·omega
   ·have hl:=nf_ hl
    refine AWP.exit ?_
    refine athen_exit ?_
    refine athen_exit ?_
    refine ain_same ?_
    refine ⟨i,?_,?_,?_⟩
    all_goals (try dsimp only)
    ·exact ⟨by omega,by omega,(up_no (p:=(fun x=>!(lq cf) d2[a]! x)) (by simp only [lq_,hl,Bool.not_true,Bool.not_false])).trans q3⟩
    ·exact ⟨sb_,sb_,sb_,sb_,sb_,trivial⟩
    ·exact Mem.Less.refl _
  ·refine AWP.seq (AWP.seq ?_)
   refine AWP.draw [(0,true),(1,true),(2,true),(3,true),(4,true),(5,true),(6,true),(7,true),(8,true),(9,true),(10,true),(11,true),(12,true),(13,false),(14,true),(15,true),(16,true)] [] mixed (by kernel_rfl) ?_
   refine dP (hc:=fun _=>Calm.move rfl) (h:=?_)
   refine dP (hc:=fun _=>Calm.move rfl) (h:=?_)
   refine dP (hc:=fun _=>Calm.bin rfl rfl b_leq) (h:=?_)
   refine dP (hc:=fun _=>Calm.move rfl) (h:=?_)
   first|refine k_d ?_|refine dG (hc:=fun _=>Calm.move rfl) (h:=?_)
   first|refine k_d ?_|refine dG (hc:=fun _=>Calm.move rfl) (h:=?_)
   first|refine k_d ?_|refine dG (hc:=fun _=>Calm.move rfl) (h:=?_)
   first|refine k_d ?_|refine dG (hc:=fun _=>Calm.indexS Try.underlying24 ty_size_3 rfl rfl (by omega) (by omega)) (h:=?_)
   first|refine k_d ?_|refine dL (hc:=Calm.load ty_plain_3 rfl (rd_row (k:=a) own_ rw_ rw_)) (h:=?_)
   first|refine k_d ?_|refine dG (hc:=fun _=>Calm.move rfl) (h:=?_)
   first|refine k_d ?_|refine dG (hc:=fun _=>Calm.move rfl) (h:=?_)
   first|refine k_d ?_|refine dG (hc:=fun _=>Calm.indexS Try.underlying24 ty_size_3 rfl rfl (by omega) (by omega)) (h:=?_)
   first|refine k_d ?_|refine dL (hc:=Calm.load ty_plain_3 rfl (rd_row (k:=i) own_ rw_ rw_)) (h:=?_)
   refine draw_only rfl ?_
   first | refine rS 34 ?_ | refine rU 34 ?_
   refine arun_nil ⟨fun _=>less_,?_⟩
   first|refine k_d ?_|refine dG (hc:=fun _=>Calm.bin rfl rfl b_lss) (h:=?_)
   first|refine k_d ?_|refine dG (hc:=fun _=>Calm.un rfl (una_not _)) (h:=?_)
   refine dP (hc:=fun _=>(by first | exact Calm.pickT rfl rfl | exact Calm.pickF rfl rfl)) (h:=?_)
   refine draw_nil ?_
   refine athen_n ?_
   refine k_u [(0,_),(1,_),(4,_),(11,_),(12,_),(47,_)] ?_
   refine k_F rfl ?_
   refine AWP.exit ?_
   refine athen_exit ?_
   refine athen_exit ?_
   refine ain_same ?_
   refine ⟨i,?_,?_,?_⟩
   all_goals (try dsimp only)
   ·exact ⟨by omega,by omega,(up_end (p:=(fun x=>!(lq cf) d2[a]! x)) hij).trans q3⟩
   ·exact ⟨sb_,sb_,sb_,sb_,sb_,trivial⟩
   ·exact Mem.Less.refl _
 rintro i2 ⟨b1,b2,hU⟩
 intro _ _ hs_ hl_
 (try dsimp only at *)
 refine athen_n ?_
 refine AWP.sub _ hs_ (AWP.less _ hl_ ?_)
 clear hs_ hl_
 refine AWP.seq ?_
 refine AWP.join (X:=Nat) (fun x=>[(0,.slice (some ⟨b,0,none⟩) n cap),(1,.int .i64 a),(4,.func (.func g) #[] cb.toArray),(11,.int .i64 i2),(12,.int .i64 x)]) (fun _=>S.set b ⟨3,(d2).toList.map enc,room⟩) (fun x=>a≤x∧x≤J∧x=scanDown (fun x=>(lq cf) d2[a]! x) d2 i2 J2) ?_ ?_
 ·refine AWP.block ?_
  refine AWP.loop (X:=Nat) (fun x=>[(0,.slice (some ⟨b,0,none⟩) n cap),(1,.int .i64 a),(4,.func (.func g) #[] cb.toArray),(11,.int .i64 i2),(12,.int .i64 x)]) (fun _=>S.set b ⟨3,(d2).toList.map enc,room⟩) (fun x=>a≤x∧x≤J∧scanDown (fun x=>(lq cf) d2[a]! x) d2 i2 x=scanDown (fun x=>(lq cf) d2[a]! x) d2 i2 J2) (fun x=>x) (J2) ⟨sb_,sb_,sb_,sb_,sb_,trivial⟩ (Mem.Less.refl _) (⟨by omega,by omega,rfl⟩) ?_
  rintro j ⟨q1,q2,q3⟩
  (try dsimp only at *)
  by_cases hij:i2≤j
  ·obtain ⟨j,rfl⟩ : ∃ q,j=q+1:=⟨j-1,by omega⟩
   refine AWP.seq (AWP.seq ?_)
   refine AWP.draw [(0,true),(1,true),(2,true),(3,true),(4,true),(5,true),(6,true),(7,true),(8,true),(9,true),(10,true),(11,true),(12,true),(13,false),(14,true),(15,true)] [] mixed (by kernel_rfl) ?_
   refine dP (hc:=fun _=>Calm.move rfl) (h:=?_)
   refine dP (hc:=fun _=>Calm.move rfl) (h:=?_)
   refine dP (hc:=fun _=>Calm.bin rfl rfl b_leq) (h:=?_)
   refine dP (hc:=fun _=>Calm.move rfl) (h:=?_)
   first|refine k_d ?_|refine dG (hc:=fun _=>Calm.move rfl) (h:=?_)
   first|refine k_d ?_|refine dG (hc:=fun _=>Calm.move rfl) (h:=?_)
   first|refine k_d ?_|refine dG (hc:=fun _=>Calm.move rfl) (h:=?_)
   first|refine k_d ?_|refine dG (hc:=fun _=>Calm.indexS Try.underlying24 ty_size_3 rfl rfl (by omega) (by omega)) (h:=?_)
   first|refine k_d ?_|refine dL (hc:=Calm.load ty_plain_3 rfl (rd_row (k:=a) own_ rw_ rw_)) (h:=?_)
   first|refine k_d ?_|refine dG (hc:=fun _=>Calm.move rfl) (h:=?_)
   first|refine k_d ?_|refine dG (hc:=fun _=>Calm.move rfl) (h:=?_)
   first|refine k_d ?_|refine dG (hc:=fun _=>Calm.indexS Try.underlying24 ty_size_3 rfl rfl (by omega) (by omega)) (h:=?_)
   first|refine k_d ?_|refine dL (hc:=Calm.load ty_plain_3 rfl (rd_row (k:=j+1) own_ rw_ rw_)) (h:=?_)
   refine draw_only rfl ?_
   refine rUn 53 ?_
   refine ARun.callV (first:=[]) (cap:=cb) (lit_lt rfl) C.go rfl rfl (C.call less_ (R2.ok (a) rw_) (R2.ok (j+1) rw_)) ?_
   rintro _ _ ⟨rfl,rfl⟩
   refine arun_nil ⟨fun _=>less_,?_⟩
   first|refine k_d ?_|refine dG (hc:=fun _=>Calm.bin rfl rfl b_lss) (h:=?_)
   refine dP (hc:=fun _=>(by first | exact Calm.pickT rfl rfl | exact Calm.pickF rfl rfl)) (h:=?_)
   refine draw_nil ?_
   refine athen_n ?_
   refine k_u [(0,_),(1,_),(4,_),(11,_),(12,_),(65,_)] ?_
   refine AWP.condB rfl (fun hl=>?_) (fun hl=>?_)
   ·refine k_k ?_
    refine AWP.block ?_
    refine AWP.region ?_
    refine k_m rfl ?_
    refine rC (Calm.bin rfl rfl b_sub_i64) ?_
    refine k_s rfl ?_
    refine arun_nil ?_
    refine ain_n ?_
    refine athen_n ?_
    refine ⟨j,?_,?_,?_,?_⟩
    all_goals (try dsimp only)
    ·exact ⟨sb_,sb_,sb_,sb_,sb_,trivial⟩
    ·exact Mem.Less.refl _
    ·exact ⟨by omega,by omega,(down_go (p:=(fun x=>(lq cf) d2[a]! x)) hij (by simp only [lq_,hl,Bool.not_true,Bool.not_false])).trans q3⟩
    ·omega
   ·refine AWP.exit ?_
    refine athen_exit ?_
    refine athen_exit ?_
    refine ain_same ?_
    refine ⟨(j+1),?_,?_,?_⟩
    all_goals (try dsimp only)
    ·exact ⟨by omega,by omega,(down_no (p:=(fun x=>(lq cf) d2[a]! x)) (by omega) (by simp only [lq_,hl,Bool.not_true,Bool.not_false])).trans q3⟩
    ·exact ⟨sb_,sb_,sb_,sb_,sb_,trivial⟩
    ·exact Mem.Less.refl _
  ·refine AWP.seq (AWP.seq ?_)
   refine AWP.draw [(0,true),(1,true),(2,true),(3,true),(4,true),(5,true),(6,true),(7,true),(8,true),(9,true),(10,true),(11,true),(12,true),(13,false),(14,true),(15,true)] [] mixed (by kernel_rfl) ?_
   refine dP (hc:=fun _=>Calm.move rfl) (h:=?_)
   refine dP (hc:=fun _=>Calm.move rfl) (h:=?_)
   refine dP (hc:=fun _=>Calm.bin rfl rfl b_leq) (h:=?_)
   refine dP (hc:=fun _=>Calm.move rfl) (h:=?_)
   first|refine k_d ?_|refine dG (hc:=fun _=>Calm.move rfl) (h:=?_)
   first|refine k_d ?_|refine dG (hc:=fun _=>Calm.move rfl) (h:=?_)
   first|refine k_d ?_|refine dG (hc:=fun _=>Calm.move rfl) (h:=?_)
   first|refine k_d ?_|refine dG (hc:=fun _=>Calm.indexS Try.underlying24 ty_size_3 rfl rfl (by omega) (by omega)) (h:=?_)
   first|refine k_d ?_|refine dL (hc:=Calm.load ty_plain_3 rfl (rd_row (k:=a) own_ rw_ rw_)) (h:=?_)
   first|refine k_d ?_|refine dG (hc:=fun _=>Calm.move rfl) (h:=?_)
   first|refine k_d ?_|refine dG (hc:=fun _=>Calm.move rfl) (h:=?_)
   first|refine k_d ?_|refine dG (hc:=fun _=>Calm.indexS Try.underlying24 ty_size_3 rfl rfl (by omega) (by omega)) (h:=?_)
   first|refine k_d ?_|refine dL (hc:=Calm.load ty_plain_3 rfl (rd_row (k:=j+1) own_ rw_ rw_)) (h:=?_)
   refine draw_only rfl ?_
   first | refine rS 53 ?_ | refine rU 53 ?_
   refine arun_nil ⟨fun _=>less_,?_⟩
   first|refine k_d ?_|refine dG (hc:=fun _=>Calm.bin rfl rfl b_lss) (h:=?_)
   refine dP (hc:=fun _=>(by first | exact Calm.pickT rfl rfl | exact Calm.pickF rfl rfl)) (h:=?_)
   refine draw_nil ?_
   refine athen_n ?_
   refine k_u [(0,_),(1,_),(4,_),(11,_),(12,_),(65,_)] ?_
   refine k_F rfl ?_
   refine AWP.exit ?_
   refine athen_exit ?_
   refine athen_exit ?_
   refine ain_same ?_
   refine ⟨j,?_,?_,?_⟩
   all_goals (try dsimp only)
   ·exact ⟨by omega,by omega,(down_end (p:=(fun x=>(lq cf) d2[a]! x)) hij).trans q3⟩
   ·exact ⟨sb_,sb_,sb_,sb_,sb_,trivial⟩
   ·exact Mem.Less.refl _
 rintro j2 ⟨b3,b4,hD⟩
 intro _ _ hs_ hl_
 (try dsimp only at *)
 refine athen_n ?_
 refine AWP.sub _ hs_ (AWP.less _ hl_ ?_)
 clear hs_ hl_
 by_cases hx:j2<i2
 ·refine AWP.seq (k_a (k_m rfl (k_m rfl ?_)))
  refine rC (Calm.bin rfl rfl b_gtr) ?_
  refine k_n ?_
  refine k_u [(0,_),(1,_),(4,_),(11,_),(12,_),(70,_)] ?_
  refine k_T rfl ?_
  refine AWP.exit ?_
  refine athen_exit ?_
  refine ain_other rfl ?_
  refine athen_exit ?_
  refine ain_same ?_
  refine athen_n ?_
  refine k_a (k_m rfl (k_e rfl ?_))
  refine k_u [(0,_),(1,_),(4,_),(11,_),(12,_),(70,_),(10,_)] ?_
  refine AWP.ret ?_
  refine ⟨_,_,⟨_,_,rfl,rfl,rfl⟩,Mem.Less.refl _,?_⟩
  exact parteq_res (lq cf) hd0 ((parteq_stop (lq cf) hU hD hx).trans m3) R2 (by omega) (by omega)
 ·refine AWP.seq (k_a (k_m rfl (k_m rfl ?_)))
  refine rC (Calm.bin rfl rfl b_gtr) ?_
  refine k_n ?_
  refine k_u [(0,_),(1,_),(4,_),(11,_),(12,_),(70,_)] ?_
  refine k_F rfl ?_
  refine k_k (AWP.seq ?_)
  refine AWP.draw [(0,true),(1,true),(2,true),(3,true),(4,true),(5,true),(6,true),(7,true),(8,true),(9,true),(10,true),(11,true),(12,true),(13,false),(14,true),(15,false)] [13,15] mixed (by kernel_rfl) ?_
  refine dP (hc:=fun _=>Calm.move rfl) (h:=?_)
  refine dP (hc:=fun _=>Calm.move rfl) (h:=?_)
  refine dP (hc:=fun _=>Calm.move rfl) (h:=?_)
  refine dP (hc:=fun _=>Calm.move rfl) (h:=?_)
  refine dP (hc:=fun _=>Calm.move rfl) (h:=?_)
  refine dP (hc:=fun _=>Calm.move rfl) (h:=?_)
  refine dP (hc:=fun _=>Calm.indexS Try.underlying24 ty_size_3 rfl rfl (by omega) (by omega)) (h:=?_)
  refine dC (hc:=Calm.load ty_plain_3 rfl (rd_row (k:=j2) own_ rw_ rw_)) (h:=?_)
  refine dP (hc:=fun _=>Calm.move rfl) (h:=?_)
  refine dP (hc:=fun _=>Calm.move rfl) (h:=?_)
  refine dP (hc:=fun _=>Calm.indexS Try.underlying24 ty_size_3 rfl rfl (by omega) (by omega)) (h:=?_)
  refine dC (hc:=Calm.load ty_plain_3 rfl (rd_row (k:=i2) own_ rw_ rw_)) (h:=?_)
  refine dP (hc:=fun _=>Calm.indexS Try.underlying24 ty_size_3 rfl rfl (by omega) (by omega)) (h:=?_)
  refine draw_only rfl ?_
  refine ARun.storeRow enc (i2) rfl rfl ty_size_3 (C.one _) own_ rw_ rw_ ?_
  try simp only [k_ms,k_sz,k_ss,k_za,Nat.reduceAdd]
  refine arun_nil ⟨fun h=>absurd h (by decide),?_⟩
  refine dP (hc:=fun _=>Calm.indexS Try.underlying24 ty_size_3 rfl rfl (by omega) (by omega)) (h:=?_)
  refine draw_only rfl ?_
  refine ARun.storeRow enc (j2) rfl rfl ty_size_3 (C.one _) own_ rw_ rw_ ?_
  try simp only [k_ms,k_sz,k_ss,k_za,Nat.reduceAdd]
  refine arun_nil ⟨fun h=>absurd h (by decide),?_⟩
  refine draw_nil ?_
  refine athen_n ?_
  refine k_u [(0,_),(1,_),(4,_),(11,_),(12,_),(70,_)] ?_
  refine k_a (k_m rfl ?_)
  refine rC (Calm.bin rfl rfl b_add_i64) ?_
  refine k_e rfl ?_
  refine k_u [(0,_),(1,_),(4,_),(11,_),(12,_),(70,_)] ?_
  refine AWP.region ?_
  refine k_m rfl ?_
  refine rC (Calm.bin rfl rfl b_sub_i64) ?_
  refine k_s rfl ?_
  refine arun_nil ?_
  refine ain_n ?_
  refine athen_n ?_
  refine ⟨(i2+1,j2-1,swp d2 i2 j2),?_,?_,?_,?_⟩
  all_goals (try dsimp only)
  ·exact ⟨sb_,sb_,sb_,sb_,sb_,trivial⟩
  ·exact Mem.Less.refl _
  ·exact ⟨by omega,by omega,by omega,by omega,R2.swp _ _ (by omega) (by omega),(parteq_go (lq cf) hU hD hx).trans m3⟩
  ·(have:I2≤i2:=by rw [hU];exact Go.Sort.scanUp_ge _ _ _ _);omega
end Go.Proofs.Ytgidjbpgkeemiaa
namespace Go.Proofs.Ytgidjbpgkeemiaa
open Go.RowKit
open Mv
namespace Srt
open Go.Sort (swp order2 median medianAdjacent choosePivot breakStep breakPatterns scanSorted shiftDown shiftUp partialIns partialInsertionSort bitsLen xorNext Hint)
theorem set_over (S : Mem) {b c : Nat} (r r' x : Blk) (h : b ≠ c) : ((S.set b r).set c x).set b r' = (S.set b r').set c x := by
 rw [Mem.set_comm _ _ _ (Ne.symm h),Mem.set_set]
def hintI : Hint → Int
  | .unknown => 0
  | .increasing => 1
  | .decreasing => 2
section
variable {α : Type} [Inhabited α] (lt : α → α → Bool)
theorem ord2_lt {d : Array α} {a e k n x y k' : Nat} (h : (x, y, k') = order2 lt d a e k) (ha : a < n) (he : e < n) : x < n ∧ y < n ∧ k' ≤ k + 1 := by
 unfold order2 at h
 split at h <;> (simp only [Prod.mk.injEq] at h;omega)
theorem median_lt {d : Array α} {a e o k p k' lo hi : Nat} (h : (p, k') = median lt d a e o k) (ha : lo ≤ a ∧ a < hi) (he : lo ≤ e ∧ e < hi) (ho : lo ≤ o ∧ o < hi) : (lo ≤ p ∧ p < hi) ∧ k' ≤ k + 3 := by
 have hm:=Go.Sort.median_mem lt d a e o k
 rw [← h] at hm
 have hk:k'≤k+3:=by
  unfold median at h
  simp only [Prod.mk.injEq] at h
  rw [h.2]
  have h1:∀ x y z,(order2 lt d x y z).2.2≤z+1:=fun x y z=>by unfold order2;split <;> simp
  have:=h1 (order2 lt d a e k).1 (order2 lt d (order2 lt d a e k).2.1 o (order2 lt d a e k).2.2).1 (order2 lt d (order2 lt d a e k).2.1 o (order2 lt d a e k).2.2).2.2
  have:=h1 (order2 lt d a e k).2.1 o (order2 lt d a e k).2.2
  have:=h1 a e k
  omega
 refine ⟨?_,hk⟩
 simp only at hm
 omega
theorem medadj_lt {d : Array α} {a k p k' lo hi : Nat} (h : (p, k') = medianAdjacent lt d a k) (ha : lo < a) (he : a + 1 < hi) : (lo ≤ p ∧ p < hi) ∧ k' ≤ k + 3 :=
 median_lt lt (h.trans rfl) (by omega) (by omega) (by omega)
end
theorem piv_hint {k : Nat} (h0 : ¬ k = 0) (h1 : ¬ k = 12) : (if k = 0 then Hint.increasing else if k = 12 then Hint.decreasing else Hint.unknown) = .unknown := by rw [if_neg h0, if_neg h1]
theorem piv_val {i j h : Int} (e : i = j) : one [.int .i64 i, .int .i64 h] = .tuple #[.int .i64 j, .int .i64 h] := by rw [e]; rfl
theorem and_n64 (a b : Nat) (ha : a < 18446744073709551616) (hb : b < 18446744073709551616) : bits .and .u64 (a : Int) (b : Int) = ((a &&& b : Nat) : Int) := by
 have h:a &&& b<2 ^ 64:=Nat.and_lt_two_pow _ (by omega)
 show IntKind.u64.wrap (((BitVec.ofInt 64 (a:Int)) &&& (BitVec.ofInt 64 (b:Int))).toNat:Int)=_
 rw [BitVec.ofInt_natCast,BitVec.ofInt_natCast,BitVec.toNat_and,BitVec.toNat_ofNat,BitVec.toNat_ofNat,Nat.mod_eq_of_lt (by omega),Nat.mod_eq_of_lt (by omega)]
 exact IntWalk.u64_in _ (by omega)
theorem sub_u64 (m : Nat) (h0 : 1 ≤ m) (h1 : m < 18446744073709551616) : IntKind.u64.wrap ((m : Int) - 1) = ((m - 1 : Nat) : Int) := by
 rw [show ((m:Int)-1)=((m-1:Nat):Int) by omega];exact IntWalk.u64_in _ (by omega)
section
variable {α : Type} [Inhabited α]
/-- So many rounds of breaking patterns are left. -/
def bpR (a L mo ba : Nat) : Nat → UInt64 × Array α → UInt64 × Array α
  | 0, st => st
  | k + 1, st => bpR a L mo ba k (breakStep a L mo st (ba + (2 - k)))
theorem bpR_succ (a L mo ba k : Nat) (r : UInt64) (d : Array α) : bpR a L mo ba (k + 1) (r, d) = bpR a L mo ba k (xorNext r, swp d (ba + (2 - k)) (a + (if L ≤ (xorNext r).toNat &&& (mo - 1) then ((xorNext r).toNat &&& (mo - 1)) - L else (xorNext r).toNat &&& (mo - 1)))) := rfl
theorem bp_eq {d : Array α} {a L : Nat} (h8 : 8 ≤ L) : breakPatterns d a (a + L) = (bpR a L (1 <<< bitsLen L) (a + L / 4 * 2 - 1) 3 (UInt64.ofNat L, d)).2 := by
 unfold breakPatterns
 simp only [Nat.add_sub_cancel_left]
 rw [if_pos h8]
 rfl
end
theorem bp_mod (L : Nat) (h0 : 0 < L) (h : L ≤ 1048576) : 1 ≤ 1 <<< bitsLen L ∧ 1 <<< bitsLen L ≤ 2 * L := by
 rw [Nat.one_shiftLeft]
 exact ⟨Nat.one_le_two_pow,Go.Sort.two_pow_bitsLen_le h0⟩
section
variable {α : Type} [Inhabited α] (lt : α → α → Bool)
theorem pis_res {okP : α → Prop} {n a e s i : Nat} {d d1 : Array α} {M : Array α → Mem} {r : Value} {S' : Mem} (h3 : partialIns lt a e (s + 1) i d1 = partialInsertionSort lt d a e)
  (h:(scanSorted lt d1 e i=e∧r = .bool true∧S'=M d1)∨(¬ scanSorted lt d1 e i=e∧e-a<50∧r = .bool false∧S'=M d1)) (R:Rw okP n d1) :
  r = .bool (partialInsertionSort lt d a e).2∧S'=M (partialInsertionSort lt d a e).1∧Rw okP n (partialInsertionSort lt d a e).1:=by
 rw [← h3]
 unfold partialIns
 rcases h with ⟨h,rfl,rfl⟩ | ⟨h,h5,rfl,rfl⟩
 ·simp only [if_pos h];exact ⟨trivial,trivial,R⟩
 ·simp only [if_neg h,if_pos h5];exact ⟨trivial,trivial,R⟩
theorem pi_step {a e s i w : Nat} {d1 d2 d3 d4 : Array α} (hS : w + 1 = scanSorted lt d1 e i) (hne : ¬ w + 1 = e) (h50 : ¬ e - a < 50) (hd2 : d2 = swp d1 (w + 1) w) (hd3 : d3 = if w + 1 - a ≥ 2 then shiftDown lt w d2 else d2)
  (hd4:d4=if e-(w+1) ≥ 2 then shiftUp lt e (w+1+1) d3 else d3):partialIns lt a e s (w+1) d4=partialIns lt a e (s+1) i d1:=by
 rw [partialIns.eq_def lt a e (s+1) i d1]
 simp only [← hS,if_neg hne,if_neg h50,Nat.add_sub_cancel,← hd2,← hd3,← hd4]
end
/-! ### The recursion, stage by stage -/
section
open Go.Sort (pdq insertionSort heapSort reverseRange partition partitionEqual)
variable {α : Type} [Inhabited α] (lt : α → α → Bool)
def pdq3 (d3 : Array α) (a b l : Nat) (w1 w2 : Bool) (pv : Nat) : Array α :=
  if (decide (a > 0) && !lt d3[a - 1]! d3[pv]!) = true then
    (if a < (partitionEqual lt d3 a b pv).1 ∧ (partitionEqual lt d3 a b pv).1 ≤ b then pdq lt (partitionEqual lt d3 a b pv).2 (partitionEqual lt d3 a b pv).1 b l w1 w2 else (partitionEqual lt d3 a b pv).2)
  else
    (if a ≤ (partition lt d3 a b pv).1 ∧ (partition lt d3 a b pv).1 < b then
      (if (partition lt d3 a b pv).1 - a < b - (partition lt d3 a b pv).1 then
        pdq lt (pdq lt (partition lt d3 a b pv).2.2 a (partition lt d3 a b pv).1 l true true) ((partition lt d3 a b pv).1 + 1) b l (decide ((partition lt d3 a b pv).1 - a ≥ (b - a) / 8)) (partition lt d3 a b pv).2.1
      else
        pdq lt (pdq lt (partition lt d3 a b pv).2.2 ((partition lt d3 a b pv).1 + 1) b l true true) a (partition lt d3 a b pv).1 l (decide (b - (partition lt d3 a b pv).1 ≥ (b - a) / 8)) (partition lt d3 a b pv).2.1)
    else (partition lt d3 a b pv).2.2)
def pdq2 (d2 : Array α) (a b l : Nat) (w1 w2 : Bool) (pv : Nat) (hi : Hint) : Array α :=
  if (w1 && w2 && decide (hi = .increasing)) = true then (if (partialInsertionSort lt d2 a b).2 = true then (partialInsertionSort lt d2 a b).1 else pdq3 lt (partialInsertionSort lt d2 a b).1 a b l w1 w2 pv)
  else pdq3 lt d2 a b l w1 w2 pv
def pdq1 (d1 : Array α) (a b l : Nat) (w1 w2 : Bool) : Array α :=
  if (choosePivot lt d1 a b).2 = .decreasing then pdq2 lt (reverseRange d1 a b) a b l w1 w2 (b - 1 - ((choosePivot lt d1 a b).1 - a)) .increasing
  else pdq2 lt d1 a b l w1 w2 (choosePivot lt d1 a b).1 (choosePivot lt d1 a b).2
theorem pdq_ins {d : Array α} {a b l : Nat} {w1 w2 : Bool} (h : b - a ≤ 12) : pdq lt d a b l w1 w2 = insertionSort lt d a b := by rw [pdq, if_pos h]
theorem pdq_heap {d : Array α} {a b l : Nat} {w1 w2 : Bool} (h : ¬ b - a ≤ 12) (h0 : l = 0) : pdq lt d a b l w1 w2 = heapSort lt d a b := by rw [pdq, if_neg h, if_pos h0]
theorem pdq_1 {d : Array α} {a b l : Nat} {w1 w2 : Bool} (h : ¬ b - a ≤ 12) (h0 : ¬ l = 0) : pdq lt d a b l w1 w2 = pdq1 lt (if !w1 then breakPatterns d a b else d) a b (if !w1 then l - 1 else l) w1 w2 := by
 rw [pdq,if_neg h,if_neg h0]
 dsimp only
 unfold pdq1 pdq2 pdq3
 generalize (if (!w1)=true then breakPatterns d a b else d)=d1
 generalize (if (!w1)=true then l-1 else l)=l2
 generalize choosePivot lt d1 a b=c
 obtain ⟨p0,hn⟩:=c
 dsimp only
 by_cases hd:hn = .decreasing
 ·subst hd
  simp only [if_true]
  generalize partialInsertionSort lt (reverseRange d1 a b) a b=q
  obtain ⟨d3,pb⟩:=q
  cases w1 <;> cases w2 <;> cases pb <;> simp
 ·simp only [if_neg hd]
  by_cases hx:(w1 && w2 && decide (hn=Hint.increasing))=true
  ·simp only [if_pos hx]
   generalize partialInsertionSort lt d1 a b=q
   obtain ⟨d3,pb⟩:=q
   cases pb <;> simp
  ·simp only [if_neg hx];simp
end
theorem hint_ne {h : Hint} (hd : ¬ h = .decreasing) : hintI h < 2 ∧ 0 ≤ hintI h := by cases h <;> simp_all [hintI]
theorem hint_1 (h : Hint) : decide (hintI h = 1) = decide (h = .increasing) := by cases h <;> rfl
theorem wbv_ {p q : Prop} [Decidable p] [Decidable q] (h : p ↔ q) : some (Value.bool (decide p)) = some (Value.bool (decide q)) := by
 congr 2;rw [decide_eq_decide];exact h
end Srt
end Go.Proofs.Ytgidjbpgkeemiaa
namespace Go.Proofs.Ytgidjbpgkeemiaa
open Go.RowKit
open Mv Srt
open Go.Sort (swp insInner insOuter insertionSort siftDown heapBuild heapPop heapSort scanUp scanDown partLoop partition partEqLoop partitionEqual scanSorted shiftDown shiftUp partialIns partialInsertionSort order2 median medianAdjacent choosePivot reverseLoop reverseRange breakStep breakPatterns pdq bitsLen xorNext Hint)
set_option maxRecDepth 4000
set_option maxHeartbeats 4000000 in
theorem soC_rev {α : Type} [Inhabited α] {enc : α → Value} {cf : α → α → Int} {okP : α → Prop} {g : Nat} {cb : List Value} {S : Mem} (C : CmpC Try.prog enc cf okP g cb S) (b room n cap : Nat) (hb : Fresh S b) (hn : n ≤ 1048576) (d : Array α) (R : Rw okP n d) (ia ie : Int) (a e : Nat) (ha : ia = a) (he : ie = e) (hae : a < e) (hen : e ≤ n) :
  ACall Try.prog 171 #[.slice (some ⟨b,0,none⟩) n cap,.int .i64 ia,.int .i64 ie,.func (.func g) #[] cb.toArray] (S.set b ⟨3,(d).toList.map enc,room⟩) fun r S'=>S'=S.set b ⟨3,(reverseRange d a e).toList.map enc,room⟩∧Rw okP n (reverseRange d a e):=by
 subst ha he
 refine ACall.enter (rs:=[]) 34 [(0,.slice (some ⟨b,0,none⟩) n cap),(1,.int .i64 a),(2,.int .i64 e),(3,.func (.func g) #[] cb.toArray)] Try.func171 rfl rfl (Nat.le_of_ble_eq_true rfl) rfl ⟨rfl,rfl,rfl,rfl,trivial⟩ ?_
 refine k_a (k_m rfl (k_e rfl ?_))
 refine k_u [(0,_),(1,_),(2,_),(8,_)] ?_
 refine k_a (k_m rfl ?_)
 refine rC (Calm.bin rfl rfl b_sub_i64) ?_
 refine k_e rfl ?_
 refine k_u [(0,_),(1,_),(2,_),(8,_),(9,_)] ?_
 refine AWP.block ?_
 refine AWP.loop (X:=Nat × Nat × Array α) (fun x=>[(0,.slice (some ⟨b,0,none⟩) n cap),(8,.int .i64 x.1),(9,.int .i64 x.2.1)]) (fun x=>S.set b ⟨3,(x.2.2).toList.map enc,room⟩) (fun x=>x.1≤n∧x.2.1<e∧Rw okP n x.2.2∧reverseLoop x.1 x.2.1 x.2.2=reverseRange d a e) (fun x=>x.2.1) ((a,e-1,d)) ⟨sb_,sb_,sb_,trivial⟩ (Mem.Less.refl _) (⟨by dsimp only;omega,by dsimp only;omega,R,rfl⟩) ?_
 rintro ⟨i,j,d1⟩ ⟨h1,h2,R1,h3⟩
 (try dsimp only at *)
 have z1:=R1.size
 by_cases hij:i<j
 ·refine AWP.seq (k_a (k_m rfl (k_m rfl ?_)))
  refine rC (Calm.bin rfl rfl b_lss) ?_
  refine k_n ?_
  refine k_u [(0,_),(8,_),(9,_),(15,_)] ?_
  refine k_T rfl ?_
  refine k_k ?_
  refine AWP.block ?_
  refine AWP.seq ?_
  refine AWP.draw [(0,true),(1,true),(2,true),(3,true),(4,true),(5,true),(6,true),(7,true),(8,true),(9,true),(10,true),(11,true),(12,true),(13,false),(14,true),(15,false)] [13,15] mixed (by kernel_rfl) ?_
  refine dP (hc:=fun _=>Calm.move rfl) (h:=?_)
  refine dP (hc:=fun _=>Calm.move rfl) (h:=?_)
  refine dP (hc:=fun _=>Calm.move rfl) (h:=?_)
  refine dP (hc:=fun _=>Calm.move rfl) (h:=?_)
  refine dP (hc:=fun _=>Calm.move rfl) (h:=?_)
  refine dP (hc:=fun _=>Calm.move rfl) (h:=?_)
  refine dP (hc:=fun _=>Calm.indexS Try.underlying24 ty_size_3 rfl rfl (by omega) (by omega)) (h:=?_)
  refine dC (hc:=Calm.load ty_plain_3 rfl (rd_row (k:=j) own_ rw_ rw_)) (h:=?_)
  refine dP (hc:=fun _=>Calm.move rfl) (h:=?_)
  refine dP (hc:=fun _=>Calm.move rfl) (h:=?_)
  refine dP (hc:=fun _=>Calm.indexS Try.underlying24 ty_size_3 rfl rfl (by omega) (by omega)) (h:=?_)
  refine dC (hc:=Calm.load ty_plain_3 rfl (rd_row (k:=i) own_ rw_ rw_)) (h:=?_)
  refine dP (hc:=fun _=>Calm.indexS Try.underlying24 ty_size_3 rfl rfl (by omega) (by omega)) (h:=?_)
  refine draw_only rfl ?_
  refine ARun.storeRow enc (i) rfl rfl ty_size_3 (C.one _) own_ rw_ rw_ ?_
  try simp only [k_ms,k_sz,k_ss,k_za,Nat.reduceAdd]
  refine arun_nil ⟨fun h=>absurd h (by decide),?_⟩
  refine dP (hc:=fun _=>Calm.indexS Try.underlying24 ty_size_3 rfl rfl (by omega) (by omega)) (h:=?_)
  refine draw_only rfl ?_
  refine ARun.storeRow enc (j) rfl rfl ty_size_3 (C.one _) own_ rw_ rw_ ?_
  try simp only [k_ms,k_sz,k_ss,k_za,Nat.reduceAdd]
  refine arun_nil ⟨fun h=>absurd h (by decide),?_⟩
  refine draw_nil ?_
  refine athen_n ?_
  refine k_u [(0,_),(8,_),(9,_),(15,_)] ?_
  refine k_a (k_m rfl ?_)
  refine rC (Calm.bin rfl rfl b_add_i64) ?_
  refine k_e rfl ?_
  refine k_u [(0,_),(8,_),(9,_),(15,_)] ?_
  refine AWP.region ?_
  refine k_m rfl ?_
  refine rC (Calm.bin rfl rfl b_sub_i64) ?_
  refine k_s rfl ?_
  refine arun_nil ?_
  refine ain_n ?_
  refine athen_n ?_
  refine ⟨(i+1,j-1,swp d1 i j),?_,?_,?_,?_⟩
  all_goals (try dsimp only)
  ·exact ⟨sb_,sb_,sb_,trivial⟩
  ·exact Mem.Less.refl _
  ·exact ⟨by omega,by omega,R1.swp _ _ (by omega) (by omega),(rev_go hij).trans h3⟩
  ·omega
 ·refine AWP.seq (k_a (k_m rfl (k_m rfl ?_)))
  refine rC (Calm.bin rfl rfl b_lss) ?_
  refine k_n ?_
  refine k_u [(0,_),(8,_),(9,_),(15,_)] ?_
  refine k_F rfl ?_
  refine AWP.exit ?_
  refine athen_exit ?_
  refine athen_exit ?_
  refine ain_same ?_
  refine ⟨_,_,rfl,Mem.Less.refl _,?_⟩
  rw [← h3,← rev_end hij];exact ⟨rfl,R1⟩
set_option maxHeartbeats 1000000 in
theorem soC_order2 {α : Type} [Inhabited α] {enc : α → Value} {cf : α → α → Int} {okP : α → Prop} {g : Nat} {cb : List Value} {S : Mem} (C : CmpC Try.prog enc cf okP g cb S) (b room n cap : Nat) (hb : Fresh S b) (hn : n ≤ 1048576) (d : Array α) (R : Rw okP n d) (c : Nat) (hc : Fresh S c) (hcb : c ≠ b) (ia ie : Int) (a e k : Nat) (ea : ia = a) (ee : ie = e) (ha : a < n) (he : e < n) (hk : k ≤ 1000) :
  ACall Try.prog 210 #[.slice (some ⟨b,0,none⟩) n cap,.int .i64 ia,.int .i64 ie,.pointer (some ⟨c,0,none⟩),.func (.func g) #[] cb.toArray] ((S.set b ⟨3,(d).toList.map enc,room⟩).set c ⟨3,[.int .i64 ((k:Nat):Int)],1⟩) fun r S'=>r = .tuple #[.int .i64 ((order2 (lq cf) d a e k).1:Nat),.int .i64 ((order2 (lq cf) d a e k).2.1:Nat)]∧S'=(S.set b ⟨3,(d).toList.map enc,room⟩).set c ⟨3,[.int .i64 (((order2 (lq cf) d a e k).2.2:Nat):Int)],1⟩:=by
 subst ea ee
 have z:=R.size
 refine ACall.enter (rs:=[.tmp 10,.tmp 11]) 32 [(0,.slice (some ⟨b,0,none⟩) n cap),(1,.int .i64 a),(2,.int .i64 e),(3,.pointer (some ⟨c,0,none⟩)),(4,.func (.func g) #[] cb.toArray)] Try.func210 rfl rfl (Nat.le_of_ble_eq_true rfl) rfl ⟨rfl,rfl,rfl,rfl,rfl,trivial⟩ ?_
 refine k_a (k_s rfl (k_e rfl (AWP.seq (AWP.seq ?_))))
 refine AWP.draw [(0,true),(1,true),(2,true),(3,true),(4,true),(5,true),(6,true),(7,true),(8,true),(9,false),(10,true)] [] mixed (by kernel_rfl) ?_
 refine dP (hc:=fun _=>Calm.move rfl) (h:=?_)
 refine dP (hc:=fun _=>Calm.move rfl) (h:=?_)
 refine dP (hc:=fun _=>Calm.move rfl) (h:=?_)
 refine dP (hc:=fun _=>Calm.indexS Try.underlying24 ty_size_3 rfl rfl (by omega) (by omega)) (h:=?_)
 refine dC (hc:=Calm.load ty_plain_3 rfl (rd_row (k:=e) own_ rw_ rw_)) (h:=?_)
 refine dP (hc:=fun _=>Calm.move rfl) (h:=?_)
 refine dP (hc:=fun _=>Calm.move rfl) (h:=?_)
 refine dP (hc:=fun _=>Calm.indexS Try.underlying24 ty_size_3 rfl rfl (by omega) (by omega)) (h:=?_)
 refine dC (hc:=Calm.load ty_plain_3 rfl (rd_row (k:=a) own_ rw_ rw_)) (h:=?_)
 refine draw_only rfl ?_
 refine ARun.callV (first:=[]) (cap:=cb) (lit_lt rfl) C.go rfl rfl (C.call less_ (R.ok (e) rw_) (R.ok (a) rw_)) ?_
 rintro _ _ ⟨rfl,rfl⟩
 refine arun_nil ⟨fun _=>less_,?_⟩
 refine dP (hc:=fun _=>Calm.bin rfl rfl b_lss) (h:=?_)
 refine draw_nil ?_
 refine athen_n ?_
 refine k_u [(0,_),(1,_),(2,_),(3,_),(4,_),(10,_),(11,_),(22,_)] ?_
 refine AWP.condB rfl (fun hl=>?_) (fun hl=>?_)
 ·have hl:(lq cf) d[e]! d[a]! = true:=hl
  refine k_a (k_m rfl ?_)
  refine rC (Calm.nilCheck rfl) ?_
  refine rC (ld_ ty_plain_3 rfl) ?_
  refine rC (Calm.bin rfl rfl b_add_i64) ?_
  refine rC (Calm.nilCheck rfl) ?_
  refine ARun.store1 rfl rfl ty_size_3 rfl own_ lens_ rfl ?_
  try simp only [k_ms,k_sz,k_ss,k_za,Nat.reduceAdd]
  refine k_n ?_
  refine k_u [(0,_),(1,_),(2,_),(3,_),(4,_),(10,_),(11,_),(22,_)] ?_
  refine k_a (k_m rfl (k_m rfl (k_s rfl (k_e rfl ?_))))
  refine k_u [(0,_),(1,_),(2,_),(3,_),(4,_),(10,_),(11,_),(22,_)] ?_
  refine k_r ?_
  refine ⟨_,_,⟨_,_,rfl,⟨_,_,rfl,rfl,rfl⟩,rfl⟩,Mem.Less.refl _,?_⟩
  exact ⟨by rw [order2,if_pos hl];rfl,by rw [order2,if_pos hl];rfl⟩
 ·have hl:(lq cf) d[e]! d[a]! = false:=hl
  refine k_k (k_a (k_m rfl (k_m rfl (k_s rfl ?_))))
  refine k_e rfl ?_
  refine k_u [(0,_),(1,_),(2,_),(3,_),(4,_),(10,_),(11,_),(22,_)] ?_
  refine AWP.ret ?_
  refine ⟨_,_,⟨_,_,rfl,⟨_,_,rfl,rfl,rfl⟩,rfl⟩,Mem.Less.refl _,?_⟩
  exact ⟨by rw [order2,if_neg (by intro h;exact Bool.noConfusion (hl.symm.trans h))];rfl,by rw [order2,if_neg (by intro h;exact Bool.noConfusion (hl.symm.trans h))]⟩
set_option maxHeartbeats 1000000 in
theorem soC_median {α : Type} [Inhabited α] {enc : α → Value} {cf : α → α → Int} {okP : α → Prop} {g : Nat} {cb : List Value} {S : Mem} (C : CmpC Try.prog enc cf okP g cb S) (b room n cap : Nat) (hb : Fresh S b) (hn : n ≤ 1048576) (d : Array α) (R : Rw okP n d) (c : Nat) (hc : Fresh S c) (hcb : c ≠ b) (ia ie io : Int) (a e o k : Nat) (ea : ia = a) (ee : ie = e) (eo : io = o) (ha : a < n) (he : e < n) (ho : o < n) (hk : k ≤ 900) :
  ACall Try.prog 202 #[.slice (some ⟨b,0,none⟩) n cap,.int .i64 ia,.int .i64 ie,.int .i64 io,.pointer (some ⟨c,0,none⟩),.func (.func g) #[] cb.toArray] ((S.set b ⟨3,(d).toList.map enc,room⟩).set c ⟨3,[.int .i64 ((k:Nat):Int)],1⟩) fun r S'=>r = .int .i64 ((median (lq cf) d a e o k).1:Nat)∧S'=(S.set b ⟨3,(d).toList.map enc,room⟩).set c ⟨3,[.int .i64 (((median (lq cf) d a e o k).2:Nat):Int)],1⟩:=by
 subst ea ee eo
 obtain ⟨⟨x1,y1,k1⟩,h1⟩ : ∃ q,q=order2 (lq cf) d a e k:=⟨_,rfl⟩
 obtain ⟨⟨x2,y2,k2⟩,h2⟩ : ∃ q,q=order2 (lq cf) d y1 o k1:=⟨_,rfl⟩
 obtain ⟨⟨x3,y3,k3⟩,h3⟩ : ∃ q,q=order2 (lq cf) d x1 x2 k2:=⟨_,rfl⟩
 have m1:=ord2_lt (lq cf) h1 ha he
 have m2:=ord2_lt (lq cf) h2 m1.2.1 ho
 have m3:=ord2_lt (lq cf) h3 m1.1 m2.1
 have c1:=soC_order2 C b room n cap hb hn d R c hc hcb a e a e k rfl rfl ha he (by omega)
 have c2:=soC_order2 C b room n cap hb hn d R c hc hcb y1 o y1 o k1 rfl rfl m1.2.1 ho (by omega)
 have c3:=soC_order2 C b room n cap hb hn d R c hc hcb x1 x2 x1 x2 k2 rfl rfl m1.1 m2.1 (by omega)
 have hm:median (lq cf) d a e o k=(y3,k3):=by
  unfold median;simp only [← h1,← h2,← h3]
 rw [hm]
 rw [← h1] at c1;rw [← h2] at c2;rw [← h3] at c3
 dsimp only at c1 c2 c3 ⊢
 clear h1 h2 h3 hm
 refine ACall.enter (rs:=[.tmp 12]) 41 [(0,.slice (some ⟨b,0,none⟩) n cap),(1,.int .i64 a),(2,.int .i64 e),(3,.int .i64 o),(4,.pointer (some ⟨c,0,none⟩)),(5,.func (.func g) #[] cb.toArray)] Try.func202 rfl rfl (Nat.le_of_ble_eq_true rfl) rfl ⟨rfl,rfl,rfl,rfl,rfl,rfl,trivial⟩ ?_
 refine k_a (k_e rfl (k_a (k_m rfl (k_m rfl ?_))))
 refine k_m rfl (k_m rfl (k_m rfl ?_))
 refine ARun.call (lit_lt rfl) go_210 rfl (c1) ?_
 rintro _ _ ⟨rfl,rfl⟩
 refine k_m rfl ?_
 refine rC (Calm.extract rfl rfl) ?_
 refine rC (Calm.extract rfl rfl) ?_
 refine k_s rfl (k_e rfl ?_)
 refine k_u [(0,_),(1,_),(2,_),(3,_),(4,_),(5,_),(12,_)] ?_
 refine k_a (k_m rfl (k_m rfl (k_m rfl (k_m rfl ?_))))
 refine k_m rfl ?_
 refine ARun.call (lit_lt rfl) go_210 rfl (c2) ?_
 rintro _ _ ⟨rfl,rfl⟩
 refine k_m rfl ?_
 refine rC (Calm.extract rfl rfl) ?_
 refine rC (Calm.extract rfl rfl) ?_
 refine k_s rfl (k_e rfl ?_)
 refine k_u [(0,_),(1,_),(2,_),(3,_),(4,_),(5,_),(12,_)] ?_
 refine k_a (k_m rfl (k_m rfl (k_m rfl (k_m rfl ?_))))
 refine k_m rfl ?_
 refine ARun.call (lit_lt rfl) go_210 rfl (c3) ?_
 rintro _ _ ⟨rfl,rfl⟩
 refine k_m rfl ?_
 refine rC (Calm.extract rfl rfl) ?_
 refine rC (Calm.extract rfl rfl) ?_
 refine k_s rfl (k_e rfl ?_)
 refine k_u [(0,_),(1,_),(2,_),(3,_),(4,_),(5,_),(12,_)] ?_
 refine k_a (k_m rfl (k_e rfl ?_))
 refine k_u [(0,_),(1,_),(2,_),(3,_),(4,_),(5,_),(12,_)] ?_
 refine AWP.ret ?_
 refine ⟨_,_,⟨_,_,rfl,rfl,rfl⟩,Mem.Less.refl _,?_⟩
 exact ⟨rfl,rfl⟩
set_option maxHeartbeats 1000000 in
theorem soC_medadj {α : Type} [Inhabited α] {enc : α → Value} {cf : α → α → Int} {okP : α → Prop} {g : Nat} {cb : List Value} {S : Mem} (C : CmpC Try.prog enc cf okP g cb S) (b room n cap : Nat) (hb : Fresh S b) (hn : n ≤ 1048576) (d : Array α) (R : Rw okP n d) (c : Nat) (hc : Fresh S c) (hcb : c ≠ b) (ia : Int) (a k : Nat) (ea : ia = a) (ha : 0 < a) (ha2 : a + 1 < n) (hk : k ≤ 900) :
  ACall Try.prog 201 #[.slice (some ⟨b,0,none⟩) n cap,.int .i64 ia,.pointer (some ⟨c,0,none⟩),.func (.func g) #[] cb.toArray] ((S.set b ⟨3,(d).toList.map enc,room⟩).set c ⟨3,[.int .i64 ((k:Nat):Int)],1⟩) fun r S'=>r = .int .i64 ((medianAdjacent (lq cf) d a k).1:Nat)∧S'=(S.set b ⟨3,(d).toList.map enc,room⟩).set c ⟨3,[.int .i64 (((medianAdjacent (lq cf) d a k).2:Nat):Int)],1⟩:=by
 subst ea
 obtain ⟨a,rfl⟩ : ∃ q,a=q+1:=⟨a-1,by omega⟩
 refine ACall.enter (rs:=[.tmp 8]) 18 [(0,.slice (some ⟨b,0,none⟩) n cap),(1,.int .i64 ((a+1:Nat):Int)),(2,.pointer (some ⟨c,0,none⟩)),(3,.func (.func g) #[] cb.toArray)] Try.func201 rfl rfl (Nat.le_of_ble_eq_true rfl) rfl ⟨rfl,rfl,rfl,rfl,trivial⟩ ?_
 refine k_a (k_e rfl (k_a (k_m rfl (k_m rfl ?_))))
 refine rC (Calm.bin rfl rfl b_sub_i64) ?_
 refine k_m rfl (k_m rfl ?_)
 refine rC (Calm.bin rfl rfl b_add_i64) ?_
 refine k_m rfl (k_m rfl ?_)
 refine ARun.call (lit_lt rfl) go_202 rfl (soC_median C b room n cap hb hn d R c hc hcb _ _ _ a (a+1) (a+2) k om_ rfl om_ (by omega) (by omega) (by omega) hk) ?_
 rintro _ _ ⟨rfl,rfl⟩
 refine k_e rfl ?_
 refine k_u [(0,_),(1,_),(2,_),(3,_),(8,_)] ?_
 refine AWP.ret ?_
 refine ⟨_,_,⟨_,_,rfl,rfl,rfl⟩,Mem.Less.refl _,?_⟩
 exact ⟨rfl,rfl⟩
set_option maxHeartbeats 4000000 in
theorem soC_pivot {α : Type} [Inhabited α] {enc : α → Value} {cf : α → α → Int} {okP : α → Prop} {g : Nat} {cb : List Value} {S : Mem} (C : CmpC Try.prog enc cf okP g cb S) (b room n cap : Nat) (hb : Fresh S b) (hn : n ≤ 1048576) (d : Array α) (R : Rw okP n d) (ia ie : Int) (a e : Nat) (ha : ia = a) (he : ie = e) (hae : a < e) (hen : e ≤ n) :
  ACall Try.prog 170 #[.slice (some ⟨b,0,none⟩) n cap,.int .i64 ia,.int .i64 ie,.func (.func g) #[] cb.toArray] (S.set b ⟨3,(d).toList.map enc,room⟩) fun r S'=>r = .tuple #[.int .i64 ((choosePivot (lq cf) d a e).1:Nat),.int .i64 (hintI (choosePivot (lq cf) d a e).2)]∧S'=S.set b ⟨3,(d).toList.map enc,room⟩∧a≤(choosePivot (lq cf) d a e).1∧(choosePivot (lq cf) d a e).1<e:=by
 subst ha he
 obtain ⟨L,rfl⟩ : ∃ L,e=a+L:=⟨e-a,by omega⟩
 have z:=R.size
 refine ACall.enter (rs:=[.tmp 8,.tmp 9]) 63 [(0,.slice (some ⟨b,0,none⟩) n cap),(1,.int .i64 a),(2,.int .i64 ((a+L:Nat):Int)),(3,.func (.func g) #[] cb.toArray)] Try.func170 rfl rfl (Nat.le_of_ble_eq_true rfl) rfl ⟨rfl,rfl,rfl,rfl,trivial⟩ ?_
 by_cases h8:8≤L
 ·refine k_a (k_s rfl (k_e rfl (k_a (k_m rfl ?_))))
  refine k_m rfl ?_
  refine rC (Calm.bin rfl rfl b_sub_i64) ?_
  refine k_e rfl ?_
  refine k_u [(0,_),(1,_),(2,_),(3,_),(8,_),(9,_),(10,_)] ?_
  refine k_a ?_
  refine ARun.alloc (lit_lt rfl) ty_zero_3 ?_
  intro b11 f11
  have g11:=f11
  repeat ((with_reducible replace g11:=fresh_set g11);obtain ⟨g11,_⟩:=g11)
  try simp only [k_l1,k_l0,k_za,Nat.reduceAdd]
  refine k_n (k_a (k_m rfl (k_m rfl ?_)))
  refine rC (Calm.bin rfl rfl b_quo_i64) ?_
  refine rC (Calm.bin rfl rfl b_mul_i64) ?_
  refine rC (Calm.bin rfl rfl b_add_i64) ?_
  refine k_e rfl ?_
  refine k_u [(0,_),(1,_),(2,_),(3,_),(8,_),(9,_),(10,_),(11,_),(12,_)] ?_
  refine k_a (k_m rfl (k_m rfl ?_))
  refine rC (Calm.bin rfl rfl b_quo_i64) ?_
  refine rC (Calm.bin rfl rfl b_mul_i64) ?_
  refine rC (Calm.bin rfl rfl b_add_i64) ?_
  refine k_e rfl ?_
  refine k_u [(0,_),(1,_),(2,_),(3,_),(8,_),(9,_),(10,_),(11,_),(12,_),(13,_)] ?_
  refine k_a (k_m rfl (k_m rfl ?_))
  refine rC (Calm.bin rfl rfl b_quo_i64) ?_
  refine rC (Calm.bin rfl rfl b_mul_i64) ?_
  refine rC (Calm.bin rfl rfl b_add_i64) ?_
  refine k_e rfl ?_
  refine k_u [(0,_),(1,_),(2,_),(3,_),(8,_),(9,_),(10,_),(11,_),(12,_),(13,_),(14,_)] ?_
  refine AWP.seq (k_a (k_m rfl ?_))
  refine rC (Calm.bin rfl rfl b_geq) ?_
  refine k_n ?_
  refine k_u [(0,_),(1,_),(2,_),(3,_),(8,_),(9,_),(10,_),(11,_),(12,_),(13,_),(14,_),(34,_)] ?_
  refine k_T rfl ?_
  by_cases h50:50≤L
  ·refine AWP.seq (k_a (k_m rfl ?_))
   refine rC (Calm.bin rfl rfl b_geq) ?_
   refine k_n ?_
   refine k_u [(0,_),(1,_),(2,_),(3,_),(8,_),(9,_),(10,_),(11,_),(12,_),(13,_),(14,_),(34,_),(36,_)] ?_
   refine k_T rfl ?_
   obtain ⟨⟨i1,k1⟩,q1⟩ : ∃ q,q=medianAdjacent (lq cf) d (a+L / 4*1) 0:=⟨_,rfl⟩
   obtain ⟨⟨j1,k2⟩,q2⟩ : ∃ q,q=medianAdjacent (lq cf) d (a+L / 4*2) k1:=⟨_,rfl⟩
   obtain ⟨⟨o1,k3⟩,q3⟩ : ∃ q,q=medianAdjacent (lq cf) d (a+L / 4*3) k2:=⟨_,rfl⟩
   obtain ⟨⟨pv,k⟩,q4⟩ : ∃ q,q=median (lq cf) d i1 j1 o1 k3:=⟨_,rfl⟩
   have m1:=medadj_lt (lq cf) q1 (lo:=a) (hi:=a+L) (by omega) (by omega)
   have m2:=medadj_lt (lq cf) q2 (lo:=a) (hi:=a+L) (by omega) (by omega)
   have m3:=medadj_lt (lq cf) q3 (lo:=a) (hi:=a+L) (by omega) (by omega)
   have hr:=median_lt (lq cf) q4 (lo:=a) (hi:=a+L) m1.1 m2.1 m3.1
   have n1:=m1.2;have n2:=m2.2;have n3:=m3.2;have n4:=hr.2
   have hp:choosePivot (lq cf) d a (a+L)=(pv,if k=0 then .increasing else if k=12 then .decreasing else .unknown):=by unfold choosePivot;simp only [Nat.add_sub_cancel_left,if_pos h8,if_pos h50,← q1,← q2,← q3,← q4]
   replace hr:=hr.1
   refine k_a (k_m rfl (k_m rfl (k_m rfl ?_)))
   refine ARun.call (lit_lt rfl) go_201 rfl ((q1 ▸ soC_medadj C b room n cap hb hn d R b11 g11 (by assumption) _ (a+L / 4*1) 0 om_ (by omega) (by omega) (by omega))) ?_
   rintro _ _ ⟨rfl,rfl⟩
   refine k_e rfl ?_
   refine k_u [(0,_),(1,_),(2,_),(3,_),(8,_),(9,_),(10,_),(11,_),(12,_),(13,_),(14,_),(34,_),(36,_)] ?_
   refine k_a (k_m rfl (k_m rfl (k_m rfl ?_)))
   refine ARun.call (lit_lt rfl) go_201 rfl ((q2 ▸ soC_medadj C b room n cap hb hn d R b11 g11 (by assumption) _ (a+L / 4*2) k1 om_ (by omega) (by omega) (by omega))) ?_
   rintro _ _ ⟨rfl,rfl⟩
   refine k_e rfl ?_
   refine k_u [(0,_),(1,_),(2,_),(3,_),(8,_),(9,_),(10,_),(11,_),(12,_),(13,_),(14,_),(34,_),(36,_)] ?_
   refine AWP.region ?_
   refine k_m rfl (k_m rfl (k_m rfl ?_))
   refine ARun.call (lit_lt rfl) go_201 rfl ((q3 ▸ soC_medadj C b room n cap hb hn d R b11 g11 (by assumption) _ (a+L / 4*3) k2 om_ (by omega) (by omega) (by omega))) ?_
   rintro _ _ ⟨rfl,rfl⟩
   refine k_e rfl ?_
   refine k_u [(0,_),(1,_),(2,_),(3,_),(8,_),(9,_),(10,_),(11,_),(12,_),(13,_),(14,_),(34,_),(36,_)] ?_
   refine AWP.region ?_
   refine k_m rfl (k_m rfl (k_m rfl (k_m rfl (k_m rfl ?_))))
   refine ARun.call (lit_lt rfl) go_202 rfl ((q4 ▸ soC_median C b room n cap hb hn d R b11 g11 (by assumption) _ _ _ i1 j1 o1 k3 rfl rfl rfl (by omega) (by omega) (by omega) (by omega))) ?_
   rintro _ _ ⟨rfl,rfl⟩
   refine k_e rfl ?_
   refine k_u [(0,_),(1,_),(2,_),(3,_),(8,_),(9,_),(10,_),(11,_),(12,_),(13,_),(14,_),(34,_),(36,_)] ?_
   by_cases k0:k=0
   ·subst k0
    refine k_a ?_
    refine rC (ld_ ty_plain_3 rfl) ?_
    refine k_n ?_
    refine AWP.block ?_
    refine k_a ?_
    refine rC (Calm.bin rfl rfl b_eql) ?_
    refine k_e rfl ?_
    refine k_u [(0,_),(1,_),(2,_),(3,_),(8,_),(9,_),(10,_),(11,_),(12,_),(13,_),(14,_),(34,_),(36,_),(55,_),(57,_)] ?_
    refine k_T rfl ?_
    refine k_a (k_m rfl (k_s rfl (k_e rfl ?_)))
    refine k_u [(0,_),(1,_),(2,_),(3,_),(8,_),(9,_),(10,_),(11,_),(12,_),(13,_),(14,_),(34,_),(36,_),(55,_),(57,_)] ?_
    refine AWP.ret ?_
    refine ain_ret ?_
    refine ⟨_,S.set b ⟨3,(d).toList.map enc,room⟩,⟨_,_,rfl,⟨_,_,rfl,rfl,rfl⟩,rfl⟩,less_,?_⟩
    exact ⟨by rw [hp];rfl,rfl,by rw [hp];exact hr⟩
   ·refine k_a ?_
    refine rC (ld_ ty_plain_3 rfl) ?_
    refine k_n ?_
    refine AWP.block ?_
    refine k_a ?_
    refine rC (Calm.bin rfl rfl b_eql) ?_
    refine k_e rfl ?_
    refine k_u [(0,_),(1,_),(2,_),(3,_),(8,_),(9,_),(10,_),(11,_),(12,_),(13,_),(14,_),(34,_),(36,_),(55,_),(57,_)] ?_
    refine k_F rfl ?_
    by_cases k1:k=12
    ·subst k1
     refine k_a ?_
     refine rC (Calm.bin rfl rfl b_eql) ?_
     refine k_e rfl ?_
     refine k_u [(0,_),(1,_),(2,_),(3,_),(8,_),(9,_),(10,_),(11,_),(12,_),(13,_),(14,_),(34,_),(36,_),(55,_),(57,_),(60,_)] ?_
     refine k_T rfl ?_
     refine k_a (k_m rfl (k_s rfl (k_e rfl ?_)))
     refine k_u [(0,_),(1,_),(2,_),(3,_),(8,_),(9,_),(10,_),(11,_),(12,_),(13,_),(14,_),(34,_),(36,_),(55,_),(57,_),(60,_)] ?_
     refine AWP.ret ?_
     refine ain_ret ?_
     refine ⟨_,S.set b ⟨3,(d).toList.map enc,room⟩,⟨_,_,rfl,⟨_,_,rfl,rfl,rfl⟩,rfl⟩,less_,?_⟩
     exact ⟨by rw [hp];rfl,rfl,by rw [hp];exact hr⟩
    ·refine k_a ?_
     refine rC (Calm.bin rfl rfl b_eql) ?_
     refine k_e rfl ?_
     refine k_u [(0,_),(1,_),(2,_),(3,_),(8,_),(9,_),(10,_),(11,_),(12,_),(13,_),(14,_),(34,_),(36,_),(55,_),(57,_),(60,_)] ?_
     refine k_F rfl ?_
     refine k_a (k_m rfl (k_s rfl (k_e rfl ?_)))
     refine k_u [(0,_),(1,_),(2,_),(3,_),(8,_),(9,_),(10,_),(11,_),(12,_),(13,_),(14,_),(34,_),(36,_),(55,_),(57,_),(60,_)] ?_
     refine AWP.ret ?_
     refine ain_ret ?_
     refine ⟨_,S.set b ⟨3,(d).toList.map enc,room⟩,⟨_,_,rfl,⟨_,_,rfl,rfl,rfl⟩,rfl⟩,less_,?_⟩
     exact ⟨by rw [hp,piv_hint k0 k1];rfl,rfl,by rw [hp];exact hr⟩
  ·refine AWP.seq (k_a (k_m rfl ?_))
   refine rC (Calm.bin rfl rfl b_geq) ?_
   refine k_n ?_
   refine k_u [(0,_),(1,_),(2,_),(3,_),(8,_),(9,_),(10,_),(11,_),(12,_),(13,_),(14,_),(34,_),(36,_)] ?_
   refine k_F rfl ?_
   obtain ⟨⟨pv,k⟩,q4⟩ : ∃ q,q=median (lq cf) d (a+L / 4*1) (a+L / 4*2) (a+L / 4*3) 0:=⟨_,rfl⟩
   have hr:=median_lt (lq cf) q4 (lo:=a) (hi:=a+L) (by omega) (by omega) (by omega)
   have n4:=hr.2
   have hp:choosePivot (lq cf) d a (a+L)=(pv,if k=0 then .increasing else if k=12 then .decreasing else .unknown):=by unfold choosePivot;simp only [Nat.add_sub_cancel_left,if_pos h8,if_neg h50,← q4]
   replace hr:=hr.1
   refine k_k ?_
   refine AWP.region ?_
   refine k_m rfl (k_m rfl (k_m rfl (k_m rfl (k_m rfl ?_))))
   refine ARun.call (lit_lt rfl) go_202 rfl ((q4 ▸ soC_median C b room n cap hb hn d R b11 g11 (by assumption) _ _ _ (a+L / 4*1) (a+L / 4*2) (a+L / 4*3) 0 om_ om_ om_ (by omega) (by omega) (by omega) (by omega))) ?_
   rintro _ _ ⟨rfl,rfl⟩
   refine k_e rfl ?_
   refine k_u [(0,_),(1,_),(2,_),(3,_),(8,_),(9,_),(10,_),(11,_),(12,_),(13,_),(14,_),(34,_),(36,_)] ?_
   by_cases k0:k=0
   ·subst k0
    refine k_a ?_
    refine rC (ld_ ty_plain_3 rfl) ?_
    refine k_n ?_
    refine AWP.block ?_
    refine k_a ?_
    refine rC (Calm.bin rfl rfl b_eql) ?_
    refine k_e rfl ?_
    refine k_u [(0,_),(1,_),(2,_),(3,_),(8,_),(9,_),(10,_),(11,_),(12,_),(13,_),(14,_),(34,_),(36,_),(55,_),(57,_)] ?_
    refine k_T rfl ?_
    refine k_a (k_m rfl (k_s rfl (k_e rfl ?_)))
    refine k_u [(0,_),(1,_),(2,_),(3,_),(8,_),(9,_),(10,_),(11,_),(12,_),(13,_),(14,_),(34,_),(36,_),(55,_),(57,_)] ?_
    refine AWP.ret ?_
    refine ain_ret ?_
    refine ⟨_,S.set b ⟨3,(d).toList.map enc,room⟩,⟨_,_,rfl,⟨_,_,rfl,rfl,rfl⟩,rfl⟩,less_,?_⟩
    exact ⟨by rw [hp];rfl,rfl,by rw [hp];exact hr⟩
   ·refine k_a ?_
    refine rC (ld_ ty_plain_3 rfl) ?_
    refine k_n ?_
    refine AWP.block ?_
    refine k_a ?_
    refine rC (Calm.bin rfl rfl b_eql) ?_
    refine k_e rfl ?_
    refine k_u [(0,_),(1,_),(2,_),(3,_),(8,_),(9,_),(10,_),(11,_),(12,_),(13,_),(14,_),(34,_),(36,_),(55,_),(57,_)] ?_
    refine k_F rfl ?_
    by_cases k1:k=12
    ·subst k1
     refine k_a ?_
     refine rC (Calm.bin rfl rfl b_eql) ?_
     refine k_e rfl ?_
     refine k_u [(0,_),(1,_),(2,_),(3,_),(8,_),(9,_),(10,_),(11,_),(12,_),(13,_),(14,_),(34,_),(36,_),(55,_),(57,_),(60,_)] ?_
     refine k_T rfl ?_
     refine k_a (k_m rfl (k_s rfl (k_e rfl ?_)))
     refine k_u [(0,_),(1,_),(2,_),(3,_),(8,_),(9,_),(10,_),(11,_),(12,_),(13,_),(14,_),(34,_),(36,_),(55,_),(57,_),(60,_)] ?_
     refine AWP.ret ?_
     refine ain_ret ?_
     refine ⟨_,S.set b ⟨3,(d).toList.map enc,room⟩,⟨_,_,rfl,⟨_,_,rfl,rfl,rfl⟩,rfl⟩,less_,?_⟩
     exact ⟨by rw [hp];rfl,rfl,by rw [hp];exact hr⟩
    ·refine k_a ?_
     refine rC (Calm.bin rfl rfl b_eql) ?_
     refine k_e rfl ?_
     refine k_u [(0,_),(1,_),(2,_),(3,_),(8,_),(9,_),(10,_),(11,_),(12,_),(13,_),(14,_),(34,_),(36,_),(55,_),(57,_),(60,_)] ?_
     refine k_F rfl ?_
     refine k_a (k_m rfl (k_s rfl (k_e rfl ?_)))
     refine k_u [(0,_),(1,_),(2,_),(3,_),(8,_),(9,_),(10,_),(11,_),(12,_),(13,_),(14,_),(34,_),(36,_),(55,_),(57,_),(60,_)] ?_
     refine AWP.ret ?_
     refine ain_ret ?_
     refine ⟨_,S.set b ⟨3,(d).toList.map enc,room⟩,⟨_,_,rfl,⟨_,_,rfl,rfl,rfl⟩,rfl⟩,less_,?_⟩
     exact ⟨by rw [hp,piv_hint k0 k1];rfl,rfl,by rw [hp];exact hr⟩
 ·refine k_a (k_s rfl (k_e rfl (k_a (k_m rfl ?_))))
  refine k_m rfl ?_
  refine rC (Calm.bin rfl rfl b_sub_i64) ?_
  refine k_e rfl ?_
  refine k_u [(0,_),(1,_),(2,_),(3,_),(8,_),(9,_),(10,_)] ?_
  refine k_a ?_
  refine ARun.alloc (lit_lt rfl) ty_zero_3 ?_
  intro b11 f11
  have g11:=f11
  repeat ((with_reducible replace g11:=fresh_set g11);obtain ⟨g11,_⟩:=g11)
  try simp only [k_l1,k_l0,k_za,Nat.reduceAdd]
  refine k_n (k_a (k_m rfl (k_m rfl ?_)))
  refine rC (Calm.bin rfl rfl b_quo_i64) ?_
  refine rC (Calm.bin rfl rfl b_mul_i64) ?_
  refine rC (Calm.bin rfl rfl b_add_i64) ?_
  refine k_e rfl ?_
  refine k_u [(0,_),(1,_),(2,_),(3,_),(8,_),(9,_),(10,_),(11,_),(12,_)] ?_
  refine k_a (k_m rfl (k_m rfl ?_))
  refine rC (Calm.bin rfl rfl b_quo_i64) ?_
  refine rC (Calm.bin rfl rfl b_mul_i64) ?_
  refine rC (Calm.bin rfl rfl b_add_i64) ?_
  refine k_e rfl ?_
  refine k_u [(0,_),(1,_),(2,_),(3,_),(8,_),(9,_),(10,_),(11,_),(12,_),(13,_)] ?_
  refine k_a (k_m rfl (k_m rfl ?_))
  refine rC (Calm.bin rfl rfl b_quo_i64) ?_
  refine rC (Calm.bin rfl rfl b_mul_i64) ?_
  refine rC (Calm.bin rfl rfl b_add_i64) ?_
  refine k_e rfl ?_
  refine k_u [(0,_),(1,_),(2,_),(3,_),(8,_),(9,_),(10,_),(11,_),(12,_),(13,_),(14,_)] ?_
  refine AWP.seq (k_a (k_m rfl ?_))
  refine rC (Calm.bin rfl rfl b_geq) ?_
  refine k_n ?_
  refine k_u [(0,_),(1,_),(2,_),(3,_),(8,_),(9,_),(10,_),(11,_),(12,_),(13,_),(14,_),(34,_)] ?_
  refine k_F rfl ?_
  have hp:choosePivot (lq cf) d a (a+L)=(a+L / 4*2,.increasing):=by unfold choosePivot;simp only [Nat.add_sub_cancel_left,if_neg h8];rfl
  refine k_k (k_a ?_)
  refine rC (ld_ ty_plain_3 rfl) ?_
  refine k_n ?_
  refine AWP.block ?_
  refine k_a ?_
  refine rC (Calm.bin rfl rfl b_eql) ?_
  refine k_e rfl ?_
  refine k_u [(0,_),(1,_),(2,_),(3,_),(8,_),(9,_),(10,_),(11,_),(12,_),(13,_),(14,_),(34,_),(55,_),(57,_)] ?_
  refine k_T rfl ?_
  refine k_a (k_m rfl (k_s rfl (k_e rfl ?_)))
  refine k_u [(0,_),(1,_),(2,_),(3,_),(8,_),(9,_),(10,_),(11,_),(12,_),(13,_),(14,_),(34,_),(55,_),(57,_)] ?_
  refine AWP.ret ?_
  refine ain_ret ?_
  refine ⟨_,S.set b ⟨3,(d).toList.map enc,room⟩,⟨_,_,rfl,⟨_,_,rfl,rfl,rfl⟩,rfl⟩,less_,?_⟩
  exact ⟨by rw [hp];exact piv_val om_,rfl,by rw [hp];exact ⟨by show a≤a+L / 4*2;omega,by show a+L / 4*2<a+L;omega⟩⟩
set_option maxHeartbeats 4000000 in
theorem soC_brk {α : Type} [Inhabited α] {enc : α → Value} {cf : α → α → Int} {okP : α → Prop} {g : Nat} {cb : List Value} {S : Mem} (C : CmpC Try.prog enc cf okP g cb S) (b room n cap : Nat) (hb : Fresh S b) (hn : n ≤ 1048576) (d : Array α) (R : Rw okP n d) (ia ie : Int) (a e : Nat) (ha : ia = a) (he : ie = e) (hae : a ≤ e) (hen : e ≤ n) :
  ACall Try.prog 169 #[.slice (some ⟨b,0,none⟩) n cap,.int .i64 ia,.int .i64 ie,.func (.func g) #[] cb.toArray] (S.set b ⟨3,(d).toList.map enc,room⟩) fun r S'=>S'=S.set b ⟨3,(breakPatterns d a e).toList.map enc,room⟩∧Rw okP n (breakPatterns d a e):=by
 subst ha he
 obtain ⟨L,rfl⟩ : ∃ L,e=a+L:=⟨e-a,by omega⟩
 have z:=R.size
 by_cases h8:8≤L
 ·have hbp:=bp_eq (d:=d) (a:=a) h8
  have hmb:=bp_mod L (by omega) (by omega)
  generalize hmo:1 <<< bitsLen L=mo at *
  generalize hba:a+L / 4*2-1=ba at *
  have hoL:((UInt64.ofNat L).toNat:Nat)=L:=by rw [UInt64.toNat_ofNat'];exact Nat.mod_eq_of_lt (by omega)
  refine ACall.enter (rs:=[]) 67 [(0,.slice (some ⟨b,0,none⟩) n cap),(1,.int .i64 a),(2,.int .i64 ((a+L:Nat):Int)),(3,.func (.func g) #[] cb.toArray)] Try.func169 rfl rfl (Nat.le_of_ble_eq_true rfl) rfl ⟨rfl,rfl,rfl,rfl,trivial⟩ ?_
  refine k_a (k_m rfl (k_m rfl ?_))
  refine rC (Calm.bin rfl rfl b_sub_i64) ?_
  refine k_e rfl ?_
  refine k_u [(0,_),(1,_),(2,_),(8,_)] ?_
  refine k_a (k_m rfl ?_)
  refine rC (Calm.bin rfl rfl b_geq) ?_
  refine k_n ?_
  refine k_u [(0,_),(1,_),(2,_),(8,_),(17,_)] ?_
  refine k_T rfl ?_
  refine k_a (k_m rfl ?_)
  refine rC (Calm.conv rfl (conv_intW Try.underlying3 Try.underlying188 (IntWalk.u64_in _ (by omega)))) ?_
  refine ARun.alloc (lit_lt rfl) ty_zero_188 ?_
  intro b9 f9
  have g9:=f9
  repeat ((with_reducible replace g9:=fresh_set g9);obtain ⟨g9,_⟩:=g9)
  try simp only [k_l1,k_l0,k_za,Nat.reduceAdd]
  refine ARun.store1 rfl rfl ty_size_188 rfl own_ lens_ rfl ?_
  try simp only [k_ms,k_sz,k_ss,k_za,Nat.reduceAdd]
  refine k_n ?_
  refine k_u [(0,_),(1,_),(2,_),(8,_),(17,_),(9,_)] ?_
  refine AWP.less ((S.set b ⟨3,(d).toList.map enc,room⟩).set b9 (xorB (UInt64.ofNat L).toNat)) (by unfold xorB;rw [hoL,show ((a+L:Nat):Int)-(a:Int)=(L:Int) by omega];exact Mem.Less.refl _) ?_
  refine k_a (k_m rfl ?_)
  refine ARun.call (lit_lt rfl) go_179 rfl ((hmo ▸ so_pow _ L om_ (by omega) _)) ?_
  rintro _ _ ⟨rfl,rfl⟩
  refine k_e rfl ?_
  refine k_u [(0,_),(1,_),(2,_),(8,_),(17,_),(9,_),(10,_)] ?_
  refine k_a (k_m rfl (k_m rfl ?_))
  refine rC (Calm.bin rfl rfl b_quo_i64) ?_
  refine rC (Calm.bin rfl rfl b_mul_i64) ?_
  refine rC (Calm.bin rfl rfl b_add_i64) ?_
  refine rC (Calm.bin rfl rfl b_sub_i64) ?_
  refine k_e rfl ?_
  refine k_u [(0,_),(1,_),(2,_),(8,_),(17,_),(9,_),(10,_),(11,_)] ?_
  refine AWP.block ?_
  refine AWP.loop (X:=Nat × UInt64 × Array α) (fun x=>[(0,.slice (some ⟨b,0,none⟩) n cap),(1,.int .i64 a),(8,.int .i64 L),(9,.pointer (some ⟨b9,0,none⟩)),(10,.int .u64 mo),(11,.int .i64 ((ba+(3-x.1):Nat):Int))]) (fun x=>(S.set b ⟨3,(x.2.2).toList.map enc,room⟩).set b9 (xorB (x.2.1).toNat)) (fun x=>x.1≤3∧Rw okP n x.2.2∧bpR a L mo ba x.1 x.2=bpR a L mo ba 3 (UInt64.ofNat L,d)) (fun x=>x.1) ((3,UInt64.ofNat L,d)) ⟨sb_,sb_,sb_,sb_,sb_,sb_,trivial⟩ (Mem.Less.refl _) (⟨Nat.le_refl _,R,rfl⟩) ?_
  rintro ⟨k,r,d1⟩ ⟨h1,R1,h3⟩
  (try dsimp only at *)
  have z1:=R1.size
  by_cases hk:0<k
  ·obtain ⟨k,rfl⟩ : ∃ q,k=q+1:=⟨k-1,by omega⟩
   refine AWP.seq (k_a (k_m rfl (k_m rfl (k_m rfl ?_))))
   refine rC (Calm.bin rfl rfl b_quo_i64) ?_
   refine rC (Calm.bin rfl rfl b_mul_i64) ?_
   refine rC (Calm.bin rfl rfl b_add_i64) ?_
   refine rC (Calm.bin rfl rfl b_add_i64) ?_
   refine rC (Calm.bin rfl rfl b_leq) ?_
   refine k_n ?_
   refine k_u [(0,_),(1,_),(8,_),(9,_),(10,_),(11,_),(35,_)] ?_
   refine k_T rfl ?_
   obtain ⟨r',hr'⟩ : ∃ r',r'=xorNext r:=⟨_,rfl⟩
   obtain ⟨o,ho⟩ : ∃ o,o=r'.toNat &&& (mo-1):=⟨_,rfl⟩
   have ho1:o≤mo-1:=by rw [ho];exact Nat.and_le_right
   have han:=and_n64 r'.toNat (mo-1) r'.toNat_lt (by omega)
   rw [← ho] at han
   refine k_k (AWP.seq ?_)
   refine AWP.block ?_
   refine k_a ?_
   refine ARun.call (lit_lt rfl) go_180 rfl ((hr' ▸ so_next b9 r _ (fresh_more g9 (by assumption)))) ?_
   rintro _ _ ⟨rfl,rfl⟩
   refine k_m rfl ?_
   refine rC (Calm.bin rfl rfl (bin_subW (sub_u64 mo (by omega) (by omega)))) ?_
   refine rC (Calm.bin rfl rfl (bin_andE han)) ?_
   refine rC (Calm.conv rfl (by first | exact conv_intW Try.underlying139 Try.underlying3 (IntWalk.i64_in _ (by omega)) | exact conv_int Try.underlying139 Try.underlying3)) ?_
   refine k_e rfl ?_
   refine k_u [(0,_),(1,_),(8,_),(9,_),(10,_),(11,_),(35,_),(12,_)] ?_
   by_cases hoL2:L≤o
   ·refine AWP.seq (k_a (k_m rfl (k_m rfl ?_)))
    refine rC (Calm.bin rfl rfl b_geq) ?_
    refine k_n ?_
    refine k_u [(0,_),(1,_),(8,_),(9,_),(10,_),(11,_),(35,_),(12,_),(45,_)] ?_
    refine k_T rfl ?_
    refine AWP.region ?_
    refine k_m rfl (k_m rfl ?_)
    refine rC (Calm.bin rfl rfl b_sub_i64) ?_
    refine k_e rfl ?_
    refine k_u [(0,_),(1,_),(8,_),(9,_),(10,_),(11,_),(35,_),(12,_),(45,_)] ?_
    refine AWP.draw [(0,true),(1,true),(2,true),(3,true),(4,true),(5,true),(6,true),(7,true),(8,true),(9,true),(10,true),(11,true),(12,true),(13,true),(14,true),(15,true),(16,true),(17,false),(18,true),(19,false)] [17,19] mixed (by kernel_rfl) ?_
    refine dP (hc:=fun _=>Calm.move rfl) (h:=?_)
    refine dP (hc:=fun _=>Calm.move rfl) (h:=?_)
    refine dP (hc:=fun _=>Calm.move rfl) (h:=?_)
    refine dP (hc:=fun _=>Calm.move rfl) (h:=?_)
    refine dP (hc:=fun _=>Calm.move rfl) (h:=?_)
    refine dP (hc:=fun _=>Calm.bin rfl rfl b_add_i64) (h:=?_)
    refine dP (hc:=fun _=>Calm.move rfl) (h:=?_)
    refine dP (hc:=fun _=>Calm.move rfl) (h:=?_)
    refine dP (hc:=fun _=>Calm.move rfl) (h:=?_)
    refine dP (hc:=fun _=>Calm.bin rfl rfl b_add_i64) (h:=?_)
    refine dP (hc:=fun _=>Calm.indexS Try.underlying24 ty_size_3 rfl rfl (by omega) (by omega)) (h:=?_)
    refine dC (hc:=Calm.load ty_plain_3 rfl (rd_row (k:=a+(o-L)) own_ rw_ rw_)) (h:=?_)
    refine dP (hc:=fun _=>Calm.move rfl) (h:=?_)
    refine dP (hc:=fun _=>Calm.move rfl) (h:=?_)
    refine dP (hc:=fun _=>Calm.indexS Try.underlying24 ty_size_3 rfl rfl (by omega) (by omega)) (h:=?_)
    refine dC (hc:=Calm.load ty_plain_3 rfl (rd_row (k:=ba+(2-k)) own_ rw_ rw_)) (h:=?_)
    refine dP (hc:=fun _=>Calm.indexS Try.underlying24 ty_size_3 rfl rfl (by omega) (by omega)) (h:=?_)
    refine draw_only rfl ?_
    refine ARun.storeRow enc (ba+(2-k)) rfl rfl ty_size_3 (C.one _) own_ rw_ rw_ ?_
    try simp only [k_ms,k_sz,k_ss,k_za,Nat.reduceAdd]
    refine arun_nil ⟨fun h=>absurd h (by decide),?_⟩
    refine dP (hc:=fun _=>Calm.indexS Try.underlying24 ty_size_3 rfl rfl (by omega) (by omega)) (h:=?_)
    refine draw_only rfl ?_
    refine ARun.storeRow enc (a+(o-L)) rfl rfl ty_size_3 (C.one _) own_ rw_ rw_ ?_
    try simp only [k_ms,k_sz,k_ss,k_za,Nat.reduceAdd]
    refine arun_nil ⟨fun h=>absurd h (by decide),?_⟩
    refine draw_nil ?_
    refine ain_n ?_
    refine athen_n ?_
    refine k_u [(0,_),(1,_),(8,_),(9,_),(10,_),(11,_),(35,_),(12,_),(45,_)] ?_
    refine AWP.region ?_
    refine k_m rfl ?_
    refine rC (Calm.bin rfl rfl b_add_i64) ?_
    refine k_e rfl ?_
    refine ⟨(k,r',swp d1 (ba+(2-k)) (a+(o-L))),?_,?_,?_,?_⟩
    all_goals (try dsimp only)
    ·exact ⟨sb_,sb_,sb_,sb_,sb_,sb_,trivial⟩
    ·rw [set_over _ _ _ _ (by first | assumption | (apply Ne.symm;assumption))];exact Mem.Less.refl _
    ·exact ⟨by omega,R1.swp _ _ (by omega) (by omega),by rw [← h3,bpR_succ,← hr',← ho,if_pos hoL2]⟩
    ·omega
   ·refine AWP.seq (k_a (k_m rfl (k_m rfl ?_)))
    refine rC (Calm.bin rfl rfl b_geq) ?_
    refine k_n ?_
    refine k_u [(0,_),(1,_),(8,_),(9,_),(10,_),(11,_),(35,_),(12,_),(45,_)] ?_
    refine k_F rfl ?_
    refine k_k ?_
    refine AWP.draw [(0,true),(1,true),(2,true),(3,true),(4,true),(5,true),(6,true),(7,true),(8,true),(9,true),(10,true),(11,true),(12,true),(13,true),(14,true),(15,true),(16,true),(17,false),(18,true),(19,false)] [17,19] mixed (by kernel_rfl) ?_
    refine dP (hc:=fun _=>Calm.move rfl) (h:=?_)
    refine dP (hc:=fun _=>Calm.move rfl) (h:=?_)
    refine dP (hc:=fun _=>Calm.move rfl) (h:=?_)
    refine dP (hc:=fun _=>Calm.move rfl) (h:=?_)
    refine dP (hc:=fun _=>Calm.move rfl) (h:=?_)
    refine dP (hc:=fun _=>Calm.bin rfl rfl b_add_i64) (h:=?_)
    refine dP (hc:=fun _=>Calm.move rfl) (h:=?_)
    refine dP (hc:=fun _=>Calm.move rfl) (h:=?_)
    refine dP (hc:=fun _=>Calm.move rfl) (h:=?_)
    refine dP (hc:=fun _=>Calm.bin rfl rfl b_add_i64) (h:=?_)
    refine dP (hc:=fun _=>Calm.indexS Try.underlying24 ty_size_3 rfl rfl (by omega) (by omega)) (h:=?_)
    refine dC (hc:=Calm.load ty_plain_3 rfl (rd_row (k:=a+o) own_ rw_ rw_)) (h:=?_)
    refine dP (hc:=fun _=>Calm.move rfl) (h:=?_)
    refine dP (hc:=fun _=>Calm.move rfl) (h:=?_)
    refine dP (hc:=fun _=>Calm.indexS Try.underlying24 ty_size_3 rfl rfl (by omega) (by omega)) (h:=?_)
    refine dC (hc:=Calm.load ty_plain_3 rfl (rd_row (k:=ba+(2-k)) own_ rw_ rw_)) (h:=?_)
    refine dP (hc:=fun _=>Calm.indexS Try.underlying24 ty_size_3 rfl rfl (by omega) (by omega)) (h:=?_)
    refine draw_only rfl ?_
    refine ARun.storeRow enc (ba+(2-k)) rfl rfl ty_size_3 (C.one _) own_ rw_ rw_ ?_
    try simp only [k_ms,k_sz,k_ss,k_za,Nat.reduceAdd]
    refine arun_nil ⟨fun h=>absurd h (by decide),?_⟩
    refine dP (hc:=fun _=>Calm.indexS Try.underlying24 ty_size_3 rfl rfl (by omega) (by omega)) (h:=?_)
    refine draw_only rfl ?_
    refine ARun.storeRow enc (a+o) rfl rfl ty_size_3 (C.one _) own_ rw_ rw_ ?_
    try simp only [k_ms,k_sz,k_ss,k_za,Nat.reduceAdd]
    refine arun_nil ⟨fun h=>absurd h (by decide),?_⟩
    refine draw_nil ?_
    refine ain_n ?_
    refine athen_n ?_
    refine k_u [(0,_),(1,_),(8,_),(9,_),(10,_),(11,_),(35,_),(12,_),(45,_)] ?_
    refine AWP.region ?_
    refine k_m rfl ?_
    refine rC (Calm.bin rfl rfl b_add_i64) ?_
    refine k_e rfl ?_
    refine ⟨(k,r',swp d1 (ba+(2-k)) (a+o)),?_,?_,?_,?_⟩
    all_goals (try dsimp only)
    ·exact ⟨sb_,sb_,sb_,sb_,sb_,sb_,trivial⟩
    ·rw [set_over _ _ _ _ (by first | assumption | (apply Ne.symm;assumption))];exact Mem.Less.refl _
    ·exact ⟨by omega,R1.swp _ _ (by omega) (by omega),by rw [← h3,bpR_succ,← hr',← ho,if_neg hoL2]⟩
    ·omega
  ·obtain rfl:k=0:=by omega
   refine AWP.seq (k_a (k_m rfl (k_m rfl (k_m rfl ?_))))
   refine rC (Calm.bin rfl rfl b_quo_i64) ?_
   refine rC (Calm.bin rfl rfl b_mul_i64) ?_
   refine rC (Calm.bin rfl rfl b_add_i64) ?_
   refine rC (Calm.bin rfl rfl b_add_i64) ?_
   refine rC (Calm.bin rfl rfl b_leq) ?_
   refine k_n ?_
   refine k_u [(0,_),(1,_),(8,_),(9,_),(10,_),(11,_),(35,_)] ?_
   refine k_F rfl ?_
   refine AWP.exit ?_
   refine athen_exit ?_
   refine athen_exit ?_
   refine ain_same ?_
   refine ⟨_,S.set b ⟨3,(d1).toList.map enc,room⟩,rfl,less_,?_⟩
   rw [hbp,← h3];exact ⟨rfl,R1⟩
 ·have hbp:breakPatterns d a (a+L)=d:=by unfold breakPatterns;simp only [Nat.add_sub_cancel_left];rw [if_neg (by omega)]
  rw [hbp]
  refine ACall.enter (rs:=[]) 67 [(0,.slice (some ⟨b,0,none⟩) n cap),(1,.int .i64 a),(2,.int .i64 ((a+L:Nat):Int)),(3,.func (.func g) #[] cb.toArray)] Try.func169 rfl rfl (Nat.le_of_ble_eq_true rfl) rfl ⟨rfl,rfl,rfl,rfl,trivial⟩ ?_
  refine k_a (k_m rfl (k_m rfl ?_))
  refine rC (Calm.bin rfl rfl b_sub_i64) ?_
  refine k_e rfl ?_
  refine k_u [(0,_),(1,_),(2,_),(8,_)] ?_
  refine k_a (k_m rfl ?_)
  refine rC (Calm.bin rfl rfl b_geq) ?_
  refine k_n ?_
  refine k_u [(0,_),(1,_),(2,_),(8,_),(17,_)] ?_
  refine k_F rfl ?_
  refine AWP.skip ?_
  refine ⟨_,_,rfl,Mem.Less.refl _,?_⟩
  exact ⟨rfl,R⟩
set_option maxHeartbeats 4000000 in
theorem soC_pins {α : Type} [Inhabited α] {enc : α → Value} {cf : α → α → Int} {okP : α → Prop} {g : Nat} {cb : List Value} {S : Mem} (C : CmpC Try.prog enc cf okP g cb S) (b room n cap : Nat) (hb : Fresh S b) (hn : n ≤ 1048576) (d : Array α) (R : Rw okP n d) (ia ie : Int) (a e : Nat) (ha : ia = a) (he : ie = e) (hae : a < e) (hen : e ≤ n) :
  ACall Try.prog 172 #[.slice (some ⟨b,0,none⟩) n cap,.int .i64 ia,.int .i64 ie,.func (.func g) #[] cb.toArray] (S.set b ⟨3,(d).toList.map enc,room⟩) fun r S'=>r = .bool (partialInsertionSort (lq cf) d a e).2∧S'=S.set b ⟨3,((partialInsertionSort (lq cf) d a e).1).toList.map enc,room⟩∧Rw okP n (partialInsertionSort (lq cf) d a e).1:=by
 subst ha he
 refine ACall.enter (rs:=[.tmp 8]) 141 [(0,.slice (some ⟨b,0,none⟩) n cap),(1,.int .i64 a),(2,.int .i64 e),(3,.func (.func g) #[] cb.toArray)] Try.func172 rfl rfl (Nat.le_of_ble_eq_true rfl) rfl ⟨rfl,rfl,rfl,rfl,trivial⟩ ?_
 refine k_a (k_e rfl (k_a (k_m rfl ?_)))
 refine rC (Calm.bin rfl rfl b_add_i64) ?_
 refine k_e rfl ?_
 refine k_u [(0,_),(1,_),(2,_),(3,_),(8,_),(9,_)] ?_
 refine AWP.seq (k_a (k_e rfl ?_))
 refine AWP.block ?_
 refine AWP.loop (X:=Nat × Nat × Array α) (fun x=>[(0,.slice (some ⟨b,0,none⟩) n cap),(1,.int .i64 a),(2,.int .i64 e),(3,.func (.func g) #[] cb.toArray),(9,.int .i64 x.2.1),(10,.int .i64 ((5-x.1:Nat):Int))]) (fun x=>S.set b ⟨3,(x.2.2).toList.map enc,room⟩) (fun x=>x.1≤5∧a+1≤x.2.1∧x.2.1≤e∧Rw okP n x.2.2∧partialIns (lq cf) a e x.1 x.2.1 x.2.2=partialInsertionSort (lq cf) d a e) (fun x=>x.1) ((5,a+1,d)) ⟨sb_,sb_,sb_,sb_,sb_,sb_,trivial⟩ (Mem.Less.refl _) (⟨Nat.le_refl _,by dsimp only;omega,by dsimp only;omega,R,rfl⟩) ?_
 rintro ⟨s,i,d1⟩ ⟨h1,h2,h4,R1,h3⟩
 (try dsimp only at *)
 have z1:=R1.size
 by_cases hs:0<s
 ·obtain ⟨s,rfl⟩ : ∃ q,s=q+1:=⟨s-1,by omega⟩
  refine AWP.seq (k_a (k_m rfl ?_))
  refine rC (Calm.bin rfl rfl b_lss) ?_
  refine k_n ?_
  refine k_u [(0,_),(1,_),(2,_),(3,_),(9,_),(10,_),(16,_)] ?_
  refine k_T rfl ?_
  refine k_k (AWP.seq ?_)
  refine AWP.block ?_
  refine AWP.seq ?_
  refine AWP.join (X:=Nat) (fun x=>[(0,.slice (some ⟨b,0,none⟩) n cap),(1,.int .i64 a),(2,.int .i64 e),(3,.func (.func g) #[] cb.toArray),(9,.int .i64 x),(10,.int .i64 ((5-(s+1):Nat):Int))]) (fun _=>S.set b ⟨3,(d1).toList.map enc,room⟩) (fun x=>a+1≤x∧x≤e∧x=scanSorted (lq cf) d1 e i) ?_ ?_
  ·refine AWP.block ?_
   refine AWP.loop (X:=Nat) (fun x=>[(0,.slice (some ⟨b,0,none⟩) n cap),(1,.int .i64 a),(2,.int .i64 e),(3,.func (.func g) #[] cb.toArray),(9,.int .i64 x),(10,.int .i64 ((5-(s+1):Nat):Int))]) (fun _=>S.set b ⟨3,(d1).toList.map enc,room⟩) (fun x=>a+1≤x∧x≤e∧scanSorted (lq cf) d1 e x=scanSorted (lq cf) d1 e i) (fun x=>e-x) (i) ⟨sb_,sb_,sb_,sb_,sb_,sb_,trivial⟩ (Mem.Less.refl _) (⟨h2,h4,rfl⟩) ?_
   rintro x ⟨q1,q2,q3⟩
   (try dsimp only at *)
   by_cases hx:x<e
   ·obtain ⟨x,rfl⟩ : ∃ q,x=q+1:=⟨x-1,by omega⟩
    refine AWP.seq (AWP.seq ?_)
    refine AWP.draw [(0,true),(1,true),(2,true),(3,true),(4,true),(5,true),(6,true),(7,true),(8,true),(9,true),(10,true),(11,true),(12,true),(13,true),(14,false),(15,true),(16,true),(17,true)] [] mixed (by kernel_rfl) ?_
    refine dP (hc:=fun _=>Calm.move rfl) (h:=?_)
    refine dP (hc:=fun _=>Calm.move rfl) (h:=?_)
    refine dP (hc:=fun _=>Calm.bin rfl rfl b_lss) (h:=?_)
    refine dP (hc:=fun _=>Calm.move rfl) (h:=?_)
    first|refine k_d ?_|refine dG (hc:=fun _=>Calm.move rfl) (h:=?_)
    first|refine k_d ?_|refine dG (hc:=fun _=>Calm.move rfl) (h:=?_)
    first|refine k_d ?_|refine dG (hc:=fun _=>Calm.move rfl) (h:=?_)
    first|refine k_d ?_|refine dG (hc:=fun _=>Calm.indexS Try.underlying24 ty_size_3 rfl rfl (by omega) (by omega)) (h:=?_)
    first|refine k_d ?_|refine dL (hc:=Calm.load ty_plain_3 rfl (rd_row (k:=x+1) own_ rw_ rw_)) (h:=?_)
    first|refine k_d ?_|refine dG (hc:=fun _=>Calm.move rfl) (h:=?_)
    first|refine k_d ?_|refine dG (hc:=fun _=>Calm.move rfl) (h:=?_)
    first|refine k_d ?_|refine dG (hc:=fun _=>Calm.bin rfl rfl b_sub_i64) (h:=?_)
    first|refine k_d ?_|refine dG (hc:=fun _=>Calm.indexS Try.underlying24 ty_size_3 rfl rfl (by omega) (by omega)) (h:=?_)
    first|refine k_d ?_|refine dL (hc:=Calm.load ty_plain_3 rfl (rd_row (k:=x) own_ rw_ rw_)) (h:=?_)
    refine draw_only rfl ?_
    refine rUn 22 ?_
    refine ARun.callV (first:=[]) (cap:=cb) (lit_lt rfl) C.go rfl rfl (C.call less_ (R1.ok (x+1) rw_) (R1.ok (x) rw_)) ?_
    rintro _ _ ⟨rfl,rfl⟩
    refine arun_nil ⟨fun _=>less_,?_⟩
    first|refine k_d ?_|refine dG (hc:=fun _=>Calm.bin rfl rfl b_lss) (h:=?_)
    first|refine k_d ?_|refine dG (hc:=fun _=>Calm.un rfl (una_not _)) (h:=?_)
    refine dP (hc:=fun _=>(by first | exact Calm.pickT rfl rfl | exact Calm.pickF rfl rfl)) (h:=?_)
    refine draw_nil ?_
    refine athen_n ?_
    refine k_u [(0,_),(1,_),(2,_),(3,_),(9,_),(10,_),(36,_)] ?_
    refine AWP.condB rfl (fun hl=>?_) (fun hl=>?_)
    ·have hl:=nt_ hl
     refine k_k ?_
     refine AWP.block ?_
     refine AWP.region ?_
     refine k_m rfl ?_
     refine rC (Calm.bin rfl rfl b_add_i64) ?_
     refine k_s rfl ?_
     refine arun_nil ?_
     refine ain_n ?_
     refine athen_n ?_
     refine ⟨x+1+1,?_,?_,?_,?_⟩
     all_goals (try dsimp only)
     ·exact ⟨sb_,sb_,sb_,sb_,sb_,sb_,trivial⟩
     ·exact Mem.Less.refl _
     ·exact ⟨by omega,by omega,(ss_go (lq cf) hx (by rw [Nat.add_sub_cancel];exact hl)).trans q3⟩
     ·omega
    ·have hl:=nf_ hl
     refine AWP.exit ?_
     refine athen_exit ?_
     refine athen_exit ?_
     refine ain_same ?_
     refine ⟨(x+1),?_,?_,?_⟩
     all_goals (try dsimp only)
     ·exact ⟨by omega,by omega,(ss_no (lq cf) (by rw [Nat.add_sub_cancel];exact hl)).trans q3⟩
     ·exact ⟨sb_,sb_,sb_,sb_,sb_,sb_,trivial⟩
     ·exact Mem.Less.refl _
   ·refine AWP.seq (AWP.seq ?_)
    refine AWP.draw [(0,true),(1,true),(2,true),(3,true),(4,true),(5,true),(6,true),(7,true),(8,true),(9,true),(10,true),(11,true),(12,true),(13,true),(14,false),(15,true),(16,true),(17,true)] [] mixed (by kernel_rfl) ?_
    refine dP (hc:=fun _=>Calm.move rfl) (h:=?_)
    refine dP (hc:=fun _=>Calm.move rfl) (h:=?_)
    refine dP (hc:=fun _=>Calm.bin rfl rfl b_lss) (h:=?_)
    refine dP (hc:=fun _=>Calm.move rfl) (h:=?_)
    first|refine k_d ?_|refine dG (hc:=fun _=>Calm.move rfl) (h:=?_)
    first|refine k_d ?_|refine dG (hc:=fun _=>Calm.move rfl) (h:=?_)
    first|refine k_d ?_|refine dG (hc:=fun _=>Calm.move rfl) (h:=?_)
    first|refine k_d ?_|refine dG (hc:=fun _=>Calm.indexS Try.underlying24 ty_size_3 rfl rfl (by omega) (by omega)) (h:=?_)
    first|refine k_d ?_|refine dL (hc:=Calm.load ty_plain_3 rfl (rd_row (k:=x+1) own_ rw_ rw_)) (h:=?_)
    first|refine k_d ?_|refine dG (hc:=fun _=>Calm.move rfl) (h:=?_)
    first|refine k_d ?_|refine dG (hc:=fun _=>Calm.move rfl) (h:=?_)
    first|refine k_d ?_|refine dG (hc:=fun _=>Calm.bin rfl rfl b_sub_i64) (h:=?_)
    first|refine k_d ?_|refine dG (hc:=fun _=>Calm.indexS Try.underlying24 ty_size_3 rfl rfl (by omega) (by omega)) (h:=?_)
    first|refine k_d ?_|refine dL (hc:=Calm.load ty_plain_3 rfl (rd_row (k:=x) own_ rw_ rw_)) (h:=?_)
    refine draw_only rfl ?_
    first | refine rS 22 ?_ | refine rU 22 ?_
    refine arun_nil ⟨fun _=>less_,?_⟩
    first|refine k_d ?_|refine dG (hc:=fun _=>Calm.bin rfl rfl b_lss) (h:=?_)
    first|refine k_d ?_|refine dG (hc:=fun _=>Calm.un rfl (una_not _)) (h:=?_)
    refine dP (hc:=fun _=>(by first | exact Calm.pickT rfl rfl | exact Calm.pickF rfl rfl)) (h:=?_)
    refine draw_nil ?_
    refine athen_n ?_
    refine k_u [(0,_),(1,_),(2,_),(3,_),(9,_),(10,_),(36,_)] ?_
    refine k_F rfl ?_
    refine AWP.exit ?_
    refine athen_exit ?_
    refine athen_exit ?_
    refine ain_same ?_
    refine ⟨x,?_,?_,?_⟩
    all_goals (try dsimp only)
    ·exact ⟨by omega,by omega,(ss_end (lq cf) hx).trans q3⟩
    ·exact ⟨sb_,sb_,sb_,sb_,sb_,sb_,trivial⟩
    ·exact Mem.Less.refl _
  rintro x ⟨b1,b2,hS⟩
  intro _ _ hs_ hl_
  (try dsimp only at *)
  refine athen_n ?_
  refine AWP.sub _ hs_ (AWP.less _ hl_ ?_)
  clear hs_ hl_
  by_cases hxe:x=e
  ·refine AWP.seq (k_a (k_m rfl (k_m rfl ?_)))
   refine rC (Calm.bin rfl rfl b_eql) ?_
   refine k_n ?_
   refine k_u [(0,_),(1,_),(2,_),(3,_),(9,_),(10,_),(41,_)] ?_
   refine k_T rfl ?_
   refine k_a (k_e rfl ?_)
   refine k_r ?_
   refine ain_ret ?_
   refine athen_ret ?_
   refine athen_ret ?_
   refine ain_ret ?_
   refine athen_ret ?_
   refine ⟨_,_,⟨_,_,rfl,rfl,rfl⟩,Mem.Less.refl _,?_⟩
   exact pis_res (M:=fun x=>S.set b ⟨3,(x).toList.map enc,room⟩) (lq cf) h3 (.inl ⟨hS ▸ hxe,rfl,rfl⟩) R1
  ·refine AWP.seq (k_a (k_m rfl (k_m rfl ?_)))
   refine rC (Calm.bin rfl rfl b_eql) ?_
   refine k_n ?_
   refine k_u [(0,_),(1,_),(2,_),(3,_),(9,_),(10,_),(41,_)] ?_
   refine k_F rfl ?_
   by_cases h50:e-a<50
   ·refine k_k (AWP.seq (k_a (k_m rfl (k_m rfl ?_))))
    refine rC (Calm.bin rfl rfl b_sub_i64) ?_
    refine rC (Calm.bin rfl rfl b_lss) ?_
    refine k_n ?_
    refine k_u [(0,_),(1,_),(2,_),(3,_),(9,_),(10,_),(41,_),(45,_)] ?_
    refine k_T rfl ?_
    refine k_a (k_e rfl ?_)
    refine k_r ?_
    refine ain_ret ?_
    refine athen_ret ?_
    refine athen_ret ?_
    refine ain_ret ?_
    refine athen_ret ?_
    refine ⟨_,_,⟨_,_,rfl,rfl,rfl⟩,Mem.Less.refl _,?_⟩
    exact pis_res (M:=fun x=>S.set b ⟨3,(x).toList.map enc,room⟩) (lq cf) h3 (.inr ⟨hS ▸ hxe,h50,rfl,rfl⟩) R1
   ·refine k_k (AWP.seq (k_a (k_m rfl (k_m rfl ?_))))
    refine rC (Calm.bin rfl rfl b_sub_i64) ?_
    refine rC (Calm.bin rfl rfl b_lss) ?_
    refine k_n ?_
    refine k_u [(0,_),(1,_),(2,_),(3,_),(9,_),(10,_),(41,_),(45,_)] ?_
    refine k_F rfl ?_
    obtain ⟨w,rfl⟩ : ∃ q,x=q+1:=⟨x-1,by omega⟩
    refine k_k (AWP.seq ?_)
    refine AWP.draw [(0,true),(1,true),(2,true),(3,true),(4,true),(5,true),(6,true),(7,true),(8,true),(9,true),(10,true),(11,true),(12,true),(13,true),(14,true),(15,false),(16,true),(17,false)] [15,17] mixed (by kernel_rfl) ?_
    have R2:=R1.swp (w+1) w (by omega) (by omega)
    obtain ⟨d2,hd2⟩ : ∃ d2,d2=swp d1 (w+1) w:=⟨_,rfl⟩
    rw [← hd2] at R2
    refine dP (hc:=fun _=>Calm.move rfl) (h:=?_)
    refine dP (hc:=fun _=>Calm.move rfl) (h:=?_)
    refine dP (hc:=fun _=>Calm.move rfl) (h:=?_)
    refine dP (hc:=fun _=>Calm.move rfl) (h:=?_)
    refine dP (hc:=fun _=>Calm.bin rfl rfl b_sub_i64) (h:=?_)
    refine dP (hc:=fun _=>Calm.move rfl) (h:=?_)
    refine dP (hc:=fun _=>Calm.move rfl) (h:=?_)
    refine dP (hc:=fun _=>Calm.bin rfl rfl b_sub_i64) (h:=?_)
    refine dP (hc:=fun _=>Calm.indexS Try.underlying24 ty_size_3 rfl rfl (by omega) (by omega)) (h:=?_)
    refine dC (hc:=Calm.load ty_plain_3 rfl (rd_row (k:=w) own_ rw_ rw_)) (h:=?_)
    refine dP (hc:=fun _=>Calm.move rfl) (h:=?_)
    refine dP (hc:=fun _=>Calm.move rfl) (h:=?_)
    refine dP (hc:=fun _=>Calm.indexS Try.underlying24 ty_size_3 rfl rfl (by omega) (by omega)) (h:=?_)
    refine dC (hc:=Calm.load ty_plain_3 rfl (rd_row (k:=w+1) own_ rw_ rw_)) (h:=?_)
    refine dP (hc:=fun _=>Calm.indexS Try.underlying24 ty_size_3 rfl rfl (by omega) (by omega)) (h:=?_)
    refine draw_only rfl ?_
    refine ARun.storeRow enc (w+1) rfl rfl ty_size_3 (C.one _) own_ rw_ rw_ ?_
    try simp only [k_ms,k_sz,k_ss,k_za,Nat.reduceAdd]
    refine arun_nil ⟨fun h=>absurd h (by decide),?_⟩
    refine dP (hc:=fun _=>Calm.indexS Try.underlying24 ty_size_3 rfl rfl (by omega) (by omega)) (h:=?_)
    refine draw_only rfl ?_
    refine ARun.storeRow enc (w) rfl rfl ty_size_3 (C.one _) own_ rw_ rw_ ?_
    try simp only [k_ms,k_sz,k_ss,k_za,Nat.reduceAdd]
    refine arun_nil ⟨fun h=>absurd h (by decide),?_⟩
    refine draw_nil ?_
    refine athen_n ?_
    refine k_u [(0,_),(1,_),(2,_),(3,_),(9,_),(10,_),(41,_),(45,_)] ?_
    refine AWP.less (S.set b ⟨3,(d2).toList.map enc,room⟩) (by rw [hd2];exact Mem.Less.refl _) ?_
    have z2:=R2.size
    refine AWP.seq (k_a (k_m rfl (k_m rfl ?_)))
    refine rC (Calm.bin rfl rfl b_sub_i64) ?_
    refine rC (Calm.bin rfl rfl b_geq) ?_
    refine k_n ?_
    refine k_u [(0,_),(1,_),(2,_),(3,_),(9,_),(10,_),(41,_),(45,_),(65,_)] ?_
    refine AWP.join (X:=Array α) (fun x=>[(0,.slice (some ⟨b,0,none⟩) n cap),(1,.int .i64 a),(2,.int .i64 e),(3,.func (.func g) #[] cb.toArray),(9,.int .i64 ((w+1:Nat):Int)),(10,.int .i64 ((5-(s+1):Nat):Int))]) (fun x=>S.set b ⟨3,(x).toList.map enc,room⟩) (fun x=>Rw okP n x∧x=(if w+1-a ≥ 2 then shiftDown (lq cf) w d2 else d2)) ?_ ?_
    ·by_cases hw:2≤w+1-a
     ·refine k_T rfl ?_
      refine k_a (k_m rfl ?_)
      refine rC (Calm.bin rfl rfl b_sub_i64) ?_
      refine k_e rfl ?_
      refine k_u [(0,_),(1,_),(2,_),(3,_),(9,_),(10,_),(41,_),(45,_),(65,_),(11,_)] ?_
      refine AWP.block ?_
      refine AWP.loop (X:=Nat × Array α) (fun x=>[(0,.slice (some ⟨b,0,none⟩) n cap),(1,.int .i64 a),(2,.int .i64 e),(3,.func (.func g) #[] cb.toArray),(9,.int .i64 ((w+1:Nat):Int)),(10,.int .i64 ((5-(s+1):Nat):Int)),(11,.int .i64 x.1)]) (fun x=>S.set b ⟨3,(x.2).toList.map enc,room⟩) (fun x=>x.1≤w∧Rw okP n x.2∧shiftDown (lq cf) x.1 x.2=shiftDown (lq cf) w d2) (fun x=>x.1) ((w,d2)) ⟨sb_,sb_,sb_,sb_,sb_,sb_,sb_,trivial⟩ (Mem.Less.refl _) (⟨Nat.le_refl _,R2,rfl⟩) ?_
      rintro ⟨j,d3⟩ ⟨k1,R3,k3⟩
      (try dsimp only at *)
      have z3:=R3.size
      by_cases hj:0<j
      ·obtain ⟨j,rfl⟩ : ∃ q,j=q+1:=⟨j-1,by omega⟩
       refine AWP.seq (k_a (k_m rfl ?_))
       refine rC (Calm.bin rfl rfl b_geq) ?_
       refine k_n ?_
       refine k_u [(0,_),(1,_),(2,_),(3,_),(9,_),(10,_),(11,_),(69,_)] ?_
       refine k_T rfl ?_
       refine k_k (AWP.seq ?_)
       refine AWP.block ?_
       refine AWP.seq (AWP.seq ?_)
       refine AWP.draw [(0,true),(1,true),(2,true),(3,true),(4,true),(5,true),(6,true),(7,true),(8,true),(9,true),(10,false),(11,true),(12,true)] [] mixed (by kernel_rfl) ?_
       refine dP (hc:=fun _=>Calm.move rfl) (h:=?_)
       refine dP (hc:=fun _=>Calm.move rfl) (h:=?_)
       refine dP (hc:=fun _=>Calm.move rfl) (h:=?_)
       refine dP (hc:=fun _=>Calm.indexS Try.underlying24 ty_size_3 rfl rfl (by omega) (by omega)) (h:=?_)
       refine dC (hc:=Calm.load ty_plain_3 rfl (rd_row (k:=j+1) own_ rw_ rw_)) (h:=?_)
       refine dP (hc:=fun _=>Calm.move rfl) (h:=?_)
       refine dP (hc:=fun _=>Calm.move rfl) (h:=?_)
       refine dP (hc:=fun _=>Calm.bin rfl rfl b_sub_i64) (h:=?_)
       refine dP (hc:=fun _=>Calm.indexS Try.underlying24 ty_size_3 rfl rfl (by omega) (by omega)) (h:=?_)
       refine dC (hc:=Calm.load ty_plain_3 rfl (rd_row (k:=j) own_ rw_ rw_)) (h:=?_)
       refine draw_only rfl ?_
       refine ARun.callV (first:=[]) (cap:=cb) (lit_lt rfl) C.go rfl rfl (C.call less_ (R3.ok (j+1) rw_) (R3.ok (j) rw_)) ?_
       rintro _ _ ⟨rfl,rfl⟩
       refine arun_nil ⟨fun _=>less_,?_⟩
       refine dP (hc:=fun _=>Calm.bin rfl rfl b_lss) (h:=?_)
       refine dP (hc:=fun _=>Calm.un rfl (una_not _)) (h:=?_)
       refine draw_nil ?_
       refine athen_n ?_
       refine k_u [(0,_),(1,_),(2,_),(3,_),(9,_),(10,_),(11,_),(69,_),(84,_)] ?_
       refine AWP.condB rfl (fun hl=>?_) (fun hl=>?_)
       ·have hl:=nt_ hl
        refine AWP.exit ?_
        refine athen_exit ?_
        refine ain_other rfl ?_
        refine athen_exit ?_
        refine athen_exit ?_
        refine ain_same ?_
        refine ⟨d3,?_,?_,?_⟩
        all_goals (try dsimp only)
        ·exact ⟨R3,by rw [if_pos hw,← k3,← sd_no (lq cf) hl]⟩
        ·exact ⟨sb_,sb_,sb_,sb_,sb_,sb_,trivial⟩
        ·exact Mem.Less.refl _
       ·have hl:=nf_ hl
        refine k_k ?_
        refine AWP.draw [(0,true),(1,true),(2,true),(3,true),(4,true),(5,true),(6,true),(7,true),(8,true),(9,true),(10,true),(11,true),(12,true),(13,true),(14,true),(15,false),(16,true),(17,false)] [15,17] mixed (by kernel_rfl) ?_
        refine dP (hc:=fun _=>Calm.move rfl) (h:=?_)
        refine dP (hc:=fun _=>Calm.move rfl) (h:=?_)
        refine dP (hc:=fun _=>Calm.move rfl) (h:=?_)
        refine dP (hc:=fun _=>Calm.move rfl) (h:=?_)
        refine dP (hc:=fun _=>Calm.bin rfl rfl b_sub_i64) (h:=?_)
        refine dP (hc:=fun _=>Calm.move rfl) (h:=?_)
        refine dP (hc:=fun _=>Calm.move rfl) (h:=?_)
        refine dP (hc:=fun _=>Calm.bin rfl rfl b_sub_i64) (h:=?_)
        refine dP (hc:=fun _=>Calm.indexS Try.underlying24 ty_size_3 rfl rfl (by omega) (by omega)) (h:=?_)
        refine dC (hc:=Calm.load ty_plain_3 rfl (rd_row (k:=j) own_ rw_ rw_)) (h:=?_)
        refine dP (hc:=fun _=>Calm.move rfl) (h:=?_)
        refine dP (hc:=fun _=>Calm.move rfl) (h:=?_)
        refine dP (hc:=fun _=>Calm.indexS Try.underlying24 ty_size_3 rfl rfl (by omega) (by omega)) (h:=?_)
        refine dC (hc:=Calm.load ty_plain_3 rfl (rd_row (k:=j+1) own_ rw_ rw_)) (h:=?_)
        refine dP (hc:=fun _=>Calm.indexS Try.underlying24 ty_size_3 rfl rfl (by omega) (by omega)) (h:=?_)
        refine draw_only rfl ?_
        refine ARun.storeRow enc (j+1) rfl rfl ty_size_3 (C.one _) own_ rw_ rw_ ?_
        try simp only [k_ms,k_sz,k_ss,k_za,Nat.reduceAdd]
        refine arun_nil ⟨fun h=>absurd h (by decide),?_⟩
        refine dP (hc:=fun _=>Calm.indexS Try.underlying24 ty_size_3 rfl rfl (by omega) (by omega)) (h:=?_)
        refine draw_only rfl ?_
        refine ARun.storeRow enc (j) rfl rfl ty_size_3 (C.one _) own_ rw_ rw_ ?_
        try simp only [k_ms,k_sz,k_ss,k_za,Nat.reduceAdd]
        refine arun_nil ⟨fun h=>absurd h (by decide),?_⟩
        refine draw_nil ?_
        refine ain_n ?_
        refine athen_n ?_
        refine k_u [(0,_),(1,_),(2,_),(3,_),(9,_),(10,_),(11,_),(69,_),(84,_)] ?_
        refine AWP.region ?_
        refine k_m rfl ?_
        refine rC (Calm.bin rfl rfl b_sub_i64) ?_
        refine k_e rfl ?_
        refine ⟨(j,swp d3 (j+1) j),?_,?_,?_,?_⟩
        all_goals (try dsimp only)
        ·exact ⟨sb_,sb_,sb_,sb_,sb_,sb_,sb_,trivial⟩
        ·exact Mem.Less.refl _
        ·exact ⟨by omega,R3.swp _ _ (by omega) (by omega),(sd_go (lq cf) hl).trans k3⟩
        ·omega
      ·obtain rfl:j=0:=by omega
       refine AWP.seq (k_a (k_m rfl ?_))
       refine rC (Calm.bin rfl rfl b_geq) ?_
       refine k_n ?_
       refine k_u [(0,_),(1,_),(2,_),(3,_),(9,_),(10,_),(11,_),(69,_)] ?_
       refine k_F rfl ?_
       refine AWP.exit ?_
       refine athen_exit ?_
       refine athen_exit ?_
       refine ain_same ?_
       refine ⟨d3,?_,?_,?_⟩
       all_goals (try dsimp only)
       ·exact ⟨R3,by rw [if_pos hw,← k3];rfl⟩
       ·exact ⟨sb_,sb_,sb_,sb_,sb_,sb_,trivial⟩
       ·exact Mem.Less.refl _
     ·refine k_F rfl ?_
      refine AWP.skip ?_
      refine ⟨d2,?_,?_,?_⟩
      all_goals (try dsimp only)
      ·exact ⟨R2,by rw [if_neg hw]⟩
      ·exact ⟨sb_,sb_,sb_,sb_,sb_,sb_,trivial⟩
      ·exact Mem.Less.refl _
    rintro d3 ⟨R3,hd3⟩
    intro _ _ hs_ hl_
    (try dsimp only at *)
    refine athen_n ?_
    refine AWP.sub _ hs_ (AWP.less _ hl_ ?_)
    clear hs_ hl_
    have z3:=R3.size
    refine k_a (k_m rfl (k_m rfl ?_))
    refine rC (Calm.bin rfl rfl b_sub_i64) ?_
    refine rC (Calm.bin rfl rfl b_geq) ?_
    refine k_n ?_
    refine k_u [(0,_),(1,_),(2,_),(3,_),(9,_),(10,_),(104,_)] ?_
    refine AWP.join (X:=Array α) (fun x=>[(0,.slice (some ⟨b,0,none⟩) n cap),(1,.int .i64 a),(2,.int .i64 e),(3,.func (.func g) #[] cb.toArray),(9,.int .i64 ((w+1:Nat):Int)),(10,.int .i64 ((5-(s+1):Nat):Int))]) (fun x=>S.set b ⟨3,(x).toList.map enc,room⟩) (fun x=>Rw okP n x∧x=(if e-(w+1) ≥ 2 then shiftUp (lq cf) e (w+1+1) d3 else d3)) ?_ ?_
    ·by_cases hw:2≤e-(w+1)
     ·refine k_T rfl ?_
      refine k_a (k_m rfl ?_)
      refine rC (Calm.bin rfl rfl b_add_i64) ?_
      refine k_e rfl ?_
      refine k_u [(0,_),(1,_),(2,_),(3,_),(9,_),(10,_),(104,_),(12,_)] ?_
      refine AWP.block ?_
      refine AWP.loop (X:=Nat × Array α) (fun x=>[(0,.slice (some ⟨b,0,none⟩) n cap),(1,.int .i64 a),(2,.int .i64 e),(3,.func (.func g) #[] cb.toArray),(9,.int .i64 ((w+1:Nat):Int)),(10,.int .i64 ((5-(s+1):Nat):Int)),(12,.int .i64 x.1)]) (fun x=>S.set b ⟨3,(x.2).toList.map enc,room⟩) (fun x=>w+1+1≤x.1∧x.1≤e∧Rw okP n x.2∧shiftUp (lq cf) e x.1 x.2=shiftUp (lq cf) e (w+1+1) d3) (fun x=>e-x.1) ((w+1+1,d3)) ⟨sb_,sb_,sb_,sb_,sb_,sb_,sb_,trivial⟩ (Mem.Less.refl _) (⟨Nat.le_refl _,by dsimp only;omega,R3,rfl⟩) ?_
      rintro ⟨j,d4⟩ ⟨k1,k2,R4,k3⟩
      (try dsimp only at *)
      have z4:=R4.size
      by_cases hj:j<e
      ·obtain ⟨j,rfl⟩ : ∃ q,j=q+1:=⟨j-1,by omega⟩
       refine AWP.seq (k_a (k_m rfl (k_m rfl ?_)))
       refine rC (Calm.bin rfl rfl b_lss) ?_
       refine k_n ?_
       refine k_u [(0,_),(1,_),(2,_),(3,_),(9,_),(10,_),(12,_),(109,_)] ?_
       refine k_T rfl ?_
       refine k_k (AWP.seq ?_)
       refine AWP.block ?_
       refine AWP.seq (AWP.seq ?_)
       refine AWP.draw [(0,true),(1,true),(2,true),(3,true),(4,true),(5,true),(6,true),(7,true),(8,true),(9,true),(10,false),(11,true),(12,true)] [] mixed (by kernel_rfl) ?_
       refine dP (hc:=fun _=>Calm.move rfl) (h:=?_)
       refine dP (hc:=fun _=>Calm.move rfl) (h:=?_)
       refine dP (hc:=fun _=>Calm.move rfl) (h:=?_)
       refine dP (hc:=fun _=>Calm.indexS Try.underlying24 ty_size_3 rfl rfl (by omega) (by omega)) (h:=?_)
       refine dC (hc:=Calm.load ty_plain_3 rfl (rd_row (k:=j+1) own_ rw_ rw_)) (h:=?_)
       refine dP (hc:=fun _=>Calm.move rfl) (h:=?_)
       refine dP (hc:=fun _=>Calm.move rfl) (h:=?_)
       refine dP (hc:=fun _=>Calm.bin rfl rfl b_sub_i64) (h:=?_)
       refine dP (hc:=fun _=>Calm.indexS Try.underlying24 ty_size_3 rfl rfl (by omega) (by omega)) (h:=?_)
       refine dC (hc:=Calm.load ty_plain_3 rfl (rd_row (k:=j) own_ rw_ rw_)) (h:=?_)
       refine draw_only rfl ?_
       refine ARun.callV (first:=[]) (cap:=cb) (lit_lt rfl) C.go rfl rfl (C.call less_ (R4.ok (j+1) rw_) (R4.ok (j) rw_)) ?_
       rintro _ _ ⟨rfl,rfl⟩
       refine arun_nil ⟨fun _=>less_,?_⟩
       refine dP (hc:=fun _=>Calm.bin rfl rfl b_lss) (h:=?_)
       refine dP (hc:=fun _=>Calm.un rfl (una_not _)) (h:=?_)
       refine draw_nil ?_
       refine athen_n ?_
       refine k_u [(0,_),(1,_),(2,_),(3,_),(9,_),(10,_),(12,_),(109,_),(124,_)] ?_
       refine AWP.condB rfl (fun hl=>?_) (fun hl=>?_)
       ·have hl:=nt_ hl
        refine AWP.exit ?_
        refine athen_exit ?_
        refine ain_other rfl ?_
        refine athen_exit ?_
        refine athen_exit ?_
        refine ain_same ?_
        refine ⟨d4,?_,?_,?_⟩
        all_goals (try dsimp only)
        ·exact ⟨R4,by rw [if_pos hw,← k3,← su_no (lq cf) (by rw [Nat.add_sub_cancel];exact hl)]⟩
        ·exact ⟨sb_,sb_,sb_,sb_,sb_,sb_,trivial⟩
        ·exact Mem.Less.refl _
       ·have hl:=nf_ hl
        refine k_k ?_
        refine AWP.draw [(0,true),(1,true),(2,true),(3,true),(4,true),(5,true),(6,true),(7,true),(8,true),(9,true),(10,true),(11,true),(12,true),(13,true),(14,true),(15,false),(16,true),(17,false)] [15,17] mixed (by kernel_rfl) ?_
        refine dP (hc:=fun _=>Calm.move rfl) (h:=?_)
        refine dP (hc:=fun _=>Calm.move rfl) (h:=?_)
        refine dP (hc:=fun _=>Calm.move rfl) (h:=?_)
        refine dP (hc:=fun _=>Calm.move rfl) (h:=?_)
        refine dP (hc:=fun _=>Calm.bin rfl rfl b_sub_i64) (h:=?_)
        refine dP (hc:=fun _=>Calm.move rfl) (h:=?_)
        refine dP (hc:=fun _=>Calm.move rfl) (h:=?_)
        refine dP (hc:=fun _=>Calm.bin rfl rfl b_sub_i64) (h:=?_)
        refine dP (hc:=fun _=>Calm.indexS Try.underlying24 ty_size_3 rfl rfl (by omega) (by omega)) (h:=?_)
        refine dC (hc:=Calm.load ty_plain_3 rfl (rd_row (k:=j) own_ rw_ rw_)) (h:=?_)
        refine dP (hc:=fun _=>Calm.move rfl) (h:=?_)
        refine dP (hc:=fun _=>Calm.move rfl) (h:=?_)
        refine dP (hc:=fun _=>Calm.indexS Try.underlying24 ty_size_3 rfl rfl (by omega) (by omega)) (h:=?_)
        refine dC (hc:=Calm.load ty_plain_3 rfl (rd_row (k:=j+1) own_ rw_ rw_)) (h:=?_)
        refine dP (hc:=fun _=>Calm.indexS Try.underlying24 ty_size_3 rfl rfl (by omega) (by omega)) (h:=?_)
        refine draw_only rfl ?_
        refine ARun.storeRow enc (j+1) rfl rfl ty_size_3 (C.one _) own_ rw_ rw_ ?_
        try simp only [k_ms,k_sz,k_ss,k_za,Nat.reduceAdd]
        refine arun_nil ⟨fun h=>absurd h (by decide),?_⟩
        refine dP (hc:=fun _=>Calm.indexS Try.underlying24 ty_size_3 rfl rfl (by omega) (by omega)) (h:=?_)
        refine draw_only rfl ?_
        refine ARun.storeRow enc (j) rfl rfl ty_size_3 (C.one _) own_ rw_ rw_ ?_
        try simp only [k_ms,k_sz,k_ss,k_za,Nat.reduceAdd]
        refine arun_nil ⟨fun h=>absurd h (by decide),?_⟩
        refine draw_nil ?_
        refine ain_n ?_
        refine athen_n ?_
        refine k_u [(0,_),(1,_),(2,_),(3,_),(9,_),(10,_),(12,_),(109,_),(124,_)] ?_
        refine AWP.region ?_
        refine k_m rfl ?_
        refine rC (Calm.bin rfl rfl b_add_i64) ?_
        refine k_e rfl ?_
        refine ⟨(j+1+1,swp d4 (j+1) j),?_,?_,?_,?_⟩
        all_goals (try dsimp only)
        ·exact ⟨sb_,sb_,sb_,sb_,sb_,sb_,sb_,trivial⟩
        ·exact Mem.Less.refl _
        ·exact ⟨by omega,by omega,R4.swp _ _ (by omega) (by omega),(su_go (lq cf) (j:=j+1) hj (by rw [Nat.add_sub_cancel];exact hl)).trans k3⟩
        ·omega
      ·refine AWP.seq (k_a (k_m rfl (k_m rfl ?_)))
       refine rC (Calm.bin rfl rfl b_lss) ?_
       refine k_n ?_
       refine k_u [(0,_),(1,_),(2,_),(3,_),(9,_),(10,_),(12,_),(109,_)] ?_
       refine k_F rfl ?_
       refine AWP.exit ?_
       refine athen_exit ?_
       refine athen_exit ?_
       refine ain_same ?_
       refine ⟨d4,?_,?_,?_⟩
       all_goals (try dsimp only)
       ·exact ⟨R4,by rw [if_pos hw,← k3,← su_end (lq cf) hj]⟩
       ·exact ⟨sb_,sb_,sb_,sb_,sb_,sb_,trivial⟩
       ·exact Mem.Less.refl _
     ·refine k_F rfl ?_
      refine AWP.skip ?_
      refine ⟨d3,?_,?_,?_⟩
      all_goals (try dsimp only)
      ·exact ⟨R3,by rw [if_neg hw]⟩
      ·exact ⟨sb_,sb_,sb_,sb_,sb_,sb_,trivial⟩
      ·exact Mem.Less.refl _
    rintro d4 ⟨R4,hd4⟩
    intro _ _ hs_ hl_
    (try dsimp only at *)
    refine ain_n ?_
    refine athen_n ?_
    refine AWP.sub _ hs_ (AWP.less _ hl_ ?_)
    clear hs_ hl_
    refine AWP.region ?_
    refine k_m rfl ?_
    refine rC (Calm.bin rfl rfl b_add_i64) ?_
    refine k_e rfl ?_
    refine ⟨(s,w+1,d4),?_,?_,?_,?_⟩
    all_goals (try dsimp only)
    ·exact ⟨sb_,sb_,sb_,sb_,sb_,sb_,trivial⟩
    ·exact Mem.Less.refl _
    ·exact ⟨by omega,by omega,by omega,R4,(pi_step (lq cf) hS (by omega) h50 hd2 hd3 hd4).trans h3⟩
    ·omega
 ·obtain rfl:s=0:=by omega
  refine AWP.seq (k_a (k_m rfl ?_))
  refine rC (Calm.bin rfl rfl b_lss) ?_
  refine k_n ?_
  refine k_u [(0,_),(1,_),(2,_),(3,_),(9,_),(10,_),(16,_)] ?_
  refine k_F rfl ?_
  refine AWP.exit ?_
  refine athen_exit ?_
  refine athen_exit ?_
  refine ain_same ?_
  refine athen_n ?_
  refine k_a (k_e rfl ?_)
  refine AWP.ret ?_
  refine ⟨_,_,⟨_,_,rfl,rfl,rfl⟩,Mem.Less.refl _,?_⟩
  rw [← h3];exact ⟨rfl,rfl,R1⟩
end Go.Proofs.Ytgidjbpgkeemiaa
namespace Go.Proofs.Ytgidjbpgkeemiaa
open Go.RowKit
open Mv Srt
open Go.Sort (swp insInner insOuter insertionSort siftDown heapBuild heapPop heapSort scanUp scanDown partLoop partition partEqLoop partitionEqual scanSorted shiftDown shiftUp partialIns partialInsertionSort order2 median medianAdjacent choosePivot reverseLoop reverseRange breakStep breakPatterns pdq bitsLen xorNext Hint)
set_option maxRecDepth 4000
set_option maxHeartbeats 8000000 in
theorem soC_pdq {α : Type} [Inhabited α] {enc : α → Value} {cf : α → α → Int} {okP : α → Prop} {g : Nat} {cb : List Value} {S : Mem} (C : CmpC Try.prog enc cf okP g cb S) (b room n cap : Nat) (hb : Fresh S b) (hn : n ≤ 1048576) : ∀ (m : Nat) (d : Array α) (R : Rw okP n d) (ia ie il : Int) (a e limit : Nat), ia = a → ie = e → il = limit → a ≤ e → e ≤ n → limit ≤ 1000 → e - a = m →
  ACall Try.prog 136 #[.slice (some ⟨b,0,none⟩) n cap,.int .i64 ia,.int .i64 ie,.int .i64 il,.func (.func g) #[] cb.toArray] (S.set b ⟨3,(d).toList.map enc,room⟩) fun r S'=>S'=S.set b ⟨3,(pdq (lq cf) d a e limit true true).toList.map enc,room⟩∧Rw okP n (pdq (lq cf) d a e limit true true):=by
 intro m
 induction m using Nat.strongRecOn with
 | _ m ih =>
 intro d R ia ie il a e limit ha he hl hae hen hlim hm
 subst ha he hl
 refine ACall.enter (rs:=[]) 148 [(0,.slice (some ⟨b,0,none⟩) n cap),(1,.int .i64 a),(2,.int .i64 e),(3,.int .i64 limit),(4,.func (.func g) #[] cb.toArray)] Try.func136 rfl rfl (Nat.le_of_ble_eq_true rfl) rfl ⟨rfl,rfl,rfl,rfl,rfl,trivial⟩ ?_
 refine k_a (k_e rfl (k_a (k_e rfl ?_)))
 refine AWP.block ?_
 refine AWP.loop (X:=Nat × Nat × Nat × Bool × Bool × Array α) (fun x=>[(0,.slice (some ⟨b,0,none⟩) n cap),(1,.int .i64 x.1),(2,.int .i64 x.2.1),(3,.int .i64 x.2.2.1),(4,.func (.func g) #[] cb.toArray),(10,.bool x.2.2.2.1),(11,.bool x.2.2.2.2.1)]) (fun x=>S.set b ⟨3,(x.2.2.2.2.2).toList.map enc,room⟩) (fun x=>x.1≤x.2.1∧x.2.1≤e∧Rw okP n x.2.2.2.2.2∧x.2.1-x.1≤m∧x.2.2.1≤limit∧pdq (lq cf) x.2.2.2.2.2 x.1 x.2.1 x.2.2.1 x.2.2.2.1 x.2.2.2.2.1=pdq (lq cf) d a e limit true true) (fun x=>x.2.1-x.1) ((a,e,limit,true,true,d)) ⟨sb_,sb_,sb_,sb_,sb_,sb_,sb_,trivial⟩ (Mem.Less.refl _) (⟨hae,Nat.le_refl _,R,by dsimp only;omega,Nat.le_refl _,rfl⟩) ?_
 rintro ⟨a1,e1,l1,w1,w2,d0⟩ ⟨h1,h2,R0,h4,h5,hq⟩
 (try dsimp only at *)
 have z0:=R0.size
 by_cases h12:e1-a1≤12
 ·refine AWP.block ?_
  refine k_a (k_m rfl (k_m rfl ?_))
  refine rC (Calm.bin rfl rfl b_sub_i64) ?_
  refine k_e rfl ?_
  refine k_u [(0,_),(1,_),(2,_),(3,_),(4,_),(10,_),(11,_),(12,_)] ?_
  refine AWP.seq (k_a (k_m rfl ?_))
  refine rC (Calm.bin rfl rfl b_leq) ?_
  refine k_n ?_
  refine k_u [(0,_),(1,_),(2,_),(3,_),(4,_),(10,_),(11,_),(12,_),(25,_)] ?_
  refine k_T rfl ?_
  refine k_a (k_m rfl (k_m rfl (k_m rfl (k_m rfl ?_))))
  refine ARun.call (lit_lt rfl) go_167 rfl (soC_ins C b room n cap hb hn d0 R0 _ _ a1 e1 rfl rfl (by omega) (by omega)) ?_
  rintro _ _ ⟨rfl,R1⟩
  refine k_n ?_
  refine k_u [(0,_),(1,_),(2,_),(3,_),(4,_),(10,_),(11,_),(12,_),(25,_)] ?_
  refine k_r ?_
  refine ain_ret ?_
  refine athen_ret ?_
  refine ain_ret ?_
  refine ⟨_,_,rfl,Mem.Less.refl _,?_⟩
  rw [← hq,pdq_ins (lq cf) h12];exact ⟨rfl,R1⟩
 ·refine AWP.block ?_
  refine k_a (k_m rfl (k_m rfl ?_))
  refine rC (Calm.bin rfl rfl b_sub_i64) ?_
  refine k_e rfl ?_
  refine k_u [(0,_),(1,_),(2,_),(3,_),(4,_),(10,_),(11,_),(12,_)] ?_
  refine AWP.seq (k_a (k_m rfl ?_))
  refine rC (Calm.bin rfl rfl b_leq) ?_
  refine k_n ?_
  refine k_u [(0,_),(1,_),(2,_),(3,_),(4,_),(10,_),(11,_),(12,_),(25,_)] ?_
  refine k_F rfl ?_
  by_cases hl0:l1=0
  ·refine k_k (AWP.seq (k_a (k_m rfl ?_)))
   refine rC (Calm.bin rfl rfl b_eql) ?_
   refine k_n ?_
   refine k_u [(0,_),(1,_),(2,_),(3,_),(4,_),(10,_),(11,_),(12,_),(25,_),(32,_)] ?_
   refine k_T rfl ?_
   refine k_a (k_m rfl (k_m rfl (k_m rfl (k_m rfl ?_))))
   refine ARun.call (lit_lt rfl) go_168 rfl (soC_heap C b room n cap hb hn d0 R0 _ _ a1 e1 rfl rfl (by omega) (by omega)) ?_
   rintro _ _ ⟨rfl,R1⟩
   refine k_n ?_
   refine k_u [(0,_),(1,_),(2,_),(3,_),(4,_),(10,_),(11,_),(12,_),(25,_),(32,_)] ?_
   refine k_r ?_
   refine ain_ret ?_
   refine athen_ret ?_
   refine ain_ret ?_
   refine ⟨_,_,rfl,Mem.Less.refl _,?_⟩
   rw [← hq,pdq_heap (lq cf) h12 hl0];exact ⟨rfl,R1⟩
  ·refine k_k (AWP.seq (k_a (k_m rfl ?_)))
   refine rC (Calm.bin rfl rfl b_eql) ?_
   refine k_n ?_
   refine k_u [(0,_),(1,_),(2,_),(3,_),(4,_),(10,_),(11,_),(12,_),(25,_),(32,_)] ?_
   refine k_F rfl ?_
   rw [pdq_1 (lq cf) h12 hl0] at hq
   refine k_k (AWP.seq (k_a (k_m rfl ?_)))
   refine rC (Calm.un rfl (una_not _)) ?_
   refine k_n ?_
   refine k_u [(0,_),(1,_),(2,_),(3,_),(4,_),(10,_),(11,_),(12,_),(25,_),(32,_),(39,_)] ?_
   refine AWP.join (X:=Nat × Array α) (fun x=>[(0,.slice (some ⟨b,0,none⟩) n cap),(1,.int .i64 a1),(2,.int .i64 e1),(3,.int .i64 x.1),(4,.func (.func g) #[] cb.toArray),(10,.bool w1),(11,.bool w2),(12,.int .i64 ((e1-a1:Nat):Int))]) (fun x=>S.set b ⟨3,(x.2).toList.map enc,room⟩) (fun x=>x.1≤l1∧Rw okP n x.2∧pdq1 (lq cf) x.2 a1 e1 x.1 w1 w2=pdq (lq cf) d a e limit true true) ?_ ?_
   ·cases w1
    ·refine k_T rfl ?_
     refine k_a (k_m rfl (k_m rfl (k_m rfl (k_m rfl ?_))))
     refine ARun.call (lit_lt rfl) go_169 rfl (soC_brk C b room n cap hb hn d0 R0 _ _ a1 e1 rfl rfl (by omega) (by omega)) ?_
     rintro _ _ ⟨rfl,R1⟩
     refine k_n ?_
     refine k_u [(0,_),(1,_),(2,_),(3,_),(4,_),(10,_),(11,_),(12,_),(25,_),(32,_),(39,_)] ?_
     refine AWP.region ?_
     refine k_m rfl ?_
     refine rC (Calm.bin rfl rfl b_sub_i64) ?_
     refine k_s rfl ?_
     refine arun_nil ?_
     refine ⟨(l1-1,breakPatterns d0 a1 e1),?_,?_,?_⟩
     all_goals (try dsimp only)
     ·exact ⟨by omega,R1,hq⟩
     ·exact ⟨sb_,sb_,sb_,sb_,sb_,sb_,sb_,sb_,trivial⟩
     ·exact Mem.Less.refl _
    ·refine k_F rfl ?_
     refine AWP.skip ?_
     refine ⟨(l1,d0),?_,?_,?_⟩
     all_goals (try dsimp only)
     ·exact ⟨Nat.le_refl _,R0,hq⟩
     ·exact ⟨sb_,sb_,sb_,sb_,sb_,sb_,sb_,sb_,trivial⟩
     ·exact Mem.Less.refl _
   rintro ⟨l2,d1⟩ ⟨k1,R1,hq⟩
   intro _ _ hs_ hl_
   (try dsimp only at *)
   refine athen_n ?_
   refine AWP.sub _ hs_ (AWP.less _ hl_ ?_)
   clear hs_ hl_
   have z1:=R1.size
   obtain ⟨⟨p0,ht⟩,hpc⟩ : ∃ q,q=choosePivot (lq cf) d1 a1 e1:=⟨_,rfl⟩
   refine k_a (k_m rfl (k_m rfl (k_m rfl (k_m rfl ?_))))
   refine ARun.call (lit_lt rfl) go_170 rfl ((hpc ▸ soC_pivot C b room n cap hb hn d1 R1 _ _ a1 e1 rfl rfl (by omega) (by omega))) ?_
   rintro _ _ ⟨rfl,rfl,g1,g2⟩
   dsimp only at g1 g2
   rw [pdq1,← hpc] at hq
   dsimp only at hq
   refine k_m rfl ?_
   refine rC (Calm.extract rfl rfl) ?_
   refine rC (Calm.extract rfl rfl) ?_
   refine k_s rfl (k_e rfl ?_)
   refine k_u [(0,_),(1,_),(2,_),(3,_),(4,_),(10,_),(11,_),(12,_),(13,_),(14,_)] ?_
   refine AWP.seq (k_a (k_m rfl ?_))
   refine rC (Calm.bin rfl rfl b_eql) ?_
   refine k_n ?_
   refine k_u [(0,_),(1,_),(2,_),(3,_),(4,_),(10,_),(11,_),(12,_),(13,_),(14,_),(56,_)] ?_
   refine AWP.join (X:=Nat × Hint × Array α) (fun x=>[(0,.slice (some ⟨b,0,none⟩) n cap),(1,.int .i64 a1),(2,.int .i64 e1),(3,.int .i64 l2),(4,.func (.func g) #[] cb.toArray),(10,.bool w1),(11,.bool w2),(12,.int .i64 ((e1-a1:Nat):Int)),(13,.int .i64 x.1),(14,.int .i64 (hintI x.2.1))]) (fun x=>S.set b ⟨3,(x.2.2).toList.map enc,room⟩) (fun x=>a1≤x.1∧x.1<e1∧Rw okP n x.2.2∧pdq2 (lq cf) x.2.2 a1 e1 l2 w1 w2 x.1 x.2.1=pdq (lq cf) d a e limit true true) ?_ ?_
   ·by_cases hde:ht = .decreasing
    ·subst hde
     refine k_T rfl ?_
     refine k_a (k_m rfl (k_m rfl (k_m rfl (k_m rfl ?_))))
     refine ARun.call (lit_lt rfl) go_171 rfl (soC_rev C b room n cap hb hn d1 R1 _ _ a1 e1 rfl rfl (by omega) (by omega)) ?_
     rintro _ _ ⟨rfl,R2⟩
     refine k_n ?_
     refine k_u [(0,_),(1,_),(2,_),(3,_),(4,_),(10,_),(11,_),(12,_),(13,_),(14,_),(56,_)] ?_
     refine k_a (k_m rfl ?_)
     refine rC (Calm.bin rfl rfl b_sub_i64) ?_
     refine k_m rfl (k_m rfl ?_)
     refine rC (Calm.bin rfl rfl b_sub_i64) ?_
     refine rC (Calm.bin rfl rfl b_sub_i64) ?_
     refine k_e rfl ?_
     refine k_u [(0,_),(1,_),(2,_),(3,_),(4,_),(10,_),(11,_),(12,_),(13,_),(14,_),(56,_)] ?_
     refine AWP.region ?_
     refine k_s rfl ?_
     refine arun_nil ?_
     refine ⟨(e1-1-(p0-a1),.increasing,reverseRange d1 a1 e1),?_,?_,?_⟩
     all_goals (try dsimp only)
     ·exact ⟨by omega,by omega,R2,by rw [if_pos rfl] at hq;exact hq⟩
     ·exact ⟨sb_,sb_,sb_,sb_,sb_,sb_,sb_,sb_,sb_,sb_,trivial⟩
     ·exact Mem.Less.refl _
    ·have hni:=hint_ne hde
     refine k_F rfl ?_
     refine AWP.skip ?_
     refine ⟨(p0,ht,d1),?_,?_,?_⟩
     all_goals (try dsimp only)
     ·exact ⟨g1,g2,R1,by rw [if_neg hde] at hq;exact hq⟩
     ·exact ⟨sb_,sb_,sb_,sb_,sb_,sb_,sb_,sb_,sb_,sb_,trivial⟩
     ·exact Mem.Less.refl _
   rintro ⟨pv,hi,d2⟩ ⟨g1,g2,R2,hq⟩
   intro _ _ hs_ hl_
   (try dsimp only at *)
   refine athen_n ?_
   refine AWP.sub _ hs_ (AWP.less _ hl_ ?_)
   clear hs_ hl_
   have z2:=R2.size
   have hh1:=hint_1 hi
   refine AWP.seq (AWP.seq ?_)
   refine AWP.join (X:=Bool) (fun x=>[(0,.slice (some ⟨b,0,none⟩) n cap),(1,.int .i64 a1),(2,.int .i64 e1),(3,.int .i64 l2),(4,.func (.func g) #[] cb.toArray),(10,.bool w1),(11,.bool w2),(12,.int .i64 ((e1-a1:Nat):Int)),(13,.int .i64 pv),(75,.bool x)]) (fun x=>S.set b ⟨3,(d2).toList.map enc,room⟩) (fun x=>x=(w1 && w2 && decide (hi = .increasing))) ?_ ?_
   ·cases w1
    ·refine AWP.region ?_
     refine k_m rfl (k_m rfl ?_)
     first|refine k_q 69 ?_|refine rG 69 (Calm.move rfl) ?_
     first|refine k_t rfl rfl ?_|refine k_f rfl rfl ?_
     refine k_m rfl ?_
     first|refine k_q 72 ?_|refine rG 72 (Calm.move rfl) ?_
     first|refine k_q 72 ?_|refine rG 72 (Calm.bin rfl rfl b_eql) ?_
     first|refine k_t rfl rfl ?_|refine k_f rfl rfl ?_
     refine arun_nil ?_
     refine ⟨false,?_,?_,?_⟩
     all_goals (try dsimp only)
     ·rfl
     ·exact ⟨sb_,sb_,sb_,sb_,sb_,sb_,sb_,sb_,sb_,sb_,trivial⟩
     ·exact Mem.Less.refl _
    ·cases w2
     ·refine AWP.region ?_
      refine k_m rfl (k_m rfl ?_)
      first|refine k_q 69 ?_|refine rG 69 (Calm.move rfl) ?_
      first|refine k_t rfl rfl ?_|refine k_f rfl rfl ?_
      refine k_m rfl ?_
      first|refine k_q 72 ?_|refine rG 72 (Calm.move rfl) ?_
      first|refine k_q 72 ?_|refine rG 72 (Calm.bin rfl rfl b_eql) ?_
      first|refine k_t rfl rfl ?_|refine k_f rfl rfl ?_
      refine arun_nil ?_
      refine ⟨false,?_,?_,?_⟩
      all_goals (try dsimp only)
      ·rfl
      ·exact ⟨sb_,sb_,sb_,sb_,sb_,sb_,sb_,sb_,sb_,sb_,trivial⟩
      ·exact Mem.Less.refl _
     ·refine AWP.region ?_
      refine k_m rfl (k_m rfl ?_)
      first|refine k_q 69 ?_|refine rG 69 (Calm.move rfl) ?_
      first|refine k_t rfl rfl ?_|refine k_f rfl rfl ?_
      refine k_m rfl ?_
      first|refine k_q 72 ?_|refine rG 72 (Calm.move rfl) ?_
      first|refine k_q 72 ?_|refine rG 72 (Calm.bin rfl rfl (bin_bool (bin_eql _ _) hh1)) ?_
      first|refine k_t rfl rfl ?_|refine k_f rfl rfl ?_
      refine arun_nil ?_
      refine ⟨(decide (hi = .increasing)),?_,?_,?_⟩
      all_goals (try dsimp only)
      ·simp
      ·exact ⟨sb_,sb_,sb_,sb_,sb_,sb_,sb_,sb_,sb_,sb_,trivial⟩
      ·exact Mem.Less.refl _
   rintro x hx
   intro _ _ hs_ hl_
   (try dsimp only at *)
   refine athen_n ?_
   refine AWP.sub _ hs_ (AWP.less _ hl_ ?_)
   clear hs_ hl_
   rw [pdq2,← hx] at hq
   refine AWP.join (X:=Array α) (fun x=>[(0,.slice (some ⟨b,0,none⟩) n cap),(1,.int .i64 a1),(2,.int .i64 e1),(3,.int .i64 l2),(4,.func (.func g) #[] cb.toArray),(10,.bool w1),(11,.bool w2),(12,.int .i64 ((e1-a1:Nat):Int)),(13,.int .i64 pv)]) (fun x=>S.set b ⟨3,(x).toList.map enc,room⟩) (fun x=>Rw okP n x∧pdq3 (lq cf) x a1 e1 l2 w1 w2 pv=pdq (lq cf) d a e limit true true) ?_ ?_
   ·cases x
    ·refine k_F rfl ?_
     refine AWP.skip ?_
     refine ⟨d2,?_,?_,?_⟩
     all_goals (try dsimp only)
     ·exact ⟨R2,hq⟩
     ·exact ⟨sb_,sb_,sb_,sb_,sb_,sb_,sb_,sb_,sb_,trivial⟩
     ·exact Mem.Less.refl _
    ·refine k_T rfl ?_
     obtain ⟨⟨d3,pb⟩,hp3⟩ : ∃ q,q=partialInsertionSort (lq cf) d2 a1 e1:=⟨_,rfl⟩
     rw [if_pos rfl,← hp3] at hq
     dsimp only at hq
     refine k_a (k_m rfl (k_m rfl (k_m rfl (k_m rfl ?_))))
     refine ARun.call (lit_lt rfl) go_172 rfl ((hp3 ▸ soC_pins C b room n cap hb hn d2 R2 _ _ a1 e1 rfl rfl (by omega) (by omega))) ?_
     rintro _ _ ⟨rfl,rfl,R3⟩
     refine k_n ?_
     refine k_u [(0,_),(1,_),(2,_),(3,_),(4,_),(10,_),(11,_),(12,_),(13,_),(75,_),(80,_)] ?_
     cases pb
     ·refine k_F rfl ?_
      refine AWP.skip ?_
      refine ⟨d3,?_,?_,?_⟩
      all_goals (try dsimp only)
      ·exact ⟨R3,hq⟩
      ·exact ⟨sb_,sb_,sb_,sb_,sb_,sb_,sb_,sb_,sb_,trivial⟩
      ·exact Mem.Less.refl _
     ·refine k_T rfl ?_
      refine AWP.ret ?_
      refine join_ret ?_
      refine athen_ret ?_
      refine ain_ret ?_
      refine athen_ret ?_
      refine ain_ret ?_
      refine ⟨_,_,rfl,Mem.Less.refl _,?_⟩
      rw [← hq];exact ⟨rfl,R3⟩
   rintro d3 ⟨R3,hq⟩
   intro _ _ hs_ hl_
   (try dsimp only at *)
   refine athen_n ?_
   refine AWP.sub _ hs_ (AWP.less _ hl_ ?_)
   clear hs_ hl_
   clear hx
   have z3:=R3.size
   refine AWP.seq (AWP.seq ?_)
   refine AWP.join (X:=Bool) (fun x=>[(0,.slice (some ⟨b,0,none⟩) n cap),(1,.int .i64 a1),(2,.int .i64 e1),(3,.int .i64 l2),(4,.func (.func g) #[] cb.toArray),(10,.bool w1),(11,.bool w2),(12,.int .i64 ((e1-a1:Nat):Int)),(13,.int .i64 pv),(97,.bool x)]) (fun x=>S.set b ⟨3,(d3).toList.map enc,room⟩) (fun x=>x=(decide (a1 > 0) && !(lq cf) d3[a1-1]! d3[pv]!)) ?_ ?_
   ·by_cases h0:0<a1
    ·refine AWP.draw [(0,true),(1,true),(2,true),(3,true),(4,true),(5,true),(6,true),(7,true),(8,true),(9,true),(10,true),(11,true),(12,true),(13,false),(14,true),(15,true),(16,true)] [] mixed (by kernel_rfl) ?_
     refine dP (hc:=fun _=>Calm.move rfl) (h:=?_)
     refine dP (hc:=fun _=>Calm.bin rfl rfl b_gtr) (h:=?_)
     refine dP (hc:=fun _=>Calm.move rfl) (h:=?_)
     first|refine k_d ?_|refine dG (hc:=fun _=>Calm.move rfl) (h:=?_)
     first|refine k_d ?_|refine dG (hc:=fun _=>Calm.move rfl) (h:=?_)
     first|refine k_d ?_|refine dG (hc:=fun _=>Calm.move rfl) (h:=?_)
     first|refine k_d ?_|refine dG (hc:=fun _=>Calm.bin rfl rfl b_sub_i64) (h:=?_)
     first|refine k_d ?_|refine dG (hc:=fun _=>Calm.indexS Try.underlying24 ty_size_3 rfl rfl (by omega) (by omega)) (h:=?_)
     first|refine k_d ?_|refine dL (hc:=Calm.load ty_plain_3 rfl (rd_row (k:=a1-1) own_ rw_ rw_)) (h:=?_)
     first|refine k_d ?_|refine dG (hc:=fun _=>Calm.move rfl) (h:=?_)
     first|refine k_d ?_|refine dG (hc:=fun _=>Calm.move rfl) (h:=?_)
     first|refine k_d ?_|refine dG (hc:=fun _=>Calm.indexS Try.underlying24 ty_size_3 rfl rfl (by omega) (by omega)) (h:=?_)
     first|refine k_d ?_|refine dL (hc:=Calm.load ty_plain_3 rfl (rd_row (k:=pv) own_ rw_ rw_)) (h:=?_)
     refine draw_only rfl ?_
     refine rUn 83 ?_
     refine ARun.callV (first:=[]) (cap:=cb) (lit_lt rfl) C.go rfl rfl (C.call less_ (R3.ok (a1-1) rw_) (R3.ok (pv) rw_)) ?_
     rintro _ _ ⟨rfl,rfl⟩
     refine arun_nil ⟨fun _=>less_,?_⟩
     first|refine k_d ?_|refine dG (hc:=fun _=>Calm.bin rfl rfl b_lss) (h:=?_)
     first|refine k_d ?_|refine dG (hc:=fun _=>Calm.un rfl (una_not _)) (h:=?_)
     refine dP (hc:=fun _=>(by first | exact Calm.pickT rfl rfl | exact Calm.pickF rfl rfl)) (h:=?_)
     refine draw_nil ?_
     refine ⟨(!(lq cf) d3[a1-1]! d3[pv]!),?_,?_,?_⟩
     all_goals (try dsimp only)
     ·rw [decide_eq_true h0];rfl
     ·exact ⟨sb_,sb_,sb_,sb_,sb_,sb_,sb_,sb_,sb_,sb_,trivial⟩
     ·exact Mem.Less.refl _
    ·refine AWP.draw [(0,true),(1,true),(2,true),(3,true),(4,true),(5,true),(6,true),(7,true),(8,true),(9,true),(10,true),(11,true),(12,true),(13,false),(14,true),(15,true),(16,true)] [] mixed (by kernel_rfl) ?_
     refine dP (hc:=fun _=>Calm.move rfl) (h:=?_)
     refine dP (hc:=fun _=>Calm.bin rfl rfl b_gtr) (h:=?_)
     refine dP (hc:=fun _=>Calm.move rfl) (h:=?_)
     first|refine k_d ?_|refine dG (hc:=fun _=>Calm.move rfl) (h:=?_)
     first|refine k_d ?_|refine dG (hc:=fun _=>Calm.move rfl) (h:=?_)
     first|refine k_d ?_|refine dG (hc:=fun _=>Calm.move rfl) (h:=?_)
     first|refine k_d ?_|refine dG (hc:=fun _=>Calm.bin rfl rfl b_sub_i64) (h:=?_)
     first|refine k_d ?_|refine dG (hc:=fun _=>Calm.indexS Try.underlying24 ty_size_3 rfl rfl (by omega) (by omega)) (h:=?_)
     first|refine k_d ?_|refine dL (hc:=Calm.load ty_plain_3 rfl (rd_row (k:=a1-1) own_ rw_ rw_)) (h:=?_)
     first|refine k_d ?_|refine dG (hc:=fun _=>Calm.move rfl) (h:=?_)
     first|refine k_d ?_|refine dG (hc:=fun _=>Calm.move rfl) (h:=?_)
     first|refine k_d ?_|refine dG (hc:=fun _=>Calm.indexS Try.underlying24 ty_size_3 rfl rfl (by omega) (by omega)) (h:=?_)
     first|refine k_d ?_|refine dL (hc:=Calm.load ty_plain_3 rfl (rd_row (k:=pv) own_ rw_ rw_)) (h:=?_)
     refine draw_only rfl ?_
     first | refine rS 83 ?_ | refine rU 83 ?_
     refine arun_nil ⟨fun _=>less_,?_⟩
     first|refine k_d ?_|refine dG (hc:=fun _=>Calm.bin rfl rfl b_lss) (h:=?_)
     first|refine k_d ?_|refine dG (hc:=fun _=>Calm.un rfl (una_not _)) (h:=?_)
     refine dP (hc:=fun _=>(by first | exact Calm.pickT rfl rfl | exact Calm.pickF rfl rfl)) (h:=?_)
     refine draw_nil ?_
     refine ⟨false,?_,?_,?_⟩
     all_goals (try dsimp only)
     ·rw [decide_eq_false h0];rfl
     ·exact ⟨sb_,sb_,sb_,sb_,sb_,sb_,sb_,sb_,sb_,sb_,trivial⟩
     ·exact Mem.Less.refl _
   rintro x hx
   intro _ _ hs_ hl_
   (try dsimp only at *)
   refine athen_n ?_
   refine AWP.sub _ hs_ (AWP.less _ hl_ ?_)
   clear hs_ hl_
   rw [pdq3,← hx] at hq
   cases x
   ·refine k_F rfl ?_
    obtain ⟨⟨md,ap,d4⟩,hp4⟩ : ∃ q,q=partition (lq cf) d3 a1 e1 pv:=⟨_,rfl⟩
    rw [if_neg Bool.false_ne_true,← hp4] at hq
    dsimp only at hq
    refine k_k (k_a (k_m rfl (k_m rfl (k_m rfl ?_))))
    refine k_m rfl (k_m rfl ?_)
    refine ARun.call (lit_lt rfl) go_174 rfl ((hp4 ▸ soC_part C b room n cap hb hn d3 R3 _ _ _ a1 e1 pv rfl rfl rfl (by omega) (by omega) (by omega))) ?_
    rintro _ _ ⟨rfl,rfl,R4,g3,g4⟩
    dsimp only at R4 g3 g4
    rw [if_pos ⟨g3,g4⟩] at hq
    refine k_m rfl ?_
    refine rC (Calm.extract rfl rfl) ?_
    refine rC (Calm.extract rfl rfl) ?_
    refine k_s rfl (k_e rfl ?_)
    refine k_u [(0,_),(1,_),(2,_),(3,_),(4,_),(10,_),(11,_),(12,_),(13,_),(97,_),(16,_),(17,_)] ?_
    by_cases hmd:md-a1<e1-md
    ·rw [if_pos hmd] at hq
     refine k_a (k_m rfl (k_e rfl ?_))
     refine k_u [(0,_),(1,_),(2,_),(3,_),(4,_),(10,_),(11,_),(12,_),(13,_),(97,_),(16,_),(17,_)] ?_
     refine k_a (k_m rfl (k_m rfl ?_))
     refine rC (Calm.bin rfl rfl b_sub_i64) ?_
     refine k_m rfl (k_m rfl ?_)
     refine rC (Calm.bin rfl rfl b_sub_i64) ?_
     refine k_s rfl (k_e rfl ?_)
     refine k_u [(0,_),(1,_),(2,_),(3,_),(4,_),(10,_),(11,_),(12,_),(13,_),(97,_),(16,_),(17,_),(18,_),(19,_)] ?_
     refine k_a (k_m rfl ?_)
     refine rC (Calm.bin rfl rfl b_quo_i64) ?_
     refine k_e rfl ?_
     refine k_u [(0,_),(1,_),(2,_),(3,_),(4,_),(10,_),(11,_),(12,_),(13,_),(97,_),(16,_),(17,_),(18,_),(19,_),(20,_)] ?_
     refine k_a (k_m rfl (k_m rfl ?_))
     refine rC (Calm.bin rfl rfl b_lss) ?_
     refine k_n ?_
     refine k_u [(0,_),(1,_),(2,_),(3,_),(4,_),(10,_),(11,_),(12,_),(13,_),(97,_),(16,_),(17,_),(18,_),(19,_),(20,_),(125,_)] ?_
     refine k_T rfl ?_
     refine k_a (k_m rfl (k_m rfl ?_))
     refine rC (Calm.bin rfl rfl b_geq) ?_
     refine k_e rfl ?_
     refine k_u [(0,_),(1,_),(2,_),(3,_),(4,_),(10,_),(11,_),(12,_),(13,_),(97,_),(16,_),(17,_),(18,_),(19,_),(20,_),(125,_)] ?_
     refine k_a (k_m rfl (k_m rfl (k_m rfl (k_m rfl ?_))))
     refine k_m rfl ?_
     refine ARun.call (lit_lt rfl) go_136 rfl (ih (md-a1) (by omega) d4 R4 _ _ _ a1 md l2 rfl rfl rfl (by omega) (by omega) (by omega) rfl) ?_
     rintro _ _ ⟨rfl,R5⟩
     refine k_n ?_
     refine k_u [(0,_),(1,_),(2,_),(3,_),(4,_),(10,_),(11,_),(12,_),(13,_),(97,_),(16,_),(17,_),(18,_),(19,_),(20,_),(125,_)] ?_
     refine AWP.region ?_
     refine k_m rfl ?_
     refine rC (Calm.bin rfl rfl b_add_i64) ?_
     refine k_s rfl ?_
     refine arun_nil ?_
     refine ain_n ?_
     refine athen_n ?_
     refine ⟨(md+1,e1,l2,decide (md-a1 ≥ (e1-a1) / 8),ap,pdq (lq cf) d4 a1 md l2 true true),?_,?_,?_,?_⟩
     all_goals (try dsimp only)
     ·exact ⟨sb_,sb_,sb_,sb_,sb_,wbv_ (by omega),sb_,trivial⟩
     ·exact Mem.Less.refl _
     ·exact ⟨by omega,by omega,R5,by omega,by omega,hq⟩
     ·omega
    ·rw [if_neg hmd] at hq
     refine k_a (k_m rfl (k_e rfl ?_))
     refine k_u [(0,_),(1,_),(2,_),(3,_),(4,_),(10,_),(11,_),(12,_),(13,_),(97,_),(16,_),(17,_)] ?_
     refine k_a (k_m rfl (k_m rfl ?_))
     refine rC (Calm.bin rfl rfl b_sub_i64) ?_
     refine k_m rfl (k_m rfl ?_)
     refine rC (Calm.bin rfl rfl b_sub_i64) ?_
     refine k_s rfl (k_e rfl ?_)
     refine k_u [(0,_),(1,_),(2,_),(3,_),(4,_),(10,_),(11,_),(12,_),(13,_),(97,_),(16,_),(17,_),(18,_),(19,_)] ?_
     refine k_a (k_m rfl ?_)
     refine rC (Calm.bin rfl rfl b_quo_i64) ?_
     refine k_e rfl ?_
     refine k_u [(0,_),(1,_),(2,_),(3,_),(4,_),(10,_),(11,_),(12,_),(13,_),(97,_),(16,_),(17,_),(18,_),(19,_),(20,_)] ?_
     refine k_a (k_m rfl (k_m rfl ?_))
     refine rC (Calm.bin rfl rfl b_lss) ?_
     refine k_n ?_
     refine k_u [(0,_),(1,_),(2,_),(3,_),(4,_),(10,_),(11,_),(12,_),(13,_),(97,_),(16,_),(17,_),(18,_),(19,_),(20,_),(125,_)] ?_
     refine k_F rfl ?_
     refine k_a (k_m rfl (k_m rfl ?_))
     refine rC (Calm.bin rfl rfl b_geq) ?_
     refine k_e rfl ?_
     refine k_u [(0,_),(1,_),(2,_),(3,_),(4,_),(10,_),(11,_),(12,_),(13,_),(97,_),(16,_),(17,_),(18,_),(19,_),(20,_),(125,_)] ?_
     refine k_a (k_m rfl (k_m rfl ?_))
     refine rC (Calm.bin rfl rfl b_add_i64) ?_
     refine k_m rfl (k_m rfl (k_m rfl ?_))
     refine ARun.call (lit_lt rfl) go_136 rfl (ih (e1-(md+1)) (by omega) d4 R4 _ _ _ (md+1) e1 l2 om_ rfl rfl (by omega) (by omega) (by omega) rfl) ?_
     rintro _ _ ⟨rfl,R5⟩
     refine k_n ?_
     refine k_u [(0,_),(1,_),(2,_),(3,_),(4,_),(10,_),(11,_),(12,_),(13,_),(97,_),(16,_),(17,_),(18,_),(19,_),(20,_),(125,_)] ?_
     refine AWP.region ?_
     refine k_m rfl (k_s rfl ?_)
     refine arun_nil ?_
     refine ain_n ?_
     refine athen_n ?_
     refine ⟨(a1,md,l2,decide (e1-md ≥ (e1-a1) / 8),ap,pdq (lq cf) d4 (md+1) e1 l2 true true),?_,?_,?_,?_⟩
     all_goals (try dsimp only)
     ·exact ⟨sb_,sb_,sb_,sb_,sb_,wbv_ (by omega),sb_,trivial⟩
     ·exact Mem.Less.refl _
     ·exact ⟨by omega,by omega,R5,by omega,by omega,hq⟩
     ·omega
   ·refine k_T rfl ?_
    obtain ⟨⟨md,d4⟩,hp4⟩ : ∃ q,q=partitionEqual (lq cf) d3 a1 e1 pv:=⟨_,rfl⟩
    rw [if_pos rfl,← hp4] at hq
    dsimp only at hq
    refine k_a (k_m rfl (k_m rfl (k_m rfl (k_m rfl ?_))))
    refine k_m rfl ?_
    refine ARun.call (lit_lt rfl) go_173 rfl ((hp4 ▸ soC_parteq C b room n cap hb hn d3 R3 _ _ _ a1 e1 pv rfl rfl rfl (by omega) (by omega) (by omega))) ?_
    rintro _ _ ⟨rfl,rfl,R4,g3,g4⟩
    dsimp only at R4 g3 g4
    rw [if_pos ⟨g3,g4⟩] at hq
    refine k_e rfl ?_
    refine k_u [(0,_),(1,_),(2,_),(3,_),(4,_),(10,_),(11,_),(12,_),(13,_),(97,_),(15,_)] ?_
    refine k_a (k_m rfl (k_e rfl ?_))
    refine k_u [(0,_),(1,_),(2,_),(3,_),(4,_),(10,_),(11,_),(12,_),(13,_),(97,_),(15,_)] ?_
    refine AWP.exit ?_
    refine athen_exit ?_
    refine ain_same ?_
    refine athen_n ?_
    refine ⟨(md,e1,l2,w1,w2,d4),?_,?_,?_,?_⟩
    all_goals (try dsimp only)
    ·exact ⟨sb_,sb_,sb_,sb_,sb_,sb_,sb_,trivial⟩
    ·exact Mem.Less.refl _
    ·exact ⟨by omega,by omega,R4,by omega,by omega,hq⟩
    ·omega
set_option maxHeartbeats 1000000 in
theorem soC_sort {α : Type} [Inhabited α] {enc : α → Value} {cf : α → α → Int} {okP : α → Prop} {g : Nat} {cb : List Value} {S : Mem} (C : CmpC Try.prog enc cf okP g cb S) (b room n cap : Nat) (hb : Fresh S b) (hn : n ≤ 1048576) (d : Array α) (R : Rw okP n d) :
  ACall Try.prog 101 #[.slice (some ⟨b,0,none⟩) n cap,.func (.func g) #[] cb.toArray] (S.set b ⟨3,(d).toList.map enc,room⟩) fun r S'=>S'=S.set b ⟨3,(pdq (lq cf) d 0 n (bitsLen n) true true).toList.map enc,room⟩∧Rw okP n (pdq (lq cf) d 0 n (bitsLen n) true true):=by
 have hbl:=bitsLen_small n hn
 refine ACall.enter (rs:=[]) 14 [(0,.slice (some ⟨b,0,none⟩) n cap),(1,.func (.func g) #[] cb.toArray)] Try.func101 rfl rfl (Nat.le_of_ble_eq_true rfl) rfl ⟨rfl,rfl,trivial⟩ ?_
 refine k_a (k_m rfl ?_)
 refine rC (Calm.lenSl Try.underlying24 rfl) ?_
 refine k_e rfl ?_
 refine k_u [(0,_),(1,_),(4,_)] ?_
 refine AWP.region ?_
 refine k_m rfl (k_m rfl (k_m rfl ?_))
 refine rC (Calm.conv rfl (by first | exact conv_intW Try.underlying3 Try.underlying139 (IntWalk.u64_in _ (by omega)) | exact conv_int Try.underlying3 Try.underlying139)) ?_
 refine ARun.call (lit_lt rfl) go_122 rfl (so_Len n (by omega) _) ?_
 rintro _ _ ⟨rfl,rfl⟩
 refine k_m rfl ?_
 refine ARun.call (lit_lt rfl) go_136 rfl (soC_pdq C b room n cap hb hn (n-0) d R _ _ _ 0 n (bitsLen n) rfl rfl rfl (Nat.zero_le _) (Nat.le_refl _) (by omega) rfl) ?_
 rintro _ _ ⟨rfl,R1⟩
 refine arun_nil ?_
 refine ⟨_,_,rfl,Mem.Less.refl _,?_⟩
 exact ⟨rfl,R1⟩
end Go.Proofs.Ytgidjbpgkeemiaa
namespace Go.Proofs.Ytgidjbpgkeemiaa
open Go.RowKit
open Mv Num Loser Srt
set_option maxRecDepth 4000
/-- What a place's number so far behind is ranked, and one. -/
def bhd (r : List Nat) (k a : Nat) : Nat := Ord.beh r.length (fun j => r.getD j 0) k a
def cfD (r : List Nat) (k a b : Nat) : Int := orL [cmpZ (r.getD a 0 : Nat) (r.getD b 0 : Nat), cmpZ (bhd r k a : Nat) (bhd r k b : Nat)]
theorem cfD_neg (r : List Nat) (k a b : Nat) : cfD r k a b < 0 ↔ r.getD a 0 < r.getD b 0 ∨ r.getD a 0 = r.getD b 0 ∧ bhd r k a < bhd r k b := by
 unfold cfD orL orL orL
 have h1:=cmpZ_neg (r.getD a 0:Nat) (r.getD b 0:Nat)
 have h2:=cmpZ_zero (r.getD a 0:Nat) (r.getD b 0:Nat)
 have h3:=cmpZ_neg (bhd r k a:Nat) (bhd r k b:Nat)
 have h4:=cmpZ_zero (bhd r k a:Nat) (bhd r k b:Nat)
 split
 ·split <;> omega
 ·omega
theorem od_behind (ii : Int) (a k c1 c2 : Nat) (ei : ii = a) (vr : Value) (r : List Nat) (S : Mem) (h1 : S.Knows ⟨c1, 0, none⟩ [.int .i64 (k : Int)]) (h2 : S.Knows ⟨c2, 0, none⟩ [vr]) (hr : IdxR S vr r) (ha : a ≤ 8192) (hk : k ≤ 8192) (hb : ∀ x ∈ r, x ≤ 8192) :
  ACall Try.prog 157 #[.int .i64 ii,.pointer (some ⟨c1,0,none⟩),.pointer (some ⟨c2,0,none⟩)] S fun v S'=>v = .int .i64 (bhd r k a:Nat)∧S'=S:=by
 subst ei
 obtain ⟨ra,rc,rfl,r1,r2,r3⟩:=id hr
 unfold bhd Ord.beh
 by_cases h:a+k<r.length
 ·rw [if_pos h]
  dsimp only
  obtain ⟨rb,ro,rfl,hkn⟩:=r3.resolve_left (fun e=>by rw [e] at h;exact absurd h (Nat.not_lt_zero _))
  have hx:=hb _ (List.getElem_mem h)
  have k1:S.Knows ⟨rb,ro+(a+k)*1,none⟩ [.int .i64 (r.getD (a+k) 0:Nat)]:=by rw [getD_get r _ 0 h];exact hkn _ h
  rw [← getD_get r _ 0 h] at hx
  generalize r.getD (a+k) 0=x at *
  refine ACall.enter (rs:=[.tmp 4]) 18 [(0,.int .i64 (a:Int)),(1,.pointer (some ⟨c1,0,none⟩)),(2,.pointer (some ⟨c2,0,none⟩))] Try.func157 rfl rfl (Nat.le_of_ble_eq_true rfl) rfl ⟨rfl,rfl,rfl,trivial⟩ ?_
  refine k_a (k_e rfl (AWP.seq (k_a (k_m rfl ?_))))
  refine rC (ld_ ty_plain_3 rfl) ?_
  refine rC (Calm.bin rfl rfl b_add_i64) ?_
  refine rC (ld_ ty_plain_24 rfl) ?_
  refine rC (Calm.lenSl Try.underlying24 rfl) ?_
  refine rC (Calm.bin rfl rfl b_lss) ?_
  refine k_n ?_
  refine k_u [(0,_),(1,_),(2,_),(4,_),(10,_)] ?_
  refine k_T rfl ?_
  refine k_a ?_
  refine rC (ld_ ty_plain_24 rfl) ?_
  refine k_m rfl ?_
  refine rC (ld_ ty_plain_3 rfl) ?_
  refine rC (Calm.bin rfl rfl b_add_i64) ?_
  refine rC (Calm.indexS Try.underlying24 ty_size_3 rfl rfl (by omega) (by omega)) ?_
  refine rC (ld_ ty_plain_3 rfl) ?_
  refine rC (Calm.bin rfl rfl b_add_i64) ?_
  refine k_e rfl ?_
  refine k_u [(0,_),(1,_),(2,_),(4,_),(10,_)] ?_
  refine k_r ?_
  refine ⟨_,S,⟨_,_,rfl,rfl,rfl⟩,less_,?_⟩
  exact ⟨rfl,rfl⟩
 ·rw [if_neg h]
  refine ACall.enter (rs:=[.tmp 4]) 18 [(0,.int .i64 (a:Int)),(1,.pointer (some ⟨c1,0,none⟩)),(2,.pointer (some ⟨c2,0,none⟩))] Try.func157 rfl rfl (Nat.le_of_ble_eq_true rfl) rfl ⟨rfl,rfl,rfl,trivial⟩ ?_
  refine k_a (k_e rfl (AWP.seq (k_a (k_m rfl ?_))))
  refine rC (ld_ ty_plain_3 rfl) ?_
  refine rC (Calm.bin rfl rfl b_add_i64) ?_
  refine rC (ld_ ty_plain_24 rfl) ?_
  refine rC (Calm.lenSl Try.underlying24 rfl) ?_
  refine rC (Calm.bin rfl rfl b_lss) ?_
  refine k_n ?_
  refine k_u [(0,_),(1,_),(2,_),(4,_),(10,_)] ?_
  refine k_F rfl ?_
  refine k_k (k_a (k_e rfl ?_))
  refine AWP.ret ?_
  refine ⟨_,S,⟨_,_,rfl,rfl,rfl⟩,less_,?_⟩
  exact ⟨rfl,rfl⟩
def behF (c5 c4 : Nat) : Value := .func (.func 157) #[] #[.pointer (some ⟨c5, 0, none⟩), .pointer (some ⟨c4, 0, none⟩)]
set_option maxHeartbeats 2000000 in
theorem od_cmp (a b k c4 c5 c7 : Nat) (vr : Value) (r : List Nat) (S : Mem) (h4 : S.Knows ⟨c4, 0, none⟩ [vr]) (h5 : S.Knows ⟨c5, 0, none⟩ [.int .i64 (k : Int)]) (h7 : S.Knows ⟨c7, 0, none⟩ [behF c5 c4]) (hr : IdxR S vr r) (ha : a < r.length) (hb : b < r.length) (hrl : r.length ≤ 4096) (hk : k ≤ 8192) (hbd : ∀ x ∈ r, x ≤ 8192) :
  ACall Try.prog 158 #[gI a,gI b,.pointer (some ⟨c4,0,none⟩),.pointer (some ⟨c7,0,none⟩)] S fun v S'=>v = .int .i64 (cfD r k a b)∧S'=S:=by
 unfold gI behF at *
 obtain ⟨ra,rc,rfl,r1,r2,r3⟩:=id hr
 obtain ⟨rb,ro,rfl,hkn⟩:=r3.resolve_left (fun e=>by rw [e] at ha;exact absurd ha (Nat.not_lt_zero _))
 have k1:S.Knows ⟨rb,ro+a*1,none⟩ [.int .i64 (r.getD a 0:Nat)]:=by rw [getD_get r _ 0 ha];exact hkn _ ha
 have k2:S.Knows ⟨rb,ro+b*1,none⟩ [.int .i64 (r.getD b 0:Nat)]:=by rw [getD_get r _ 0 hb];exact hkn _ hb
 refine ACall.enter (rs:=[.tmp 6]) 25 [(0,.int .i64 (a:Int)),(1,.int .i64 (b:Int)),(2,.pointer (some ⟨c4,0,none⟩)),(3,.pointer (some ⟨c7,0,none⟩))] Try.func158 rfl rfl (Nat.le_of_ble_eq_true rfl) rfl ⟨rfl,rfl,rfl,rfl,trivial⟩ ?_
 refine k_a (k_e rfl (AWP.seq ?_))
 refine AWP.draw [(0,true),(1,true),(2,true),(3,true),(4,true),(5,true),(6,true),(7,true),(9,true),(10,true),(12,true),(13,true),(8,false),(11,false),(14,false),(15,false),(16,false),(17,false),(18,true)] [] mixed (by kernel_rfl) ?_
 refine dC (hc:=ld_ ty_plain_24 rfl) (h:=?_)
 refine dP (hc:=fun _=>Calm.move rfl) (h:=?_)
 refine dP (hc:=fun _=>Calm.indexS Try.underlying24 ty_size_3 rfl rfl (by omega) (by omega)) (h:=?_)
 refine dC (hc:=ld_ ty_plain_3 rfl) (h:=?_)
 refine dC (hc:=ld_ ty_plain_24 rfl) (h:=?_)
 refine dP (hc:=fun _=>Calm.move rfl) (h:=?_)
 refine dP (hc:=fun _=>Calm.indexS Try.underlying24 ty_size_3 rfl rfl (by omega) (by omega)) (h:=?_)
 refine dC (hc:=ld_ ty_plain_3 rfl) (h:=?_)
 refine dC (hc:=ld_ ty_plain_105 rfl) (h:=?_)
 refine dP (hc:=fun _=>Calm.move rfl) (h:=?_)
 refine dC (hc:=ld_ ty_plain_105 rfl) (h:=?_)
 refine dP (hc:=fun _=>Calm.move rfl) (h:=?_)
 refine draw_only rfl ?_
 refine ARun.call (lit_lt rfl) go_95 rfl (si_cmp (r.getD a 0:Nat) (r.getD b 0:Nat) _) ?_
 rintro _ S1 ⟨rfl,e1⟩
 rw [e1];clear e1 S1
 refine arun_nil ⟨fun _=>less_,?_⟩
 refine draw_only rfl ?_
 refine ARun.callV (lit_lt rfl) go_157 rfl rfl (od_behind _ a k c5 c4 rfl _ r _ h5 h4 hr (by omega) hk hbd) ?_
 rintro _ S1 ⟨rfl,e1⟩
 rw [e1];clear e1 S1
 refine arun_nil ⟨fun _=>less_,?_⟩
 refine draw_only rfl ?_
 refine ARun.callV (lit_lt rfl) go_157 rfl rfl (od_behind _ b k c5 c4 rfl _ r _ h5 h4 hr (by omega) hk hbd) ?_
 rintro _ S1 ⟨rfl,e1⟩
 rw [e1];clear e1 S1
 refine arun_nil ⟨fun _=>less_,?_⟩
 refine draw_only rfl ?_
 refine ARun.call (lit_lt rfl) go_95 rfl (si_cmp (bhd r k a:Nat) (bhd r k b:Nat) _) ?_
 rintro _ S1 ⟨rfl,e1⟩
 rw [e1];clear e1 S1
 refine arun_nil ⟨fun _=>less_,?_⟩
 refine draw_only rfl ?_
 refine ARun.buildN (cs:=[_,_]) (lit_lt rfl) ty_sl_24 rfl rfl rfl rfl ?_
 intro b23 f23
 have g23:=f23
 repeat ((with_reducible replace g23:=fresh_set g23);obtain ⟨g23,_⟩:=g23)
 refine arun_nil ⟨fun _=>less_,?_⟩
 refine draw_only rfl ?_
 refine ARun.call (lit_lt rfl) go_93 rfl (si_Or _ _ _ (sl_own2 own_)) ?_
 rintro _ _ ⟨rfl,rfl⟩
 refine arun_nil ⟨fun _=>less_,?_⟩
 refine dP (hc:=fun _=>Calm.assign rfl) (h:=?_)
 refine draw_nil ?_
 refine athen_n ?_
 refine k_u [(0,_),(1,_),(2,_),(3,_),(6,_)] ?_
 refine AWP.ret ?_
 refine ⟨_,S,⟨_,_,rfl,rfl,rfl⟩,less_,?_⟩
 exact ⟨rfl,rfl⟩
end Go.Proofs.Ytgidjbpgkeemiaa
