/-
  Texts that belong together: Pool13, Pool14, Pool15, Pool16, Pool17, Pool18, Pool19, PoolLv0, PoolLv, DiskOpen, PoolOpen.
-/
import Derived.Test.YtkeiphkccnfhoaaGreatBPq4
set_option linter.unusedVariables false
set_option linter.unusedSimpArgs false
set_option linter.unusedSectionVars false
namespace Go.Proofs.YtkeiphkccnfhoaaGreat
open Go.RowKit
open Mv Disk
set_option maxRecDepth 4000
def clrF (s : ByteArray) (x : Fr) : Fr := if ofN s x = true then F0 else x
def drF (s : ByteArray) (l : List Fr) (i : Nat) : List Fr := (l.take i).map (clrF s) ++ l.drop i
theorem drF_len (s : ByteArray) (l : List Fr) (i : Nat) : (drF s l i).length = l.length := by unfold drF; simp; omega
theorem drF_at (s : ByteArray) (l : List Fr) {i : Nat} (h : i < l.length) (h' : i < (drF s l i).length) : (drF s l i)[i] = l[i] := by
 have e:(drF s l i)[i]?=some l[i]:=by
  unfold drF
  rw [List.getElem?_append_right (by simp;omega)]
  simp [Nat.min_eq_left (Nat.le_of_lt h)]
 rw [List.getElem?_eq_getElem h'] at e
 exact Option.some.inj e
theorem drF_succ (s : ByteArray) (l : List Fr) {i : Nat} (h : i < l.length) : drF s l (i + 1) = (drF s l i).set i (clrF s l[i]) := by
 unfold drF
 rw [take_get h,List.set_append_right _ _ (by simp;omega),List.map_append,List.append_assoc]
 congr 1
 rw [List.length_map,List.length_take,Nat.min_eq_left (Nat.le_of_lt h),Nat.sub_self,drop_get h]
 rfl
theorem drF_all (s : ByteArray) (l : List Fr) : drF s l l.length = l.map (clrF s) := by unfold drF; simp
set_option maxHeartbeats 4000000 in
theorem pl_DropA (a p b c : Nat) (x : Pl) (s : ByteArray) (k : Int) (S : Mem) (oE oW : Option (Nat × Nat)) (hok : OkA S a p b c x oE oW) (hw : PW x) :
  ACall Tryz.prog 59 #[.pointer (some ⟨a,0,none⟩),.string s] (arM (devM S p x.d oE oW) a p b c x k) (ArR S a p b c (dropP x s)):=by
 have h256:=hw.l2
 have hA:=ar_own (M:=devM S p x.d oE oW) (a:=a) (p:=p) (b:=b) (c:=c) (x:=x) (k:=k)
 have hF:=ar_sl (M:=devM S p x.d oE oW) (p:=p) (x:=x) (k:=k) hok.ab hok.l hw.l2
 have hAi:=fun i=>ar_own (M:=devM S p x.d oE oW) (a:=a) (p:=p) (b:=b) (c:=c) (x:={ x with fr:=drF s x.fr i }) (k:=k)
 have hBi:=fun i=>ar_fr (M:=devM S p x.d oE oW) (p:=p) (c:=c) (x:={ x with fr:=drF s x.fr i }) (k:=k) hok.ab
 have hFi:=fun i=>ar_sl (M:=devM S p x.d oE oW) (p:=p) (x:={ x with fr:=drF s x.fr i }) (k:=k) hok.ab (by simp only [drF_len];exact hok.l) (by simp only [drF_len];exact hw.l2)
 have hsi:=fun i fr' h=>ar_setF (M:=devM S p x.d oE oW) (p:=p) (c:=c) (x:={ x with fr:=drF s x.fr i }) (k:=k) hok.ab fr' h
 have h0:arM (devM S p x.d oE oW) a p b c { x with fr:=drF s x.fr 0 } k=arM (devM S p x.d oE oW) a p b c x k:=rfl
 unfold arB at hA hAi
 simp only [drF_len] at hAi hFi hsi
 unfold dropP
 refine ACall.enter (rs:=[.tmp 4]) 58 [(0,.pointer (some ⟨a,0,none⟩)),(1,.string s)] Tryz.func59 rfl rfl (Nat.le_of_ble_eq_true rfl) rfl ⟨rfl,rfl,trivial⟩ ?_
 refine k_a (k_e rfl (AWP.seq (k_a (k_m rfl ?_))))
 refine rC (Calm.nilCheck rfl) ?_
 refine rC (Calm.fieldAddr ty_field_93_1 rfl) ?_
 refine rC (ld_ ty_plain_26 rfl) ?_
 refine rC (Calm.lenSl Tryz.underlying26 rfl) ?_
 refine k_m rfl (k_n ?_)
 refine k_u [(0,_),(1,_),(4,_),(12,_),(13,_),(14,_)] ?_
 refine AWP.block ?_
 refine AWP.loop (X:=Nat) (fun y=>[(0,.pointer (some ⟨a,0,none⟩)),(1,.string s),(12,.slice (some ⟨b,0,none⟩) x.fr.length c),(13,.int .i64 x.fr.length),(14,.int .i64 y)]) (fun _=>arM (devM S p x.d oE oW) a p b c x k) (fun y=>y≤x.fr.length ∧ ∀ j (hj:j<x.fr.length),j<y→(ofN s x.fr[j] && decide (0<x.fr[j].pins))=false) (fun y=>x.fr.length-y) (0) ⟨rfl,rfl,rfl,rfl,rfl,trivial⟩ less_ (⟨Nat.zero_le _,fun j _ h=>absurd h (Nat.not_lt_zero _)⟩) ?_
 rintro i ⟨hi,hno⟩
 (try dsimp only at *)
 refine k_a ?_
 refine rC (Calm.bin rfl rfl b_lss) ?_
 refine k_n (AWP.seq ?_)
 refine AWP.condB rfl (fun hc=>?_) (fun hc=>?_)
 ·have hc:i<x.fr.length:=by have:=of_decide_eq_true hc;omega
  have hki:=sl_at hF i hc
  have hno':(ofN s x.fr[i] && decide (0<x.fr[i].pins))=false → ∀ j (hj:j<x.fr.length),j<i+1→(ofN s x.fr[j] && decide (0<x.fr[j].pins))=false:=fun hn j h hj=>by rcases Nat.lt_or_ge j i with h' | h';exact hno j h h';obtain rfl:j=i:=(by omega);exact hn
  have hyes:(ofN s x.fr[i] && decide (0<x.fr[i].pins))=true→x.fr.any (fun x=>ofN s x && decide (0<x.pins))=true:=fun h=>List.any_eq_true.2 ⟨_,List.getElem_mem hc,h⟩
  have ch:=fun S=>pl_holds x.fr[i] S
  generalize x.fr[i]=y at *
  unfold frV at ch
  unfold frF at hki
  by_cases q1:y.holds
  ·rw [decide_eq_true q1] at ch
   by_cases q2:y.name=s
   ·rw [show ofN s y=true from decide_eq_true ⟨q1,q2⟩,Bool.true_and] at hno' hyes
    refine k_k (AWP.seq ?_)
    refine AWP.block ?_
    refine k_a ?_
    refine rC (Calm.indexS Tryz.underlying26 ty_size_62 rfl rfl (by omega) (by omega)) ?_
    refine k_7 ty_agg_62 ty_size_62 rfl ?_
    refine ARun.alloc (lit_lt rfl) ty_zero_62 ?_
    intro b6 f6
    have g6:=f6
    repeat ((with_reducible replace g6:=fresh_set g6);obtain ⟨g6,_⟩:=g6)
    have:=g6.ne hA;have:=g6.ne' hA
    try simp only [k_l1,k_l0,k_za,Nat.reduceAdd]
    first|refine k_A rfl rfl ty_size_62 ?_|refine k_B rfl rfl ty_size_62 ?_
    try simp only [k_ms,k_sz,k_ss,k_za,Nat.reduceAdd]
    refine k_n ?_
    refine k_u [(0,_),(1,_),(12,_),(13,_),(14,_),(15,_),(6,_)] ?_
    refine k_a ?_
    refine k_7 ty_agg_62 ty_size_62 rfl ?_
    refine ARun.call (lit_lt rfl) go_63 rfl (ch _) ?_
    rintro _ S1 ⟨rfl,h1⟩
    rw [h1];clear h1 S1
    refine k_m rfl ?_
    first|refine k_q 20 ?_|refine rG 20 (Calm.fieldAddr ty_field_62_0 rfl) ?_
    first|refine k_q 20 ?_|refine rG 20 (ld_ ty_plain_9 rfl) ?_
    first|refine k_q 20 ?_|refine rG 20 (Calm.move rfl) ?_
    first|refine k_q 20 ?_|refine rG 20 (Calm.bin rfl rfl (bin_bool (bin_str_eql _ _) (decide_eq_true q2))) ?_
    first|refine k_t rfl rfl ?_|refine k_f rfl rfl ?_
    refine k_m rfl ?_
    first|refine k_q 26 ?_|refine rG 26 (Calm.fieldAddr ty_field_62_3 rfl) ?_
    first|refine k_q 26 ?_|refine rG 26 (ld_ ty_plain_3 rfl) ?_
    first|refine k_q 26 ?_|refine rG 26 (Calm.bin rfl rfl b_gtr) ?_
    first|refine k_t rfl rfl ?_|refine k_f rfl rfl ?_
    refine k_n ?_
    refine k_u [(0,_),(1,_),(12,_),(13,_),(14,_),(15,_),(6,_),(30,_)] ?_
    refine AWP.condB rfl (fun hb=>?_) (fun hb=>?_)
    ·rw [if_pos (hyes hb)]
     refine k_a (k_e rfl ?_)
     refine AWP.ret ?_
     refine ain_ret ?_
     refine athen_ret ?_
     refine athen_ret ?_
     refine ain_ret ?_
     refine athen_ret ?_
     refine ⟨_,arM (devM S p x.d oE oW) a p b c x k,⟨_,_,rfl,rfl,rfl⟩,less_,?_⟩
     exact ⟨rfl,k,oE,oW,hok,rfl⟩
    ·refine AWP.skip ?_
     refine ain_n ?_
     refine athen_n ?_
     refine AWP.region ?_
     refine rC (Calm.bin rfl rfl b_add_i64) ?_
     refine k_m rfl (k_n ?_)
     refine ⟨i+1,?_,?_,?_,?_⟩
     all_goals (try dsimp only)
     ·exact ⟨rfl,rfl,rfl,rfl,rfl,trivial⟩
     ·exact less_
     ·exact ⟨hc,hno' hb⟩
     ·omega
   ·rw [show ofN s y=false from decide_eq_false fun h=>q2 h.2,Bool.false_and] at hno'
    refine k_k (AWP.seq ?_)
    refine AWP.block ?_
    refine k_a ?_
    refine rC (Calm.indexS Tryz.underlying26 ty_size_62 rfl rfl (by omega) (by omega)) ?_
    refine k_7 ty_agg_62 ty_size_62 rfl ?_
    refine ARun.alloc (lit_lt rfl) ty_zero_62 ?_
    intro b6 f6
    have g6:=f6
    repeat ((with_reducible replace g6:=fresh_set g6);obtain ⟨g6,_⟩:=g6)
    have:=g6.ne hA;have:=g6.ne' hA
    try simp only [k_l1,k_l0,k_za,Nat.reduceAdd]
    first|refine k_A rfl rfl ty_size_62 ?_|refine k_B rfl rfl ty_size_62 ?_
    try simp only [k_ms,k_sz,k_ss,k_za,Nat.reduceAdd]
    refine k_n ?_
    refine k_u [(0,_),(1,_),(12,_),(13,_),(14,_),(15,_),(6,_)] ?_
    refine k_a ?_
    refine k_7 ty_agg_62 ty_size_62 rfl ?_
    refine ARun.call (lit_lt rfl) go_63 rfl (ch _) ?_
    rintro _ S1 ⟨rfl,h1⟩
    rw [h1];clear h1 S1
    refine k_m rfl ?_
    first|refine k_q 20 ?_|refine rG 20 (Calm.fieldAddr ty_field_62_0 rfl) ?_
    first|refine k_q 20 ?_|refine rG 20 (ld_ ty_plain_9 rfl) ?_
    first|refine k_q 20 ?_|refine rG 20 (Calm.move rfl) ?_
    first|refine k_q 20 ?_|refine rG 20 (Calm.bin rfl rfl (bin_bool (bin_str_eql _ _) (decide_eq_false q2))) ?_
    first|refine k_t rfl rfl ?_|refine k_f rfl rfl ?_
    refine k_m rfl ?_
    first|refine k_q 26 ?_|refine rG 26 (Calm.fieldAddr ty_field_62_3 rfl) ?_
    first|refine k_q 26 ?_|refine rG 26 (ld_ ty_plain_3 rfl) ?_
    first|refine k_q 26 ?_|refine rG 26 (Calm.bin rfl rfl b_gtr) ?_
    first|refine k_t rfl rfl ?_|refine k_f rfl rfl ?_
    refine k_n ?_
    refine k_u [(0,_),(1,_),(12,_),(13,_),(14,_),(15,_),(6,_),(30,_)] ?_
    refine k_F rfl ?_
    refine AWP.skip ?_
    refine ain_n ?_
    refine athen_n ?_
    refine AWP.region ?_
    refine rC (Calm.bin rfl rfl b_add_i64) ?_
    refine k_m rfl (k_n ?_)
    refine ⟨i+1,?_,?_,?_,?_⟩
    all_goals (try dsimp only)
    ·exact ⟨rfl,rfl,rfl,rfl,rfl,trivial⟩
    ·exact less_
    ·exact ⟨hc,hno' rfl⟩
    ·omega
  ·rw [decide_eq_false q1] at ch
   rw [show ofN s y=false from decide_eq_false fun h=>q1 h.1,Bool.false_and] at hno'
   refine k_k (AWP.seq ?_)
   refine AWP.block ?_
   refine k_a ?_
   refine rC (Calm.indexS Tryz.underlying26 ty_size_62 rfl rfl (by omega) (by omega)) ?_
   refine k_7 ty_agg_62 ty_size_62 rfl ?_
   refine ARun.alloc (lit_lt rfl) ty_zero_62 ?_
   intro b6 f6
   have g6:=f6
   repeat ((with_reducible replace g6:=fresh_set g6);obtain ⟨g6,_⟩:=g6)
   have:=g6.ne hA;have:=g6.ne' hA
   try simp only [k_l1,k_l0,k_za,Nat.reduceAdd]
   first|refine k_A rfl rfl ty_size_62 ?_|refine k_B rfl rfl ty_size_62 ?_
   try simp only [k_ms,k_sz,k_ss,k_za,Nat.reduceAdd]
   refine k_n ?_
   refine k_u [(0,_),(1,_),(12,_),(13,_),(14,_),(15,_),(6,_)] ?_
   refine k_a ?_
   refine k_7 ty_agg_62 ty_size_62 rfl ?_
   refine ARun.call (lit_lt rfl) go_63 rfl (ch _) ?_
   rintro _ S1 ⟨rfl,h1⟩
   rw [h1];clear h1 S1
   refine k_m rfl ?_
   first|refine k_q 20 ?_|refine rG 20 (Calm.fieldAddr ty_field_62_0 rfl) ?_
   first|refine k_q 20 ?_|refine rG 20 (ld_ ty_plain_9 rfl) ?_
   first|refine k_q 20 ?_|refine rG 20 (Calm.move rfl) ?_
   first|refine k_q 20 ?_|refine rG 20 (Calm.bin rfl rfl (bin_str_eql _ _)) ?_
   first|refine k_t rfl rfl ?_|refine k_f rfl rfl ?_
   refine k_m rfl ?_
   first|refine k_q 26 ?_|refine rG 26 (Calm.fieldAddr ty_field_62_3 rfl) ?_
   first|refine k_q 26 ?_|refine rG 26 (ld_ ty_plain_3 rfl) ?_
   first|refine k_q 26 ?_|refine rG 26 (Calm.bin rfl rfl b_gtr) ?_
   first|refine k_t rfl rfl ?_|refine k_f rfl rfl ?_
   refine k_n ?_
   refine k_u [(0,_),(1,_),(12,_),(13,_),(14,_),(15,_),(6,_),(30,_)] ?_
   refine k_F rfl ?_
   refine AWP.skip ?_
   refine ain_n ?_
   refine athen_n ?_
   refine AWP.region ?_
   refine rC (Calm.bin rfl rfl b_add_i64) ?_
   refine k_m rfl (k_n ?_)
   refine ⟨i+1,?_,?_,?_,?_⟩
   all_goals (try dsimp only)
   ·exact ⟨rfl,rfl,rfl,rfl,rfl,trivial⟩
   ·exact less_
   ·exact ⟨hc,hno' rfl⟩
   ·omega
 ·have hc:i=x.fr.length:=by have:=of_decide_eq_false hc;omega
  subst hc
  rw [if_neg (show ¬ (x.fr.any (fun x=>ofN s x && decide (0<x.pins))=true) from fun h=>by obtain ⟨y,hy,hq⟩:=List.any_eq_true.1 h;obtain ⟨j,hj,rfl⟩:=List.getElem_of_mem hy;rw [hno j hj hj] at hq;cases hq)]
  refine AWP.exit ?_
  refine athen_exit ?_
  refine athen_exit ?_
  refine ain_same ?_
  refine athen_n ?_
  refine AWP.seq (k_a (k_m rfl ?_))
  refine rC (Calm.nilCheck rfl) ?_
  refine rC (Calm.fieldAddr ty_field_93_1 rfl) ?_
  refine rC (ld_ ty_plain_26 rfl) ?_
  refine rC (Calm.lenSl Tryz.underlying26 rfl) ?_
  refine k_m rfl (k_n ?_)
  refine k_u [(0,_),(1,_),(12,_),(13,_),(14,_),(15,_),(35,_),(36,_),(37,_)] ?_
  refine AWP.block ?_
  refine AWP.loop (X:=Nat) (fun y=>[(0,.pointer (some ⟨a,0,none⟩)),(1,.string s),(35,.slice (some ⟨b,0,none⟩) x.fr.length c),(36,.int .i64 x.fr.length),(37,.int .i64 y)]) (fun y=>arM (devM S p x.d oE oW) a p b c { x with fr:=drF s x.fr y } k) (fun y=>y≤x.fr.length) (fun y=>x.fr.length-y) (0) ⟨rfl,rfl,rfl,rfl,rfl,trivial⟩ (less_eq h0) (Nat.zero_le _) ?_
  rintro i hi
  (try dsimp only at *)
  refine k_a ?_
  refine rC (Calm.bin rfl rfl b_lss) ?_
  refine k_n (AWP.seq ?_)
  refine AWP.condB rfl (fun hc=>?_) (fun hc=>?_)
  ·have hc:i<x.fr.length:=by have:=of_decide_eq_true hc;omega
   have hcd:i<(drF s x.fr i).length:=by rw [drF_len];exact hc
   have hki:=sl_at (hFi i) i hcd
   rw [drF_at s x.fr hc] at hki
   have hsucc:=drF_succ s x.fr hc
   have hAn:=hAi i
   have ch:=fun S=>pl_holds x.fr[i] S
   unfold clrF at hsucc
   have hid:(drF s x.fr i).set i x.fr[i]=drF s x.fr i:=by rw [← drF_at s x.fr hc hcd];exact List.set_getElem_self hcd
   generalize x.fr[i]=y at *
   unfold frV at ch
   unfold frF at hki
   unfold ofN at hsucc
   by_cases q1:y.holds
   ·rw [decide_eq_true q1] at ch
    by_cases q2:y.name=s
    ·rw [decide_eq_true (show y.holds∧y.name=s from ⟨q1,q2⟩),if_pos rfl] at hsucc
     refine k_k (AWP.seq ?_)
     refine AWP.block ?_
     refine k_a (k_m rfl ?_)
     refine rC (Calm.indexS Tryz.underlying26 ty_size_62 rfl rfl (by omega) (by omega)) ?_
     refine k_7 ty_agg_62 ty_size_62 rfl ?_
     refine ARun.alloc (lit_lt rfl) ty_zero_62 ?_
     intro b8 f8
     have g8:=f8
     repeat ((with_reducible replace g8:=fresh_set g8);obtain ⟨g8,_⟩:=g8)
     have:=g8.ne hAn;have:=g8.ne' hAn
     try simp only [k_l1,k_l0,k_za,Nat.reduceAdd]
     refine k_s rfl ?_
     first|refine k_A rfl rfl ty_size_62 ?_|refine k_B rfl rfl ty_size_62 ?_
     try simp only [k_ms,k_sz,k_ss,k_za,Nat.reduceAdd]
     refine k_n ?_
     refine k_u [(0,_),(1,_),(35,_),(36,_),(37,_),(38,_),(8,_),(7,_)] ?_
     refine k_a ?_
     refine k_7 ty_agg_62 ty_size_62 rfl ?_
     refine ARun.call (lit_lt rfl) go_63 rfl (ch _) ?_
     rintro _ S1 ⟨rfl,h1⟩
     rw [h1];clear h1 S1
     refine k_m rfl ?_
     first|refine k_q 44 ?_|refine rG 44 (Calm.fieldAddr ty_field_62_0 rfl) ?_
     first|refine k_q 44 ?_|refine rG 44 (ld_ ty_plain_9 rfl) ?_
     first|refine k_q 44 ?_|refine rG 44 (Calm.move rfl) ?_
     first|refine k_q 44 ?_|refine rG 44 (Calm.bin rfl rfl (bin_bool (bin_str_eql _ _) (decide_eq_true q2))) ?_
     first|refine k_t rfl rfl ?_|refine k_f rfl rfl ?_
     refine k_n ?_
     refine k_u [(0,_),(1,_),(35,_),(36,_),(37,_),(38,_),(8,_),(7,_),(49,_)] ?_
     refine k_T rfl ?_
     refine AWP.region ?_
     refine k_m rfl ?_
     refine rC (Calm.nilCheck rfl) ?_
     refine rC (Calm.fieldAddr ty_field_93_1 rfl) ?_
     refine rC (ld_ ty_plain_26 rfl) ?_
     refine k_m rfl ?_
     refine rC (Calm.build (cs:=[_,_,_,_,_,_,_]) ty_bld_62 rfl rfl) ?_
     refine rC (Calm.indexS Tryz.underlying26 ty_size_62 rfl rfl (by omega) (by omega)) ?_
     refine ARun.storeFr (c:=c) (i:=i) (l:=drF s x.fr i) (u:=F0) rfl rfl rfl (by omega) hcd ty_size_62 ((Mem.own_set_other _ _ (f8.ne (hBi i))).trans (hBi i)) ?_
     try simp only [k_ms,k_sz,k_ss,k_za,Nat.reduceAdd]
     refine arun_nil ?_
     refine ain_n ?_
     refine athen_n ?_
     refine k_u [(0,_),(1,_),(35,_),(36,_),(37,_),(38,_),(8,_),(7,_),(49,_)] ?_
     refine AWP.region ?_
     refine rC (Calm.bin rfl rfl b_add_i64) ?_
     refine k_m rfl (k_n ?_)
     refine ⟨i+1,?_,?_,?_,?_⟩
     all_goals (try dsimp only)
     ·exact ⟨rfl,rfl,rfl,rfl,rfl,trivial⟩
     ·exact (by rw [hsucc,← hsi i _ (by simp [drF_len])];exact Less.set (Mem.less_set _ _ _ f8.1) _ _)
     ·exact hc
     ·omega
    ·rw [decide_eq_false (show ¬ (y.holds∧y.name=s) from fun h=>q2 h.2),if_neg (by simp),hid] at hsucc
     refine k_k (AWP.seq ?_)
     refine AWP.block ?_
     refine k_a (k_m rfl ?_)
     refine rC (Calm.indexS Tryz.underlying26 ty_size_62 rfl rfl (by omega) (by omega)) ?_
     refine k_7 ty_agg_62 ty_size_62 rfl ?_
     refine ARun.alloc (lit_lt rfl) ty_zero_62 ?_
     intro b8 f8
     have g8:=f8
     repeat ((with_reducible replace g8:=fresh_set g8);obtain ⟨g8,_⟩:=g8)
     have:=g8.ne hAn;have:=g8.ne' hAn
     try simp only [k_l1,k_l0,k_za,Nat.reduceAdd]
     refine k_s rfl ?_
     first|refine k_A rfl rfl ty_size_62 ?_|refine k_B rfl rfl ty_size_62 ?_
     try simp only [k_ms,k_sz,k_ss,k_za,Nat.reduceAdd]
     refine k_n ?_
     refine k_u [(0,_),(1,_),(35,_),(36,_),(37,_),(38,_),(8,_),(7,_)] ?_
     refine k_a ?_
     refine k_7 ty_agg_62 ty_size_62 rfl ?_
     refine ARun.call (lit_lt rfl) go_63 rfl (ch _) ?_
     rintro _ S1 ⟨rfl,h1⟩
     rw [h1];clear h1 S1
     refine k_m rfl ?_
     first|refine k_q 44 ?_|refine rG 44 (Calm.fieldAddr ty_field_62_0 rfl) ?_
     first|refine k_q 44 ?_|refine rG 44 (ld_ ty_plain_9 rfl) ?_
     first|refine k_q 44 ?_|refine rG 44 (Calm.move rfl) ?_
     first|refine k_q 44 ?_|refine rG 44 (Calm.bin rfl rfl (bin_bool (bin_str_eql _ _) (decide_eq_false q2))) ?_
     first|refine k_t rfl rfl ?_|refine k_f rfl rfl ?_
     refine k_n ?_
     refine k_u [(0,_),(1,_),(35,_),(36,_),(37,_),(38,_),(8,_),(7,_),(49,_)] ?_
     refine k_F rfl ?_
     refine AWP.skip ?_
     refine ain_n ?_
     refine athen_n ?_
     refine AWP.region ?_
     refine rC (Calm.bin rfl rfl b_add_i64) ?_
     refine k_m rfl (k_n ?_)
     refine ⟨i+1,?_,?_,?_,?_⟩
     all_goals (try dsimp only)
     ·exact ⟨rfl,rfl,rfl,rfl,rfl,trivial⟩
     ·exact (by rw [hsucc];exact less_)
     ·exact hc
     ·omega
   ·rw [decide_eq_false q1] at ch
    rw [decide_eq_false (show ¬ (y.holds∧y.name=s) from fun h=>q1 h.1),if_neg (by simp),hid] at hsucc
    refine k_k (AWP.seq ?_)
    refine AWP.block ?_
    refine k_a (k_m rfl ?_)
    refine rC (Calm.indexS Tryz.underlying26 ty_size_62 rfl rfl (by omega) (by omega)) ?_
    refine k_7 ty_agg_62 ty_size_62 rfl ?_
    refine ARun.alloc (lit_lt rfl) ty_zero_62 ?_
    intro b8 f8
    have g8:=f8
    repeat ((with_reducible replace g8:=fresh_set g8);obtain ⟨g8,_⟩:=g8)
    have:=g8.ne hAn;have:=g8.ne' hAn
    try simp only [k_l1,k_l0,k_za,Nat.reduceAdd]
    refine k_s rfl ?_
    first|refine k_A rfl rfl ty_size_62 ?_|refine k_B rfl rfl ty_size_62 ?_
    try simp only [k_ms,k_sz,k_ss,k_za,Nat.reduceAdd]
    refine k_n ?_
    refine k_u [(0,_),(1,_),(35,_),(36,_),(37,_),(38,_),(8,_),(7,_)] ?_
    refine k_a ?_
    refine k_7 ty_agg_62 ty_size_62 rfl ?_
    refine ARun.call (lit_lt rfl) go_63 rfl (ch _) ?_
    rintro _ S1 ⟨rfl,h1⟩
    rw [h1];clear h1 S1
    refine k_m rfl ?_
    first|refine k_q 44 ?_|refine rG 44 (Calm.fieldAddr ty_field_62_0 rfl) ?_
    first|refine k_q 44 ?_|refine rG 44 (ld_ ty_plain_9 rfl) ?_
    first|refine k_q 44 ?_|refine rG 44 (Calm.move rfl) ?_
    first|refine k_q 44 ?_|refine rG 44 (Calm.bin rfl rfl (bin_str_eql _ _)) ?_
    first|refine k_t rfl rfl ?_|refine k_f rfl rfl ?_
    refine k_n ?_
    refine k_u [(0,_),(1,_),(35,_),(36,_),(37,_),(38,_),(8,_),(7,_),(49,_)] ?_
    refine k_F rfl ?_
    refine AWP.skip ?_
    refine ain_n ?_
    refine athen_n ?_
    refine AWP.region ?_
    refine rC (Calm.bin rfl rfl b_add_i64) ?_
    refine k_m rfl (k_n ?_)
    refine ⟨i+1,?_,?_,?_,?_⟩
    all_goals (try dsimp only)
    ·exact ⟨rfl,rfl,rfl,rfl,rfl,trivial⟩
    ·exact (by rw [hsucc];exact less_)
    ·exact hc
    ·omega
  ·have hc:i=x.fr.length:=by have:=of_decide_eq_false hc;omega
   subst hc
   refine AWP.exit ?_
   refine athen_exit ?_
   refine athen_exit ?_
   refine ain_same ?_
   refine athen_n ?_
   refine k_a (k_e rfl ?_)
   refine AWP.ret ?_
   refine ⟨_,arM (devM S p x.d oE oW) a p b c { x with fr:=drF s x.fr x.fr.length } k,⟨_,_,rfl,rfl,rfl⟩,Mem.Less.refl _,?_⟩
   exact ⟨rfl,k,oE,oW,hok.like rfl (by simp),by rw [drF_all];rfl⟩
set_option maxHeartbeats 4000000 in
theorem pl_FlushA (a p b c : Nat) (x : Pl) (k : Int) (S : Mem) (oE oW : Option (Nat × Nat)) (hok : OkA S a p b c x oE oW) (hw : PW x) :
  ACall Tryz.prog 60 #[.pointer (some ⟨a,0,none⟩)] (arM (devM S p x.d oE oW) a p b c x k) (ArR S a p b c (flushP x)):=by
 have h256:=hw.l2
 have hA:=ar_own (M:=devM S p x.d oE oW) (a:=a) (p:=p) (b:=b) (c:=c) (x:=x) (k:=k)
 unfold arB at hA
 unfold flushP
 refine ACall.enter (rs:=[.tmp 2]) 34 [(0,.pointer (some ⟨a,0,none⟩))] Tryz.func60 rfl rfl (Nat.le_of_ble_eq_true rfl) rfl ⟨rfl,trivial⟩ ?_
 refine k_a (k_e rfl (AWP.seq (k_a (k_m rfl ?_))))
 refine rC (Calm.nilCheck rfl) ?_
 refine rC (Calm.fieldAddr ty_field_93_1 rfl) ?_
 refine rC (ld_ ty_plain_26 rfl) ?_
 refine rC (Calm.lenSl Tryz.underlying26 rfl) ?_
 refine k_m rfl (k_n ?_)
 refine k_u [(0,_),(2,_),(9,_),(10,_)] ?_
 refine AWP.block ?_
 refine AWP.loop (X:=Nat × Pl × Int × Option (Nat × Nat) × Option (Nat × Nat)) (fun z=>[(0,.pointer (some ⟨a,0,none⟩)),(9,.int .i64 x.fr.length),(10,.int .i64 z.1)]) (fun z=>arM (devM S p z.2.1.d z.2.2.2.1 z.2.2.2.2) a p b c z.2.1 z.2.2.1) (fun z=>z.1≤x.fr.length∧PW z.2.1∧OkA S a p b c z.2.1 z.2.2.2.1 z.2.2.2.2∧z.2.1.fr.length=x.fr.length∧flushN x 0 x.fr.length=flushN z.2.1 z.1 (x.fr.length-z.1)) (fun z=>x.fr.length-z.1) ((0,x,k,oE,oW)) ⟨rfl,rfl,rfl,trivial⟩ (Mem.Less.refl _) (⟨Nat.zero_le _,hw,hok,rfl,rfl⟩) ?_
 rintro ⟨i,y,k',oE',oW'⟩ ⟨hi,hwy,hoky,hly,hfl⟩
 (try dsimp only at *)
 clear hA
 refine k_a ?_
 refine rC (Calm.bin rfl rfl b_lss) ?_
 refine k_n (AWP.seq ?_)
 refine AWP.condB rfl (fun hc=>?_) (fun hc=>?_)
 ·have hc:i<x.fr.length:=by have:=of_decide_eq_true hc;omega
  have hcy:i<y.fr.length:=by rw [hly];exact hc
  have hA:=ar_own (M:=devM S p y.d oE' oW') (a:=a) (p:=p) (b:=b) (c:=c) (x:=y) (k:=k')
  obtain ⟨_,_,_,_,kb,_,_⟩:=kn_fr (ar_kn (M:=devM S p y.d oE' oW') (p:=p) (k:=k') hoky.ab hoky.l hwy.l2 hcy)
  have hwr:=pl_write a p b c y i k' S oE' oW' hoky hwy hcy
  unfold arB at hA
  rw [show x.fr.length-i=(x.fr.length-(i+1))+1 from by omega,flushN] at hfl
  by_cases q1:(atF y i).dirty=true
  ·rw [if_pos q1] at hfl
   refine k_k (AWP.seq ?_)
   refine AWP.block ?_
   refine k_a (k_m rfl (k_e rfl ?_))
   refine k_u [(0,_),(9,_),(10,_),(11,_),(3,_)] ?_
   refine AWP.seq (k_a (k_m rfl ?_))
   refine rC (Calm.nilCheck rfl) ?_
   refine rC (Calm.fieldAddr ty_field_93_1 rfl) ?_
   refine rC (ld_ ty_plain_26 rfl) ?_
   refine k_m rfl ?_
   refine rC (Calm.indexS Tryz.underlying26 ty_size_62 rfl rfl (by omega) (by omega)) ?_
   refine rC (Calm.fieldAddr ty_field_62_4 rfl) ?_
   refine rC (Calm.as (congrArg Value.bool q1) (ld_ ty_plain_4 rfl)) ?_
   refine rC (Calm.un rfl (una_not _)) ?_
   refine k_n ?_
   refine k_u [(0,_),(9,_),(10,_),(11,_),(3,_),(21,_)] ?_
   refine k_F rfl ?_
   refine k_k (k_a (k_m rfl (k_m rfl ?_)))
   refine ARun.call (lit_lt rfl) go_84 rfl (hwr) ?_
   rintro _ S1 ⟨rfl,k2,oE2,oW2,hok2,h1⟩
   rw [h1];clear h1 S1
   have hpw:=wr_PW hwy hcy
   have hwl:=wrP_len y i
   generalize wrP y i=u at *
   refine k_e rfl ?_
   refine k_u [(0,_),(9,_),(10,_),(11,_),(3,_),(21,_),(4,_)] ?_
   by_cases q2:u.2=0
   ·rw [if_pos q2] at hfl
    refine k_a (k_m rfl ?_)
    refine rC (Calm.bin rfl rfl b_neq) ?_
    refine k_n ?_
    refine k_u [(0,_),(9,_),(10,_),(11,_),(3,_),(21,_),(4,_),(26,_)] ?_
    refine k_F rfl ?_
    refine AWP.skip ?_
    refine ain_n ?_
    refine athen_n ?_
    refine AWP.region ?_
    refine rC (Calm.bin rfl rfl b_add_i64) ?_
    refine k_m rfl (k_n ?_)
    refine ⟨(i+1,u.1,k2,oE2,oW2),?_,?_,?_,?_⟩
    all_goals (try dsimp only)
    ·exact ⟨rfl,rfl,rfl,trivial⟩
    ·exact Mem.Less.refl _
    ·exact ⟨hc,hpw q2,hok2,by rw [← hly];exact hwl,hfl⟩
    ·(show x.fr.length-(i+1)<x.fr.length-i;omega)
   ·rw [if_neg q2] at hfl
    refine k_a (k_m rfl ?_)
    refine rC (Calm.bin rfl rfl b_neq) ?_
    refine k_n ?_
    refine k_u [(0,_),(9,_),(10,_),(11,_),(3,_),(21,_),(4,_),(26,_)] ?_
    refine k_T rfl ?_
    refine k_a (k_m rfl (k_e rfl ?_))
    refine k_u [(0,_),(9,_),(10,_),(11,_),(3,_),(21,_),(4,_),(26,_),(2,_)] ?_
    refine AWP.ret ?_
    refine ain_ret ?_
    refine athen_ret ?_
    refine athen_ret ?_
    refine ain_ret ?_
    refine athen_ret ?_
    refine ⟨_,arM (devM S p u.1.d oE2 oW2) a p b c u.1 k2,⟨_,_,rfl,rfl,rfl⟩,Mem.Less.refl _,?_⟩
    exact ⟨by rw [hfl,if_neg q2];rfl,k2,oE2,oW2,by rw [hfl,if_neg q2];exact hok2,by rw [hfl,if_neg q2]⟩
  ·have q1':(atF y i).dirty=false:=by simpa using q1
   rw [if_neg q1] at hfl
   refine k_k (AWP.seq ?_)
   refine AWP.block ?_
   refine k_a (k_m rfl (k_e rfl ?_))
   refine k_u [(0,_),(9,_),(10,_),(11,_),(3,_)] ?_
   refine AWP.seq (k_a (k_m rfl ?_))
   refine rC (Calm.nilCheck rfl) ?_
   refine rC (Calm.fieldAddr ty_field_93_1 rfl) ?_
   refine rC (ld_ ty_plain_26 rfl) ?_
   refine k_m rfl ?_
   refine rC (Calm.indexS Tryz.underlying26 ty_size_62 rfl rfl (by omega) (by omega)) ?_
   refine rC (Calm.fieldAddr ty_field_62_4 rfl) ?_
   refine rC (Calm.as (congrArg Value.bool q1') (ld_ ty_plain_4 rfl)) ?_
   refine rC (Calm.un rfl (una_not _)) ?_
   refine k_n ?_
   refine k_u [(0,_),(9,_),(10,_),(11,_),(3,_),(21,_)] ?_
   refine k_T rfl ?_
   refine AWP.exit ?_
   refine athen_exit ?_
   refine ain_same ?_
   refine athen_n ?_
   refine AWP.region ?_
   refine rC (Calm.bin rfl rfl b_add_i64) ?_
   refine k_m rfl (k_n ?_)
   refine ⟨(i+1,y,k',oE',oW'),?_,?_,?_,?_⟩
   all_goals (try dsimp only)
   ·exact ⟨rfl,rfl,rfl,trivial⟩
   ·exact Mem.Less.refl _
   ·exact ⟨hc,hwy,hoky,hly,hfl⟩
   ·(show x.fr.length-(i+1)<x.fr.length-i;omega)
 ·have hc:i=x.fr.length:=by have:=of_decide_eq_false hc;omega
  subst hc
  rw [Nat.sub_self,flushN] at hfl
  rw [hfl]
  have hA:=ar_own (M:=devM S p y.d oE' oW') (a:=a) (p:=p) (b:=b) (c:=c) (x:=y) (k:=k')
  have hsy:=ar_call hoky k' (dev_Sync p y.d S oE' oW' hoky.v hwy.dr)
  unfold arB at hA
  refine AWP.exit ?_
  refine athen_exit ?_
  refine athen_exit ?_
  refine ain_same ?_
  refine athen_n ?_
  refine k_a (k_m rfl ?_)
  refine rC (Calm.nilCheck rfl) ?_
  refine rC (Calm.fieldAddr ty_field_93_0 rfl) ?_
  refine rC (ld_ ty_plain_77 rfl) ?_
  refine ARun.call (lit_lt rfl) go_85 rfl (hsy) ?_
  rintro _ S1 ⟨M,⟨oE2,oW2,hok2,rfl,hM⟩,fb,fa,h1⟩
  rw [h1];clear h1 S1;rw [hM] at fb fa ⊢
  refine k_n ?_
  refine k_u [(0,_),(9,_),(10,_),(11,_)] ?_
  refine k_a (k_e rfl ?_)
  refine AWP.ret ?_
  refine ⟨_,arM (devM S p (settleD y.d fun _=>true) oE2 oW2) a p b c y k',⟨_,_,rfl,rfl,rfl⟩,Mem.Less.refl _,?_⟩
  exact ⟨rfl,k',oE2,oW2,⟨hok2,fb,fa,hoky.ab,hoky.l⟩,by rw [if_pos rfl];rfl⟩
end Go.Proofs.YtkeiphkccnfhoaaGreat
namespace Go.Proofs.YtkeiphkccnfhoaaGreat
open Go.RowKit
open Mv Disk
set_option maxRecDepth 4000
theorem i64_len (x : Int) : (i64s x).length = 1 := rfl
theorem i64_one (l : List Int) : ∀ v ∈ l.flatMap i64s, v.oneCell' = true := fun v hv => by
 obtain ⟨x,_,hx⟩:=List.mem_flatMap.1 hv
 simp only [i64s,List.mem_cons,List.not_mem_nil,or_false] at hx
 subst hx;rfl
/-- A call where a slice of one's own lies over the memory. -/
theorem Mv.ACall.frameO {P : Program} {f : FuncId} {args : Array Value} {S : Mem} {R : Value → Mem → Prop} (h : ACall P f args S R) {n m : Nat} {o : Option (Nat × Nat)} {e : TypeId} {cs : List Value} (ho : OkO S o m) :
  ACall P f args (outN n S o e cs) fun r S'=>∃ M,R r M∧OkO M o m∧S'=outN n M o e cs:=by
 cases o with
 | none=>exact h.mono fun r S' hr=>⟨S',hr,⟨ho.nil,fun b c e=>(by cases e)⟩,rfl⟩
 | some q=>exact (h.frame (ho.own q.1 q.2 rfl).1).mono fun r S' ⟨M,hr,hf,he⟩=>⟨M,hr,⟨fun x=>(by cases x),fun b c e=>(by cases e;exact ⟨hf,(ho.own _ _ rfl).2⟩)⟩,he⟩
theorem own_outO {n m : Nat} {S : Mem} {o : Option (Nat × Nat)} {e : TypeId} {cs : List Value} {b : Nat} {r : Blk} (hb : S.own b = some r) (ho : OkO S o m) : (outN n S o e cs).own b = some r := own_outN' hb fun q c x => Ne.symm ((ho.own q c x).1.ne hb)
theorem set_outO {n m : Nat} {S : Mem} {o : Option (Nat × Nat)} {e : TypeId} {cs : List Value} {b : Nat} {r r' : Blk} (hb : S.own b = some r) (ho : OkO S o m) : (outN n S o e cs).set b r' = outN n (S.set b r') o e cs := (outN_set fun q c x => Ne.symm ((ho.own q c x).1.ne hb)).symm
theorem okO_set {S : Mem} {o : Option (Nat × Nat)} {m b : Nat} {r r' : Blk} (hb : S.own b = some r) (ho : OkO S o m) : OkO (S.set b r') o m :=
 ⟨ho.nil,fun q c x=>⟨fresh_more (ho.own q c x).1 (Ne.symm ((ho.own q c x).1.ne hb)),(ho.own q c x).2⟩⟩
/-- A pool at work, and a slice of numbers over it. -/
def ArL (S : Mem) (a p b c : Nat) (x : Pl) (l : List Int) (v : Value) (S' : Mem) : Prop := ∃ k oE oW o, OkA S a p b c x oE oW ∧ OkO (arM (devM S p x.d oE oW) a p b c x k) o l.length ∧ v = outV o l.length ∧ S' = outN 1 (arM (devM S p x.d oE oW) a p b c x k) o 3 (l.flatMap i64s)
set_option maxHeartbeats 4000000 in
theorem pl_LeaseA (a p b c : Nat) (x : Pl) (n : Int) (k : Int) (S : Mem) (oE oW : Option (Nat × Nat)) (hok : OkA S a p b c x oE oW) (hw : PW x) :
  ACall Tryz.prog 56 #[.pointer (some ⟨a,0,none⟩),.int .i64 n] (arM (devM S p x.d oE oW) a p b c x k) fun r S'=>∃ v,r = .tuple #[v,.int .i64 (leaseP x n).2.2]∧ArL S a p b c (leaseP x n).1 (leaseP x n).2.1 v S':=by
 have h256:=hw.l2
 have hA:=ar_own (M:=devM S p x.d oE oW) (a:=a) (p:=p) (b:=b) (c:=c) (x:=x) (k:=k)
 have hF:=ar_sl (M:=devM S p x.d oE oW) (p:=p) (x:=x) (k:=k) hok.ab hok.l hw.l2
 have hid:=pl_idles a p b c x k (arM (devM S p x.d oE oW) a p b c x k) hA hF h256
 have hil:idlesP x≤x.fr.length:=List.countP_le_length
 have h0:=okO_nil (arM (devM S p x.d oE oW) a p b c x k)
 unfold leaseP
 by_cases q1:n<0
 ·rw [if_pos q1]
  refine ACall.enter (rs:=[.tmp 4,.tmp 5]) 41 [(0,.pointer (some ⟨a,0,none⟩)),(1,.int .i64 n)] Tryz.func56 rfl rfl (Nat.le_of_ble_eq_true rfl) rfl ⟨rfl,rfl,trivial⟩ ?_
  refine k_a (k_s rfl (k_e rfl (AWP.seq ?_)))
  refine AWP.block ?_
  refine k_a (k_m rfl ?_)
  refine rC (Calm.bin rfl rfl b_lss) ?_
  refine k_e rfl ?_
  refine k_u [(0,_),(1,_),(4,_),(5,_),(9,_)] ?_
  refine k_T rfl ?_
  refine k_a (k_s rfl (k_e rfl ?_))
  refine AWP.ret ?_
  refine ain_ret ?_
  refine athen_ret ?_
  refine ⟨_,arM (devM S p x.d oE oW) a p b c x k,⟨_,_,rfl,⟨_,_,rfl,rfl,rfl⟩,rfl⟩,less_,?_⟩
  exact ⟨_,rfl,k,oE,oW,none,hok,h0,rfl,rfl⟩
 ·rw [if_neg q1]
  by_cases q2:(idlesP x:Int)<n
  ·rw [if_pos q2]
   refine ACall.enter (rs:=[.tmp 4,.tmp 5]) 41 [(0,.pointer (some ⟨a,0,none⟩)),(1,.int .i64 n)] Tryz.func56 rfl rfl (Nat.le_of_ble_eq_true rfl) rfl ⟨rfl,rfl,trivial⟩ ?_
   refine k_a (k_s rfl (k_e rfl (AWP.seq ?_)))
   refine AWP.block ?_
   refine k_a (k_m rfl ?_)
   refine rC (Calm.bin rfl rfl b_lss) ?_
   refine k_e rfl ?_
   refine k_u [(0,_),(1,_),(4,_),(5,_),(9,_)] ?_
   refine k_F rfl ?_
   refine k_a (k_m rfl (k_m rfl ?_))
   refine ARun.call (lit_lt rfl) go_83 rfl (hid) ?_
   rintro _ S1 ⟨rfl,h1⟩
   rw [h1];clear h1 S1
   refine rC (Calm.bin rfl rfl b_gtr) ?_
   refine k_e rfl ?_
   refine k_u [(0,_),(1,_),(4,_),(5,_),(9,_),(12,_)] ?_
   refine k_T rfl ?_
   refine k_a (k_s rfl (k_e rfl ?_))
   refine AWP.ret ?_
   refine ain_ret ?_
   refine athen_ret ?_
   refine ⟨_,arM (devM S p x.d oE oW) a p b c x k,⟨_,_,rfl,⟨_,_,rfl,rfl,rfl⟩,rfl⟩,less_,?_⟩
   exact ⟨_,rfl,k,oE,oW,none,hok,h0,rfl,rfl⟩
  ·rw [if_neg q2]
   obtain ⟨m,rfl⟩ : ∃ m:Nat,n=(m:Int):=⟨_,(Int.toNat_of_nonneg (by omega)).symm⟩
   rw [Int.toNat_natCast]
   refine ACall.enter (rs:=[.tmp 4,.tmp 5]) 41 [(0,.pointer (some ⟨a,0,none⟩)),(1,.int .i64 (m:Nat))] Tryz.func56 rfl rfl (Nat.le_of_ble_eq_true rfl) rfl ⟨rfl,rfl,trivial⟩ ?_
   refine k_a (k_s rfl (k_e rfl (AWP.seq ?_)))
   refine AWP.block ?_
   refine k_a (k_m rfl ?_)
   refine rC (Calm.bin rfl rfl b_lss) ?_
   refine k_e rfl ?_
   refine k_u [(0,_),(1,_),(4,_),(5,_),(9,_)] ?_
   refine k_F rfl ?_
   refine k_a (k_m rfl (k_m rfl ?_))
   refine ARun.call (lit_lt rfl) go_83 rfl (hid) ?_
   rintro _ S1 ⟨rfl,h1⟩
   rw [h1];clear h1 S1
   refine rC (Calm.bin rfl rfl b_gtr) ?_
   refine k_e rfl ?_
   refine k_u [(0,_),(1,_),(4,_),(5,_),(9,_),(12,_)] ?_
   refine k_F rfl ?_
   refine AWP.skip ?_
   refine ain_n ?_
   refine athen_n ?_
   refine k_a (k_e rfl (AWP.seq (k_a (k_m rfl ?_))))
   refine k_m rfl (k_n ?_)
   refine AWP.block ?_
   refine AWP.loop (X:=Nat × Pl × Int × Option (Nat × Nat) × Option (Nat × Nat) × Option (Nat × Nat) × List Int) (fun z=>[(0,.pointer (some ⟨a,0,none⟩)),(6,outV z.2.2.2.2.2.1 z.2.2.2.2.2.2.length),(17,.int .i64 m),(18,.int .i64 z.1)]) (fun z=>outN 1 (arM (devM S p z.2.1.d z.2.2.2.1 z.2.2.2.2.1) a p b c z.2.1 z.2.2.1) z.2.2.2.2.2.1 3 (z.2.2.2.2.2.2.flatMap i64s)) (fun z=>z.1≤m∧PW z.2.1∧OkA S a p b c z.2.1 z.2.2.2.1 z.2.2.2.2.1∧OkO (arM (devM S p z.2.1.d z.2.2.2.1 z.2.2.2.2.1) a p b c z.2.1 z.2.2.1) z.2.2.2.2.2.1 z.2.2.2.2.2.2.length∧z.2.2.2.2.2.2.length=z.1∧leaseN m x []=leaseN (m-z.1) z.2.1 z.2.2.2.2.2.2) (fun z=>m-z.1) ((0,x,k,oE,oW,none,[])) ⟨rfl,rfl,rfl,rfl,trivial⟩ (Mem.Less.refl _) (⟨Nat.zero_le _,hw,hok,h0,rfl,rfl⟩) ?_
   rintro ⟨i,y,k',oE',oW',o,l⟩ ⟨hi,hwy,hoky,hoo,hll,hfl⟩
   (try dsimp only at *)
   clear hA hF hid
   refine k_a ?_
   refine rC (Calm.bin rfl rfl b_lss) ?_
   refine k_n (AWP.seq ?_)
   refine AWP.condB rfl (fun hc=>?_) (fun hc=>?_)
   ·have hc:i<m:=by have:=of_decide_eq_true hc;omega
    have htk:=(pl_take a p b c y k' S oE' oW' hoky hwy).frameO (n:=1) (e:=3) (cs:=l.flatMap i64s) hoo
    rw [show m-i=(m-(i+1))+1 from by omega,leaseN] at hfl
    refine k_k (AWP.seq ?_)
    refine AWP.block ?_
    refine k_a (k_m rfl ?_)
    refine ARun.call (lit_lt rfl) go_69 rfl (htk) ?_
    rintro _ S1 ⟨Sa,⟨rfl,k2,oE2,oW2,hok2,hSa⟩,hoo2,h1⟩
    rw [h1,hSa];rw [hSa] at hoo2;clear h1 S1 hSa Sa
    have hpw:=take_PW hwy
    have htl:=takeP_lt (x:=y)
    generalize takeP y=u at *
    refine k_m rfl ?_
    refine rC (Calm.extract rfl rfl) ?_
    refine rC (Calm.extract rfl rfl) ?_
    refine k_s rfl (k_e rfl ?_)
    refine k_u [(0,_),(6,_),(17,_),(18,_),(19,_),(7,_),(8,_)] ?_
    by_cases q3:u.2.2=0
    ·rw [if_pos q3] at hfl
     have hul:=htl q3
     have hA2:=ar_own (M:=devM S p u.1.d oE2 oW2) (a:=a) (p:=p) (b:=b) (c:=c) (x:=u.1) (k:=k2)
     have hB2:=ar_fr (M:=devM S p u.1.d oE2 oW2) (p:=p) (c:=c) (x:=u.1) (k:=k2) hok2.ab
     have hA3:=own_outO (n:=1) (e:=3) (cs:=l.flatMap i64s) hA2 hoo2
     have hB3:=own_outO (n:=1) (e:=3) (cs:=l.flatMap i64s) hB2 hoo2
     unfold arB at hA3
     refine AWP.seq (k_a (k_m rfl ?_))
     refine rC (Calm.bin rfl rfl b_neq) ?_
     refine k_n ?_
     refine k_u [(0,_),(6,_),(17,_),(18,_),(19,_),(7,_),(8,_),(26,_)] ?_
     refine k_F rfl ?_
     refine k_k (k_a (k_m rfl ?_))
     refine rC (Calm.nilCheck rfl) ?_
     refine rC (Calm.fieldAddr ty_field_93_1 rfl) ?_
     refine rC (ld_ ty_plain_26 rfl) ?_
     refine k_m rfl ?_
     refine rC (Calm.build (cs:=[_,_,_,_,_,_,_]) ty_bld_62 rfl rfl) ?_
     refine rC (Calm.indexS Tryz.underlying26 ty_size_62 rfl rfl (by omega) (by omega)) ?_
     refine ARun.storeFr (c:=c) (i:=u.2.1) (l:=u.1.fr) (u:=F1) rfl rfl rfl (by omega) hul ty_size_62 hB3 ?_
     try simp only [k_ms,k_sz,k_ss,k_za,Nat.reduceAdd]
     refine k_n ?_
     refine k_u [(0,_),(6,_),(17,_),(18,_),(19,_),(7,_),(8,_),(26,_)] ?_
     rw [show (outN 1 (arM (devM S p u.1.d oE2 oW2) a p b c u.1 k2) o 3 (l.flatMap i64s)).set b (frB (u.1.fr.set u.2.1 F1) c)=outN 1 (arM (devM S p u.1.d oE2 oW2) a p b c (setP u.1 u.2.1 F1) k2) o 3 (l.flatMap i64s) from by rw [set_outO hB2 hoo2,ar_setF hok2.ab _ (by simp)];rfl]
     have hoo3:OkO (arM (devM S p u.1.d oE2 oW2) a p b c (setP u.1 u.2.1 F1) k2) o l.length:=by have:=okO_set (r':=frB (u.1.fr.set u.2.1 F1) c) hB2 hoo2;rw [ar_setF hok2.ab _ (by simp)] at this;exact this
     have happ:=appN_self (e:=3) hoo3 (flat_length i64_len l)
     have hok3:OkA S a p b c (setP u.1 u.2.1 F1) oE2 oW2:=hok2.like rfl (by unfold setP;simp)
     have hpw3:=set_PW (hpw q3) u.2.1 (y:=F1) (by decide) (by decide)
     have hd3:(setP u.1 u.2.1 F1).d=u.1.d:=rfl
     rw [← hd3] at hoo3 happ ⊢
     clear hB3 hA3 hA2 hB2 hoo2
     generalize setP u.1 u.2.1 F1=y3 at *
     refine AWP.region ?_
     refine k_m rfl (k_m rfl ?_)
     refine ARun.build1s (lit_lt rfl) ty_sl_30 rfl rfl ?_
     intro b37 f37
     have g37:=f37
     repeat ((with_reducible replace g37:=fresh_set g37);obtain ⟨g37,_⟩:=g37)
     refine ARun.appendOK (n:=1) (o:=o) (k:=l.length) (m:=1) (cs:=l.flatMap i64s) (news:=[.int .i64 (u.2.1:Nat)]) (lit_lt rfl) ty_sl_30 rfl rfl (flat_length i64_len l) hoo3 (happ.temp f37) rfl (src_own (Mem.own_set_same _ _ _) List.prefix_rfl) rfl (i64_one [((u.2.1:Nat):Int)]) (by omega) (by omega) ?_
     intro o2 ho2
     refine k_s rfl ?_
     refine arun_nil ?_
     refine ain_n ?_
     refine athen_n ?_
     refine k_u [(0,_),(6,_),(17,_),(18,_),(19,_),(7,_),(8,_),(26,_)] ?_
     refine AWP.region ?_
     refine rC (Calm.bin rfl rfl b_add_i64) ?_
     refine k_m rfl (k_n ?_)
     refine ⟨(i+1,y3,k2,oE2,oW2,o2,l ++ [((u.2.1:Nat):Int)]),?_,?_,?_,?_⟩
     all_goals (try dsimp only)
     ·exact ⟨rfl,by rw [List.length_append];rfl,rfl,rfl,trivial⟩
     ·exact less_eq (by rw [List.flatMap_append];rfl)
     ·exact ⟨hc,hpw3,hok3,by rw [List.length_append];exact ho2,by rw [List.length_append,hll];rfl,hfl⟩
     ·(show m-(i+1)<m-i;omega)
    ·rw [if_neg q3] at hfl
     refine AWP.seq (k_a (k_m rfl ?_))
     refine rC (Calm.bin rfl rfl b_neq) ?_
     refine k_n ?_
     refine k_u [(0,_),(6,_),(17,_),(18,_),(19,_),(7,_),(8,_),(26,_)] ?_
     refine k_T rfl ?_
     rw [hfl]
     refine k_a (k_m rfl (k_s rfl (k_e rfl ?_)))
     refine k_u [(0,_),(6,_),(17,_),(18,_),(19,_),(7,_),(8,_),(26,_),(4,_),(5,_)] ?_
     refine k_r ?_
     refine ain_ret ?_
     refine athen_ret ?_
     refine athen_ret ?_
     refine ain_ret ?_
     refine athen_ret ?_
     refine ⟨_,arM (devM S p u.1.d oE2 oW2) a p b c u.1 k2,⟨_,_,rfl,⟨_,_,rfl,rfl,rfl⟩,rfl⟩,outN_over hoo2,?_⟩
     exact ⟨_,rfl,k2,oE2,oW2,none,hok2,okO_nil _,rfl,rfl⟩
   ·have hc:i=m:=by have:=of_decide_eq_false hc;omega
    subst hc
    rw [Nat.sub_self,leaseN] at hfl
    rw [hfl]
    refine AWP.exit ?_
    refine athen_exit ?_
    refine athen_exit ?_
    refine ain_same ?_
    refine athen_n ?_
    refine k_a (k_m rfl (k_s rfl (k_e rfl ?_)))
    refine k_u [(0,_),(6,_),(17,_),(18,_),(19,_),(4,_),(5,_)] ?_
    refine AWP.ret ?_
    refine ⟨_,outN 1 (arM (devM S p y.d oE' oW') a p b c y k') o 3 (l.flatMap i64s),⟨_,_,rfl,⟨_,_,rfl,rfl,rfl⟩,rfl⟩,Mem.Less.refl _,?_⟩
    exact ⟨_,rfl,k',oE',oW',o,hoky,hoo,rfl,rfl⟩
end Go.Proofs.YtkeiphkccnfhoaaGreat
namespace Go.Proofs.YtkeiphkccnfhoaaGreat
open Go.RowKit
open Mv Disk
set_option maxRecDepth 4000
/-- A region of which we keep what is told of it. -/
theorem Mv.AWP.drawP {P : Program} {N : Nat} {l : List Oper} {id : Nat} {rest : Code} {Q : Exit → Env → Mem → Prop} {E : Env} {S : Mem} (R : Env → Mem → Prop) (W : List Nat) (hm : P.follows .mixedOrders = true)
  (hreg:DG P N l W S (fun E' S'=>Exit.normal=Exit.normal∧R E' S') l.length (Array.replicate l.length false) E S) (h:∀ E' S',R E' S' → ∃ E0,Sub E0 E'∧Athen (AWP P N rest Q) Q .normal E0 S'):AWP P N (.region id l.toArray true) (Athen (AWP P N rest Q) Q) E S :=
 (AWP.drawG (Q:=fun e E' S'=>e = .normal∧R E' S') W hm hreg).mono fun e E' S' ⟨he,hr⟩=>by
  subst he
  obtain ⟨E0,hs,h0⟩:=h E' S' hr
  exact AWP.sub E0 hs h0
theorem pl_plain (a p : Nat) (fa ea wa : Option Addr) (fn fc en ec wn wc : Nat) (size fuse tick reads writes k : Int) (dn : Bool) (T : Mem)
  (hA:T.own a=some ⟨arT,[.pointer (some ⟨p,0,none⟩),.slice fa fn fc,.int .u64 tick,.int .u64 reads,.int .u64 writes,.int .i64 k],6⟩)
  (hP:T.own p=some ⟨79,[.int .i64 size,.slice ea en ec,.slice wa wn wc,.int .i64 fuse,.bool dn],5⟩) :
  ACall Tryz.prog 31 #[.pointer (some ⟨a,0,none⟩)] T fun r S'=>r = .agg #[.int .i64 size,.slice ea en ec,.slice wa wn wc,.int .i64 fuse,.bool dn,.slice fa fn fc,.int .u64 tick,.int .u64 reads,.int .u64 writes]∧S'=T:=by
 refine ACall.enter (rs:=[.cell 2 29]) 27 [(0,.pointer (some ⟨a,0,none⟩))] Tryz.func31 rfl rfl (Nat.le_of_ble_eq_true rfl) rfl ⟨rfl,trivial⟩ ?_
 refine k_a ?_
 refine ARun.alloc (lit_lt rfl) ty_zero_29 ?_
 intro b2 f2
 have g2:=f2
 repeat ((with_reducible replace g2:=fresh_set g2);obtain ⟨g2,_⟩:=g2)
 have:=g2.ne hA;have:=g2.ne' hA
 have:=g2.ne hP;have:=g2.ne' hP
 try simp only [k_l1,k_l0,k_za,Nat.reduceAdd]
 refine k_n (AWP.seq ?_)
 refine AWP.draw [(0,true),(1,true),(2,true),(3,true),(4,true),(5,true),(6,true),(7,true),(8,true),(9,true),(10,true),(11,true),(12,true),(13,true),(14,true),(15,true),(16,true),(17,true),(18,true),(19,true),(20,true),(21,true),(22,true),(23,true),(24,false)] [24] mixed (by kernel_rfl) ?_
 refine dP (hc:=fun _=>Calm.move rfl) (h:=?_)
 refine dP (hc:=fun _=>Calm.nilCheck rfl) (h:=?_)
 refine dP (hc:=fun _=>Calm.fieldAddr ty_field_93_0 rfl) (h:=?_)
 refine dC (hc:=ld_ ty_plain_77 rfl) (h:=?_)
 refine dP (hc:=fun _=>Calm.nilCheck rfl) (h:=?_)
 refine dP (hc:=fun _=>Calm.fieldAddr ty_field_79_0 rfl) (h:=?_)
 refine dC (hc:=ldA_ (cs:=[_,_,_,_,_]) ty_agg_25 ty_size_25 rfl) (h:=?_)
 refine dP (hc:=fun _=>Calm.move rfl) (h:=?_)
 refine dP (hc:=fun _=>Calm.nilCheck rfl) (h:=?_)
 refine dP (hc:=fun _=>Calm.fieldAddr ty_field_93_1 rfl) (h:=?_)
 refine dC (hc:=ld_ ty_plain_26 rfl) (h:=?_)
 refine dP (hc:=fun _=>Calm.move rfl) (h:=?_)
 refine dP (hc:=fun _=>Calm.nilCheck rfl) (h:=?_)
 refine dP (hc:=fun _=>Calm.fieldAddr ty_field_93_2 rfl) (h:=?_)
 refine dC (hc:=ld_ ty_plain_27 rfl) (h:=?_)
 refine dP (hc:=fun _=>Calm.move rfl) (h:=?_)
 refine dP (hc:=fun _=>Calm.nilCheck rfl) (h:=?_)
 refine dP (hc:=fun _=>Calm.fieldAddr ty_field_93_3 rfl) (h:=?_)
 refine dC (hc:=ld_ ty_plain_27 rfl) (h:=?_)
 refine dP (hc:=fun _=>Calm.move rfl) (h:=?_)
 refine dP (hc:=fun _=>Calm.nilCheck rfl) (h:=?_)
 refine dP (hc:=fun _=>Calm.fieldAddr ty_field_93_4 rfl) (h:=?_)
 refine dC (hc:=ld_ ty_plain_27 rfl) (h:=?_)
 refine dP (hc:=fun _=>Calm.build (cs:=[_,_,_,_,_,_,_,_,_]) ty_bld_29 rfl rfl) (h:=?_)
 refine draw_only rfl ?_
 first|refine k_A rfl rfl ty_size_29 ?_|refine k_B rfl rfl ty_size_29 ?_
 try simp only [k_ms,k_sz,k_ss,k_za,Nat.reduceAdd]
 refine arun_nil ⟨fun h=>absurd h (by decide),?_⟩
 refine draw_nil ?_
 refine athen_n ?_
 refine k_u [(0,_),(2,_)] ?_
 refine AWP.ret ?_
 refine ⟨_,T,⟨_,_,_,rfl,.inr ⟨ty_agg_29,[_,_,_,_,_,_,_,_,_],ty_size_29,rds_,rfl⟩,rfl,rfl⟩,less_,?_⟩
 exact ⟨rfl,rfl⟩
theorem chkP_dec (p : Pl) : (chkP p = 0 ∧ PRight p) ∨ (chkP p = 2 ∧ ¬ PRight p) := by
 by_cases h:PRight p
 ·exact .inl ⟨chkP_yes h,h⟩
 ·exact .inr ⟨chkP_no h,h⟩
def noA (p : Nat) : Blk := ⟨arT, [.pointer (some ⟨p, 0, none⟩), .slice none 0 0, .int .u64 0, .int .u64 0, .int .u64 0, .int .i64 0], 6⟩
def noD : Blk := ⟨79, [.int .i64 0, .slice none 0 0, .slice none 0 0, .int .i64 0, .bool false], 5⟩
set_option maxHeartbeats 2000000 in
theorem pl_OpenNo (v : Value) (x : Pl) (S : Mem) (hp : PlR S v x) (hz : Dz x.d) (hR : ¬ PRight x) :
  ACall Tryz.prog 30 #[v] S fun r S'=>∃ a p,r = .tuple #[.pointer (some ⟨a,0,none⟩),.int .i64 2]∧Fresh S p∧Fresh S a∧p≠a∧S'=(S.set p noD).set a (noA p):=by
 have hck:=fun S h=>pl_Check v x S h hz
 rw [chkP_no hR] at hck
 obtain ⟨pe,ce,pw,cw,pf,cf,rfl,hE,hW,hF⟩:=id hp
 refine ACall.enter (rs:=[.tmp 2,.tmp 3]) 36 [(0,.agg #[.int .i64 x.d.size,.slice pe x.d.ext.length ce,.slice pw x.d.waits.length cw,.int .i64 x.d.fuse,.bool x.d.down,.slice pf x.fr.length cf,.int .u64 x.tick,.int .u64 x.reads,.int .u64 x.writes])] Tryz.func30 rfl rfl (Nat.le_of_ble_eq_true rfl) rfl ⟨rfl,trivial⟩ ?_
 refine k_a ?_
 refine k_b9 rfl ?_
 intro b1 f1
 have g1:=f1
 repeat ((with_reducible replace g1:=fresh_set g1);obtain ⟨g1,_⟩:=g1)
 try simp only [k_l1,k_l0,k_za,Nat.reduceAdd]
 refine k_s rfl (k_e rfl (AWP.seq (k_a ?_)))
 refine k_9 ty_agg_29 ty_size_29 rfl ?_
 refine ARun.call (lit_lt rfl) go_16 rfl (hck _ (hp.less less_)) ?_
 rintro _ S1 ⟨rfl,h1⟩
 rw [h1];clear h1 S1
 refine k_e rfl ?_
 refine k_u [(0,_),(1,_),(2,_),(3,_),(4,_)] ?_
 refine k_a (k_m rfl ?_)
 refine rC (Calm.bin rfl rfl b_neq) ?_
 refine k_n ?_
 refine k_u [(0,_),(1,_),(2,_),(3,_),(4,_),(9,_)] ?_
 refine k_T rfl ?_
 refine k_a ?_
 refine rC (Calm.build (cs:=[_,_,_,_,_]) ty_bld_79 rfl rfl) ?_
 refine k_b5 rfl ?_
 intro b11 f11
 have g11:=f11
 repeat ((with_reducible replace g11:=fresh_set g11);obtain ⟨g11,_⟩:=g11)
 try simp only [k_l1,k_l0,k_za,Nat.reduceAdd]
 refine rC (Calm.build (cs:=[_,_,_,_,_,_]) ty_bld_93 rfl rfl) ?_
 refine ARun.boxA (cs:=[_,_,_,_,_,_]) (lit_lt rfl) rfl ?_
 intro b13 f13
 have g13:=f13
 repeat ((with_reducible replace g13:=fresh_set g13);obtain ⟨g13,_⟩:=g13)
 try simp only [k_l1,k_l0,k_za,Nat.reduceAdd]
 refine k_m rfl (k_s rfl (k_e rfl ?_))
 refine k_u [(0,_),(1,_),(2,_),(3,_),(4,_),(9,_)] ?_
 refine k_r ?_
 refine ⟨_,(S.set b11 noD).set b13 (noA b11),⟨_,_,rfl,⟨_,_,rfl,rfl,rfl⟩,rfl⟩,Less.set (Less.set (Mem.less_set _ _ _ f1.1) _ _) _ _,?_⟩
 exact ⟨b13,b11,rfl,(fresh_set f11).1,(fresh_set (fresh_set f13).1).1,Ne.symm (fresh_set f13).2,rfl⟩
set_option maxHeartbeats 4000000 in
theorem pl_OpenYes (v : Value) (x : Pl) (S : Mem) (hp : PlR S v x) (hz : Dz x.d) (hR : PRight x) :
  ACall Tryz.prog 30 #[v] S fun r S'=>∃ a p b c oE oW,r = .tuple #[.pointer (some ⟨a,0,none⟩),.int .i64 (if x.d.down=true then 10 else 0)]∧OkA S a p b c x oE oW∧S'=arM (devM S p x.d oE oW) a p b c x 0:=by
 have hck:=fun S h=>pl_Check v x S h hz
 rw [chkP_yes hR] at hck
 obtain ⟨pe,ce,pw,cw,pf,cf,rfl,hE,hW,hF⟩:=id hp
 have hd:DkR S (.agg #[.int .i64 x.d.size,.slice pe x.d.ext.length ce,.slice pw x.d.waits.length cw,.int .i64 x.d.fuse,.bool x.d.down]) x.d:=⟨pe,ce,pw,cw,rfl,hE,hW⟩
 have hown:=disk_Own _ x.d S hd hz.el hz.wl
 have hl1:=hR.l1
 have hl2:=hR.l2
 obtain ⟨r1,hr1⟩ : ∃ r:Blk,r=⟨29,[.int .i64 x.d.size,.slice pe x.d.ext.length ce,.slice pw x.d.waits.length cw,.int .i64 x.d.fuse,.bool x.d.down,.slice pf x.fr.length cf,.int .u64 x.tick,.int .u64 x.reads,.int .u64 x.writes],9⟩:=⟨_,rfl⟩
 refine ACall.enter (rs:=[.tmp 2,.tmp 3]) 36 [(0,.agg #[.int .i64 x.d.size,.slice pe x.d.ext.length ce,.slice pw x.d.waits.length cw,.int .i64 x.d.fuse,.bool x.d.down,.slice pf x.fr.length cf,.int .u64 x.tick,.int .u64 x.reads,.int .u64 x.writes])] Tryz.func30 rfl rfl (Nat.le_of_ble_eq_true rfl) rfl ⟨rfl,trivial⟩ ?_
 refine k_a ?_
 refine k_b9 rfl ?_
 intro b1 f1
 have g1:=f1
 repeat ((with_reducible replace g1:=fresh_set g1);obtain ⟨g1,_⟩:=g1)
 try simp only [k_l1,k_l0,k_za,Nat.reduceAdd]
 refine k_s rfl (k_e rfl (AWP.seq (k_a ?_)))
 refine k_9 ty_agg_29 ty_size_29 rfl ?_
 refine ARun.call (lit_lt rfl) go_16 rfl (hck _ (hp.less less_)) ?_
 rintro _ S1 ⟨rfl,h1⟩
 rw [h1];clear h1 S1
 refine k_e rfl ?_
 refine k_u [(0,_),(1,_),(2,_),(3,_),(4,_)] ?_
 refine k_a (k_m rfl ?_)
 refine rC (Calm.bin rfl rfl b_neq) ?_
 refine k_n ?_
 refine k_u [(0,_),(1,_),(2,_),(3,_),(4,_),(9,_)] ?_
 refine k_F rfl ?_
 refine k_k (AWP.seq ?_)
 refine AWP.drawP (fun E' S'=>∃ a p b c oE oW,OkA S a p b c x oE oW∧Fresh (arM (devM S p x.d oE oW) a p b c x 0) b1∧Sub [(1,.pointer (some ⟨b1,0,none⟩)),(5,.pointer (some ⟨a,0,none⟩))] E'∧S'=(arM (devM S p x.d oE oW) a p b c x 0).set b1 r1) [] mixed ?_ ?_
 ·refine DG.pure 0 (by kernel_rfl) (by kernel_rfl) rfl rfl rfl rfl (lit_lt rfl) (fun _=>Calm.fieldAddr ty_field_29_0 rfl) ?_
  refine DG.look 1 (by kernel_rfl) (by kernel_rfl) rfl rfl rfl rfl (lit_lt rfl) (Mem.Less.refl _) (ldA_ (cs:=[_,_,_,_,_]) ty_agg_25 ty_size_25 rfl) ?_
  refine DG.pure 5 (by kernel_rfl) (by kernel_rfl) rfl rfl rfl rfl (lit_lt rfl) (fun _=>Calm.fieldAddr ty_field_29_1 rfl) ?_
  refine DG.look 6 (by kernel_rfl) (by kernel_rfl) rfl rfl rfl rfl (lit_lt rfl) (Mem.Less.refl _) (ld_ ty_plain_26 rfl) ?_
  refine DG.pure 8 (by kernel_rfl) (by kernel_rfl) rfl rfl rfl rfl (lit_lt rfl) (fun _=>Calm.fieldAddr ty_field_29_2 rfl) ?_
  refine DG.look 9 (by kernel_rfl) (by kernel_rfl) rfl rfl rfl rfl (lit_lt rfl) (Mem.Less.refl _) (ld_ ty_plain_27 rfl) ?_
  refine DG.pure 10 (by kernel_rfl) (by kernel_rfl) rfl rfl rfl rfl (lit_lt rfl) (fun _=>Calm.fieldAddr ty_field_29_3 rfl) ?_
  refine DG.look 11 (by kernel_rfl) (by kernel_rfl) rfl rfl rfl rfl (lit_lt rfl) (Mem.Less.refl _) (ld_ ty_plain_27 rfl) ?_
  refine DG.pure 12 (by kernel_rfl) (by kernel_rfl) rfl rfl rfl rfl (lit_lt rfl) (fun _=>Calm.fieldAddr ty_field_29_4 rfl) ?_
  refine DG.look 13 (by kernel_rfl) (by kernel_rfl) rfl rfl rfl rfl (lit_lt rfl) (Mem.Less.refl _) (ld_ ty_plain_27 rfl) ?_
  rw [← hr1]
  refine DG.only 2 (by kernel_rfl) rfl ?_
  refine ARun.call (lit_lt rfl) go_64 rfl (hown.frame (r:=r1) f1) ?_
  rintro _ S1 ⟨M,⟨oE,oW,hok,rfl,hM⟩,f1',h1⟩
  rw [h1];clear h1 S1
  have hSM:S.Less M:=by rw [hM];exact hok.less
  have hFM:=hF.less hSM
  unfold dkV
  obtain ⟨qe,de,hqe⟩:=outV_eq hok.e
  obtain ⟨qw,dw,hqw⟩:=outV_eq hok.w
  rw [hqe,hqw]
  refine arun_nil ⟨fun _=>Less.set hSM _ _,?_⟩
  refine DG.pure 3 (by kernel_rfl) (by kernel_rfl) rfl rfl rfl rfl (lit_lt rfl) (fun _=>Calm.build (cs:=[_,_,_,_,_]) ty_bld_79 rfl rfl) ?_
  obtain ⟨rd,hrd⟩ : ∃ r:Blk,r=⟨79,[.int .i64 x.d.size,.slice qe x.d.ext.length de,.slice qw x.d.waits.length dw,.int .i64 x.d.fuse,.bool x.d.down],5⟩:=⟨_,rfl⟩
  have hdev:∀ p,M.set p rd=devM S p x.d oE oW:=fun p=>by unfold devM;rw [hqe,hqw,hrd,hM]
  refine DG.two 4 7 (by kernel_rfl) rfl ?_ rfl ?_
  ·skip
   refine k_b5 rfl ?_
   intro b19 f19
   try simp only [k_l1,k_l0,k_za,Nat.reduceAdd]
   rw [← hrd]
   obtain ⟨g19,n19⟩:=fresh_set f19
   have g1:Fresh (M.set b19 rd) b1:=fresh_more f1' (Ne.symm n19)
   refine arun_nil ⟨fun _=>(Less.set hSM _ _).trans (Mem.less_set _ _ _ f19.1),?_⟩
   refine DG.only 7 (by kernel_rfl) rfl ?_
   rw [Mem.set_comm' _ _ _ (Ne.symm n19)]
   refine ARun.call (lit_lt rfl) go_65 rfl ((pl_CloneF _ x.fr (M.set b19 rd) (hFM.less (Mem.less_set _ _ _ g19.1)) (by omega)).frame (r:=r1) g1) ?_
   rintro _ S1 ⟨M2,⟨o,ho,rfl,hM2⟩,f1'',h1⟩
   obtain ⟨b,c,rfl⟩:=ho.some (by omega)
   obtain ⟨fb,hbc⟩:=ho.own b c rfl
   rw [h1];clear h1 S1
   have hM2':M2=(M.set b19 rd).set b (frB x.fr c):=hM2
   have hl3:(S.set b1 r1).Less (M2.set b1 r1):=Less.set (hSM.trans ((Mem.less_set _ _ _ g19.1).trans (by rw [hM2'];exact Mem.less_set _ _ _ fb.1))) _ _
   refine arun_nil ⟨fun _=>hl3,?_⟩
   refine DG.pure 14 (by kernel_rfl) (by kernel_rfl) rfl rfl rfl rfl (lit_lt rfl) (fun _=>Calm.build (cs:=[_,_,_,_,_,_]) ty_bld_93 rfl rfl) ?_
   refine DG.only 15 (by kernel_rfl) rfl ?_
   refine ARun.boxA (cs:=[_,_,_,_,_,_]) (lit_lt rfl) rfl ?_
   intro b30 f30
   try simp only [k_l1,k_l0,k_za,Nat.reduceAdd]
   refine arun_nil ⟨fun _=>hl3.trans (Mem.less_set _ _ _ f30.1),?_⟩
   refine DG.pure 16 (by kernel_rfl) (by kernel_rfl) rfl rfl rfl rfl (lit_lt rfl) (fun _=>Calm.assign rfl) ?_
   refine DG.end_ (by kernel_rfl) ?_
   obtain ⟨g30,n30⟩:=fresh_set f30
   rw [hM2'] at g30 f1''
   obtain ⟨g30',n30b⟩:=fresh_set g30
   rw [hdev] at fb g30' f1''
   refine ⟨by trivial,b30,b19,b,c,oE,oW,⟨⟨hok,by rw [← hM];exact g19⟩,fb,g30',n30b,hbc⟩,fresh_more f1'' (Ne.symm n30),⟨rfl,rfl,trivial⟩,?_⟩
   rw [Mem.set_comm' _ _ _ (Ne.symm n30),hM2',hdev]
   rfl
  ·skip
   refine ARun.call (lit_lt rfl) go_65 rfl ((pl_CloneF _ x.fr M hFM (by omega)).frame (r:=r1) f1') ?_
   rintro _ S1 ⟨M2,⟨o,ho,rfl,hM2⟩,f1'',h1⟩
   obtain ⟨b,c,rfl⟩:=ho.some (by omega)
   obtain ⟨fb,hbc⟩:=ho.own b c rfl
   rw [h1];clear h1 S1
   have hM2':M2=M.set b (frB x.fr c):=hM2
   have hl3:(S.set b1 r1).Less (M2.set b1 r1):=Less.set (hSM.trans (by rw [hM2'];exact Mem.less_set _ _ _ fb.1)) _ _
   refine arun_nil ⟨fun _=>hl3,?_⟩
   refine DG.only 4 (by kernel_rfl) rfl ?_
   refine k_b5 rfl ?_
   intro b19 f19
   try simp only [k_l1,k_l0,k_za,Nat.reduceAdd]
   rw [← hrd]
   refine arun_nil ⟨fun _=>hl3.trans (Mem.less_set _ _ _ f19.1),?_⟩
   refine DG.pure 14 (by kernel_rfl) (by kernel_rfl) rfl rfl rfl rfl (lit_lt rfl) (fun _=>Calm.build (cs:=[_,_,_,_,_,_]) ty_bld_93 rfl rfl) ?_
   refine DG.only 15 (by kernel_rfl) rfl ?_
   refine ARun.boxA (cs:=[_,_,_,_,_,_]) (lit_lt rfl) rfl ?_
   intro b30 f30
   try simp only [k_l1,k_l0,k_za,Nat.reduceAdd]
   refine arun_nil ⟨fun _=>(hl3.trans (Mem.less_set _ _ _ f19.1)).trans (Mem.less_set _ _ _ f30.1),?_⟩
   refine DG.pure 16 (by kernel_rfl) (by kernel_rfl) rfl rfl rfl rfl (lit_lt rfl) (fun _=>Calm.assign rfl) ?_
   refine DG.end_ (by kernel_rfl) ?_
   obtain ⟨g19,n19⟩:=fresh_set f19
   obtain ⟨g30,n30⟩:=fresh_set f30
   obtain ⟨g30,n30'⟩:=fresh_set g30
   rw [hM2'] at g30 f1'' g19
   obtain ⟨g19',n19b⟩:=fresh_set g19
   obtain ⟨g30',n30b⟩:=fresh_set g30
   obtain ⟨_,n1b⟩:=fresh_set f1''
   have fb':Fresh (M.set b19 rd) b:=fresh_more fb (Ne.symm n19b)
   have g30'':Fresh (M.set b19 rd) b30:=fresh_more g30' n30
   have g1:Fresh (M.set b19 rd) b1:=fresh_more f1' (Ne.symm n19)
   rw [hdev] at fb' g30'' g1
   refine ⟨by trivial,b30,b19,b,c,oE,oW,⟨⟨hok,by rw [← hM];exact g19'⟩,fb',g30'',n30b,hbc⟩,fresh_more (fresh_more g1 n1b) (Ne.symm n30'),⟨rfl,rfl,trivial⟩,?_⟩
   rw [Mem.set_comm' _ _ _ (Ne.symm n19),Mem.set_comm' _ _ _ (Ne.symm n30'),hM2',Mem.set_comm' _ _ _ (Ne.symm n19b),hdev]
   rfl
 rintro _ _ ⟨a,p,b,c,oE,oW,hokA,ff,hsub,rfl⟩
 refine ⟨[(1,.pointer (some ⟨b1,0,none⟩)),(5,.pointer (some ⟨a,0,none⟩))],hsub,?_⟩
 refine athen_n ?_
 rw [hr1]
 refine AWP.seq (k_a ?_)
 refine rC (Calm.fieldAddr ty_field_29_0 rfl) ?_
 refine rC (Calm.fieldAddr ty_field_25_4 rfl) ?_
 refine rC (ld_ ty_plain_4 rfl) ?_
 refine k_n ?_
 refine k_u [(1,_),(5,_),(33,_)] ?_
 refine AWP.condB rfl (fun hb=>?_) (fun hb=>?_)
 ·refine k_a (k_m rfl (k_s rfl (k_e rfl ?_)))
  refine k_u [(1,_),(5,_),(33,_),(2,_),(3,_)] ?_
  refine k_r ?_
  refine ⟨_,arM (devM S p x.d oE oW) a p b c x 0,⟨_,_,rfl,⟨_,_,rfl,rfl,rfl⟩,rfl⟩,Mem.less_set _ _ _ ff.1,?_⟩
  exact ⟨a,p,b,c,oE,oW,by rw [if_pos hb];rfl,hokA,rfl⟩
 ·refine k_k (k_a (k_m rfl (k_s rfl (k_e rfl ?_))))
  refine k_u [(1,_),(5,_),(33,_),(2,_),(3,_)] ?_
  refine AWP.ret ?_
  refine ⟨_,arM (devM S p x.d oE oW) a p b c x 0,⟨_,_,rfl,⟨_,_,rfl,rfl,rfl⟩,rfl⟩,Mem.less_set _ _ _ ff.1,?_⟩
  exact ⟨a,p,b,c,oE,oW,by rw [if_neg (Bool.eq_false_iff.1 hb)];rfl,hokA,rfl⟩
end Go.Proofs.YtkeiphkccnfhoaaGreat
namespace Go.Proofs.YtkeiphkccnfhoaaGreat
open Go.RowKit
open Mv Disk
set_option maxRecDepth 4000
/-- What is not too long to be told as plain data. -/
structure LW (x : Pl) : Prop where
  e : x.d.ext.length ≤ 9223372036854775807
  w : x.d.waits.length ≤ 9223372036854775807
  f : x.fr.length ≤ 256
/-- A pool at work that may be told as plain data. -/
def PlA (T : Mem) (a : Nat) (x : Pl) : Prop := ∃ p pe ce pw cw pf cf k, T.own a = some ⟨arT, [.pointer (some ⟨p, 0, none⟩), .slice pf x.fr.length cf, .int .u64 x.tick, .int .u64 x.reads, .int .u64 x.writes, .int .i64 k], 6⟩ ∧
  T.own p = some ⟨79, [.int .i64 x.d.size, .slice pe x.d.ext.length ce, .slice pw x.d.waits.length cw, .int .i64 x.d.fuse, .bool x.d.down], 5⟩ ∧ Sl 2 extF T (.slice pe x.d.ext.length ce) x.d.ext ∧ Sl 3 wrF T (.slice pw x.d.waits.length cw) x.d.waits ∧ Sl 7 frF T (.slice pf x.fr.length cf) x.fr
theorem PlA.less {T T' : Mem} {a : Nat} {x : Pl} (h : PlA T a x) (hl : T.Less T') : PlA T' a x := by
 obtain ⟨p,pe,ce,pw,cw,pf,cf,k,h1,h2,h3,h4,h5⟩:=h
 exact ⟨p,pe,ce,pw,cw,pf,cf,k,hl.1 _ _ h1,hl.1 _ _ h2,h3.less hl,h4.less hl,h5.less hl⟩
theorem pl_plainP {T : Mem} {a : Nat} {x : Pl} (h : PlA T a x) : ACall Tryz.prog 31 #[.pointer (some ⟨a, 0, none⟩)] T fun r S' => PlR T r x ∧ S' = T := by
 obtain ⟨p,pe,ce,pw,cw,pf,cf,k,h1,h2,h3,h4,h5⟩:=h
 exact (pl_plain a p _ _ _ _ _ _ _ _ _ _ _ _ _ _ _ _ T h1 h2).mono fun r S' ⟨e,hS⟩=>⟨⟨pe,ce,pw,cw,pf,cf,e,h3,h4,h5⟩,hS⟩
theorem OkA.plA {S : Mem} {a p b c : Nat} {x : Pl} {oE oW : Option (Nat × Nat)} (h : OkA S a p b c x oE oW) (hl : LW x) (k : Int) : PlA (arM (devM S p x.d oE oW) a p b c x k) a x := by
 obtain ⟨qe,de,hqe⟩:=outV_eq h.v.dk.e
 obtain ⟨qw,dw,hqw⟩:=outV_eq h.v.dk.w
 have hdk:=h.v.dk.dk hl.e hl.w
 unfold dkV at hdk
 rw [hqe,hqw] at hdk
 obtain ⟨_,_,_,_,e,hE,hW⟩:=hdk
 cases e
 have h1:=(Mem.less_set (dkM S x.d oE oW) p (devB x.d oE oW) h.v.fr.1).trans (ar_less (x:=x) (p:=p) (k:=k) (c:=c) h.fb h.fa h.ab)
 refine ⟨p,_,_,_,_,_,c,k,ar_own,?_,hE.less h1,hW.less h1,ar_sl h.ab h.l hl.f⟩
 have hp:(devM S p x.d oE oW).own p=some (devB x.d oE oW):=Mem.own_set_same _ _ _
 have:=(ar_less (x:=x) (p:=p) (k:=k) (c:=c) h.fb h.fa h.ab).1 _ _ hp
 unfold devB at this
 rw [hqe,hqw] at this
 exact this
theorem noPlA (S : Mem) {a p : Nat} (h : p ≠ a) : PlA ((S.set p noD).set a (noA p)) a P0 :=
 ⟨p,none,0,none,0,none,0,0,Mem.own_set_same _ _ _,(Mem.own_set_other _ _ h).trans (Mem.own_set_same _ _ _),Sl.nil _ _ _,Sl.nil _ _ _,Sl.nil _ _ _⟩
theorem openP_or (x : Pl) : (openP x = (P0, 2) ∧ ¬ PRight x) ∨ (openP x = (x, 10) ∧ PRight x ∧ x.d.down = true) ∨ (openP x = (x, 0) ∧ PRight x ∧ x.d.down = false) := by
 unfold openP
 rcases chkP_dec x with ⟨h,hR⟩ | ⟨h,hR⟩
 ·rw [if_pos h]
  cases hd:x.d.down
  ·exact .inr (.inr ⟨by simp,hR,rfl⟩)
  ·exact .inr (.inl ⟨by simp,hR,rfl⟩)
 ·rw [if_neg (by rw [h];decide)];exact .inl ⟨rfl,hR⟩
theorem right_LW {x : Pl} (h : PRight x) : LW x := ⟨(right_lens h.dr).1, (right_lens h.dr).2, h.l2⟩
/-- Laid open, whatever it is. -/
theorem pl_OpenA (v : Value) (x : Pl) (S : Mem) (hp : PlR S v x) (hz : Dz x.d) :
  ACall Tryz.prog 30 #[v] S fun r S'=>∃ a,r = .tuple #[.pointer (some ⟨a,0,none⟩),.int .i64 (openP x).2]∧S.Less S'∧PlA S' a (openP x).1:=by
 rcases openP_or x with ⟨ho,hR⟩ | ⟨ho,hR,hd⟩ | ⟨ho,hR,hd⟩
 ·rw [ho]
  refine (pl_OpenNo v x S hp hz hR).mono fun r S' ⟨a,p,e,f1,f2,hn,hS⟩=>⟨a,e,?_,?_⟩
  ·rw [hS];exact (Mem.less_set _ _ _ f1.1).trans (Mem.less_set _ _ _ ((Mem.own_set_other _ _ (Ne.symm hn)).trans f2.1))
  ·rw [hS];exact noPlA S hn
 ·rw [ho]
  refine (pl_OpenYes v x S hp hz hR).mono fun r S' ⟨a,p,b,c,oE,oW,e,hok,hS⟩=>⟨a,by rw [e,if_pos hd],?_,?_⟩
  ·rw [hS];exact hok.less 0
  ·rw [hS];exact hok.plA (right_LW hR) 0
 ·rw [ho]
  refine (pl_OpenYes v x S hp hz hR).mono fun r S' ⟨a,p,b,c,oE,oW,e,hok,hS⟩=>⟨a,by rw [e,if_neg (by rw [hd];simp)],?_,?_⟩
  ·rw [hS];exact hok.less 0
  ·rw [hS];exact hok.plA (right_LW hR) 0
/-- A pool that is made or changed, and an error. -/
def PlRes (q : Pl × Int) (S : Mem) (r : Value) (S' : Mem) : Prop := ∃ v, r = .tuple #[v, .int .i64 q.2] ∧ S.Less S' ∧ PlR S' v q.1
theorem right_PW {x : Pl} (h : PRight x) (hz : Dz x.d) (hd : x.d.down = false) : PW x := ⟨h.dr, hz.f1, hd, h.l1, h.l2, fun y hy => by
 obtain ⟨i,hi,rfl⟩:=List.getElem_of_mem hy
 rcases (h.ok i hi).1 with ⟨_,e | e⟩ | ⟨_,_,_,_,h1,h2,_⟩
 ·rw [e];exact ⟨by decide,by decide⟩
 ·rw [e];exact ⟨by decide,by decide⟩
 ·exact ⟨h1,h2⟩⟩
theorem PW.lw {x : Pl} (h : PW x) : LW x := ⟨(right_lens h.dr).1, (right_lens h.dr).2, h.l2⟩
theorem LW.like {x y : Pl} (h : LW x) (h1 : y.d = x.d) (h2 : y.fr.length = x.fr.length) : LW y := ⟨by rw [h1]; exact h.e, by rw [h1]; exact h.w, by rw [h2]; exact h.f⟩
theorem wr_LW {x : Pl} (h : PW x) (i : Nat) : LW (wrP x i).1 := by
 have hl:=writeD_lens h.dr (atF x i).name (atF x i).sector (atF x i).data
 exact ⟨hl.1,hl.2,by rw [wrP_len];exact h.l2⟩
theorem take_LW {x : Pl} (h : PW x) : LW (takeP x).1 := by
 unfold takeP
 repeat' split
 ·exact h.lw
 ·exact h.lw
 ·exact (wr_LW h _).like rfl (by unfold setP;simp)
 ·exact wr_LW h _
 ·exact h.lw.like rfl (by unfold setP;simp)
theorem pin_LW {x : Pl} (h : PW x) (s : ByteArray) (n : Int) : LW (pinP x s n).1 := by
 have ht:=take_LW h
 unfold pinP pin1
 repeat' split
 ·exact h.lw
 ·exact h.lw.like rfl (by simp)
 ·exact h.lw
 ·exact ht
 ·exact ht.like rfl (by unfold setP;simp)
theorem lease_LW : ∀ (n : Nat) {x : Pl} (l : List Int), PW x → LW (leaseN n x l).1
 | 0,x,l,h=>h.lw
 | n+1,x,l,h=>by
  unfold leaseN
  split
  ·rename_i e;exact lease_LW n _ (set_PW (take_PW h e) _ (by decide) (by decide))
  ·exact take_LW h
theorem leaseP_LW {x : Pl} (h : PW x) (n : Int) : LW (leaseP x n).1 := by
 unfold leaseP
 repeat' split
 ·exact h.lw
 ·exact h.lw
 ·exact lease_LW _ _ h
theorem drop_LW {x : Pl} (h : PW x) (s : ByteArray) : LW (dropP x s).1 := by
 unfold dropP
 split
 ·exact h.lw
 ·exact h.lw.like rfl (by simp)
theorem flush_LW : ∀ (n : Nat) {x : Pl} (i : Nat), PW x → i + n ≤ x.fr.length → LW (flushN x i n).1 ∧ ((flushN x i n).2 = 0 → PW (flushN x i n).1)
 | 0,x,i,h,_=>⟨h.lw,fun _=>h⟩
 | n+1,x,i,h,hi=>by
  unfold flushN
  split
  ·split
   ·rename_i e;exact flush_LW n (i+1) (wr_PW h (by omega) e) (by rw [wrP_len];omega)
   ·rename_i e;exact ⟨wr_LW h i,fun q=>absurd q e⟩
  ·exact flush_LW n (i+1) h (by omega)
theorem flushP_LW {x : Pl} (h : PW x) : LW (flushP x).1 := by
 obtain ⟨h1,h2⟩:=flush_LW x.fr.length 0 h (by omega)
 unfold flushP
 split
 ·rename_i e
  have hp:=h2 e
  exact ⟨by show (List.map _ _).length≤_;rw [List.length_map];exact hp.lw.e,by show ([] : List Wr).length≤_;simp,hp.l2⟩
 ·exact h1

noncomputable def openedN (x : Pl) (f : Pl × Nat × Int) : Pl × Nat × Int := if (openP x).2 = 0 then f else ((openP x).1, 0, (openP x).2)
noncomputable def openedL (x : Pl) (f : Pl × List Int × Int) : Pl × List Int × Int := if (openP x).2 = 0 then f else ((openP x).1, [], (openP x).2)
noncomputable def openedS (x : Pl) (f : ByteArray × Int) : ByteArray × Int := if (openP x).2 = 0 then f else (ByteArray.empty, (openP x).2)
def PlN (q : Pl × Nat × Int) (S : Mem) (r : Value) (S' : Mem) : Prop := ∃ v, r = .tuple #[v, .int .i64 (q.2.1 : Nat), .int .i64 q.2.2] ∧ S.Less S' ∧ PlR S' v q.1
def PlL (q : Pl × List Int × Int) (S : Mem) (r : Value) (S' : Mem) : Prop := ∃ v l, r = .tuple #[v, l, .int .i64 q.2.2] ∧ S.Less S' ∧ PlR S' v q.1 ∧ Sl 1 i64s S' l q.2.1
theorem leaseN_le : ∀ (n : Nat) (x : Pl) (l : List Int), (leaseN n x l).2.1.length ≤ l.length + n
 | 0,x,l=>Nat.le_refl _
 | n+1,x,l=>by
  unfold leaseN
  split
  ·have:=leaseN_le n (setP (takeP x).1 (takeP x).2.1 F1) (l ++ [((takeP x).2.1:Int)])
   simp only [List.length_append,List.length_cons,List.length_nil] at this
   omega
  ·simp
theorem leaseP_le {x : Pl} (h : PW x) (n : Int) : (leaseP x n).2.1.length ≤ 256 := by
 have h2:=h.l2
 have hi:idlesP x≤x.fr.length:=List.countP_le_length
 unfold leaseP
 split
 ·simp
 ·split
  ·simp
  ·have:=leaseN_le n.toNat x []
   simp only [List.length_nil,Nat.zero_add] at this
   omega
theorem arS_end {S : Mem} {a p b c : Nat} {x : Pl} {T : Mem} (h : ArS S a p b c x T) (hl : LW x) : S.Less T ∧ PlA T a x := by
 obtain ⟨k,oE,oW,hok,rfl⟩:=h
 exact ⟨hok.less k,hok.plA hl k⟩
set_option maxHeartbeats 4000000 in
theorem pl_Pin (v : Value) (x : Pl) (s : ByteArray) (n : Int) (S : Mem) (hp : PlR S v x) (hz : Dz x.d) :
  ACall Tryz.prog 6 #[v,.string s,.int .i64 n] S (PlN (openedN x (pinP x s n)) S):=by
 have hopen:=pl_OpenA v x S hp hz
 have hyes:=fun h=>pl_OpenYes v x S hp hz h
 obtain ⟨pe,ce,pw,cw,pf,cf,rfl,hE,hW,hF⟩:=id hp
 unfold openedN
 rcases openP_or x with ⟨ho,hR⟩ | ⟨ho,hR,hdn⟩ | ⟨ho,hR,hdn⟩ <;> rw [ho] at hopen ⊢
 ·rw [if_neg (show ¬ (2:Int)=0 from by decide)]
  refine ACall.enter (rs:=[.cell 6 29,.tmp 7,.tmp 8]) 33 [(0,.agg #[.int .i64 x.d.size,.slice pe x.d.ext.length ce,.slice pw x.d.waits.length cw,.int .i64 x.d.fuse,.bool x.d.down,.slice pf x.fr.length cf,.int .u64 x.tick,.int .u64 x.reads,.int .u64 x.writes]),(1,.string s),(2,.int .i64 n)] Tryz.func6 rfl rfl (Nat.le_of_ble_eq_true rfl) rfl ⟨rfl,rfl,rfl,trivial⟩ ?_
  refine k_a ?_
  refine k_b9 rfl ?_
  intro b3 f3
  have g3:=f3
  repeat ((with_reducible replace g3:=fresh_set g3);obtain ⟨g3,_⟩:=g3)
  try simp only [k_l1,k_l0,k_za,Nat.reduceAdd]
  refine ARun.alloc (lit_lt rfl) ty_zero_29 ?_
  intro b6 f6
  have g6:=f6
  repeat ((with_reducible replace g6:=fresh_set g6);obtain ⟨g6,_⟩:=g6)
  try simp only [k_l1,k_l0,k_za,Nat.reduceAdd]
  refine k_s rfl (k_e rfl (k_a ?_))
  refine k_9 ty_agg_29 ty_size_29 rfl ?_
  refine ARun.call (lit_lt rfl) go_30 rfl ((hopen.frame f3).frame f6) ?_
  rintro _ S1 ⟨Sa,⟨T,⟨a,rfl,hST,hpa⟩,fa,hSa⟩,fb,h1⟩
  rw [h1,hSa];rw [hSa] at fb;clear h1 S1 hSa Sa
  obtain ⟨fbm,_⟩:=fresh_set fb
  refine k_m rfl ?_
  refine rC (Calm.extract rfl rfl) ?_
  refine rC (Calm.extract rfl rfl) ?_
  refine k_s rfl (k_e rfl ?_)
  refine k_u [(0,_),(1,_),(2,_),(3,_),(6,_),(7,_),(8,_),(9,_),(10,_)] ?_
  refine AWP.seq (k_a (k_m rfl ?_))
  refine rC (Calm.bin rfl rfl b_neq) ?_
  refine k_n ?_
  refine k_u [(0,_),(1,_),(2,_),(3,_),(6,_),(7,_),(8,_),(9,_),(10,_),(18,_)] ?_
  refine k_T rfl ?_
  refine k_a (k_m rfl ?_)
  refine ARun.call (lit_lt rfl) go_31 rfl ((((pl_plainP hpa).frame fa).frame fb)) ?_
  rintro _ S1 ⟨Sa,⟨Sb,⟨hpl,hSb⟩,_,hSa⟩,_,h1⟩
  rw [h1,hSa,hSb];clear h1 S1
  obtain ⟨qe,de,qw,dw,qf,df,rfl,hE2,hW2,hF2⟩:=id hpl
  refine k_m rfl ?_
  first|refine k_A rfl rfl ty_size_29 ?_|refine k_B rfl rfl ty_size_29 ?_
  try simp only [k_ms,k_sz,k_ss,k_za,Nat.reduceAdd]
  refine k_s rfl (k_e rfl ?_)
  refine k_u [(0,_),(1,_),(2,_),(3,_),(6,_),(7,_),(8,_),(9,_),(10,_),(18,_)] ?_
  refine k_r ?_
  refine ⟨_,T,⟨_,_,_,rfl,.inr ⟨ty_agg_29,[_,_,_,_,_,_,_,_,_],ty_size_29,rds_,rfl⟩,⟨_,_,rfl,⟨_,_,rfl,rfl,rfl⟩,rfl⟩,rfl⟩,less_,?_⟩
  exact ⟨_,rfl,hST,hpl⟩
 ·rw [if_neg (show ¬ (10:Int)=0 from by decide)]
  refine ACall.enter (rs:=[.cell 6 29,.tmp 7,.tmp 8]) 33 [(0,.agg #[.int .i64 x.d.size,.slice pe x.d.ext.length ce,.slice pw x.d.waits.length cw,.int .i64 x.d.fuse,.bool x.d.down,.slice pf x.fr.length cf,.int .u64 x.tick,.int .u64 x.reads,.int .u64 x.writes]),(1,.string s),(2,.int .i64 n)] Tryz.func6 rfl rfl (Nat.le_of_ble_eq_true rfl) rfl ⟨rfl,rfl,rfl,trivial⟩ ?_
  refine k_a ?_
  refine k_b9 rfl ?_
  intro b3 f3
  have g3:=f3
  repeat ((with_reducible replace g3:=fresh_set g3);obtain ⟨g3,_⟩:=g3)
  try simp only [k_l1,k_l0,k_za,Nat.reduceAdd]
  refine ARun.alloc (lit_lt rfl) ty_zero_29 ?_
  intro b6 f6
  have g6:=f6
  repeat ((with_reducible replace g6:=fresh_set g6);obtain ⟨g6,_⟩:=g6)
  try simp only [k_l1,k_l0,k_za,Nat.reduceAdd]
  refine k_s rfl (k_e rfl (k_a ?_))
  refine k_9 ty_agg_29 ty_size_29 rfl ?_
  refine ARun.call (lit_lt rfl) go_30 rfl ((hopen.frame f3).frame f6) ?_
  rintro _ S1 ⟨Sa,⟨T,⟨a,rfl,hST,hpa⟩,fa,hSa⟩,fb,h1⟩
  rw [h1,hSa];rw [hSa] at fb;clear h1 S1 hSa Sa
  obtain ⟨fbm,_⟩:=fresh_set fb
  refine k_m rfl ?_
  refine rC (Calm.extract rfl rfl) ?_
  refine rC (Calm.extract rfl rfl) ?_
  refine k_s rfl (k_e rfl ?_)
  refine k_u [(0,_),(1,_),(2,_),(3,_),(6,_),(7,_),(8,_),(9,_),(10,_)] ?_
  refine AWP.seq (k_a (k_m rfl ?_))
  refine rC (Calm.bin rfl rfl b_neq) ?_
  refine k_n ?_
  refine k_u [(0,_),(1,_),(2,_),(3,_),(6,_),(7,_),(8,_),(9,_),(10,_),(18,_)] ?_
  refine k_T rfl ?_
  refine k_a (k_m rfl ?_)
  refine ARun.call (lit_lt rfl) go_31 rfl ((((pl_plainP hpa).frame fa).frame fb)) ?_
  rintro _ S1 ⟨Sa,⟨Sb,⟨hpl,hSb⟩,_,hSa⟩,_,h1⟩
  rw [h1,hSa,hSb];clear h1 S1
  obtain ⟨qe,de,qw,dw,qf,df,rfl,hE2,hW2,hF2⟩:=id hpl
  refine k_m rfl ?_
  first|refine k_A rfl rfl ty_size_29 ?_|refine k_B rfl rfl ty_size_29 ?_
  try simp only [k_ms,k_sz,k_ss,k_za,Nat.reduceAdd]
  refine k_s rfl (k_e rfl ?_)
  refine k_u [(0,_),(1,_),(2,_),(3,_),(6,_),(7,_),(8,_),(9,_),(10,_),(18,_)] ?_
  refine k_r ?_
  refine ⟨_,T,⟨_,_,_,rfl,.inr ⟨ty_agg_29,[_,_,_,_,_,_,_,_,_],ty_size_29,rds_,rfl⟩,⟨_,_,rfl,⟨_,_,rfl,rfl,rfl⟩,rfl⟩,rfl⟩,less_,?_⟩
  exact ⟨_,rfl,hST,hpl⟩
 ·rw [if_pos rfl]
  have hw:=right_PW hR hz hdn
  have hyes:=hyes hR
  rw [if_neg (show ¬ x.d.down=true from by rw [hdn];simp)] at hyes
  refine ACall.enter (rs:=[.cell 6 29,.tmp 7,.tmp 8]) 33 [(0,.agg #[.int .i64 x.d.size,.slice pe x.d.ext.length ce,.slice pw x.d.waits.length cw,.int .i64 x.d.fuse,.bool x.d.down,.slice pf x.fr.length cf,.int .u64 x.tick,.int .u64 x.reads,.int .u64 x.writes]),(1,.string s),(2,.int .i64 n)] Tryz.func6 rfl rfl (Nat.le_of_ble_eq_true rfl) rfl ⟨rfl,rfl,rfl,trivial⟩ ?_
  refine k_a ?_
  refine k_b9 rfl ?_
  intro b3 f3
  have g3:=f3
  repeat ((with_reducible replace g3:=fresh_set g3);obtain ⟨g3,_⟩:=g3)
  try simp only [k_l1,k_l0,k_za,Nat.reduceAdd]
  refine ARun.alloc (lit_lt rfl) ty_zero_29 ?_
  intro b6 f6
  have g6:=f6
  repeat ((with_reducible replace g6:=fresh_set g6);obtain ⟨g6,_⟩:=g6)
  try simp only [k_l1,k_l0,k_za,Nat.reduceAdd]
  refine k_s rfl (k_e rfl (k_a ?_))
  refine k_9 ty_agg_29 ty_size_29 rfl ?_
  refine ARun.call (lit_lt rfl) go_30 rfl ((hyes.frame f3).frame f6) ?_
  rintro _ S1 ⟨Sa,⟨T,⟨a,p,b,c,oE,oW,rfl,hok,hT⟩,fa,hSa⟩,fb,h1⟩
  rw [h1,hSa];rw [hSa] at fb;clear h1 S1 hSa Sa
  rw [hT] at fa fb ⊢;clear hT T
  refine k_m rfl ?_
  refine rC (Calm.extract rfl rfl) ?_
  refine rC (Calm.extract rfl rfl) ?_
  refine k_s rfl (k_e rfl ?_)
  refine k_u [(0,_),(1,_),(2,_),(3,_),(6,_),(7,_),(8,_),(9,_),(10,_)] ?_
  refine AWP.seq (k_a (k_m rfl ?_))
  refine rC (Calm.bin rfl rfl b_neq) ?_
  refine k_n ?_
  refine k_u [(0,_),(1,_),(2,_),(3,_),(6,_),(7,_),(8,_),(9,_),(10,_),(18,_)] ?_
  refine k_F rfl ?_
  refine k_k (k_a (k_m rfl (k_m rfl (k_m rfl ?_))))
  refine ARun.call (lit_lt rfl) go_32 rfl (((pl_PinA a p b c x s n 0 S oE oW hok hw).frame fa).frame fb) ?_
  rintro _ S1 ⟨Sa,⟨T,⟨rfl,hA⟩,fc,hSa⟩,fd,h1⟩
  rw [h1,hSa];rw [hSa] at fd;clear h1 S1 hSa Sa
  obtain ⟨fdm,_⟩:=fresh_set fd
  obtain ⟨hST,hpa⟩:=arS_end hA (pin_LW hw s n)
  refine k_m rfl ?_
  refine rC (Calm.extract rfl rfl) ?_
  refine rC (Calm.extract rfl rfl) ?_
  refine k_s rfl (k_e rfl ?_)
  refine k_u [(0,_),(1,_),(2,_),(3,_),(6,_),(7,_),(8,_),(9,_),(10,_),(18,_),(11,_)] ?_
  refine k_a (k_m rfl ?_)
  refine ARun.call (lit_lt rfl) go_31 rfl ((((pl_plainP hpa).frame fc).frame fd)) ?_
  rintro _ S1 ⟨Sa,⟨Sb,⟨hpl,hSb⟩,_,hSa⟩,_,h1⟩
  rw [h1,hSa,hSb];clear h1 S1
  obtain ⟨qe,de,qw,dw,qf,df,rfl,hE2,hW2,hF2⟩:=id hpl
  refine k_m rfl (k_m rfl ?_)
  first|refine k_A rfl rfl ty_size_29 ?_|refine k_B rfl rfl ty_size_29 ?_
  try simp only [k_ms,k_sz,k_ss,k_za,Nat.reduceAdd]
  refine k_s rfl (k_e rfl ?_)
  refine k_u [(0,_),(1,_),(2,_),(3,_),(6,_),(7,_),(8,_),(9,_),(10,_),(18,_),(11,_)] ?_
  refine AWP.ret ?_
  refine ⟨_,T,⟨_,_,_,rfl,.inr ⟨ty_agg_29,[_,_,_,_,_,_,_,_,_],ty_size_29,rds_,rfl⟩,⟨_,_,rfl,⟨_,_,rfl,rfl,rfl⟩,rfl⟩,rfl⟩,less_,?_⟩
  exact ⟨_,rfl,hST,hpl⟩
set_option maxHeartbeats 4000000 in
theorem pl_Lease (v : Value) (x : Pl) (n : Int) (S : Mem) (hp : PlR S v x) (hz : Dz x.d) :
  ACall Tryz.prog 18 #[v,.int .i64 n] S (PlL (openedL x (leaseP x n)) S):=by
 have hopen:=pl_OpenA v x S hp hz
 have hyes:=fun h=>pl_OpenYes v x S hp hz h
 obtain ⟨pe,ce,pw,cw,pf,cf,rfl,hE,hW,hF⟩:=id hp
 unfold openedL
 rcases openP_or x with ⟨ho,hR⟩ | ⟨ho,hR,hdn⟩ | ⟨ho,hR,hdn⟩ <;> rw [ho] at hopen ⊢
 ·rw [if_neg (show ¬ (2:Int)=0 from by decide)]
  refine ACall.enter (rs:=[.cell 4 29,.tmp 5,.tmp 6]) 30 [(0,.agg #[.int .i64 x.d.size,.slice pe x.d.ext.length ce,.slice pw x.d.waits.length cw,.int .i64 x.d.fuse,.bool x.d.down,.slice pf x.fr.length cf,.int .u64 x.tick,.int .u64 x.reads,.int .u64 x.writes]),(1,.int .i64 n)] Tryz.func18 rfl rfl (Nat.le_of_ble_eq_true rfl) rfl ⟨rfl,rfl,trivial⟩ ?_
  refine k_a ?_
  refine k_b9 rfl ?_
  intro b2 f2
  have g2:=f2
  repeat ((with_reducible replace g2:=fresh_set g2);obtain ⟨g2,_⟩:=g2)
  try simp only [k_l1,k_l0,k_za,Nat.reduceAdd]
  refine ARun.alloc (lit_lt rfl) ty_zero_29 ?_
  intro b4 f4
  have g4:=f4
  repeat ((with_reducible replace g4:=fresh_set g4);obtain ⟨g4,_⟩:=g4)
  try simp only [k_l1,k_l0,k_za,Nat.reduceAdd]
  refine k_s rfl (k_e rfl (k_a ?_))
  refine k_9 ty_agg_29 ty_size_29 rfl ?_
  refine ARun.call (lit_lt rfl) go_30 rfl ((hopen.frame f2).frame f4) ?_
  rintro _ S1 ⟨Sa,⟨T,⟨a,rfl,hST,hpa⟩,fa,hSa⟩,fb,h1⟩
  rw [h1,hSa];rw [hSa] at fb;clear h1 S1 hSa Sa
  obtain ⟨fbm,_⟩:=fresh_set fb
  refine k_m rfl ?_
  refine rC (Calm.extract rfl rfl) ?_
  refine rC (Calm.extract rfl rfl) ?_
  refine k_s rfl (k_e rfl ?_)
  refine k_u [(0,_),(1,_),(2,_),(4,_),(5,_),(6,_),(7,_),(8,_)] ?_
  refine AWP.seq (k_a (k_m rfl ?_))
  refine rC (Calm.bin rfl rfl b_neq) ?_
  refine k_n ?_
  refine k_u [(0,_),(1,_),(2,_),(4,_),(5,_),(6,_),(7,_),(8,_),(16,_)] ?_
  refine k_T rfl ?_
  refine k_a (k_m rfl ?_)
  refine ARun.call (lit_lt rfl) go_31 rfl ((((pl_plainP hpa).frame fa).frame fb)) ?_
  rintro _ S1 ⟨Sa,⟨Sb,⟨hpl,hSb⟩,_,hSa⟩,_,h1⟩
  rw [h1,hSa,hSb];clear h1 S1
  obtain ⟨qe,de,qw,dw,qf,df,rfl,hE2,hW2,hF2⟩:=id hpl
  refine k_m rfl ?_
  first|refine k_A rfl rfl ty_size_29 ?_|refine k_B rfl rfl ty_size_29 ?_
  try simp only [k_ms,k_sz,k_ss,k_za,Nat.reduceAdd]
  refine k_s rfl (k_e rfl ?_)
  refine k_u [(0,_),(1,_),(2,_),(4,_),(5,_),(6,_),(7,_),(8,_),(16,_)] ?_
  refine k_r ?_
  refine ⟨_,T,⟨_,_,_,rfl,.inr ⟨ty_agg_29,[_,_,_,_,_,_,_,_,_],ty_size_29,rds_,rfl⟩,⟨_,_,rfl,⟨_,_,rfl,rfl,rfl⟩,rfl⟩,rfl⟩,less_,?_⟩
  exact ⟨_,_,rfl,hST,hpl,Sl.nil _ _ _⟩
 ·rw [if_neg (show ¬ (10:Int)=0 from by decide)]
  refine ACall.enter (rs:=[.cell 4 29,.tmp 5,.tmp 6]) 30 [(0,.agg #[.int .i64 x.d.size,.slice pe x.d.ext.length ce,.slice pw x.d.waits.length cw,.int .i64 x.d.fuse,.bool x.d.down,.slice pf x.fr.length cf,.int .u64 x.tick,.int .u64 x.reads,.int .u64 x.writes]),(1,.int .i64 n)] Tryz.func18 rfl rfl (Nat.le_of_ble_eq_true rfl) rfl ⟨rfl,rfl,trivial⟩ ?_
  refine k_a ?_
  refine k_b9 rfl ?_
  intro b2 f2
  have g2:=f2
  repeat ((with_reducible replace g2:=fresh_set g2);obtain ⟨g2,_⟩:=g2)
  try simp only [k_l1,k_l0,k_za,Nat.reduceAdd]
  refine ARun.alloc (lit_lt rfl) ty_zero_29 ?_
  intro b4 f4
  have g4:=f4
  repeat ((with_reducible replace g4:=fresh_set g4);obtain ⟨g4,_⟩:=g4)
  try simp only [k_l1,k_l0,k_za,Nat.reduceAdd]
  refine k_s rfl (k_e rfl (k_a ?_))
  refine k_9 ty_agg_29 ty_size_29 rfl ?_
  refine ARun.call (lit_lt rfl) go_30 rfl ((hopen.frame f2).frame f4) ?_
  rintro _ S1 ⟨Sa,⟨T,⟨a,rfl,hST,hpa⟩,fa,hSa⟩,fb,h1⟩
  rw [h1,hSa];rw [hSa] at fb;clear h1 S1 hSa Sa
  obtain ⟨fbm,_⟩:=fresh_set fb
  refine k_m rfl ?_
  refine rC (Calm.extract rfl rfl) ?_
  refine rC (Calm.extract rfl rfl) ?_
  refine k_s rfl (k_e rfl ?_)
  refine k_u [(0,_),(1,_),(2,_),(4,_),(5,_),(6,_),(7,_),(8,_)] ?_
  refine AWP.seq (k_a (k_m rfl ?_))
  refine rC (Calm.bin rfl rfl b_neq) ?_
  refine k_n ?_
  refine k_u [(0,_),(1,_),(2,_),(4,_),(5,_),(6,_),(7,_),(8,_),(16,_)] ?_
  refine k_T rfl ?_
  refine k_a (k_m rfl ?_)
  refine ARun.call (lit_lt rfl) go_31 rfl ((((pl_plainP hpa).frame fa).frame fb)) ?_
  rintro _ S1 ⟨Sa,⟨Sb,⟨hpl,hSb⟩,_,hSa⟩,_,h1⟩
  rw [h1,hSa,hSb];clear h1 S1
  obtain ⟨qe,de,qw,dw,qf,df,rfl,hE2,hW2,hF2⟩:=id hpl
  refine k_m rfl ?_
  first|refine k_A rfl rfl ty_size_29 ?_|refine k_B rfl rfl ty_size_29 ?_
  try simp only [k_ms,k_sz,k_ss,k_za,Nat.reduceAdd]
  refine k_s rfl (k_e rfl ?_)
  refine k_u [(0,_),(1,_),(2,_),(4,_),(5,_),(6,_),(7,_),(8,_),(16,_)] ?_
  refine k_r ?_
  refine ⟨_,T,⟨_,_,_,rfl,.inr ⟨ty_agg_29,[_,_,_,_,_,_,_,_,_],ty_size_29,rds_,rfl⟩,⟨_,_,rfl,⟨_,_,rfl,rfl,rfl⟩,rfl⟩,rfl⟩,less_,?_⟩
  exact ⟨_,_,rfl,hST,hpl,Sl.nil _ _ _⟩
 ·rw [if_pos rfl]
  have hw:=right_PW hR hz hdn
  have hyes:=hyes hR
  rw [if_neg (show ¬ x.d.down=true from by rw [hdn];simp)] at hyes
  refine ACall.enter (rs:=[.cell 4 29,.tmp 5,.tmp 6]) 30 [(0,.agg #[.int .i64 x.d.size,.slice pe x.d.ext.length ce,.slice pw x.d.waits.length cw,.int .i64 x.d.fuse,.bool x.d.down,.slice pf x.fr.length cf,.int .u64 x.tick,.int .u64 x.reads,.int .u64 x.writes]),(1,.int .i64 n)] Tryz.func18 rfl rfl (Nat.le_of_ble_eq_true rfl) rfl ⟨rfl,rfl,trivial⟩ ?_
  refine k_a ?_
  refine k_b9 rfl ?_
  intro b2 f2
  have g2:=f2
  repeat ((with_reducible replace g2:=fresh_set g2);obtain ⟨g2,_⟩:=g2)
  try simp only [k_l1,k_l0,k_za,Nat.reduceAdd]
  refine ARun.alloc (lit_lt rfl) ty_zero_29 ?_
  intro b4 f4
  have g4:=f4
  repeat ((with_reducible replace g4:=fresh_set g4);obtain ⟨g4,_⟩:=g4)
  try simp only [k_l1,k_l0,k_za,Nat.reduceAdd]
  refine k_s rfl (k_e rfl (k_a ?_))
  refine k_9 ty_agg_29 ty_size_29 rfl ?_
  refine ARun.call (lit_lt rfl) go_30 rfl ((hyes.frame f2).frame f4) ?_
  rintro _ S1 ⟨Sa,⟨T,⟨a,p,b,c,oE,oW,rfl,hok,hT⟩,fa,hSa⟩,fb,h1⟩
  rw [h1,hSa];rw [hSa] at fb;clear h1 S1 hSa Sa
  rw [hT] at fa fb ⊢;clear hT T
  refine k_m rfl ?_
  refine rC (Calm.extract rfl rfl) ?_
  refine rC (Calm.extract rfl rfl) ?_
  refine k_s rfl (k_e rfl ?_)
  refine k_u [(0,_),(1,_),(2,_),(4,_),(5,_),(6,_),(7,_),(8,_)] ?_
  refine AWP.seq (k_a (k_m rfl ?_))
  refine rC (Calm.bin rfl rfl b_neq) ?_
  refine k_n ?_
  refine k_u [(0,_),(1,_),(2,_),(4,_),(5,_),(6,_),(7,_),(8,_),(16,_)] ?_
  refine k_F rfl ?_
  refine k_k (k_a (k_m rfl (k_m rfl ?_)))
  refine ARun.call (lit_lt rfl) go_56 rfl (((pl_LeaseA a p b c x n 0 S oE oW hok hw).frame fa).frame fb) ?_
  rintro _ S1 ⟨Sa,⟨T,⟨w,rfl,k,oE',oW',o,hok',hoo,rfl,hT⟩,fc,hSa⟩,fd,h1⟩
  rw [h1,hSa];rw [hSa] at fd;clear h1 S1 hSa Sa
  obtain ⟨fdm,_⟩:=fresh_set fd
  have hST:S.Less T:=by rw [hT];exact (hok'.less k).trans (outN_over hoo)
  have hpa:PlA T a (leaseP x n).1:=by rw [hT];exact (hok'.plA (leaseP_LW hw n) k).less (outN_over hoo)
  have hsl:Sl 1 i64s T (outV o (leaseP x n).2.1.length) (leaseP x n).2.1:=by rw [hT];exact sl_outN i64_len hoo rfl (Nat.le_trans (leaseP_le hw n) (by decide))
  clear hT
  refine k_m rfl ?_
  refine rC (Calm.extract rfl rfl) ?_
  refine rC (Calm.extract rfl rfl) ?_
  refine k_s rfl (k_e rfl ?_)
  refine k_u [(0,_),(1,_),(2,_),(4,_),(5,_),(6,_),(7,_),(8,_),(16,_),(9,_)] ?_
  refine k_a (k_m rfl ?_)
  refine ARun.call (lit_lt rfl) go_31 rfl ((((pl_plainP hpa).frame fc).frame fd)) ?_
  rintro _ S1 ⟨Sa,⟨Sb,⟨hpl,hSb⟩,_,hSa⟩,_,h1⟩
  rw [h1,hSa,hSb];clear h1 S1
  obtain ⟨qe,de,qw,dw,qf,df,rfl,hE2,hW2,hF2⟩:=id hpl
  refine k_m rfl (k_m rfl ?_)
  first|refine k_A rfl rfl ty_size_29 ?_|refine k_B rfl rfl ty_size_29 ?_
  try simp only [k_ms,k_sz,k_ss,k_za,Nat.reduceAdd]
  refine k_s rfl (k_e rfl ?_)
  refine k_u [(0,_),(1,_),(2,_),(4,_),(5,_),(6,_),(7,_),(8,_),(16,_),(9,_)] ?_
  refine AWP.ret ?_
  refine ⟨_,T,⟨_,_,_,rfl,.inr ⟨ty_agg_29,[_,_,_,_,_,_,_,_,_],ty_size_29,rds_,rfl⟩,⟨_,_,rfl,⟨_,_,rfl,rfl,rfl⟩,rfl⟩,rfl⟩,less_,?_⟩
  exact ⟨_,_,rfl,hST,hpl,hsl⟩
set_option maxHeartbeats 4000000 in
theorem pl_Drop (v : Value) (x : Pl) (s : ByteArray) (S : Mem) (hp : PlR S v x) (hz : Dz x.d) :
  ACall Tryz.prog 22 #[v,.string s] S (PlRes (openedP x (dropP x s)) S):=by
 have hopen:=pl_OpenA v x S hp hz
 have hyes:=fun h=>pl_OpenYes v x S hp hz h
 obtain ⟨pe,ce,pw,cw,pf,cf,rfl,hE,hW,hF⟩:=id hp
 unfold openedP
 rcases openP_or x with ⟨ho,hR⟩ | ⟨ho,hR,hdn⟩ | ⟨ho,hR,hdn⟩ <;> rw [ho] at hopen ⊢
 ·rw [if_neg (show ¬ (2:Int)=0 from by decide)]
  refine ACall.enter (rs:=[.cell 4 29,.tmp 5]) 21 [(0,.agg #[.int .i64 x.d.size,.slice pe x.d.ext.length ce,.slice pw x.d.waits.length cw,.int .i64 x.d.fuse,.bool x.d.down,.slice pf x.fr.length cf,.int .u64 x.tick,.int .u64 x.reads,.int .u64 x.writes]),(1,.string s)] Tryz.func22 rfl rfl (Nat.le_of_ble_eq_true rfl) rfl ⟨rfl,rfl,trivial⟩ ?_
  refine k_a ?_
  refine k_b9 rfl ?_
  intro b2 f2
  have g2:=f2
  repeat ((with_reducible replace g2:=fresh_set g2);obtain ⟨g2,_⟩:=g2)
  try simp only [k_l1,k_l0,k_za,Nat.reduceAdd]
  refine ARun.alloc (lit_lt rfl) ty_zero_29 ?_
  intro b4 f4
  have g4:=f4
  repeat ((with_reducible replace g4:=fresh_set g4);obtain ⟨g4,_⟩:=g4)
  try simp only [k_l1,k_l0,k_za,Nat.reduceAdd]
  refine k_e rfl (k_a ?_)
  refine k_9 ty_agg_29 ty_size_29 rfl ?_
  refine ARun.call (lit_lt rfl) go_30 rfl ((hopen.frame f2).frame f4) ?_
  rintro _ S1 ⟨Sa,⟨T,⟨a,rfl,hST,hpa⟩,fa,hSa⟩,fb,h1⟩
  rw [h1,hSa];rw [hSa] at fb;clear h1 S1 hSa Sa
  obtain ⟨fbm,_⟩:=fresh_set fb
  refine k_m rfl ?_
  refine rC (Calm.extract rfl rfl) ?_
  refine rC (Calm.extract rfl rfl) ?_
  refine k_s rfl (k_e rfl ?_)
  refine k_u [(0,_),(1,_),(2,_),(4,_),(5,_),(6,_),(7,_)] ?_
  refine AWP.seq (k_a (k_m rfl ?_))
  refine rC (Calm.bin rfl rfl b_eql) ?_
  refine k_n ?_
  refine k_u [(0,_),(1,_),(2,_),(4,_),(5,_),(6,_),(7,_),(14,_)] ?_
  refine k_F rfl ?_
  refine k_k (k_a (k_m rfl ?_))
  refine ARun.call (lit_lt rfl) go_31 rfl ((((pl_plainP hpa).frame fa).frame fb)) ?_
  rintro _ S1 ⟨Sa,⟨Sb,⟨hpl,hSb⟩,_,hSa⟩,_,h1⟩
  rw [h1,hSa,hSb];clear h1 S1
  obtain ⟨qe,de,qw,dw,qf,df,rfl,hE2,hW2,hF2⟩:=id hpl
  refine k_m rfl ?_
  first|refine k_A rfl rfl ty_size_29 ?_|refine k_B rfl rfl ty_size_29 ?_
  try simp only [k_ms,k_sz,k_ss,k_za,Nat.reduceAdd]
  refine k_e rfl ?_
  refine k_u [(0,_),(1,_),(2,_),(4,_),(5,_),(6,_),(7,_),(14,_)] ?_
  refine AWP.ret ?_
  refine ⟨_,T,⟨_,_,_,rfl,.inr ⟨ty_agg_29,[_,_,_,_,_,_,_,_,_],ty_size_29,rds_,rfl⟩,⟨_,_,rfl,rfl,rfl⟩,rfl⟩,less_,?_⟩
  exact ⟨_,rfl,hST,hpl⟩
 ·rw [if_neg (show ¬ (10:Int)=0 from by decide)]
  refine ACall.enter (rs:=[.cell 4 29,.tmp 5]) 21 [(0,.agg #[.int .i64 x.d.size,.slice pe x.d.ext.length ce,.slice pw x.d.waits.length cw,.int .i64 x.d.fuse,.bool x.d.down,.slice pf x.fr.length cf,.int .u64 x.tick,.int .u64 x.reads,.int .u64 x.writes]),(1,.string s)] Tryz.func22 rfl rfl (Nat.le_of_ble_eq_true rfl) rfl ⟨rfl,rfl,trivial⟩ ?_
  refine k_a ?_
  refine k_b9 rfl ?_
  intro b2 f2
  have g2:=f2
  repeat ((with_reducible replace g2:=fresh_set g2);obtain ⟨g2,_⟩:=g2)
  try simp only [k_l1,k_l0,k_za,Nat.reduceAdd]
  refine ARun.alloc (lit_lt rfl) ty_zero_29 ?_
  intro b4 f4
  have g4:=f4
  repeat ((with_reducible replace g4:=fresh_set g4);obtain ⟨g4,_⟩:=g4)
  try simp only [k_l1,k_l0,k_za,Nat.reduceAdd]
  refine k_e rfl (k_a ?_)
  refine k_9 ty_agg_29 ty_size_29 rfl ?_
  refine ARun.call (lit_lt rfl) go_30 rfl ((hopen.frame f2).frame f4) ?_
  rintro _ S1 ⟨Sa,⟨T,⟨a,rfl,hST,hpa⟩,fa,hSa⟩,fb,h1⟩
  rw [h1,hSa];rw [hSa] at fb;clear h1 S1 hSa Sa
  obtain ⟨fbm,_⟩:=fresh_set fb
  refine k_m rfl ?_
  refine rC (Calm.extract rfl rfl) ?_
  refine rC (Calm.extract rfl rfl) ?_
  refine k_s rfl (k_e rfl ?_)
  refine k_u [(0,_),(1,_),(2,_),(4,_),(5,_),(6,_),(7,_)] ?_
  refine AWP.seq (k_a (k_m rfl ?_))
  refine rC (Calm.bin rfl rfl b_eql) ?_
  refine k_n ?_
  refine k_u [(0,_),(1,_),(2,_),(4,_),(5,_),(6,_),(7,_),(14,_)] ?_
  refine k_F rfl ?_
  refine k_k (k_a (k_m rfl ?_))
  refine ARun.call (lit_lt rfl) go_31 rfl ((((pl_plainP hpa).frame fa).frame fb)) ?_
  rintro _ S1 ⟨Sa,⟨Sb,⟨hpl,hSb⟩,_,hSa⟩,_,h1⟩
  rw [h1,hSa,hSb];clear h1 S1
  obtain ⟨qe,de,qw,dw,qf,df,rfl,hE2,hW2,hF2⟩:=id hpl
  refine k_m rfl ?_
  first|refine k_A rfl rfl ty_size_29 ?_|refine k_B rfl rfl ty_size_29 ?_
  try simp only [k_ms,k_sz,k_ss,k_za,Nat.reduceAdd]
  refine k_e rfl ?_
  refine k_u [(0,_),(1,_),(2,_),(4,_),(5,_),(6,_),(7,_),(14,_)] ?_
  refine AWP.ret ?_
  refine ⟨_,T,⟨_,_,_,rfl,.inr ⟨ty_agg_29,[_,_,_,_,_,_,_,_,_],ty_size_29,rds_,rfl⟩,⟨_,_,rfl,rfl,rfl⟩,rfl⟩,less_,?_⟩
  exact ⟨_,rfl,hST,hpl⟩
 ·rw [if_pos rfl]
  have hw:=right_PW hR hz hdn
  have hyes:=hyes hR
  rw [if_neg (show ¬ x.d.down=true from by rw [hdn];simp)] at hyes
  refine ACall.enter (rs:=[.cell 4 29,.tmp 5]) 21 [(0,.agg #[.int .i64 x.d.size,.slice pe x.d.ext.length ce,.slice pw x.d.waits.length cw,.int .i64 x.d.fuse,.bool x.d.down,.slice pf x.fr.length cf,.int .u64 x.tick,.int .u64 x.reads,.int .u64 x.writes]),(1,.string s)] Tryz.func22 rfl rfl (Nat.le_of_ble_eq_true rfl) rfl ⟨rfl,rfl,trivial⟩ ?_
  refine k_a ?_
  refine k_b9 rfl ?_
  intro b2 f2
  have g2:=f2
  repeat ((with_reducible replace g2:=fresh_set g2);obtain ⟨g2,_⟩:=g2)
  try simp only [k_l1,k_l0,k_za,Nat.reduceAdd]
  refine ARun.alloc (lit_lt rfl) ty_zero_29 ?_
  intro b4 f4
  have g4:=f4
  repeat ((with_reducible replace g4:=fresh_set g4);obtain ⟨g4,_⟩:=g4)
  try simp only [k_l1,k_l0,k_za,Nat.reduceAdd]
  refine k_e rfl (k_a ?_)
  refine k_9 ty_agg_29 ty_size_29 rfl ?_
  refine ARun.call (lit_lt rfl) go_30 rfl ((hyes.frame f2).frame f4) ?_
  rintro _ S1 ⟨Sa,⟨T,⟨a,p,b,c,oE,oW,rfl,hok,hT⟩,fa,hSa⟩,fb,h1⟩
  rw [h1,hSa];rw [hSa] at fb;clear h1 S1 hSa Sa
  rw [hT] at fa fb ⊢;clear hT T
  refine k_m rfl ?_
  refine rC (Calm.extract rfl rfl) ?_
  refine rC (Calm.extract rfl rfl) ?_
  refine k_s rfl (k_e rfl ?_)
  refine k_u [(0,_),(1,_),(2,_),(4,_),(5,_),(6,_),(7,_)] ?_
  refine AWP.seq (k_a (k_m rfl ?_))
  refine rC (Calm.bin rfl rfl b_eql) ?_
  refine k_n ?_
  refine k_u [(0,_),(1,_),(2,_),(4,_),(5,_),(6,_),(7,_),(14,_)] ?_
  refine k_T rfl ?_
  refine AWP.region ?_
  refine k_m rfl (k_m rfl ?_)
  refine ARun.call (lit_lt rfl) go_59 rfl (((pl_DropA a p b c x s 0 S oE oW hok hw).frame fa).frame fb) ?_
  rintro _ S1 ⟨Sa,⟨T,⟨rfl,hA⟩,fc,hSa⟩,fd,h1⟩
  rw [h1,hSa];rw [hSa] at fd;clear h1 S1 hSa Sa
  obtain ⟨fdm,_⟩:=fresh_set fd
  obtain ⟨hST,hpa⟩:=arS_end hA (drop_LW hw s)
  refine k_e rfl ?_
  refine k_u [(0,_),(1,_),(2,_),(4,_),(5,_),(6,_),(7,_),(14,_)] ?_
  refine k_a (k_m rfl ?_)
  refine ARun.call (lit_lt rfl) go_31 rfl ((((pl_plainP hpa).frame fc).frame fd)) ?_
  rintro _ S1 ⟨Sa,⟨Sb,⟨hpl,hSb⟩,_,hSa⟩,_,h1⟩
  rw [h1,hSa,hSb];clear h1 S1
  obtain ⟨qe,de,qw,dw,qf,df,rfl,hE2,hW2,hF2⟩:=id hpl
  refine k_m rfl ?_
  first|refine k_A rfl rfl ty_size_29 ?_|refine k_B rfl rfl ty_size_29 ?_
  try simp only [k_ms,k_sz,k_ss,k_za,Nat.reduceAdd]
  refine k_e rfl ?_
  refine k_u [(0,_),(1,_),(2,_),(4,_),(5,_),(6,_),(7,_),(14,_)] ?_
  refine AWP.ret ?_
  refine ⟨_,T,⟨_,_,_,rfl,.inr ⟨ty_agg_29,[_,_,_,_,_,_,_,_,_],ty_size_29,rds_,rfl⟩,⟨_,_,rfl,rfl,rfl⟩,rfl⟩,less_,?_⟩
  exact ⟨_,rfl,hST,hpl⟩
set_option maxHeartbeats 4000000 in
theorem pl_Flush (v : Value) (x : Pl) (S : Mem) (hp : PlR S v x) (hz : Dz x.d) :
  ACall Tryz.prog 24 #[v] S (PlRes (openedP x (flushP x)) S):=by
 have hopen:=pl_OpenA v x S hp hz
 have hyes:=fun h=>pl_OpenYes v x S hp hz h
 obtain ⟨pe,ce,pw,cw,pf,cf,rfl,hE,hW,hF⟩:=id hp
 unfold openedP
 rcases openP_or x with ⟨ho,hR⟩ | ⟨ho,hR,hdn⟩ | ⟨ho,hR,hdn⟩ <;> rw [ho] at hopen ⊢
 ·rw [if_neg (show ¬ (2:Int)=0 from by decide)]
  refine ACall.enter (rs:=[.cell 2 29,.tmp 3]) 18 [(0,.agg #[.int .i64 x.d.size,.slice pe x.d.ext.length ce,.slice pw x.d.waits.length cw,.int .i64 x.d.fuse,.bool x.d.down,.slice pf x.fr.length cf,.int .u64 x.tick,.int .u64 x.reads,.int .u64 x.writes])] Tryz.func24 rfl rfl (Nat.le_of_ble_eq_true rfl) rfl ⟨rfl,trivial⟩ ?_
  refine k_a ?_
  refine k_b9 rfl ?_
  intro b1 f1
  have g1:=f1
  repeat ((with_reducible replace g1:=fresh_set g1);obtain ⟨g1,_⟩:=g1)
  try simp only [k_l1,k_l0,k_za,Nat.reduceAdd]
  refine ARun.alloc (lit_lt rfl) ty_zero_29 ?_
  intro b2 f2
  have g2:=f2
  repeat ((with_reducible replace g2:=fresh_set g2);obtain ⟨g2,_⟩:=g2)
  try simp only [k_l1,k_l0,k_za,Nat.reduceAdd]
  refine k_e rfl (k_a ?_)
  refine k_9 ty_agg_29 ty_size_29 rfl ?_
  refine ARun.call (lit_lt rfl) go_30 rfl ((hopen.frame f1).frame f2) ?_
  rintro _ S1 ⟨Sa,⟨T,⟨a,rfl,hST,hpa⟩,fa,hSa⟩,fb,h1⟩
  rw [h1,hSa];rw [hSa] at fb;clear h1 S1 hSa Sa
  obtain ⟨fbm,_⟩:=fresh_set fb
  refine k_m rfl ?_
  refine rC (Calm.extract rfl rfl) ?_
  refine rC (Calm.extract rfl rfl) ?_
  refine k_s rfl (k_e rfl ?_)
  refine k_u [(0,_),(1,_),(2,_),(3,_),(4,_),(5,_)] ?_
  refine AWP.seq (k_a (k_m rfl ?_))
  refine rC (Calm.bin rfl rfl b_eql) ?_
  refine k_n ?_
  refine k_u [(0,_),(1,_),(2,_),(3,_),(4,_),(5,_),(12,_)] ?_
  refine k_F rfl ?_
  refine k_k (k_a (k_m rfl ?_))
  refine ARun.call (lit_lt rfl) go_31 rfl ((((pl_plainP hpa).frame fa).frame fb)) ?_
  rintro _ S1 ⟨Sa,⟨Sb,⟨hpl,hSb⟩,_,hSa⟩,_,h1⟩
  rw [h1,hSa,hSb];clear h1 S1
  obtain ⟨qe,de,qw,dw,qf,df,rfl,hE2,hW2,hF2⟩:=id hpl
  refine k_m rfl ?_
  first|refine k_A rfl rfl ty_size_29 ?_|refine k_B rfl rfl ty_size_29 ?_
  try simp only [k_ms,k_sz,k_ss,k_za,Nat.reduceAdd]
  refine k_e rfl ?_
  refine k_u [(0,_),(1,_),(2,_),(3,_),(4,_),(5,_),(12,_)] ?_
  refine AWP.ret ?_
  refine ⟨_,T,⟨_,_,_,rfl,.inr ⟨ty_agg_29,[_,_,_,_,_,_,_,_,_],ty_size_29,rds_,rfl⟩,⟨_,_,rfl,rfl,rfl⟩,rfl⟩,less_,?_⟩
  exact ⟨_,rfl,hST,hpl⟩
 ·rw [if_neg (show ¬ (10:Int)=0 from by decide)]
  refine ACall.enter (rs:=[.cell 2 29,.tmp 3]) 18 [(0,.agg #[.int .i64 x.d.size,.slice pe x.d.ext.length ce,.slice pw x.d.waits.length cw,.int .i64 x.d.fuse,.bool x.d.down,.slice pf x.fr.length cf,.int .u64 x.tick,.int .u64 x.reads,.int .u64 x.writes])] Tryz.func24 rfl rfl (Nat.le_of_ble_eq_true rfl) rfl ⟨rfl,trivial⟩ ?_
  refine k_a ?_
  refine k_b9 rfl ?_
  intro b1 f1
  have g1:=f1
  repeat ((with_reducible replace g1:=fresh_set g1);obtain ⟨g1,_⟩:=g1)
  try simp only [k_l1,k_l0,k_za,Nat.reduceAdd]
  refine ARun.alloc (lit_lt rfl) ty_zero_29 ?_
  intro b2 f2
  have g2:=f2
  repeat ((with_reducible replace g2:=fresh_set g2);obtain ⟨g2,_⟩:=g2)
  try simp only [k_l1,k_l0,k_za,Nat.reduceAdd]
  refine k_e rfl (k_a ?_)
  refine k_9 ty_agg_29 ty_size_29 rfl ?_
  refine ARun.call (lit_lt rfl) go_30 rfl ((hopen.frame f1).frame f2) ?_
  rintro _ S1 ⟨Sa,⟨T,⟨a,rfl,hST,hpa⟩,fa,hSa⟩,fb,h1⟩
  rw [h1,hSa];rw [hSa] at fb;clear h1 S1 hSa Sa
  obtain ⟨fbm,_⟩:=fresh_set fb
  refine k_m rfl ?_
  refine rC (Calm.extract rfl rfl) ?_
  refine rC (Calm.extract rfl rfl) ?_
  refine k_s rfl (k_e rfl ?_)
  refine k_u [(0,_),(1,_),(2,_),(3,_),(4,_),(5,_)] ?_
  refine AWP.seq (k_a (k_m rfl ?_))
  refine rC (Calm.bin rfl rfl b_eql) ?_
  refine k_n ?_
  refine k_u [(0,_),(1,_),(2,_),(3,_),(4,_),(5,_),(12,_)] ?_
  refine k_F rfl ?_
  refine k_k (k_a (k_m rfl ?_))
  refine ARun.call (lit_lt rfl) go_31 rfl ((((pl_plainP hpa).frame fa).frame fb)) ?_
  rintro _ S1 ⟨Sa,⟨Sb,⟨hpl,hSb⟩,_,hSa⟩,_,h1⟩
  rw [h1,hSa,hSb];clear h1 S1
  obtain ⟨qe,de,qw,dw,qf,df,rfl,hE2,hW2,hF2⟩:=id hpl
  refine k_m rfl ?_
  first|refine k_A rfl rfl ty_size_29 ?_|refine k_B rfl rfl ty_size_29 ?_
  try simp only [k_ms,k_sz,k_ss,k_za,Nat.reduceAdd]
  refine k_e rfl ?_
  refine k_u [(0,_),(1,_),(2,_),(3,_),(4,_),(5,_),(12,_)] ?_
  refine AWP.ret ?_
  refine ⟨_,T,⟨_,_,_,rfl,.inr ⟨ty_agg_29,[_,_,_,_,_,_,_,_,_],ty_size_29,rds_,rfl⟩,⟨_,_,rfl,rfl,rfl⟩,rfl⟩,less_,?_⟩
  exact ⟨_,rfl,hST,hpl⟩
 ·rw [if_pos rfl]
  have hw:=right_PW hR hz hdn
  have hyes:=hyes hR
  rw [if_neg (show ¬ x.d.down=true from by rw [hdn];simp)] at hyes
  refine ACall.enter (rs:=[.cell 2 29,.tmp 3]) 18 [(0,.agg #[.int .i64 x.d.size,.slice pe x.d.ext.length ce,.slice pw x.d.waits.length cw,.int .i64 x.d.fuse,.bool x.d.down,.slice pf x.fr.length cf,.int .u64 x.tick,.int .u64 x.reads,.int .u64 x.writes])] Tryz.func24 rfl rfl (Nat.le_of_ble_eq_true rfl) rfl ⟨rfl,trivial⟩ ?_
  refine k_a ?_
  refine k_b9 rfl ?_
  intro b1 f1
  have g1:=f1
  repeat ((with_reducible replace g1:=fresh_set g1);obtain ⟨g1,_⟩:=g1)
  try simp only [k_l1,k_l0,k_za,Nat.reduceAdd]
  refine ARun.alloc (lit_lt rfl) ty_zero_29 ?_
  intro b2 f2
  have g2:=f2
  repeat ((with_reducible replace g2:=fresh_set g2);obtain ⟨g2,_⟩:=g2)
  try simp only [k_l1,k_l0,k_za,Nat.reduceAdd]
  refine k_e rfl (k_a ?_)
  refine k_9 ty_agg_29 ty_size_29 rfl ?_
  refine ARun.call (lit_lt rfl) go_30 rfl ((hyes.frame f1).frame f2) ?_
  rintro _ S1 ⟨Sa,⟨T,⟨a,p,b,c,oE,oW,rfl,hok,hT⟩,fa,hSa⟩,fb,h1⟩
  rw [h1,hSa];rw [hSa] at fb;clear h1 S1 hSa Sa
  rw [hT] at fa fb ⊢;clear hT T
  refine k_m rfl ?_
  refine rC (Calm.extract rfl rfl) ?_
  refine rC (Calm.extract rfl rfl) ?_
  refine k_s rfl (k_e rfl ?_)
  refine k_u [(0,_),(1,_),(2,_),(3,_),(4,_),(5,_)] ?_
  refine AWP.seq (k_a (k_m rfl ?_))
  refine rC (Calm.bin rfl rfl b_eql) ?_
  refine k_n ?_
  refine k_u [(0,_),(1,_),(2,_),(3,_),(4,_),(5,_),(12,_)] ?_
  refine k_T rfl ?_
  refine AWP.region ?_
  refine k_m rfl ?_
  refine ARun.call (lit_lt rfl) go_60 rfl (((pl_FlushA a p b c x 0 S oE oW hok hw).frame fa).frame fb) ?_
  rintro _ S1 ⟨Sa,⟨T,⟨rfl,hA⟩,fc,hSa⟩,fd,h1⟩
  rw [h1,hSa];rw [hSa] at fd;clear h1 S1 hSa Sa
  obtain ⟨fdm,_⟩:=fresh_set fd
  obtain ⟨hST,hpa⟩:=arS_end hA (flushP_LW hw)
  refine k_e rfl ?_
  refine k_u [(0,_),(1,_),(2,_),(3,_),(4,_),(5,_),(12,_)] ?_
  refine k_a (k_m rfl ?_)
  refine ARun.call (lit_lt rfl) go_31 rfl ((((pl_plainP hpa).frame fc).frame fd)) ?_
  rintro _ S1 ⟨Sa,⟨Sb,⟨hpl,hSb⟩,_,hSa⟩,_,h1⟩
  rw [h1,hSa,hSb];clear h1 S1
  obtain ⟨qe,de,qw,dw,qf,df,rfl,hE2,hW2,hF2⟩:=id hpl
  refine k_m rfl ?_
  first|refine k_A rfl rfl ty_size_29 ?_|refine k_B rfl rfl ty_size_29 ?_
  try simp only [k_ms,k_sz,k_ss,k_za,Nat.reduceAdd]
  refine k_e rfl ?_
  refine k_u [(0,_),(1,_),(2,_),(3,_),(4,_),(5,_),(12,_)] ?_
  refine AWP.ret ?_
  refine ⟨_,T,⟨_,_,_,rfl,.inr ⟨ty_agg_29,[_,_,_,_,_,_,_,_,_],ty_size_29,rds_,rfl⟩,⟨_,_,rfl,rfl,rfl⟩,rfl⟩,less_,?_⟩
  exact ⟨_,rfl,hST,hpl⟩
end Go.Proofs.YtkeiphkccnfhoaaGreat
namespace Go.Proofs.YtkeiphkccnfhoaaGreat
open Go.RowKit
open Mv Disk
set_option maxRecDepth 4000
theorem pinned0 {x : Pl} {i g n : Int} (h : pinnedP x i g n = 0) : 0 ≤ i ∧ i < x.fr.length ∧ 0 ≤ g ∧ g ≤ 64 ∧ n ≤ 64 - g ∧ (atF x i.toNat).pins ≠ 0 := by
 unfold pinnedP at h
 split at h
 ·simp at h
 ·split at h
  ·simp at h
  ·rename_i h1 h2
   simp only [not_or] at h1
   exact ⟨by omega,by omega,by omega,by omega,by omega,h2⟩
theorem pins_data {x : Pl} (h : PRight x) {j : Nat} (hj : j < x.fr.length) (hp : (atF x j).pins ≠ 0) : (atF x j).data.size = 64 := by
 rw [atF_eq hj] at hp ⊢
 rcases (h.ok j hj).1 with ⟨_,e | e⟩ | ⟨_,_,_,h1,_⟩
 ·rw [e] at hp;exact absurd rfl hp
 ·rw [e] at hp;exact absurd rfl hp
 ·exact h1
set_option maxHeartbeats 4000000 in
theorem pl_Look (v : Value) (x : Pl) (i : Int) (S : Mem) (hp : PlR S v x) (hz : Dz x.d) :
  ACall Tryz.prog 10 #[v,.int .i64 i] S fun r S'=>r = .tuple #[.string (openedS x (lookP x i)).1,.int .i64 (openedS x (lookP x i)).2]∧S'=S:=by
 have hopen:=pl_OpenA v x S hp hz
 have hyes:=fun h=>pl_OpenYes v x S hp hz h
 obtain ⟨pe,ce,pw,cw,pf,cf,rfl,hE,hW,hF⟩:=id hp
 unfold openedS
 rcases openP_or x with ⟨ho,hR⟩ | ⟨ho,hR,hdn⟩ | ⟨ho,hR,hdn⟩ <;> rw [ho] at hopen ⊢
 ·rw [if_neg (show ¬ (2:Int)=0 from by decide)]
  refine ACall.enter (rs:=[.tmp 4,.tmp 5]) 24 [(0,.agg #[.int .i64 x.d.size,.slice pe x.d.ext.length ce,.slice pw x.d.waits.length cw,.int .i64 x.d.fuse,.bool x.d.down,.slice pf x.fr.length cf,.int .u64 x.tick,.int .u64 x.reads,.int .u64 x.writes]),(1,.int .i64 i)] Tryz.func10 rfl rfl (Nat.le_of_ble_eq_true rfl) rfl ⟨rfl,rfl,trivial⟩ ?_
  refine k_a ?_
  refine k_b9 rfl ?_
  intro b2 f2
  have g2:=f2
  repeat ((with_reducible replace g2:=fresh_set g2);obtain ⟨g2,_⟩:=g2)
  try simp only [k_l1,k_l0,k_za,Nat.reduceAdd]
  refine k_s rfl (k_e rfl (k_a ?_))
  refine k_9 ty_agg_29 ty_size_29 rfl ?_
  refine ARun.call (lit_lt rfl) go_30 rfl (hopen.frame f2) ?_
  rintro _ S1 ⟨T,⟨a,rfl,hST,hpa⟩,fa,h1⟩
  rw [h1];clear h1 S1
  refine k_m rfl ?_
  refine rC (Calm.extract rfl rfl) ?_
  refine rC (Calm.extract rfl rfl) ?_
  refine k_s rfl (k_e rfl ?_)
  refine k_u [(0,_),(1,_),(2,_),(4,_),(5,_),(6,_),(7,_)] ?_
  refine AWP.seq (k_a (k_m rfl ?_))
  refine rC (Calm.bin rfl rfl b_eql) ?_
  refine k_n ?_
  refine k_u [(0,_),(1,_),(2,_),(4,_),(5,_),(6,_),(7,_),(14,_)] ?_
  refine k_F rfl ?_
  refine k_k (AWP.seq (k_a (k_m rfl ?_)))
  refine rC (Calm.bin rfl rfl b_neq) ?_
  refine k_n ?_
  refine k_u [(0,_),(1,_),(2,_),(4,_),(5,_),(6,_),(7,_),(14,_),(19,_)] ?_
  refine k_T rfl ?_
  refine k_a (k_m rfl (k_s rfl (k_e rfl ?_)))
  refine k_u [(0,_),(1,_),(2,_),(4,_),(5,_),(6,_),(7,_),(14,_),(19,_)] ?_
  refine k_r ?_
  refine ⟨_,S,⟨_,_,rfl,⟨_,_,rfl,rfl,rfl⟩,rfl⟩,hST.trans (Mem.less_set _ _ _ fa.1),?_⟩
  exact ⟨rfl,rfl⟩
 ·rw [if_neg (show ¬ (10:Int)=0 from by decide)]
  refine ACall.enter (rs:=[.tmp 4,.tmp 5]) 24 [(0,.agg #[.int .i64 x.d.size,.slice pe x.d.ext.length ce,.slice pw x.d.waits.length cw,.int .i64 x.d.fuse,.bool x.d.down,.slice pf x.fr.length cf,.int .u64 x.tick,.int .u64 x.reads,.int .u64 x.writes]),(1,.int .i64 i)] Tryz.func10 rfl rfl (Nat.le_of_ble_eq_true rfl) rfl ⟨rfl,rfl,trivial⟩ ?_
  refine k_a ?_
  refine k_b9 rfl ?_
  intro b2 f2
  have g2:=f2
  repeat ((with_reducible replace g2:=fresh_set g2);obtain ⟨g2,_⟩:=g2)
  try simp only [k_l1,k_l0,k_za,Nat.reduceAdd]
  refine k_s rfl (k_e rfl (k_a ?_))
  refine k_9 ty_agg_29 ty_size_29 rfl ?_
  refine ARun.call (lit_lt rfl) go_30 rfl (hopen.frame f2) ?_
  rintro _ S1 ⟨T,⟨a,rfl,hST,hpa⟩,fa,h1⟩
  rw [h1];clear h1 S1
  refine k_m rfl ?_
  refine rC (Calm.extract rfl rfl) ?_
  refine rC (Calm.extract rfl rfl) ?_
  refine k_s rfl (k_e rfl ?_)
  refine k_u [(0,_),(1,_),(2,_),(4,_),(5,_),(6,_),(7,_)] ?_
  refine AWP.seq (k_a (k_m rfl ?_))
  refine rC (Calm.bin rfl rfl b_eql) ?_
  refine k_n ?_
  refine k_u [(0,_),(1,_),(2,_),(4,_),(5,_),(6,_),(7,_),(14,_)] ?_
  refine k_F rfl ?_
  refine k_k (AWP.seq (k_a (k_m rfl ?_)))
  refine rC (Calm.bin rfl rfl b_neq) ?_
  refine k_n ?_
  refine k_u [(0,_),(1,_),(2,_),(4,_),(5,_),(6,_),(7,_),(14,_),(19,_)] ?_
  refine k_T rfl ?_
  refine k_a (k_m rfl (k_s rfl (k_e rfl ?_)))
  refine k_u [(0,_),(1,_),(2,_),(4,_),(5,_),(6,_),(7,_),(14,_),(19,_)] ?_
  refine k_r ?_
  refine ⟨_,S,⟨_,_,rfl,⟨_,_,rfl,rfl,rfl⟩,rfl⟩,hST.trans (Mem.less_set _ _ _ fa.1),?_⟩
  exact ⟨rfl,rfl⟩
 ·rw [if_pos rfl]
  have hw:=right_PW hR hz hdn
  have hyes:=hyes hR
  rw [if_neg (show ¬ x.d.down=true from by rw [hdn];simp)] at hyes
  unfold lookP
  by_cases q:pinnedP x i 0 0=0
  ·obtain ⟨h0,h1,_,_,_,_⟩:=pinned0 q
   obtain ⟨j,rfl⟩ : ∃ j:Nat,i=(j:Int):=⟨_,(Int.toNat_of_nonneg h0).symm⟩
   have hj:j<x.fr.length:=by omega
   rw [if_pos q,Int.toNat_natCast]
   refine ACall.enter (rs:=[.tmp 4,.tmp 5]) 24 [(0,.agg #[.int .i64 x.d.size,.slice pe x.d.ext.length ce,.slice pw x.d.waits.length cw,.int .i64 x.d.fuse,.bool x.d.down,.slice pf x.fr.length cf,.int .u64 x.tick,.int .u64 x.reads,.int .u64 x.writes]),(1,.int .i64 (j:Nat))] Tryz.func10 rfl rfl (Nat.le_of_ble_eq_true rfl) rfl ⟨rfl,rfl,trivial⟩ ?_
   refine k_a ?_
   refine k_b9 rfl ?_
   intro b2 f2
   have g2:=f2
   repeat ((with_reducible replace g2:=fresh_set g2);obtain ⟨g2,_⟩:=g2)
   try simp only [k_l1,k_l0,k_za,Nat.reduceAdd]
   refine k_s rfl (k_e rfl (k_a ?_))
   refine k_9 ty_agg_29 ty_size_29 rfl ?_
   refine ARun.call (lit_lt rfl) go_30 rfl (hyes.frame f2) ?_
   rintro _ S1 ⟨T,⟨a,p,b,c,oE,oW,rfl,hok,hT⟩,fa,h1⟩
   rw [h1];clear h1 S1
   have hA:T.own a=some (arB p b c x 0):=by rw [hT];exact ar_own
   have hF2:Sl 7 frF T (.slice (some ⟨b,0,none⟩) x.fr.length c) x.fr:=by rw [hT];exact ar_sl hok.ab hok.l hw.l2
   have hST:S.Less T:=by rw [hT];exact hok.less 0
   clear hT
   refine k_m rfl ?_
   refine rC (Calm.extract rfl rfl) ?_
   refine rC (Calm.extract rfl rfl) ?_
   refine k_s rfl (k_e rfl ?_)
   refine k_u [(0,_),(1,_),(2,_),(4,_),(5,_),(6,_),(7,_)] ?_
   refine AWP.seq (k_a (k_m rfl ?_))
   refine rC (Calm.bin rfl rfl b_eql) ?_
   refine k_n ?_
   refine k_u [(0,_),(1,_),(2,_),(4,_),(5,_),(6,_),(7,_),(14,_)] ?_
   refine k_T rfl ?_
   refine AWP.region ?_
   refine k_m rfl (k_m rfl ?_)
   refine ARun.call (lit_lt rfl) go_40 rfl ((pl_pinned a p b c x (j:Nat) 0 0 0 T hA hF2 hw.l2 (by omega)).frame fa) ?_
   rintro _ S1 ⟨T',⟨rfl,hT'⟩,fa',h1⟩
   rw [h1,hT',q];clear h1 S1
   refine k_e rfl ?_
   refine k_u [(0,_),(1,_),(2,_),(4,_),(5,_),(6,_),(7,_),(14,_)] ?_
   refine AWP.seq (k_a (k_m rfl ?_))
   refine rC (Calm.bin rfl rfl b_neq) ?_
   refine k_n ?_
   refine k_u [(0,_),(1,_),(2,_),(4,_),(5,_),(6,_),(7,_),(14,_),(19,_)] ?_
   refine k_F rfl ?_
   refine k_k (k_a (k_m rfl (k_m rfl ?_)))
   refine ARun.call (lit_lt rfl) go_41 rfl ((pl_LookA a p b c x j 0 T hA hF2 hj).frame fa) ?_
   rintro _ S1 ⟨T'',⟨rfl,hT''⟩,fa'',h1⟩
   rw [h1,hT''];clear h1 S1
   refine k_s rfl (k_e rfl ?_)
   refine k_u [(0,_),(1,_),(2,_),(4,_),(5,_),(6,_),(7,_),(14,_),(19,_)] ?_
   refine AWP.ret ?_
   refine ⟨_,S,⟨_,_,rfl,⟨_,_,rfl,rfl,rfl⟩,rfl⟩,hST.trans (Mem.less_set _ _ _ fa.1),?_⟩
   exact ⟨rfl,rfl⟩
  ·rw [if_neg q]
   refine ACall.enter (rs:=[.tmp 4,.tmp 5]) 24 [(0,.agg #[.int .i64 x.d.size,.slice pe x.d.ext.length ce,.slice pw x.d.waits.length cw,.int .i64 x.d.fuse,.bool x.d.down,.slice pf x.fr.length cf,.int .u64 x.tick,.int .u64 x.reads,.int .u64 x.writes]),(1,.int .i64 i)] Tryz.func10 rfl rfl (Nat.le_of_ble_eq_true rfl) rfl ⟨rfl,rfl,trivial⟩ ?_
   refine k_a ?_
   refine k_b9 rfl ?_
   intro b2 f2
   have g2:=f2
   repeat ((with_reducible replace g2:=fresh_set g2);obtain ⟨g2,_⟩:=g2)
   try simp only [k_l1,k_l0,k_za,Nat.reduceAdd]
   refine k_s rfl (k_e rfl (k_a ?_))
   refine k_9 ty_agg_29 ty_size_29 rfl ?_
   refine ARun.call (lit_lt rfl) go_30 rfl (hyes.frame f2) ?_
   rintro _ S1 ⟨T,⟨a,p,b,c,oE,oW,rfl,hok,hT⟩,fa,h1⟩
   rw [h1];clear h1 S1
   have hA:T.own a=some (arB p b c x 0):=by rw [hT];exact ar_own
   have hF2:Sl 7 frF T (.slice (some ⟨b,0,none⟩) x.fr.length c) x.fr:=by rw [hT];exact ar_sl hok.ab hok.l hw.l2
   have hST:S.Less T:=by rw [hT];exact hok.less 0
   clear hT
   refine k_m rfl ?_
   refine rC (Calm.extract rfl rfl) ?_
   refine rC (Calm.extract rfl rfl) ?_
   refine k_s rfl (k_e rfl ?_)
   refine k_u [(0,_),(1,_),(2,_),(4,_),(5,_),(6,_),(7,_)] ?_
   refine AWP.seq (k_a (k_m rfl ?_))
   refine rC (Calm.bin rfl rfl b_eql) ?_
   refine k_n ?_
   refine k_u [(0,_),(1,_),(2,_),(4,_),(5,_),(6,_),(7,_),(14,_)] ?_
   refine k_T rfl ?_
   refine AWP.region ?_
   refine k_m rfl (k_m rfl ?_)
   refine ARun.call (lit_lt rfl) go_40 rfl ((pl_pinned a p b c x i 0 0 0 T hA hF2 hw.l2 (by omega)).frame fa) ?_
   rintro _ S1 ⟨T',⟨rfl,hT'⟩,fa',h1⟩
   rw [h1,hT'];clear h1 S1
   refine k_e rfl ?_
   refine k_u [(0,_),(1,_),(2,_),(4,_),(5,_),(6,_),(7,_),(14,_)] ?_
   refine AWP.seq (k_a (k_m rfl ?_))
   refine rC (Calm.bin rfl rfl (bin_bool (bin_neq _ _) (bnot_dec_true q))) ?_
   refine k_n ?_
   refine k_u [(0,_),(1,_),(2,_),(4,_),(5,_),(6,_),(7,_),(14,_),(19,_)] ?_
   refine k_T rfl ?_
   refine k_a (k_m rfl (k_s rfl (k_e rfl ?_)))
   refine k_u [(0,_),(1,_),(2,_),(4,_),(5,_),(6,_),(7,_),(14,_),(19,_)] ?_
   refine k_r ?_
   refine ⟨_,S,⟨_,_,rfl,⟨_,_,rfl,rfl,rfl⟩,rfl⟩,hST.trans (Mem.less_set _ _ _ fa.1),?_⟩
   exact ⟨rfl,rfl⟩
set_option maxHeartbeats 4000000 in
theorem pl_Fill (v : Value) (x : Pl) (i g : Int) (t : ByteArray) (S : Mem) (hp : PlR S v x) (hz : Dz x.d) :
  ACall Tryz.prog 12 #[v,.int .i64 i,.int .i64 g,.string t] S (PlRes (openedP x (fillP x i g t)) S):=by
 have hopen:=pl_OpenA v x S hp hz
 have hyes:=fun h=>pl_OpenYes v x S hp hz h
 obtain ⟨pe,ce,pw,cw,pf,cf,rfl,hE,hW,hF⟩:=id hp
 unfold openedP
 rcases openP_or x with ⟨ho,hR⟩ | ⟨ho,hR,hdn⟩ | ⟨ho,hR,hdn⟩ <;> rw [ho] at hopen ⊢
 ·rw [if_neg (show ¬ (2:Int)=0 from by decide)]
  refine ACall.enter (rs:=[.cell 8 29,.tmp 9]) 35 [(0,.agg #[.int .i64 x.d.size,.slice pe x.d.ext.length ce,.slice pw x.d.waits.length cw,.int .i64 x.d.fuse,.bool x.d.down,.slice pf x.fr.length cf,.int .u64 x.tick,.int .u64 x.reads,.int .u64 x.writes]),(1,.int .i64 i),(2,.int .i64 g),(3,.string t)] Tryz.func12 rfl rfl (Nat.le_of_ble_eq_true rfl) rfl ⟨rfl,rfl,rfl,rfl,trivial⟩ ?_
  refine k_a ?_
  refine k_b9 rfl ?_
  intro b4 f4
  have g4:=f4
  repeat ((with_reducible replace g4:=fresh_set g4);obtain ⟨g4,_⟩:=g4)
  try simp only [k_l1,k_l0,k_za,Nat.reduceAdd]
  refine ARun.alloc (lit_lt rfl) ty_zero_29 ?_
  intro b8 f8
  have g8:=f8
  repeat ((with_reducible replace g8:=fresh_set g8);obtain ⟨g8,_⟩:=g8)
  try simp only [k_l1,k_l0,k_za,Nat.reduceAdd]
  refine k_e rfl (k_a ?_)
  refine k_9 ty_agg_29 ty_size_29 rfl ?_
  refine ARun.call (lit_lt rfl) go_30 rfl ((hopen.frame f4).frame f8) ?_
  rintro _ S1 ⟨Sa,⟨T,⟨a,rfl,hST,hpa⟩,fa,hSa⟩,fb,h1⟩
  rw [h1,hSa];rw [hSa] at fb;clear h1 S1 hSa Sa
  obtain ⟨fbm,_⟩:=fresh_set fb
  refine k_m rfl ?_
  refine rC (Calm.extract rfl rfl) ?_
  refine rC (Calm.extract rfl rfl) ?_
  refine k_s rfl (k_e rfl ?_)
  refine k_u [(0,_),(1,_),(2,_),(3,_),(4,_),(8,_),(9,_),(10,_),(11,_)] ?_
  refine AWP.seq (k_a (k_m rfl ?_))
  refine rC (Calm.bin rfl rfl b_eql) ?_
  refine k_n ?_
  refine k_u [(0,_),(1,_),(2,_),(3,_),(4,_),(8,_),(9,_),(10,_),(11,_),(18,_)] ?_
  refine k_F rfl ?_
  refine k_k (AWP.seq (k_a (k_m rfl ?_)))
  refine rC (Calm.bin rfl rfl b_eql) ?_
  refine k_n ?_
  refine k_u [(0,_),(1,_),(2,_),(3,_),(4,_),(8,_),(9,_),(10,_),(11,_),(18,_),(26,_)] ?_
  refine k_F rfl ?_
  refine k_k (k_a (k_m rfl ?_))
  refine ARun.call (lit_lt rfl) go_31 rfl ((((pl_plainP hpa).frame fa).frame fb)) ?_
  rintro _ S1 ⟨Sa,⟨Sb,⟨hpl,hSb⟩,_,hSa⟩,_,h1⟩
  rw [h1,hSa,hSb];clear h1 S1
  obtain ⟨qe,de,qw,dw,qf,df,rfl,hE2,hW2,hF2⟩:=id hpl
  refine k_m rfl ?_
  first|refine k_A rfl rfl ty_size_29 ?_|refine k_B rfl rfl ty_size_29 ?_
  try simp only [k_ms,k_sz,k_ss,k_za,Nat.reduceAdd]
  refine k_e rfl ?_
  refine k_u [(0,_),(1,_),(2,_),(3,_),(4,_),(8,_),(9,_),(10,_),(11,_),(18,_),(26,_)] ?_
  refine AWP.ret ?_
  refine ⟨_,T,⟨_,_,_,rfl,.inr ⟨ty_agg_29,[_,_,_,_,_,_,_,_,_],ty_size_29,rds_,rfl⟩,⟨_,_,rfl,rfl,rfl⟩,rfl⟩,less_,?_⟩
  exact ⟨_,rfl,hST,hpl⟩
 ·rw [if_neg (show ¬ (10:Int)=0 from by decide)]
  refine ACall.enter (rs:=[.cell 8 29,.tmp 9]) 35 [(0,.agg #[.int .i64 x.d.size,.slice pe x.d.ext.length ce,.slice pw x.d.waits.length cw,.int .i64 x.d.fuse,.bool x.d.down,.slice pf x.fr.length cf,.int .u64 x.tick,.int .u64 x.reads,.int .u64 x.writes]),(1,.int .i64 i),(2,.int .i64 g),(3,.string t)] Tryz.func12 rfl rfl (Nat.le_of_ble_eq_true rfl) rfl ⟨rfl,rfl,rfl,rfl,trivial⟩ ?_
  refine k_a ?_
  refine k_b9 rfl ?_
  intro b4 f4
  have g4:=f4
  repeat ((with_reducible replace g4:=fresh_set g4);obtain ⟨g4,_⟩:=g4)
  try simp only [k_l1,k_l0,k_za,Nat.reduceAdd]
  refine ARun.alloc (lit_lt rfl) ty_zero_29 ?_
  intro b8 f8
  have g8:=f8
  repeat ((with_reducible replace g8:=fresh_set g8);obtain ⟨g8,_⟩:=g8)
  try simp only [k_l1,k_l0,k_za,Nat.reduceAdd]
  refine k_e rfl (k_a ?_)
  refine k_9 ty_agg_29 ty_size_29 rfl ?_
  refine ARun.call (lit_lt rfl) go_30 rfl ((hopen.frame f4).frame f8) ?_
  rintro _ S1 ⟨Sa,⟨T,⟨a,rfl,hST,hpa⟩,fa,hSa⟩,fb,h1⟩
  rw [h1,hSa];rw [hSa] at fb;clear h1 S1 hSa Sa
  obtain ⟨fbm,_⟩:=fresh_set fb
  refine k_m rfl ?_
  refine rC (Calm.extract rfl rfl) ?_
  refine rC (Calm.extract rfl rfl) ?_
  refine k_s rfl (k_e rfl ?_)
  refine k_u [(0,_),(1,_),(2,_),(3,_),(4,_),(8,_),(9,_),(10,_),(11,_)] ?_
  refine AWP.seq (k_a (k_m rfl ?_))
  refine rC (Calm.bin rfl rfl b_eql) ?_
  refine k_n ?_
  refine k_u [(0,_),(1,_),(2,_),(3,_),(4,_),(8,_),(9,_),(10,_),(11,_),(18,_)] ?_
  refine k_F rfl ?_
  refine k_k (AWP.seq (k_a (k_m rfl ?_)))
  refine rC (Calm.bin rfl rfl b_eql) ?_
  refine k_n ?_
  refine k_u [(0,_),(1,_),(2,_),(3,_),(4,_),(8,_),(9,_),(10,_),(11,_),(18,_),(26,_)] ?_
  refine k_F rfl ?_
  refine k_k (k_a (k_m rfl ?_))
  refine ARun.call (lit_lt rfl) go_31 rfl ((((pl_plainP hpa).frame fa).frame fb)) ?_
  rintro _ S1 ⟨Sa,⟨Sb,⟨hpl,hSb⟩,_,hSa⟩,_,h1⟩
  rw [h1,hSa,hSb];clear h1 S1
  obtain ⟨qe,de,qw,dw,qf,df,rfl,hE2,hW2,hF2⟩:=id hpl
  refine k_m rfl ?_
  first|refine k_A rfl rfl ty_size_29 ?_|refine k_B rfl rfl ty_size_29 ?_
  try simp only [k_ms,k_sz,k_ss,k_za,Nat.reduceAdd]
  refine k_e rfl ?_
  refine k_u [(0,_),(1,_),(2,_),(3,_),(4,_),(8,_),(9,_),(10,_),(11,_),(18,_),(26,_)] ?_
  refine AWP.ret ?_
  refine ⟨_,T,⟨_,_,_,rfl,.inr ⟨ty_agg_29,[_,_,_,_,_,_,_,_,_],ty_size_29,rds_,rfl⟩,⟨_,_,rfl,rfl,rfl⟩,rfl⟩,less_,?_⟩
  exact ⟨_,rfl,hST,hpl⟩
 ·rw [if_pos rfl]
  have hw:=right_PW hR hz hdn
  have hyes:=hyes hR
  rw [if_neg (show ¬ x.d.down=true from by rw [hdn];simp)] at hyes
  unfold fillP
  by_cases q:pinnedP x i g t.size=0
  ·obtain ⟨h0,h1,hg0,hg1,hg2,hpn⟩:=pinned0 q
   obtain ⟨j,rfl⟩ : ∃ j:Nat,i=(j:Int):=⟨_,(Int.toNat_of_nonneg h0).symm⟩
   have hj:j<x.fr.length:=by omega
   rw [Int.toNat_natCast] at hpn
   rw [if_pos q,Int.toNat_natCast]
   have h64:=pins_data hR hj hpn
   refine ACall.enter (rs:=[.cell 8 29,.tmp 9]) 35 [(0,.agg #[.int .i64 x.d.size,.slice pe x.d.ext.length ce,.slice pw x.d.waits.length cw,.int .i64 x.d.fuse,.bool x.d.down,.slice pf x.fr.length cf,.int .u64 x.tick,.int .u64 x.reads,.int .u64 x.writes]),(1,.int .i64 (j:Nat)),(2,.int .i64 g),(3,.string t)] Tryz.func12 rfl rfl (Nat.le_of_ble_eq_true rfl) rfl ⟨rfl,rfl,rfl,rfl,trivial⟩ ?_
   refine k_a ?_
   refine k_b9 rfl ?_
   intro b4 f4
   have g4:=f4
   repeat ((with_reducible replace g4:=fresh_set g4);obtain ⟨g4,_⟩:=g4)
   try simp only [k_l1,k_l0,k_za,Nat.reduceAdd]
   refine ARun.alloc (lit_lt rfl) ty_zero_29 ?_
   intro b8 f8
   have g8:=f8
   repeat ((with_reducible replace g8:=fresh_set g8);obtain ⟨g8,_⟩:=g8)
   try simp only [k_l1,k_l0,k_za,Nat.reduceAdd]
   refine k_e rfl (k_a ?_)
   refine k_9 ty_agg_29 ty_size_29 rfl ?_
   refine ARun.call (lit_lt rfl) go_30 rfl ((hyes.frame f4).frame f8) ?_
   rintro _ S1 ⟨Sa,⟨T,⟨a,p,b,c,oE,oW,rfl,hok,hT⟩,fa,hSa⟩,fb,h1⟩
   rw [h1,hSa];rw [hSa] at fb;clear h1 S1 hSa Sa
   rw [hT] at fa fb ⊢;clear hT T
   refine k_m rfl ?_
   refine rC (Calm.extract rfl rfl) ?_
   refine rC (Calm.extract rfl rfl) ?_
   refine k_s rfl (k_e rfl ?_)
   refine k_u [(0,_),(1,_),(2,_),(3,_),(4,_),(8,_),(9,_),(10,_),(11,_)] ?_
   refine AWP.seq (k_a (k_m rfl ?_))
   refine rC (Calm.bin rfl rfl b_eql) ?_
   refine k_n ?_
   refine k_u [(0,_),(1,_),(2,_),(3,_),(4,_),(8,_),(9,_),(10,_),(11,_),(18,_)] ?_
   refine k_T rfl ?_
   refine AWP.region ?_
   refine k_m rfl (k_m rfl (k_m rfl (k_m rfl ?_)))
   refine rC (Calm.lenStr (strT_spec ty_str_9) rfl) ?_
   refine ARun.call (lit_lt rfl) go_40 rfl (((pl_pinned a p b c x (j:Nat) g t.size 0 _ ar_own (ar_sl hok.ab hok.l hw.l2) hw.l2 (by omega)).frame fa).frame fb) ?_
   rintro _ S1 ⟨Sa,⟨Sb,⟨rfl,hSb⟩,_,hSa⟩,_,h1⟩
   rw [h1,hSa,hSb,q];clear h1 S1
   refine k_e rfl ?_
   refine k_u [(0,_),(1,_),(2,_),(3,_),(4,_),(8,_),(9,_),(10,_),(11,_),(18,_)] ?_
   refine AWP.seq (k_a (k_m rfl ?_))
   refine rC (Calm.bin rfl rfl b_eql) ?_
   refine k_n ?_
   refine k_u [(0,_),(1,_),(2,_),(3,_),(4,_),(8,_),(9,_),(10,_),(11,_),(18,_),(26,_)] ?_
   refine k_T rfl ?_
   refine AWP.region ?_
   refine k_m rfl (k_m rfl (k_m rfl (k_m rfl ?_)))
   refine ARun.call (lit_lt rfl) go_42 rfl (((pl_FillA a p b c x j g t 0 S oE oW hok hw hj h64 hg0 (by omega)).frame fa).frame fb) ?_
   rintro _ S1 ⟨Sa,⟨T,⟨rfl,hA⟩,fc,hSa⟩,fd,h1⟩
   rw [h1,hSa];rw [hSa] at fd;clear h1 S1 hSa Sa
   obtain ⟨fdm,_⟩:=fresh_set fd
   obtain ⟨hST,hpa⟩:=arS_end hA (hw.lw.like rfl (by unfold setP;simp))
   refine k_n ?_
   refine k_u [(0,_),(1,_),(2,_),(3,_),(4,_),(8,_),(9,_),(10,_),(11,_),(18,_),(26,_)] ?_
   refine k_a (k_m rfl ?_)
   refine ARun.call (lit_lt rfl) go_31 rfl ((((pl_plainP hpa).frame fc).frame fd)) ?_
   rintro _ S1 ⟨Sa,⟨Sb,⟨hpl,hSb⟩,_,hSa⟩,_,h1⟩
   rw [h1,hSa,hSb];clear h1 S1
   obtain ⟨qe,de,qw,dw,qf,df,rfl,hE2,hW2,hF2⟩:=id hpl
   refine k_m rfl ?_
   first|refine k_A rfl rfl ty_size_29 ?_|refine k_B rfl rfl ty_size_29 ?_
   try simp only [k_ms,k_sz,k_ss,k_za,Nat.reduceAdd]
   refine k_e rfl ?_
   refine k_u [(0,_),(1,_),(2,_),(3,_),(4,_),(8,_),(9,_),(10,_),(11,_),(18,_),(26,_)] ?_
   refine AWP.ret ?_
   refine ⟨_,T,⟨_,_,_,rfl,.inr ⟨ty_agg_29,[_,_,_,_,_,_,_,_,_],ty_size_29,rds_,rfl⟩,⟨_,_,rfl,rfl,rfl⟩,rfl⟩,less_,?_⟩
   exact ⟨_,rfl,hST,hpl⟩
  ·rw [if_neg q]
   refine ACall.enter (rs:=[.cell 8 29,.tmp 9]) 35 [(0,.agg #[.int .i64 x.d.size,.slice pe x.d.ext.length ce,.slice pw x.d.waits.length cw,.int .i64 x.d.fuse,.bool x.d.down,.slice pf x.fr.length cf,.int .u64 x.tick,.int .u64 x.reads,.int .u64 x.writes]),(1,.int .i64 i),(2,.int .i64 g),(3,.string t)] Tryz.func12 rfl rfl (Nat.le_of_ble_eq_true rfl) rfl ⟨rfl,rfl,rfl,rfl,trivial⟩ ?_
   refine k_a ?_
   refine k_b9 rfl ?_
   intro b4 f4
   have g4:=f4
   repeat ((with_reducible replace g4:=fresh_set g4);obtain ⟨g4,_⟩:=g4)
   try simp only [k_l1,k_l0,k_za,Nat.reduceAdd]
   refine ARun.alloc (lit_lt rfl) ty_zero_29 ?_
   intro b8 f8
   have g8:=f8
   repeat ((with_reducible replace g8:=fresh_set g8);obtain ⟨g8,_⟩:=g8)
   try simp only [k_l1,k_l0,k_za,Nat.reduceAdd]
   refine k_e rfl (k_a ?_)
   refine k_9 ty_agg_29 ty_size_29 rfl ?_
   refine ARun.call (lit_lt rfl) go_30 rfl ((hyes.frame f4).frame f8) ?_
   rintro _ S1 ⟨Sa,⟨T,⟨a,p,b,c,oE,oW,rfl,hok,hT⟩,fa,hSa⟩,fb,h1⟩
   rw [h1,hSa];rw [hSa] at fb;clear h1 S1 hSa Sa
   have hA:T.own a=some (arB p b c x 0):=by rw [hT];exact ar_own
   have hF2:Sl 7 frF T (.slice (some ⟨b,0,none⟩) x.fr.length c) x.fr:=by rw [hT];exact ar_sl hok.ab hok.l hw.l2
   have hST:S.Less T:=by rw [hT];exact hok.less 0
   have hpa:PlA T a x:=by rw [hT];exact hok.plA hw.lw 0
   clear hT
   obtain ⟨fbm,_⟩:=fresh_set fb
   refine k_m rfl ?_
   refine rC (Calm.extract rfl rfl) ?_
   refine rC (Calm.extract rfl rfl) ?_
   refine k_s rfl (k_e rfl ?_)
   refine k_u [(0,_),(1,_),(2,_),(3,_),(4,_),(8,_),(9,_),(10,_),(11,_)] ?_
   refine AWP.seq (k_a (k_m rfl ?_))
   refine rC (Calm.bin rfl rfl b_eql) ?_
   refine k_n ?_
   refine k_u [(0,_),(1,_),(2,_),(3,_),(4,_),(8,_),(9,_),(10,_),(11,_),(18,_)] ?_
   refine k_T rfl ?_
   refine AWP.region ?_
   refine k_m rfl (k_m rfl (k_m rfl (k_m rfl ?_)))
   refine rC (Calm.lenStr (strT_spec ty_str_9) rfl) ?_
   refine ARun.call (lit_lt rfl) go_40 rfl (((pl_pinned a p b c x i g t.size 0 _ hA hF2 hw.l2 (by omega)).frame fa).frame fb) ?_
   rintro _ S1 ⟨Sa,⟨Sb,⟨rfl,hSb⟩,_,hSa⟩,_,h1⟩
   rw [h1,hSa,hSb];clear h1 S1
   refine k_e rfl ?_
   refine k_u [(0,_),(1,_),(2,_),(3,_),(4,_),(8,_),(9,_),(10,_),(11,_),(18,_)] ?_
   refine AWP.seq (k_a (k_m rfl ?_))
   refine rC (Calm.bin rfl rfl (bin_bool (bin_eql _ _) (decide_eq_false q))) ?_
   refine k_n ?_
   refine k_u [(0,_),(1,_),(2,_),(3,_),(4,_),(8,_),(9,_),(10,_),(11,_),(18,_),(26,_)] ?_
   refine k_F rfl ?_
   refine k_k (k_a (k_m rfl ?_))
   refine ARun.call (lit_lt rfl) go_31 rfl ((((pl_plainP hpa).frame fa).frame fb)) ?_
   rintro _ S1 ⟨Sa,⟨Sb,⟨hpl,hSb⟩,_,hSa⟩,_,h1⟩
   rw [h1,hSa,hSb];clear h1 S1
   obtain ⟨qe,de,qw,dw,qf,df,rfl,hE3,hW3,hF3⟩:=id hpl
   refine k_m rfl ?_
   first|refine k_A rfl rfl ty_size_29 ?_|refine k_B rfl rfl ty_size_29 ?_
   try simp only [k_ms,k_sz,k_ss,k_za,Nat.reduceAdd]
   refine k_e rfl ?_
   refine k_u [(0,_),(1,_),(2,_),(3,_),(4,_),(8,_),(9,_),(10,_),(11,_),(18,_),(26,_)] ?_
   refine AWP.ret ?_
   refine ⟨_,T,⟨_,_,_,rfl,.inr ⟨ty_agg_29,[_,_,_,_,_,_,_,_,_],ty_size_29,rds_,rfl⟩,⟨_,_,rfl,rfl,rfl⟩,rfl⟩,less_,?_⟩
   exact ⟨_,rfl,hST,hpl⟩
end Go.Proofs.YtkeiphkccnfhoaaGreat
namespace Go.Proofs.YtkeiphkccnfhoaaGreat
open Go.RowKit
open Mv Disk
set_option maxRecDepth 4000
set_option maxHeartbeats 8000000 in
theorem pl_each (v vl : Value) (x : Pl) (l : List Int) (S : Mem) (hp : PlR S v x) (hz : Dz x.d) (hl : Sl 1 i64s S vl l) (f : FuncId) (hgo : goFn Tryz.prog f = true) (g : Pl → Int → Pl × Int)
  (hdo:∀ (S:Mem) a p b c y i k oE oW,OkA S a p b c y oE oW→PW y→ACall Tryz.prog f #[.pointer (some ⟨a,0,none⟩),.int .i64 i] (arM (devM S p y.d oE oW) a p b c y k) (ArR S a p b c (g y i)))
  (hpw:∀ y i,PW y→(g y i).2=0→PW (g y i).1) :
  ACall Tryz.prog 38 #[v,vl,.func (.func f) #[] #[]] S (PlRes (openedP x (eachP g x x l)) S):=by
 have hopen:=fun S h=>pl_OpenA v x S h hz
 have hyes:=fun h=>pl_OpenYes v x S hp hz h
 obtain ⟨pe,ce,pw,cw,pf,cf,rfl,hE,hW,hF⟩:=id hp
 obtain ⟨pl,cl,rfl,hl1,hl2,hl3⟩:=id hl
 unfold openedP
 obtain ⟨r3,hr3⟩ : ∃ r:Blk,r=⟨29,[.int .i64 x.d.size,.slice pe x.d.ext.length ce,.slice pw x.d.waits.length cw,.int .i64 x.d.fuse,.bool x.d.down,.slice pf x.fr.length cf,.int .u64 x.tick,.int .u64 x.reads,.int .u64 x.writes],9⟩:=⟨_,rfl⟩
 obtain ⟨r6,hr6⟩ : ∃ r:Blk,r=⟨29,[.int .i64 0,.slice none 0 0,.slice none 0 0,.int .i64 0,.bool false,.slice none 0 0,.int .u64 0,.int .u64 0,.int .u64 0],9⟩:=⟨_,rfl⟩
 rcases openP_or x with ⟨ho,hR⟩ | ⟨ho,hR,hdn⟩ | ⟨ho,hR,hdn⟩ <;> rw [ho] at hopen ⊢
 ·rw [if_neg (show ¬ (2:Int)=0 from by decide)]
  refine ACall.enter (rs:=[.cell 6 29,.tmp 7]) 48 [(0,.agg #[.int .i64 x.d.size,.slice pe x.d.ext.length ce,.slice pw x.d.waits.length cw,.int .i64 x.d.fuse,.bool x.d.down,.slice pf x.fr.length cf,.int .u64 x.tick,.int .u64 x.reads,.int .u64 x.writes]),(1,.slice pl l.length cl),(2,.func (.func f) #[] #[])] Tryz.func38 rfl rfl (Nat.le_of_ble_eq_true rfl) rfl ⟨rfl,rfl,rfl,trivial⟩ ?_
  refine k_a ?_
  refine k_b9 rfl ?_
  intro b3 f3
  have g3:=f3
  repeat ((with_reducible replace g3:=fresh_set g3);obtain ⟨g3,_⟩:=g3)
  try simp only [k_l1,k_l0,k_za,Nat.reduceAdd]
  refine ARun.alloc (lit_lt rfl) ty_zero_29 ?_
  intro b6 f6
  have g6:=f6
  repeat ((with_reducible replace g6:=fresh_set g6);obtain ⟨g6,_⟩:=g6)
  try simp only [k_l1,k_l0,k_za,Nat.reduceAdd]
  refine k_e rfl (k_a ?_)
  refine k_9 ty_agg_29 ty_size_29 rfl ?_
  refine ARun.call (lit_lt rfl) go_30 rfl (((hopen S hp).frame f3).frame f6) ?_
  rintro _ S1 ⟨Sa,⟨T,⟨a,rfl,hST,hpa⟩,fa,hSa⟩,fb,h1⟩
  rw [h1,hSa];rw [hSa] at fb;clear h1 S1 hSa Sa
  obtain ⟨fbm,_⟩:=fresh_set fb
  refine k_m rfl ?_
  refine rC (Calm.extract rfl rfl) ?_
  refine rC (Calm.extract rfl rfl) ?_
  refine k_s rfl (k_e rfl ?_)
  refine k_u [(0,_),(1,_),(2,_),(3,_),(6,_),(7,_),(8,_),(9,_)] ?_
  refine AWP.seq (k_a (k_m rfl ?_))
  refine rC (Calm.bin rfl rfl b_neq) ?_
  refine k_n ?_
  refine k_u [(0,_),(1,_),(2,_),(3,_),(6,_),(7,_),(8,_),(9,_),(21,_)] ?_
  refine k_T rfl ?_
  refine k_a (k_m rfl ?_)
  refine ARun.call (lit_lt rfl) go_31 rfl ((((pl_plainP hpa).frame fa).frame fb)) ?_
  rintro _ S1 ⟨Sa,⟨Sb,⟨hpl,hSb⟩,_,hSa⟩,_,h1⟩
  rw [h1,hSa,hSb];clear h1 S1
  obtain ⟨qe,de,qw,dw,qf,df,rfl,hE2,hW2,hF2⟩:=id hpl
  refine k_m rfl ?_
  first|refine k_A rfl rfl ty_size_29 ?_|refine k_B rfl rfl ty_size_29 ?_
  try simp only [k_ms,k_sz,k_ss,k_za,Nat.reduceAdd]
  refine k_e rfl ?_
  refine k_u [(0,_),(1,_),(2,_),(3,_),(6,_),(7,_),(8,_),(9,_),(21,_)] ?_
  refine k_r ?_
  refine ⟨_,T,⟨_,_,_,rfl,.inr ⟨ty_agg_29,[_,_,_,_,_,_,_,_,_],ty_size_29,rds_,rfl⟩,⟨_,_,rfl,rfl,rfl⟩,rfl⟩,less_,?_⟩
  exact ⟨_,rfl,hST,hpl⟩
 ·rw [if_neg (show ¬ (10:Int)=0 from by decide)]
  refine ACall.enter (rs:=[.cell 6 29,.tmp 7]) 48 [(0,.agg #[.int .i64 x.d.size,.slice pe x.d.ext.length ce,.slice pw x.d.waits.length cw,.int .i64 x.d.fuse,.bool x.d.down,.slice pf x.fr.length cf,.int .u64 x.tick,.int .u64 x.reads,.int .u64 x.writes]),(1,.slice pl l.length cl),(2,.func (.func f) #[] #[])] Tryz.func38 rfl rfl (Nat.le_of_ble_eq_true rfl) rfl ⟨rfl,rfl,rfl,trivial⟩ ?_
  refine k_a ?_
  refine k_b9 rfl ?_
  intro b3 f3
  have g3:=f3
  repeat ((with_reducible replace g3:=fresh_set g3);obtain ⟨g3,_⟩:=g3)
  try simp only [k_l1,k_l0,k_za,Nat.reduceAdd]
  refine ARun.alloc (lit_lt rfl) ty_zero_29 ?_
  intro b6 f6
  have g6:=f6
  repeat ((with_reducible replace g6:=fresh_set g6);obtain ⟨g6,_⟩:=g6)
  try simp only [k_l1,k_l0,k_za,Nat.reduceAdd]
  refine k_e rfl (k_a ?_)
  refine k_9 ty_agg_29 ty_size_29 rfl ?_
  refine ARun.call (lit_lt rfl) go_30 rfl (((hopen S hp).frame f3).frame f6) ?_
  rintro _ S1 ⟨Sa,⟨T,⟨a,rfl,hST,hpa⟩,fa,hSa⟩,fb,h1⟩
  rw [h1,hSa];rw [hSa] at fb;clear h1 S1 hSa Sa
  obtain ⟨fbm,_⟩:=fresh_set fb
  refine k_m rfl ?_
  refine rC (Calm.extract rfl rfl) ?_
  refine rC (Calm.extract rfl rfl) ?_
  refine k_s rfl (k_e rfl ?_)
  refine k_u [(0,_),(1,_),(2,_),(3,_),(6,_),(7,_),(8,_),(9,_)] ?_
  refine AWP.seq (k_a (k_m rfl ?_))
  refine rC (Calm.bin rfl rfl b_neq) ?_
  refine k_n ?_
  refine k_u [(0,_),(1,_),(2,_),(3,_),(6,_),(7,_),(8,_),(9,_),(21,_)] ?_
  refine k_T rfl ?_
  refine k_a (k_m rfl ?_)
  refine ARun.call (lit_lt rfl) go_31 rfl ((((pl_plainP hpa).frame fa).frame fb)) ?_
  rintro _ S1 ⟨Sa,⟨Sb,⟨hpl,hSb⟩,_,hSa⟩,_,h1⟩
  rw [h1,hSa,hSb];clear h1 S1
  obtain ⟨qe,de,qw,dw,qf,df,rfl,hE2,hW2,hF2⟩:=id hpl
  refine k_m rfl ?_
  first|refine k_A rfl rfl ty_size_29 ?_|refine k_B rfl rfl ty_size_29 ?_
  try simp only [k_ms,k_sz,k_ss,k_za,Nat.reduceAdd]
  refine k_e rfl ?_
  refine k_u [(0,_),(1,_),(2,_),(3,_),(6,_),(7,_),(8,_),(9,_),(21,_)] ?_
  refine k_r ?_
  refine ⟨_,T,⟨_,_,_,rfl,.inr ⟨ty_agg_29,[_,_,_,_,_,_,_,_,_],ty_size_29,rds_,rfl⟩,⟨_,_,rfl,rfl,rfl⟩,rfl⟩,less_,?_⟩
  exact ⟨_,rfl,hST,hpl⟩
 ·rw [if_pos rfl]
  have hw:=right_PW hR hz hdn
  have hyes:=hyes hR
  rw [if_neg (show ¬ x.d.down=true from by rw [hdn];simp)] at hyes
  refine ACall.enter (rs:=[.cell 6 29,.tmp 7]) 48 [(0,.agg #[.int .i64 x.d.size,.slice pe x.d.ext.length ce,.slice pw x.d.waits.length cw,.int .i64 x.d.fuse,.bool x.d.down,.slice pf x.fr.length cf,.int .u64 x.tick,.int .u64 x.reads,.int .u64 x.writes]),(1,.slice pl l.length cl),(2,.func (.func f) #[] #[])] Tryz.func38 rfl rfl (Nat.le_of_ble_eq_true rfl) rfl ⟨rfl,rfl,rfl,trivial⟩ ?_
  refine k_a ?_
  refine k_b9 rfl ?_
  intro b3 f3
  have g3:=f3
  repeat ((with_reducible replace g3:=fresh_set g3);obtain ⟨g3,_⟩:=g3)
  try simp only [k_l1,k_l0,k_za,Nat.reduceAdd]
  refine ARun.alloc (lit_lt rfl) ty_zero_29 ?_
  intro b6 f6
  have g6:=f6
  repeat ((with_reducible replace g6:=fresh_set g6);obtain ⟨g6,_⟩:=g6)
  try simp only [k_l1,k_l0,k_za,Nat.reduceAdd]
  refine k_e rfl (k_a ?_)
  refine k_9 ty_agg_29 ty_size_29 rfl ?_
  refine ARun.call (lit_lt rfl) go_30 rfl ((hyes.frame f3).frame f6) ?_
  rintro _ S1 ⟨Sa,⟨T,⟨a,p,b,c,oE,oW,rfl,hok,hT⟩,fa,hSa⟩,fb,h1⟩
  rw [h1,hSa];rw [hSa] at fb;clear h1 S1 hSa Sa
  rw [hT] at fa fb ⊢;clear hT T
  rw [← hr3,← hr6]
  rw [← hr3] at fb
  refine k_m rfl ?_
  refine rC (Calm.extract rfl rfl) ?_
  refine rC (Calm.extract rfl rfl) ?_
  refine k_s rfl (k_e rfl ?_)
  refine k_u [(0,_),(1,_),(2,_),(3,_),(6,_),(7,_),(8,_),(9,_)] ?_
  refine AWP.seq (k_a (k_m rfl ?_))
  refine rC (Calm.bin rfl rfl b_neq) ?_
  refine k_n ?_
  refine k_u [(0,_),(1,_),(2,_),(3,_),(6,_),(7,_),(8,_),(9,_),(21,_)] ?_
  refine k_F rfl ?_
  refine k_k (AWP.seq (k_a (k_m rfl ?_)))
  refine rC (Calm.lenSl Tryz.underlying30 rfl) ?_
  refine k_m rfl (k_n ?_)
  refine AWP.block ?_
  refine AWP.loop (X:=Nat × Pl × Int × Option (Nat × Nat) × Option (Nat × Nat)) (fun z=>[(2,.func (.func f) #[] #[]),(3,.pointer (some ⟨b3,0,none⟩)),(6,.pointer (some ⟨b6,0,none⟩)),(8,.pointer (some ⟨a,0,none⟩)),(25,.slice pl l.length cl),(26,.int .i64 l.length),(27,.int .i64 z.1)]) (fun z=>((arM (devM S p z.2.1.d z.2.2.2.1 z.2.2.2.2) a p b c z.2.1 z.2.2.1).set b3 r3).set b6 r6) (fun z=>z.1≤l.length∧PW z.2.1∧OkA S a p b c z.2.1 z.2.2.2.1 z.2.2.2.2∧(Fresh (arM (devM S p z.2.1.d z.2.2.2.1 z.2.2.2.2) a p b c z.2.1 z.2.2.1) b3∧Fresh ((arM (devM S p z.2.1.d z.2.2.2.1 z.2.2.2.2) a p b c z.2.1 z.2.2.1).set b3 r3) b6)∧eachP g x x l=eachP g x z.2.1 (l.drop z.1)) (fun z=>l.length-z.1) ((0,x,0,oE,oW)) ⟨rfl,rfl,rfl,rfl,rfl,rfl,rfl,trivial⟩ (Mem.Less.refl _) (⟨Nat.zero_le _,hw,hok,⟨fa,fb⟩,by rw [List.drop_zero]⟩) ?_
  rintro ⟨i,y,k',oE',oW'⟩ ⟨hi,hwy,hoky,⟨fa',fb'⟩,heq⟩
  (try dsimp only at *)
  clear hok fa fb
  have hSy:=hoky.less k'
  have hpy:=hoky.plA hwy.lw k'
  refine k_a ?_
  refine rC (Calm.bin rfl rfl b_lss) ?_
  refine k_n (AWP.seq ?_)
  refine AWP.condB rfl (fun hc=>?_) (fun hc=>?_)
  ·have hc:i<l.length:=by have:=of_decide_eq_true hc;omega
   obtain ⟨lb,off,rfl,hk⟩:=hl3.resolve_left (fun e=>by rw [e] at hc;simp at hc)
   have hki:=(hk i hc).less (hSy.trans ((Mem.less_set _ _ r3 fa'.1).trans (Mem.less_set _ _ r6 fb'.1)))
   rw [drop_get hc,eachP] at heq
   generalize l[i]=n at *
   unfold i64s at hki
   have hd:=((hdo S a p b c y n k' oE' oW' hoky hwy).frame (r:=r3) fa').frame (r:=r6) fb'
   have hq:=hpw y n hwy
   refine k_k (AWP.seq ?_)
   refine AWP.block ?_
   refine k_a ?_
   refine rC (Calm.indexS Tryz.underlying30 ty_size_3 rfl rfl (by omega) (by omega)) ?_
   refine rC (ld_ ty_plain_3 rfl) ?_
   refine k_e rfl ?_
   refine k_u [(2,_),(3,_),(6,_),(8,_),(25,_),(26,_),(27,_),(28,_),(11,_)] ?_
   refine k_a (k_m rfl (k_m rfl (k_m rfl ?_)))
   refine ARun.callV (first:=[]) (cap:=[]) (lit_lt rfl) hgo rfl rfl hd ?_
   rintro _ S1 ⟨Sa,⟨T,⟨rfl,k2,oE2,oW2,hok2,hT⟩,fc,hSa⟩,fd,h1⟩
   rw [h1,hSa];rw [hSa] at fd;clear h1 S1 hSa Sa
   rw [hT] at fc fd ⊢;clear hT T
   generalize g y n=u at *
   refine k_e rfl ?_
   refine k_u [(2,_),(3,_),(6,_),(8,_),(25,_),(26,_),(27,_),(28,_),(11,_),(12,_)] ?_
   by_cases e0:u.2=0
   ·rw [if_pos e0] at heq
    refine k_a (k_m rfl ?_)
    refine rC (Calm.bin rfl rfl b_neq) ?_
    refine k_n ?_
    refine k_u [(2,_),(3,_),(6,_),(8,_),(25,_),(26,_),(27,_),(28,_),(11,_),(12,_),(36,_)] ?_
    refine k_F rfl ?_
    refine AWP.skip ?_
    refine ain_n ?_
    refine athen_n ?_
    refine AWP.region ?_
    refine rC (Calm.bin rfl rfl b_add_i64) ?_
    refine k_m rfl (k_n ?_)
    refine ⟨(i+1,u.1,k2,oE2,oW2),?_,?_,?_,?_⟩
    all_goals (try dsimp only)
    ·exact ⟨rfl,rfl,rfl,rfl,rfl,rfl,rfl,trivial⟩
    ·exact Mem.Less.refl _
    ·exact ⟨hc,hq e0,hok2,⟨fc,fd⟩,heq⟩
    ·(show l.length-(i+1)<l.length-i;omega)
   ·rw [if_neg e0] at heq
    rw [heq]
    have hS2:=hok2.less k2
    generalize arM (devM S p u.1.d oE2 oW2) a p b c u.1 k2=T2 at *
    obtain ⟨fdm,ndb⟩:=fresh_set fd
    have hl3':(T2.set b3 r3).own b3=some r3:=Mem.own_set_same _ _ _
    rw [hr3,hr6]
    refine k_a (k_m rfl ?_)
    refine rC (Calm.bin rfl rfl b_neq) ?_
    refine k_n ?_
    refine k_u [(2,_),(3,_),(6,_),(8,_),(25,_),(26,_),(27,_),(28,_),(11,_),(12,_),(36,_)] ?_
    refine k_T rfl ?_
    refine k_a ?_
    refine k_9 ty_agg_29 ty_size_29 rfl ?_
    refine ARun.call (lit_lt rfl) go_30 rfl (((hopen T2 (hp.less hS2)).frame fc).frame (by rw [← hr3];exact fd)) ?_
    rintro _ S1 ⟨Sa,⟨T3,⟨a3,rfl,hST3,hpa3⟩,fe,hSa⟩,ff,h1⟩
    rw [h1,hSa];rw [hSa] at ff;clear h1 S1 hSa Sa
    obtain ⟨ffm,_⟩:=fresh_set ff
    refine k_m rfl ?_
    refine rC (Calm.extract rfl rfl) ?_
    refine rC (Calm.extract rfl rfl) ?_
    refine k_s rfl (k_e rfl ?_)
    refine k_u [(2,_),(3,_),(6,_),(8,_),(25,_),(26,_),(27,_),(28,_),(11,_),(12,_),(36,_),(13,_)] ?_
    refine k_a (k_m rfl ?_)
    refine ARun.call (lit_lt rfl) go_31 rfl ((((pl_plainP hpa3).frame fe).frame ff)) ?_
    rintro _ S1 ⟨Sa,⟨Sb,⟨hpl,hSb⟩,_,hSa⟩,_,h1⟩
    rw [h1,hSa,hSb];clear h1 S1
    obtain ⟨qe,de,qw,dw,qf,df,rfl,hE2,hW2,hF2⟩:=id hpl
    refine k_m rfl ?_
    first|refine k_A rfl rfl ty_size_29 ?_|refine k_B rfl rfl ty_size_29 ?_
    try simp only [k_ms,k_sz,k_ss,k_za,Nat.reduceAdd]
    refine k_e rfl ?_
    refine k_u [(2,_),(3,_),(6,_),(8,_),(25,_),(26,_),(27,_),(28,_),(11,_),(12,_),(36,_),(13,_),(7,_)] ?_
    refine AWP.ret ?_
    refine ain_ret ?_
    refine athen_ret ?_
    refine athen_ret ?_
    refine ain_ret ?_
    refine athen_ret ?_
    refine ⟨_,T3,⟨_,_,_,rfl,.inr ⟨ty_agg_29,[_,_,_,_,_,_,_,_,_],ty_size_29,rds_,rfl⟩,⟨_,_,rfl,rfl,rfl⟩,rfl⟩,less_,?_⟩
    exact ⟨_,rfl,hS2.trans hST3,hpl⟩
  ·have hc:i=l.length:=by have:=of_decide_eq_false hc;omega
   rw [hc,List.drop_length,eachP] at heq
   rw [heq]
   rw [hr3] at fb'
   rw [hr3,hr6]
   obtain ⟨fdm,_⟩:=fresh_set fb'
   refine AWP.exit ?_
   refine athen_exit ?_
   refine athen_exit ?_
   refine ain_same ?_
   refine athen_n ?_
   refine k_a (k_m rfl ?_)
   refine ARun.call (lit_lt rfl) go_31 rfl ((((pl_plainP hpy).frame fa').frame fb')) ?_
   rintro _ S1 ⟨Sa,⟨Sb,⟨hpl,hSb⟩,_,hSa⟩,_,h1⟩
   rw [h1,hSa,hSb];clear h1 S1
   obtain ⟨qe,de,qw,dw,qf,df,rfl,hE2,hW2,hF2⟩:=id hpl
   generalize arM (devM S p y.d oE' oW') a p b c y k'=T2 at *
   first|refine k_A rfl rfl ty_size_29 ?_|refine k_B rfl rfl ty_size_29 ?_
   try simp only [k_ms,k_sz,k_ss,k_za,Nat.reduceAdd]
   refine k_e rfl ?_
   refine k_u [(2,_),(3,_),(6,_),(8,_),(25,_),(26,_),(27,_),(28,_),(7,_)] ?_
   refine AWP.ret ?_
   refine ⟨_,T2,⟨_,_,_,rfl,.inr ⟨ty_agg_29,[_,_,_,_,_,_,_,_,_],ty_size_29,rds_,rfl⟩,⟨_,_,rfl,rfl,rfl⟩,rfl⟩,less_,?_⟩
   exact ⟨_,rfl,hSy,hpl⟩
theorem unpin_PW (y : Pl) (i : Int) (h : PW y) (h0 : (unpin1 y i).2 = 0) : PW (unpin1 y i).1 := by
 revert h0
 unfold unpin1
 split
 ·intro h;simp at h
 ·split
  ·intro h;simp at h
  ·rename_i h1 h2
   intro _
   have hm:=h.pn _ (atF_mem (p:=y) (i:=i.toNat) (by omega))
   exact set_PW h _ (by simp only;omega) (by simp only;omega)
theorem ret_PW (y : Pl) (i : Int) (h : PW y) (h0 : (ret1 y i).2 = 0) : PW (ret1 y i).1 := by
 revert h0
 unfold ret1
 split
 ·intro h;simp at h
 ·split
  ·intro h;simp at h
  ·intro _;exact set_PW h _ (by decide) (by decide)
set_option maxHeartbeats 2000000 in
theorem pl_Unpin (v vl : Value) (x : Pl) (l : List Int) (S : Mem) (hp : PlR S v x) (hz : Dz x.d) (hl : Sl 1 i64s S vl l) :
  ACall Tryz.prog 8 #[v,vl] S (PlRes (openedP x (eachP unpin1 x x l)) S):=by
 have he:=pl_each v vl x l S hp hz hl 39 go_39 unpin1 (fun S a p b c y i k oE oW h1 h2=>pl_UnpinA a p b c y i k S oE oW h1 h2) unpin_PW
 obtain ⟨pe,ce,pw,cw,pf,cf,rfl,hE,hW,hF⟩:=id hp
 obtain ⟨pl,cl,rfl,hl1,hl2,hl3⟩:=id hl
 refine ACall.enter (rs:=[.cell 4 29,.tmp 5]) 11 [(0,.agg #[.int .i64 x.d.size,.slice pe x.d.ext.length ce,.slice pw x.d.waits.length cw,.int .i64 x.d.fuse,.bool x.d.down,.slice pf x.fr.length cf,.int .u64 x.tick,.int .u64 x.reads,.int .u64 x.writes]),(1,.slice pl l.length cl)] Tryz.func8 rfl rfl (Nat.le_of_ble_eq_true rfl) rfl ⟨rfl,rfl,trivial⟩ ?_
 refine k_a ?_
 refine k_b9 rfl ?_
 intro b2 f2
 have g2:=f2
 repeat ((with_reducible replace g2:=fresh_set g2);obtain ⟨g2,_⟩:=g2)
 try simp only [k_l1,k_l0,k_za,Nat.reduceAdd]
 refine ARun.alloc (lit_lt rfl) ty_zero_29 ?_
 intro b4 f4
 have g4:=f4
 repeat ((with_reducible replace g4:=fresh_set g4);obtain ⟨g4,_⟩:=g4)
 try simp only [k_l1,k_l0,k_za,Nat.reduceAdd]
 refine k_e rfl (k_a ?_)
 refine k_9 ty_agg_29 ty_size_29 rfl ?_
 refine k_m rfl ?_
 refine ARun.call (lit_lt rfl) go_38 rfl ((he.frame f2).frame f4) ?_
 rintro _ S1 ⟨Sa,⟨T,⟨w,rfl,hST,hpl⟩,fa,hSa⟩,fb,h1⟩
 rw [h1,hSa];rw [hSa] at fb;clear h1 S1 hSa Sa
 obtain ⟨fbm,_⟩:=fresh_set fb
 obtain ⟨qe,de,qw,dw,qf,df,rfl,hE2,hW2,hF2⟩:=id hpl
 refine rC (Calm.extract rfl rfl) ?_
 refine rC (Calm.extract rfl rfl) ?_
 first|refine k_A rfl rfl ty_size_29 ?_|refine k_B rfl rfl ty_size_29 ?_
 try simp only [k_ms,k_sz,k_ss,k_za,Nat.reduceAdd]
 refine k_e rfl ?_
 refine k_u [(0,_),(1,_),(2,_),(4,_),(5,_)] ?_
 refine AWP.ret ?_
 refine ⟨_,T,⟨_,_,_,rfl,.inr ⟨ty_agg_29,[_,_,_,_,_,_,_,_,_],ty_size_29,rds_,rfl⟩,⟨_,_,rfl,rfl,rfl⟩,rfl⟩,less_,?_⟩
 exact ⟨_,rfl,hST,hpl⟩
set_option maxHeartbeats 2000000 in
theorem pl_Return (v vl : Value) (x : Pl) (l : List Int) (S : Mem) (hp : PlR S v x) (hz : Dz x.d) (hl : Sl 1 i64s S vl l) :
  ACall Tryz.prog 20 #[v,vl] S (PlRes (openedP x (eachP ret1 x x l)) S):=by
 have he:=pl_each v vl x l S hp hz hl 58 go_58 ret1 (fun S a p b c y i k oE oW h1 h2=>pl_ReturnA a p b c y i k S oE oW h1 h2) ret_PW
 obtain ⟨pe,ce,pw,cw,pf,cf,rfl,hE,hW,hF⟩:=id hp
 obtain ⟨pl,cl,rfl,hl1,hl2,hl3⟩:=id hl
 refine ACall.enter (rs:=[.cell 4 29,.tmp 5]) 11 [(0,.agg #[.int .i64 x.d.size,.slice pe x.d.ext.length ce,.slice pw x.d.waits.length cw,.int .i64 x.d.fuse,.bool x.d.down,.slice pf x.fr.length cf,.int .u64 x.tick,.int .u64 x.reads,.int .u64 x.writes]),(1,.slice pl l.length cl)] Tryz.func20 rfl rfl (Nat.le_of_ble_eq_true rfl) rfl ⟨rfl,rfl,trivial⟩ ?_
 refine k_a ?_
 refine k_b9 rfl ?_
 intro b2 f2
 have g2:=f2
 repeat ((with_reducible replace g2:=fresh_set g2);obtain ⟨g2,_⟩:=g2)
 try simp only [k_l1,k_l0,k_za,Nat.reduceAdd]
 refine ARun.alloc (lit_lt rfl) ty_zero_29 ?_
 intro b4 f4
 have g4:=f4
 repeat ((with_reducible replace g4:=fresh_set g4);obtain ⟨g4,_⟩:=g4)
 try simp only [k_l1,k_l0,k_za,Nat.reduceAdd]
 refine k_e rfl (k_a ?_)
 refine k_9 ty_agg_29 ty_size_29 rfl ?_
 refine k_m rfl ?_
 refine ARun.call (lit_lt rfl) go_38 rfl ((he.frame f2).frame f4) ?_
 rintro _ S1 ⟨Sa,⟨T,⟨w,rfl,hST,hpl⟩,fa,hSa⟩,fb,h1⟩
 rw [h1,hSa];rw [hSa] at fb;clear h1 S1 hSa Sa
 obtain ⟨fbm,_⟩:=fresh_set fb
 obtain ⟨qe,de,qw,dw,qf,df,rfl,hE2,hW2,hF2⟩:=id hpl
 refine rC (Calm.extract rfl rfl) ?_
 refine rC (Calm.extract rfl rfl) ?_
 first|refine k_A rfl rfl ty_size_29 ?_|refine k_B rfl rfl ty_size_29 ?_
 try simp only [k_ms,k_sz,k_ss,k_za,Nat.reduceAdd]
 refine k_e rfl ?_
 refine k_u [(0,_),(1,_),(2,_),(4,_),(5,_)] ?_
 refine AWP.ret ?_
 refine ⟨_,T,⟨_,_,_,rfl,.inr ⟨ty_agg_29,[_,_,_,_,_,_,_,_,_],ty_size_29,rds_,rfl⟩,⟨_,_,rfl,rfl,rfl⟩,rfl⟩,less_,?_⟩
 exact ⟨_,rfl,hST,hpl⟩
end Go.Proofs.YtkeiphkccnfhoaaGreat
namespace Go.Proofs.YtkeiphkccnfhoaaGreat
open Go.RowKit
open Mv Disk
set_option maxRecDepth 4000
theorem made_fr (n : Nat) : madeL (frF F0) (n * 7) = (List.replicate n F0).flatMap frF := by
 have hl:((List.replicate n F0).flatMap frF).length=n*7:=by rw [flat_length fr_len];simp
 refine List.ext_getElem? fun j=>?_
 by_cases hj:j<n*7
 ·have hi:j / 7<(List.replicate n F0).length:=by rw [List.length_replicate];omega
  have hr:j % 7<(frF F0).length:=Nat.mod_lt _ (by decide)
  have h:=flat_get fr_len (List.replicate n F0) (j / 7) hi (j % 7) _ (by rw [List.getElem_replicate];exact List.getElem?_eq_getElem hr)
  rw [show j / 7*7+j % 7=j from by omega] at h
  rw [h,List.getElem?_eq_getElem (by rw [madeL_length];exact hj)]
  congr 1
  have h7:(frF F0).toArray.size=7:=rfl
  have:(madeL (frF F0) (n*7))[j]'(by rw [madeL_length];exact hj)=(frF F0).toArray[j % 7]!:=by
   unfold madeL madeCells
   simp [h7]
  rw [this]
  have hr7:j % 7<7:=Nat.mod_lt _ (by decide)
  generalize j % 7=q at *
  match q,hr7 with
  | 0,_=>rfl
  | 1,_=>rfl
  | 2,_=>rfl
  | 3,_=>rfl
  | 4,_=>rfl
  | 5,_=>rfl
  | 6,_=>rfl
 ·rw [List.getElem?_eq_none (by rw [madeL_length];omega),List.getElem?_eq_none (by omega)]
def newP (d : D) (n : Nat) : Pl := ⟨d, List.replicate n F0, 0, 0, 0⟩
theorem newP_len (d : D) (n : Nat) : (newP d n).fr.length = n := by unfold newP; simp
theorem pl_Over (p n : Nat) (d : D) (T : Mem) (h0 : 1 ≤ n) (h1 : n ≤ 256) :
  ACall Tryz.prog 75 #[.pointer (some ⟨p,0,none⟩),.int .i64 (n:Nat)] T fun r S'=>∃ a b,r = .pointer (some ⟨a,0,none⟩)∧Fresh T b∧Fresh T a∧a≠b∧S'=arM T a p b n (newP d n) 0:=by
 refine ACall.enter (rs:=[.tmp 4]) 10 [(0,.pointer (some ⟨p,0,none⟩)),(1,.int .i64 (n:Nat))] Tryz.func75 rfl rfl (Nat.le_of_ble_eq_true rfl) rfl ⟨rfl,rfl,trivial⟩ ?_
 refine k_a (k_e rfl (k_a (k_m rfl (k_m rfl ?_))))
 refine ARun.makeSlice (lit_lt rfl) ty_sl_26 rfl rfl (by omega) (by omega) (by omega) (by omega) ?_
 intro b7 f7
 have g7:=f7
 repeat ((with_reducible replace g7:=fresh_set g7);obtain ⟨g7,_⟩:=g7)
 refine rC (Calm.build (cs:=[_,_,_,_,_,_]) ty_bld_93 rfl rfl) ?_
 refine ARun.boxA (cs:=[_,_,_,_,_,_]) (lit_lt rfl) rfl ?_
 intro b9 f9
 have g9:=f9
 repeat ((with_reducible replace g9:=fresh_set g9);obtain ⟨g9,_⟩:=g9)
 try simp only [k_l1,k_l0,k_za,Nat.reduceAdd]
 refine k_e rfl ?_
 refine k_u [(0,_),(1,_),(4,_)] ?_
 refine AWP.ret ?_
 refine ⟨_,arM T b9 p b7 n (newP d n) 0,⟨_,_,rfl,rfl,rfl⟩,less_eq (by unfold arM arB frB;rw [newP_len,show (newP d n).fr.flatMap frF=madeL (frF F0) (n*7) from (made_fr n).symm];rfl),?_⟩
 exact ⟨b9,b7,rfl,f7,(fresh_set f9).1,(fresh_set f9).2,rfl⟩
noncomputable def makeP (d : D) (n : Int) : Pl × Int := if chkD d = 0 then (if n < 1 ∨ 256 < n then (P0, 1) else (newP d n.toNat, 0)) else (P0, 2)
theorem zero_plR (S : Mem) : PlR S (.agg #[.int .i64 0, .slice none 0 0, .slice none 0 0, .int .i64 0, .bool false, .slice none 0 0, .int .u64 0, .int .u64 0, .int .u64 0]) P0 := ⟨none, 0, none, 0, none, 0, rfl, Sl.nil _ _ _, Sl.nil _ _ _, Sl.nil _ _ _⟩
set_option maxHeartbeats 2000000 in
theorem pl_Make (v : Value) (d : D) (n : Int) (S : Mem) (hd : DkR S v d) (hz : Dz d) :
  ACall Tryz.prog 45 #[v,.int .i64 n] S (PlRes (makeP d n) S):=by
 have hck:=fun M h=>disk_Check v d M h hz
 have hown:=disk_Own v d S hd hz.el hz.wl
 obtain ⟨pe,ce,pw,cw,rfl,hE,hW⟩:=id hd
 unfold makeP
 rcases chkD_or d with ⟨hk,hR⟩ | ⟨hk,hR⟩
 ·rw [if_pos hk]
  by_cases q1:n<1
  ·rw [if_pos (.inl q1)]
   refine ACall.enter (rs:=[.cell 4 29,.tmp 5]) 27 [(0,.agg #[.int .i64 d.size,.slice pe d.ext.length ce,.slice pw d.waits.length cw,.int .i64 d.fuse,.bool d.down]),(1,.int .i64 n)] Tryz.func45 rfl rfl (Nat.le_of_ble_eq_true rfl) rfl ⟨rfl,rfl,trivial⟩ ?_
   refine k_a ?_
   refine k_b5 rfl ?_
   intro b2 f2
   have g2:=f2
   repeat ((with_reducible replace g2:=fresh_set g2);obtain ⟨g2,_⟩:=g2)
   try simp only [k_l1,k_l0,k_za,Nat.reduceAdd]
   refine ARun.alloc (lit_lt rfl) ty_zero_29 ?_
   intro b4 f4
   have g4:=f4
   repeat ((with_reducible replace g4:=fresh_set g4);obtain ⟨g4,_⟩:=g4)
   try simp only [k_l1,k_l0,k_za,Nat.reduceAdd]
   refine k_e rfl (AWP.seq (k_a ?_))
   refine k_5 ty_agg_25 ty_size_25 rfl ?_
   refine ARun.call (lit_lt rfl) go_48 rfl (hck _ (hd.less less_)) ?_
   rintro _ S1 ⟨rfl,h1⟩
   rw [h1,hk];clear h1 S1
   refine k_e rfl ?_
   refine k_u [(0,_),(1,_),(2,_),(4,_),(5,_),(6,_)] ?_
   refine k_a (k_m rfl ?_)
   refine rC (Calm.bin rfl rfl b_neq) ?_
   refine k_n ?_
   refine k_u [(0,_),(1,_),(2,_),(4,_),(5,_),(6,_),(10,_)] ?_
   refine k_F rfl ?_
   refine k_k (AWP.seq (k_a (k_m rfl ?_)))
   refine rC (Calm.bin rfl rfl (bin_bool (bin_lss _ _) (decide_eq_true q1))) ?_
   refine k_m rfl ?_
   first|refine k_q 15 ?_|refine rG 15 (Calm.move rfl) ?_
   first|refine k_q 15 ?_|refine rG 15 (Calm.bin rfl rfl b_gtr) ?_
   first|refine k_t rfl rfl ?_|refine k_f rfl rfl ?_
   refine k_n ?_
   refine k_u [(0,_),(1,_),(2,_),(4,_),(5,_),(6,_),(10,_),(18,_)] ?_
   refine k_T rfl ?_
   refine k_a ?_
   refine rC (Calm.build (cs:=[_,_,_,_,_,_,_,_,_]) ty_bld_29 rfl rfl) ?_
   first|refine k_A rfl rfl ty_size_29 ?_|refine k_B rfl rfl ty_size_29 ?_
   try simp only [k_ms,k_sz,k_ss,k_za,Nat.reduceAdd]
   refine k_e rfl ?_
   refine k_u [(0,_),(1,_),(2,_),(4,_),(5,_),(6,_),(10,_),(18,_)] ?_
   refine k_r ?_
   refine ⟨_,S,⟨_,_,_,rfl,.inr ⟨ty_agg_29,[_,_,_,_,_,_,_,_,_],ty_size_29,rds_,rfl⟩,⟨_,_,rfl,rfl,rfl⟩,rfl⟩,less_,?_⟩
   exact ⟨_,rfl,Mem.Less.refl _,zero_plR S⟩
  ·by_cases q2:256<n
   ·rw [if_pos (.inr q2)]
    refine ACall.enter (rs:=[.cell 4 29,.tmp 5]) 27 [(0,.agg #[.int .i64 d.size,.slice pe d.ext.length ce,.slice pw d.waits.length cw,.int .i64 d.fuse,.bool d.down]),(1,.int .i64 n)] Tryz.func45 rfl rfl (Nat.le_of_ble_eq_true rfl) rfl ⟨rfl,rfl,trivial⟩ ?_
    refine k_a ?_
    refine k_b5 rfl ?_
    intro b2 f2
    have g2:=f2
    repeat ((with_reducible replace g2:=fresh_set g2);obtain ⟨g2,_⟩:=g2)
    try simp only [k_l1,k_l0,k_za,Nat.reduceAdd]
    refine ARun.alloc (lit_lt rfl) ty_zero_29 ?_
    intro b4 f4
    have g4:=f4
    repeat ((with_reducible replace g4:=fresh_set g4);obtain ⟨g4,_⟩:=g4)
    try simp only [k_l1,k_l0,k_za,Nat.reduceAdd]
    refine k_e rfl (AWP.seq (k_a ?_))
    refine k_5 ty_agg_25 ty_size_25 rfl ?_
    refine ARun.call (lit_lt rfl) go_48 rfl (hck _ (hd.less less_)) ?_
    rintro _ S1 ⟨rfl,h1⟩
    rw [h1,hk];clear h1 S1
    refine k_e rfl ?_
    refine k_u [(0,_),(1,_),(2,_),(4,_),(5,_),(6,_)] ?_
    refine k_a (k_m rfl ?_)
    refine rC (Calm.bin rfl rfl b_neq) ?_
    refine k_n ?_
    refine k_u [(0,_),(1,_),(2,_),(4,_),(5,_),(6,_),(10,_)] ?_
    refine k_F rfl ?_
    refine k_k (AWP.seq (k_a (k_m rfl ?_)))
    refine rC (Calm.bin rfl rfl (bin_bool (bin_lss _ _) (decide_eq_false q1))) ?_
    refine k_m rfl ?_
    first|refine k_q 15 ?_|refine rG 15 (Calm.move rfl) ?_
    first|refine k_q 15 ?_|refine rG 15 (Calm.bin rfl rfl b_gtr) ?_
    first|refine k_t rfl rfl ?_|refine k_f rfl rfl ?_
    refine k_n ?_
    refine k_u [(0,_),(1,_),(2,_),(4,_),(5,_),(6,_),(10,_),(18,_)] ?_
    refine k_T rfl ?_
    refine k_a ?_
    refine rC (Calm.build (cs:=[_,_,_,_,_,_,_,_,_]) ty_bld_29 rfl rfl) ?_
    first|refine k_A rfl rfl ty_size_29 ?_|refine k_B rfl rfl ty_size_29 ?_
    try simp only [k_ms,k_sz,k_ss,k_za,Nat.reduceAdd]
    refine k_e rfl ?_
    refine k_u [(0,_),(1,_),(2,_),(4,_),(5,_),(6,_),(10,_),(18,_)] ?_
    refine k_r ?_
    refine ⟨_,S,⟨_,_,_,rfl,.inr ⟨ty_agg_29,[_,_,_,_,_,_,_,_,_],ty_size_29,rds_,rfl⟩,⟨_,_,rfl,rfl,rfl⟩,rfl⟩,less_,?_⟩
    exact ⟨_,rfl,Mem.Less.refl _,zero_plR S⟩
   ·rw [if_neg (fun h=>h.elim q1 q2)]
    obtain ⟨m,rfl⟩ : ∃ m:Nat,n=(m:Int):=⟨_,(Int.toNat_of_nonneg (by omega)).symm⟩
    rw [Int.toNat_natCast]
    refine ACall.enter (rs:=[.cell 4 29,.tmp 5]) 27 [(0,.agg #[.int .i64 d.size,.slice pe d.ext.length ce,.slice pw d.waits.length cw,.int .i64 d.fuse,.bool d.down]),(1,.int .i64 (m:Nat))] Tryz.func45 rfl rfl (Nat.le_of_ble_eq_true rfl) rfl ⟨rfl,rfl,trivial⟩ ?_
    refine k_a ?_
    refine k_b5 rfl ?_
    intro b2 f2
    have g2:=f2
    repeat ((with_reducible replace g2:=fresh_set g2);obtain ⟨g2,_⟩:=g2)
    try simp only [k_l1,k_l0,k_za,Nat.reduceAdd]
    refine ARun.alloc (lit_lt rfl) ty_zero_29 ?_
    intro b4 f4
    have g4:=f4
    repeat ((with_reducible replace g4:=fresh_set g4);obtain ⟨g4,_⟩:=g4)
    try simp only [k_l1,k_l0,k_za,Nat.reduceAdd]
    refine k_e rfl (AWP.seq (k_a ?_))
    refine k_5 ty_agg_25 ty_size_25 rfl ?_
    refine ARun.call (lit_lt rfl) go_48 rfl (hck _ (hd.less less_)) ?_
    rintro _ S1 ⟨rfl,h1⟩
    rw [h1,hk];clear h1 S1
    refine k_e rfl ?_
    refine k_u [(0,_),(1,_),(2,_),(4,_),(5,_),(6,_)] ?_
    refine k_a (k_m rfl ?_)
    refine rC (Calm.bin rfl rfl b_neq) ?_
    refine k_n ?_
    refine k_u [(0,_),(1,_),(2,_),(4,_),(5,_),(6,_),(10,_)] ?_
    refine k_F rfl ?_
    refine k_k (AWP.seq (k_a (k_m rfl ?_)))
    refine rC (Calm.bin rfl rfl (bin_bool (bin_lss _ _) (decide_eq_false q1))) ?_
    refine k_m rfl ?_
    first|refine k_q 15 ?_|refine rG 15 (Calm.move rfl) ?_
    first|refine k_q 15 ?_|refine rG 15 (Calm.bin rfl rfl b_gtr) ?_
    first|refine k_t rfl rfl ?_|refine k_f rfl rfl ?_
    refine k_n ?_
    refine k_u [(0,_),(1,_),(2,_),(4,_),(5,_),(6,_),(10,_),(18,_)] ?_
    refine k_F rfl ?_
    refine k_k (k_a ?_)
    refine k_5 ty_agg_25 ty_size_25 rfl ?_
    refine ARun.call (lit_lt rfl) go_64 rfl ((hown.frame f2).frame f4) ?_
    rintro _ S1 ⟨Sa,⟨M,⟨oE,oW,hok,rfl,hM⟩,fa,hSa⟩,fb,h1⟩
    rw [h1,hSa];rw [hSa] at fb;clear h1 S1 hSa Sa
    have hSM:S.Less M:=by rw [hM];exact hok.less
    have hlens:=right_lens hR
    have hdk:=hok.dk hlens.1 hlens.2
    rw [← hM] at hdk
    unfold dkV at hdk ⊢
    obtain ⟨qe,de,hqe⟩:=outV_eq hok.e
    obtain ⟨qw,dw,hqw⟩:=outV_eq hok.w
    rw [hqe,hqw] at hdk ⊢
    obtain ⟨fbm,nba⟩:=fresh_set fb
    refine rC (Calm.build (cs:=[_,_,_,_,_]) ty_bld_79 rfl rfl) ?_
    refine k_b5 rfl ?_
    intro b23 f23
    have g23:=f23
    repeat ((with_reducible replace g23:=fresh_set g23);obtain ⟨g23,_⟩:=g23)
    try simp only [k_l1,k_l0,k_za,Nat.reduceAdd]
    obtain ⟨h23,n4⟩:=fresh_set f23
    obtain ⟨h23m,n2⟩:=fresh_set h23
    rw [Mem.set_comm' _ _ _ (Ne.symm n4),Mem.set_comm' M _ _ (Ne.symm n2)]
    have fa2:Fresh (M.set b23 ⟨79,[.int .i64 d.size,.slice qe d.ext.length de,.slice qw d.waits.length dw,.int .i64 d.fuse,.bool d.down],5⟩) b2:=fresh_more fa (Ne.symm n2)
    have fb2:=fresh_more (r:=⟨25,[.int .i64 d.size,.slice pe d.ext.length ce,.slice pw d.waits.length cw,.int .i64 d.fuse,.bool d.down],5⟩) (fresh_more (r:=⟨79,[.int .i64 d.size,.slice qe d.ext.length de,.slice qw d.waits.length dw,.int .i64 d.fuse,.bool d.down],5⟩) fbm (Ne.symm n4)) nba
    refine k_m rfl ?_
    refine ARun.call (lit_lt rfl) go_75 rfl (((pl_Over b23 m d _ (by omega) (by omega)).frame fa2).frame fb2) ?_
    rintro _ S1 ⟨Sa,⟨T,⟨a,b,rfl,fB,fA,hab,hT⟩,fc,hSa⟩,fd,h1⟩
    rw [h1,hSa];rw [hSa] at fd;clear h1 S1 hSa Sa
    obtain ⟨fdm,_⟩:=fresh_set fd
    have hl1:=(Mem.less_set M b23 ⟨79,[.int .i64 d.size,.slice qe d.ext.length de,.slice qw d.waits.length dw,.int .i64 d.fuse,.bool d.down],5⟩ h23m.1)
    have hl2:=ar_less (x:=newP d m) (p:=b23) (k:=0) (c:=m) fB fA hab
    rw [← hT] at hl2
    have hpa:PlA T a (newP d m):=by obtain ⟨_,_,_,_,e,hE2,hW2⟩:=hdk;cases e;exact ⟨b23,_,_,_,_,some ⟨b,0,none⟩,m,0,by rw [hT];exact ar_own,hl2.1 _ _ (Mem.own_set_same _ _ _),hE2.less (hl1.trans hl2),hW2.less (hl1.trans hl2),by rw [hT];exact ar_sl hab (by rw [newP_len];exact Nat.le_refl _) (by rw [newP_len];omega)⟩
    have hST:=hSM.trans (hl1.trans hl2)
    clear hT hl1 hl2
    refine ARun.call (lit_lt rfl) go_31 rfl ((((pl_plainP hpa).frame fc).frame fd)) ?_
    rintro _ S1 ⟨Sa,⟨Sb,⟨hpl,hSb⟩,_,hSa⟩,_,h1⟩
    rw [h1,hSa,hSb];clear h1 S1
    obtain ⟨qe',de',qw',dw',qf,df,rfl,hE3,hW3,hF3⟩:=id hpl
    first|refine k_A rfl rfl ty_size_29 ?_|refine k_B rfl rfl ty_size_29 ?_
    try simp only [k_ms,k_sz,k_ss,k_za,Nat.reduceAdd]
    refine k_e rfl ?_
    refine k_u [(0,_),(1,_),(2,_),(4,_),(5,_),(6,_),(10,_),(18,_)] ?_
    refine AWP.ret ?_
    refine ⟨_,T,⟨_,_,_,rfl,.inr ⟨ty_agg_29,[_,_,_,_,_,_,_,_,_],ty_size_29,rds_,rfl⟩,⟨_,_,rfl,rfl,rfl⟩,rfl⟩,less_,?_⟩
    exact ⟨_,rfl,hST,hpl⟩
 ·rw [if_neg (by rw [hk];decide)]
  refine ACall.enter (rs:=[.cell 4 29,.tmp 5]) 27 [(0,.agg #[.int .i64 d.size,.slice pe d.ext.length ce,.slice pw d.waits.length cw,.int .i64 d.fuse,.bool d.down]),(1,.int .i64 n)] Tryz.func45 rfl rfl (Nat.le_of_ble_eq_true rfl) rfl ⟨rfl,rfl,trivial⟩ ?_
  refine k_a ?_
  refine k_b5 rfl ?_
  intro b2 f2
  have g2:=f2
  repeat ((with_reducible replace g2:=fresh_set g2);obtain ⟨g2,_⟩:=g2)
  try simp only [k_l1,k_l0,k_za,Nat.reduceAdd]
  refine ARun.alloc (lit_lt rfl) ty_zero_29 ?_
  intro b4 f4
  have g4:=f4
  repeat ((with_reducible replace g4:=fresh_set g4);obtain ⟨g4,_⟩:=g4)
  try simp only [k_l1,k_l0,k_za,Nat.reduceAdd]
  refine k_e rfl (AWP.seq (k_a ?_))
  refine k_5 ty_agg_25 ty_size_25 rfl ?_
  refine ARun.call (lit_lt rfl) go_48 rfl (hck _ (hd.less less_)) ?_
  rintro _ S1 ⟨rfl,h1⟩
  rw [h1,hk];clear h1 S1
  refine k_e rfl ?_
  refine k_u [(0,_),(1,_),(2,_),(4,_),(5,_),(6,_)] ?_
  refine k_a (k_m rfl ?_)
  refine rC (Calm.bin rfl rfl b_neq) ?_
  refine k_n ?_
  refine k_u [(0,_),(1,_),(2,_),(4,_),(5,_),(6,_),(10,_)] ?_
  refine k_T rfl ?_
  refine k_a ?_
  refine rC (Calm.build (cs:=[_,_,_,_,_,_,_,_,_]) ty_bld_29 rfl rfl) ?_
  refine k_m rfl ?_
  first|refine k_A rfl rfl ty_size_29 ?_|refine k_B rfl rfl ty_size_29 ?_
  try simp only [k_ms,k_sz,k_ss,k_za,Nat.reduceAdd]
  refine k_e rfl ?_
  refine k_u [(0,_),(1,_),(2,_),(4,_),(5,_),(6,_),(10,_)] ?_
  refine k_r ?_
  refine ⟨_,S,⟨_,_,_,rfl,.inr ⟨ty_agg_29,[_,_,_,_,_,_,_,_,_],ty_size_29,rds_,rfl⟩,⟨_,_,rfl,rfl,rfl⟩,rfl⟩,less_,?_⟩
  exact ⟨_,rfl,Mem.Less.refl _,zero_plR S⟩
end Go.Proofs.YtkeiphkccnfhoaaGreat
namespace Go.Proofs.YtkeiphkccnfhoaaGreat
open Go.RowKit
open Mv Disk
set_option maxRecDepth 4000
theorem sl_ownP {α : Type} {n : Nat} {f : α → List Value} (hn : ∀ x, (f x).length = n) {S : Mem} {b : Nat} {r : Blk} {l : List α} {k : Nat} (h : S.own b = some r) (hc : r.cells = l.flatMap f) (hk : l.length = k) (hl : l.length ≤ 1048576) : Sl n f S (.slice (some ⟨b, 0, none⟩) k k) l := by
 refine ⟨_,_,by rw [hk],by omega,by omega,.inr ⟨b,0,rfl,fun i hi=>?_⟩⟩
 intro w hv q v hq
 have hj:(l.flatMap f)[i*n+q]?=some v:=by
  have e1:l=l.take i ++ l[i] :: l.drop (i+1):=by rw [← List.drop_eq_getElem_cons hi,List.take_append_drop]
  have hlt:(l.take i).flatMap f=(l.take i).flatMap f:=rfl
  have hlen:=flat_length hn (l.take i)
  rw [List.length_take,Nat.min_eq_left (Nat.le_of_lt hi)] at hlen
  have hq2:q<(f l[i]).length:=(List.getElem?_eq_some_iff.1 hq).1
  conv=>lhs;rw [e1]
  rw [List.flatMap_append,List.flatMap_cons,List.getElem?_append_right (by omega),List.getElem?_append_left (by omega)]
  rw [show i*n+q-(List.flatMap f (List.take i l)).length=q from by omega]
  exact hq
 have:=hv.rd (a:=⟨b,i*n+q,none⟩) (v:=v) (by unfold Mem.rd;rw [h];show r.cells[i*n+q]?=some v;rw [hc];exact hj)
 rw [addr_add]
 rw [show 0+i*n+q=i*n+q from by omega];exact this
/-- One extent of three sectors. -/
def E3 (x : ByteArray) (w : List Wr) : D := ⟨4, [(nA, x)], w, -1, false⟩
theorem sec3 {x : ByteArray} (hx : x.size = 192) : sec (nA, x) = 3 := by unfold sec; simp only; rw [hx]
theorem right_E3 {x : ByteArray} {w : List Wr} (hx : x.size = 192) (hw : ∀ y ∈ w, y.1 = nA ∧ 0 ≤ y.2.1 ∧ y.2.1 < 3 ∧ y.2.2.size = 64) (hl : w.length ≤ 16384) : Right (E3 x w) := by
 refine ⟨by show (0:Int)≤4;decide,by show (4:Int)≤16384;decide,hl,by show (-1:Int) ≤ -1;decide,⟨fun y hy=>?_,List.pairwise_singleton _ _,?_⟩,fun y hy=>?_⟩
 ·obtain rfl:y=(nA,x):=by unfold E3 at hy;simpa using hy
  exact ⟨nmA,by simp only;omega,by simp only;omega⟩
 ·show ((used [(nA,x)] : Nat):Int)≤4
  simp only [used,sec3 hx];omega
 ·obtain ⟨h1,h2,h3,h4⟩:=hw y hy
  exact ⟨(nA,x),by unfold E3;simp,h1.symm,h2,by rw [sec3 hx];exact h3,h4⟩
theorem place_E3 {x : ByteArray} {w : List Wr} (hx : x.size = 192) {k : Int} (h0 : 0 ≤ k) (h1 : k < 3) : placeD (E3 x w) nA k = (0, 0) := by
 unfold placeD E3
 simp only [has_one,exOf_one,sec3 hx,pos_one,if_true]
 rw [if_neg (by omega)]
theorem read_E3 {x : ByteArray} {w : List Wr} (hx : x.size = 192) {k : Int} (h0 : 0 ≤ k) (h1 : k < 3) : readD (E3 x w) nA k = (seeW allK w nA k (x.extract (64 * k.toNat) (64 * k.toNat + 64)) w.length, 0) := by
 rw [readD_see,place_E3 hx h0 h1,if_neg (by simp)]
 unfold seen E3
 simp only [exOf_one]
theorem zz3 : (zeros 3).size = 192 := zeros_size 3
theorem zz1 : (zeros 1).size = 64 := zeros_size 1
theorem zcut (k : Nat) (h : k < 3) : (zeros 3).extract (64 * k) (64 * k + 64) = zeros 1 := by
 rw [ba_extract_bs];unfold zeros;rw [bs_data]
 match k,h with
 | 0,_=>simp [List.take_replicate,List.drop_replicate]
 | 1,_=>simp [List.take_replicate,List.drop_replicate]
 | 2,_=>simp [List.take_replicate,List.drop_replicate]
def xy : ByteArray := ⟨#[120, 121]⟩
def xs : ByteArray := fillS (zeros 1) 1 xy
theorem xs_size : xs.size = 64 := by
 unfold xs fillS
 rw [size_append,size_append,ByteArray.size_extract,ByteArray.size_extract,zz1];rfl
theorem xs_1 : at8 xs.data.toList 1 = 120 := by
 unfold xs fillS
 rw [data_append,data_append,data_extract]
 have h:((List.take (1:Int).toNat (zeros 1).data.toList).drop 0).length=1:=by
  simp [size_data,zz1]
 generalize (List.take (1:Int).toNat (zeros 1).data.toList).drop 0=l at *
 obtain ⟨a,rfl⟩ : ∃ a,l = [a]:=List.length_eq_one_iff.1 h
 rfl
def WX : List Wr := [(nA, 0, xs)]
def d0 : D := E3 (zeros 3) []
def d1 : D := E3 (zeros 3) WX
def X3 : ByteArray := (doneX (fun _ => true) WX (nA, zeros 3)).2
def d2 : D := E3 X3 []
theorem wx_ok : ∀ y ∈ WX, y.1 = nA ∧ 0 ≤ y.2.1 ∧ y.2.1 < 3 ∧ y.2.2.size = 64 := fun y h => by
 obtain rfl:y=(nA,0,xs):=by unfold WX at h;simpa using h
 exact ⟨rfl,by decide,by decide,xs_size⟩
theorem rd0 : Right d0 := right_E3 zz3 (fun y h => by cases h) (by decide)
theorem rd1 : Right d1 := right_E3 zz3 wx_ok (by decide)
theorem fit3 : Fit (nA, zeros 3) WX := right_fit rd1 (by unfold d1 E3; simp)
theorem X3_size : X3.size = 192 := by unfold X3 doneX; exact (acc_size (kp := fun _ => true) fit3 WX.length (Nat.le_refl _)).trans zz3
theorem rd2 : Right d2 := right_E3 X3_size (fun y h => by cases h) (by decide)
theorem r00 : readD d0 nA 0 = (zeros 1, 0) := by unfold d0; rw [read_E3 zz3 (by decide) (by decide)]; exact congrArg (fun z => (z, (0 : Int))) (zcut 0 (by decide))
theorem r02 : readD d0 nA 2 = (zeros 1, 0) := by unfold d0; rw [read_E3 zz3 (by decide) (by decide)]; exact congrArg (fun z => (z, (0 : Int))) (zcut 2 (by decide))
theorem r10 : readD d1 nA 0 = (xs, 0) := by unfold d1; rw [read_E3 zz3 (by decide) (by decide)]; simp [WX, seeW, allK]
theorem r11 : readD d1 nA 1 = (zeros 1, 0) := by
 unfold d1;rw [read_E3 zz3 (by decide) (by decide)]
 have:=zcut 1 (by decide)
 simp only [WX,seeW,allK,List.length_cons,List.length_nil,Nat.zero_add,List.getElem?_cons_zero]
 rw [if_neg (by simp)];exact congrArg (fun z=>(z,(0:Int))) this
theorem r12 : readD d1 nA 2 = (zeros 1, 0) := by
 unfold d1;rw [read_E3 zz3 (by decide) (by decide)]
 have:=zcut 2 (by decide)
 simp only [WX,seeW,allK,List.length_cons,List.length_nil,Nat.zero_add,List.getElem?_cons_zero]
 rw [if_neg (by simp)];exact congrArg (fun z=>(z,(0:Int))) this
theorem cut2 (k : Nat) (h : k < 3) : X3.extract (64 * k) (64 * k + 64) = seeW (fun _ => true) WX nA k (zeros 1) WX.length := by
 have:=acc_see (kp:=fun _=>true) (k:=k) fit3 (by rw [zz3];omega) WX.length (Nat.le_refl _)
 rw [zcut k h] at this
 unfold X3 doneX
 simp only
 exact this
theorem r20 : readD d2 nA 0 = (xs, 0) := by
 unfold d2;rw [read_E3 X3_size (by decide) (by decide)]
 have:=cut2 0 (by decide)
 show (X3.extract (64*0) (64*0+64),(0:Int))=_
 rw [this];simp [WX,seeW]
theorem r22 : readD d2 nA 2 = (zeros 1, 0) := by
 unfold d2;rw [read_E3 X3_size (by decide) (by decide)]
 have:=cut2 2 (by decide)
 show (X3.extract (64*2) (64*2+64),(0:Int))=_
 rw [this]
 simp only [WX,seeW,List.length_cons,List.length_nil,Nat.zero_add,List.getElem?_cons_zero]
 rw [if_neg (by simp)]
/-- A frame of 'a'. -/
def fA (k : Int) (data : ByteArray) (pins : Int) (dirty : Bool) (tick : Int) : Fr := ⟨nA, k, data, pins, dirty, tick, false⟩
theorem holdsA (k : Int) (data : ByteArray) (pins : Int) (dirty : Bool) (tick : Int) : (fA k data pins dirty tick).holds := by show nA.size ≠ 0; decide
theorem nholds0 : ¬ F0.holds := fun h => h rfl
theorem nholds1 : ¬ F1.holds := fun h => h rfl
theorem neA0 (k : Int) (data : ByteArray) (pins : Int) (dirty : Bool) (tick : Int) : fA k data pins dirty tick ≠ F0 := fun h => nholds0 (h ▸ holdsA k data pins dirty tick)
theorem ne10 : F1 ≠ F0 := fun h => by have := congrArg Fr.leased h; cases this
theorem idleA (k : Int) (data : ByteArray) (pins : Int) (dirty : Bool) (tick : Int) : (fA k data pins dirty tick).idle ↔ pins = 0 :=
 ⟨fun h=>h.elim (fun h=>absurd h (neA0 _ _ _ _ _)) (fun h=>h.2),fun h=>.inr ⟨holdsA _ _ _ _ _,h⟩⟩
theorem idle0 : F0.idle := .inl rfl
theorem idle1 : ¬ F1.idle := fun h => h.elim ne10 (fun h => nholds1 h.1)
theorem isF0 (s : ByteArray) (k : Int) : isF s k F0 = false := decide_eq_false fun h => nholds0 h.1
theorem isF1 (s : ByteArray) (k : Int) : isF s k F1 = false := decide_eq_false fun h => nholds1 h.1
theorem isFA (k' k : Int) (data : ByteArray) (pins : Int) (dirty : Bool) (tick : Int) : isF nA k' (fA k data pins dirty tick) = decide (k = k') := by
 have:=holdsA k data pins dirty tick
 unfold isF;rw [Bool.eq_iff_iff];simp only [decide_eq_true_eq];exact ⟨fun h=>h.2.1,fun h=>⟨this,h,rfl⟩⟩
theorem soundA {d : D} {k : Int} {data : ByteArray} {pins : Int} {dirty : Bool} {tick t : Int} {s : ByteArray} (hr : readD d nA k = (s, 0)) (h64 : data.size = 64) (h0 : 0 ≤ pins) (h1 : pins ≤ 256) (ht0 : 1 ≤ tick) (ht1 : tick ≤ t) (hd : dirty = true ∨ data = s) : Sound d (fA k data pins dirty tick) t :=
 .inr ⟨holdsA _ _ _ _ _,by show (readD d nA k).2=0;rw [hr],rfl,h64,h0,h1,ht0,ht1,by show dirty=true∨data=(readD d nA k).1;rw [hr];exact hd⟩
theorem sound0 (d : D) (t : Int) : Sound d F0 t := .inl ⟨nholds0, .inl rfl⟩
theorem sound1 (d : D) (t : Int) : Sound d F1 t := .inl ⟨nholds1, .inr rfl⟩
theorem pr2 {d : D} {x y : Fr} {t r w : Int} (hd : Right d) (hx : Sound d x t) (hy : Sound d y t) (hn : ¬ like y x) : PRight ⟨d, [x, y], t, r, w⟩ :=
 ⟨hd,by show 1≤2;decide,by show 2≤256;decide,fun i h=>match i,h with
  | 0,_=>⟨hx,fun z hz=>by simp at hz⟩
  | 1,_=>⟨hy,fun z hz=>by
   obtain rfl:z=x:=by simpa using hz
   exact hn⟩
  | i+2,h=>absurd h (by show ¬ i+2<2;omega)⟩
def p0 : Pl := ⟨d0, [F0, F0], 0, 0, 0⟩
def p1 : Pl := ⟨d0, [fA 0 (zeros 1) 1 false 1, F0], 1, 1, 0⟩
def p2 : Pl := ⟨d0, [fA 0 xs 1 true 1, F0], 1, 1, 0⟩
def p3 : Pl := ⟨d0, [fA 0 xs 0 true 1, F0], 1, 1, 0⟩
def p4 : Pl := ⟨d0, [fA 0 xs 0 true 1, F1], 1, 1, 0⟩
def p5 : Pl := ⟨d1, [fA 2 (zeros 1) 1 false 2, F1], 2, 2, 1⟩
def p6 : Pl := ⟨d1, [fA 2 (zeros 1) 1 false 2, F0], 2, 2, 1⟩
def p7 : Pl := ⟨d1, [fA 2 (zeros 1) 1 false 2, fA 0 xs 1 false 3], 3, 3, 1⟩
def p8 : Pl := ⟨d2, [fA 2 (zeros 1) 1 false 2, fA 0 xs 1 false 3], 3, 3, 1⟩
theorem pp0 : PRight p0 := pr2 rd0 (sound0 _ _) (sound0 _ _) (fun h => nholds0 h.1)
theorem pp1 : PRight p1 := pr2 rd0 (soundA r00 zz1 (by decide) (by decide) (by decide) (by decide) (.inr rfl)) (sound0 _ _) (fun h => nholds0 h.1)
theorem pp2 : PRight p2 := pr2 rd0 (soundA r00 xs_size (by decide) (by decide) (by decide) (by decide) (.inl rfl)) (sound0 _ _) (fun h => nholds0 h.1)
theorem pp3 : PRight p3 := pr2 rd0 (soundA r00 xs_size (by decide) (by decide) (by decide) (by decide) (.inl rfl)) (sound0 _ _) (fun h => nholds0 h.1)
theorem pp4 : PRight p4 := pr2 rd0 (soundA r00 xs_size (by decide) (by decide) (by decide) (by decide) (.inl rfl)) (sound1 _ _) (fun h => nholds1 h.1)
theorem pp5 : PRight p5 := pr2 rd1 (soundA r12 zz1 (by decide) (by decide) (by decide) (by decide) (.inr rfl)) (sound1 _ _) (fun h => nholds1 h.1)
theorem pp6 : PRight p6 := pr2 rd1 (soundA r12 zz1 (by decide) (by decide) (by decide) (by decide) (.inr rfl)) (sound0 _ _) (fun h => nholds0 h.1)
theorem nlike7 : ¬ like (fA 0 xs 1 false 3) (fA 2 (zeros 1) 1 false 2) := fun h => h.2.2.elim (fun h => absurd h (by show ¬ (3 : Int) = 2; decide)) (fun h => absurd h.2 (by show ¬ (0 : Int) = 2; decide))
theorem pp7 : PRight p7 := pr2 rd1 (soundA r12 zz1 (by decide) (by decide) (by decide) (by decide) (.inr rfl)) (soundA r10 xs_size (by decide) (by decide) (by decide) (by decide) (.inr rfl)) nlike7
theorem pp8 : PRight p8 := pr2 rd2 (soundA r22 zz1 (by decide) (by decide) (by decide) (by decide) (.inr rfl)) (soundA r20 xs_size (by decide) (by decide) (by decide) (by decide) (.inr rfl)) nlike7
theorem openP_ok {x : Pl} (h : PRight x) (hd : x.d.down = false) : openP x = (x, 0) := by unfold openP; rw [if_pos (chkP_yes h), if_neg (by rw [hd]; simp)]
theorem openedP_ok {x : Pl} (h : PRight x) (hd : x.d.down = false) (f : Pl × Int) : openedP x f = f := by unfold openedP; rw [openP_ok h hd, if_pos rfl]
theorem m0 : makeP d0 2 = (p0, 0) := by unfold makeP; rw [chkD_yes rd0, if_pos rfl, if_neg (by omega)]; rfl
theorem dl1 : opened L0 (newD L0 nA 3) = (d0, 0) := by
 rw [opened_ok right_L0 rfl]
 unfold newD
 rw [if_neg (by rintro (h | h);exact h nmA;omega),if_neg (by simp [L0,has]),if_neg (by simp [L0,used])]
 rfl
theorem t0 : takeP p0 = (p0, 0, 0) := by unfold takeP p0; simp [List.findIdx_cons]
theorem m1 : pinP p0 nA 0 = (p1, 0, 0) := by
 unfold pinP
 rw [if_neg (by unfold p0;simp [List.findIdx_cons,isF0]),show readD p0.d nA 0=(zeros 1,0) from r00,if_neg (by simp),t0,if_neg (by simp)]
 rfl
theorem m2 : fillP p1 0 1 xy = (p2, 0) := by
 unfold fillP
 rw [if_pos (by unfold pinnedP;rw [if_neg (by unfold p1;decide),if_neg (by show ¬ (1:Int)=0;decide)])]
 rfl
theorem m3 : eachP unpin1 p2 p2 [0] = (p3, 0) := by
 have:unpin1 p2 0=(p3,0):=by
  unfold unpin1
  rw [if_neg (by unfold p2;decide),if_neg (by show ¬ (1:Int)=0;decide)]
  rfl
 unfold eachP
 rw [this,if_pos rfl]
 rfl
theorem t3 : takeP p3 = (p3, 1, 0) := by unfold takeP p3; simp [List.findIdx_cons, neA0]
theorem i3 : idlesP p3 = 2 := by unfold idlesP p3; simp [List.countP_cons, idleA, idle0]
theorem m4 : leaseP p3 1 = (p4, [1], 0) := by
 unfold leaseP
 rw [if_neg (by decide),i3,if_neg (by decide)]
 show leaseN 1 p3 []=_
 unfold leaseN
 rw [t3,if_pos rfl]
 rfl
theorem wr4 : writeD d0 nA 0 xs = (d1, 0) := by
 unfold writeD
 rw [show placeD d0 nA 0=(0,0) from place_E3 zz3 (by decide) (by decide),if_neg (by simp),if_neg (by rw [xs_size];decide),if_neg (by unfold d0 E3;simp)]
 unfold fuseD
 rw [if_neg (by show ¬ (-1:Int)=0;decide),if_neg (by show ¬ (0:Int) < -1;decide)]
 rfl
theorem b4 : bestF p4.fr p4.fr.length = 0 := by
 show bestF [fA 0 xs 0 true 1,F1] 2=0
 have h1:bestF [fA 0 xs 0 true 1,F1] 1=0:=by
  unfold bestF
  rw [if_pos ⟨(idleA _ _ _ _ _).2 rfl,.inl (by show (-1:Int)<0;decide)⟩];rfl
 rw [bestF,h1,if_neg (fun h=>idle1 h.1)]
theorem w4 : wrP p4 0 = (⟨d1, [fA 0 xs 0 false 1, F1], 1, 1, 1⟩, 0) := by
 unfold wrP
 rw [show writeD p4.d (atF p4 0).name (atF p4 0).sector (atF p4 0).data=(d1,0) from wr4]
 rfl
theorem t4 : takeP p4 = (⟨d1, [F0, F1], 1, 1, 1⟩, 0, 0) := by
 unfold takeP
 rw [if_neg (by unfold p4;simp [List.findIdx_cons,neA0,ne10]),b4,if_neg (by decide),if_pos (by rfl),show (0:Int).toNat=0 from rfl,w4,if_pos rfl]
 rfl
theorem m5 : pinP p4 nA 2 = (p5, 0, 0) := by
 unfold pinP
 rw [if_neg (by unfold p4;simp [List.findIdx_cons,isFA,isF1]),show readD p4.d nA 2=(zeros 1,0) from r02,if_neg (by simp),t4,if_neg (by simp)]
 rfl
theorem b5 : bestF p5.fr p5.fr.length = -1 := by
 show bestF [fA 2 (zeros 1) 1 false 2,F1] 2 = -1
 have h1:bestF [fA 2 (zeros 1) 1 false 2,F1] 1 = -1:=by
  unfold bestF
  rw [if_neg (fun h=>absurd ((idleA _ _ _ _ _).1 h.1) (by decide))];rfl
 rw [bestF,h1,if_neg (fun h=>idle1 h.1)]
theorem t5 : takeP p5 = (p5, 0, 9) := by
 unfold takeP
 rw [if_neg (by unfold p5;simp [List.findIdx_cons,neA0,ne10]),b5,if_pos (by decide)]
theorem m5' : pinP p5 nA 1 = (p5, 0, 9) := by
 unfold pinP
 rw [if_neg (by unfold p5;simp [List.findIdx_cons,isFA,isF1]),show readD p5.d nA 1=(zeros 1,0) from r11,if_neg (by simp),t5,if_pos (by simp)]
theorem m6 : eachP ret1 p5 p5 [1] = (p6, 0) := by
 have:ret1 p5 1=(p6,0):=by
  unfold ret1
  rw [if_neg (by unfold p5;decide),if_neg (by show ¬ true=false;decide)]
  rfl
 unfold eachP
 rw [this,if_pos rfl]
 rfl
theorem t6 : takeP p6 = (p6, 1, 0) := by unfold takeP p6; simp [List.findIdx_cons, neA0]
theorem m7 : pinP p6 nA 0 = (p7, 1, 0) := by
 unfold pinP
 rw [if_neg (by unfold p6;simp [List.findIdx_cons,isFA,isF0]),show readD p6.d nA 0=(xs,0) from r10,if_neg (by simp),t6,if_neg (by simp)]
 rfl
theorem k2 : lookP p2 0 = (xs, 0) := by
 have:pinnedP p2 0 0 0=0:=by unfold pinnedP;rw [if_neg (by unfold p2;decide),if_neg (by show ¬ (1:Int)=0;decide)]
 unfold lookP;rw [this,if_pos rfl];rfl
theorem k7 : lookP p7 1 = (xs, 0) := by
 have:pinnedP p7 1 0 0=0:=by unfold pinnedP;rw [if_neg (by unfold p7;decide),if_neg (by show ¬ (1:Int)=0;decide)]
 unfold lookP;rw [this,if_pos rfl];rfl
theorem m8 : flushP p7 = (p8, 0) := by
 have:flushN p7 0 p7.fr.length=(p7,0):=rfl
 unfold flushP
 rw [this,if_pos rfl]
 rfl
theorem c8 : countsP p8 = (2, 2, 0, 0) := by
 unfold countsP
 rw [chkP_yes pp8,if_pos rfl]
 rfl
theorem m9 : dropP p8 nA = (p8, 11) := by
 unfold dropP
 rw [if_pos (by
  have:=holdsA 2 (zeros 1) 1 false 2
  unfold p8
  simp only [List.any_cons,Bool.or_eq_true,Bool.and_eq_true]
  left
  exact ⟨decide_eq_true ⟨this,rfl⟩,by show decide ((0:Int)<1)=true;decide⟩)]
theorem q8 : readO d2 nA 0 = (xs, 0) := by
 unfold readO;rw [open_ok rd2 rfl,if_neg (by simp)];exact r20
end Go.Proofs.YtkeiphkccnfhoaaGreat
namespace Go.Proofs.YtkeiphkccnfhoaaGreat
open Go.RowKit
open Mv Disk
set_option maxRecDepth 4000
theorem openedN_ok {x : Pl} (h : PRight x) (hd : x.d.down = false) (f : Pl × Nat × Int) : openedN x f = f := by unfold openedN; rw [openP_ok h hd, if_pos rfl]
theorem openedL_ok {x : Pl} (h : PRight x) (hd : x.d.down = false) (f : Pl × List Int × Int) : openedL x f = f := by unfold openedL; rw [openP_ok h hd, if_pos rfl]
theorem openedS_ok {x : Pl} (h : PRight x) (hd : x.d.down = false) (f : ByteArray × Int) : openedS x f = f := by unfold openedS; rw [openP_ok h hd, if_pos rfl]
set_option maxHeartbeats 8000000 in
theorem pv_lives (S : Mem) : ACall Tryz.prog 14 #[] S fun r S' => r = .bool true ∧ S' = S := by
 have dz0:Dz d0:=dz_right rd0 (by show (-1:Int)≤_;decide)
 have dz1:Dz d1:=dz_right rd1 (by show (-1:Int)≤_;decide)
 have dz2:Dz d2:=dz_right rd2 (by show (-1:Int)≤_;decide)
 have dzL:Dz L0:=dz_right right_L0 (by decide)
 have c0:∀ S,ACall Tryz.prog 43 #[.int .i64 4] S (DkRes (L0,0) S):=fun S=>by have:=disk_Make 4 S;rw [l0] at this;exact this
 have c1:∀ v M,DkR M v L0→ACall Tryz.prog 44 #[v,.string nA,.int .i64 3] M (DkRes (d0,0) M):=fun v M h=>by have:=disk_New v L0 nA 3 M h dzL;rw [dl1] at this;exact this
 have c2:∀ v M,DkR M v d0→ACall Tryz.prog 45 #[v,.int .i64 2] M (PlRes (p0,0) M):=fun v M h=>by have:=pl_Make v d0 2 M h dz0;rw [m0] at this;exact this
 have c3:∀ v M,PlR M v p0→ACall Tryz.prog 6 #[v,.string nA,.int .i64 0] M (PlN (p1,0,0) M):=fun v M h=>by have:=pl_Pin v p0 nA 0 M h dz0;rw [openedN_ok pp0 rfl,m1] at this;exact this
 have c4:∀ v M,PlR M v p1→ACall Tryz.prog 12 #[v,.int .i64 0,.int .i64 1,.string xy] M (PlRes (p2,0) M):=fun v M h=>by have:=pl_Fill v p1 0 1 xy M h dz0;rw [openedP_ok pp1 rfl,m2] at this;exact this
 have c5:∀ v M,PlR M v p2→ACall Tryz.prog 10 #[v,.int .i64 0] M fun r S'=>r = .tuple #[.string xs,.int .i64 0]∧S'=M:=fun v M h=>by have:=pl_Look v p2 0 M h dz0;rw [openedS_ok pp2 rfl,k2] at this;exact this
 have c6:∀ v vl M,PlR M v p2→Sl 1 i64s M vl [0]→ACall Tryz.prog 8 #[v,vl] M (PlRes (p3,0) M):=fun v vl M h hl=>by have:=pl_Unpin v vl p2 [0] M h dz0 hl;rw [openedP_ok pp2 rfl,m3] at this;exact this
 have c7:∀ v M,PlR M v p3→ACall Tryz.prog 18 #[v,.int .i64 1] M (PlL (p4,[1],0) M):=fun v M h=>by have:=pl_Lease v p3 1 M h dz0;rw [openedL_ok pp3 rfl,m4] at this;exact this
 have c8a:∀ v M,PlR M v p4→ACall Tryz.prog 6 #[v,.string nA,.int .i64 2] M (PlN (p5,0,0) M):=fun v M h=>by have:=pl_Pin v p4 nA 2 M h dz0;rw [openedN_ok pp4 rfl,m5] at this;exact this
 have c8b:∀ v M,PlR M v p5→ACall Tryz.prog 6 #[v,.string nA,.int .i64 1] M (PlN (p5,0,9) M):=fun v M h=>by have:=pl_Pin v p5 nA 1 M h dz1;rw [openedN_ok pp5 rfl,m5'] at this;exact this
 have c9:∀ v vl M,PlR M v p5→Sl 1 i64s M vl [1]→ACall Tryz.prog 20 #[v,vl] M (PlRes (p6,0) M):=fun v vl M h hl=>by have:=pl_Return v vl p5 [1] M h dz1 hl;rw [openedP_ok pp5 rfl,m6] at this;exact this
 have c10:∀ v M,PlR M v p6→ACall Tryz.prog 6 #[v,.string nA,.int .i64 0] M (PlN (p7,1,0) M):=fun v M h=>by have:=pl_Pin v p6 nA 0 M h dz1;rw [openedN_ok pp6 rfl,m7] at this;exact this
 have c11:∀ v M,PlR M v p7→ACall Tryz.prog 10 #[v,.int .i64 1] M fun r S'=>r = .tuple #[.string xs,.int .i64 0]∧S'=M:=fun v M h=>by have:=pl_Look v p7 1 M h dz1;rw [openedS_ok pp7 rfl,k7] at this;exact this
 have c12:∀ v M,PlR M v p7→ACall Tryz.prog 24 #[v] M (PlRes (p8,0) M):=fun v M h=>by have:=pl_Flush v p7 M h dz1;rw [openedP_ok pp7 rfl,m8] at this;exact this
 have c13:∀ v M,DkR M v d2→ACall Tryz.prog 46 #[v,.string nA,.int .i64 0] M fun r S'=>r = .tuple #[.string xs,.int .i64 0]∧S'=M:=fun v M h=>by have:=disk_Read v d2 nA 0 M h dz2;rw [q8] at this;exact this
 have c14:∀ v M,PlR M v p8→ACall Tryz.prog 26 #[v] M fun r S'=>r = .tuple #[.int .i64 2,.int .i64 2,.int .i64 0,.int .i64 0]∧S'=M:=fun v M h=>by have:=pl_Counts v p8 M h dz2;rw [c8] at this;exact this
 have c15:∀ v M,PlR M v p8→ACall Tryz.prog 22 #[v,.string nA] M (PlRes (p8,11) M):=fun v M h=>by have:=pl_Drop v p8 nA M h dz2;rw [openedP_ok pp8 rfl,m9] at this;exact this
 have c16:∀ v M,PlR M v p8→ACall Tryz.prog 16 #[v] M fun r S'=>r = .int .i64 0∧S'=M:=fun v M h=>by have:=pl_Check v p8 M h dz2;rw [chkP_yes pp8] at this;exact this
 have hx64:=xs_size
 have hx1:=xs_1
 have hd8:p8.d=d2:=rfl
 clear dz0 dz1 dz2 dzL
 generalize xs=x at *
 refine ACall.enter (rs:=[.tmp 0]) 258 [] Tryz.func14 rfl rfl (Nat.le_of_ble_eq_true rfl) rfl trivial ?_
 refine k_a (k_e rfl (k_a ?_))
 refine ARun.call (lit_lt rfl) go_43 rfl (c0 _) ?_
 rintro _ S1 ⟨v,rfl,hS1,hd1⟩
 obtain ⟨pa,qa,ra,sa,rfl,hEa,hWa⟩:=id hd1
 refine k_m rfl ?_
 refine rC (Calm.extract rfl rfl) ?_
 refine rC (Calm.extract rfl rfl) ?_
 refine ARun.alloc (lit_lt rfl) ty_zero_25 ?_
 intro b1 f1
 have g1:=f1
 repeat ((with_reducible replace g1:=fresh_set g1);obtain ⟨g1,_⟩:=g1)
 try simp only [k_l1,k_l0,k_za,Nat.reduceAdd]
 first|refine k_A rfl rfl ty_size_25 ?_|refine k_B rfl rfl ty_size_25 ?_
 try simp only [k_ms,k_sz,k_ss,k_za,Nat.reduceAdd]
 refine k_e rfl ?_
 refine k_u [(0,_),(1,_),(2,_)] ?_
 refine k_a ?_
 refine k_5 ty_agg_25 ty_size_25 rfl ?_
 refine ARun.call (lit_lt rfl) go_44 rfl ((c1 _ S1 hd1).frame f1) ?_
 rintro _ Sx ⟨M1,⟨v,rfl,hM1,hd2⟩,fa,h1⟩
 rw [h1];clear h1 Sx
 obtain ⟨pb,qb,rb,sb,rfl,hEb,hWb⟩:=id hd2
 have hS2:=hS1.trans hM1
 refine k_m rfl ?_
 refine rC (Calm.extract rfl rfl) ?_
 refine rC (Calm.extract rfl rfl) ?_
 first|refine k_A rfl rfl ty_size_25 ?_|refine k_B rfl rfl ty_size_25 ?_
 try simp only [k_ms,k_sz,k_ss,k_za,Nat.reduceAdd]
 refine k_e rfl ?_
 refine k_u [(0,_),(1,_),(2,_),(3,_)] ?_
 refine k_a ?_
 refine k_5 ty_agg_25 ty_size_25 rfl ?_
 refine ARun.call (lit_lt rfl) go_45 rfl ((c2 _ M1 hd2).frame fa) ?_
 rintro _ Sx ⟨M2,⟨v,rfl,hM2,hp0⟩,fb,h1⟩
 rw [h1];clear h1 Sx
 obtain ⟨p0v,q0v,r0v,s0v,t0v,u0v,rfl,hE0v,hW0v,hF0v⟩:=id hp0
 have hS:=hS2.trans hM2
 refine k_m rfl ?_
 refine rC (Calm.extract rfl rfl) ?_
 refine rC (Calm.extract rfl rfl) ?_
 refine ARun.alloc (lit_lt rfl) ty_zero_29 ?_
 intro b4 f4
 have g4:=f4
 repeat ((with_reducible replace g4:=fresh_set g4);obtain ⟨g4,_⟩:=g4)
 try simp only [k_l1,k_l0,k_za,Nat.reduceAdd]
 first|refine k_A rfl rfl ty_size_29 ?_|refine k_B rfl rfl ty_size_29 ?_
 try simp only [k_ms,k_sz,k_ss,k_za,Nat.reduceAdd]
 refine k_e rfl ?_
 refine k_u [(0,_),(1,_),(2,_),(3,_),(4,_),(5,_)] ?_
 obtain ⟨g4,n4⟩:=fresh_set f4
 refine AWP.less (M2.set b4 _) (Less.set (Mem.less_set _ _ _ fb.1) _ _) ?_
 refine k_a ?_
 refine k_9 ty_agg_29 ty_size_29 rfl ?_
 refine ARun.call (lit_lt rfl) go_6 rfl ((c3 _ M2 hp0).frame g4) ?_
 rintro _ Sx ⟨M3,⟨v,rfl,hM3,hp1⟩,g4b,h1⟩
 rw [h1];clear h1 Sx
 obtain ⟨p1v,q1v,r1v,s1v,t1v,u1v,rfl,hE1v,hW1v,hF1v⟩:=id hp1
 replace hS:=hS.trans hM3
 refine k_m rfl ?_
 refine rC (Calm.extract rfl rfl) ?_
 refine rC (Calm.extract rfl rfl) ?_
 refine rC (Calm.extract rfl rfl) ?_
 first|refine k_A rfl rfl ty_size_29 ?_|refine k_B rfl rfl ty_size_29 ?_
 try simp only [k_ms,k_sz,k_ss,k_za,Nat.reduceAdd]
 refine k_s rfl (k_e rfl ?_)
 refine k_u [(0,_),(1,_),(2,_),(3,_),(4,_),(5,_),(6,_),(7,_)] ?_
 refine k_a ?_
 refine k_9 ty_agg_29 ty_size_29 rfl ?_
 refine k_m rfl ?_
 refine ARun.call (lit_lt rfl) go_12 rfl ((c4 _ M3 hp1).frame g4b) ?_
 rintro _ Sx ⟨M4,⟨v,rfl,hM4,hp2⟩,g4c,h1⟩
 rw [h1];clear h1 Sx
 obtain ⟨p2v,q2v,r2v,s2v,t2v,u2v,rfl,hE2v,hW2v,hF2v⟩:=id hp2
 replace hS:=hS.trans hM4
 refine k_m rfl ?_
 refine rC (Calm.extract rfl rfl) ?_
 refine rC (Calm.extract rfl rfl) ?_
 first|refine k_A rfl rfl ty_size_29 ?_|refine k_B rfl rfl ty_size_29 ?_
 try simp only [k_ms,k_sz,k_ss,k_za,Nat.reduceAdd]
 refine k_e rfl ?_
 refine k_u [(0,_),(1,_),(2,_),(3,_),(4,_),(5,_),(6,_),(7,_),(8,_)] ?_
 refine k_a ?_
 refine k_9 ty_agg_29 ty_size_29 rfl ?_
 refine k_m rfl ?_
 refine ARun.call (lit_lt rfl) go_10 rfl (c5 _ _ (hp2.less less_)) ?_
 rintro _ Sx ⟨rfl,h1⟩
 rw [h1];clear h1 Sx
 refine k_m rfl ?_
 refine rC (Calm.extract rfl rfl) ?_
 refine rC (Calm.extract rfl rfl) ?_
 refine k_s rfl (k_e rfl ?_)
 refine k_u [(0,_),(1,_),(2,_),(3,_),(4,_),(5,_),(6,_),(7,_),(8,_),(9,_),(10,_)] ?_
 refine k_a ?_
 refine k_9 ty_agg_29 ty_size_29 rfl ?_
 refine k_m rfl ?_
 refine ARun.build1s (lit_lt rfl) ty_sl_30 rfl rfl ?_
 intro b69 f69
 have g69:=f69
 repeat ((with_reducible replace g69:=fresh_set g69);obtain ⟨g69,_⟩:=g69)
 obtain ⟨g69,n69⟩:=fresh_set f69
 rw [Mem.set_comm' _ _ _ (Ne.symm n69)]
 have g4d:=fresh_more (r:=⟨3,[.int .i64 0],1⟩) g4c (Ne.symm n69)
 have hl69:=Mem.less_set M4 b69 ⟨3,[.int .i64 0],1⟩ g69.1
 refine ARun.call (lit_lt rfl) go_8 rfl ((c6 _ _ _ (hp2.less hl69) (sl_ownP (f:=i64s) (n:=1) i64_len (Mem.own_set_same _ b69 _) (by rfl) rfl (by decide))).frame g4d) ?_
 rintro _ Sx ⟨M5,⟨v,rfl,hM5',hp3⟩,g4e,h1⟩
 rw [h1];clear h1 Sx
 obtain ⟨p3v,q3v,r3v,s3v,t3v,u3v,rfl,hE3v,hW3v,hF3v⟩:=id hp3
 replace hS:=hS.trans (hl69.trans hM5')
 refine k_m rfl ?_
 refine rC (Calm.extract rfl rfl) ?_
 refine rC (Calm.extract rfl rfl) ?_
 first|refine k_A rfl rfl ty_size_29 ?_|refine k_B rfl rfl ty_size_29 ?_
 try simp only [k_ms,k_sz,k_ss,k_za,Nat.reduceAdd]
 refine k_e rfl ?_
 refine k_u [(0,_),(1,_),(2,_),(3,_),(4,_),(5,_),(6,_),(7,_),(8,_),(9,_),(10,_),(11,_)] ?_
 refine k_a ?_
 refine k_9 ty_agg_29 ty_size_29 rfl ?_
 refine ARun.call (lit_lt rfl) go_18 rfl ((c7 _ M5 hp3).frame g4e) ?_
 rintro _ Sx ⟨M6,⟨v,vl,rfl,hM6,hp4,hl⟩,g4f,h1⟩
 rw [h1];clear h1 Sx
 obtain ⟨p4v,q4v,r4v,s4v,t4v,u4v,rfl,hE4v,hW4v,hF4v⟩:=id hp4
 replace hS:=hS.trans hM6
 obtain ⟨la,lc,rfl,hl1,hl2,hl3⟩:=id hl
 obtain ⟨lb,lo,rfl,hlk⟩:=hl3.resolve_left (by simp)
 clear hl1 hl2 hl3 hlk
 refine k_m rfl ?_
 refine rC (Calm.extract rfl rfl) ?_
 refine rC (Calm.extract rfl rfl) ?_
 refine rC (Calm.extract rfl rfl) ?_
 first|refine k_A rfl rfl ty_size_29 ?_|refine k_B rfl rfl ty_size_29 ?_
 try simp only [k_ms,k_sz,k_ss,k_za,Nat.reduceAdd]
 refine k_s rfl (k_e rfl ?_)
 refine k_u [(0,_),(1,_),(2,_),(3,_),(4,_),(5,_),(6,_),(7,_),(8,_),(9,_),(10,_),(11,_),(12,_),(13,_)] ?_
 refine k_a ?_
 refine k_9 ty_agg_29 ty_size_29 rfl ?_
 refine ARun.call (lit_lt rfl) go_6 rfl ((c8a _ M6 hp4).frame g4f) ?_
 rintro _ Sx ⟨M7,⟨v,rfl,hM7,hp5⟩,g4g,h1⟩
 rw [h1];clear h1 Sx
 obtain ⟨p5v,q5v,r5v,s5v,t5v,u5v,rfl,hE5v,hW5v,hF5v⟩:=id hp5
 replace hS:=hS.trans hM7
 replace hl:=hl.less hM7
 refine k_m rfl ?_
 refine rC (Calm.extract rfl rfl) ?_
 refine rC (Calm.extract rfl rfl) ?_
 refine rC (Calm.extract rfl rfl) ?_
 first|refine k_A rfl rfl ty_size_29 ?_|refine k_B rfl rfl ty_size_29 ?_
 try simp only [k_ms,k_sz,k_ss,k_za,Nat.reduceAdd]
 refine k_s rfl (k_e rfl ?_)
 refine k_u [(0,_),(1,_),(2,_),(3,_),(4,_),(5,_),(6,_),(7,_),(8,_),(9,_),(10,_),(11,_),(12,_),(13,_),(14,_),(15,_)] ?_
 refine k_a ?_
 refine k_9 ty_agg_29 ty_size_29 rfl ?_
 refine ARun.call (lit_lt rfl) go_6 rfl ((c8b _ M7 hp5).frame g4g) ?_
 rintro _ Sx ⟨M8,⟨v,rfl,hM8,hp5'⟩,g4h,h1⟩
 rw [h1];clear h1 Sx
 obtain ⟨p5xv,q5xv,r5xv,s5xv,t5xv,u5xv,rfl,hE5xv,hW5xv,hF5xv⟩:=id hp5'
 replace hS:=hS.trans hM8
 replace hl:=hl.less hM8
 refine k_m rfl ?_
 refine rC (Calm.extract rfl rfl) ?_
 refine rC (Calm.extract rfl rfl) ?_
 refine rC (Calm.extract rfl rfl) ?_
 refine ARun.alloc (lit_lt rfl) ty_zero_29 ?_
 intro b16 f16
 have g16:=f16
 repeat ((with_reducible replace g16:=fresh_set g16);obtain ⟨g16,_⟩:=g16)
 try simp only [k_l1,k_l0,k_za,Nat.reduceAdd]
 first|refine k_A rfl rfl ty_size_29 ?_|refine k_B rfl rfl ty_size_29 ?_
 try simp only [k_ms,k_sz,k_ss,k_za,Nat.reduceAdd]
 refine k_s rfl (k_e rfl ?_)
 refine k_u [(0,_),(1,_),(2,_),(3,_),(4,_),(5,_),(6,_),(7,_),(8,_),(9,_),(10,_),(11,_),(12,_),(13,_),(14,_),(15,_),(18,_)] ?_
 refine AWP.less (M8.set b4 _) (Mem.less_set _ _ _ f16.1) ?_
 refine k_a ?_
 refine k_9 ty_agg_29 ty_size_29 rfl ?_
 refine k_m rfl ?_
 refine ARun.call (lit_lt rfl) go_20 rfl ((c9 _ _ M8 (hp5.less hM8) hl).frame g4h) ?_
 rintro _ Sx ⟨M9,⟨v,rfl,hM9,hp6⟩,g4i,h1⟩
 rw [h1];clear h1 Sx
 obtain ⟨p6v,q6v,r6v,s6v,t6v,u6v,rfl,hE6v,hW6v,hF6v⟩:=id hp6
 replace hS:=hS.trans hM9
 replace hl:=hl.less hM9
 refine k_m rfl ?_
 refine rC (Calm.extract rfl rfl) ?_
 refine rC (Calm.extract rfl rfl) ?_
 first|refine k_A rfl rfl ty_size_29 ?_|refine k_B rfl rfl ty_size_29 ?_
 try simp only [k_ms,k_sz,k_ss,k_za,Nat.reduceAdd]
 refine k_e rfl ?_
 refine k_u [(0,_),(1,_),(2,_),(3,_),(4,_),(5,_),(6,_),(7,_),(8,_),(9,_),(10,_),(11,_),(12,_),(13,_),(14,_),(15,_),(18,_),(19,_)] ?_
 refine k_a ?_
 refine k_9 ty_agg_29 ty_size_29 rfl ?_
 refine ARun.call (lit_lt rfl) go_6 rfl ((c10 _ M9 hp6).frame g4i) ?_
 rintro _ Sx ⟨M10,⟨v,rfl,hM10,hp7⟩,g4j,h1⟩
 rw [h1];clear h1 Sx
 obtain ⟨p7v,q7v,r7v,s7v,t7v,u7v,rfl,hE7v,hW7v,hF7v⟩:=id hp7
 replace hS:=hS.trans hM10
 replace hl:=hl.less hM10
 refine k_m rfl ?_
 refine rC (Calm.extract rfl rfl) ?_
 refine rC (Calm.extract rfl rfl) ?_
 refine rC (Calm.extract rfl rfl) ?_
 first|refine k_A rfl rfl ty_size_29 ?_|refine k_B rfl rfl ty_size_29 ?_
 try simp only [k_ms,k_sz,k_ss,k_za,Nat.reduceAdd]
 refine k_s rfl (k_e rfl ?_)
 refine k_u [(0,_),(1,_),(2,_),(3,_),(4,_),(5,_),(6,_),(7,_),(8,_),(9,_),(10,_),(11,_),(12,_),(13,_),(14,_),(15,_),(18,_),(19,_),(20,_),(21,_)] ?_
 refine k_a ?_
 refine k_9 ty_agg_29 ty_size_29 rfl ?_
 refine k_m rfl ?_
 refine ARun.call (lit_lt rfl) go_10 rfl (c11 _ _ (hp7.less less_)) ?_
 rintro _ Sx ⟨rfl,h1⟩
 rw [h1];clear h1 Sx
 refine k_m rfl ?_
 refine rC (Calm.extract rfl rfl) ?_
 refine rC (Calm.extract rfl rfl) ?_
 refine k_s rfl (k_e rfl ?_)
 refine k_u [(0,_),(1,_),(2,_),(3,_),(4,_),(5,_),(6,_),(7,_),(8,_),(9,_),(10,_),(11,_),(12,_),(13,_),(14,_),(15,_),(18,_),(19,_),(20,_),(21,_),(22,_),(23,_)] ?_
 refine k_a ?_
 refine k_9 ty_agg_29 ty_size_29 rfl ?_
 refine ARun.call (lit_lt rfl) go_24 rfl ((c12 _ M10 hp7).frame g4j) ?_
 rintro _ Sx ⟨M11,⟨v,rfl,hM11,hp8⟩,g4k,h1⟩
 rw [h1];clear h1 Sx
 obtain ⟨p8v,q8v,r8v,s8v,t8v,u8v,rfl,hE8v,hW8v,hF8v⟩:=id hp8
 replace hS:=hS.trans hM11
 replace hl:=hl.less hM11
 refine k_m rfl ?_
 refine rC (Calm.extract rfl rfl) ?_
 refine rC (Calm.extract rfl rfl) ?_
 refine ARun.alloc (lit_lt rfl) ty_zero_29 ?_
 intro b24 f24
 have g24:=f24
 repeat ((with_reducible replace g24:=fresh_set g24);obtain ⟨g24,_⟩:=g24)
 try simp only [k_l1,k_l0,k_za,Nat.reduceAdd]
 first|refine k_A rfl rfl ty_size_29 ?_|refine k_B rfl rfl ty_size_29 ?_
 try simp only [k_ms,k_sz,k_ss,k_za,Nat.reduceAdd]
 refine k_e rfl ?_
 refine k_u [(0,_),(1,_),(2,_),(3,_),(4,_),(5,_),(6,_),(7,_),(8,_),(9,_),(10,_),(11,_),(12,_),(13,_),(14,_),(15,_),(18,_),(19,_),(20,_),(21,_),(22,_),(23,_),(24,_),(25,_)] ?_
 obtain ⟨g24,n24⟩:=fresh_set f24
 refine AWP.less (M11.set b24 _) (Less.set (Mem.less_set _ _ _ g4k.1) _ _) ?_
 have hdk:DkR M11 (.agg #[.int .i64 p8.d.size,.slice p8v p8.d.ext.length q8v,.slice r8v p8.d.waits.length s8v,.int .i64 p8.d.fuse,.bool p8.d.down]) d2:=⟨_,_,_,_,rfl,hE8v,hW8v⟩
 refine k_a ?_
 refine rC (Calm.fieldAddr ty_field_29_0 rfl) ?_
 refine k_5 ty_agg_25 ty_size_25 rfl ?_
 refine ARun.call (lit_lt rfl) go_46 rfl (c13 _ _ (hdk.less less_)) ?_
 rintro _ Sx ⟨rfl,h1⟩
 rw [h1];clear h1 Sx
 refine k_m rfl ?_
 refine rC (Calm.extract rfl rfl) ?_
 refine rC (Calm.extract rfl rfl) ?_
 refine k_s rfl (k_e rfl ?_)
 refine k_u [(0,_),(1,_),(2,_),(3,_),(4,_),(5,_),(6,_),(7,_),(8,_),(9,_),(10,_),(11,_),(12,_),(13,_),(14,_),(15,_),(18,_),(19,_),(20,_),(21,_),(22,_),(23,_),(24,_),(25,_),(26,_),(27,_)] ?_
 refine k_a ?_
 refine k_9 ty_agg_29 ty_size_29 rfl ?_
 refine ARun.call (lit_lt rfl) go_26 rfl (c14 _ _ (hp8.less less_)) ?_
 rintro _ Sx ⟨rfl,h1⟩
 rw [h1];clear h1 Sx
 refine k_m rfl ?_
 refine rC (Calm.extract rfl rfl) ?_
 refine rC (Calm.extract rfl rfl) ?_
 refine rC (Calm.extract rfl rfl) ?_
 refine rC (Calm.extract rfl rfl) ?_
 refine k_s rfl (k_s rfl (k_s rfl (k_e rfl ?_)))
 refine k_u [(0,_),(1,_),(2,_),(3,_),(4,_),(5,_),(6,_),(7,_),(8,_),(9,_),(10,_),(11,_),(12,_),(13,_),(14,_),(15,_),(18,_),(19,_),(20,_),(21,_),(22,_),(23,_),(24,_),(25,_),(26,_),(27,_),(28,_),(29,_),(30,_),(31,_)] ?_
 refine k_a ?_
 refine k_9 ty_agg_29 ty_size_29 rfl ?_
 refine ARun.call (lit_lt rfl) go_22 rfl ((c15 _ M11 hp8).frame g24) ?_
 rintro _ Sx ⟨M12,⟨v,rfl,hM12,hp9⟩,g24b,h1⟩
 rw [h1];clear h1 Sx
 obtain ⟨p9v,q9v,r9v,s9v,t9v,u9v,rfl,hE9v,hW9v,hF9v⟩:=id hp9
 replace hS:=hS.trans hM12
 replace hl:=hl.less hM12
 replace hp8:=hp8.less hM12
 refine k_m rfl ?_
 refine rC (Calm.extract rfl rfl) ?_
 refine rC (Calm.extract rfl rfl) ?_
 refine ARun.alloc (lit_lt rfl) ty_zero_29 ?_
 intro b32 f32
 have g32:=f32
 repeat ((with_reducible replace g32:=fresh_set g32);obtain ⟨g32,_⟩:=g32)
 try simp only [k_l1,k_l0,k_za,Nat.reduceAdd]
 first|refine k_A rfl rfl ty_size_29 ?_|refine k_B rfl rfl ty_size_29 ?_
 try simp only [k_ms,k_sz,k_ss,k_za,Nat.reduceAdd]
 refine k_e rfl ?_
 refine k_u [(0,_),(1,_),(2,_),(3,_),(4,_),(5,_),(6,_),(7,_),(8,_),(9,_),(10,_),(11,_),(12,_),(13,_),(14,_),(15,_),(18,_),(19,_),(20,_),(21,_),(22,_),(23,_),(24,_),(25,_),(26,_),(27,_),(28,_),(29,_),(30,_),(31,_),(33,_)] ?_
 refine AWP.less (M12.set b24 _) (Mem.less_set _ _ _ f32.1) ?_
 have hlk:M12.Knows ⟨lb,lo+0*1,none⟩ [.int .i64 1]:=hl.at1 0 (by decide)
 refine k_a (k_m rfl ?_)
 refine rC (Calm.bin rfl rfl b_eql) ?_
 refine k_m rfl ?_
 first|refine k_q 134 ?_|refine rG 134 (Calm.move rfl) ?_
 first|refine k_q 134 ?_|refine rG 134 (Calm.bin rfl rfl b_eql) ?_
 first|refine k_t rfl rfl ?_|refine k_f rfl rfl ?_
 refine k_m rfl ?_
 first|refine k_q 138 ?_|refine rG 138 (Calm.move rfl) ?_
 first|refine k_q 138 ?_|refine rG 138 (Calm.bin rfl rfl b_eql) ?_
 first|refine k_t rfl rfl ?_|refine k_f rfl rfl ?_
 refine k_m rfl ?_
 first|refine k_q 142 ?_|refine rG 142 (Calm.move rfl) ?_
 first|refine k_q 142 ?_|refine rG 142 (Calm.bin rfl rfl b_eql) ?_
 first|refine k_t rfl rfl ?_|refine k_f rfl rfl ?_
 refine k_m rfl ?_
 first|refine k_q 146 ?_|refine rG 146 (Calm.move rfl) ?_
 first|refine k_q 146 ?_|refine rG 146 (Calm.bin rfl rfl b_eql) ?_
 first|refine k_t rfl rfl ?_|refine k_f rfl rfl ?_
 refine k_m rfl ?_
 first|refine k_q 150 ?_|refine rG 150 (Calm.move rfl) ?_
 first|refine k_q 150 ?_|refine rG 150 (Calm.bin rfl rfl b_eql) ?_
 first|refine k_t rfl rfl ?_|refine k_f rfl rfl ?_
 refine k_m rfl ?_
 first|refine k_q 154 ?_|refine rG 154 (Calm.move rfl) ?_
 first|refine k_q 154 ?_|refine rG 154 (Calm.lenStr (strT_spec ty_str_9) rfl) ?_
 first|refine k_q 154 ?_|refine rG 154 (Calm.bin rfl rfl (bin_bool (bin_eql _ _) (decide_eq_true (by rw [hx64];rfl)))) ?_
 first|refine k_t rfl rfl ?_|refine k_f rfl rfl ?_
 refine k_m rfl ?_
 first|refine k_q 159 ?_|refine rG 159 (Calm.move rfl) ?_
 first|refine k_q 159 ?_|refine rG 159 (Calm.indexStrC (c:=120) (j:=1) hx1.symm (strT_spec ty_str_9) rfl rfl (by omega)) ?_
 first|refine k_q 159 ?_|refine rG 159 (Calm.bin rfl rfl (bin_bool (bin_eql _ _) (decide_eq_true rfl))) ?_
 first|refine k_t rfl rfl ?_|refine k_f rfl rfl ?_
 refine k_m rfl ?_
 first|refine k_q 164 ?_|refine rG 164 (Calm.move rfl) ?_
 first|refine k_q 164 ?_|refine rG 164 (Calm.bin rfl rfl b_eql) ?_
 first|refine k_t rfl rfl ?_|refine k_f rfl rfl ?_
 refine k_m rfl ?_
 first|refine k_q 168 ?_|refine rG 168 (Calm.move rfl) ?_
 first|refine k_q 168 ?_|refine rG 168 (Calm.bin rfl rfl b_eql) ?_
 first|refine k_t rfl rfl ?_|refine k_f rfl rfl ?_
 refine k_m rfl ?_
 first|refine k_q 172 ?_|refine rG 172 (Calm.move rfl) ?_
 first|refine k_q 172 ?_|refine rG 172 (Calm.lenSl Tryz.underlying30 rfl) ?_
 first|refine k_q 172 ?_|refine rG 172 (Calm.bin rfl rfl b_eql) ?_
 first|refine k_t rfl rfl ?_|refine k_f rfl rfl ?_
 refine k_m rfl ?_
 first|refine k_q 177 ?_|refine rG 177 (Calm.move rfl) ?_
 first|refine k_q 177 ?_|refine rG 177 (Calm.indexS Tryz.underlying30 ty_size_3 rfl rfl (by omega) (by omega)) ?_
 first|refine k_q 177 ?_|refine rG 177 (ld_ ty_plain_3 rfl) ?_
 first|refine k_q 177 ?_|refine rG 177 (Calm.bin rfl rfl b_eql) ?_
 first|refine k_t rfl rfl ?_|refine k_f rfl rfl ?_
 refine k_m rfl ?_
 first|refine k_q 183 ?_|refine rG 183 (Calm.move rfl) ?_
 first|refine k_q 183 ?_|refine rG 183 (Calm.bin rfl rfl b_eql) ?_
 first|refine k_t rfl rfl ?_|refine k_f rfl rfl ?_
 refine k_m rfl ?_
 first|refine k_q 187 ?_|refine rG 187 (Calm.move rfl) ?_
 first|refine k_q 187 ?_|refine rG 187 (Calm.bin rfl rfl b_eql) ?_
 first|refine k_t rfl rfl ?_|refine k_f rfl rfl ?_
 refine k_m rfl ?_
 first|refine k_q 191 ?_|refine rG 191 (Calm.move rfl) ?_
 first|refine k_q 191 ?_|refine rG 191 (Calm.bin rfl rfl b_eql) ?_
 first|refine k_t rfl rfl ?_|refine k_f rfl rfl ?_
 refine k_m rfl ?_
 first|refine k_q 195 ?_|refine rG 195 (Calm.move rfl) ?_
 first|refine k_q 195 ?_|refine rG 195 (Calm.bin rfl rfl b_eql) ?_
 first|refine k_t rfl rfl ?_|refine k_f rfl rfl ?_
 refine k_m rfl ?_
 first|refine k_q 199 ?_|refine rG 199 (Calm.move rfl) ?_
 first|refine k_q 199 ?_|refine rG 199 (Calm.bin rfl rfl b_eql) ?_
 first|refine k_t rfl rfl ?_|refine k_f rfl rfl ?_
 refine k_m rfl ?_
 first|refine k_q 203 ?_|refine rG 203 (Calm.move rfl) ?_
 first|refine k_q 203 ?_|refine rG 203 (Calm.bin rfl rfl b_eql) ?_
 first|refine k_t rfl rfl ?_|refine k_f rfl rfl ?_
 refine k_m rfl ?_
 first|refine k_q 207 ?_|refine rG 207 (Calm.move rfl) ?_
 first|refine k_q 207 ?_|refine rG 207 (Calm.bin rfl rfl b_eql) ?_
 first|refine k_t rfl rfl ?_|refine k_f rfl rfl ?_
 refine k_m rfl ?_
 first|refine k_q 211 ?_|refine rG 211 (Calm.move rfl) ?_
 first|refine k_q 211 ?_|refine rG 211 (Calm.move rfl) ?_
 first|refine k_q 211 ?_|refine rG 211 (Calm.bin rfl rfl (bin_bool (bin_str_eql _ _) (decide_eq_true rfl))) ?_
 first|refine k_t rfl rfl ?_|refine k_f rfl rfl ?_
 refine k_m rfl ?_
 first|refine k_q 216 ?_|refine rG 216 (Calm.move rfl) ?_
 first|refine k_q 216 ?_|refine rG 216 (Calm.bin rfl rfl b_eql) ?_
 first|refine k_t rfl rfl ?_|refine k_f rfl rfl ?_
 refine k_m rfl ?_
 first|refine k_q 220 ?_|refine rG 220 (Calm.move rfl) ?_
 first|refine k_q 220 ?_|refine rG 220 (Calm.bin rfl rfl b_eql) ?_
 first|refine k_t rfl rfl ?_|refine k_f rfl rfl ?_
 refine k_m rfl ?_
 first|refine k_q 224 ?_|refine rG 224 (Calm.move rfl) ?_
 first|refine k_q 224 ?_|refine rG 224 (Calm.move rfl) ?_
 first|refine k_q 224 ?_|refine rG 224 (Calm.bin rfl rfl (bin_bool (bin_str_eql _ _) (decide_eq_true rfl))) ?_
 first|refine k_t rfl rfl ?_|refine k_f rfl rfl ?_
 refine k_m rfl ?_
 first|refine k_q 229 ?_|refine rG 229 (Calm.move rfl) ?_
 first|refine k_q 229 ?_|refine rG 229 (Calm.bin rfl rfl b_eql) ?_
 first|refine k_t rfl rfl ?_|refine k_f rfl rfl ?_
 refine k_m rfl ?_
 first|refine k_q 233 ?_|refine rG 233 (Calm.move rfl) ?_
 first|refine k_q 233 ?_|refine rG 233 (Calm.bin rfl rfl b_eql) ?_
 first|refine k_t rfl rfl ?_|refine k_f rfl rfl ?_
 refine k_m rfl ?_
 first|refine k_q 237 ?_|refine rG 237 (Calm.move rfl) ?_
 first|refine k_q 237 ?_|refine rG 237 (Calm.bin rfl rfl b_eql) ?_
 first|refine k_t rfl rfl ?_|refine k_f rfl rfl ?_
 refine k_m rfl ?_
 first|refine k_q 241 ?_|refine rG 241 (Calm.move rfl) ?_
 first|refine k_q 241 ?_|refine rG 241 (Calm.bin rfl rfl b_eql) ?_
 first|refine k_t rfl rfl ?_|refine k_f rfl rfl ?_
 refine k_m rfl ?_
 first|refine k_q 245 ?_|refine rG 245 (Calm.move rfl) ?_
 first|refine k_q 245 ?_|refine rG 245 (Calm.bin rfl rfl b_eql) ?_
 first|refine k_t rfl rfl ?_|refine k_f rfl rfl ?_
 refine k_m rfl ?_
 first|refine k_q 249 ?_|refine rG 249 (Calm.move rfl) ?_
 first|refine k_q 249 ?_|refine rG 249 (Calm.bin rfl rfl b_eql) ?_
 first|refine k_t rfl rfl ?_|refine k_f rfl rfl ?_
 refine k_m rfl ?_
 first|refine k_q 253 ?_|refine rG 253 (ldA_ (cs:=[_,_,_,_,_,_,_,_,_]) ty_agg_29 ty_size_29 rfl) ?_
 refine ARun.callG 121 true 253 rfl (lit_lt rfl) rfl (lit_lt rfl) go_16 rfl (c16 _ _ (hp8.less less_)) ?_
 rintro _ Sx ⟨rfl,h1⟩
 rw [h1];clear h1 Sx
 first|refine k_q 253 ?_|refine rG 253 (Calm.bin rfl rfl b_eql) ?_
 first|refine k_t rfl rfl ?_|refine k_f rfl rfl ?_
 refine k_e rfl ?_
 refine k_u [(0,_),(1,_),(2,_),(3,_),(4,_),(5,_),(6,_),(7,_),(8,_),(9,_),(10,_),(11,_),(12,_),(13,_),(14,_),(15,_),(18,_),(19,_),(20,_),(21,_),(22,_),(23,_),(24,_),(25,_),(26,_),(27,_),(28,_),(29,_),(30,_),(31,_),(33,_)] ?_
 refine AWP.ret ?_
 refine ⟨_,S,⟨_,_,rfl,rfl,rfl⟩,hS.trans less_,?_⟩
 exact ⟨rfl,rfl⟩
end Go.Proofs.YtkeiphkccnfhoaaGreat
namespace Go.Proofs.YtkeiphkccnfhoaaGreat
open Go.RowKit
open Mv Disk
set_option maxRecDepth 20000
theorem opens_Ext : OpensF Tryz.prog 101 2 extF (fun y => y.1.size ≤ 140737488351232 ∧ y.2.size ≤ 140737488351232) :=
 OpensFL.struct Tryz.underlying101 (by kernel_rfl) (OpensFL.cons (opensF_string Tryz.underlying9 (by kernel_rfl)) rfl (OpensFL.one (opensF_string Tryz.underlying9 (by kernel_rfl)) rfl))
theorem opens_Wr : OpensF Tryz.prog 104 3 wrF (fun y => y.1.size ≤ 140737488351232 ∧ (Lit.int .i64 y.2.1).wf = true ∧ y.2.2.size ≤ 140737488351232) :=
 OpensFL.struct (n:=1+(1+1)) Tryz.underlying104 (by kernel_rfl) (OpensFL.cons (opensF_string Tryz.underlying9 (by kernel_rfl)) rfl (OpensFL.cons (opensF_int Tryz.underlying3 (by kernel_rfl)) rfl (OpensFL.one (opensF_string Tryz.underlying9 (by kernel_rfl)) rfl)))
/-- A disk that comes in. -/
def DkV (S : Mem) (cs : List Value) (d : D) : Prop := DkR S (.agg cs.toArray) d ∧ Dz d
theorem wfi {n : Int} (h : (Lit.int .i64 n).wf = true) : -9223372036854775808 ≤ n ∧ n ≤ 9223372036854775807 := by simp [Lit.wf, IntKind.min, IntKind.max, IntKind.signed, IntKind.bits] at h; omega
theorem opens_DkV : Opens Tryz.prog 25 5 DkV :=
 (OpensL.struct (n:=1+(1+(1+(1+1)))) Tryz.underlying25 (by kernel_rfl) (OpensL.cons (opensF_int Tryz.underlying3 (by kernel_rfl)).opens rfl
  (OpensL.cons (opens_slice Tryz.underlying22 (by kernel_rfl) (b:=32) (by kernel_rfl) opens_Ext) rfl
  (OpensL.cons (opens_slice Tryz.underlying23 (by kernel_rfl) (b:=40) (by kernel_rfl) opens_Wr) rfl
  (OpensL.cons (opensF_int Tryz.underlying3 (by kernel_rfl)).opens rfl
  (OpensL.one (opensF_bool Tryz.underlying4 (by kernel_rfl)).opens rfl)))))).mono
  fun S cs y ⟨c0,c1,e,⟨e0,g0⟩,c2,c3,e1,⟨v1,e2,s1,p1,l1⟩,c4,c5,e3,⟨v2,e4,s2,p2,l2⟩,c6,c7,e5,⟨e6,g6⟩,e7,_⟩=>by
   subst e e0 e1 e2 e3 e4 e5 e6 e7
   obtain ⟨a1,k1,rfl,_⟩:=id s1
   obtain ⟨a2,k2,rfl,_⟩:=id s2
   refine ⟨⟨y.1,y.2.1,y.2.2.1,y.2.2.2.1,y.2.2.2.2⟩,⟨a1,k1,a2,k2,rfl,s1,s2⟩,(wfi g0).1,(wfi g0).2,(wfi g6).1,(wfi g6).2,by simp only;omega,by simp only;omega,fun x hx=>p1 x hx,fun w hw=>?_⟩
   obtain ⟨h1,h2,h3⟩:=p2 w hw
   exact ⟨h1,(wfi h2).1,(wfi h2).2,h3⟩

end Go.Proofs.YtkeiphkccnfhoaaGreat
namespace Go.Proofs.YtkeiphkccnfhoaaGreat
open Go.RowKit
open Mv Disk
set_option maxRecDepth 20000
theorem Mv.OpensF.to {P : Program} {t : TypeId} {α β : Type} {n : Nat} {f : α → List Value} {G : α → Prop} (h : OpensF P t n f G) (g : α → β) (f' : β → List Value) (G' : β → Prop) (hf : ∀ y, f' (g y) = f y) (hl : ∀ z, (f' z).length = n) (hG : ∀ y, G y → G' (g y)) : OpensF P t n f' G' :=
 ⟨h.1,h.2.1,⟨g (Classical.choice h.2.2.1)⟩,hl,fun H enc W base held fuel cs x hx=>by
  obtain ⟨y,e,k⟩:=h.2.2.2.2 H enc W base held fuel cs x hx
  exact ⟨g y,by rw [hf];exact e,fun hs=>hG _ (k hs)⟩⟩
theorem opens_Fr : OpensF Tryz.prog 62 7 frF (fun _ => True) :=
 (OpensFL.struct (n:=1+(1+(1+(1+(1+(1+1)))))) Tryz.underlying62 (by kernel_rfl) (OpensFL.cons (opensF_string Tryz.underlying9 (by kernel_rfl)) rfl (OpensFL.cons (opensF_int Tryz.underlying3 (by kernel_rfl)) rfl (OpensFL.cons (opensF_string Tryz.underlying9 (by kernel_rfl)) rfl (OpensFL.cons (opensF_int Tryz.underlying3 (by kernel_rfl)) rfl (OpensFL.cons (opensF_bool Tryz.underlying4 (by kernel_rfl)) rfl (OpensFL.cons (opensF_int Tryz.underlying27 (by kernel_rfl)) rfl (OpensFL.one (opensF_bool Tryz.underlying4 (by kernel_rfl)) rfl)))))))).to
  (fun y=>(⟨y.1,y.2.1,y.2.2.1,y.2.2.2.1,y.2.2.2.2.1,y.2.2.2.2.2.1,y.2.2.2.2.2.2⟩ : Fr)) frF (fun _=>True) (fun _=>rfl) (fun _=>rfl) (fun _ _=>trivial)
/-- A pool that comes in. -/
def PlV (S : Mem) (cs : List Value) (p : Pl) : Prop := PlR S (.agg cs.toArray) p ∧ Dz p.d ∧ p.fr.length * 72 ≤ 140737488351232
theorem opens_PlV : Opens Tryz.prog 29 9 PlV :=
 (OpensL.struct (n:=5+(1+(1+(1+1)))) Tryz.underlying29 (by kernel_rfl) (OpensL.cons opens_DkV rfl
  (OpensL.cons (opens_slice Tryz.underlying26 (by kernel_rfl) (b:=72) (by kernel_rfl) opens_Fr) rfl
  (OpensL.cons (opensF_int Tryz.underlying27 (by kernel_rfl)).opens rfl
  (OpensL.cons (opensF_int Tryz.underlying27 (by kernel_rfl)).opens rfl
  (OpensL.one (opensF_int Tryz.underlying27 (by kernel_rfl)).opens rfl)))))).mono
  fun S cs y ⟨c0,c1,e,⟨⟨pe,ce,pw,cw,e0,hE,hW⟩,hz⟩,c2,c3,e1,⟨v1,e2,s1,_,l1⟩,c4,c5,e3,⟨e4,_⟩,c6,c7,e5,⟨e6,_⟩,e7,_⟩=>by
   obtain ⟨a1,k1,rfl,_⟩:=id s1
   have e0':c0 = [.int .i64 y.1.size,.slice pe y.1.ext.length ce,.slice pw y.1.waits.length cw,.int .i64 y.1.fuse,.bool y.1.down]:=by
    have:=congrArg (fun v=>match v with | .agg a=>a.toList | _=>[]) e0
    simpa using this
   subst e e0' e1 e2 e3 e4 e5 e6 e7
   exact ⟨⟨y.1,y.2.1,y.2.2.1,y.2.2.2.1,y.2.2.2.2⟩,⟨pe,ce,pw,cw,a1,k1,rfl,hE,hW,s1⟩,hz,l1⟩
end Go.Proofs.YtkeiphkccnfhoaaGreat
