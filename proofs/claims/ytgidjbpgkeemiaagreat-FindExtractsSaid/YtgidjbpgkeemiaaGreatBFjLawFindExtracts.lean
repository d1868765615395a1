/-
  The walk of LawFindExtracts.
-/
import Derived.Test.YtgidjbpgkeemiaaGreatBFj8
set_option linter.unusedVariables false
set_option linter.unusedSimpArgs false
set_option linter.unusedSectionVars false
namespace Go.Proofs.YtgidjbpgkeemiaaGreat
open Go.RowKit
open Mv Num Loser Srt
set_option maxRecDepth 8000
set_option maxHeartbeats 8000000 in
theorem law_FindExtracts (s : ByteArray) (aa nn mm : Int) (S : Mem) (hs : s.size ≤ 140737488355327) (ha64 : -9223372036854775808 ≤ aa ∧ aa < 9223372036854775808) (hn64 : -9223372036854775808 ≤ nn ∧ nn < 9223372036854775808) (hm64 : -9223372036854775808 ≤ mm ∧ mm < 9223372036854775808) :
  ACall Tryz.prog 5 #[.string s,.int .i64 aa,.int .i64 nn,.int .i64 mm] S fun r _=>r = .bool true:=by
 by_cases hb:150<s.size
 ·skip
  refine ACall.enter (rs:=[.tmp 8]) 132 [(0,.string s),(1,.int .i64 aa),(2,.int .i64 nn),(3,.int .i64 mm)] Tryz.func5 rfl rfl (Nat.le_of_ble_eq_true rfl) rfl ⟨rfl,rfl,rfl,rfl,trivial⟩ ?_
  refine k_a (k_e rfl (AWP.seq (k_a ?_)))
  refine ARun.call (lit_lt rfl) go_6 rfl (fd_lives _) ?_
  rintro _ S9 ⟨rfl,e9⟩
  rw [e9];clear e9 S9
  refine rC (Calm.un rfl (una_not _)) ?_
  refine k_n ?_
  refine k_u [(0,_),(1,_),(2,_),(3,_),(8,_),(23,_)] ?_
  refine k_F rfl ?_
  refine k_k (AWP.seq (k_a (k_m rfl ?_)))
  refine rC (Calm.lenStr (strT_spec ty_str_9) rfl) ?_
  refine rC (Calm.bin rfl rfl b_gtr) ?_
  refine k_n ?_
  refine k_u [(0,_),(1,_),(2,_),(3,_),(8,_),(23,_),(26,_)] ?_
  refine k_T rfl ?_
  refine k_a (k_e rfl ?_)
  refine k_r ?_
  refine ⟨_,_,⟨_,_,rfl,rfl,rfl⟩,less_,?_⟩
  rfl
 obtain ⟨c,p,hcp,htp⟩:=fx_col s (by omega)
 have h0:(textP c (p:Int)).2=0:=by rw [htp]
 obtain ⟨y,hy,hk,ht,hcs⟩:=fx_index htp
 have hye:y=ixP c ((p:Int)).toNat (textP c (p:Int)).1:=by rw [hy,htp,Int.toNat_natCast]
 have hall:extP y 0 (s.size:Int)=(s,0):=by have:=fx_ext hk ht hcs 0 s.size (by omega);rw [Nat.zero_add,ext_all] at this;exact this
 by_cases hbad:aa<0∨nn<0∨(s.size:Int)<aa∨(s.size:Int)-aa<nn
 ·have he:=fx_extN hk hcs hbad
  refine ACall.enter (rs:=[.tmp 8]) 132 [(0,.string s),(1,.int .i64 aa),(2,.int .i64 nn),(3,.int .i64 mm)] Tryz.func5 rfl rfl (Nat.le_of_ble_eq_true rfl) rfl ⟨rfl,rfl,rfl,rfl,trivial⟩ ?_
  refine k_a (k_e rfl (AWP.seq (k_a ?_)))
  refine ARun.call (lit_lt rfl) go_6 rfl (fd_lives _) ?_
  rintro _ S9 ⟨rfl,e9⟩
  rw [e9];clear e9 S9
  refine rC (Calm.un rfl (una_not _)) ?_
  refine k_n ?_
  refine k_u [(0,_),(1,_),(2,_),(3,_),(8,_),(23,_)] ?_
  refine k_F rfl ?_
  refine k_k (AWP.seq (k_a (k_m rfl ?_)))
  refine rC (Calm.lenStr (strT_spec ty_str_9) rfl) ?_
  refine rC (Calm.bin rfl rfl b_gtr) ?_
  refine k_n ?_
  refine k_u [(0,_),(1,_),(2,_),(3,_),(8,_),(23,_),(26,_)] ?_
  refine k_F rfl ?_
  refine k_k (k_a (k_m rfl ?_))
  refine ARun.call (lit_lt rfl) go_7 rfl (od_Column s _ (by omega)) ?_
  rintro _ S9 ⟨rfl,e9⟩
  rw [e9,hcp];clear e9 S9
  refine k_m rfl ?_
  refine rC (Calm.extract rfl rfl) ?_
  refine rC (Calm.extract rfl rfl) ?_
  refine rC (Calm.extract rfl rfl) ?_
  refine k_s rfl (k_s rfl (k_e rfl ?_))
  refine k_u [(0,_),(1,_),(2,_),(3,_),(8,_),(23,_),(26,_),(9,_),(10,_),(11,_)] ?_
  refine k_a (k_m rfl (k_m rfl ?_))
  refine ARun.call (lit_lt rfl) go_8 rfl (fd_Make c (p:Int) _) ?_
  rintro _ S1 hm
  obtain ⟨p1,c1,n2,p2,c2,p3,c3,p4,c4,hyy⟩:=hm.yes h0
  obtain ⟨rfl,hS1,hyv⟩:=hyy y hye
  clear hyy hm
  refine k_m rfl ?_
  refine rC (Calm.extract rfl rfl) ?_
  refine rC (Calm.extract rfl rfl) ?_
  refine ARun.alloc (lit_lt rfl) ty_zero_33 ?_
  intro b12 f12
  have g12:=f12
  repeat ((with_reducible replace g12:=fresh_set g12);obtain ⟨g12,_⟩:=g12)
  try simp only [k_l1,k_l0,k_za,Nat.reduceAdd]
  first|refine k_A rfl rfl ty_size_33 ?_|refine k_B rfl rfl ty_size_33 ?_
  try simp only [k_ms,k_sz,k_ss,k_za,Nat.reduceAdd]
  refine k_e rfl ?_
  refine k_u [(0,_),(1,_),(2,_),(3,_),(8,_),(23,_),(26,_),(9,_),(10,_),(11,_),(12,_),(13,_)] ?_
  refine k_a ?_
  refine rC (ldA_ (cs:=[_,_,_,_,_,_,_,_]) ty_agg_33 ty_size_33 rfl) ?_
  refine k_m rfl ?_
  refine rC (Calm.lenStr (strT_spec ty_str_9) rfl) ?_
  refine ARun.call (lit_lt rfl) go_11 rfl (fd_Extract y 0 (s.size:Int) _ _ (hyv.less less_) (by decide) (by omega)) ?_
  rintro _ S9 ⟨rfl,e9⟩
  rw [e9,hall];clear e9 S9
  refine k_m rfl ?_
  refine rC (Calm.extract rfl rfl) ?_
  refine rC (Calm.extract rfl rfl) ?_
  refine k_s rfl (k_e rfl ?_)
  refine k_u [(0,_),(1,_),(2,_),(3,_),(8,_),(23,_),(26,_),(9,_),(10,_),(11,_),(12,_),(13,_),(14,_),(15,_)] ?_
  refine AWP.seq (k_a (k_m rfl ?_))
  refine rC (Calm.bin rfl rfl b_neq) ?_
  refine k_m rfl ?_
  first|refine k_q 48 ?_|refine rG 48 (Calm.move rfl) ?_
  first|refine k_q 48 ?_|refine rG 48 (Calm.bin rfl rfl b_neq) ?_
  first|refine k_t rfl rfl ?_|refine k_f rfl rfl ?_
  refine k_m rfl ?_
  first|refine k_q 52 ?_|refine rG 52 (Calm.move rfl) ?_
  first|refine k_q 52 ?_|refine rG 52 (Calm.bin rfl rfl b_neq) ?_
  first|refine k_t rfl rfl ?_|refine k_f rfl rfl ?_
  refine k_m rfl ?_
  first|refine k_q 56 ?_|refine rG 56 (Calm.move rfl) ?_
  first|refine k_q 56 ?_|refine rG 56 (Calm.move rfl) ?_
  first|refine k_q 56 ?_|refine rG 56 (Calm.bin rfl rfl (bin_bool (bin_str_neq _ _) (by rw [decide_eq_true (Eq.refl s)];first | done | rfl))) ?_
  first|refine k_t rfl rfl ?_|refine k_f rfl rfl ?_
  refine k_n ?_
  refine k_u [(0,_),(1,_),(2,_),(3,_),(8,_),(23,_),(26,_),(9,_),(10,_),(11,_),(12,_),(13,_),(14,_),(15,_),(60,_)] ?_
  refine k_F rfl ?_
  refine k_k (k_a ?_)
  refine rC (ldA_ (cs:=[_,_,_,_,_,_,_,_]) ty_agg_33 ty_size_33 rfl) ?_
  refine k_m rfl (k_m rfl ?_)
  refine ARun.call (lit_lt rfl) go_11 rfl (fd_Extract y aa nn _ _ (hyv.less less_) ha64 hn64) ?_
  rintro _ S9 ⟨rfl,e9⟩
  rw [e9,he];clear e9 S9
  refine k_m rfl ?_
  refine rC (Calm.extract rfl rfl) ?_
  refine rC (Calm.extract rfl rfl) ?_
  refine k_s rfl (k_e rfl ?_)
  refine k_u [(0,_),(1,_),(2,_),(3,_),(8,_),(23,_),(26,_),(9,_),(10,_),(11,_),(12,_),(13,_),(14,_),(15,_),(60,_),(16,_),(17,_)] ?_
  refine AWP.seq (k_a (k_m rfl ?_))
  refine rC (Calm.bin rfl rfl b_neq) ?_
  refine k_n ?_
  refine k_u [(0,_),(1,_),(2,_),(3,_),(8,_),(23,_),(26,_),(9,_),(10,_),(11,_),(12,_),(13,_),(14,_),(15,_),(60,_),(16,_),(17,_),(69,_)] ?_
  refine k_T rfl ?_
  refine k_a (k_m rfl ?_)
  refine rC (Calm.bin rfl rfl b_eql) ?_
  refine k_m rfl ?_
  first|refine k_q 72 ?_|refine rG 72 (Calm.move rfl) ?_
  first|refine k_q 72 ?_|refine rG 72 (Calm.bin rfl rfl (bin_bool (bin_str_eql _ _) (decide_eq_true rfl))) ?_
  first|refine k_t rfl rfl ?_|refine k_f rfl rfl ?_
  refine k_e rfl ?_
  refine k_u [(0,_),(1,_),(2,_),(3,_),(8,_),(23,_),(26,_),(9,_),(10,_),(11,_),(12,_),(13,_),(14,_),(15,_),(60,_),(16,_),(17,_),(69,_)] ?_
  refine k_r ?_
  refine ⟨_,_,⟨_,_,rfl,rfl,rfl⟩,less_,?_⟩
  rfl
 obtain ⟨a,rfl⟩ : ∃ a:Nat,aa=a:=⟨aa.toNat,by omega⟩
 obtain ⟨n,rfl⟩ : ∃ n:Nat,nn=n:=⟨nn.toNat,by omega⟩
 have hl:a+n≤s.size:=by omega
 have he:=fx_ext hk ht hcs a n hl
 by_cases hm1:mm<0
 ·skip
  refine ACall.enter (rs:=[.tmp 8]) 132 [(0,.string s),(1,.int .i64 (a:Int)),(2,.int .i64 (n:Int)),(3,.int .i64 mm)] Tryz.func5 rfl rfl (Nat.le_of_ble_eq_true rfl) rfl ⟨rfl,rfl,rfl,rfl,trivial⟩ ?_
  refine k_a (k_e rfl (AWP.seq (k_a ?_)))
  refine ARun.call (lit_lt rfl) go_6 rfl (fd_lives _) ?_
  rintro _ S9 ⟨rfl,e9⟩
  rw [e9];clear e9 S9
  refine rC (Calm.un rfl (una_not _)) ?_
  refine k_n ?_
  refine k_u [(0,_),(1,_),(2,_),(3,_),(8,_),(23,_)] ?_
  refine k_F rfl ?_
  refine k_k (AWP.seq (k_a (k_m rfl ?_)))
  refine rC (Calm.lenStr (strT_spec ty_str_9) rfl) ?_
  refine rC (Calm.bin rfl rfl b_gtr) ?_
  refine k_n ?_
  refine k_u [(0,_),(1,_),(2,_),(3,_),(8,_),(23,_),(26,_)] ?_
  refine k_F rfl ?_
  refine k_k (k_a (k_m rfl ?_))
  refine ARun.call (lit_lt rfl) go_7 rfl (od_Column s _ (by omega)) ?_
  rintro _ S9 ⟨rfl,e9⟩
  rw [e9,hcp];clear e9 S9
  refine k_m rfl ?_
  refine rC (Calm.extract rfl rfl) ?_
  refine rC (Calm.extract rfl rfl) ?_
  refine rC (Calm.extract rfl rfl) ?_
  refine k_s rfl (k_s rfl (k_e rfl ?_))
  refine k_u [(0,_),(1,_),(2,_),(3,_),(8,_),(23,_),(26,_),(9,_),(10,_),(11,_)] ?_
  refine k_a (k_m rfl (k_m rfl ?_))
  refine ARun.call (lit_lt rfl) go_8 rfl (fd_Make c (p:Int) _) ?_
  rintro _ S1 hm
  obtain ⟨p1,c1,n2,p2,c2,p3,c3,p4,c4,hyy⟩:=hm.yes h0
  obtain ⟨rfl,hS1,hyv⟩:=hyy y hye
  clear hyy hm
  refine k_m rfl ?_
  refine rC (Calm.extract rfl rfl) ?_
  refine rC (Calm.extract rfl rfl) ?_
  refine ARun.alloc (lit_lt rfl) ty_zero_33 ?_
  intro b12 f12
  have g12:=f12
  repeat ((with_reducible replace g12:=fresh_set g12);obtain ⟨g12,_⟩:=g12)
  try simp only [k_l1,k_l0,k_za,Nat.reduceAdd]
  first|refine k_A rfl rfl ty_size_33 ?_|refine k_B rfl rfl ty_size_33 ?_
  try simp only [k_ms,k_sz,k_ss,k_za,Nat.reduceAdd]
  refine k_e rfl ?_
  refine k_u [(0,_),(1,_),(2,_),(3,_),(8,_),(23,_),(26,_),(9,_),(10,_),(11,_),(12,_),(13,_)] ?_
  refine k_a ?_
  refine rC (ldA_ (cs:=[_,_,_,_,_,_,_,_]) ty_agg_33 ty_size_33 rfl) ?_
  refine k_m rfl ?_
  refine rC (Calm.lenStr (strT_spec ty_str_9) rfl) ?_
  refine ARun.call (lit_lt rfl) go_11 rfl (fd_Extract y 0 (s.size:Int) _ _ (hyv.less less_) (by decide) (by omega)) ?_
  rintro _ S9 ⟨rfl,e9⟩
  rw [e9,hall];clear e9 S9
  refine k_m rfl ?_
  refine rC (Calm.extract rfl rfl) ?_
  refine rC (Calm.extract rfl rfl) ?_
  refine k_s rfl (k_e rfl ?_)
  refine k_u [(0,_),(1,_),(2,_),(3,_),(8,_),(23,_),(26,_),(9,_),(10,_),(11,_),(12,_),(13,_),(14,_),(15,_)] ?_
  refine AWP.seq (k_a (k_m rfl ?_))
  refine rC (Calm.bin rfl rfl b_neq) ?_
  refine k_m rfl ?_
  first|refine k_q 48 ?_|refine rG 48 (Calm.move rfl) ?_
  first|refine k_q 48 ?_|refine rG 48 (Calm.bin rfl rfl b_neq) ?_
  first|refine k_t rfl rfl ?_|refine k_f rfl rfl ?_
  refine k_m rfl ?_
  first|refine k_q 52 ?_|refine rG 52 (Calm.move rfl) ?_
  first|refine k_q 52 ?_|refine rG 52 (Calm.bin rfl rfl b_neq) ?_
  first|refine k_t rfl rfl ?_|refine k_f rfl rfl ?_
  refine k_m rfl ?_
  first|refine k_q 56 ?_|refine rG 56 (Calm.move rfl) ?_
  first|refine k_q 56 ?_|refine rG 56 (Calm.move rfl) ?_
  first|refine k_q 56 ?_|refine rG 56 (Calm.bin rfl rfl (bin_bool (bin_str_neq _ _) (by rw [decide_eq_true (Eq.refl s)];first | done | rfl))) ?_
  first|refine k_t rfl rfl ?_|refine k_f rfl rfl ?_
  refine k_n ?_
  refine k_u [(0,_),(1,_),(2,_),(3,_),(8,_),(23,_),(26,_),(9,_),(10,_),(11,_),(12,_),(13,_),(14,_),(15,_),(60,_)] ?_
  refine k_F rfl ?_
  refine k_k (k_a ?_)
  refine rC (ldA_ (cs:=[_,_,_,_,_,_,_,_]) ty_agg_33 ty_size_33 rfl) ?_
  refine k_m rfl (k_m rfl ?_)
  refine ARun.call (lit_lt rfl) go_11 rfl (fd_Extract y a n _ _ (hyv.less less_) ha64 hn64) ?_
  rintro _ S9 ⟨rfl,e9⟩
  rw [e9,he];clear e9 S9
  refine k_m rfl ?_
  refine rC (Calm.extract rfl rfl) ?_
  refine rC (Calm.extract rfl rfl) ?_
  refine k_s rfl (k_e rfl ?_)
  refine k_u [(0,_),(1,_),(2,_),(3,_),(8,_),(23,_),(26,_),(9,_),(10,_),(11,_),(12,_),(13,_),(14,_),(15,_),(60,_),(16,_),(17,_)] ?_
  refine AWP.seq (k_a (k_m rfl ?_))
  refine rC (Calm.bin rfl rfl b_neq) ?_
  refine k_n ?_
  refine k_u [(0,_),(1,_),(2,_),(3,_),(8,_),(23,_),(26,_),(9,_),(10,_),(11,_),(12,_),(13,_),(14,_),(15,_),(60,_),(16,_),(17,_),(69,_)] ?_
  refine k_F rfl ?_
  refine k_k (AWP.seq (k_a (k_m rfl ?_)))
  refine rC (Calm.bin rfl rfl b_lss) ?_
  refine k_m rfl ?_
  first|refine k_q 78 ?_|refine rG 78 (Calm.move rfl) ?_
  first|refine k_q 78 ?_|refine rG 78 (Calm.move rfl) ?_
  first|refine k_q 78 ?_|refine rG 78 (Calm.bin rfl rfl b_gtr) ?_
  first|refine k_t rfl rfl ?_|refine k_f rfl rfl ?_
  refine k_n ?_
  refine k_u [(0,_),(1,_),(2,_),(3,_),(8,_),(23,_),(26,_),(9,_),(10,_),(11,_),(12,_),(13,_),(14,_),(15,_),(60,_),(16,_),(17,_),(69,_),(82,_)] ?_
  refine k_T rfl ?_
  refine k_a (k_m rfl (k_m rfl (k_m rfl (k_m rfl ?_))))
  refine k_m rfl ?_
  refine rC (Calm.bin rfl rfl b_add_i64) ?_
  refine rC (Calm.as (congrArg Value.string (show s.extract ((a:Int)).toNat ((a:Int)+n).toNat=s.extract a (a+n) by rw [Int.toNat_natCast,show ((a:Int)+n).toNat=a+n by omega])) (Calm.sliceStr (strT_spec ty_str_9) rfl (bnd_some _ _ rfl (by omega) (by omega)) (bnd_some _ _ rfl (by omega) (by omega)))) ?_
  refine rC (Calm.bin rfl rfl (bin_bool (bin_str_eql _ _) (decide_eq_true rfl))) ?_
  refine k_e rfl ?_
  refine k_u [(0,_),(1,_),(2,_),(3,_),(8,_),(23,_),(26,_),(9,_),(10,_),(11,_),(12,_),(13,_),(14,_),(15,_),(60,_),(16,_),(17,_),(69,_),(82,_)] ?_
  refine k_r ?_
  refine ⟨_,_,⟨_,_,rfl,rfl,rfl⟩,less_,?_⟩
  rfl
 by_cases hm2:(n:Int)<mm
 ·skip
  refine ACall.enter (rs:=[.tmp 8]) 132 [(0,.string s),(1,.int .i64 (a:Int)),(2,.int .i64 (n:Int)),(3,.int .i64 mm)] Tryz.func5 rfl rfl (Nat.le_of_ble_eq_true rfl) rfl ⟨rfl,rfl,rfl,rfl,trivial⟩ ?_
  refine k_a (k_e rfl (AWP.seq (k_a ?_)))
  refine ARun.call (lit_lt rfl) go_6 rfl (fd_lives _) ?_
  rintro _ S9 ⟨rfl,e9⟩
  rw [e9];clear e9 S9
  refine rC (Calm.un rfl (una_not _)) ?_
  refine k_n ?_
  refine k_u [(0,_),(1,_),(2,_),(3,_),(8,_),(23,_)] ?_
  refine k_F rfl ?_
  refine k_k (AWP.seq (k_a (k_m rfl ?_)))
  refine rC (Calm.lenStr (strT_spec ty_str_9) rfl) ?_
  refine rC (Calm.bin rfl rfl b_gtr) ?_
  refine k_n ?_
  refine k_u [(0,_),(1,_),(2,_),(3,_),(8,_),(23,_),(26,_)] ?_
  refine k_F rfl ?_
  refine k_k (k_a (k_m rfl ?_))
  refine ARun.call (lit_lt rfl) go_7 rfl (od_Column s _ (by omega)) ?_
  rintro _ S9 ⟨rfl,e9⟩
  rw [e9,hcp];clear e9 S9
  refine k_m rfl ?_
  refine rC (Calm.extract rfl rfl) ?_
  refine rC (Calm.extract rfl rfl) ?_
  refine rC (Calm.extract rfl rfl) ?_
  refine k_s rfl (k_s rfl (k_e rfl ?_))
  refine k_u [(0,_),(1,_),(2,_),(3,_),(8,_),(23,_),(26,_),(9,_),(10,_),(11,_)] ?_
  refine k_a (k_m rfl (k_m rfl ?_))
  refine ARun.call (lit_lt rfl) go_8 rfl (fd_Make c (p:Int) _) ?_
  rintro _ S1 hm
  obtain ⟨p1,c1,n2,p2,c2,p3,c3,p4,c4,hyy⟩:=hm.yes h0
  obtain ⟨rfl,hS1,hyv⟩:=hyy y hye
  clear hyy hm
  refine k_m rfl ?_
  refine rC (Calm.extract rfl rfl) ?_
  refine rC (Calm.extract rfl rfl) ?_
  refine ARun.alloc (lit_lt rfl) ty_zero_33 ?_
  intro b12 f12
  have g12:=f12
  repeat ((with_reducible replace g12:=fresh_set g12);obtain ⟨g12,_⟩:=g12)
  try simp only [k_l1,k_l0,k_za,Nat.reduceAdd]
  first|refine k_A rfl rfl ty_size_33 ?_|refine k_B rfl rfl ty_size_33 ?_
  try simp only [k_ms,k_sz,k_ss,k_za,Nat.reduceAdd]
  refine k_e rfl ?_
  refine k_u [(0,_),(1,_),(2,_),(3,_),(8,_),(23,_),(26,_),(9,_),(10,_),(11,_),(12,_),(13,_)] ?_
  refine k_a ?_
  refine rC (ldA_ (cs:=[_,_,_,_,_,_,_,_]) ty_agg_33 ty_size_33 rfl) ?_
  refine k_m rfl ?_
  refine rC (Calm.lenStr (strT_spec ty_str_9) rfl) ?_
  refine ARun.call (lit_lt rfl) go_11 rfl (fd_Extract y 0 (s.size:Int) _ _ (hyv.less less_) (by decide) (by omega)) ?_
  rintro _ S9 ⟨rfl,e9⟩
  rw [e9,hall];clear e9 S9
  refine k_m rfl ?_
  refine rC (Calm.extract rfl rfl) ?_
  refine rC (Calm.extract rfl rfl) ?_
  refine k_s rfl (k_e rfl ?_)
  refine k_u [(0,_),(1,_),(2,_),(3,_),(8,_),(23,_),(26,_),(9,_),(10,_),(11,_),(12,_),(13,_),(14,_),(15,_)] ?_
  refine AWP.seq (k_a (k_m rfl ?_))
  refine rC (Calm.bin rfl rfl b_neq) ?_
  refine k_m rfl ?_
  first|refine k_q 48 ?_|refine rG 48 (Calm.move rfl) ?_
  first|refine k_q 48 ?_|refine rG 48 (Calm.bin rfl rfl b_neq) ?_
  first|refine k_t rfl rfl ?_|refine k_f rfl rfl ?_
  refine k_m rfl ?_
  first|refine k_q 52 ?_|refine rG 52 (Calm.move rfl) ?_
  first|refine k_q 52 ?_|refine rG 52 (Calm.bin rfl rfl b_neq) ?_
  first|refine k_t rfl rfl ?_|refine k_f rfl rfl ?_
  refine k_m rfl ?_
  first|refine k_q 56 ?_|refine rG 56 (Calm.move rfl) ?_
  first|refine k_q 56 ?_|refine rG 56 (Calm.move rfl) ?_
  first|refine k_q 56 ?_|refine rG 56 (Calm.bin rfl rfl (bin_bool (bin_str_neq _ _) (by rw [decide_eq_true (Eq.refl s)];first | done | rfl))) ?_
  first|refine k_t rfl rfl ?_|refine k_f rfl rfl ?_
  refine k_n ?_
  refine k_u [(0,_),(1,_),(2,_),(3,_),(8,_),(23,_),(26,_),(9,_),(10,_),(11,_),(12,_),(13,_),(14,_),(15,_),(60,_)] ?_
  refine k_F rfl ?_
  refine k_k (k_a ?_)
  refine rC (ldA_ (cs:=[_,_,_,_,_,_,_,_]) ty_agg_33 ty_size_33 rfl) ?_
  refine k_m rfl (k_m rfl ?_)
  refine ARun.call (lit_lt rfl) go_11 rfl (fd_Extract y a n _ _ (hyv.less less_) ha64 hn64) ?_
  rintro _ S9 ⟨rfl,e9⟩
  rw [e9,he];clear e9 S9
  refine k_m rfl ?_
  refine rC (Calm.extract rfl rfl) ?_
  refine rC (Calm.extract rfl rfl) ?_
  refine k_s rfl (k_e rfl ?_)
  refine k_u [(0,_),(1,_),(2,_),(3,_),(8,_),(23,_),(26,_),(9,_),(10,_),(11,_),(12,_),(13,_),(14,_),(15,_),(60,_),(16,_),(17,_)] ?_
  refine AWP.seq (k_a (k_m rfl ?_))
  refine rC (Calm.bin rfl rfl b_neq) ?_
  refine k_n ?_
  refine k_u [(0,_),(1,_),(2,_),(3,_),(8,_),(23,_),(26,_),(9,_),(10,_),(11,_),(12,_),(13,_),(14,_),(15,_),(60,_),(16,_),(17,_),(69,_)] ?_
  refine k_F rfl ?_
  refine k_k (AWP.seq (k_a (k_m rfl ?_)))
  refine rC (Calm.bin rfl rfl b_lss) ?_
  refine k_m rfl ?_
  first|refine k_q 78 ?_|refine rG 78 (Calm.move rfl) ?_
  first|refine k_q 78 ?_|refine rG 78 (Calm.move rfl) ?_
  first|refine k_q 78 ?_|refine rG 78 (Calm.bin rfl rfl b_gtr) ?_
  first|refine k_t rfl rfl ?_|refine k_f rfl rfl ?_
  refine k_n ?_
  refine k_u [(0,_),(1,_),(2,_),(3,_),(8,_),(23,_),(26,_),(9,_),(10,_),(11,_),(12,_),(13,_),(14,_),(15,_),(60,_),(16,_),(17,_),(69,_),(82,_)] ?_
  refine k_T rfl ?_
  refine k_a (k_m rfl (k_m rfl (k_m rfl (k_m rfl ?_))))
  refine k_m rfl ?_
  refine rC (Calm.bin rfl rfl b_add_i64) ?_
  refine rC (Calm.as (congrArg Value.string (show s.extract ((a:Int)).toNat ((a:Int)+n).toNat=s.extract a (a+n) by rw [Int.toNat_natCast,show ((a:Int)+n).toNat=a+n by omega])) (Calm.sliceStr (strT_spec ty_str_9) rfl (bnd_some _ _ rfl (by omega) (by omega)) (bnd_some _ _ rfl (by omega) (by omega)))) ?_
  refine rC (Calm.bin rfl rfl (bin_bool (bin_str_eql _ _) (decide_eq_true rfl))) ?_
  refine k_e rfl ?_
  refine k_u [(0,_),(1,_),(2,_),(3,_),(8,_),(23,_),(26,_),(9,_),(10,_),(11,_),(12,_),(13,_),(14,_),(15,_),(60,_),(16,_),(17,_),(69,_),(82,_)] ?_
  refine k_r ?_
  refine ⟨_,_,⟨_,_,rfl,rfl,rfl⟩,less_,?_⟩
  rfl
 obtain ⟨m,rfl⟩ : ∃ m:Nat,mm=m:=⟨mm.toNat,by omega⟩
 have hmn:m≤n:=by omega
 have he1:=fx_ext hk ht hcs a m (by omega)
 have he2:extP y ((a:Int)+m) ((n:Int)-m)=(s.extract (a+m) (a+n),0):=by
  have:=fx_ext hk ht hcs (a+m) (n-m) (by omega)
  rw [show ((a+m:Nat):Int)=(a:Int)+m by omega,show ((n-m:Nat):Int)=(n:Int)-m by omega,show a+m+(n-m)=a+n by omega] at this
  exact this
 have htwo:=ext_two s a m n hmn
 ·skip
  refine ACall.enter (rs:=[.tmp 8]) 132 [(0,.string s),(1,.int .i64 (a:Int)),(2,.int .i64 (n:Int)),(3,.int .i64 (m:Int))] Tryz.func5 rfl rfl (Nat.le_of_ble_eq_true rfl) rfl ⟨rfl,rfl,rfl,rfl,trivial⟩ ?_
  refine k_a (k_e rfl (AWP.seq (k_a ?_)))
  refine ARun.call (lit_lt rfl) go_6 rfl (fd_lives _) ?_
  rintro _ S9 ⟨rfl,e9⟩
  rw [e9];clear e9 S9
  refine rC (Calm.un rfl (una_not _)) ?_
  refine k_n ?_
  refine k_u [(0,_),(1,_),(2,_),(3,_),(8,_),(23,_)] ?_
  refine k_F rfl ?_
  refine k_k (AWP.seq (k_a (k_m rfl ?_)))
  refine rC (Calm.lenStr (strT_spec ty_str_9) rfl) ?_
  refine rC (Calm.bin rfl rfl b_gtr) ?_
  refine k_n ?_
  refine k_u [(0,_),(1,_),(2,_),(3,_),(8,_),(23,_),(26,_)] ?_
  refine k_F rfl ?_
  refine k_k (k_a (k_m rfl ?_))
  refine ARun.call (lit_lt rfl) go_7 rfl (od_Column s _ (by omega)) ?_
  rintro _ S9 ⟨rfl,e9⟩
  rw [e9,hcp];clear e9 S9
  refine k_m rfl ?_
  refine rC (Calm.extract rfl rfl) ?_
  refine rC (Calm.extract rfl rfl) ?_
  refine rC (Calm.extract rfl rfl) ?_
  refine k_s rfl (k_s rfl (k_e rfl ?_))
  refine k_u [(0,_),(1,_),(2,_),(3,_),(8,_),(23,_),(26,_),(9,_),(10,_),(11,_)] ?_
  refine k_a (k_m rfl (k_m rfl ?_))
  refine ARun.call (lit_lt rfl) go_8 rfl (fd_Make c (p:Int) _) ?_
  rintro _ S1 hm
  obtain ⟨p1,c1,n2,p2,c2,p3,c3,p4,c4,hyy⟩:=hm.yes h0
  obtain ⟨rfl,hS1,hyv⟩:=hyy y hye
  clear hyy hm
  refine k_m rfl ?_
  refine rC (Calm.extract rfl rfl) ?_
  refine rC (Calm.extract rfl rfl) ?_
  refine ARun.alloc (lit_lt rfl) ty_zero_33 ?_
  intro b12 f12
  have g12:=f12
  repeat ((with_reducible replace g12:=fresh_set g12);obtain ⟨g12,_⟩:=g12)
  try simp only [k_l1,k_l0,k_za,Nat.reduceAdd]
  first|refine k_A rfl rfl ty_size_33 ?_|refine k_B rfl rfl ty_size_33 ?_
  try simp only [k_ms,k_sz,k_ss,k_za,Nat.reduceAdd]
  refine k_e rfl ?_
  refine k_u [(0,_),(1,_),(2,_),(3,_),(8,_),(23,_),(26,_),(9,_),(10,_),(11,_),(12,_),(13,_)] ?_
  refine k_a ?_
  refine rC (ldA_ (cs:=[_,_,_,_,_,_,_,_]) ty_agg_33 ty_size_33 rfl) ?_
  refine k_m rfl ?_
  refine rC (Calm.lenStr (strT_spec ty_str_9) rfl) ?_
  refine ARun.call (lit_lt rfl) go_11 rfl (fd_Extract y 0 (s.size:Int) _ _ (hyv.less less_) (by decide) (by omega)) ?_
  rintro _ S9 ⟨rfl,e9⟩
  rw [e9,hall];clear e9 S9
  refine k_m rfl ?_
  refine rC (Calm.extract rfl rfl) ?_
  refine rC (Calm.extract rfl rfl) ?_
  refine k_s rfl (k_e rfl ?_)
  refine k_u [(0,_),(1,_),(2,_),(3,_),(8,_),(23,_),(26,_),(9,_),(10,_),(11,_),(12,_),(13,_),(14,_),(15,_)] ?_
  refine AWP.seq (k_a (k_m rfl ?_))
  refine rC (Calm.bin rfl rfl b_neq) ?_
  refine k_m rfl ?_
  first|refine k_q 48 ?_|refine rG 48 (Calm.move rfl) ?_
  first|refine k_q 48 ?_|refine rG 48 (Calm.bin rfl rfl b_neq) ?_
  first|refine k_t rfl rfl ?_|refine k_f rfl rfl ?_
  refine k_m rfl ?_
  first|refine k_q 52 ?_|refine rG 52 (Calm.move rfl) ?_
  first|refine k_q 52 ?_|refine rG 52 (Calm.bin rfl rfl b_neq) ?_
  first|refine k_t rfl rfl ?_|refine k_f rfl rfl ?_
  refine k_m rfl ?_
  first|refine k_q 56 ?_|refine rG 56 (Calm.move rfl) ?_
  first|refine k_q 56 ?_|refine rG 56 (Calm.move rfl) ?_
  first|refine k_q 56 ?_|refine rG 56 (Calm.bin rfl rfl (bin_bool (bin_str_neq _ _) (by rw [decide_eq_true (Eq.refl s)];first | done | rfl))) ?_
  first|refine k_t rfl rfl ?_|refine k_f rfl rfl ?_
  refine k_n ?_
  refine k_u [(0,_),(1,_),(2,_),(3,_),(8,_),(23,_),(26,_),(9,_),(10,_),(11,_),(12,_),(13,_),(14,_),(15,_),(60,_)] ?_
  refine k_F rfl ?_
  refine k_k (k_a ?_)
  refine rC (ldA_ (cs:=[_,_,_,_,_,_,_,_]) ty_agg_33 ty_size_33 rfl) ?_
  refine k_m rfl (k_m rfl ?_)
  refine ARun.call (lit_lt rfl) go_11 rfl (fd_Extract y a n _ _ (hyv.less less_) ha64 hn64) ?_
  rintro _ S9 ⟨rfl,e9⟩
  rw [e9,he];clear e9 S9
  refine k_m rfl ?_
  refine rC (Calm.extract rfl rfl) ?_
  refine rC (Calm.extract rfl rfl) ?_
  refine k_s rfl (k_e rfl ?_)
  refine k_u [(0,_),(1,_),(2,_),(3,_),(8,_),(23,_),(26,_),(9,_),(10,_),(11,_),(12,_),(13,_),(14,_),(15,_),(60,_),(16,_),(17,_)] ?_
  refine AWP.seq (k_a (k_m rfl ?_))
  refine rC (Calm.bin rfl rfl b_neq) ?_
  refine k_n ?_
  refine k_u [(0,_),(1,_),(2,_),(3,_),(8,_),(23,_),(26,_),(9,_),(10,_),(11,_),(12,_),(13,_),(14,_),(15,_),(60,_),(16,_),(17,_),(69,_)] ?_
  refine k_F rfl ?_
  refine k_k (AWP.seq (k_a (k_m rfl ?_)))
  refine rC (Calm.bin rfl rfl b_lss) ?_
  refine k_m rfl ?_
  first|refine k_q 78 ?_|refine rG 78 (Calm.move rfl) ?_
  first|refine k_q 78 ?_|refine rG 78 (Calm.move rfl) ?_
  first|refine k_q 78 ?_|refine rG 78 (Calm.bin rfl rfl b_gtr) ?_
  first|refine k_t rfl rfl ?_|refine k_f rfl rfl ?_
  refine k_n ?_
  refine k_u [(0,_),(1,_),(2,_),(3,_),(8,_),(23,_),(26,_),(9,_),(10,_),(11,_),(12,_),(13,_),(14,_),(15,_),(60,_),(16,_),(17,_),(69,_),(82,_)] ?_
  refine k_F rfl ?_
  refine k_k (k_a ?_)
  refine rC (ldA_ (cs:=[_,_,_,_,_,_,_,_]) ty_agg_33 ty_size_33 rfl) ?_
  refine k_m rfl (k_m rfl ?_)
  refine ARun.call (lit_lt rfl) go_11 rfl (fd_Extract y a m _ _ (hyv.less less_) ha64 hm64) ?_
  rintro _ S9 ⟨rfl,e9⟩
  rw [e9,he1];clear e9 S9
  refine k_m rfl ?_
  refine rC (Calm.extract rfl rfl) ?_
  refine rC (Calm.extract rfl rfl) ?_
  refine k_s rfl (k_e rfl ?_)
  refine k_u [(0,_),(1,_),(2,_),(3,_),(8,_),(23,_),(26,_),(9,_),(10,_),(11,_),(12,_),(13,_),(14,_),(15,_),(60,_),(16,_),(17,_),(69,_),(82,_),(18,_),(19,_)] ?_
  refine k_a ?_
  refine rC (ldA_ (cs:=[_,_,_,_,_,_,_,_]) ty_agg_33 ty_size_33 rfl) ?_
  refine k_m rfl (k_m rfl ?_)
  refine rC (Calm.bin rfl rfl b_add_i64) ?_
  refine k_m rfl (k_m rfl ?_)
  refine rC (Calm.bin rfl rfl b_sub_i64) ?_
  refine ARun.call (lit_lt rfl) go_11 rfl (fd_Extract y ((a:Int)+m) ((n:Int)-m) _ _ (hyv.less less_) (by omega) (by omega)) ?_
  rintro _ S9 ⟨rfl,e9⟩
  rw [e9,he2];clear e9 S9
  refine k_m rfl ?_
  refine rC (Calm.extract rfl rfl) ?_
  refine rC (Calm.extract rfl rfl) ?_
  refine k_s rfl (k_e rfl ?_)
  refine k_u [(0,_),(1,_),(2,_),(3,_),(8,_),(23,_),(26,_),(9,_),(10,_),(11,_),(12,_),(13,_),(14,_),(15,_),(60,_),(16,_),(17,_),(69,_),(82,_),(18,_),(19,_),(20,_),(21,_)] ?_
  refine k_a (k_m rfl ?_)
  refine rC (Calm.bin rfl rfl b_eql) ?_
  refine k_m rfl ?_
  first|refine k_q 111 ?_|refine rG 111 (Calm.move rfl) ?_
  first|refine k_q 111 ?_|refine rG 111 (Calm.bin rfl rfl b_eql) ?_
  first|refine k_t rfl rfl ?_|refine k_f rfl rfl ?_
  refine k_m rfl ?_
  first|refine k_q 115 ?_|refine rG 115 (Calm.move rfl) ?_
  first|refine k_q 115 ?_|refine rG 115 (Calm.move rfl) ?_
  first|refine k_q 115 ?_|refine rG 115 (Calm.as (congrArg Value.string htwo) (Calm.bin rfl rfl (bin_str_add (by have h1:=fx_esz s a (a+m);have h2:=fx_esz s (a+m) (a+n);dsimp only;omega)))) ?_
  first|refine k_q 115 ?_|refine rG 115 (Calm.move rfl) ?_
  first|refine k_q 115 ?_|refine rG 115 (Calm.bin rfl rfl (bin_bool (bin_str_eql _ _) (decide_eq_true rfl))) ?_
  first|refine k_t rfl rfl ?_|refine k_f rfl rfl ?_
  refine k_m rfl ?_
  first|refine k_q 122 ?_|refine rG 122 (Calm.move rfl) ?_
  first|refine k_q 122 ?_|refine rG 122 (Calm.move rfl) ?_
  first|refine k_q 122 ?_|refine rG 122 (Calm.move rfl) ?_
  first|refine k_q 122 ?_|refine rG 122 (Calm.move rfl) ?_
  first|refine k_q 122 ?_|refine rG 122 (Calm.move rfl) ?_
  first|refine k_q 122 ?_|refine rG 122 (Calm.bin rfl rfl b_add_i64) ?_
  first|refine k_q 122 ?_|refine rG 122 (Calm.as (congrArg Value.string (show s.extract ((a:Int)).toNat ((a:Int)+n).toNat=s.extract a (a+n) by rw [Int.toNat_natCast,show ((a:Int)+n).toNat=a+n by omega])) (Calm.sliceStr (strT_spec ty_str_9) rfl (bnd_some _ _ rfl (by omega) (by omega)) (bnd_some _ _ rfl (by omega) (by omega)))) ?_
  first|refine k_q 122 ?_|refine rG 122 (Calm.bin rfl rfl (bin_bool (bin_str_eql _ _) (decide_eq_true rfl))) ?_
  first|refine k_t rfl rfl ?_|refine k_f rfl rfl ?_
  refine k_e rfl ?_
  refine k_u [(0,_),(1,_),(2,_),(3,_),(8,_),(23,_),(26,_),(9,_),(10,_),(11,_),(12,_),(13,_),(14,_),(15,_),(60,_),(16,_),(17,_),(69,_),(82,_),(18,_),(19,_),(20,_),(21,_)] ?_
  refine AWP.ret ?_
  refine ⟨_,_,⟨_,_,rfl,rfl,rfl⟩,less_,?_⟩
  rfl
theorem walk_FindExtracts (s : ByteArray) (a b d : Int) (W : World) (w0 : s.size ≤ maxLen) (z0 : s.size < 140737488355328) (w1 : (Lit.int .i64 a).wf = true) (w2 : (Lit.int .i64 b).wf = true) (w3 : (Lit.int .i64 d).wf = true) :
  Calls Tryz.prog 5 #[.string s,.int .i64 a,.int .i64 b,.int .i64 d] W fun e w'=>e = .returned (.bool true)∧Below W.heap.size W w' :=
 ACall.callsW (law_FindExtracts s a b d _ (by omega) (by have:=wf64 w1;omega) (by have:=wf64 w2;omega) (by have:=wf64 w3;omega))
end Go.Proofs.YtgidjbpgkeemiaaGreat
