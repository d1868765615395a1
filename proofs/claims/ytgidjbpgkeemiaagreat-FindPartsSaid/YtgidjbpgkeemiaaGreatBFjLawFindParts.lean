/-
  The walk of LawFindParts.
-/
import Derived.Test.YtgidjbpgkeemiaaGreatBFj8
set_option linter.unusedVariables false
set_option linter.unusedSimpArgs false
set_option linter.unusedSectionVars false
namespace Go.Proofs.YtgidjbpgkeemiaaGreat
open Go.RowKit
open Mv Num Loser Srt
set_option maxRecDepth 8000
set_option maxHeartbeats 8000000 in
theorem law_FindParts (s w : ByteArray) (cc : Nat) (S : Mem) (hs : s.size ≤ 140737488355327) (hw : w.size ≤ 140737488355327) (hcc : cc < 256) :
  ACall Tryz.prog 4 #[.string s,.string w,.int .u8 (cc:Int)] S fun r _=>r = .bool true:=by
 by_cases hb:150<s.size
 ·skip
  refine ACall.enter (rs:=[.tmp 6]) 132 [(0,.string s),(1,.string w),(2,.int .u8 (cc:Int))] Tryz.func4 rfl rfl (Nat.le_of_ble_eq_true rfl) rfl ⟨rfl,rfl,rfl,trivial⟩ ?_
  refine k_a (k_e rfl (AWP.seq (k_a ?_)))
  refine ARun.call (lit_lt rfl) go_6 rfl (fd_lives _) ?_
  rintro _ S9 ⟨rfl,e9⟩
  rw [e9];clear e9 S9
  refine rC (Calm.un rfl (una_not _)) ?_
  refine k_n ?_
  refine k_u [(0,_),(1,_),(2,_),(6,_),(24,_)] ?_
  refine k_F rfl ?_
  refine k_k (AWP.seq (k_a (k_m rfl ?_)))
  refine rC (Calm.lenStr (strT_spec ty_str_9) rfl) ?_
  refine rC (Calm.bin rfl rfl b_gtr) ?_
  refine k_n ?_
  refine k_u [(0,_),(1,_),(2,_),(6,_),(24,_),(27,_)] ?_
  refine k_T rfl ?_
  refine k_a (k_e rfl ?_)
  refine k_r ?_
  refine ⟨_,_,⟨_,_,rfl,rfl,rfl⟩,less_,?_⟩
  rfl
 obtain ⟨c,p,hcp,htp⟩:=fx_col s (by omega)
 have h0:(textP c (p:Int)).2=0:=by rw [htp]
 obtain ⟨y,hy,hk,ht,hcs⟩:=fx_index htp
 have hye:y=ixP c ((p:Int)).toNat (textP c (p:Int)).1:=by rw [hy,htp,Int.toNat_natCast]
 obtain ⟨T,hT⟩ : ∃ T,T=numsT s:=⟨_,rfl⟩
 obtain ⟨W,hW⟩ : ∃ W,W=numsT w:=⟨_,rfl⟩
 have hTl:T.length=s.size:=by rw [hT,numsT_length]
 have hT8:∀ x ∈ T,x<256:=by rw [hT];exact nums_lt s
 have hle:∀ V,Fd.begN T V≤151:=fun V=>Nat.le_trans (begN_le T V) (by omega)
 have bsz:∀ k,(bs [UInt8.ofNat k]).size=1:=fun k=>by rw [bs_size];rfl
 have hn:=fx_count hk ht w
 rw [← hT,← hW] at hn
 have ha:=fx_count hk ht (w ++ bs [UInt8.ofNat cc])
 rw [← hT,nums_app,← hW,nums_byte hcc] at ha
 have hbb:∀ k,k<256→((rangeP y (bs [UInt8.ofNat k] ++ w)).2.1:Int)-(rangeP y (bs [UInt8.ofNat k] ++ w)).1=(Fd.begN T (k :: W):Nat)∧(rangeP y (bs [UInt8.ofNat k] ++ w)).2.2=0:=fun k hk'=>by
  have:=fx_count hk ht (bs [UInt8.ofNat k] ++ w)
  rw [← hT,nums_app,← hW,nums_byte hk',List.singleton_append] at this
  exact this
 have q1:=Fd.beg_more T W cc
 have q2:=Fd.beg_le T W cc hT8 hcc
 have q3:=Fd.beh_all T W hT8
 have l1:=hle W
 have l2:=hle (W ++ [cc])
 have l3:=hle (cc :: W)
 refine ACall.enter (rs:=[.tmp 6]) 132 [(0,.string s),(1,.string w),(2,.int .u8 (cc:Int))] Tryz.func4 rfl rfl (Nat.le_of_ble_eq_true rfl) rfl ⟨rfl,rfl,rfl,trivial⟩ ?_
 refine k_a (k_e rfl (AWP.seq (k_a ?_)))
 refine ARun.call (lit_lt rfl) go_6 rfl (fd_lives _) ?_
 rintro _ S9 ⟨rfl,e9⟩
 rw [e9];clear e9 S9
 refine rC (Calm.un rfl (una_not _)) ?_
 refine k_n ?_
 refine k_u [(0,_),(1,_),(2,_),(6,_),(24,_)] ?_
 refine k_F rfl ?_
 refine k_k (AWP.seq (k_a (k_m rfl ?_)))
 refine rC (Calm.lenStr (strT_spec ty_str_9) rfl) ?_
 refine rC (Calm.bin rfl rfl b_gtr) ?_
 refine k_n ?_
 refine k_u [(0,_),(1,_),(2,_),(6,_),(24,_),(27,_)] ?_
 refine k_F rfl ?_
 refine k_k (k_a (k_m rfl ?_))
 refine ARun.call (lit_lt rfl) go_7 rfl (od_Column s _ (by omega)) ?_
 rintro _ S9 ⟨rfl,e9⟩
 rw [e9,hcp];clear e9 S9
 refine k_m rfl ?_
 refine rC (Calm.extract rfl rfl) ?_
 refine rC (Calm.extract rfl rfl) ?_
 refine rC (Calm.extract rfl rfl) ?_
 refine k_s rfl (k_s rfl (k_e rfl ?_))
 refine k_u [(0,_),(1,_),(2,_),(6,_),(24,_),(27,_),(7,_),(8,_),(9,_)] ?_
 refine k_a (k_m rfl (k_m rfl ?_))
 refine ARun.call (lit_lt rfl) go_8 rfl (fd_Make c (p:Int) _) ?_
 rintro _ S1 hm
 obtain ⟨p1,c1,n2,p2,c2,p3,c3,p4,c4,hyy⟩:=hm.yes h0
 obtain ⟨rfl,hS1,hyv⟩:=hyy y hye
 clear hyy hm
 refine k_m rfl ?_
 refine rC (Calm.extract rfl rfl) ?_
 refine rC (Calm.extract rfl rfl) ?_
 refine ARun.alloc (lit_lt rfl) ty_zero_33 ?_
 intro b10 f10
 have g10:=f10
 repeat ((with_reducible replace g10:=fresh_set g10);obtain ⟨g10,_⟩:=g10)
 try simp only [k_l1,k_l0,k_za,Nat.reduceAdd]
 first|refine k_A rfl rfl ty_size_33 ?_|refine k_B rfl rfl ty_size_33 ?_
 try simp only [k_ms,k_sz,k_ss,k_za,Nat.reduceAdd]
 refine k_e rfl ?_
 refine k_u [(0,_),(1,_),(2,_),(6,_),(24,_),(27,_),(7,_),(8,_),(9,_),(10,_),(11,_)] ?_
 refine k_a ?_
 refine rC (ldA_ (cs:=[_,_,_,_,_,_,_,_]) ty_agg_33 ty_size_33 rfl) ?_
 refine k_m rfl ?_
 refine ARun.call (lit_lt rfl) go_10 rfl (fd_Count y w _ _ (hyv.less less_) (by omega)) ?_
 rintro _ S9 ⟨rfl,e9⟩
 rw [e9,hn.1,hn.2];clear e9 S9
 refine k_m rfl ?_
 refine rC (Calm.extract rfl rfl) ?_
 refine rC (Calm.extract rfl rfl) ?_
 refine k_s rfl (k_e rfl ?_)
 refine k_u [(0,_),(1,_),(2,_),(6,_),(24,_),(27,_),(7,_),(8,_),(9,_),(10,_),(11,_),(12,_),(13,_)] ?_
 refine k_a ?_
 refine rC (ldA_ (cs:=[_,_,_,_,_,_,_,_]) ty_agg_33 ty_size_33 rfl) ?_
 refine k_m rfl (k_m rfl ?_)
 refine ARun.build1s (lit_lt rfl) ty_sl_41 rfl rfl ?_
 intro b50 f50
 have g50:=f50
 repeat ((with_reducible replace g50:=fresh_set g50);obtain ⟨g50,_⟩:=g50)
 refine rC (Calm.toStr (l:=[UInt8.ofNat cc]) ty_bytes_41 ty_str_9 rfl rfl (rds_ownE (Mem.own_set_same _ b50 _) (cells_byte hcc).symm)) ?_
 refine rC (Calm.bin rfl rfl (bin_str_add (by rw [bsz];omega))) ?_
 refine ARun.call (lit_lt rfl) go_10 rfl (fd_Count y (w ++ bs [UInt8.ofNat cc]) _ _ (hyv.less less_) (by rw [app_size,bsz];omega)) ?_
 rintro _ S9 ⟨rfl,e9⟩
 rw [e9,ha.1,ha.2];clear e9 S9
 refine k_m rfl ?_
 refine rC (Calm.extract rfl rfl) ?_
 refine rC (Calm.extract rfl rfl) ?_
 refine k_s rfl (k_e rfl ?_)
 refine k_u [(0,_),(1,_),(2,_),(6,_),(24,_),(27,_),(7,_),(8,_),(9,_),(10,_),(11,_),(12,_),(13,_),(14,_),(15,_)] ?_
 refine k_a ?_
 refine rC (ldA_ (cs:=[_,_,_,_,_,_,_,_]) ty_agg_33 ty_size_33 rfl) ?_
 refine k_m rfl ?_
 refine ARun.build1s (lit_lt rfl) ty_sl_41 rfl rfl ?_
 intro b59 f59
 have g59:=f59
 repeat ((with_reducible replace g59:=fresh_set g59);obtain ⟨g59,_⟩:=g59)
 refine rC (Calm.toStr (l:=[UInt8.ofNat cc]) ty_bytes_41 ty_str_9 rfl rfl (rds_ownE (Mem.own_set_same _ b59 _) (cells_byte hcc).symm)) ?_
 refine k_m rfl ?_
 refine rC (Calm.bin rfl rfl (bin_str_add (by rw [bsz];omega))) ?_
 refine ARun.call (lit_lt rfl) go_10 rfl (fd_Count y (bs [UInt8.ofNat cc] ++ w) _ _ (hyv.less less_) (by rw [app_size,bsz];omega)) ?_
 rintro _ S9 ⟨rfl,e9⟩
 rw [e9,(hbb cc hcc).1,(hbb cc hcc).2];clear e9 S9
 refine k_m rfl ?_
 refine rC (Calm.extract rfl rfl) ?_
 refine rC (Calm.extract rfl rfl) ?_
 refine k_s rfl (k_e rfl ?_)
 refine k_u [(0,_),(1,_),(2,_),(6,_),(24,_),(27,_),(7,_),(8,_),(9,_),(10,_),(11,_),(12,_),(13,_),(14,_),(15,_),(16,_),(17,_)] ?_
 refine AWP.seq (k_a (k_m rfl ?_))
 refine rC (Calm.bin rfl rfl b_neq) ?_
 refine k_m rfl ?_
 first|refine k_q 68 ?_|refine rG 68 (Calm.move rfl) ?_
 first|refine k_q 68 ?_|refine rG 68 (Calm.bin rfl rfl b_neq) ?_
 first|refine k_t rfl rfl ?_|refine k_f rfl rfl ?_
 refine k_m rfl ?_
 first|refine k_q 72 ?_|refine rG 72 (Calm.move rfl) ?_
 first|refine k_q 72 ?_|refine rG 72 (Calm.bin rfl rfl b_neq) ?_
 first|refine k_t rfl rfl ?_|refine k_f rfl rfl ?_
 refine k_m rfl ?_
 first|refine k_q 76 ?_|refine rG 76 (Calm.move rfl) ?_
 first|refine k_q 76 ?_|refine rG 76 (Calm.bin rfl rfl b_neq) ?_
 first|refine k_t rfl rfl ?_|refine k_f rfl rfl ?_
 refine k_m rfl ?_
 first|refine k_q 80 ?_|refine rG 80 (Calm.move rfl) ?_
 first|refine k_q 80 ?_|refine rG 80 (Calm.bin rfl rfl b_neq) ?_
 first|refine k_t rfl rfl ?_|refine k_f rfl rfl ?_
 refine k_m rfl ?_
 first|refine k_q 84 ?_|refine rG 84 (Calm.move rfl) ?_
 first|refine k_q 84 ?_|refine rG 84 (Calm.move rfl) ?_
 first|refine k_q 84 ?_|refine rG 84 (Calm.bin rfl rfl (bin_bool (bin_gtr _ _) (decide_eq_false (by omega)))) ?_
 first|refine k_t rfl rfl ?_|refine k_f rfl rfl ?_
 refine k_m rfl ?_
 first|refine k_q 89 ?_|refine rG 89 (Calm.move rfl) ?_
 first|refine k_q 89 ?_|refine rG 89 (Calm.move rfl) ?_
 first|refine k_q 89 ?_|refine rG 89 (Calm.bin rfl rfl (bin_bool (bin_gtr _ _) (decide_eq_false (by omega)))) ?_
 first|refine k_t rfl rfl ?_|refine k_f rfl rfl ?_
 refine k_n ?_
 refine k_u [(0,_),(1,_),(2,_),(6,_),(24,_),(27,_),(7,_),(8,_),(9,_),(10,_),(11,_),(12,_),(13,_),(14,_),(15,_),(16,_),(17,_),(93,_)] ?_
 refine k_F rfl ?_
 refine k_k (k_a (k_e rfl (AWP.seq (k_a ?_))))
 refine k_e rfl ?_
 refine AWP.block ?_
 refine AWP.loop (X:=Nat) (fun i=>[(0,.string s),(1,.string w),(10,.pointer (some ⟨b10,0,none⟩)),(12,.int .i64 (Fd.begN T W:Nat)),(18,.int .i64 (Fd.behN T W i:Nat)),(19,.int .i64 i)]) (fun i=>S1.set b10 ⟨33,[.string y.col,.int .i64 y.pri,.slice p1 y.fir.length c1,.slice p2 n2 c2,.string y.bits,.int .i64 y.n,.slice p3 y.cnts.length c3,.slice p4 y.plcs.length c4],8⟩) (fun i=>i≤256) (fun i=>256-i) (0) ⟨sq_,sq_,sq_,sq_,some_int (by rw [Fd.beh_zero];rfl),sq_,trivial⟩ less_ (Nat.zero_le _) ?_
 rintro i hi
 (try dsimp only at *)
 have hbl:=Fd.beh_le T W i
 by_cases hil:i<256
 ·have l4:=hle (i :: W)
  refine AWP.seq (k_a (k_m rfl ?_))
  refine rC (Calm.bin rfl rfl b_lss) ?_
  refine k_n ?_
  refine k_u [(0,_),(1,_),(10,_),(12,_),(18,_),(19,_),(95,_)] ?_
  refine k_T rfl ?_
  refine k_k (AWP.seq ?_)
  refine AWP.block ?_
  refine k_a ?_
  refine rC (ldA_ (cs:=[_,_,_,_,_,_,_,_]) ty_agg_33 ty_size_33 rfl) ?_
  refine k_m rfl ?_
  refine rC (Calm.conv rfl (by first | exact conv_intW Tryz.underlying3 Tryz.underlying5 (IntWalk.u8_in _ (by omega)) | exact conv_int Tryz.underlying3 Tryz.underlying5)) ?_
  refine ARun.build1s (lit_lt rfl) ty_sl_41 rfl rfl ?_
  intro b102 f102
  have g102:=f102
  repeat ((with_reducible replace g102:=fresh_set g102);obtain ⟨g102,_⟩:=g102)
  refine rC (Calm.toStr (l:=[UInt8.ofNat i]) ty_bytes_41 ty_str_9 rfl rfl (rds_ownE (Mem.own_set_same _ b102 _) (cells_byte hil).symm)) ?_
  refine k_m rfl ?_
  refine rC (Calm.bin rfl rfl (bin_str_add (by rw [bsz];omega))) ?_
  refine ARun.call (lit_lt rfl) go_10 rfl (fd_Count y (bs [UInt8.ofNat i] ++ w) _ _ (hyv.less less_) (by rw [app_size,bsz];omega)) ?_
  rintro _ S9 ⟨rfl,e9⟩
  rw [e9,(hbb i hil).1,(hbb i hil).2];clear e9 S9
  refine k_m rfl ?_
  refine rC (Calm.extract rfl rfl) ?_
  refine rC (Calm.extract rfl rfl) ?_
  refine k_s rfl (k_e rfl ?_)
  refine k_u [(0,_),(1,_),(10,_),(12,_),(18,_),(19,_),(95,_),(20,_),(21,_)] ?_
  refine AWP.seq (k_a (k_m rfl ?_))
  refine rC (Calm.bin rfl rfl b_neq) ?_
  refine k_n ?_
  refine k_u [(0,_),(1,_),(10,_),(12,_),(18,_),(19,_),(95,_),(20,_),(21,_),(110,_)] ?_
  refine k_F rfl ?_
  refine k_k ?_
  refine AWP.region ?_
  refine k_m rfl (k_m rfl ?_)
  refine rC (Calm.bin rfl rfl b_add_i64) ?_
  refine k_s rfl ?_
  refine arun_nil ?_
  refine ain_n ?_
  refine athen_n ?_
  refine k_u [(0,_),(1,_),(10,_),(12,_),(18,_),(19,_),(95,_),(20,_),(21,_),(110,_)] ?_
  refine AWP.region ?_
  refine k_m rfl ?_
  refine rC (Calm.bin rfl rfl b_add_i64) ?_
  refine k_e rfl ?_
  refine ⟨i+1,?_,?_,?_,?_⟩
  all_goals (try dsimp only)
  ·exact ⟨sq_,sq_,sq_,sq_,some_int (by rw [Fd.beh_step];omega),some_int (by omega),trivial⟩
  ·exact less_
  ·omega
  ·omega
 ·obtain rfl:i=256:=by omega
  refine AWP.seq (k_a (k_m rfl ?_))
  refine rC (Calm.bin rfl rfl b_lss) ?_
  refine k_n ?_
  refine k_u [(0,_),(1,_),(10,_),(12,_),(18,_),(19,_),(95,_)] ?_
  refine k_F rfl ?_
  by_cases hfit:w.size≤s.size
  ·have hcut:decide (s.extract 0 w.size=w)=Fd.beg W T:=by have:=cut_beg s w 0 (by omega);rw [Nat.zero_add,← hT,← hW,List.drop_zero] at this;exact this
   cases hqi:Fd.beg W T
   ·rw [hqi,if_neg Bool.false_ne_true] at q3
    refine AWP.exit ?_
    refine athen_exit ?_
    refine athen_exit ?_
    refine ain_same ?_
    refine athen_n ?_
    refine k_a (k_e rfl (AWP.seq (k_a (k_m rfl ?_))))
    refine rC (Calm.lenStr (strT_spec ty_str_9) rfl) ?_
    refine k_m rfl ?_
    refine rC (Calm.lenStr (strT_spec ty_str_9) rfl) ?_
    refine rC (Calm.bin rfl rfl b_geq) ?_
    refine k_m rfl ?_
    first|refine k_q 119 ?_|refine rG 119 (Calm.move rfl) ?_
    first|refine k_q 119 ?_|refine rG 119 (Calm.move rfl) ?_
    first|refine k_q 119 ?_|refine rG 119 (Calm.lenStr (strT_spec ty_str_9) rfl) ?_
    first|refine k_q 119 ?_|refine rG 119 (Calm.as (congrArg Value.string (show s.extract 0 ((w.size:Nat):Int).toNat=s.extract 0 w.size by rw [Int.toNat_natCast])) (Calm.sliceStr (strT_spec ty_str_9) rfl (bnd_some _ _ rfl (by omega) (by omega)) (bnd_none _ _))) ?_
    first|refine k_q 119 ?_|refine rG 119 (Calm.move rfl) ?_
    first|refine k_q 119 ?_|refine rG 119 (Calm.bin rfl rfl (bin_bool (bin_str_eql _ _) (hcut.trans hqi))) ?_
    first|refine k_t rfl rfl ?_|refine k_f rfl rfl ?_
    refine k_n ?_
    refine k_u [(0,_),(1,_),(10,_),(12,_),(18,_),(19,_),(95,_),(22,_),(126,_)] ?_
    refine k_F rfl ?_
    refine k_k (k_a (k_m rfl (k_m rfl ?_)))
    refine rC (Calm.bin rfl rfl b_sub_i64) ?_
    refine k_m rfl ?_
    refine rC (Calm.bin rfl rfl b_eql) ?_
    refine k_e rfl ?_
    refine k_u [(0,_),(1,_),(10,_),(12,_),(18,_),(19,_),(95,_),(22,_),(126,_),(6,_)] ?_
    refine AWP.ret ?_
    refine ⟨_,_,⟨_,_,rfl,rfl,rfl⟩,less_,?_⟩
    first | rfl | exact congrArg Value.bool (decide_eq_true (by omega))
   ·rw [hqi,if_pos rfl] at q3
    refine AWP.exit ?_
    refine athen_exit ?_
    refine athen_exit ?_
    refine ain_same ?_
    refine athen_n ?_
    refine k_a (k_e rfl (AWP.seq (k_a (k_m rfl ?_))))
    refine rC (Calm.lenStr (strT_spec ty_str_9) rfl) ?_
    refine k_m rfl ?_
    refine rC (Calm.lenStr (strT_spec ty_str_9) rfl) ?_
    refine rC (Calm.bin rfl rfl b_geq) ?_
    refine k_m rfl ?_
    first|refine k_q 119 ?_|refine rG 119 (Calm.move rfl) ?_
    first|refine k_q 119 ?_|refine rG 119 (Calm.move rfl) ?_
    first|refine k_q 119 ?_|refine rG 119 (Calm.lenStr (strT_spec ty_str_9) rfl) ?_
    first|refine k_q 119 ?_|refine rG 119 (Calm.as (congrArg Value.string (show s.extract 0 ((w.size:Nat):Int).toNat=s.extract 0 w.size by rw [Int.toNat_natCast])) (Calm.sliceStr (strT_spec ty_str_9) rfl (bnd_some _ _ rfl (by omega) (by omega)) (bnd_none _ _))) ?_
    first|refine k_q 119 ?_|refine rG 119 (Calm.move rfl) ?_
    first|refine k_q 119 ?_|refine rG 119 (Calm.bin rfl rfl (bin_bool (bin_str_eql _ _) (hcut.trans hqi))) ?_
    first|refine k_t rfl rfl ?_|refine k_f rfl rfl ?_
    refine k_n ?_
    refine k_u [(0,_),(1,_),(10,_),(12,_),(18,_),(19,_),(95,_),(22,_),(126,_)] ?_
    refine k_T rfl ?_
    refine AWP.region ?_
    refine k_e rfl (k_a (k_m rfl (k_m rfl ?_)))
    refine rC (Calm.bin rfl rfl b_sub_i64) ?_
    refine k_m rfl ?_
    refine rC (Calm.bin rfl rfl b_eql) ?_
    refine k_e rfl ?_
    refine k_u [(0,_),(1,_),(10,_),(12,_),(18,_),(19,_),(95,_),(22,_),(126,_),(6,_)] ?_
    refine AWP.ret ?_
    refine ⟨_,_,⟨_,_,rfl,rfl,rfl⟩,less_,?_⟩
    first | rfl | exact congrArg Value.bool (decide_eq_true (by omega))
  ·have hqi:=cut_no s w 0 (by omega) (Nat.zero_le _)
   rw [← hT,← hW,List.drop_zero] at hqi
   rw [hqi,if_neg Bool.false_ne_true] at q3
   refine AWP.exit ?_
   refine athen_exit ?_
   refine athen_exit ?_
   refine ain_same ?_
   refine athen_n ?_
   refine k_a (k_e rfl (AWP.seq (k_a (k_m rfl ?_))))
   refine rC (Calm.lenStr (strT_spec ty_str_9) rfl) ?_
   refine k_m rfl ?_
   refine rC (Calm.lenStr (strT_spec ty_str_9) rfl) ?_
   refine rC (Calm.bin rfl rfl b_geq) ?_
   refine k_m rfl ?_
   first|refine k_q 119 ?_|refine rG 119 (Calm.move rfl) ?_
   first|refine k_q 119 ?_|refine rG 119 (Calm.move rfl) ?_
   first|refine k_q 119 ?_|refine rG 119 (Calm.lenStr (strT_spec ty_str_9) rfl) ?_
   first|refine k_q 119 ?_|refine rG 119 (Calm.sliceStr (strT_spec ty_str_9) rfl (bnd_some _ _ rfl (by omega) (by omega)) (bnd_none _ _)) ?_
   first|refine k_q 119 ?_|refine rG 119 (Calm.move rfl) ?_
   first|refine k_q 119 ?_|refine rG 119 (Calm.bin rfl rfl (bin_str_eql _ _)) ?_
   first|refine k_t rfl rfl ?_|refine k_f rfl rfl ?_
   refine k_n ?_
   refine k_u [(0,_),(1,_),(10,_),(12,_),(18,_),(19,_),(95,_),(22,_),(126,_)] ?_
   refine k_F rfl ?_
   refine k_k (k_a (k_m rfl (k_m rfl ?_)))
   refine rC (Calm.bin rfl rfl b_sub_i64) ?_
   refine k_m rfl ?_
   refine rC (Calm.bin rfl rfl b_eql) ?_
   refine k_e rfl ?_
   refine k_u [(0,_),(1,_),(10,_),(12,_),(18,_),(19,_),(95,_),(22,_),(126,_),(6,_)] ?_
   refine AWP.ret ?_
   refine ⟨_,_,⟨_,_,rfl,rfl,rfl⟩,less_,?_⟩
   first | rfl | exact congrArg Value.bool (decide_eq_true (by omega))
theorem walk_FindParts (s w : ByteArray) (c : Int) (W : World) (w0 : s.size ≤ maxLen) (z0 : s.size < 140737488355328) (w1 : w.size ≤ maxLen) (z1 : w.size < 140737488355328) (w2 : (Lit.int .u8 c).wf = true) :
  Calls Tryz.prog 4 #[.string s,.string w,.int .u8 c] W fun e w'=>e = .returned (.bool true)∧Below W.heap.size W w':=by
 have:=wfu8 w2
 obtain ⟨k,rfl⟩ : ∃ k:Nat,c=k:=⟨c.toNat,by omega⟩
 exact ACall.callsW (law_FindParts s w k _ (by omega) (by omega) (by omega))
end Go.Proofs.YtgidjbpgkeemiaaGreat
