/-
  The walk of LawFindFound.
-/
import Derived.Test.YtgidjbpgkeemiaaGreatBFj8
set_option linter.unusedVariables false
set_option linter.unusedSimpArgs false
set_option linter.unusedSectionVars false
namespace Go.Proofs.YtgidjbpgkeemiaaGreat
open Go.RowKit
open Mv Num Loser Srt
set_option maxRecDepth 8000
set_option maxHeartbeats 8000000 in
theorem law_FindFound (s w : ByteArray) (S : Mem) (hs : s.size ≤ 140737488355327) (hw : w.size ≤ 140737488355327) :
  ACall Tryz.prog 3 #[.string s,.string w] S fun r _=>r = .bool true:=by
 by_cases hb:150<s.size
 ·skip
  refine ACall.enter (rs:=[.tmp 4]) 111 [(0,.string s),(1,.string w)] Tryz.func3 rfl rfl (Nat.le_of_ble_eq_true rfl) rfl ⟨rfl,rfl,trivial⟩ ?_
  refine k_a (k_e rfl (AWP.seq (k_a ?_)))
  refine ARun.call (lit_lt rfl) go_6 rfl (fd_lives _) ?_
  rintro _ S9 ⟨rfl,e9⟩
  rw [e9];clear e9 S9
  refine rC (Calm.un rfl (una_not _)) ?_
  refine k_n ?_
  refine k_u [(0,_),(1,_),(4,_),(18,_)] ?_
  refine k_F rfl ?_
  refine k_k (AWP.seq (k_a (k_m rfl ?_)))
  refine rC (Calm.lenStr (strT_spec ty_str_9) rfl) ?_
  refine rC (Calm.bin rfl rfl b_gtr) ?_
  refine k_n ?_
  refine k_u [(0,_),(1,_),(4,_),(18,_),(21,_)] ?_
  refine k_T rfl ?_
  refine k_a (k_e rfl ?_)
  refine k_r ?_
  refine ⟨_,_,⟨_,_,rfl,rfl,rfl⟩,less_,?_⟩
  rfl
 obtain ⟨c,p,hcp,htp⟩:=fx_col s (by omega)
 have h0:(textP c (p:Int)).2=0:=by rw [htp]
 obtain ⟨y,hy,hk,ht,hcs⟩:=fx_index htp
 have hye:y=ixP c ((p:Int)).toNat (textP c (p:Int)).1:=by rw [hy,htp,Int.toNat_natCast]
 have hloc:=fx_loc hk ht w
 have hcnt:=fx_count hk ht w
 obtain ⟨T,hT⟩ : ∃ T,T=numsT s:=⟨_,rfl⟩
 obtain ⟨W,hW⟩ : ∃ W,W=numsT w:=⟨_,rfl⟩
 rw [← hT,← hW] at hloc hcnt
 have hTl:T.length=s.size:=by rw [hT,numsT_length]
 obtain ⟨q,hq⟩ : ∃ q:Nat→Bool,q=fun a=>Fd.beg W (T.drop a):=⟨_,rfl⟩
 have hplq:Fd.plcs T W=(List.range (s.size+1)).filter q:=by unfold Fd.plcs;rw [hTl,hq]
 obtain ⟨L,hL⟩ : ∃ L,L=Fd.plcs T W:=⟨_,rfl⟩
 have hbl:Fd.begN T W=L.length:=by have h1:=Fd.to_from T W;have h2:=Fd.plcs_count T W;rw [← hL] at h2;omega
 have hLl:L.length≤4097:=by rw [hL,hplq];exact Nat.le_trans (List.length_filter_le ..) (by rw [List.length_range];omega)
 rw [← hL] at hloc hplq
 rw [hbl] at hcnt
 refine ACall.enter (rs:=[.tmp 4]) 111 [(0,.string s),(1,.string w)] Tryz.func3 rfl rfl (Nat.le_of_ble_eq_true rfl) rfl ⟨rfl,rfl,trivial⟩ ?_
 refine k_a (k_e rfl (AWP.seq (k_a ?_)))
 refine ARun.call (lit_lt rfl) go_6 rfl (fd_lives _) ?_
 rintro _ S9 ⟨rfl,e9⟩
 rw [e9];clear e9 S9
 refine rC (Calm.un rfl (una_not _)) ?_
 refine k_n ?_
 refine k_u [(0,_),(1,_),(4,_),(18,_)] ?_
 refine k_F rfl ?_
 refine k_k (AWP.seq (k_a (k_m rfl ?_)))
 refine rC (Calm.lenStr (strT_spec ty_str_9) rfl) ?_
 refine rC (Calm.bin rfl rfl b_gtr) ?_
 refine k_n ?_
 refine k_u [(0,_),(1,_),(4,_),(18,_),(21,_)] ?_
 refine k_F rfl ?_
 refine k_k (k_a (k_m rfl ?_))
 refine ARun.call (lit_lt rfl) go_7 rfl (od_Column s _ (by omega)) ?_
 rintro _ S9 ⟨rfl,e9⟩
 rw [e9,hcp];clear e9 S9
 refine k_m rfl ?_
 refine rC (Calm.extract rfl rfl) ?_
 refine rC (Calm.extract rfl rfl) ?_
 refine rC (Calm.extract rfl rfl) ?_
 refine k_s rfl (k_s rfl (k_e rfl ?_))
 refine k_u [(0,_),(1,_),(4,_),(18,_),(21,_),(5,_),(6,_),(7,_)] ?_
 refine k_a (k_m rfl (k_m rfl ?_))
 refine ARun.call (lit_lt rfl) go_8 rfl (fd_Make c (p:Int) _) ?_
 rintro _ S1 hm
 obtain ⟨p1,c1,n2,p2,c2,p3,c3,p4,c4,hyy⟩:=hm.yes h0
 obtain ⟨rfl,hS1,hyv⟩:=hyy y hye
 clear hyy hm
 refine k_m rfl ?_
 refine rC (Calm.extract rfl rfl) ?_
 refine rC (Calm.extract rfl rfl) ?_
 refine ARun.alloc (lit_lt rfl) ty_zero_33 ?_
 intro b8 f8
 have g8:=f8
 repeat ((with_reducible replace g8:=fresh_set g8);obtain ⟨g8,_⟩:=g8)
 try simp only [k_l1,k_l0,k_za,Nat.reduceAdd]
 first|refine k_A rfl rfl ty_size_33 ?_|refine k_B rfl rfl ty_size_33 ?_
 try simp only [k_ms,k_sz,k_ss,k_za,Nat.reduceAdd]
 refine k_e rfl ?_
 refine k_u [(0,_),(1,_),(4,_),(18,_),(21,_),(5,_),(6,_),(7,_),(8,_),(9,_)] ?_
 refine k_a ?_
 refine rC (ldA_ (cs:=[_,_,_,_,_,_,_,_]) ty_agg_33 ty_size_33 rfl) ?_
 refine k_m rfl ?_
 refine ARun.call (lit_lt rfl) go_9 rfl (((fd_Locate y w _ S1 hyv (by omega)).frame f8)) ?_
 rintro _ _ ⟨S2,⟨v,rfl,hS2,hv⟩,f8b,rfl⟩
 rw [hloc] at hv ⊢
 replace hyv:=hyv.less hS2
 obtain ⟨va,vc,rfl,v1,v2,v3⟩:=id hv
 refine k_m rfl ?_
 refine rC (Calm.extract rfl rfl) ?_
 refine rC (Calm.extract rfl rfl) ?_
 refine k_s rfl (k_e rfl ?_)
 refine k_u [(0,_),(1,_),(4,_),(18,_),(21,_),(5,_),(6,_),(7,_),(8,_),(9,_),(10,_),(11,_)] ?_
 refine k_a ?_
 refine rC (ldA_ (cs:=[_,_,_,_,_,_,_,_]) ty_agg_33 ty_size_33 rfl) ?_
 refine k_m rfl ?_
 refine ARun.call (lit_lt rfl) go_10 rfl (fd_Count y w _ _ (hyv.less less_) (by omega)) ?_
 rintro _ S9 ⟨rfl,q9⟩
 rw [q9,hcnt.1,hcnt.2];clear q9 S9
 have hcl:(castL L).length=L.length:=List.length_map ..
 rw [hcl] at v1 v2 hv ⊢
 refine k_m rfl ?_
 refine rC (Calm.extract rfl rfl) ?_
 refine rC (Calm.extract rfl rfl) ?_
 refine k_s rfl (k_e rfl ?_)
 refine k_u [(0,_),(1,_),(4,_),(18,_),(21,_),(5,_),(6,_),(7,_),(8,_),(9,_),(10,_),(11,_),(12,_),(13,_)] ?_
 refine AWP.seq (k_a (k_m rfl ?_))
 refine rC (Calm.bin rfl rfl b_neq) ?_
 refine k_m rfl ?_
 first|refine k_q 48 ?_|refine rG 48 (Calm.move rfl) ?_
 first|refine k_q 48 ?_|refine rG 48 (Calm.bin rfl rfl b_neq) ?_
 first|refine k_t rfl rfl ?_|refine k_f rfl rfl ?_
 refine k_m rfl ?_
 first|refine k_q 52 ?_|refine rG 52 (Calm.move rfl) ?_
 first|refine k_q 52 ?_|refine rG 52 (Calm.bin rfl rfl b_neq) ?_
 first|refine k_t rfl rfl ?_|refine k_f rfl rfl ?_
 refine k_m rfl ?_
 first|refine k_q 56 ?_|refine rG 56 (Calm.move rfl) ?_
 first|refine k_q 56 ?_|refine rG 56 (Calm.bin rfl rfl b_neq) ?_
 first|refine k_t rfl rfl ?_|refine k_f rfl rfl ?_
 refine k_m rfl ?_
 first|refine k_q 60 ?_|refine rG 60 (Calm.move rfl) ?_
 first|refine k_q 60 ?_|refine rG 60 (Calm.move rfl) ?_
 first|refine k_q 60 ?_|refine rG 60 (Calm.lenSl Tryz.underlying26 rfl) ?_
 first|refine k_q 60 ?_|refine rG 60 (Calm.bin rfl rfl b_neq) ?_
 first|refine k_t rfl rfl ?_|refine k_f rfl rfl ?_
 refine k_n ?_
 refine k_u [(0,_),(1,_),(4,_),(18,_),(21,_),(5,_),(6,_),(7,_),(8,_),(9,_),(10,_),(11,_),(12,_),(13,_),(65,_)] ?_
 refine k_F rfl ?_
 refine k_k (k_a (k_e rfl (AWP.seq (k_a ?_))))
 refine k_e rfl ?_
 refine AWP.block ?_
 refine AWP.loop (X:=Nat) (fun i=>[(0,.string s),(1,.string w),(10,.slice va L.length vc),(14,.int .i64 (((List.range i).filter q).length:Nat)),(15,.int .i64 i)]) (fun i=>S2) (fun i=>i≤s.size+1) (fun i=>s.size+1-i) (0) ⟨rfl,rfl,rfl,rfl,rfl,trivial⟩ less_ (Nat.zero_le _) ?_
 rintro i hi
 (try dsimp only at *)
 have hfl:((List.range i).filter q).length≤4097:=Nat.le_trans (List.length_filter_le ..) (by rw [List.length_range];omega)
 by_cases hil:i<s.size+1
 ·have hap:=at_place q (s.size+1) i hil
  rw [← hplq] at hap
  have hnx:=filter_next q i
  refine AWP.seq (k_a (k_m rfl (k_m rfl ?_)))
  refine rC (Calm.lenStr (strT_spec ty_str_9) rfl) ?_
  refine rC (Calm.bin rfl rfl b_leq) ?_
  refine k_n ?_
  refine k_u [(0,_),(1,_),(10,_),(14,_),(15,_),(69,_)] ?_
  refine k_T rfl ?_
  cases hqi:q i
  ·rw [hqi,if_neg Bool.false_ne_true,List.append_nil] at hnx
   rw [hqi] at hap
   by_cases hkl:((List.range i).filter q).length<L.length
   ·have hne:L[((List.range i).filter q).length]'hkl≠i:=fun e=>of_decide_eq_false hap ⟨hkl,by rw [getD_get _ _ _ hkl];exact e⟩
    obtain ⟨vb,vo,rfl,hkn⟩:=v3.resolve_left (fun e=>by rw [e] at hcl;simp at hcl;omega)
    have hkk:=hkn ((List.range i).filter q).length (by omega)
    have hgl:(castL L)[((List.range i).filter q).length]'(by omega)=((L[((List.range i).filter q).length]'hkl:Nat):Int):=List.getElem_map ..
    rw [hgl] at hkk
    unfold i64s at hkk
    by_cases hfit:i+w.size≤s.size
    ·have hcut:decide (s.extract i (i+w.size)=w)=q i:=by rw [hq,hT,hW];exact cut_beg s w i hfit
     refine k_k (AWP.seq ?_)
     refine AWP.block ?_
     refine k_a (k_m rfl ?_)
     refine rC (Calm.lenStr (strT_spec ty_str_9) rfl) ?_
     refine k_m rfl ?_
     refine rC (Calm.bin rfl rfl b_sub_i64) ?_
     refine k_m rfl ?_
     refine rC (Calm.lenStr (strT_spec ty_str_9) rfl) ?_
     refine rC (Calm.bin rfl rfl b_geq) ?_
     refine k_m rfl ?_
     first|refine k_q 79 ?_|refine rG 79 (Calm.move rfl) ?_
     first|refine k_q 79 ?_|refine rG 79 (Calm.move rfl) ?_
     first|refine k_q 79 ?_|refine rG 79 (Calm.move rfl) ?_
     first|refine k_q 79 ?_|refine rG 79 (Calm.move rfl) ?_
     first|refine k_q 79 ?_|refine rG 79 (Calm.lenStr (strT_spec ty_str_9) rfl) ?_
     first|refine k_q 79 ?_|refine rG 79 (Calm.bin rfl rfl b_add_i64) ?_
     first|refine k_q 79 ?_|refine rG 79 (Calm.as (congrArg Value.string (show s.extract ((i:Int)).toNat ((i:Int)+w.size).toNat=s.extract i (i+w.size) by rw [Int.toNat_natCast,show ((i:Int)+w.size).toNat=i+w.size by omega])) (Calm.sliceStr (strT_spec ty_str_9) rfl (bnd_some _ _ rfl (by omega) (by omega)) (bnd_some _ _ rfl (by omega) (by omega)))) ?_
     first|refine k_q 79 ?_|refine rG 79 (Calm.move rfl) ?_
     first|refine k_q 79 ?_|refine rG 79 (Calm.bin rfl rfl (bin_bool (bin_str_eql _ _) (hcut.trans hqi))) ?_
     first|refine k_t rfl rfl ?_|refine k_f rfl rfl ?_
     refine k_e rfl ?_
     refine k_u [(0,_),(1,_),(10,_),(14,_),(15,_),(69,_),(16,_)] ?_
     refine AWP.seq (k_a (k_m rfl (k_m rfl (k_m rfl ?_))))
     refine rC (Calm.lenSl Tryz.underlying26 rfl) ?_
     refine rC (Calm.bin rfl rfl b_lss) ?_
     refine k_m rfl ?_
     first|refine k_q 95 ?_|refine rG 95 (Calm.move rfl) ?_
     first|refine k_q 95 ?_|refine rG 95 (Calm.move rfl) ?_
     first|refine k_q 95 ?_|refine rG 95 (Calm.indexS Tryz.underlying26 ty_size_3 rfl rfl (by omega) (by omega)) ?_
     first|refine k_q 95 ?_|refine rG 95 (ld_ ty_plain_3 rfl) ?_
     first|refine k_q 95 ?_|refine rG 95 (Calm.move rfl) ?_
     first|refine k_q 95 ?_|refine rG 95 (Calm.bin rfl rfl (bin_bool (bin_eql _ _) (decide_eq_false (by omega)))) ?_
     first|refine k_t rfl rfl ?_|refine k_f rfl rfl ?_
     refine rC (Calm.bin rfl rfl (bin_bool_neq _ _ Tryz.underlying4)) ?_
     refine k_n ?_
     refine k_u [(0,_),(1,_),(10,_),(14,_),(15,_),(69,_),(16,_),(103,_)] ?_
     refine k_F rfl ?_
     refine k_k (k_a (k_m rfl (k_n ?_)))
     refine k_F rfl ?_
     refine AWP.skip ?_
     refine ain_n ?_
     refine athen_n ?_
     refine AWP.region ?_
     refine k_m rfl ?_
     refine rC (Calm.bin rfl rfl b_add_i64) ?_
     refine k_e rfl ?_
     refine ⟨i+1,?_,?_,?_,?_⟩
     all_goals (try dsimp only)
     ·exact ⟨sq_,sq_,sq_,some_int (by rw [hnx]),some_int (by omega),trivial⟩
     ·exact Mem.Less.refl _
     ·omega
     ·omega
    ·refine k_k (AWP.seq ?_)
     refine AWP.block ?_
     refine k_a (k_m rfl ?_)
     refine rC (Calm.lenStr (strT_spec ty_str_9) rfl) ?_
     refine k_m rfl ?_
     refine rC (Calm.bin rfl rfl b_sub_i64) ?_
     refine k_m rfl ?_
     refine rC (Calm.lenStr (strT_spec ty_str_9) rfl) ?_
     refine rC (Calm.bin rfl rfl b_geq) ?_
     refine k_m rfl ?_
     first|refine k_q 79 ?_|refine rG 79 (Calm.move rfl) ?_
     first|refine k_q 79 ?_|refine rG 79 (Calm.move rfl) ?_
     first|refine k_q 79 ?_|refine rG 79 (Calm.move rfl) ?_
     first|refine k_q 79 ?_|refine rG 79 (Calm.move rfl) ?_
     first|refine k_q 79 ?_|refine rG 79 (Calm.lenStr (strT_spec ty_str_9) rfl) ?_
     first|refine k_q 79 ?_|refine rG 79 (Calm.bin rfl rfl b_add_i64) ?_
     first|refine k_q 79 ?_|refine rG 79 (Calm.sliceStr (strT_spec ty_str_9) rfl (bnd_some _ _ rfl (by omega) (by omega)) (bnd_some _ _ rfl (by omega) (by omega))) ?_
     first|refine k_q 79 ?_|refine rG 79 (Calm.move rfl) ?_
     first|refine k_q 79 ?_|refine rG 79 (Calm.bin rfl rfl (bin_str_eql _ _)) ?_
     first|refine k_t rfl rfl ?_|refine k_f rfl rfl ?_
     refine k_e rfl ?_
     refine k_u [(0,_),(1,_),(10,_),(14,_),(15,_),(69,_),(16,_)] ?_
     refine AWP.seq (k_a (k_m rfl (k_m rfl (k_m rfl ?_))))
     refine rC (Calm.lenSl Tryz.underlying26 rfl) ?_
     refine rC (Calm.bin rfl rfl b_lss) ?_
     refine k_m rfl ?_
     first|refine k_q 95 ?_|refine rG 95 (Calm.move rfl) ?_
     first|refine k_q 95 ?_|refine rG 95 (Calm.move rfl) ?_
     first|refine k_q 95 ?_|refine rG 95 (Calm.indexS Tryz.underlying26 ty_size_3 rfl rfl (by omega) (by omega)) ?_
     first|refine k_q 95 ?_|refine rG 95 (ld_ ty_plain_3 rfl) ?_
     first|refine k_q 95 ?_|refine rG 95 (Calm.move rfl) ?_
     first|refine k_q 95 ?_|refine rG 95 (Calm.bin rfl rfl (bin_bool (bin_eql _ _) (decide_eq_false (by omega)))) ?_
     first|refine k_t rfl rfl ?_|refine k_f rfl rfl ?_
     refine rC (Calm.bin rfl rfl (bin_bool_neq _ _ Tryz.underlying4)) ?_
     refine k_n ?_
     refine k_u [(0,_),(1,_),(10,_),(14,_),(15,_),(69,_),(16,_),(103,_)] ?_
     refine k_F rfl ?_
     refine k_k (k_a (k_m rfl (k_n ?_)))
     refine k_F rfl ?_
     refine AWP.skip ?_
     refine ain_n ?_
     refine athen_n ?_
     refine AWP.region ?_
     refine k_m rfl ?_
     refine rC (Calm.bin rfl rfl b_add_i64) ?_
     refine k_e rfl ?_
     refine ⟨i+1,?_,?_,?_,?_⟩
     all_goals (try dsimp only)
     ·exact ⟨sq_,sq_,sq_,some_int (by rw [hnx]),some_int (by omega),trivial⟩
     ·exact Mem.Less.refl _
     ·omega
     ·omega
   ·by_cases hfit:i+w.size≤s.size
    ·have hcut:decide (s.extract i (i+w.size)=w)=q i:=by rw [hq,hT,hW];exact cut_beg s w i hfit
     refine k_k (AWP.seq ?_)
     refine AWP.block ?_
     refine k_a (k_m rfl ?_)
     refine rC (Calm.lenStr (strT_spec ty_str_9) rfl) ?_
     refine k_m rfl ?_
     refine rC (Calm.bin rfl rfl b_sub_i64) ?_
     refine k_m rfl ?_
     refine rC (Calm.lenStr (strT_spec ty_str_9) rfl) ?_
     refine rC (Calm.bin rfl rfl b_geq) ?_
     refine k_m rfl ?_
     first|refine k_q 79 ?_|refine rG 79 (Calm.move rfl) ?_
     first|refine k_q 79 ?_|refine rG 79 (Calm.move rfl) ?_
     first|refine k_q 79 ?_|refine rG 79 (Calm.move rfl) ?_
     first|refine k_q 79 ?_|refine rG 79 (Calm.move rfl) ?_
     first|refine k_q 79 ?_|refine rG 79 (Calm.lenStr (strT_spec ty_str_9) rfl) ?_
     first|refine k_q 79 ?_|refine rG 79 (Calm.bin rfl rfl b_add_i64) ?_
     first|refine k_q 79 ?_|refine rG 79 (Calm.as (congrArg Value.string (show s.extract ((i:Int)).toNat ((i:Int)+w.size).toNat=s.extract i (i+w.size) by rw [Int.toNat_natCast,show ((i:Int)+w.size).toNat=i+w.size by omega])) (Calm.sliceStr (strT_spec ty_str_9) rfl (bnd_some _ _ rfl (by omega) (by omega)) (bnd_some _ _ rfl (by omega) (by omega)))) ?_
     first|refine k_q 79 ?_|refine rG 79 (Calm.move rfl) ?_
     first|refine k_q 79 ?_|refine rG 79 (Calm.bin rfl rfl (bin_bool (bin_str_eql _ _) (hcut.trans hqi))) ?_
     first|refine k_t rfl rfl ?_|refine k_f rfl rfl ?_
     refine k_e rfl ?_
     refine k_u [(0,_),(1,_),(10,_),(14,_),(15,_),(69,_),(16,_)] ?_
     refine AWP.seq (k_a (k_m rfl (k_m rfl (k_m rfl ?_))))
     refine rC (Calm.lenSl Tryz.underlying26 rfl) ?_
     refine rC (Calm.bin rfl rfl b_lss) ?_
     refine k_m rfl ?_
     first|refine k_q 95 ?_|refine rG 95 (Calm.move rfl) ?_
     first|refine k_q 95 ?_|refine rG 95 (Calm.move rfl) ?_
     first|refine k_q 95 ?_|refine rG 95 (Calm.indexS Tryz.underlying26 ty_size_3 rfl rfl (by omega) (by omega)) ?_
     first|refine k_q 95 ?_|refine rG 95 (ld_ ty_plain_3 rfl) ?_
     first|refine k_q 95 ?_|refine rG 95 (Calm.move rfl) ?_
     first|refine k_q 95 ?_|refine rG 95 (Calm.bin rfl rfl b_eql) ?_
     first|refine k_t rfl rfl ?_|refine k_f rfl rfl ?_
     refine rC (Calm.bin rfl rfl (bin_bool_neq _ _ Tryz.underlying4)) ?_
     refine k_n ?_
     refine k_u [(0,_),(1,_),(10,_),(14,_),(15,_),(69,_),(16,_),(103,_)] ?_
     refine k_F rfl ?_
     refine k_k (k_a (k_m rfl (k_n ?_)))
     refine k_F rfl ?_
     refine AWP.skip ?_
     refine ain_n ?_
     refine athen_n ?_
     refine AWP.region ?_
     refine k_m rfl ?_
     refine rC (Calm.bin rfl rfl b_add_i64) ?_
     refine k_e rfl ?_
     refine ⟨i+1,?_,?_,?_,?_⟩
     all_goals (try dsimp only)
     ·exact ⟨sq_,sq_,sq_,some_int (by rw [hnx]),some_int (by omega),trivial⟩
     ·exact Mem.Less.refl _
     ·omega
     ·omega
    ·refine k_k (AWP.seq ?_)
     refine AWP.block ?_
     refine k_a (k_m rfl ?_)
     refine rC (Calm.lenStr (strT_spec ty_str_9) rfl) ?_
     refine k_m rfl ?_
     refine rC (Calm.bin rfl rfl b_sub_i64) ?_
     refine k_m rfl ?_
     refine rC (Calm.lenStr (strT_spec ty_str_9) rfl) ?_
     refine rC (Calm.bin rfl rfl b_geq) ?_
     refine k_m rfl ?_
     first|refine k_q 79 ?_|refine rG 79 (Calm.move rfl) ?_
     first|refine k_q 79 ?_|refine rG 79 (Calm.move rfl) ?_
     first|refine k_q 79 ?_|refine rG 79 (Calm.move rfl) ?_
     first|refine k_q 79 ?_|refine rG 79 (Calm.move rfl) ?_
     first|refine k_q 79 ?_|refine rG 79 (Calm.lenStr (strT_spec ty_str_9) rfl) ?_
     first|refine k_q 79 ?_|refine rG 79 (Calm.bin rfl rfl b_add_i64) ?_
     first|refine k_q 79 ?_|refine rG 79 (Calm.sliceStr (strT_spec ty_str_9) rfl (bnd_some _ _ rfl (by omega) (by omega)) (bnd_some _ _ rfl (by omega) (by omega))) ?_
     first|refine k_q 79 ?_|refine rG 79 (Calm.move rfl) ?_
     first|refine k_q 79 ?_|refine rG 79 (Calm.bin rfl rfl (bin_str_eql _ _)) ?_
     first|refine k_t rfl rfl ?_|refine k_f rfl rfl ?_
     refine k_e rfl ?_
     refine k_u [(0,_),(1,_),(10,_),(14,_),(15,_),(69,_),(16,_)] ?_
     refine AWP.seq (k_a (k_m rfl (k_m rfl (k_m rfl ?_))))
     refine rC (Calm.lenSl Tryz.underlying26 rfl) ?_
     refine rC (Calm.bin rfl rfl b_lss) ?_
     refine k_m rfl ?_
     first|refine k_q 95 ?_|refine rG 95 (Calm.move rfl) ?_
     first|refine k_q 95 ?_|refine rG 95 (Calm.move rfl) ?_
     first|refine k_q 95 ?_|refine rG 95 (Calm.indexS Tryz.underlying26 ty_size_3 rfl rfl (by omega) (by omega)) ?_
     first|refine k_q 95 ?_|refine rG 95 (ld_ ty_plain_3 rfl) ?_
     first|refine k_q 95 ?_|refine rG 95 (Calm.move rfl) ?_
     first|refine k_q 95 ?_|refine rG 95 (Calm.bin rfl rfl b_eql) ?_
     first|refine k_t rfl rfl ?_|refine k_f rfl rfl ?_
     refine rC (Calm.bin rfl rfl (bin_bool_neq _ _ Tryz.underlying4)) ?_
     refine k_n ?_
     refine k_u [(0,_),(1,_),(10,_),(14,_),(15,_),(69,_),(16,_),(103,_)] ?_
     refine k_F rfl ?_
     refine k_k (k_a (k_m rfl (k_n ?_)))
     refine k_F rfl ?_
     refine AWP.skip ?_
     refine ain_n ?_
     refine athen_n ?_
     refine AWP.region ?_
     refine k_m rfl ?_
     refine rC (Calm.bin rfl rfl b_add_i64) ?_
     refine k_e rfl ?_
     refine ⟨i+1,?_,?_,?_,?_⟩
     all_goals (try dsimp only)
     ·exact ⟨sq_,sq_,sq_,some_int (by rw [hnx]),some_int (by omega),trivial⟩
     ·exact Mem.Less.refl _
     ·omega
     ·omega
  ·rw [hqi,if_pos rfl] at hnx
   rw [hqi] at hap
   obtain ⟨hkl,heq⟩:=of_decide_eq_true hap
   rw [getD_get _ _ _ hkl] at heq
   have hfit:i+w.size≤s.size:=by by_cases h:i+w.size≤s.size;exact h;(have:=cut_no s w i h (by omega);rw [← hT,← hW] at this;rw [hq] at hqi;exact absurd (this.symm.trans hqi) Bool.false_ne_true)
   have hcut:decide (s.extract i (i+w.size)=w)=q i:=by rw [hq,hT,hW];exact cut_beg s w i hfit
   obtain ⟨vb,vo,rfl,hkn⟩:=v3.resolve_left (fun e=>by rw [e] at hcl;simp at hcl;omega)
   have hkk:=hkn ((List.range i).filter q).length (by omega)
   have hgl:(castL L)[((List.range i).filter q).length]'(by omega)=((L[((List.range i).filter q).length]'hkl:Nat):Int):=List.getElem_map ..
   rw [hgl] at hkk
   unfold i64s at hkk
   refine k_k (AWP.seq ?_)
   refine AWP.block ?_
   refine k_a (k_m rfl ?_)
   refine rC (Calm.lenStr (strT_spec ty_str_9) rfl) ?_
   refine k_m rfl ?_
   refine rC (Calm.bin rfl rfl b_sub_i64) ?_
   refine k_m rfl ?_
   refine rC (Calm.lenStr (strT_spec ty_str_9) rfl) ?_
   refine rC (Calm.bin rfl rfl b_geq) ?_
   refine k_m rfl ?_
   first|refine k_q 79 ?_|refine rG 79 (Calm.move rfl) ?_
   first|refine k_q 79 ?_|refine rG 79 (Calm.move rfl) ?_
   first|refine k_q 79 ?_|refine rG 79 (Calm.move rfl) ?_
   first|refine k_q 79 ?_|refine rG 79 (Calm.move rfl) ?_
   first|refine k_q 79 ?_|refine rG 79 (Calm.lenStr (strT_spec ty_str_9) rfl) ?_
   first|refine k_q 79 ?_|refine rG 79 (Calm.bin rfl rfl b_add_i64) ?_
   first|refine k_q 79 ?_|refine rG 79 (Calm.as (congrArg Value.string (show s.extract ((i:Int)).toNat ((i:Int)+w.size).toNat=s.extract i (i+w.size) by rw [Int.toNat_natCast,show ((i:Int)+w.size).toNat=i+w.size by omega])) (Calm.sliceStr (strT_spec ty_str_9) rfl (bnd_some _ _ rfl (by omega) (by omega)) (bnd_some _ _ rfl (by omega) (by omega)))) ?_
   first|refine k_q 79 ?_|refine rG 79 (Calm.move rfl) ?_
   first|refine k_q 79 ?_|refine rG 79 (Calm.bin rfl rfl (bin_bool (bin_str_eql _ _) (hcut.trans hqi))) ?_
   first|refine k_t rfl rfl ?_|refine k_f rfl rfl ?_
   refine k_e rfl ?_
   refine k_u [(0,_),(1,_),(10,_),(14,_),(15,_),(69,_),(16,_)] ?_
   refine AWP.seq (k_a (k_m rfl (k_m rfl (k_m rfl ?_))))
   refine rC (Calm.lenSl Tryz.underlying26 rfl) ?_
   refine rC (Calm.bin rfl rfl b_lss) ?_
   refine k_m rfl ?_
   first|refine k_q 95 ?_|refine rG 95 (Calm.move rfl) ?_
   first|refine k_q 95 ?_|refine rG 95 (Calm.move rfl) ?_
   first|refine k_q 95 ?_|refine rG 95 (Calm.indexS Tryz.underlying26 ty_size_3 rfl rfl (by omega) (by omega)) ?_
   first|refine k_q 95 ?_|refine rG 95 (ld_ ty_plain_3 rfl) ?_
   first|refine k_q 95 ?_|refine rG 95 (Calm.move rfl) ?_
   first|refine k_q 95 ?_|refine rG 95 (Calm.bin rfl rfl (bin_bool (bin_eql _ _) (decide_eq_true (by omega)))) ?_
   first|refine k_t rfl rfl ?_|refine k_f rfl rfl ?_
   refine rC (Calm.bin rfl rfl (bin_bool_neq _ _ Tryz.underlying4)) ?_
   refine k_n ?_
   refine k_u [(0,_),(1,_),(10,_),(14,_),(15,_),(69,_),(16,_),(103,_)] ?_
   refine k_F rfl ?_
   refine k_k (k_a (k_m rfl (k_n ?_)))
   refine k_T rfl ?_
   refine AWP.region ?_
   refine k_m rfl ?_
   refine rC (Calm.bin rfl rfl b_add_i64) ?_
   refine k_s rfl ?_
   refine arun_nil ?_
   refine ain_n ?_
   refine athen_n ?_
   refine k_u [(0,_),(1,_),(10,_),(14,_),(15,_),(69,_),(16,_),(103,_),(104,_)] ?_
   refine AWP.region ?_
   refine k_m rfl ?_
   refine rC (Calm.bin rfl rfl b_add_i64) ?_
   refine k_e rfl ?_
   refine ⟨i+1,?_,?_,?_,?_⟩
   all_goals (try dsimp only)
   ·exact ⟨sq_,sq_,sq_,some_int (by rw [hnx,List.length_append,List.length_singleton];omega),some_int (by omega),trivial⟩
   ·exact Mem.Less.refl _
   ·omega
   ·omega
 ·obtain rfl:i=s.size+1:=by omega
  refine AWP.seq (k_a (k_m rfl (k_m rfl ?_)))
  refine rC (Calm.lenStr (strT_spec ty_str_9) rfl) ?_
  refine rC (Calm.bin rfl rfl b_leq) ?_
  refine k_n ?_
  refine k_u [(0,_),(1,_),(10,_),(14,_),(15,_),(69,_)] ?_
  refine k_F rfl ?_
  rw [← hplq] at hfl ⊢
  refine AWP.exit ?_
  refine athen_exit ?_
  refine athen_exit ?_
  refine ain_same ?_
  refine athen_n ?_
  refine k_a (k_m rfl (k_m rfl ?_))
  refine rC (Calm.lenSl Tryz.underlying26 rfl) ?_
  refine rC (Calm.bin rfl rfl b_eql) ?_
  refine k_e rfl ?_
  refine k_u [(0,_),(1,_),(10,_),(14,_),(15,_),(69,_),(4,_)] ?_
  refine AWP.ret ?_
  refine ⟨_,_,⟨_,_,rfl,rfl,rfl⟩,less_,?_⟩
  first | rfl | exact congrArg Value.bool (decide_eq_true rfl)
theorem walk_FindFound (s w : ByteArray) (W : World) (w0 : s.size ≤ maxLen) (z0 : s.size < 140737488355328) (w1 : w.size ≤ maxLen) (z1 : w.size < 140737488355328) :
  Calls Tryz.prog 3 #[.string s,.string w] W fun e w'=>e = .returned (.bool true)∧Below W.heap.size W w' :=
 ACall.callsW (law_FindFound s w _ (by omega) (by omega))
end Go.Proofs.YtgidjbpgkeemiaaGreat
