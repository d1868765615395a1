/-
  Texts that belong together: OdL2, OdL3.
-/
import Derived.Test.YtgidjbpgkeemiaaBOr7
set_option linter.unusedVariables false
set_option linter.unusedSimpArgs false
set_option linter.unusedSectionVars false
namespace Go.Proofs.Ytgidjbpgkeemiaa
open Go.RowKit
open Mv Num Loser Srt
set_option maxRecDepth 4000
theorem good_of {l e : List Nat} (h : Ord.SortedE l e) : GoodE (e.map (fun k : Nat => (k : Int))) := (right_good (l := l) ⟨e, rfl, h⟩).1
/-- The inverse of the inverse. -/
theorem inv_inv {e : List Nat} {x : List Int} (hp : e.Perm (List.range e.length)) (hx : InvOf (e.map (fun k : Nat => (k : Int))) x) : GoodE x ∧ InvOf x (e.map (fun k : Nat => (k : Int))) := by
 have hl:x.length=e.length:=by rw [hx.1,List.length_map]
 have key:∀ q (h:q<x.length),∃ k,∃ hk:k<e.length,e[k]=q∧x[q]=(k:Int):=fun q h=>by
  obtain ⟨k,hk,e1,e2⟩:=inv_nat hp hx q (by omega)
  exact ⟨k,hk,e1,by rw [getD_get x q 0 h] at e2;exact e2⟩
 constructor
 ·refine ⟨x.map Int.toNat,?_,?_⟩
  ·rw [List.map_map]
   refine List.ext_getElem (by simp) fun q h1 h2=>?_
   obtain ⟨k,hk,e1,e2⟩:=key q h1
   rw [List.getElem_map,Function.comp_apply,e2];rfl
  ·have:x.map Int.toNat=(List.range x.length).map (fun q=>(x.getD q 0).toNat):=by
    refine List.ext_getElem (by simp) fun q h1 h2=>?_
    rw [List.length_map] at h1
    rw [List.getElem_map,List.getElem_map,List.getElem_range,getD_get x q 0 h1]
   rw [this]
   refine Ord.range_inj_perm x.length _ (fun q hq=>?_) (fun a b ha hb h=>?_)
   ·obtain ⟨k,hk,e1,e2⟩:=key q hq
    rw [getD_get x q 0 hq,e2];omega
   ·obtain ⟨k,hk,e1,e2⟩:=key a ha
    obtain ⟨m,hm,e3,e4⟩:=key b hb
    rw [getD_get x a 0 ha,getD_get x b 0 hb,e2,e4] at h
    obtain rfl:k=m:=by omega
    rw [← e1,← e3]
 ·refine ⟨by rw [List.length_map];exact hl.symm,fun q hq=>?_⟩
  obtain ⟨k,hk,e1,e2⟩:=key q hq
  rw [e2,Int.toNat_natCast,getD_get _ _ _ (by rw [List.length_map];exact hk),List.getElem_map,e1]
set_option maxHeartbeats 4000000 in
theorem law_OrderLess (v : Value) (l : List Nat) (S : Mem) (hv : RowR S v l) :
  ACall Try.prog 12 #[v] S fun r S'=>r = .bool true:=by
 obtain ⟨va,vc,rfl,_⟩:=id hv
 by_cases hb:300<l.length
 ·skip
  refine ACall.enter (rs:=[.tmp 2]) 67 [(0,.slice va l.length vc)] Try.func12 rfl rfl (Nat.le_of_ble_eq_true rfl) rfl ⟨rfl,trivial⟩ ?_
  refine k_a (k_e rfl (AWP.seq (k_a ?_)))
  refine ARun.call (lit_lt rfl) go_46 rfl (od_lives _) ?_
  rintro _ S8 ⟨rfl,e1⟩
  rw [e1];clear e1 S8
  refine rC (Calm.un rfl (una_not _)) ?_
  refine k_n ?_
  refine k_u [(0,_),(2,_),(9,_)] ?_
  refine k_F rfl ?_
  refine k_k (AWP.seq (k_a (k_m rfl ?_)))
  refine rC (Calm.lenSl Try.underlying22 rfl) ?_
  refine rC (Calm.bin rfl rfl b_gtr) ?_
  refine k_n ?_
  refine k_u [(0,_),(2,_),(9,_),(12,_)] ?_
  refine k_T rfl ?_
  refine k_a (k_e rfl ?_)
  refine k_r ?_
  refine ⟨_,_,⟨_,_,rfl,rfl,rfl⟩,less_,?_⟩
  rfl
 obtain ⟨e,he⟩ : ∃ e,e=Ord.endsR l l.length:=⟨_,rfl⟩
 have hse:Ord.SortedE l e:=by rw [he];exact Ord.endsR_ok l
 have hel:e.length=l.length:=hse.len
 refine ACall.enter (rs:=[.tmp 2]) 67 [(0,.slice va l.length vc)] Try.func12 rfl rfl (Nat.le_of_ble_eq_true rfl) rfl ⟨rfl,trivial⟩ ?_
 refine k_a (k_e rfl (AWP.seq (k_a ?_)))
 refine ARun.call (lit_lt rfl) go_46 rfl (od_lives _) ?_
 rintro _ S8 ⟨rfl,e1⟩
 rw [e1];clear e1 S8
 refine rC (Calm.un rfl (una_not _)) ?_
 refine k_n ?_
 refine k_u [(0,_),(2,_),(9,_)] ?_
 refine k_F rfl ?_
 refine k_k (AWP.seq (k_a (k_m rfl ?_)))
 refine rC (Calm.lenSl Try.underlying22 rfl) ?_
 refine rC (Calm.bin rfl rfl b_gtr) ?_
 refine k_n ?_
 refine k_u [(0,_),(2,_),(9,_),(12,_)] ?_
 refine k_F rfl ?_
 refine k_k (k_a (k_m rfl ?_))
 refine ARun.call (lit_lt rfl) go_47 rfl (od_Ends _ l _ hv) ?_
 rintro _ S1 hE
 obtain ⟨_,u1,rfl,hS1,hu1⟩:=hE.resolve_right (fun h=>by have:=h.1;omega)
 rw [← he] at hu1
 have hi1:=idx_ints hu1
 obtain ⟨ea,ec,rfl,_,_,hk1⟩:=id hu1
 rw [hel] at hi1 ⊢
 refine k_m rfl ?_
 refine rC (Calm.extract rfl rfl) ?_
 refine rC (Calm.extract rfl rfl) ?_
 refine k_s rfl (k_e rfl ?_)
 refine k_u [(0,_),(2,_),(9,_),(12,_),(3,_),(4,_)] ?_
 refine k_a (k_m rfl ?_)
 refine ARun.call (lit_lt rfl) go_49 rfl (or_Inverse _ (e.map (fun k:Nat=>(k:Int))) _ hi1 (by rw [List.length_map];omega)) ?_
 rintro _ S2 hI
 obtain ⟨_,u2,x,hx,rfl,hN⟩:=hI.resolve_right (fun h=>h.1 (good_of hse))
 obtain ⟨hS2,hu2⟩:=hN.rd (by rw [hx.1,List.length_map];omega)
 clear hN hE
 refine k_m rfl ?_
 refine rC (Calm.extract rfl rfl) ?_
 refine rC (Calm.extract rfl rfl) ?_
 refine k_s rfl (k_e rfl ?_)
 refine k_u [(0,_),(2,_),(9,_),(12,_),(3,_),(4,_),(6,_)] ?_
 refine AWP.seq (k_a (k_m rfl ?_))
 refine rC (Calm.bin rfl rfl b_neq) ?_
 refine k_m rfl ?_
 first|refine k_q 25 ?_|refine rG 25 (Calm.move rfl) ?_
 first|refine k_q 25 ?_|refine rG 25 (Calm.bin rfl rfl b_neq) ?_
 first|refine k_t rfl rfl ?_|refine k_f rfl rfl ?_
 refine k_m rfl ?_
 first|refine k_q 29 ?_|refine rG 29 (Calm.move rfl) ?_
 first|refine k_q 29 ?_|refine rG 29 (Calm.lenSl Try.underlying24 rfl) ?_
 first|refine k_q 29 ?_|refine rG 29 (Calm.move rfl) ?_
 first|refine k_q 29 ?_|refine rG 29 (Calm.lenSl Try.underlying22 rfl) ?_
 first|refine k_q 29 ?_|refine rG 29 (Calm.bin rfl rfl b_neq) ?_
 first|refine k_t rfl rfl ?_|refine k_f rfl rfl ?_
 refine k_m rfl ?_
 first|refine k_q 36 ?_|refine rG 36 (Calm.move rfl) ?_
 first|refine k_q 36 ?_|refine rG 36 (Calm.move rfl) ?_
 refine ARun.callG 13 false 36 rfl (lit_lt rfl) rfl (lit_lt rfl) go_53 rfl (or_Right _ _ l (e.map (fun k:Nat=>(k:Int))) _ ((hv.less hS1).less hS2) (hi1.less hS2) (by rw [List.length_map];omega)) ?_
 rintro _ S3 ⟨⟨t,rfl,ht⟩,e1⟩
 rw [e1,ht.2 ⟨e,rfl,hse⟩];clear e1 S3
 first|refine k_q 36 ?_|refine rG 36 (Calm.un rfl (una_not _)) ?_
 first|refine k_t rfl rfl ?_|refine k_f rfl rfl ?_
 refine k_n ?_
 refine k_u [(0,_),(2,_),(9,_),(12,_),(3,_),(4,_),(6,_),(41,_)] ?_
 refine k_F rfl ?_
 have hvS:=(hv.less hS1).less hS2
 refine k_k (AWP.seq (k_a (k_m rfl ?_)))
 refine rC (Calm.lenSl Try.underlying24 rfl) ?_
 refine k_m rfl (k_n ?_)
 refine k_u [(0,_),(2,_),(9,_),(12,_),(3,_),(4,_),(6,_),(41,_),(43,_),(44,_)] ?_
 refine AWP.block ?_
 refine AWP.loop (X:=Nat) (fun i=>[(0,.slice va l.length vc),(3,.slice ea l.length ec),(43,.int .i64 l.length),(44,.int .i64 i)]) (fun _=>S2) (fun i=>i≤l.length) (fun i=>l.length-i) (0) ⟨rfl,rfl,rfl,rfl,trivial⟩ (Mem.Less.refl _) (Nat.zero_le _) ?_
 rintro i hi
 (try dsimp only at *)
 by_cases hc:i<l.length
 ·refine k_a ?_
  refine rC (Calm.bin rfl rfl b_lss) ?_
  refine k_n (AWP.seq ?_)
  refine k_T rfl ?_
  obtain ⟨eb,eo,rfl,hk⟩:=hk1.resolve_left (fun h=>by rw [h] at hel;simp at hel;omega)
  by_cases h0:i=0
  ·subst h0
   refine k_k (AWP.seq ?_)
   refine AWP.block ?_
   refine k_a (k_m rfl (k_e rfl ?_))
   refine k_u [(0,_),(3,_),(43,_),(44,_),(45,_),(7,_)] ?_
   refine AWP.seq ?_
   refine AWP.draw [(0,true),(1,true),(2,true),(3,true),(4,true),(5,true),(6,true),(7,true),(8,true),(9,true),(10,true),(11,true),(12,true),(13,true),(14,true),(15,true),(16,false),(17,true),(18,true)] [] mixed (by kernel_rfl) ?_
   refine dP (hc:=fun _=>Calm.move rfl) (h:=?_)
   refine dP (hc:=fun _=>Calm.bin rfl rfl b_gtr) (h:=?_)
   refine dP (hc:=fun _=>Calm.move rfl) (h:=?_)
   first|refine k_d ?_|refine dG (hc:=fun _=>Calm.move rfl) (h:=?_)
   first|refine k_d ?_|refine dG (hc:=fun _=>Calm.move rfl) (h:=?_)
   first|refine k_d ?_|refine dG (hc:=fun _=>Calm.move rfl) (h:=?_)
   first|refine k_d ?_|refine dG (hc:=fun _=>Calm.bin rfl rfl b_sub_i64) (h:=?_)
   first|refine k_d ?_|refine dG (hc:=fun _=>Calm.indexS Try.underlying24 ty_size_3 rfl rfl (by omega) (by omega)) (h:=?_)
   first|refine k_d ?_|refine dL (hc:=ld_ ty_plain_3 rfl) (h:=?_)
   first|refine k_d ?_|refine dG (hc:=fun _=>(by first | exact Calm.sliceSl Try.underlying22 ty_size_41 rfl (bnd_none _ _) (by simp) (bnd_none _ _) (bnd_some _ _ rfl (by omega) (by omega)) | exact Calm.sliceNil Try.underlying22 ty_size_41 rfl (bnd_none _ _) (by simp) (bnd_none _ _) (bnd_zero _ _ rfl))) (h:=?_)
   first|refine k_d ?_|refine dG (hc:=fun _=>Calm.move rfl) (h:=?_)
   first|refine k_d ?_|refine dG (hc:=fun _=>Calm.move rfl) (h:=?_)
   first|refine k_d ?_|refine dG (hc:=fun _=>Calm.move rfl) (h:=?_)
   first|refine k_d ?_|refine dG (hc:=fun _=>Calm.indexS Try.underlying24 ty_size_3 rfl rfl (by omega) (by omega)) (h:=?_)
   first|refine k_d ?_|refine dL (hc:=ld_ ty_plain_3 rfl) (h:=?_)
   first|refine k_d ?_|refine dG (hc:=fun _=>(by first | exact Calm.sliceSl Try.underlying22 ty_size_41 rfl (bnd_none _ _) (by simp) (bnd_none _ _) (bnd_some _ _ rfl (by omega) (by omega)) | exact Calm.sliceNil Try.underlying22 ty_size_41 rfl (bnd_none _ _) (by simp) (bnd_none _ _) (bnd_zero _ _ rfl))) (h:=?_)
   refine draw_only rfl ?_
   first | refine rS 49 ?_ | refine rU 49 ?_
   refine arun_nil ⟨fun _=>less_,?_⟩
   first|refine k_d ?_|refine dG (hc:=fun _=>Calm.un rfl (una_not _)) (h:=?_)
   refine dP (hc:=fun _=>(by first | exact Calm.pickT rfl rfl | exact Calm.pickF rfl rfl)) (h:=?_)
   refine draw_nil ?_
   refine athen_n ?_
   refine k_u [(0,_),(3,_),(43,_),(44,_),(45,_),(7,_),(65,_)] ?_
   refine k_F rfl ?_
   refine AWP.skip ?_
   refine ain_n ?_
   refine athen_n ?_
   refine AWP.region ?_
   refine rC (Calm.bin rfl rfl b_add_i64) ?_
   refine k_m rfl (k_n ?_)
   refine ⟨1,?_,?_,?_,?_⟩
   all_goals (try dsimp only)
   ·exact ⟨sq_,sq_,sq_,sq_,trivial⟩
   ·exact Mem.Less.refl _
   ·exact hc
   ·omega
  ·obtain ⟨i,rfl⟩ : ∃ q,i=q+1:=⟨i-1,by omega⟩
   obtain ⟨a,ha⟩ : ∃ a,a=e[i]'(by omega):=⟨_,rfl⟩
   obtain ⟨b,hb⟩ : ∃ b,b=e[i+1]'(by omega):=⟨_,rfl⟩
   have ha1:a<l.length:=by rw [ha];exact hse.lt (List.getElem_mem _)
   have hb1:b<l.length:=by rw [hb];exact hse.lt (List.getElem_mem _)
   have hls:lessB (l.drop a) (l.drop b)=true:=by have:=List.pairwise_iff_getElem.1 hse.2 i (i+1) (by omega) (by omega) (by omega);rw [← ha,← hb] at this;exact this
   have ke0:S2.Knows ⟨eb,eo+(((i+1:Nat):Int)-1).toNat*1,none⟩ [.int .i64 (a:Int)]:=by rw [show (((i+1:Nat):Int)-1).toNat=i by omega,ha];exact (hk i (by omega)).less hS2
   have ke1:S2.Knows ⟨eb,eo+(i+1)*1,none⟩ [.int .i64 (b:Int)]:=by rw [hb];exact (hk (i+1) (by omega)).less hS2
   obtain ⟨_,_,ev,_,_,v3⟩:=id hvS
   cases ev
   obtain ⟨vb,vo,rfl,hkv⟩:=v3.resolve_left (fun h=>by rw [h] at ha1;exact absurd ha1 (Nat.not_lt_zero _))
   refine k_k (AWP.seq ?_)
   refine AWP.block ?_
   refine k_a (k_m rfl (k_e rfl ?_))
   refine k_u [(0,_),(3,_),(43,_),(44,_),(45,_),(7,_)] ?_
   refine AWP.seq ?_
   refine AWP.draw [(0,true),(1,true),(2,true),(3,true),(4,true),(5,true),(6,true),(7,true),(8,true),(9,true),(10,true),(11,true),(12,true),(13,true),(14,true),(15,true),(16,false),(17,true),(18,true)] [] mixed (by kernel_rfl) ?_
   refine dP (hc:=fun _=>Calm.move rfl) (h:=?_)
   refine dP (hc:=fun _=>Calm.bin rfl rfl b_gtr) (h:=?_)
   refine dP (hc:=fun _=>Calm.move rfl) (h:=?_)
   first|refine k_d ?_|refine dG (hc:=fun _=>Calm.move rfl) (h:=?_)
   first|refine k_d ?_|refine dG (hc:=fun _=>Calm.move rfl) (h:=?_)
   first|refine k_d ?_|refine dG (hc:=fun _=>Calm.move rfl) (h:=?_)
   first|refine k_d ?_|refine dG (hc:=fun _=>Calm.bin rfl rfl b_sub_i64) (h:=?_)
   first|refine k_d ?_|refine dG (hc:=fun _=>Calm.indexS Try.underlying24 ty_size_3 rfl rfl (by omega) (by omega)) (h:=?_)
   first|refine k_d ?_|refine dL (hc:=ld_ ty_plain_3 rfl) (h:=?_)
   first|refine k_d ?_|refine dG (hc:=fun _=>(by first | exact Calm.sliceSl Try.underlying22 ty_size_41 rfl (bnd_none _ _) (by simp) (bnd_none _ _) (bnd_some _ _ rfl (by omega) (by omega)) | exact Calm.sliceNil Try.underlying22 ty_size_41 rfl (bnd_none _ _) (by simp) (bnd_none _ _) (bnd_zero _ _ rfl))) (h:=?_)
   first|refine k_d ?_|refine dG (hc:=fun _=>Calm.move rfl) (h:=?_)
   first|refine k_d ?_|refine dG (hc:=fun _=>Calm.move rfl) (h:=?_)
   first|refine k_d ?_|refine dG (hc:=fun _=>Calm.move rfl) (h:=?_)
   first|refine k_d ?_|refine dG (hc:=fun _=>Calm.indexS Try.underlying24 ty_size_3 rfl rfl (by omega) (by omega)) (h:=?_)
   first|refine k_d ?_|refine dL (hc:=ld_ ty_plain_3 rfl) (h:=?_)
   first|refine k_d ?_|refine dG (hc:=fun _=>(by first | exact Calm.sliceSl Try.underlying22 ty_size_41 rfl (bnd_none _ _) (by simp) (bnd_none _ _) (bnd_some _ _ rfl (by omega) (by omega)) | exact Calm.sliceNil Try.underlying22 ty_size_41 rfl (bnd_none _ _) (by simp) (bnd_none _ _) (bnd_zero _ _ rfl))) (h:=?_)
   refine draw_only rfl ?_
   refine ARun.callG 2 true 49 rfl (lit_lt rfl) rfl (lit_lt rfl) go_30 rfl (numV_Less (l.drop a) (l.drop b) _ _ _ (Sl.drop1 hvS a (by omega)) (Sl.drop1 hvS b (by omega))) ?_
   rintro _ S9 ⟨rfl,h9⟩
   rw [h9,hls];clear h9 S9
   refine arun_nil ⟨fun _=>less_,?_⟩
   first|refine k_d ?_|refine dG (hc:=fun _=>Calm.un rfl (una_not _)) (h:=?_)
   refine dP (hc:=fun _=>(by first | exact Calm.pickT rfl rfl | exact Calm.pickF rfl rfl)) (h:=?_)
   refine draw_nil ?_
   refine athen_n ?_
   refine k_u [(0,_),(3,_),(43,_),(44,_),(45,_),(7,_),(65,_)] ?_
   refine k_F rfl ?_
   refine AWP.skip ?_
   refine ain_n ?_
   refine athen_n ?_
   refine AWP.region ?_
   refine rC (Calm.bin rfl rfl b_add_i64) ?_
   refine k_m rfl (k_n ?_)
   refine ⟨i+1+1,?_,?_,?_,?_⟩
   all_goals (try dsimp only)
   ·exact ⟨sq_,sq_,sq_,sq_,trivial⟩
   ·exact Mem.Less.refl _
   ·exact hc
   ·omega
 ·refine k_a ?_
  refine rC (Calm.bin rfl rfl b_lss) ?_
  refine k_n (AWP.seq ?_)
  refine k_F rfl ?_
  refine AWP.exit ?_
  refine athen_exit ?_
  refine athen_exit ?_
  refine ain_same ?_
  refine athen_n ?_
  refine k_a (k_e rfl ?_)
  refine AWP.ret ?_
  refine ⟨_,_,⟨_,_,rfl,rfl,rfl⟩,less_,?_⟩
  rfl
set_option maxHeartbeats 4000000 in
theorem law_OrderRight (v : Value) (l : List Nat) (i j : Int) (S : Mem) (hv : RowR S v l) :
  ACall Try.prog 11 #[v,.int .i64 i,.int .i64 j] S fun r S'=>r = .bool true:=by
 obtain ⟨va,vc,rfl,_⟩:=id hv
 by_cases hb:300<l.length
 ·by_cases hb2:4096<l.length
  ·skip
   refine ACall.enter (rs:=[.tmp 6]) 93 [(0,.slice va l.length vc),(1,.int .i64 i),(2,.int .i64 j)] Try.func11 rfl rfl (Nat.le_of_ble_eq_true rfl) rfl ⟨rfl,rfl,rfl,trivial⟩ ?_
   refine k_a (k_e rfl (AWP.seq (k_a ?_)))
   refine ARun.call (lit_lt rfl) go_46 rfl (od_lives _) ?_
   rintro _ S8 ⟨rfl,e1⟩
   rw [e1];clear e1 S8
   refine rC (Calm.un rfl (una_not _)) ?_
   refine k_n ?_
   refine k_u [(0,_),(1,_),(2,_),(6,_),(14,_)] ?_
   refine k_F rfl ?_
   refine k_k (k_a (k_m rfl ?_))
   refine ARun.call (lit_lt rfl) go_47 rfl (od_Ends _ l _ hv) ?_
   rintro _ S1 hE
   obtain ⟨_,rfl,e1⟩:=hE.resolve_left (fun h=>by have:=h.1;omega)
   clear hE;rw [e1];clear e1 S1
   refine k_m rfl ?_
   refine rC (Calm.extract rfl rfl) ?_
   refine rC (Calm.extract rfl rfl) ?_
   refine k_s rfl (k_e rfl ?_)
   refine k_u [(0,_),(1,_),(2,_),(6,_),(14,_),(7,_),(8,_)] ?_
   refine AWP.seq (k_a (k_m rfl ?_))
   refine rC (Calm.bin rfl rfl b_neq) ?_
   refine k_m rfl ?_
   first|refine k_q 22 ?_|refine rG 22 (Calm.move rfl) ?_
   first|refine k_q 22 ?_|refine rG 22 (Calm.lenSl Try.underlying22 rfl) ?_
   first|refine k_q 22 ?_|refine rG 22 (Calm.bin rfl rfl b_gtr) ?_
   first|refine k_t rfl rfl ?_|refine k_f rfl rfl ?_
   refine k_n ?_
   refine k_u [(0,_),(1,_),(2,_),(6,_),(14,_),(7,_),(8,_),(26,_)] ?_
   refine k_T rfl ?_
   refine k_a (k_m rfl ?_)
   refine rC (Calm.lenSl Try.underlying22 rfl) ?_
   refine rC (Calm.bin rfl rfl b_gtr) ?_
   refine k_e rfl ?_
   refine k_u [(0,_),(1,_),(2,_),(6,_),(14,_),(7,_),(8,_),(26,_)] ?_
   refine k_r ?_
   refine ⟨_,_,⟨_,_,rfl,rfl,rfl⟩,less_,?_⟩
   rfl
  ·skip
   refine ACall.enter (rs:=[.tmp 6]) 93 [(0,.slice va l.length vc),(1,.int .i64 i),(2,.int .i64 j)] Try.func11 rfl rfl (Nat.le_of_ble_eq_true rfl) rfl ⟨rfl,rfl,rfl,trivial⟩ ?_
   refine k_a (k_e rfl (AWP.seq (k_a ?_)))
   refine ARun.call (lit_lt rfl) go_46 rfl (od_lives _) ?_
   rintro _ S8 ⟨rfl,e1⟩
   rw [e1];clear e1 S8
   refine rC (Calm.un rfl (una_not _)) ?_
   refine k_n ?_
   refine k_u [(0,_),(1,_),(2,_),(6,_),(14,_)] ?_
   refine k_F rfl ?_
   refine k_k (k_a (k_m rfl ?_))
   refine ARun.call (lit_lt rfl) go_47 rfl (od_Ends _ l _ hv) ?_
   rintro _ S1 hE
   obtain ⟨_,u1,rfl,hS1,hu1⟩:=hE.resolve_right (fun h=>by have:=h.1;omega)
   refine k_m rfl ?_
   refine rC (Calm.extract rfl rfl) ?_
   refine rC (Calm.extract rfl rfl) ?_
   refine k_s rfl (k_e rfl ?_)
   refine k_u [(0,_),(1,_),(2,_),(6,_),(14,_),(7,_),(8,_)] ?_
   refine AWP.seq (k_a (k_m rfl ?_))
   refine rC (Calm.bin rfl rfl b_neq) ?_
   refine k_m rfl ?_
   first|refine k_q 22 ?_|refine rG 22 (Calm.move rfl) ?_
   first|refine k_q 22 ?_|refine rG 22 (Calm.lenSl Try.underlying22 rfl) ?_
   first|refine k_q 22 ?_|refine rG 22 (Calm.bin rfl rfl b_gtr) ?_
   first|refine k_t rfl rfl ?_|refine k_f rfl rfl ?_
   refine k_n ?_
   refine k_u [(0,_),(1,_),(2,_),(6,_),(14,_),(7,_),(8,_),(26,_)] ?_
   refine k_T rfl ?_
   refine k_a (k_m rfl ?_)
   refine rC (Calm.lenSl Try.underlying22 rfl) ?_
   refine rC (Calm.bin rfl rfl b_gtr) ?_
   refine k_e rfl ?_
   refine k_u [(0,_),(1,_),(2,_),(6,_),(14,_),(7,_),(8,_),(26,_)] ?_
   refine k_r ?_
   refine ⟨_,_,⟨_,_,rfl,rfl,rfl⟩,less_,?_⟩
   rfl
 obtain ⟨e,he⟩ : ∃ e,e=Ord.endsR l l.length:=⟨_,rfl⟩
 have hse:Ord.SortedE l e:=by rw [he];exact Ord.endsR_ok l
 have hel:e.length=l.length:=hse.len
 have hpe:e.Perm (List.range e.length):=by rw [hel];exact hse.1
 have hnd:e.Nodup:=hse.1.nodup_iff.2 List.nodup_range
 rcases (by omega:i<0∨0≤i∧j<0∨0≤i∧0≤j∧l.length≤i∨0≤i∧0≤j∧i<l.length∧l.length≤j∨0≤i∧0≤j∧i<l.length∧j<l.length∧i=j∨0≤i∧0≤j∧i<l.length∧j<l.length∧i≠j) with hij | hij | hij | hij | hij | hij
 ·skip
  by_cases hz:l = []
  ·subst hz
   refine ACall.enter (rs:=[.tmp 6]) 93 [(0,.slice va 0 vc),(1,.int .i64 i),(2,.int .i64 j)] Try.func11 rfl rfl (Nat.le_of_ble_eq_true rfl) rfl ⟨rfl,rfl,rfl,trivial⟩ ?_
   refine k_a (k_e rfl (AWP.seq (k_a ?_)))
   refine ARun.call (lit_lt rfl) go_46 rfl (od_lives _) ?_
   rintro _ S8 ⟨rfl,e1⟩
   rw [e1];clear e1 S8
   refine rC (Calm.un rfl (una_not _)) ?_
   refine k_n ?_
   refine k_u [(0,_),(1,_),(2,_),(6,_),(14,_)] ?_
   refine k_F rfl ?_
   refine k_k (k_a (k_m rfl ?_))
   refine ARun.call (lit_lt rfl) go_47 rfl (od_Ends _ [] _ hv) ?_
   rintro _ S1 hE
   obtain ⟨_,u1,rfl,hS1,hu1⟩:=hE.resolve_right (fun h=>absurd h.1 (by decide))
   rw [show Ord.endsR [] ([] : List Nat).length = [] from rfl] at hu1
   have hi1:=idx_ints hu1
   obtain ⟨ea,ec,rfl,_⟩:=id hu1
   refine k_m rfl ?_
   refine rC (Calm.extract rfl rfl) ?_
   refine rC (Calm.extract rfl rfl) ?_
   refine k_s rfl (k_e rfl ?_)
   refine k_u [(0,_),(1,_),(2,_),(6,_),(14,_),(7,_),(8,_)] ?_
   refine AWP.seq (k_a (k_m rfl ?_))
   refine rC (Calm.bin rfl rfl b_neq) ?_
   refine k_m rfl ?_
   first|refine k_q 22 ?_|refine rG 22 (Calm.move rfl) ?_
   first|refine k_q 22 ?_|refine rG 22 (Calm.lenSl Try.underlying22 rfl) ?_
   first|refine k_q 22 ?_|refine rG 22 (Calm.bin rfl rfl b_gtr) ?_
   first|refine k_t rfl rfl ?_|refine k_f rfl rfl ?_
   refine k_n ?_
   refine k_u [(0,_),(1,_),(2,_),(6,_),(14,_),(7,_),(8,_),(26,_)] ?_
   refine k_F rfl ?_
   refine k_k (k_a (k_m rfl ?_))
   refine ARun.call (lit_lt rfl) go_49 rfl (or_Inverse _ [] _ hi1 (by decide)) ?_
   rintro _ S2 hI
   obtain ⟨_,u2,x,hx,rfl,hN⟩:=hI.resolve_right (fun h=>h.1 ⟨[],rfl,List.Perm.refl _⟩)
   obtain rfl:x = []:=List.length_eq_zero_iff.1 hx.1
   obtain ⟨hS2,hu2⟩:=hN.rd (by decide)
   clear hN hI
   refine k_m rfl ?_
   refine rC (Calm.extract rfl rfl) ?_
   refine rC (Calm.extract rfl rfl) ?_
   refine k_s rfl (k_e rfl ?_)
   refine k_u [(0,_),(1,_),(2,_),(6,_),(14,_),(7,_),(8,_),(26,_),(9,_),(10,_)] ?_
   refine k_a (k_m rfl ?_)
   refine ARun.call (lit_lt rfl) go_49 rfl (or_Inverse _ [] _ hu2 (by decide)) ?_
   rintro _ S3 hI
   obtain ⟨_,u3,x,hx,rfl,hN⟩:=hI.resolve_right (fun h=>h.1 ⟨[],rfl,List.Perm.refl _⟩)
   obtain rfl:x = []:=List.length_eq_zero_iff.1 hx.1
   obtain ⟨hS3,hu3⟩:=hN.rd (by decide)
   clear hN hI
   refine k_m rfl ?_
   refine rC (Calm.extract rfl rfl) ?_
   refine rC (Calm.extract rfl rfl) ?_
   refine k_s rfl (k_e rfl ?_)
   refine k_u [(0,_),(1,_),(2,_),(6,_),(14,_),(7,_),(8,_),(26,_),(9,_),(10,_),(11,_),(12,_)] ?_
   refine AWP.seq (k_a (k_m rfl ?_))
   refine rC (Calm.bin rfl rfl b_neq) ?_
   refine k_m rfl ?_
   first|refine k_q 42 ?_|refine rG 42 (Calm.move rfl) ?_
   first|refine k_q 42 ?_|refine rG 42 (Calm.bin rfl rfl b_neq) ?_
   first|refine k_t rfl rfl ?_|refine k_f rfl rfl ?_
   refine k_m rfl ?_
   first|refine k_q 46 ?_|refine rG 46 (Calm.move rfl) ?_
   first|refine k_q 46 ?_|refine rG 46 (Calm.move rfl) ?_
   refine ARun.callG 6 false 46 rfl (lit_lt rfl) rfl (lit_lt rfl) go_21 rfl (si_SameNumbers [] [] _ _ _ hu3 ((hi1.less hS2).less hS3)) ?_
   rintro _ S9 ⟨rfl,e1⟩
   rw [e1,decide_eq_true (Eq.refl _)];clear e1 S9
   first|refine k_q 46 ?_|refine rG 46 (Calm.un rfl (una_not _)) ?_
   first|refine k_t rfl rfl ?_|refine k_f rfl rfl ?_
   refine k_n ?_
   refine k_u [(0,_),(1,_),(2,_),(6,_),(14,_),(7,_),(8,_),(26,_),(9,_),(10,_),(11,_),(12,_),(51,_)] ?_
   refine k_F rfl ?_
   refine k_k (AWP.seq (k_a (k_m rfl ?_)))
   refine rC (Calm.bin rfl rfl b_lss) ?_
   refine k_m rfl ?_
   first|refine k_q 54 ?_|refine rG 54 (Calm.move rfl) ?_
   first|refine k_q 54 ?_|refine rG 54 (Calm.bin rfl rfl b_lss) ?_
   first|refine k_t rfl rfl ?_|refine k_f rfl rfl ?_
   refine k_m rfl ?_
   first|refine k_q 58 ?_|refine rG 58 (Calm.move rfl) ?_
   first|refine k_q 58 ?_|refine rG 58 (Calm.move rfl) ?_
   first|refine k_q 58 ?_|refine rG 58 (Calm.lenSl Try.underlying24 rfl) ?_
   first|refine k_q 58 ?_|refine rG 58 (Calm.bin rfl rfl b_geq) ?_
   first|refine k_t rfl rfl ?_|refine k_f rfl rfl ?_
   refine k_m rfl ?_
   first|refine k_q 64 ?_|refine rG 64 (Calm.move rfl) ?_
   first|refine k_q 64 ?_|refine rG 64 (Calm.move rfl) ?_
   first|refine k_q 64 ?_|refine rG 64 (Calm.lenSl Try.underlying24 rfl) ?_
   first|refine k_q 64 ?_|refine rG 64 (Calm.bin rfl rfl b_geq) ?_
   first|refine k_t rfl rfl ?_|refine k_f rfl rfl ?_
   refine k_m rfl ?_
   first|refine k_q 70 ?_|refine rG 70 (Calm.move rfl) ?_
   first|refine k_q 70 ?_|refine rG 70 (Calm.move rfl) ?_
   first|refine k_q 70 ?_|refine rG 70 (Calm.bin rfl rfl b_eql) ?_
   first|refine k_t rfl rfl ?_|refine k_f rfl rfl ?_
   refine k_n ?_
   refine k_u [(0,_),(1,_),(2,_),(6,_),(14,_),(7,_),(8,_),(26,_),(9,_),(10,_),(11,_),(12,_),(51,_),(74,_)] ?_
   refine k_T rfl ?_
   refine k_a (k_e rfl ?_)
   refine k_r ?_
   refine ⟨_,_,⟨_,_,rfl,rfl,rfl⟩,less_,?_⟩
   rfl
  have hl0:0<l.length:=List.length_pos_iff.2 hz
  refine ACall.enter (rs:=[.tmp 6]) 93 [(0,.slice va l.length vc),(1,.int .i64 i),(2,.int .i64 j)] Try.func11 rfl rfl (Nat.le_of_ble_eq_true rfl) rfl ⟨rfl,rfl,rfl,trivial⟩ ?_
  refine k_a (k_e rfl (AWP.seq (k_a ?_)))
  refine ARun.call (lit_lt rfl) go_46 rfl (od_lives _) ?_
  rintro _ S8 ⟨rfl,e1⟩
  rw [e1];clear e1 S8
  refine rC (Calm.un rfl (una_not _)) ?_
  refine k_n ?_
  refine k_u [(0,_),(1,_),(2,_),(6,_),(14,_)] ?_
  refine k_F rfl ?_
  refine k_k (k_a (k_m rfl ?_))
  refine ARun.call (lit_lt rfl) go_47 rfl (od_EndsN _ l _ hv) ?_
  rintro _ S1 hE
  obtain ⟨_,u1,rfl,M,hM,o,ho,rfl,rfl⟩:=hE.resolve_right (fun h=>by have:=h.1;omega)
  clear hE
  rw [← he] at ho ⊢
  obtain ⟨b,c,rfl⟩ : ∃ b c,o=some (b,c):=by cases o with | some y=>exact ⟨_,_,rfl⟩ | none=>exact absurd (ho.nil rfl) (by omega)
  obtain ⟨fb,hbc⟩:=ho.own b c rfl
  have hu1:IdxR (outM M (some (b,c)) 3 (e.map gI)) (.slice (some ⟨b,0,none⟩) l.length c) e:=Sl.own1 (g:=gI) (l:=e) (Mem.own_set_same _ _ _) List.prefix_rfl hel (by omega) (by omega)
  have hi1:=idx_ints hu1
  rw [show outV (some (b,c)) e.length = .slice (some ⟨b,0,none⟩) l.length c by rw [hel];rfl]
  refine k_m rfl ?_
  refine rC (Calm.extract rfl rfl) ?_
  refine rC (Calm.extract rfl rfl) ?_
  refine k_s rfl (k_e rfl ?_)
  refine k_u [(0,_),(1,_),(2,_),(6,_),(14,_),(7,_),(8,_)] ?_
  refine AWP.seq (k_a (k_m rfl ?_))
  refine rC (Calm.bin rfl rfl b_neq) ?_
  refine k_m rfl ?_
  first|refine k_q 22 ?_|refine rG 22 (Calm.move rfl) ?_
  first|refine k_q 22 ?_|refine rG 22 (Calm.lenSl Try.underlying22 rfl) ?_
  first|refine k_q 22 ?_|refine rG 22 (Calm.bin rfl rfl b_gtr) ?_
  first|refine k_t rfl rfl ?_|refine k_f rfl rfl ?_
  refine k_n ?_
  refine k_u [(0,_),(1,_),(2,_),(6,_),(14,_),(7,_),(8,_),(26,_)] ?_
  refine k_F rfl ?_
  refine k_k (k_a (k_m rfl ?_))
  refine ARun.call (lit_lt rfl) go_49 rfl (or_Inverse _ (e.map (fun k:Nat=>(k:Int))) _ hi1 (by rw [List.length_map];omega)) ?_
  rintro _ S2 hI
  obtain ⟨_,u2,x,hx,rfl,hN⟩:=hI.resolve_right (fun h=>h.1 (good_of hse))
  have hxl:x.length=e.length:=by rw [hx.1,List.length_map]
  obtain ⟨hS2,hu2⟩:=hN.rd (by omega)
  clear hN hI
  obtain ⟨hgx,hix⟩:=inv_inv hpe hx
  refine k_m rfl ?_
  refine rC (Calm.extract rfl rfl) ?_
  refine rC (Calm.extract rfl rfl) ?_
  refine k_s rfl (k_e rfl ?_)
  refine k_u [(0,_),(1,_),(2,_),(6,_),(14,_),(7,_),(8,_),(26,_),(9,_),(10,_)] ?_
  refine k_a (k_m rfl ?_)
  refine ARun.call (lit_lt rfl) go_49 rfl (or_Inverse _ x _ hu2 (by omega)) ?_
  rintro _ S3 hI
  obtain ⟨_,u3,y,hy,rfl,hN⟩:=hI.resolve_right (fun h=>h.1 hgx)
  obtain rfl:y=e.map (fun k:Nat=>(k:Int)):=invOf_one hgx hy hix
  obtain ⟨hS3,hu3⟩:=hN.rd (by rw [List.length_map];omega)
  clear hN hI
  refine k_m rfl ?_
  refine rC (Calm.extract rfl rfl) ?_
  refine rC (Calm.extract rfl rfl) ?_
  refine k_s rfl (k_e rfl ?_)
  refine k_u [(0,_),(1,_),(2,_),(6,_),(14,_),(7,_),(8,_),(26,_),(9,_),(10,_),(11,_),(12,_)] ?_
  refine AWP.seq (k_a (k_m rfl ?_))
  refine rC (Calm.bin rfl rfl b_neq) ?_
  refine k_m rfl ?_
  first|refine k_q 42 ?_|refine rG 42 (Calm.move rfl) ?_
  first|refine k_q 42 ?_|refine rG 42 (Calm.bin rfl rfl b_neq) ?_
  first|refine k_t rfl rfl ?_|refine k_f rfl rfl ?_
  refine k_m rfl ?_
  first|refine k_q 46 ?_|refine rG 46 (Calm.move rfl) ?_
  first|refine k_q 46 ?_|refine rG 46 (Calm.move rfl) ?_
  refine ARun.callG 6 false 46 rfl (lit_lt rfl) rfl (lit_lt rfl) go_21 rfl (si_SameNumbers (e.map (fun k:Nat=>(k:Int))) (e.map (fun k:Nat=>(k:Int))) _ _ _ hu3 ((hi1.less hS2).less hS3)) ?_
  rintro _ S9 ⟨rfl,e1⟩
  rw [e1,decide_eq_true (Eq.refl _)];clear e1 S9
  first|refine k_q 46 ?_|refine rG 46 (Calm.un rfl (una_not _)) ?_
  first|refine k_t rfl rfl ?_|refine k_f rfl rfl ?_
  refine k_n ?_
  refine k_u [(0,_),(1,_),(2,_),(6,_),(14,_),(7,_),(8,_),(26,_),(9,_),(10,_),(11,_),(12,_),(51,_)] ?_
  refine k_F rfl ?_
  refine k_k (AWP.seq (k_a (k_m rfl ?_)))
  refine rC (Calm.bin rfl rfl b_lss) ?_
  refine k_m rfl ?_
  first|refine k_q 54 ?_|refine rG 54 (Calm.move rfl) ?_
  first|refine k_q 54 ?_|refine rG 54 (Calm.bin rfl rfl b_lss) ?_
  first|refine k_t rfl rfl ?_|refine k_f rfl rfl ?_
  refine k_m rfl ?_
  first|refine k_q 58 ?_|refine rG 58 (Calm.move rfl) ?_
  first|refine k_q 58 ?_|refine rG 58 (Calm.move rfl) ?_
  first|refine k_q 58 ?_|refine rG 58 (Calm.lenSl Try.underlying24 rfl) ?_
  first|refine k_q 58 ?_|refine rG 58 (Calm.bin rfl rfl b_geq) ?_
  first|refine k_t rfl rfl ?_|refine k_f rfl rfl ?_
  refine k_m rfl ?_
  first|refine k_q 64 ?_|refine rG 64 (Calm.move rfl) ?_
  first|refine k_q 64 ?_|refine rG 64 (Calm.move rfl) ?_
  first|refine k_q 64 ?_|refine rG 64 (Calm.lenSl Try.underlying24 rfl) ?_
  first|refine k_q 64 ?_|refine rG 64 (Calm.bin rfl rfl b_geq) ?_
  first|refine k_t rfl rfl ?_|refine k_f rfl rfl ?_
  refine k_m rfl ?_
  first|refine k_q 70 ?_|refine rG 70 (Calm.move rfl) ?_
  first|refine k_q 70 ?_|refine rG 70 (Calm.move rfl) ?_
  first|refine k_q 70 ?_|refine rG 70 (Calm.bin rfl rfl b_eql) ?_
  first|refine k_t rfl rfl ?_|refine k_f rfl rfl ?_
  refine k_n ?_
  refine k_u [(0,_),(1,_),(2,_),(6,_),(14,_),(7,_),(8,_),(26,_),(9,_),(10,_),(11,_),(12,_),(51,_),(74,_)] ?_
  refine k_T rfl ?_
  refine k_a (k_e rfl ?_)
  refine k_r ?_
  refine ⟨_,_,⟨_,_,rfl,rfl,rfl⟩,less_,?_⟩
  rfl
 ·skip
  by_cases hz:l = []
  ·subst hz
   refine ACall.enter (rs:=[.tmp 6]) 93 [(0,.slice va 0 vc),(1,.int .i64 i),(2,.int .i64 j)] Try.func11 rfl rfl (Nat.le_of_ble_eq_true rfl) rfl ⟨rfl,rfl,rfl,trivial⟩ ?_
   refine k_a (k_e rfl (AWP.seq (k_a ?_)))
   refine ARun.call (lit_lt rfl) go_46 rfl (od_lives _) ?_
   rintro _ S8 ⟨rfl,e1⟩
   rw [e1];clear e1 S8
   refine rC (Calm.un rfl (una_not _)) ?_
   refine k_n ?_
   refine k_u [(0,_),(1,_),(2,_),(6,_),(14,_)] ?_
   refine k_F rfl ?_
   refine k_k (k_a (k_m rfl ?_))
   refine ARun.call (lit_lt rfl) go_47 rfl (od_Ends _ [] _ hv) ?_
   rintro _ S1 hE
   obtain ⟨_,u1,rfl,hS1,hu1⟩:=hE.resolve_right (fun h=>absurd h.1 (by decide))
   rw [show Ord.endsR [] ([] : List Nat).length = [] from rfl] at hu1
   have hi1:=idx_ints hu1
   obtain ⟨ea,ec,rfl,_⟩:=id hu1
   refine k_m rfl ?_
   refine rC (Calm.extract rfl rfl) ?_
   refine rC (Calm.extract rfl rfl) ?_
   refine k_s rfl (k_e rfl ?_)
   refine k_u [(0,_),(1,_),(2,_),(6,_),(14,_),(7,_),(8,_)] ?_
   refine AWP.seq (k_a (k_m rfl ?_))
   refine rC (Calm.bin rfl rfl b_neq) ?_
   refine k_m rfl ?_
   first|refine k_q 22 ?_|refine rG 22 (Calm.move rfl) ?_
   first|refine k_q 22 ?_|refine rG 22 (Calm.lenSl Try.underlying22 rfl) ?_
   first|refine k_q 22 ?_|refine rG 22 (Calm.bin rfl rfl b_gtr) ?_
   first|refine k_t rfl rfl ?_|refine k_f rfl rfl ?_
   refine k_n ?_
   refine k_u [(0,_),(1,_),(2,_),(6,_),(14,_),(7,_),(8,_),(26,_)] ?_
   refine k_F rfl ?_
   refine k_k (k_a (k_m rfl ?_))
   refine ARun.call (lit_lt rfl) go_49 rfl (or_Inverse _ [] _ hi1 (by decide)) ?_
   rintro _ S2 hI
   obtain ⟨_,u2,x,hx,rfl,hN⟩:=hI.resolve_right (fun h=>h.1 ⟨[],rfl,List.Perm.refl _⟩)
   obtain rfl:x = []:=List.length_eq_zero_iff.1 hx.1
   obtain ⟨hS2,hu2⟩:=hN.rd (by decide)
   clear hN hI
   refine k_m rfl ?_
   refine rC (Calm.extract rfl rfl) ?_
   refine rC (Calm.extract rfl rfl) ?_
   refine k_s rfl (k_e rfl ?_)
   refine k_u [(0,_),(1,_),(2,_),(6,_),(14,_),(7,_),(8,_),(26,_),(9,_),(10,_)] ?_
   refine k_a (k_m rfl ?_)
   refine ARun.call (lit_lt rfl) go_49 rfl (or_Inverse _ [] _ hu2 (by decide)) ?_
   rintro _ S3 hI
   obtain ⟨_,u3,x,hx,rfl,hN⟩:=hI.resolve_right (fun h=>h.1 ⟨[],rfl,List.Perm.refl _⟩)
   obtain rfl:x = []:=List.length_eq_zero_iff.1 hx.1
   obtain ⟨hS3,hu3⟩:=hN.rd (by decide)
   clear hN hI
   refine k_m rfl ?_
   refine rC (Calm.extract rfl rfl) ?_
   refine rC (Calm.extract rfl rfl) ?_
   refine k_s rfl (k_e rfl ?_)
   refine k_u [(0,_),(1,_),(2,_),(6,_),(14,_),(7,_),(8,_),(26,_),(9,_),(10,_),(11,_),(12,_)] ?_
   refine AWP.seq (k_a (k_m rfl ?_))
   refine rC (Calm.bin rfl rfl b_neq) ?_
   refine k_m rfl ?_
   first|refine k_q 42 ?_|refine rG 42 (Calm.move rfl) ?_
   first|refine k_q 42 ?_|refine rG 42 (Calm.bin rfl rfl b_neq) ?_
   first|refine k_t rfl rfl ?_|refine k_f rfl rfl ?_
   refine k_m rfl ?_
   first|refine k_q 46 ?_|refine rG 46 (Calm.move rfl) ?_
   first|refine k_q 46 ?_|refine rG 46 (Calm.move rfl) ?_
   refine ARun.callG 6 false 46 rfl (lit_lt rfl) rfl (lit_lt rfl) go_21 rfl (si_SameNumbers [] [] _ _ _ hu3 ((hi1.less hS2).less hS3)) ?_
   rintro _ S9 ⟨rfl,e1⟩
   rw [e1,decide_eq_true (Eq.refl _)];clear e1 S9
   first|refine k_q 46 ?_|refine rG 46 (Calm.un rfl (una_not _)) ?_
   first|refine k_t rfl rfl ?_|refine k_f rfl rfl ?_
   refine k_n ?_
   refine k_u [(0,_),(1,_),(2,_),(6,_),(14,_),(7,_),(8,_),(26,_),(9,_),(10,_),(11,_),(12,_),(51,_)] ?_
   refine k_F rfl ?_
   refine k_k (AWP.seq (k_a (k_m rfl ?_)))
   refine rC (Calm.bin rfl rfl b_lss) ?_
   refine k_m rfl ?_
   first|refine k_q 54 ?_|refine rG 54 (Calm.move rfl) ?_
   first|refine k_q 54 ?_|refine rG 54 (Calm.bin rfl rfl b_lss) ?_
   first|refine k_t rfl rfl ?_|refine k_f rfl rfl ?_
   refine k_m rfl ?_
   first|refine k_q 58 ?_|refine rG 58 (Calm.move rfl) ?_
   first|refine k_q 58 ?_|refine rG 58 (Calm.move rfl) ?_
   first|refine k_q 58 ?_|refine rG 58 (Calm.lenSl Try.underlying24 rfl) ?_
   first|refine k_q 58 ?_|refine rG 58 (Calm.bin rfl rfl b_geq) ?_
   first|refine k_t rfl rfl ?_|refine k_f rfl rfl ?_
   refine k_m rfl ?_
   first|refine k_q 64 ?_|refine rG 64 (Calm.move rfl) ?_
   first|refine k_q 64 ?_|refine rG 64 (Calm.move rfl) ?_
   first|refine k_q 64 ?_|refine rG 64 (Calm.lenSl Try.underlying24 rfl) ?_
   first|refine k_q 64 ?_|refine rG 64 (Calm.bin rfl rfl b_geq) ?_
   first|refine k_t rfl rfl ?_|refine k_f rfl rfl ?_
   refine k_m rfl ?_
   first|refine k_q 70 ?_|refine rG 70 (Calm.move rfl) ?_
   first|refine k_q 70 ?_|refine rG 70 (Calm.move rfl) ?_
   first|refine k_q 70 ?_|refine rG 70 (Calm.bin rfl rfl b_eql) ?_
   first|refine k_t rfl rfl ?_|refine k_f rfl rfl ?_
   refine k_n ?_
   refine k_u [(0,_),(1,_),(2,_),(6,_),(14,_),(7,_),(8,_),(26,_),(9,_),(10,_),(11,_),(12,_),(51,_),(74,_)] ?_
   refine k_T rfl ?_
   refine k_a (k_e rfl ?_)
   refine k_r ?_
   refine ⟨_,_,⟨_,_,rfl,rfl,rfl⟩,less_,?_⟩
   rfl
  have hl0:0<l.length:=List.length_pos_iff.2 hz
  refine ACall.enter (rs:=[.tmp 6]) 93 [(0,.slice va l.length vc),(1,.int .i64 i),(2,.int .i64 j)] Try.func11 rfl rfl (Nat.le_of_ble_eq_true rfl) rfl ⟨rfl,rfl,rfl,trivial⟩ ?_
  refine k_a (k_e rfl (AWP.seq (k_a ?_)))
  refine ARun.call (lit_lt rfl) go_46 rfl (od_lives _) ?_
  rintro _ S8 ⟨rfl,e1⟩
  rw [e1];clear e1 S8
  refine rC (Calm.un rfl (una_not _)) ?_
  refine k_n ?_
  refine k_u [(0,_),(1,_),(2,_),(6,_),(14,_)] ?_
  refine k_F rfl ?_
  refine k_k (k_a (k_m rfl ?_))
  refine ARun.call (lit_lt rfl) go_47 rfl (od_EndsN _ l _ hv) ?_
  rintro _ S1 hE
  obtain ⟨_,u1,rfl,M,hM,o,ho,rfl,rfl⟩:=hE.resolve_right (fun h=>by have:=h.1;omega)
  clear hE
  rw [← he] at ho ⊢
  obtain ⟨b,c,rfl⟩ : ∃ b c,o=some (b,c):=by cases o with | some y=>exact ⟨_,_,rfl⟩ | none=>exact absurd (ho.nil rfl) (by omega)
  obtain ⟨fb,hbc⟩:=ho.own b c rfl
  have hu1:IdxR (outM M (some (b,c)) 3 (e.map gI)) (.slice (some ⟨b,0,none⟩) l.length c) e:=Sl.own1 (g:=gI) (l:=e) (Mem.own_set_same _ _ _) List.prefix_rfl hel (by omega) (by omega)
  have hi1:=idx_ints hu1
  rw [show outV (some (b,c)) e.length = .slice (some ⟨b,0,none⟩) l.length c by rw [hel];rfl]
  refine k_m rfl ?_
  refine rC (Calm.extract rfl rfl) ?_
  refine rC (Calm.extract rfl rfl) ?_
  refine k_s rfl (k_e rfl ?_)
  refine k_u [(0,_),(1,_),(2,_),(6,_),(14,_),(7,_),(8,_)] ?_
  refine AWP.seq (k_a (k_m rfl ?_))
  refine rC (Calm.bin rfl rfl b_neq) ?_
  refine k_m rfl ?_
  first|refine k_q 22 ?_|refine rG 22 (Calm.move rfl) ?_
  first|refine k_q 22 ?_|refine rG 22 (Calm.lenSl Try.underlying22 rfl) ?_
  first|refine k_q 22 ?_|refine rG 22 (Calm.bin rfl rfl b_gtr) ?_
  first|refine k_t rfl rfl ?_|refine k_f rfl rfl ?_
  refine k_n ?_
  refine k_u [(0,_),(1,_),(2,_),(6,_),(14,_),(7,_),(8,_),(26,_)] ?_
  refine k_F rfl ?_
  refine k_k (k_a (k_m rfl ?_))
  refine ARun.call (lit_lt rfl) go_49 rfl (or_Inverse _ (e.map (fun k:Nat=>(k:Int))) _ hi1 (by rw [List.length_map];omega)) ?_
  rintro _ S2 hI
  obtain ⟨_,u2,x,hx,rfl,hN⟩:=hI.resolve_right (fun h=>h.1 (good_of hse))
  have hxl:x.length=e.length:=by rw [hx.1,List.length_map]
  obtain ⟨hS2,hu2⟩:=hN.rd (by omega)
  clear hN hI
  obtain ⟨hgx,hix⟩:=inv_inv hpe hx
  refine k_m rfl ?_
  refine rC (Calm.extract rfl rfl) ?_
  refine rC (Calm.extract rfl rfl) ?_
  refine k_s rfl (k_e rfl ?_)
  refine k_u [(0,_),(1,_),(2,_),(6,_),(14,_),(7,_),(8,_),(26,_),(9,_),(10,_)] ?_
  refine k_a (k_m rfl ?_)
  refine ARun.call (lit_lt rfl) go_49 rfl (or_Inverse _ x _ hu2 (by omega)) ?_
  rintro _ S3 hI
  obtain ⟨_,u3,y,hy,rfl,hN⟩:=hI.resolve_right (fun h=>h.1 hgx)
  obtain rfl:y=e.map (fun k:Nat=>(k:Int)):=invOf_one hgx hy hix
  obtain ⟨hS3,hu3⟩:=hN.rd (by rw [List.length_map];omega)
  clear hN hI
  refine k_m rfl ?_
  refine rC (Calm.extract rfl rfl) ?_
  refine rC (Calm.extract rfl rfl) ?_
  refine k_s rfl (k_e rfl ?_)
  refine k_u [(0,_),(1,_),(2,_),(6,_),(14,_),(7,_),(8,_),(26,_),(9,_),(10,_),(11,_),(12,_)] ?_
  refine AWP.seq (k_a (k_m rfl ?_))
  refine rC (Calm.bin rfl rfl b_neq) ?_
  refine k_m rfl ?_
  first|refine k_q 42 ?_|refine rG 42 (Calm.move rfl) ?_
  first|refine k_q 42 ?_|refine rG 42 (Calm.bin rfl rfl b_neq) ?_
  first|refine k_t rfl rfl ?_|refine k_f rfl rfl ?_
  refine k_m rfl ?_
  first|refine k_q 46 ?_|refine rG 46 (Calm.move rfl) ?_
  first|refine k_q 46 ?_|refine rG 46 (Calm.move rfl) ?_
  refine ARun.callG 6 false 46 rfl (lit_lt rfl) rfl (lit_lt rfl) go_21 rfl (si_SameNumbers (e.map (fun k:Nat=>(k:Int))) (e.map (fun k:Nat=>(k:Int))) _ _ _ hu3 ((hi1.less hS2).less hS3)) ?_
  rintro _ S9 ⟨rfl,e1⟩
  rw [e1,decide_eq_true (Eq.refl _)];clear e1 S9
  first|refine k_q 46 ?_|refine rG 46 (Calm.un rfl (una_not _)) ?_
  first|refine k_t rfl rfl ?_|refine k_f rfl rfl ?_
  refine k_n ?_
  refine k_u [(0,_),(1,_),(2,_),(6,_),(14,_),(7,_),(8,_),(26,_),(9,_),(10,_),(11,_),(12,_),(51,_)] ?_
  refine k_F rfl ?_
  refine k_k (AWP.seq (k_a (k_m rfl ?_)))
  refine rC (Calm.bin rfl rfl b_lss) ?_
  refine k_m rfl ?_
  first|refine k_q 54 ?_|refine rG 54 (Calm.move rfl) ?_
  first|refine k_q 54 ?_|refine rG 54 (Calm.bin rfl rfl b_lss) ?_
  first|refine k_t rfl rfl ?_|refine k_f rfl rfl ?_
  refine k_m rfl ?_
  first|refine k_q 58 ?_|refine rG 58 (Calm.move rfl) ?_
  first|refine k_q 58 ?_|refine rG 58 (Calm.move rfl) ?_
  first|refine k_q 58 ?_|refine rG 58 (Calm.lenSl Try.underlying24 rfl) ?_
  first|refine k_q 58 ?_|refine rG 58 (Calm.bin rfl rfl b_geq) ?_
  first|refine k_t rfl rfl ?_|refine k_f rfl rfl ?_
  refine k_m rfl ?_
  first|refine k_q 64 ?_|refine rG 64 (Calm.move rfl) ?_
  first|refine k_q 64 ?_|refine rG 64 (Calm.move rfl) ?_
  first|refine k_q 64 ?_|refine rG 64 (Calm.lenSl Try.underlying24 rfl) ?_
  first|refine k_q 64 ?_|refine rG 64 (Calm.bin rfl rfl b_geq) ?_
  first|refine k_t rfl rfl ?_|refine k_f rfl rfl ?_
  refine k_m rfl ?_
  first|refine k_q 70 ?_|refine rG 70 (Calm.move rfl) ?_
  first|refine k_q 70 ?_|refine rG 70 (Calm.move rfl) ?_
  first|refine k_q 70 ?_|refine rG 70 (Calm.bin rfl rfl b_eql) ?_
  first|refine k_t rfl rfl ?_|refine k_f rfl rfl ?_
  refine k_n ?_
  refine k_u [(0,_),(1,_),(2,_),(6,_),(14,_),(7,_),(8,_),(26,_),(9,_),(10,_),(11,_),(12,_),(51,_),(74,_)] ?_
  refine k_T rfl ?_
  refine k_a (k_e rfl ?_)
  refine k_r ?_
  refine ⟨_,_,⟨_,_,rfl,rfl,rfl⟩,less_,?_⟩
  rfl
 ·skip
  by_cases hz:l = []
  ·subst hz
   refine ACall.enter (rs:=[.tmp 6]) 93 [(0,.slice va 0 vc),(1,.int .i64 i),(2,.int .i64 j)] Try.func11 rfl rfl (Nat.le_of_ble_eq_true rfl) rfl ⟨rfl,rfl,rfl,trivial⟩ ?_
   refine k_a (k_e rfl (AWP.seq (k_a ?_)))
   refine ARun.call (lit_lt rfl) go_46 rfl (od_lives _) ?_
   rintro _ S8 ⟨rfl,e1⟩
   rw [e1];clear e1 S8
   refine rC (Calm.un rfl (una_not _)) ?_
   refine k_n ?_
   refine k_u [(0,_),(1,_),(2,_),(6,_),(14,_)] ?_
   refine k_F rfl ?_
   refine k_k (k_a (k_m rfl ?_))
   refine ARun.call (lit_lt rfl) go_47 rfl (od_Ends _ [] _ hv) ?_
   rintro _ S1 hE
   obtain ⟨_,u1,rfl,hS1,hu1⟩:=hE.resolve_right (fun h=>absurd h.1 (by decide))
   rw [show Ord.endsR [] ([] : List Nat).length = [] from rfl] at hu1
   have hi1:=idx_ints hu1
   obtain ⟨ea,ec,rfl,_⟩:=id hu1
   refine k_m rfl ?_
   refine rC (Calm.extract rfl rfl) ?_
   refine rC (Calm.extract rfl rfl) ?_
   refine k_s rfl (k_e rfl ?_)
   refine k_u [(0,_),(1,_),(2,_),(6,_),(14,_),(7,_),(8,_)] ?_
   refine AWP.seq (k_a (k_m rfl ?_))
   refine rC (Calm.bin rfl rfl b_neq) ?_
   refine k_m rfl ?_
   first|refine k_q 22 ?_|refine rG 22 (Calm.move rfl) ?_
   first|refine k_q 22 ?_|refine rG 22 (Calm.lenSl Try.underlying22 rfl) ?_
   first|refine k_q 22 ?_|refine rG 22 (Calm.bin rfl rfl b_gtr) ?_
   first|refine k_t rfl rfl ?_|refine k_f rfl rfl ?_
   refine k_n ?_
   refine k_u [(0,_),(1,_),(2,_),(6,_),(14,_),(7,_),(8,_),(26,_)] ?_
   refine k_F rfl ?_
   refine k_k (k_a (k_m rfl ?_))
   refine ARun.call (lit_lt rfl) go_49 rfl (or_Inverse _ [] _ hi1 (by decide)) ?_
   rintro _ S2 hI
   obtain ⟨_,u2,x,hx,rfl,hN⟩:=hI.resolve_right (fun h=>h.1 ⟨[],rfl,List.Perm.refl _⟩)
   obtain rfl:x = []:=List.length_eq_zero_iff.1 hx.1
   obtain ⟨hS2,hu2⟩:=hN.rd (by decide)
   clear hN hI
   refine k_m rfl ?_
   refine rC (Calm.extract rfl rfl) ?_
   refine rC (Calm.extract rfl rfl) ?_
   refine k_s rfl (k_e rfl ?_)
   refine k_u [(0,_),(1,_),(2,_),(6,_),(14,_),(7,_),(8,_),(26,_),(9,_),(10,_)] ?_
   refine k_a (k_m rfl ?_)
   refine ARun.call (lit_lt rfl) go_49 rfl (or_Inverse _ [] _ hu2 (by decide)) ?_
   rintro _ S3 hI
   obtain ⟨_,u3,x,hx,rfl,hN⟩:=hI.resolve_right (fun h=>h.1 ⟨[],rfl,List.Perm.refl _⟩)
   obtain rfl:x = []:=List.length_eq_zero_iff.1 hx.1
   obtain ⟨hS3,hu3⟩:=hN.rd (by decide)
   clear hN hI
   refine k_m rfl ?_
   refine rC (Calm.extract rfl rfl) ?_
   refine rC (Calm.extract rfl rfl) ?_
   refine k_s rfl (k_e rfl ?_)
   refine k_u [(0,_),(1,_),(2,_),(6,_),(14,_),(7,_),(8,_),(26,_),(9,_),(10,_),(11,_),(12,_)] ?_
   refine AWP.seq (k_a (k_m rfl ?_))
   refine rC (Calm.bin rfl rfl b_neq) ?_
   refine k_m rfl ?_
   first|refine k_q 42 ?_|refine rG 42 (Calm.move rfl) ?_
   first|refine k_q 42 ?_|refine rG 42 (Calm.bin rfl rfl b_neq) ?_
   first|refine k_t rfl rfl ?_|refine k_f rfl rfl ?_
   refine k_m rfl ?_
   first|refine k_q 46 ?_|refine rG 46 (Calm.move rfl) ?_
   first|refine k_q 46 ?_|refine rG 46 (Calm.move rfl) ?_
   refine ARun.callG 6 false 46 rfl (lit_lt rfl) rfl (lit_lt rfl) go_21 rfl (si_SameNumbers [] [] _ _ _ hu3 ((hi1.less hS2).less hS3)) ?_
   rintro _ S9 ⟨rfl,e1⟩
   rw [e1,decide_eq_true (Eq.refl _)];clear e1 S9
   first|refine k_q 46 ?_|refine rG 46 (Calm.un rfl (una_not _)) ?_
   first|refine k_t rfl rfl ?_|refine k_f rfl rfl ?_
   refine k_n ?_
   refine k_u [(0,_),(1,_),(2,_),(6,_),(14,_),(7,_),(8,_),(26,_),(9,_),(10,_),(11,_),(12,_),(51,_)] ?_
   refine k_F rfl ?_
   refine k_k (AWP.seq (k_a (k_m rfl ?_)))
   refine rC (Calm.bin rfl rfl b_lss) ?_
   refine k_m rfl ?_
   first|refine k_q 54 ?_|refine rG 54 (Calm.move rfl) ?_
   first|refine k_q 54 ?_|refine rG 54 (Calm.bin rfl rfl b_lss) ?_
   first|refine k_t rfl rfl ?_|refine k_f rfl rfl ?_
   refine k_m rfl ?_
   first|refine k_q 58 ?_|refine rG 58 (Calm.move rfl) ?_
   first|refine k_q 58 ?_|refine rG 58 (Calm.move rfl) ?_
   first|refine k_q 58 ?_|refine rG 58 (Calm.lenSl Try.underlying24 rfl) ?_
   first|refine k_q 58 ?_|refine rG 58 (Calm.bin rfl rfl b_geq) ?_
   first|refine k_t rfl rfl ?_|refine k_f rfl rfl ?_
   refine k_m rfl ?_
   first|refine k_q 64 ?_|refine rG 64 (Calm.move rfl) ?_
   first|refine k_q 64 ?_|refine rG 64 (Calm.move rfl) ?_
   first|refine k_q 64 ?_|refine rG 64 (Calm.lenSl Try.underlying24 rfl) ?_
   first|refine k_q 64 ?_|refine rG 64 (Calm.bin rfl rfl b_geq) ?_
   first|refine k_t rfl rfl ?_|refine k_f rfl rfl ?_
   refine k_m rfl ?_
   first|refine k_q 70 ?_|refine rG 70 (Calm.move rfl) ?_
   first|refine k_q 70 ?_|refine rG 70 (Calm.move rfl) ?_
   first|refine k_q 70 ?_|refine rG 70 (Calm.bin rfl rfl b_eql) ?_
   first|refine k_t rfl rfl ?_|refine k_f rfl rfl ?_
   refine k_n ?_
   refine k_u [(0,_),(1,_),(2,_),(6,_),(14,_),(7,_),(8,_),(26,_),(9,_),(10,_),(11,_),(12,_),(51,_),(74,_)] ?_
   refine k_T rfl ?_
   refine k_a (k_e rfl ?_)
   refine k_r ?_
   refine ⟨_,_,⟨_,_,rfl,rfl,rfl⟩,less_,?_⟩
   rfl
  have hl0:0<l.length:=List.length_pos_iff.2 hz
  refine ACall.enter (rs:=[.tmp 6]) 93 [(0,.slice va l.length vc),(1,.int .i64 i),(2,.int .i64 j)] Try.func11 rfl rfl (Nat.le_of_ble_eq_true rfl) rfl ⟨rfl,rfl,rfl,trivial⟩ ?_
  refine k_a (k_e rfl (AWP.seq (k_a ?_)))
  refine ARun.call (lit_lt rfl) go_46 rfl (od_lives _) ?_
  rintro _ S8 ⟨rfl,e1⟩
  rw [e1];clear e1 S8
  refine rC (Calm.un rfl (una_not _)) ?_
  refine k_n ?_
  refine k_u [(0,_),(1,_),(2,_),(6,_),(14,_)] ?_
  refine k_F rfl ?_
  refine k_k (k_a (k_m rfl ?_))
  refine ARun.call (lit_lt rfl) go_47 rfl (od_EndsN _ l _ hv) ?_
  rintro _ S1 hE
  obtain ⟨_,u1,rfl,M,hM,o,ho,rfl,rfl⟩:=hE.resolve_right (fun h=>by have:=h.1;omega)
  clear hE
  rw [← he] at ho ⊢
  obtain ⟨b,c,rfl⟩ : ∃ b c,o=some (b,c):=by cases o with | some y=>exact ⟨_,_,rfl⟩ | none=>exact absurd (ho.nil rfl) (by omega)
  obtain ⟨fb,hbc⟩:=ho.own b c rfl
  have hu1:IdxR (outM M (some (b,c)) 3 (e.map gI)) (.slice (some ⟨b,0,none⟩) l.length c) e:=Sl.own1 (g:=gI) (l:=e) (Mem.own_set_same _ _ _) List.prefix_rfl hel (by omega) (by omega)
  have hi1:=idx_ints hu1
  rw [show outV (some (b,c)) e.length = .slice (some ⟨b,0,none⟩) l.length c by rw [hel];rfl]
  refine k_m rfl ?_
  refine rC (Calm.extract rfl rfl) ?_
  refine rC (Calm.extract rfl rfl) ?_
  refine k_s rfl (k_e rfl ?_)
  refine k_u [(0,_),(1,_),(2,_),(6,_),(14,_),(7,_),(8,_)] ?_
  refine AWP.seq (k_a (k_m rfl ?_))
  refine rC (Calm.bin rfl rfl b_neq) ?_
  refine k_m rfl ?_
  first|refine k_q 22 ?_|refine rG 22 (Calm.move rfl) ?_
  first|refine k_q 22 ?_|refine rG 22 (Calm.lenSl Try.underlying22 rfl) ?_
  first|refine k_q 22 ?_|refine rG 22 (Calm.bin rfl rfl b_gtr) ?_
  first|refine k_t rfl rfl ?_|refine k_f rfl rfl ?_
  refine k_n ?_
  refine k_u [(0,_),(1,_),(2,_),(6,_),(14,_),(7,_),(8,_),(26,_)] ?_
  refine k_F rfl ?_
  refine k_k (k_a (k_m rfl ?_))
  refine ARun.call (lit_lt rfl) go_49 rfl (or_Inverse _ (e.map (fun k:Nat=>(k:Int))) _ hi1 (by rw [List.length_map];omega)) ?_
  rintro _ S2 hI
  obtain ⟨_,u2,x,hx,rfl,hN⟩:=hI.resolve_right (fun h=>h.1 (good_of hse))
  have hxl:x.length=e.length:=by rw [hx.1,List.length_map]
  obtain ⟨hS2,hu2⟩:=hN.rd (by omega)
  clear hN hI
  obtain ⟨hgx,hix⟩:=inv_inv hpe hx
  refine k_m rfl ?_
  refine rC (Calm.extract rfl rfl) ?_
  refine rC (Calm.extract rfl rfl) ?_
  refine k_s rfl (k_e rfl ?_)
  refine k_u [(0,_),(1,_),(2,_),(6,_),(14,_),(7,_),(8,_),(26,_),(9,_),(10,_)] ?_
  refine k_a (k_m rfl ?_)
  refine ARun.call (lit_lt rfl) go_49 rfl (or_Inverse _ x _ hu2 (by omega)) ?_
  rintro _ S3 hI
  obtain ⟨_,u3,y,hy,rfl,hN⟩:=hI.resolve_right (fun h=>h.1 hgx)
  obtain rfl:y=e.map (fun k:Nat=>(k:Int)):=invOf_one hgx hy hix
  obtain ⟨hS3,hu3⟩:=hN.rd (by rw [List.length_map];omega)
  clear hN hI
  refine k_m rfl ?_
  refine rC (Calm.extract rfl rfl) ?_
  refine rC (Calm.extract rfl rfl) ?_
  refine k_s rfl (k_e rfl ?_)
  refine k_u [(0,_),(1,_),(2,_),(6,_),(14,_),(7,_),(8,_),(26,_),(9,_),(10,_),(11,_),(12,_)] ?_
  refine AWP.seq (k_a (k_m rfl ?_))
  refine rC (Calm.bin rfl rfl b_neq) ?_
  refine k_m rfl ?_
  first|refine k_q 42 ?_|refine rG 42 (Calm.move rfl) ?_
  first|refine k_q 42 ?_|refine rG 42 (Calm.bin rfl rfl b_neq) ?_
  first|refine k_t rfl rfl ?_|refine k_f rfl rfl ?_
  refine k_m rfl ?_
  first|refine k_q 46 ?_|refine rG 46 (Calm.move rfl) ?_
  first|refine k_q 46 ?_|refine rG 46 (Calm.move rfl) ?_
  refine ARun.callG 6 false 46 rfl (lit_lt rfl) rfl (lit_lt rfl) go_21 rfl (si_SameNumbers (e.map (fun k:Nat=>(k:Int))) (e.map (fun k:Nat=>(k:Int))) _ _ _ hu3 ((hi1.less hS2).less hS3)) ?_
  rintro _ S9 ⟨rfl,e1⟩
  rw [e1,decide_eq_true (Eq.refl _)];clear e1 S9
  first|refine k_q 46 ?_|refine rG 46 (Calm.un rfl (una_not _)) ?_
  first|refine k_t rfl rfl ?_|refine k_f rfl rfl ?_
  refine k_n ?_
  refine k_u [(0,_),(1,_),(2,_),(6,_),(14,_),(7,_),(8,_),(26,_),(9,_),(10,_),(11,_),(12,_),(51,_)] ?_
  refine k_F rfl ?_
  refine k_k (AWP.seq (k_a (k_m rfl ?_)))
  refine rC (Calm.bin rfl rfl b_lss) ?_
  refine k_m rfl ?_
  first|refine k_q 54 ?_|refine rG 54 (Calm.move rfl) ?_
  first|refine k_q 54 ?_|refine rG 54 (Calm.bin rfl rfl b_lss) ?_
  first|refine k_t rfl rfl ?_|refine k_f rfl rfl ?_
  refine k_m rfl ?_
  first|refine k_q 58 ?_|refine rG 58 (Calm.move rfl) ?_
  first|refine k_q 58 ?_|refine rG 58 (Calm.move rfl) ?_
  first|refine k_q 58 ?_|refine rG 58 (Calm.lenSl Try.underlying24 rfl) ?_
  first|refine k_q 58 ?_|refine rG 58 (Calm.bin rfl rfl b_geq) ?_
  first|refine k_t rfl rfl ?_|refine k_f rfl rfl ?_
  refine k_m rfl ?_
  first|refine k_q 64 ?_|refine rG 64 (Calm.move rfl) ?_
  first|refine k_q 64 ?_|refine rG 64 (Calm.move rfl) ?_
  first|refine k_q 64 ?_|refine rG 64 (Calm.lenSl Try.underlying24 rfl) ?_
  first|refine k_q 64 ?_|refine rG 64 (Calm.bin rfl rfl b_geq) ?_
  first|refine k_t rfl rfl ?_|refine k_f rfl rfl ?_
  refine k_m rfl ?_
  first|refine k_q 70 ?_|refine rG 70 (Calm.move rfl) ?_
  first|refine k_q 70 ?_|refine rG 70 (Calm.move rfl) ?_
  first|refine k_q 70 ?_|refine rG 70 (Calm.bin rfl rfl b_eql) ?_
  first|refine k_t rfl rfl ?_|refine k_f rfl rfl ?_
  refine k_n ?_
  refine k_u [(0,_),(1,_),(2,_),(6,_),(14,_),(7,_),(8,_),(26,_),(9,_),(10,_),(11,_),(12,_),(51,_),(74,_)] ?_
  refine k_T rfl ?_
  refine k_a (k_e rfl ?_)
  refine k_r ?_
  refine ⟨_,_,⟨_,_,rfl,rfl,rfl⟩,less_,?_⟩
  rfl
 ·skip
  by_cases hz:l = []
  ·subst hz
   refine ACall.enter (rs:=[.tmp 6]) 93 [(0,.slice va 0 vc),(1,.int .i64 i),(2,.int .i64 j)] Try.func11 rfl rfl (Nat.le_of_ble_eq_true rfl) rfl ⟨rfl,rfl,rfl,trivial⟩ ?_
   refine k_a (k_e rfl (AWP.seq (k_a ?_)))
   refine ARun.call (lit_lt rfl) go_46 rfl (od_lives _) ?_
   rintro _ S8 ⟨rfl,e1⟩
   rw [e1];clear e1 S8
   refine rC (Calm.un rfl (una_not _)) ?_
   refine k_n ?_
   refine k_u [(0,_),(1,_),(2,_),(6,_),(14,_)] ?_
   refine k_F rfl ?_
   refine k_k (k_a (k_m rfl ?_))
   refine ARun.call (lit_lt rfl) go_47 rfl (od_Ends _ [] _ hv) ?_
   rintro _ S1 hE
   obtain ⟨_,u1,rfl,hS1,hu1⟩:=hE.resolve_right (fun h=>absurd h.1 (by decide))
   rw [show Ord.endsR [] ([] : List Nat).length = [] from rfl] at hu1
   have hi1:=idx_ints hu1
   obtain ⟨ea,ec,rfl,_⟩:=id hu1
   refine k_m rfl ?_
   refine rC (Calm.extract rfl rfl) ?_
   refine rC (Calm.extract rfl rfl) ?_
   refine k_s rfl (k_e rfl ?_)
   refine k_u [(0,_),(1,_),(2,_),(6,_),(14,_),(7,_),(8,_)] ?_
   refine AWP.seq (k_a (k_m rfl ?_))
   refine rC (Calm.bin rfl rfl b_neq) ?_
   refine k_m rfl ?_
   first|refine k_q 22 ?_|refine rG 22 (Calm.move rfl) ?_
   first|refine k_q 22 ?_|refine rG 22 (Calm.lenSl Try.underlying22 rfl) ?_
   first|refine k_q 22 ?_|refine rG 22 (Calm.bin rfl rfl b_gtr) ?_
   first|refine k_t rfl rfl ?_|refine k_f rfl rfl ?_
   refine k_n ?_
   refine k_u [(0,_),(1,_),(2,_),(6,_),(14,_),(7,_),(8,_),(26,_)] ?_
   refine k_F rfl ?_
   refine k_k (k_a (k_m rfl ?_))
   refine ARun.call (lit_lt rfl) go_49 rfl (or_Inverse _ [] _ hi1 (by decide)) ?_
   rintro _ S2 hI
   obtain ⟨_,u2,x,hx,rfl,hN⟩:=hI.resolve_right (fun h=>h.1 ⟨[],rfl,List.Perm.refl _⟩)
   obtain rfl:x = []:=List.length_eq_zero_iff.1 hx.1
   obtain ⟨hS2,hu2⟩:=hN.rd (by decide)
   clear hN hI
   refine k_m rfl ?_
   refine rC (Calm.extract rfl rfl) ?_
   refine rC (Calm.extract rfl rfl) ?_
   refine k_s rfl (k_e rfl ?_)
   refine k_u [(0,_),(1,_),(2,_),(6,_),(14,_),(7,_),(8,_),(26,_),(9,_),(10,_)] ?_
   refine k_a (k_m rfl ?_)
   refine ARun.call (lit_lt rfl) go_49 rfl (or_Inverse _ [] _ hu2 (by decide)) ?_
   rintro _ S3 hI
   obtain ⟨_,u3,x,hx,rfl,hN⟩:=hI.resolve_right (fun h=>h.1 ⟨[],rfl,List.Perm.refl _⟩)
   obtain rfl:x = []:=List.length_eq_zero_iff.1 hx.1
   obtain ⟨hS3,hu3⟩:=hN.rd (by decide)
   clear hN hI
   refine k_m rfl ?_
   refine rC (Calm.extract rfl rfl) ?_
   refine rC (Calm.extract rfl rfl) ?_
   refine k_s rfl (k_e rfl ?_)
   refine k_u [(0,_),(1,_),(2,_),(6,_),(14,_),(7,_),(8,_),(26,_),(9,_),(10,_),(11,_),(12,_)] ?_
   refine AWP.seq (k_a (k_m rfl ?_))
   refine rC (Calm.bin rfl rfl b_neq) ?_
   refine k_m rfl ?_
   first|refine k_q 42 ?_|refine rG 42 (Calm.move rfl) ?_
   first|refine k_q 42 ?_|refine rG 42 (Calm.bin rfl rfl b_neq) ?_
   first|refine k_t rfl rfl ?_|refine k_f rfl rfl ?_
   refine k_m rfl ?_
   first|refine k_q 46 ?_|refine rG 46 (Calm.move rfl) ?_
   first|refine k_q 46 ?_|refine rG 46 (Calm.move rfl) ?_
   refine ARun.callG 6 false 46 rfl (lit_lt rfl) rfl (lit_lt rfl) go_21 rfl (si_SameNumbers [] [] _ _ _ hu3 ((hi1.less hS2).less hS3)) ?_
   rintro _ S9 ⟨rfl,e1⟩
   rw [e1,decide_eq_true (Eq.refl _)];clear e1 S9
   first|refine k_q 46 ?_|refine rG 46 (Calm.un rfl (una_not _)) ?_
   first|refine k_t rfl rfl ?_|refine k_f rfl rfl ?_
   refine k_n ?_
   refine k_u [(0,_),(1,_),(2,_),(6,_),(14,_),(7,_),(8,_),(26,_),(9,_),(10,_),(11,_),(12,_),(51,_)] ?_
   refine k_F rfl ?_
   refine k_k (AWP.seq (k_a (k_m rfl ?_)))
   refine rC (Calm.bin rfl rfl b_lss) ?_
   refine k_m rfl ?_
   first|refine k_q 54 ?_|refine rG 54 (Calm.move rfl) ?_
   first|refine k_q 54 ?_|refine rG 54 (Calm.bin rfl rfl b_lss) ?_
   first|refine k_t rfl rfl ?_|refine k_f rfl rfl ?_
   refine k_m rfl ?_
   first|refine k_q 58 ?_|refine rG 58 (Calm.move rfl) ?_
   first|refine k_q 58 ?_|refine rG 58 (Calm.move rfl) ?_
   first|refine k_q 58 ?_|refine rG 58 (Calm.lenSl Try.underlying24 rfl) ?_
   first|refine k_q 58 ?_|refine rG 58 (Calm.bin rfl rfl b_geq) ?_
   first|refine k_t rfl rfl ?_|refine k_f rfl rfl ?_
   refine k_m rfl ?_
   first|refine k_q 64 ?_|refine rG 64 (Calm.move rfl) ?_
   first|refine k_q 64 ?_|refine rG 64 (Calm.move rfl) ?_
   first|refine k_q 64 ?_|refine rG 64 (Calm.lenSl Try.underlying24 rfl) ?_
   first|refine k_q 64 ?_|refine rG 64 (Calm.bin rfl rfl b_geq) ?_
   first|refine k_t rfl rfl ?_|refine k_f rfl rfl ?_
   refine k_m rfl ?_
   first|refine k_q 70 ?_|refine rG 70 (Calm.move rfl) ?_
   first|refine k_q 70 ?_|refine rG 70 (Calm.move rfl) ?_
   first|refine k_q 70 ?_|refine rG 70 (Calm.bin rfl rfl b_eql) ?_
   first|refine k_t rfl rfl ?_|refine k_f rfl rfl ?_
   refine k_n ?_
   refine k_u [(0,_),(1,_),(2,_),(6,_),(14,_),(7,_),(8,_),(26,_),(9,_),(10,_),(11,_),(12,_),(51,_),(74,_)] ?_
   refine k_T rfl ?_
   refine k_a (k_e rfl ?_)
   refine k_r ?_
   refine ⟨_,_,⟨_,_,rfl,rfl,rfl⟩,less_,?_⟩
   rfl
  have hl0:0<l.length:=List.length_pos_iff.2 hz
  refine ACall.enter (rs:=[.tmp 6]) 93 [(0,.slice va l.length vc),(1,.int .i64 i),(2,.int .i64 j)] Try.func11 rfl rfl (Nat.le_of_ble_eq_true rfl) rfl ⟨rfl,rfl,rfl,trivial⟩ ?_
  refine k_a (k_e rfl (AWP.seq (k_a ?_)))
  refine ARun.call (lit_lt rfl) go_46 rfl (od_lives _) ?_
  rintro _ S8 ⟨rfl,e1⟩
  rw [e1];clear e1 S8
  refine rC (Calm.un rfl (una_not _)) ?_
  refine k_n ?_
  refine k_u [(0,_),(1,_),(2,_),(6,_),(14,_)] ?_
  refine k_F rfl ?_
  refine k_k (k_a (k_m rfl ?_))
  refine ARun.call (lit_lt rfl) go_47 rfl (od_EndsN _ l _ hv) ?_
  rintro _ S1 hE
  obtain ⟨_,u1,rfl,M,hM,o,ho,rfl,rfl⟩:=hE.resolve_right (fun h=>by have:=h.1;omega)
  clear hE
  rw [← he] at ho ⊢
  obtain ⟨b,c,rfl⟩ : ∃ b c,o=some (b,c):=by cases o with | some y=>exact ⟨_,_,rfl⟩ | none=>exact absurd (ho.nil rfl) (by omega)
  obtain ⟨fb,hbc⟩:=ho.own b c rfl
  have hu1:IdxR (outM M (some (b,c)) 3 (e.map gI)) (.slice (some ⟨b,0,none⟩) l.length c) e:=Sl.own1 (g:=gI) (l:=e) (Mem.own_set_same _ _ _) List.prefix_rfl hel (by omega) (by omega)
  have hi1:=idx_ints hu1
  rw [show outV (some (b,c)) e.length = .slice (some ⟨b,0,none⟩) l.length c by rw [hel];rfl]
  refine k_m rfl ?_
  refine rC (Calm.extract rfl rfl) ?_
  refine rC (Calm.extract rfl rfl) ?_
  refine k_s rfl (k_e rfl ?_)
  refine k_u [(0,_),(1,_),(2,_),(6,_),(14,_),(7,_),(8,_)] ?_
  refine AWP.seq (k_a (k_m rfl ?_))
  refine rC (Calm.bin rfl rfl b_neq) ?_
  refine k_m rfl ?_
  first|refine k_q 22 ?_|refine rG 22 (Calm.move rfl) ?_
  first|refine k_q 22 ?_|refine rG 22 (Calm.lenSl Try.underlying22 rfl) ?_
  first|refine k_q 22 ?_|refine rG 22 (Calm.bin rfl rfl b_gtr) ?_
  first|refine k_t rfl rfl ?_|refine k_f rfl rfl ?_
  refine k_n ?_
  refine k_u [(0,_),(1,_),(2,_),(6,_),(14,_),(7,_),(8,_),(26,_)] ?_
  refine k_F rfl ?_
  refine k_k (k_a (k_m rfl ?_))
  refine ARun.call (lit_lt rfl) go_49 rfl (or_Inverse _ (e.map (fun k:Nat=>(k:Int))) _ hi1 (by rw [List.length_map];omega)) ?_
  rintro _ S2 hI
  obtain ⟨_,u2,x,hx,rfl,hN⟩:=hI.resolve_right (fun h=>h.1 (good_of hse))
  have hxl:x.length=e.length:=by rw [hx.1,List.length_map]
  obtain ⟨hS2,hu2⟩:=hN.rd (by omega)
  clear hN hI
  obtain ⟨hgx,hix⟩:=inv_inv hpe hx
  refine k_m rfl ?_
  refine rC (Calm.extract rfl rfl) ?_
  refine rC (Calm.extract rfl rfl) ?_
  refine k_s rfl (k_e rfl ?_)
  refine k_u [(0,_),(1,_),(2,_),(6,_),(14,_),(7,_),(8,_),(26,_),(9,_),(10,_)] ?_
  refine k_a (k_m rfl ?_)
  refine ARun.call (lit_lt rfl) go_49 rfl (or_Inverse _ x _ hu2 (by omega)) ?_
  rintro _ S3 hI
  obtain ⟨_,u3,y,hy,rfl,hN⟩:=hI.resolve_right (fun h=>h.1 hgx)
  obtain rfl:y=e.map (fun k:Nat=>(k:Int)):=invOf_one hgx hy hix
  obtain ⟨hS3,hu3⟩:=hN.rd (by rw [List.length_map];omega)
  clear hN hI
  refine k_m rfl ?_
  refine rC (Calm.extract rfl rfl) ?_
  refine rC (Calm.extract rfl rfl) ?_
  refine k_s rfl (k_e rfl ?_)
  refine k_u [(0,_),(1,_),(2,_),(6,_),(14,_),(7,_),(8,_),(26,_),(9,_),(10,_),(11,_),(12,_)] ?_
  refine AWP.seq (k_a (k_m rfl ?_))
  refine rC (Calm.bin rfl rfl b_neq) ?_
  refine k_m rfl ?_
  first|refine k_q 42 ?_|refine rG 42 (Calm.move rfl) ?_
  first|refine k_q 42 ?_|refine rG 42 (Calm.bin rfl rfl b_neq) ?_
  first|refine k_t rfl rfl ?_|refine k_f rfl rfl ?_
  refine k_m rfl ?_
  first|refine k_q 46 ?_|refine rG 46 (Calm.move rfl) ?_
  first|refine k_q 46 ?_|refine rG 46 (Calm.move rfl) ?_
  refine ARun.callG 6 false 46 rfl (lit_lt rfl) rfl (lit_lt rfl) go_21 rfl (si_SameNumbers (e.map (fun k:Nat=>(k:Int))) (e.map (fun k:Nat=>(k:Int))) _ _ _ hu3 ((hi1.less hS2).less hS3)) ?_
  rintro _ S9 ⟨rfl,e1⟩
  rw [e1,decide_eq_true (Eq.refl _)];clear e1 S9
  first|refine k_q 46 ?_|refine rG 46 (Calm.un rfl (una_not _)) ?_
  first|refine k_t rfl rfl ?_|refine k_f rfl rfl ?_
  refine k_n ?_
  refine k_u [(0,_),(1,_),(2,_),(6,_),(14,_),(7,_),(8,_),(26,_),(9,_),(10,_),(11,_),(12,_),(51,_)] ?_
  refine k_F rfl ?_
  refine k_k (AWP.seq (k_a (k_m rfl ?_)))
  refine rC (Calm.bin rfl rfl b_lss) ?_
  refine k_m rfl ?_
  first|refine k_q 54 ?_|refine rG 54 (Calm.move rfl) ?_
  first|refine k_q 54 ?_|refine rG 54 (Calm.bin rfl rfl b_lss) ?_
  first|refine k_t rfl rfl ?_|refine k_f rfl rfl ?_
  refine k_m rfl ?_
  first|refine k_q 58 ?_|refine rG 58 (Calm.move rfl) ?_
  first|refine k_q 58 ?_|refine rG 58 (Calm.move rfl) ?_
  first|refine k_q 58 ?_|refine rG 58 (Calm.lenSl Try.underlying24 rfl) ?_
  first|refine k_q 58 ?_|refine rG 58 (Calm.bin rfl rfl b_geq) ?_
  first|refine k_t rfl rfl ?_|refine k_f rfl rfl ?_
  refine k_m rfl ?_
  first|refine k_q 64 ?_|refine rG 64 (Calm.move rfl) ?_
  first|refine k_q 64 ?_|refine rG 64 (Calm.move rfl) ?_
  first|refine k_q 64 ?_|refine rG 64 (Calm.lenSl Try.underlying24 rfl) ?_
  first|refine k_q 64 ?_|refine rG 64 (Calm.bin rfl rfl b_geq) ?_
  first|refine k_t rfl rfl ?_|refine k_f rfl rfl ?_
  refine k_m rfl ?_
  first|refine k_q 70 ?_|refine rG 70 (Calm.move rfl) ?_
  first|refine k_q 70 ?_|refine rG 70 (Calm.move rfl) ?_
  first|refine k_q 70 ?_|refine rG 70 (Calm.bin rfl rfl b_eql) ?_
  first|refine k_t rfl rfl ?_|refine k_f rfl rfl ?_
  refine k_n ?_
  refine k_u [(0,_),(1,_),(2,_),(6,_),(14,_),(7,_),(8,_),(26,_),(9,_),(10,_),(11,_),(12,_),(51,_),(74,_)] ?_
  refine k_T rfl ?_
  refine k_a (k_e rfl ?_)
  refine k_r ?_
  refine ⟨_,_,⟨_,_,rfl,rfl,rfl⟩,less_,?_⟩
  rfl
 ·skip
  by_cases hz:l = []
  ·subst hz
   refine ACall.enter (rs:=[.tmp 6]) 93 [(0,.slice va 0 vc),(1,.int .i64 i),(2,.int .i64 j)] Try.func11 rfl rfl (Nat.le_of_ble_eq_true rfl) rfl ⟨rfl,rfl,rfl,trivial⟩ ?_
   refine k_a (k_e rfl (AWP.seq (k_a ?_)))
   refine ARun.call (lit_lt rfl) go_46 rfl (od_lives _) ?_
   rintro _ S8 ⟨rfl,e1⟩
   rw [e1];clear e1 S8
   refine rC (Calm.un rfl (una_not _)) ?_
   refine k_n ?_
   refine k_u [(0,_),(1,_),(2,_),(6,_),(14,_)] ?_
   refine k_F rfl ?_
   refine k_k (k_a (k_m rfl ?_))
   refine ARun.call (lit_lt rfl) go_47 rfl (od_Ends _ [] _ hv) ?_
   rintro _ S1 hE
   obtain ⟨_,u1,rfl,hS1,hu1⟩:=hE.resolve_right (fun h=>absurd h.1 (by decide))
   rw [show Ord.endsR [] ([] : List Nat).length = [] from rfl] at hu1
   have hi1:=idx_ints hu1
   obtain ⟨ea,ec,rfl,_⟩:=id hu1
   refine k_m rfl ?_
   refine rC (Calm.extract rfl rfl) ?_
   refine rC (Calm.extract rfl rfl) ?_
   refine k_s rfl (k_e rfl ?_)
   refine k_u [(0,_),(1,_),(2,_),(6,_),(14,_),(7,_),(8,_)] ?_
   refine AWP.seq (k_a (k_m rfl ?_))
   refine rC (Calm.bin rfl rfl b_neq) ?_
   refine k_m rfl ?_
   first|refine k_q 22 ?_|refine rG 22 (Calm.move rfl) ?_
   first|refine k_q 22 ?_|refine rG 22 (Calm.lenSl Try.underlying22 rfl) ?_
   first|refine k_q 22 ?_|refine rG 22 (Calm.bin rfl rfl b_gtr) ?_
   first|refine k_t rfl rfl ?_|refine k_f rfl rfl ?_
   refine k_n ?_
   refine k_u [(0,_),(1,_),(2,_),(6,_),(14,_),(7,_),(8,_),(26,_)] ?_
   refine k_F rfl ?_
   refine k_k (k_a (k_m rfl ?_))
   refine ARun.call (lit_lt rfl) go_49 rfl (or_Inverse _ [] _ hi1 (by decide)) ?_
   rintro _ S2 hI
   obtain ⟨_,u2,x,hx,rfl,hN⟩:=hI.resolve_right (fun h=>h.1 ⟨[],rfl,List.Perm.refl _⟩)
   obtain rfl:x = []:=List.length_eq_zero_iff.1 hx.1
   obtain ⟨hS2,hu2⟩:=hN.rd (by decide)
   clear hN hI
   refine k_m rfl ?_
   refine rC (Calm.extract rfl rfl) ?_
   refine rC (Calm.extract rfl rfl) ?_
   refine k_s rfl (k_e rfl ?_)
   refine k_u [(0,_),(1,_),(2,_),(6,_),(14,_),(7,_),(8,_),(26,_),(9,_),(10,_)] ?_
   refine k_a (k_m rfl ?_)
   refine ARun.call (lit_lt rfl) go_49 rfl (or_Inverse _ [] _ hu2 (by decide)) ?_
   rintro _ S3 hI
   obtain ⟨_,u3,x,hx,rfl,hN⟩:=hI.resolve_right (fun h=>h.1 ⟨[],rfl,List.Perm.refl _⟩)
   obtain rfl:x = []:=List.length_eq_zero_iff.1 hx.1
   obtain ⟨hS3,hu3⟩:=hN.rd (by decide)
   clear hN hI
   refine k_m rfl ?_
   refine rC (Calm.extract rfl rfl) ?_
   refine rC (Calm.extract rfl rfl) ?_
   refine k_s rfl (k_e rfl ?_)
   refine k_u [(0,_),(1,_),(2,_),(6,_),(14,_),(7,_),(8,_),(26,_),(9,_),(10,_),(11,_),(12,_)] ?_
   refine AWP.seq (k_a (k_m rfl ?_))
   refine rC (Calm.bin rfl rfl b_neq) ?_
   refine k_m rfl ?_
   first|refine k_q 42 ?_|refine rG 42 (Calm.move rfl) ?_
   first|refine k_q 42 ?_|refine rG 42 (Calm.bin rfl rfl b_neq) ?_
   first|refine k_t rfl rfl ?_|refine k_f rfl rfl ?_
   refine k_m rfl ?_
   first|refine k_q 46 ?_|refine rG 46 (Calm.move rfl) ?_
   first|refine k_q 46 ?_|refine rG 46 (Calm.move rfl) ?_
   refine ARun.callG 6 false 46 rfl (lit_lt rfl) rfl (lit_lt rfl) go_21 rfl (si_SameNumbers [] [] _ _ _ hu3 ((hi1.less hS2).less hS3)) ?_
   rintro _ S9 ⟨rfl,e1⟩
   rw [e1,decide_eq_true (Eq.refl _)];clear e1 S9
   first|refine k_q 46 ?_|refine rG 46 (Calm.un rfl (una_not _)) ?_
   first|refine k_t rfl rfl ?_|refine k_f rfl rfl ?_
   refine k_n ?_
   refine k_u [(0,_),(1,_),(2,_),(6,_),(14,_),(7,_),(8,_),(26,_),(9,_),(10,_),(11,_),(12,_),(51,_)] ?_
   refine k_F rfl ?_
   refine k_k (AWP.seq (k_a (k_m rfl ?_)))
   refine rC (Calm.bin rfl rfl b_lss) ?_
   refine k_m rfl ?_
   first|refine k_q 54 ?_|refine rG 54 (Calm.move rfl) ?_
   first|refine k_q 54 ?_|refine rG 54 (Calm.bin rfl rfl b_lss) ?_
   first|refine k_t rfl rfl ?_|refine k_f rfl rfl ?_
   refine k_m rfl ?_
   first|refine k_q 58 ?_|refine rG 58 (Calm.move rfl) ?_
   first|refine k_q 58 ?_|refine rG 58 (Calm.move rfl) ?_
   first|refine k_q 58 ?_|refine rG 58 (Calm.lenSl Try.underlying24 rfl) ?_
   first|refine k_q 58 ?_|refine rG 58 (Calm.bin rfl rfl b_geq) ?_
   first|refine k_t rfl rfl ?_|refine k_f rfl rfl ?_
   refine k_m rfl ?_
   first|refine k_q 64 ?_|refine rG 64 (Calm.move rfl) ?_
   first|refine k_q 64 ?_|refine rG 64 (Calm.move rfl) ?_
   first|refine k_q 64 ?_|refine rG 64 (Calm.lenSl Try.underlying24 rfl) ?_
   first|refine k_q 64 ?_|refine rG 64 (Calm.bin rfl rfl b_geq) ?_
   first|refine k_t rfl rfl ?_|refine k_f rfl rfl ?_
   refine k_m rfl ?_
   first|refine k_q 70 ?_|refine rG 70 (Calm.move rfl) ?_
   first|refine k_q 70 ?_|refine rG 70 (Calm.move rfl) ?_
   first|refine k_q 70 ?_|refine rG 70 (Calm.bin rfl rfl b_eql) ?_
   first|refine k_t rfl rfl ?_|refine k_f rfl rfl ?_
   refine k_n ?_
   refine k_u [(0,_),(1,_),(2,_),(6,_),(14,_),(7,_),(8,_),(26,_),(9,_),(10,_),(11,_),(12,_),(51,_),(74,_)] ?_
   refine k_T rfl ?_
   refine k_a (k_e rfl ?_)
   refine k_r ?_
   refine ⟨_,_,⟨_,_,rfl,rfl,rfl⟩,less_,?_⟩
   rfl
  have hl0:0<l.length:=List.length_pos_iff.2 hz
  refine ACall.enter (rs:=[.tmp 6]) 93 [(0,.slice va l.length vc),(1,.int .i64 i),(2,.int .i64 j)] Try.func11 rfl rfl (Nat.le_of_ble_eq_true rfl) rfl ⟨rfl,rfl,rfl,trivial⟩ ?_
  refine k_a (k_e rfl (AWP.seq (k_a ?_)))
  refine ARun.call (lit_lt rfl) go_46 rfl (od_lives _) ?_
  rintro _ S8 ⟨rfl,e1⟩
  rw [e1];clear e1 S8
  refine rC (Calm.un rfl (una_not _)) ?_
  refine k_n ?_
  refine k_u [(0,_),(1,_),(2,_),(6,_),(14,_)] ?_
  refine k_F rfl ?_
  refine k_k (k_a (k_m rfl ?_))
  refine ARun.call (lit_lt rfl) go_47 rfl (od_EndsN _ l _ hv) ?_
  rintro _ S1 hE
  obtain ⟨_,u1,rfl,M,hM,o,ho,rfl,rfl⟩:=hE.resolve_right (fun h=>by have:=h.1;omega)
  clear hE
  rw [← he] at ho ⊢
  obtain ⟨b,c,rfl⟩ : ∃ b c,o=some (b,c):=by cases o with | some y=>exact ⟨_,_,rfl⟩ | none=>exact absurd (ho.nil rfl) (by omega)
  obtain ⟨fb,hbc⟩:=ho.own b c rfl
  have hu1:IdxR (outM M (some (b,c)) 3 (e.map gI)) (.slice (some ⟨b,0,none⟩) l.length c) e:=Sl.own1 (g:=gI) (l:=e) (Mem.own_set_same _ _ _) List.prefix_rfl hel (by omega) (by omega)
  have hi1:=idx_ints hu1
  rw [show outV (some (b,c)) e.length = .slice (some ⟨b,0,none⟩) l.length c by rw [hel];rfl]
  refine k_m rfl ?_
  refine rC (Calm.extract rfl rfl) ?_
  refine rC (Calm.extract rfl rfl) ?_
  refine k_s rfl (k_e rfl ?_)
  refine k_u [(0,_),(1,_),(2,_),(6,_),(14,_),(7,_),(8,_)] ?_
  refine AWP.seq (k_a (k_m rfl ?_))
  refine rC (Calm.bin rfl rfl b_neq) ?_
  refine k_m rfl ?_
  first|refine k_q 22 ?_|refine rG 22 (Calm.move rfl) ?_
  first|refine k_q 22 ?_|refine rG 22 (Calm.lenSl Try.underlying22 rfl) ?_
  first|refine k_q 22 ?_|refine rG 22 (Calm.bin rfl rfl b_gtr) ?_
  first|refine k_t rfl rfl ?_|refine k_f rfl rfl ?_
  refine k_n ?_
  refine k_u [(0,_),(1,_),(2,_),(6,_),(14,_),(7,_),(8,_),(26,_)] ?_
  refine k_F rfl ?_
  refine k_k (k_a (k_m rfl ?_))
  refine ARun.call (lit_lt rfl) go_49 rfl (or_Inverse _ (e.map (fun k:Nat=>(k:Int))) _ hi1 (by rw [List.length_map];omega)) ?_
  rintro _ S2 hI
  obtain ⟨_,u2,x,hx,rfl,hN⟩:=hI.resolve_right (fun h=>h.1 (good_of hse))
  have hxl:x.length=e.length:=by rw [hx.1,List.length_map]
  obtain ⟨hS2,hu2⟩:=hN.rd (by omega)
  clear hN hI
  obtain ⟨hgx,hix⟩:=inv_inv hpe hx
  refine k_m rfl ?_
  refine rC (Calm.extract rfl rfl) ?_
  refine rC (Calm.extract rfl rfl) ?_
  refine k_s rfl (k_e rfl ?_)
  refine k_u [(0,_),(1,_),(2,_),(6,_),(14,_),(7,_),(8,_),(26,_),(9,_),(10,_)] ?_
  refine k_a (k_m rfl ?_)
  refine ARun.call (lit_lt rfl) go_49 rfl (or_Inverse _ x _ hu2 (by omega)) ?_
  rintro _ S3 hI
  obtain ⟨_,u3,y,hy,rfl,hN⟩:=hI.resolve_right (fun h=>h.1 hgx)
  obtain rfl:y=e.map (fun k:Nat=>(k:Int)):=invOf_one hgx hy hix
  obtain ⟨hS3,hu3⟩:=hN.rd (by rw [List.length_map];omega)
  clear hN hI
  refine k_m rfl ?_
  refine rC (Calm.extract rfl rfl) ?_
  refine rC (Calm.extract rfl rfl) ?_
  refine k_s rfl (k_e rfl ?_)
  refine k_u [(0,_),(1,_),(2,_),(6,_),(14,_),(7,_),(8,_),(26,_),(9,_),(10,_),(11,_),(12,_)] ?_
  refine AWP.seq (k_a (k_m rfl ?_))
  refine rC (Calm.bin rfl rfl b_neq) ?_
  refine k_m rfl ?_
  first|refine k_q 42 ?_|refine rG 42 (Calm.move rfl) ?_
  first|refine k_q 42 ?_|refine rG 42 (Calm.bin rfl rfl b_neq) ?_
  first|refine k_t rfl rfl ?_|refine k_f rfl rfl ?_
  refine k_m rfl ?_
  first|refine k_q 46 ?_|refine rG 46 (Calm.move rfl) ?_
  first|refine k_q 46 ?_|refine rG 46 (Calm.move rfl) ?_
  refine ARun.callG 6 false 46 rfl (lit_lt rfl) rfl (lit_lt rfl) go_21 rfl (si_SameNumbers (e.map (fun k:Nat=>(k:Int))) (e.map (fun k:Nat=>(k:Int))) _ _ _ hu3 ((hi1.less hS2).less hS3)) ?_
  rintro _ S9 ⟨rfl,e1⟩
  rw [e1,decide_eq_true (Eq.refl _)];clear e1 S9
  first|refine k_q 46 ?_|refine rG 46 (Calm.un rfl (una_not _)) ?_
  first|refine k_t rfl rfl ?_|refine k_f rfl rfl ?_
  refine k_n ?_
  refine k_u [(0,_),(1,_),(2,_),(6,_),(14,_),(7,_),(8,_),(26,_),(9,_),(10,_),(11,_),(12,_),(51,_)] ?_
  refine k_F rfl ?_
  refine k_k (AWP.seq (k_a (k_m rfl ?_)))
  refine rC (Calm.bin rfl rfl b_lss) ?_
  refine k_m rfl ?_
  first|refine k_q 54 ?_|refine rG 54 (Calm.move rfl) ?_
  first|refine k_q 54 ?_|refine rG 54 (Calm.bin rfl rfl b_lss) ?_
  first|refine k_t rfl rfl ?_|refine k_f rfl rfl ?_
  refine k_m rfl ?_
  first|refine k_q 58 ?_|refine rG 58 (Calm.move rfl) ?_
  first|refine k_q 58 ?_|refine rG 58 (Calm.move rfl) ?_
  first|refine k_q 58 ?_|refine rG 58 (Calm.lenSl Try.underlying24 rfl) ?_
  first|refine k_q 58 ?_|refine rG 58 (Calm.bin rfl rfl b_geq) ?_
  first|refine k_t rfl rfl ?_|refine k_f rfl rfl ?_
  refine k_m rfl ?_
  first|refine k_q 64 ?_|refine rG 64 (Calm.move rfl) ?_
  first|refine k_q 64 ?_|refine rG 64 (Calm.move rfl) ?_
  first|refine k_q 64 ?_|refine rG 64 (Calm.lenSl Try.underlying24 rfl) ?_
  first|refine k_q 64 ?_|refine rG 64 (Calm.bin rfl rfl b_geq) ?_
  first|refine k_t rfl rfl ?_|refine k_f rfl rfl ?_
  refine k_m rfl ?_
  first|refine k_q 70 ?_|refine rG 70 (Calm.move rfl) ?_
  first|refine k_q 70 ?_|refine rG 70 (Calm.move rfl) ?_
  first|refine k_q 70 ?_|refine rG 70 (Calm.bin rfl rfl b_eql) ?_
  first|refine k_t rfl rfl ?_|refine k_f rfl rfl ?_
  refine k_n ?_
  refine k_u [(0,_),(1,_),(2,_),(6,_),(14,_),(7,_),(8,_),(26,_),(9,_),(10,_),(11,_),(12,_),(51,_),(74,_)] ?_
  refine k_T rfl ?_
  refine k_a (k_e rfl ?_)
  refine k_r ?_
  refine ⟨_,_,⟨_,_,rfl,rfl,rfl⟩,less_,?_⟩
  rfl
 obtain ⟨h1,h2,h3,h4,h5⟩:=hij
 obtain ⟨p,rfl⟩ : ∃ p:Nat,i=p:=⟨i.toNat,by omega⟩
 obtain ⟨q,rfl⟩ : ∃ q:Nat,j=q:=⟨j.toNat,by omega⟩
 have hp:p<e.length:=by omega
 have hq:q<e.length:=by omega
 refine ACall.enter (rs:=[.tmp 6]) 93 [(0,.slice va l.length vc),(1,.int .i64 p),(2,.int .i64 q)] Try.func11 rfl rfl (Nat.le_of_ble_eq_true rfl) rfl ⟨rfl,rfl,rfl,trivial⟩ ?_
 refine k_a (k_e rfl (AWP.seq (k_a ?_)))
 refine ARun.call (lit_lt rfl) go_46 rfl (od_lives _) ?_
 rintro _ S8 ⟨rfl,e1⟩
 rw [e1];clear e1 S8
 refine rC (Calm.un rfl (una_not _)) ?_
 refine k_n ?_
 refine k_u [(0,_),(1,_),(2,_),(6,_),(14,_)] ?_
 refine k_F rfl ?_
 refine k_k (k_a (k_m rfl ?_))
 refine ARun.call (lit_lt rfl) go_47 rfl (od_EndsN _ l _ hv) ?_
 rintro _ S1 hE
 obtain ⟨_,u1,rfl,M,hM,o,ho,rfl,rfl⟩:=hE.resolve_right (fun h=>by have:=h.1;omega)
 clear hE
 rw [← he] at ho ⊢
 obtain ⟨b,c,rfl⟩ : ∃ b c,o=some (b,c):=by cases o with | some y=>exact ⟨_,_,rfl⟩ | none=>exact absurd (ho.nil rfl) (by omega)
 obtain ⟨fb,hbc⟩:=ho.own b c rfl
 have hu1:IdxR (outM M (some (b,c)) 3 (e.map gI)) (.slice (some ⟨b,0,none⟩) l.length c) e:=Sl.own1 (g:=gI) (l:=e) (Mem.own_set_same _ _ _) List.prefix_rfl hel (by omega) (by omega)
 have hi1:=idx_ints hu1
 rw [show outV (some (b,c)) e.length = .slice (some ⟨b,0,none⟩) l.length c by rw [hel];rfl]
 refine k_m rfl ?_
 refine rC (Calm.extract rfl rfl) ?_
 refine rC (Calm.extract rfl rfl) ?_
 refine k_s rfl (k_e rfl ?_)
 refine k_u [(0,_),(1,_),(2,_),(6,_),(14,_),(7,_),(8,_)] ?_
 refine AWP.seq (k_a (k_m rfl ?_))
 refine rC (Calm.bin rfl rfl b_neq) ?_
 refine k_m rfl ?_
 first|refine k_q 22 ?_|refine rG 22 (Calm.move rfl) ?_
 first|refine k_q 22 ?_|refine rG 22 (Calm.lenSl Try.underlying22 rfl) ?_
 first|refine k_q 22 ?_|refine rG 22 (Calm.bin rfl rfl b_gtr) ?_
 first|refine k_t rfl rfl ?_|refine k_f rfl rfl ?_
 refine k_n ?_
 refine k_u [(0,_),(1,_),(2,_),(6,_),(14,_),(7,_),(8,_),(26,_)] ?_
 refine k_F rfl ?_
 refine k_k (k_a (k_m rfl ?_))
 refine ARun.call (lit_lt rfl) go_49 rfl (or_Inverse _ (e.map (fun k:Nat=>(k:Int))) _ hi1 (by rw [List.length_map];omega)) ?_
 rintro _ S2 hI
 obtain ⟨_,u2,x,hx,rfl,hN⟩:=hI.resolve_right (fun h=>h.1 (good_of hse))
 have hxl:x.length=e.length:=by rw [hx.1,List.length_map]
 obtain ⟨hS2,hu2⟩:=hN.rd (by omega)
 clear hN hI
 obtain ⟨hgx,hix⟩:=inv_inv hpe hx
 refine k_m rfl ?_
 refine rC (Calm.extract rfl rfl) ?_
 refine rC (Calm.extract rfl rfl) ?_
 refine k_s rfl (k_e rfl ?_)
 refine k_u [(0,_),(1,_),(2,_),(6,_),(14,_),(7,_),(8,_),(26,_),(9,_),(10,_)] ?_
 refine k_a (k_m rfl ?_)
 refine ARun.call (lit_lt rfl) go_49 rfl (or_Inverse _ x _ hu2 (by omega)) ?_
 rintro _ S3 hI
 obtain ⟨_,u3,y,hy,rfl,hN⟩:=hI.resolve_right (fun h=>h.1 hgx)
 obtain rfl:y=e.map (fun k:Nat=>(k:Int)):=invOf_one hgx hy hix
 obtain ⟨hS3,hu3⟩:=hN.rd (by rw [List.length_map];omega)
 clear hN hI
 refine k_m rfl ?_
 refine rC (Calm.extract rfl rfl) ?_
 refine rC (Calm.extract rfl rfl) ?_
 refine k_s rfl (k_e rfl ?_)
 refine k_u [(0,_),(1,_),(2,_),(6,_),(14,_),(7,_),(8,_),(26,_),(9,_),(10,_),(11,_),(12,_)] ?_
 refine AWP.seq (k_a (k_m rfl ?_))
 refine rC (Calm.bin rfl rfl b_neq) ?_
 refine k_m rfl ?_
 first|refine k_q 42 ?_|refine rG 42 (Calm.move rfl) ?_
 first|refine k_q 42 ?_|refine rG 42 (Calm.bin rfl rfl b_neq) ?_
 first|refine k_t rfl rfl ?_|refine k_f rfl rfl ?_
 refine k_m rfl ?_
 first|refine k_q 46 ?_|refine rG 46 (Calm.move rfl) ?_
 first|refine k_q 46 ?_|refine rG 46 (Calm.move rfl) ?_
 refine ARun.callG 6 false 46 rfl (lit_lt rfl) rfl (lit_lt rfl) go_21 rfl (si_SameNumbers (e.map (fun k:Nat=>(k:Int))) (e.map (fun k:Nat=>(k:Int))) _ _ _ hu3 ((hi1.less hS2).less hS3)) ?_
 rintro _ S9 ⟨rfl,e1⟩
 rw [e1,decide_eq_true (Eq.refl _)];clear e1 S9
 first|refine k_q 46 ?_|refine rG 46 (Calm.un rfl (una_not _)) ?_
 first|refine k_t rfl rfl ?_|refine k_f rfl rfl ?_
 refine k_n ?_
 refine k_u [(0,_),(1,_),(2,_),(6,_),(14,_),(7,_),(8,_),(26,_),(9,_),(10,_),(11,_),(12,_),(51,_)] ?_
 refine k_F rfl ?_
 refine k_k (AWP.seq (k_a (k_m rfl ?_)))
 refine rC (Calm.bin rfl rfl b_lss) ?_
 refine k_m rfl ?_
 first|refine k_q 54 ?_|refine rG 54 (Calm.move rfl) ?_
 first|refine k_q 54 ?_|refine rG 54 (Calm.bin rfl rfl b_lss) ?_
 first|refine k_t rfl rfl ?_|refine k_f rfl rfl ?_
 refine k_m rfl ?_
 first|refine k_q 58 ?_|refine rG 58 (Calm.move rfl) ?_
 first|refine k_q 58 ?_|refine rG 58 (Calm.move rfl) ?_
 first|refine k_q 58 ?_|refine rG 58 (Calm.lenSl Try.underlying24 rfl) ?_
 first|refine k_q 58 ?_|refine rG 58 (Calm.bin rfl rfl b_geq) ?_
 first|refine k_t rfl rfl ?_|refine k_f rfl rfl ?_
 refine k_m rfl ?_
 first|refine k_q 64 ?_|refine rG 64 (Calm.move rfl) ?_
 first|refine k_q 64 ?_|refine rG 64 (Calm.move rfl) ?_
 first|refine k_q 64 ?_|refine rG 64 (Calm.lenSl Try.underlying24 rfl) ?_
 first|refine k_q 64 ?_|refine rG 64 (Calm.bin rfl rfl b_geq) ?_
 first|refine k_t rfl rfl ?_|refine k_f rfl rfl ?_
 refine k_m rfl ?_
 first|refine k_q 70 ?_|refine rG 70 (Calm.move rfl) ?_
 first|refine k_q 70 ?_|refine rG 70 (Calm.move rfl) ?_
 first|refine k_q 70 ?_|refine rG 70 (Calm.bin rfl rfl b_eql) ?_
 first|refine k_t rfl rfl ?_|refine k_f rfl rfl ?_
 refine k_n ?_
 refine k_u [(0,_),(1,_),(2,_),(6,_),(14,_),(7,_),(8,_),(26,_),(9,_),(10,_),(11,_),(12,_),(51,_),(74,_)] ?_
 refine k_F rfl ?_
 have ho:S3.own b=some ⟨3,e.map gI,c⟩:=hS3.own (hS2.own (Mem.own_set_same _ _ _))
 refine k_k (AWP.seq ?_)
 refine AWP.draw [(0,true),(1,true),(2,true),(3,true),(4,true),(5,true),(6,true),(7,true),(8,true),(9,true),(10,true),(11,true),(12,true),(13,false),(14,true),(15,false)] [13,15] mixed (by kernel_rfl) ?_
 refine dP (hc:=fun _=>Calm.move rfl) (h:=?_)
 refine dP (hc:=fun _=>Calm.move rfl) (h:=?_)
 refine dP (hc:=fun _=>Calm.move rfl) (h:=?_)
 refine dP (hc:=fun _=>Calm.move rfl) (h:=?_)
 refine dP (hc:=fun _=>Calm.move rfl) (h:=?_)
 refine dP (hc:=fun _=>Calm.move rfl) (h:=?_)
 refine dP (hc:=fun _=>Calm.indexS Try.underlying24 ty_size_3 rfl rfl (by omega) (by omega)) (h:=?_)
 refine dC (hc:=Calm.as (show gI (e[q]) = .int .i64 (e[q] : Int) from rfl) (Calm.load ty_plain_3 rfl (rd_list (g:=gI) q hq ho (by omega)))) (h:=?_)
 refine dP (hc:=fun _=>Calm.move rfl) (h:=?_)
 refine dP (hc:=fun _=>Calm.move rfl) (h:=?_)
 refine dP (hc:=fun _=>Calm.indexS Try.underlying24 ty_size_3 rfl rfl (by omega) (by omega)) (h:=?_)
 refine dC (hc:=Calm.as (show gI (e[p]) = .int .i64 (e[p] : Int) from rfl) (Calm.load ty_plain_3 rfl (rd_list (g:=gI) p hp ho (by omega)))) (h:=?_)
 refine dP (hc:=fun _=>Calm.indexS Try.underlying24 ty_size_3 rfl rfl (by omega) (by omega)) (h:=?_)
 refine draw_only rfl ?_
 refine ARun.store1 rfl rfl ty_size_3 rfl ho (by rw [List.length_map];omega) rfl ?_
 try simp only [k_ms,k_sz,k_ss,k_za,Nat.reduceAdd]
 refine arun_nil ⟨fun h=>absurd h (by decide),?_⟩
 refine dP (hc:=fun _=>Calm.indexS Try.underlying24 ty_size_3 rfl rfl (by omega) (by omega)) (h:=?_)
 refine draw_only rfl ?_
 refine ARun.store1 rfl rfl ty_size_3 rfl own_ (by rw [List.length_set,List.length_map];omega) rfl ?_
 try simp only [k_ms,k_sz,k_ss,k_za,Nat.reduceAdd]
 refine arun_nil ⟨fun h=>absurd h (by decide),?_⟩
 refine draw_nil ?_
 refine athen_n ?_
 refine k_u [(0,_),(1,_),(2,_),(6,_),(14,_),(7,_),(8,_),(26,_),(9,_),(10,_),(11,_),(12,_),(51,_),(74,_)] ?_
 have hcl:(((e.map gI).set p (gI e[q])).set q (gI e[p]))=((e.set p e[q]).set q e[p]).map gI:=by rw [List.map_set,List.map_set]
 have hM3:M.Less (S3.set b ⟨3,((e.set p e[q]).set q e[p]).map gI,c⟩):=less_of (LessB.skip (.inr fb.1) (LessB.of (((Mem.less_set M b ⟨3,e.map gI,c⟩ fb.1).trans hS2).trans hS3)))
 simp only [Nat.zero_add,Nat.mul_one,Int.toNat_natCast]
 refine AWP.less (S3.set b ⟨3,((e.set p e[q]).set q e[p]).map gI,c⟩) (by rw [← hcl];exact Mem.Less.refl _) ?_
 have hsw:Sl 1 (fun x=>[gI x]) (S3.set b ⟨3,((e.set p e[q]).set q e[p]).map gI,c⟩) (.slice (some ⟨b,0,none⟩) l.length c) ((e.set p e[q]).set q e[p]):=Sl.own1 (g:=gI) (Mem.own_set_same _ _ _) List.prefix_rfl (by rw [List.length_set,List.length_set,hel]) (by omega) (by omega)
 have hno : ¬RightE l (((e.set p e[q]).set q e[p]).map (fun k:Nat=>(k:Int))):=by
  rintro ⟨e',h6,h7⟩
  have h8:(e.set p e[q]).set q e[p]=e':=by have:=congrArg (List.map Int.toNat) h6;simpa [List.map_map,Function.comp_def] using this
  rw [Ord.sortedE_one h7 hse] at h8
  have h9:=congrArg (fun m:List Nat=>m.getD q 0) h8
  rw [List.getD_eq_getElem?_getD,List.getElem?_set_self (by rw [List.length_set];exact hq),Option.getD_some,getD_get e q 0 hq] at h9
  rcases Nat.lt_trichotomy p q with h | h | h
  ·exact List.pairwise_iff_getElem.1 hnd p q hp hq h h9
  ·exact h5 (by omega)
  ·exact List.pairwise_iff_getElem.1 hnd q p hq hp h h9.symm
 refine k_a (k_m rfl (k_m rfl ?_))
 refine ARun.call (lit_lt rfl) go_53 rfl (or_Right _ _ l (((e.set p e[q]).set q e[p]).map (fun k:Nat=>(k:Int))) _ (hv.less (hM.trans hM3)) (idx_ints hsw) (by rw [List.length_map,List.length_set,List.length_set];omega)) ?_
 rintro _ S9 ⟨⟨t,rfl,ht⟩,e1⟩
 rw [e1];clear e1 S9;obtain rfl:t=false:=by cases t with | false=>rfl | true=>exact absurd (ht.1 rfl) hno
 refine rC (Calm.un rfl (una_not _)) ?_
 refine k_e rfl ?_
 refine k_u [(0,_),(1,_),(2,_),(6,_),(14,_),(7,_),(8,_),(26,_),(9,_),(10,_),(11,_),(12,_),(51,_),(74,_)] ?_
 refine AWP.ret ?_
 refine ⟨_,_,⟨_,_,rfl,rfl,rfl⟩,less_,?_⟩
 rfl
theorem walk_OrderLess (p : Option Addr) (n c : Nat) (l : List Nat) (w : World) (w0 : Sl 1 (fun x : Nat => [.int .u64 (x : Int)]) (roM w) (.slice p n c) l) (wb : ∀ x ∈ l, x < 18446744073709551616) (zl : l.length ≤ 17592186043904) :
  Calls Try.prog 12 #[.slice p n c] w fun e w'=>e = .returned (.bool true)∧Below w.heap.size w w' :=
 ACall.callsW (law_OrderLess _ l _ w0)
theorem walk_OrderRight (p : Option Addr) (n c : Nat) (l : List Nat) (i j : Int) (w : World) (w0 : Sl 1 (fun x : Nat => [.int .u64 (x : Int)]) (roM w) (.slice p n c) l) (wb : ∀ x ∈ l, x < 18446744073709551616) (zl : l.length ≤ 17592186043904) (w1 : (Lit.int .i64 i).wf = true) (w2 : (Lit.int .i64 j).wf = true) :
  Calls Try.prog 11 #[.slice p n c,.int .i64 i,.int .i64 j] w fun e w'=>e = .returned (.bool true)∧Below w.heap.size w w' :=
 ACall.callsW (law_OrderRight _ l i j _ w0)
end Go.Proofs.Ytgidjbpgkeemiaa
namespace Go.Proofs.Ytgidjbpgkeemiaa
open Go.RowKit
open Mv Num Loser Srt
set_option maxRecDepth 4000
theorem bs_nums (s : ByteArray) : bs (ofN (numsT s)) = s := by
 apply nums_inj
 rw [nums_bs,ofN_nums]
 intro x hx
 unfold numsT at hx
 obtain ⟨i,_,rfl⟩:=List.mem_map.1 hx
 exact byT_lt s i
theorem walk_small (s : ByteArray) (p : Nat) : ∀ (k r : Nat) (acc l : List Nat), (∀ x ∈ acc, x < 256) → Ord.walkT (numsT s) p k r acc = some l → ∀ x ∈ l, x < 256
 | 0,r,acc,l,ha,h=>by
  rw [walk_end] at h;split at h
  ·injection h with h;subst h;exact ha
  ·cases h
 | k+1,r,acc,l,ha,h=>by
  by_cases hr:r=p
  ·rw [walk_no _ _ _ _ _ hr] at h;cases h
  ·rw [walk_step _ _ _ _ _ hr,byT_getD] at h
   refine walk_small s p k _ _ l (fun x hx=>?_) h
   rcases List.mem_cons.1 hx with rfl | hx
   ·exact byT_lt _ _
   ·exact ha x hx
theorem text_same {c s : ByteArray} {p : Nat} {q : Int} (hc : ¬4096 < c.size) (h0 : 0 < c.size) (hp1 : 1 ≤ p) (hp : p ≤ c.size) (hw : Ord.walkT (numsT c) p c.size 0 [] = some (numsT s)) (h1 : (textP c q).2 = 0) (h2 : (textP c q).1 = s) : q = p := by
 unfold textP at h1 h2
 rw [if_neg hc,if_neg (by omega)] at h1 h2
 split at h1
 ·cases h1
 rename_i hq
 rw [if_neg hq] at h2
 cases hm:Ord.walkT (numsT c) q.toNat c.size 0 [] with
 | none=>rw [hm] at h1;cases h1
 | some l =>
  rw [hm] at h2
  dsimp only at h2
  have hl:=walk_small c q.toNat _ _ _ l (fun x hx=>absurd hx (List.not_mem_nil)) hm
  have:l=numsT s:=by rw [← h2,nums_bs,ofN_nums l hl]
  subst this
  rw [← numsT_length c] at hm hw
  have:=Ord.walk_same (numsT c) q.toNat p (numsT s) (by rw [numsT_length];omega) (by rw [numsT_length];exact hp) hm hw
  omega
/-- What the column of a text is good for. -/
theorem col_text (s : ByteArray) (h : s.size ≤ 4096) (h0 : 0 < s.size) : ∃ (c : ByteArray) (p : Nat), colP s = (c, p, 0) ∧ c.size = s.size ∧ 1 ≤ p ∧ p ≤ s.size ∧ textP c (p : Int) = (s, 0) ∧ (numsT c).Perm (numsT s) ∧ Ord.walkT (numsT c) p c.size 0 [] = some (numsT s) := by
 obtain ⟨e,he⟩ : ∃ e,e=Ord.endsR (numsT s) s.size:=⟨_,rfl⟩
 have hse:Ord.SortedE (numsT s) e:=by have:=Ord.endsR_ok (numsT s);rw [numsT_length,← he] at this;exact this
 have hc:=Ord.colE_ok hse (by rw [numsT_length];exact h0)
 rw [← colB_nums,← nums_bs] at hc
 have hsz:(bs (colB s e)).size=s.size:=by have:=hc.len;rw [numsT_length,numsT_length] at this;exact this
 have hw:=hc.text
 rw [numsT_length] at hw
 have hm:0 ∈ e:=hse.1.mem_iff.2 (List.mem_range.2 (by rw [numsT_length];exact h0))
 have hi:=List.idxOf_lt_length_of_mem hm
 rw [hse.len,numsT_length] at hi
 refine ⟨bs (colB s e),e.idxOf 0+1,by unfold colP;rw [if_neg (by omega),if_neg (by omega),he],hsz,by omega,by omega,?_,hc.perm,hw⟩
 rw [textP_some (by omega) (by omega) (by omega) hw,bs_nums]
set_option maxHeartbeats 4000000 in
theorem law_OrderBack (s : ByteArray) (other : Int) (S : Mem) :
  ACall Try.prog 10 #[.string s,.int .i64 other] S fun r S'=>r = .bool true:=by
 by_cases hb:300<s.size
 ·skip
  refine ACall.enter (rs:=[.tmp 4]) 102 [(0,.string s),(1,.int .i64 other)] Try.func10 rfl rfl (Nat.le_of_ble_eq_true rfl) rfl ⟨rfl,rfl,trivial⟩ ?_
  refine k_a (k_e rfl (AWP.seq (k_a ?_)))
  refine ARun.call (lit_lt rfl) go_46 rfl (od_lives _) ?_
  rintro _ S8 ⟨rfl,e1⟩
  rw [e1];clear e1 S8
  refine rC (Calm.un rfl (una_not _)) ?_
  refine k_n ?_
  refine k_u [(0,_),(1,_),(4,_),(17,_)] ?_
  refine k_F rfl ?_
  refine k_k (AWP.seq (k_a (k_m rfl ?_)))
  refine rC (Calm.lenStr (strT_spec ty_str_9) rfl) ?_
  refine rC (Calm.bin rfl rfl b_gtr) ?_
  refine k_n ?_
  refine k_u [(0,_),(1,_),(4,_),(17,_),(20,_)] ?_
  refine k_T rfl ?_
  refine k_a (k_e rfl ?_)
  refine k_r ?_
  refine ⟨_,_,⟨_,_,rfl,rfl,rfl⟩,less_,?_⟩
  rfl
 by_cases hz:s.size=0
 ·obtain rfl:s=bs []:=(size_z s).2 hz
  have hcp:colP (bs [])=(bs [],0,0):=by decide +kernel
  have htp:textP (bs []) 0=(bs [],0):=by decide +kernel
  by_cases ho:other=0
  ·subst ho
   refine ACall.enter (rs:=[.tmp 4]) 102 [(0,.string (bs [])),(1,.int .i64 0)] Try.func10 rfl rfl (Nat.le_of_ble_eq_true rfl) rfl ⟨rfl,rfl,trivial⟩ ?_
   refine k_a (k_e rfl (AWP.seq (k_a ?_)))
   refine ARun.call (lit_lt rfl) go_46 rfl (od_lives _) ?_
   rintro _ S8 ⟨rfl,e1⟩
   rw [e1];clear e1 S8
   refine rC (Calm.un rfl (una_not _)) ?_
   refine k_n ?_
   refine k_u [(0,_),(1,_),(4,_),(17,_)] ?_
   refine k_F rfl ?_
   refine k_k (AWP.seq (k_a (k_m rfl ?_)))
   refine rC (Calm.lenStr (strT_spec ty_str_9) rfl) ?_
   refine rC (Calm.bin rfl rfl b_gtr) ?_
   refine k_n ?_
   refine k_u [(0,_),(1,_),(4,_),(17,_),(20,_)] ?_
   refine k_F rfl ?_
   refine k_k (k_a (k_m rfl ?_))
   refine ARun.call (lit_lt rfl) go_55 rfl (od_Column (bs []) _ (by decide)) ?_
   rintro _ S8 ⟨rfl,e1⟩
   rw [e1,hcp];clear e1 S8
   refine k_m rfl ?_
   refine rC (Calm.extract rfl rfl) ?_
   refine rC (Calm.extract rfl rfl) ?_
   refine rC (Calm.extract rfl rfl) ?_
   refine k_s rfl (k_s rfl (k_e rfl ?_))
   refine k_u [(0,_),(1,_),(4,_),(17,_),(20,_),(5,_),(6,_),(7,_)] ?_
   refine k_a (k_m rfl (k_m rfl ?_))
   refine ARun.call (lit_lt rfl) go_57 rfl (od_Text (bs []) 0 _) ?_
   rintro _ S8 ⟨rfl,e1⟩
   rw [e1,htp];clear e1 S8
   refine k_m rfl ?_
   refine rC (Calm.extract rfl rfl) ?_
   refine rC (Calm.extract rfl rfl) ?_
   refine k_s rfl (k_e rfl ?_)
   refine k_u [(0,_),(1,_),(4,_),(17,_),(20,_),(5,_),(6,_),(7,_),(8,_),(9,_)] ?_
   refine AWP.seq (k_a (k_m rfl ?_))
   refine rC (Calm.bin rfl rfl b_neq) ?_
   refine k_m rfl ?_
   first|refine k_q 35 ?_|refine rG 35 (Calm.move rfl) ?_
   first|refine k_q 35 ?_|refine rG 35 (Calm.bin rfl rfl b_neq) ?_
   first|refine k_t rfl rfl ?_|refine k_f rfl rfl ?_
   refine k_m rfl ?_
   first|refine k_q 39 ?_|refine rG 39 (Calm.move rfl) ?_
   first|refine k_q 39 ?_|refine rG 39 (Calm.move rfl) ?_
   first|refine k_q 39 ?_|refine rG 39 (Calm.bin rfl rfl (bin_bool (bin_str_neq _ _) (by first | (rw [decide_eq_true (Eq.refl _)];done) | (rw [decide_eq_true (Eq.refl _)];rfl)))) ?_
   first|refine k_t rfl rfl ?_|refine k_f rfl rfl ?_
   refine k_m rfl ?_
   first|refine k_q 44 ?_|refine rG 44 (Calm.move rfl) ?_
   first|refine k_q 44 ?_|refine rG 44 (Calm.lenStr (strT_spec ty_str_9) rfl) ?_
   first|refine k_q 44 ?_|refine rG 44 (Calm.move rfl) ?_
   first|refine k_q 44 ?_|refine rG 44 (Calm.lenStr (strT_spec ty_str_9) rfl) ?_
   first|refine k_q 44 ?_|refine rG 44 (Calm.bin rfl rfl b_neq) ?_
   first|refine k_t rfl rfl ?_|refine k_f rfl rfl ?_
   refine k_n ?_
   refine k_u [(0,_),(1,_),(4,_),(17,_),(20,_),(5,_),(6,_),(7,_),(8,_),(9,_),(50,_)] ?_
   refine k_F rfl ?_
   refine k_k (AWP.seq (k_a (k_e rfl ?_)))
   refine AWP.block ?_
   refine AWP.loop (X:=Unit) (fun x=>[(0,.string (bs [])),(1,.int .i64 0),(5,.string (bs [])),(6,.int .i64 0),(10,.int .i64 0)]) (fun x=>S) (fun x=>(bs []).size=0) (fun x=>0) (()) ⟨rfl,rfl,rfl,rfl,rfl,trivial⟩ (Mem.Less.refl _) (rfl) ?_
   rintro _ _
   (try dsimp only at *)
   refine AWP.seq (k_a (k_m rfl (k_m rfl ?_)))
   refine rC (Calm.lenStr (strT_spec ty_str_9) rfl) ?_
   refine rC (Calm.bin rfl rfl b_lss) ?_
   refine k_n ?_
   refine k_u [(0,_),(1,_),(5,_),(6,_),(10,_),(54,_)] ?_
   refine k_F rfl ?_
   refine AWP.exit ?_
   refine athen_exit ?_
   refine athen_exit ?_
   refine ain_same ?_
   refine athen_n ?_
   refine k_a (k_m rfl (k_m rfl ?_))
   refine ARun.call (lit_lt rfl) go_57 rfl (od_Text (bs []) 0 _) ?_
   rintro _ S8 ⟨rfl,e1⟩
   rw [e1,htp];clear e1 S8
   refine k_m rfl ?_
   refine rC (Calm.extract rfl rfl) ?_
   refine rC (Calm.extract rfl rfl) ?_
   refine k_s rfl (k_e rfl ?_)
   refine k_u [(0,_),(1,_),(5,_),(6,_),(10,_),(54,_),(14,_),(15,_)] ?_
   refine k_a (k_m rfl (k_m rfl ?_))
   refine rC (Calm.bin rfl rfl b_eql) ?_
   refine k_m rfl ?_
   first|refine k_q 93 ?_|refine rG 93 (Calm.move rfl) ?_
   first|refine k_q 93 ?_|refine rG 93 (Calm.bin rfl rfl b_neq) ?_
   first|refine k_t rfl rfl ?_|refine k_f rfl rfl ?_
   refine k_m rfl ?_
   first|refine k_q 97 ?_|refine rG 97 (Calm.move rfl) ?_
   first|refine k_q 97 ?_|refine rG 97 (Calm.move rfl) ?_
   first|refine k_q 97 ?_|refine rG 97 (Calm.bin rfl rfl (bin_str_neq _ _)) ?_
   first|refine k_t rfl rfl ?_|refine k_f rfl rfl ?_
   refine k_e rfl ?_
   refine k_u [(0,_),(1,_),(5,_),(6,_),(10,_),(54,_),(14,_),(15,_),(4,_)] ?_
   refine AWP.ret ?_
   refine ⟨_,_,⟨_,_,rfl,rfl,rfl⟩,less_,?_⟩
   rfl
  ·have htq:textP (bs []) other=(bs [],7):=textP_out (by decide) (fun h=>ho h.2) (by have:((bs []).size:Int)=0:=rfl;omega)
   refine ACall.enter (rs:=[.tmp 4]) 102 [(0,.string (bs [])),(1,.int .i64 other)] Try.func10 rfl rfl (Nat.le_of_ble_eq_true rfl) rfl ⟨rfl,rfl,trivial⟩ ?_
   refine k_a (k_e rfl (AWP.seq (k_a ?_)))
   refine ARun.call (lit_lt rfl) go_46 rfl (od_lives _) ?_
   rintro _ S8 ⟨rfl,e1⟩
   rw [e1];clear e1 S8
   refine rC (Calm.un rfl (una_not _)) ?_
   refine k_n ?_
   refine k_u [(0,_),(1,_),(4,_),(17,_)] ?_
   refine k_F rfl ?_
   refine k_k (AWP.seq (k_a (k_m rfl ?_)))
   refine rC (Calm.lenStr (strT_spec ty_str_9) rfl) ?_
   refine rC (Calm.bin rfl rfl b_gtr) ?_
   refine k_n ?_
   refine k_u [(0,_),(1,_),(4,_),(17,_),(20,_)] ?_
   refine k_F rfl ?_
   refine k_k (k_a (k_m rfl ?_))
   refine ARun.call (lit_lt rfl) go_55 rfl (od_Column (bs []) _ (by decide)) ?_
   rintro _ S8 ⟨rfl,e1⟩
   rw [e1,hcp];clear e1 S8
   refine k_m rfl ?_
   refine rC (Calm.extract rfl rfl) ?_
   refine rC (Calm.extract rfl rfl) ?_
   refine rC (Calm.extract rfl rfl) ?_
   refine k_s rfl (k_s rfl (k_e rfl ?_))
   refine k_u [(0,_),(1,_),(4,_),(17,_),(20,_),(5,_),(6,_),(7,_)] ?_
   refine k_a (k_m rfl (k_m rfl ?_))
   refine ARun.call (lit_lt rfl) go_57 rfl (od_Text (bs []) 0 _) ?_
   rintro _ S8 ⟨rfl,e1⟩
   rw [e1,htp];clear e1 S8
   refine k_m rfl ?_
   refine rC (Calm.extract rfl rfl) ?_
   refine rC (Calm.extract rfl rfl) ?_
   refine k_s rfl (k_e rfl ?_)
   refine k_u [(0,_),(1,_),(4,_),(17,_),(20,_),(5,_),(6,_),(7,_),(8,_),(9,_)] ?_
   refine AWP.seq (k_a (k_m rfl ?_))
   refine rC (Calm.bin rfl rfl b_neq) ?_
   refine k_m rfl ?_
   first|refine k_q 35 ?_|refine rG 35 (Calm.move rfl) ?_
   first|refine k_q 35 ?_|refine rG 35 (Calm.bin rfl rfl b_neq) ?_
   first|refine k_t rfl rfl ?_|refine k_f rfl rfl ?_
   refine k_m rfl ?_
   first|refine k_q 39 ?_|refine rG 39 (Calm.move rfl) ?_
   first|refine k_q 39 ?_|refine rG 39 (Calm.move rfl) ?_
   first|refine k_q 39 ?_|refine rG 39 (Calm.bin rfl rfl (bin_bool (bin_str_neq _ _) (by first | (rw [decide_eq_true (Eq.refl _)];done) | (rw [decide_eq_true (Eq.refl _)];rfl)))) ?_
   first|refine k_t rfl rfl ?_|refine k_f rfl rfl ?_
   refine k_m rfl ?_
   first|refine k_q 44 ?_|refine rG 44 (Calm.move rfl) ?_
   first|refine k_q 44 ?_|refine rG 44 (Calm.lenStr (strT_spec ty_str_9) rfl) ?_
   first|refine k_q 44 ?_|refine rG 44 (Calm.move rfl) ?_
   first|refine k_q 44 ?_|refine rG 44 (Calm.lenStr (strT_spec ty_str_9) rfl) ?_
   first|refine k_q 44 ?_|refine rG 44 (Calm.bin rfl rfl b_neq) ?_
   first|refine k_t rfl rfl ?_|refine k_f rfl rfl ?_
   refine k_n ?_
   refine k_u [(0,_),(1,_),(4,_),(17,_),(20,_),(5,_),(6,_),(7,_),(8,_),(9,_),(50,_)] ?_
   refine k_F rfl ?_
   refine k_k (AWP.seq (k_a (k_e rfl ?_)))
   refine AWP.block ?_
   refine AWP.loop (X:=Unit) (fun x=>[(0,.string (bs [])),(1,.int .i64 other),(5,.string (bs [])),(6,.int .i64 0),(10,.int .i64 0)]) (fun x=>S) (fun x=>(bs []).size=0) (fun x=>0) (()) ⟨rfl,rfl,rfl,rfl,rfl,trivial⟩ (Mem.Less.refl _) (rfl) ?_
   rintro _ _
   (try dsimp only at *)
   refine AWP.seq (k_a (k_m rfl (k_m rfl ?_)))
   refine rC (Calm.lenStr (strT_spec ty_str_9) rfl) ?_
   refine rC (Calm.bin rfl rfl b_lss) ?_
   refine k_n ?_
   refine k_u [(0,_),(1,_),(5,_),(6,_),(10,_),(54,_)] ?_
   refine k_F rfl ?_
   refine AWP.exit ?_
   refine athen_exit ?_
   refine athen_exit ?_
   refine ain_same ?_
   refine athen_n ?_
   refine k_a (k_m rfl (k_m rfl ?_))
   refine ARun.call (lit_lt rfl) go_57 rfl (od_Text (bs []) other _) ?_
   rintro _ S8 ⟨rfl,e1⟩
   rw [e1,htq];clear e1 S8
   refine k_m rfl ?_
   refine rC (Calm.extract rfl rfl) ?_
   refine rC (Calm.extract rfl rfl) ?_
   refine k_s rfl (k_e rfl ?_)
   refine k_u [(0,_),(1,_),(5,_),(6,_),(10,_),(54,_),(14,_),(15,_)] ?_
   refine k_a (k_m rfl (k_m rfl ?_))
   refine rC (Calm.bin rfl rfl b_eql) ?_
   refine k_m rfl ?_
   first|refine k_q 93 ?_|refine rG 93 (Calm.move rfl) ?_
   first|refine k_q 93 ?_|refine rG 93 (Calm.bin rfl rfl b_neq) ?_
   first|refine k_t rfl rfl ?_|refine k_f rfl rfl ?_
   refine k_m rfl ?_
   first|refine k_q 97 ?_|refine rG 97 (Calm.move rfl) ?_
   first|refine k_q 97 ?_|refine rG 97 (Calm.move rfl) ?_
   first|refine k_q 97 ?_|refine rG 97 (Calm.bin rfl rfl (bin_str_neq _ _)) ?_
   first|refine k_t rfl rfl ?_|refine k_f rfl rfl ?_
   refine k_e rfl ?_
   refine k_u [(0,_),(1,_),(5,_),(6,_),(10,_),(54,_),(14,_),(15,_),(4,_)] ?_
   refine AWP.ret ?_
   refine ⟨_,_,⟨_,_,rfl,rfl,rfl⟩,less_,?_⟩
   rfl
 obtain ⟨c,p,hcp,hcs,hp1,hp2,htp,hperm,hw⟩:=col_text s (by omega) (by omega)
 have hcq:∀ x,ceq (numsT s) x=ceq (numsT c) x:=fun x=>(hperm.countP_eq _).symm
 have hcl:(numsT c).length=s.size:=by rw [numsT_length,hcs]
 have hsl:(numsT s).length=s.size:=numsT_length s
 refine ACall.enter (rs:=[.tmp 4]) 102 [(0,.string s),(1,.int .i64 other)] Try.func10 rfl rfl (Nat.le_of_ble_eq_true rfl) rfl ⟨rfl,rfl,trivial⟩ ?_
 refine k_a (k_e rfl (AWP.seq (k_a ?_)))
 refine ARun.call (lit_lt rfl) go_46 rfl (od_lives _) ?_
 rintro _ S8 ⟨rfl,e1⟩
 rw [e1];clear e1 S8
 refine rC (Calm.un rfl (una_not _)) ?_
 refine k_n ?_
 refine k_u [(0,_),(1,_),(4,_),(17,_)] ?_
 refine k_F rfl ?_
 refine k_k (AWP.seq (k_a (k_m rfl ?_)))
 refine rC (Calm.lenStr (strT_spec ty_str_9) rfl) ?_
 refine rC (Calm.bin rfl rfl b_gtr) ?_
 refine k_n ?_
 refine k_u [(0,_),(1,_),(4,_),(17,_),(20,_)] ?_
 refine k_F rfl ?_
 refine k_k (k_a (k_m rfl ?_))
 refine ARun.call (lit_lt rfl) go_55 rfl (od_Column s _ (by omega)) ?_
 rintro _ S8 ⟨rfl,e1⟩
 rw [e1,hcp];clear e1 S8
 refine k_m rfl ?_
 refine rC (Calm.extract rfl rfl) ?_
 refine rC (Calm.extract rfl rfl) ?_
 refine rC (Calm.extract rfl rfl) ?_
 refine k_s rfl (k_s rfl (k_e rfl ?_))
 refine k_u [(0,_),(1,_),(4,_),(17,_),(20,_),(5,_),(6,_),(7,_)] ?_
 refine k_a (k_m rfl (k_m rfl ?_))
 refine ARun.call (lit_lt rfl) go_57 rfl (od_Text c (p:Int) _) ?_
 rintro _ S8 ⟨rfl,e1⟩
 rw [e1,htp];clear e1 S8
 refine k_m rfl ?_
 refine rC (Calm.extract rfl rfl) ?_
 refine rC (Calm.extract rfl rfl) ?_
 refine k_s rfl (k_e rfl ?_)
 refine k_u [(0,_),(1,_),(4,_),(17,_),(20,_),(5,_),(6,_),(7,_),(8,_),(9,_)] ?_
 refine AWP.seq (k_a (k_m rfl ?_))
 refine rC (Calm.bin rfl rfl b_neq) ?_
 refine k_m rfl ?_
 first|refine k_q 35 ?_|refine rG 35 (Calm.move rfl) ?_
 first|refine k_q 35 ?_|refine rG 35 (Calm.bin rfl rfl b_neq) ?_
 first|refine k_t rfl rfl ?_|refine k_f rfl rfl ?_
 refine k_m rfl ?_
 first|refine k_q 39 ?_|refine rG 39 (Calm.move rfl) ?_
 first|refine k_q 39 ?_|refine rG 39 (Calm.move rfl) ?_
 first|refine k_q 39 ?_|refine rG 39 (Calm.bin rfl rfl (bin_bool (bin_str_neq _ _) (by first | (rw [decide_eq_true (Eq.refl _)];done) | (rw [decide_eq_true (Eq.refl _)];rfl)))) ?_
 first|refine k_t rfl rfl ?_|refine k_f rfl rfl ?_
 refine k_m rfl ?_
 first|refine k_q 44 ?_|refine rG 44 (Calm.move rfl) ?_
 first|refine k_q 44 ?_|refine rG 44 (Calm.lenStr (strT_spec ty_str_9) rfl) ?_
 first|refine k_q 44 ?_|refine rG 44 (Calm.move rfl) ?_
 first|refine k_q 44 ?_|refine rG 44 (Calm.lenStr (strT_spec ty_str_9) rfl) ?_
 first|refine k_q 44 ?_|refine rG 44 (Calm.bin rfl rfl b_neq) ?_
 first|refine k_t rfl rfl ?_|refine k_f rfl rfl ?_
 refine k_n ?_
 refine k_u [(0,_),(1,_),(4,_),(17,_),(20,_),(5,_),(6,_),(7,_),(8,_),(9,_),(50,_)] ?_
 refine k_F rfl ?_
 refine k_k (AWP.seq (k_a (k_e rfl ?_)))
 refine AWP.block ?_
 refine AWP.loop (X:=Nat) (fun i=>[(0,.string s),(1,.int .i64 other),(5,.string c),(6,.int .i64 (p:Int)),(10,.int .i64 i)]) (fun x=>S) (fun i=>i≤s.size) (fun i=>s.size-i) (0) ⟨rfl,rfl,rfl,rfl,rfl,trivial⟩ (Mem.Less.refl _) (Nat.zero_le _) ?_
 rintro i hi
 (try dsimp only at *)
 by_cases hc:i<s.size
 ·refine AWP.seq (k_a (k_m rfl (k_m rfl ?_)))
  refine rC (Calm.lenStr (strT_spec ty_str_9) rfl) ?_
  refine rC (Calm.bin rfl rfl b_lss) ?_
  refine k_n ?_
  refine k_u [(0,_),(1,_),(5,_),(6,_),(10,_),(54,_)] ?_
  refine k_T rfl ?_
  obtain ⟨x,hx⟩ : ∃ x,x=byT s i:=⟨_,rfl⟩
  have hx256:x<256:=by rw [hx];exact byT_lt s i
  refine k_k (AWP.seq ?_)
  refine AWP.block ?_
  refine k_a (k_s rfl (k_e rfl (AWP.seq (k_a ?_))))
  refine k_e rfl ?_
  refine AWP.block ?_
  refine AWP.loop (X:=Nat) (fun k=>[(0,.string s),(1,.int .i64 other),(5,.string c),(6,.int .i64 (p:Int)),(10,.int .i64 i),(11,.int .i64 (ceq ((numsT s).take k) x:Nat)),(12,.int .i64 (ceq ((numsT c).take k) x:Nat)),(13,.int .i64 k)]) (fun k=>S) (fun k=>k≤s.size) (fun k=>s.size-k) (0) ⟨rfl,rfl,rfl,rfl,rfl,rfl,rfl,rfl,trivial⟩ (Mem.Less.refl _) (Nat.zero_le _) ?_
  rintro k hk
  (try dsimp only at *)
  by_cases hkn:k<s.size
  ·refine AWP.seq (k_a (k_m rfl (k_m rfl ?_)))
   refine rC (Calm.lenStr (strT_spec ty_str_9) rfl) ?_
   refine rC (Calm.bin rfl rfl b_lss) ?_
   refine k_n ?_
   refine k_u [(0,_),(1,_),(5,_),(6,_),(10,_),(11,_),(12,_),(13,_),(60,_)] ?_
   refine k_T rfl ?_
   have hsk:=ceq_take (numsT s) k x (by omega)
   have hck:=ceq_take (numsT c) k x (by omega)
   rw [nums_at] at hsk hck
   obtain ⟨y,hy⟩ : ∃ y,y=byT s k:=⟨_,rfl⟩
   obtain ⟨z,hz⟩ : ∃ z,z=byT c k:=⟨_,rfl⟩
   have hy256:y<256:=by rw [hy];exact byT_lt s k
   have hz256:z<256:=by rw [hz];exact byT_lt c k
   rw [← hy] at hsk
   rw [← hz] at hck
   have l1:=ceq_le ((numsT s).take k) x
   have l2:=ceq_le ((numsT c).take k) x
   rw [List.length_take] at l1 l2
   obtain ⟨n1,hn1⟩ : ∃ n1,n1=ceq ((numsT s).take k) x:=⟨_,rfl⟩
   obtain ⟨n2,hn2⟩ : ∃ n2,n2=ceq ((numsT c).take k) x:=⟨_,rfl⟩
   rw [← hn1] at hsk l1 ⊢
   rw [← hn2] at hck l2 ⊢
   by_cases c1:y=x
   ·by_cases c2:z=x
    ·rw [if_pos c1.symm] at hsk
     rw [if_pos c2.symm] at hck
     refine k_k (AWP.seq ?_)
     refine AWP.block ?_
     refine AWP.seq (AWP.seq ?_)
     refine AWP.draw [(0,true),(1,true),(2,true),(3,true),(4,true),(5,true),(6,true)] [] mixed (by kernel_rfl) ?_
     refine dP (hc:=fun _=>Calm.move rfl) (h:=?_)
     refine dP (hc:=fun _=>Calm.move rfl) (h:=?_)
     refine dC (hc:=Calm.as ((byT_val s k).trans (by rw [← hy])) (Calm.indexStrN (strT_spec ty_str_9) rfl rfl hkn)) (h:=?_)
     refine dP (hc:=fun _=>Calm.move rfl) (h:=?_)
     refine dP (hc:=fun _=>Calm.move rfl) (h:=?_)
     refine dC (hc:=Calm.as ((byT_val s i).trans (by rw [← hx])) (Calm.indexStrN (strT_spec ty_str_9) rfl rfl hc)) (h:=?_)
     refine dP (hc:=fun _=>Calm.bin rfl rfl b_eql) (h:=?_)
     refine draw_nil ?_
     refine athen_n ?_
     refine k_u [(0,_),(1,_),(5,_),(6,_),(10,_),(11,_),(12,_),(13,_),(60,_),(69,_)] ?_
     refine k_T rfl ?_
     refine AWP.region ?_
     refine k_m rfl ?_
     refine rC (Calm.bin rfl rfl b_add_i64) ?_
     refine k_e rfl ?_
     refine k_u [(0,_),(1,_),(5,_),(6,_),(10,_),(11,_),(12,_),(13,_),(60,_),(69,_)] ?_
     refine AWP.seq ?_
     refine AWP.draw [(0,true),(1,true),(2,true),(3,true),(4,true),(5,true),(6,true)] [] mixed (by kernel_rfl) ?_
     refine dP (hc:=fun _=>Calm.move rfl) (h:=?_)
     refine dP (hc:=fun _=>Calm.move rfl) (h:=?_)
     refine dC (hc:=Calm.as ((byT_val c k).trans (by rw [← hz])) (Calm.indexStrN (strT_spec ty_str_9) rfl rfl (by omega))) (h:=?_)
     refine dP (hc:=fun _=>Calm.move rfl) (h:=?_)
     refine dP (hc:=fun _=>Calm.move rfl) (h:=?_)
     refine dC (hc:=Calm.as ((byT_val s i).trans (by rw [← hx])) (Calm.indexStrN (strT_spec ty_str_9) rfl rfl hc)) (h:=?_)
     refine dP (hc:=fun _=>Calm.bin rfl rfl b_eql) (h:=?_)
     refine draw_nil ?_
     refine athen_n ?_
     refine k_u [(0,_),(1,_),(5,_),(6,_),(10,_),(11,_),(12,_),(13,_),(60,_),(69,_),(78,_)] ?_
     refine k_T rfl ?_
     refine AWP.region ?_
     refine k_m rfl ?_
     refine rC (Calm.bin rfl rfl b_add_i64) ?_
     refine k_s rfl ?_
     refine arun_nil ?_
     refine ain_n ?_
     refine athen_n ?_
     refine k_u [(0,_),(1,_),(5,_),(6,_),(10,_),(11,_),(12,_),(13,_),(60,_),(69,_),(78,_)] ?_
     refine AWP.region ?_
     refine k_m rfl ?_
     refine rC (Calm.bin rfl rfl b_add_i64) ?_
     refine k_e rfl ?_
     refine ⟨k+1,?_,?_,?_,?_⟩
     all_goals (try dsimp only)
     ·exact ⟨sq_,sq_,sq_,sq_,sq_,by rw [hsk];exact some_int (by omega),by rw [hck];exact some_int (by omega),sq_,trivial⟩
     ·exact Mem.Less.refl _
     ·exact hkn
     ·omega
    ·rw [if_pos c1.symm] at hsk
     rw [if_neg (fun h=>c2 h.symm)] at hck
     refine k_k (AWP.seq ?_)
     refine AWP.block ?_
     refine AWP.seq (AWP.seq ?_)
     refine AWP.draw [(0,true),(1,true),(2,true),(3,true),(4,true),(5,true),(6,true)] [] mixed (by kernel_rfl) ?_
     refine dP (hc:=fun _=>Calm.move rfl) (h:=?_)
     refine dP (hc:=fun _=>Calm.move rfl) (h:=?_)
     refine dC (hc:=Calm.as ((byT_val s k).trans (by rw [← hy])) (Calm.indexStrN (strT_spec ty_str_9) rfl rfl hkn)) (h:=?_)
     refine dP (hc:=fun _=>Calm.move rfl) (h:=?_)
     refine dP (hc:=fun _=>Calm.move rfl) (h:=?_)
     refine dC (hc:=Calm.as ((byT_val s i).trans (by rw [← hx])) (Calm.indexStrN (strT_spec ty_str_9) rfl rfl hc)) (h:=?_)
     refine dP (hc:=fun _=>Calm.bin rfl rfl b_eql) (h:=?_)
     refine draw_nil ?_
     refine athen_n ?_
     refine k_u [(0,_),(1,_),(5,_),(6,_),(10,_),(11,_),(12,_),(13,_),(60,_),(69,_)] ?_
     refine k_T rfl ?_
     refine AWP.region ?_
     refine k_m rfl ?_
     refine rC (Calm.bin rfl rfl b_add_i64) ?_
     refine k_e rfl ?_
     refine k_u [(0,_),(1,_),(5,_),(6,_),(10,_),(11,_),(12,_),(13,_),(60,_),(69,_)] ?_
     refine AWP.seq ?_
     refine AWP.draw [(0,true),(1,true),(2,true),(3,true),(4,true),(5,true),(6,true)] [] mixed (by kernel_rfl) ?_
     refine dP (hc:=fun _=>Calm.move rfl) (h:=?_)
     refine dP (hc:=fun _=>Calm.move rfl) (h:=?_)
     refine dC (hc:=Calm.as ((byT_val c k).trans (by rw [← hz])) (Calm.indexStrN (strT_spec ty_str_9) rfl rfl (by omega))) (h:=?_)
     refine dP (hc:=fun _=>Calm.move rfl) (h:=?_)
     refine dP (hc:=fun _=>Calm.move rfl) (h:=?_)
     refine dC (hc:=Calm.as ((byT_val s i).trans (by rw [← hx])) (Calm.indexStrN (strT_spec ty_str_9) rfl rfl hc)) (h:=?_)
     refine dP (hc:=fun _=>Calm.bin rfl rfl b_eql) (h:=?_)
     refine draw_nil ?_
     refine athen_n ?_
     refine k_u [(0,_),(1,_),(5,_),(6,_),(10,_),(11,_),(12,_),(13,_),(60,_),(69,_),(78,_)] ?_
     refine k_F rfl ?_
     refine AWP.skip ?_
     refine ain_n ?_
     refine athen_n ?_
     refine AWP.region ?_
     refine k_m rfl ?_
     refine rC (Calm.bin rfl rfl b_add_i64) ?_
     refine k_e rfl ?_
     refine ⟨k+1,?_,?_,?_,?_⟩
     all_goals (try dsimp only)
     ·exact ⟨sq_,sq_,sq_,sq_,sq_,by rw [hsk];exact some_int (by omega),by rw [hck];exact some_int (by omega),sq_,trivial⟩
     ·exact Mem.Less.refl _
     ·exact hkn
     ·omega
   ·by_cases c2:z=x
    ·rw [if_neg (fun h=>c1 h.symm)] at hsk
     rw [if_pos c2.symm] at hck
     refine k_k (AWP.seq ?_)
     refine AWP.block ?_
     refine AWP.seq (AWP.seq ?_)
     refine AWP.draw [(0,true),(1,true),(2,true),(3,true),(4,true),(5,true),(6,true)] [] mixed (by kernel_rfl) ?_
     refine dP (hc:=fun _=>Calm.move rfl) (h:=?_)
     refine dP (hc:=fun _=>Calm.move rfl) (h:=?_)
     refine dC (hc:=Calm.as ((byT_val s k).trans (by rw [← hy])) (Calm.indexStrN (strT_spec ty_str_9) rfl rfl hkn)) (h:=?_)
     refine dP (hc:=fun _=>Calm.move rfl) (h:=?_)
     refine dP (hc:=fun _=>Calm.move rfl) (h:=?_)
     refine dC (hc:=Calm.as ((byT_val s i).trans (by rw [← hx])) (Calm.indexStrN (strT_spec ty_str_9) rfl rfl hc)) (h:=?_)
     refine dP (hc:=fun _=>Calm.bin rfl rfl b_eql) (h:=?_)
     refine draw_nil ?_
     refine athen_n ?_
     refine k_u [(0,_),(1,_),(5,_),(6,_),(10,_),(11,_),(12,_),(13,_),(60,_),(69,_)] ?_
     refine k_F rfl ?_
     refine k_k (AWP.seq ?_)
     refine AWP.draw [(0,true),(1,true),(2,true),(3,true),(4,true),(5,true),(6,true)] [] mixed (by kernel_rfl) ?_
     refine dP (hc:=fun _=>Calm.move rfl) (h:=?_)
     refine dP (hc:=fun _=>Calm.move rfl) (h:=?_)
     refine dC (hc:=Calm.as ((byT_val c k).trans (by rw [← hz])) (Calm.indexStrN (strT_spec ty_str_9) rfl rfl (by omega))) (h:=?_)
     refine dP (hc:=fun _=>Calm.move rfl) (h:=?_)
     refine dP (hc:=fun _=>Calm.move rfl) (h:=?_)
     refine dC (hc:=Calm.as ((byT_val s i).trans (by rw [← hx])) (Calm.indexStrN (strT_spec ty_str_9) rfl rfl hc)) (h:=?_)
     refine dP (hc:=fun _=>Calm.bin rfl rfl b_eql) (h:=?_)
     refine draw_nil ?_
     refine athen_n ?_
     refine k_u [(0,_),(1,_),(5,_),(6,_),(10,_),(11,_),(12,_),(13,_),(60,_),(69,_),(78,_)] ?_
     refine k_T rfl ?_
     refine AWP.region ?_
     refine k_m rfl ?_
     refine rC (Calm.bin rfl rfl b_add_i64) ?_
     refine k_s rfl ?_
     refine arun_nil ?_
     refine ain_n ?_
     refine athen_n ?_
     refine k_u [(0,_),(1,_),(5,_),(6,_),(10,_),(11,_),(12,_),(13,_),(60,_),(69,_),(78,_)] ?_
     refine AWP.region ?_
     refine k_m rfl ?_
     refine rC (Calm.bin rfl rfl b_add_i64) ?_
     refine k_e rfl ?_
     refine ⟨k+1,?_,?_,?_,?_⟩
     all_goals (try dsimp only)
     ·exact ⟨sq_,sq_,sq_,sq_,sq_,by rw [hsk];exact some_int (by omega),by rw [hck];exact some_int (by omega),sq_,trivial⟩
     ·exact Mem.Less.refl _
     ·exact hkn
     ·omega
    ·rw [if_neg (fun h=>c1 h.symm)] at hsk
     rw [if_neg (fun h=>c2 h.symm)] at hck
     refine k_k (AWP.seq ?_)
     refine AWP.block ?_
     refine AWP.seq (AWP.seq ?_)
     refine AWP.draw [(0,true),(1,true),(2,true),(3,true),(4,true),(5,true),(6,true)] [] mixed (by kernel_rfl) ?_
     refine dP (hc:=fun _=>Calm.move rfl) (h:=?_)
     refine dP (hc:=fun _=>Calm.move rfl) (h:=?_)
     refine dC (hc:=Calm.as ((byT_val s k).trans (by rw [← hy])) (Calm.indexStrN (strT_spec ty_str_9) rfl rfl hkn)) (h:=?_)
     refine dP (hc:=fun _=>Calm.move rfl) (h:=?_)
     refine dP (hc:=fun _=>Calm.move rfl) (h:=?_)
     refine dC (hc:=Calm.as ((byT_val s i).trans (by rw [← hx])) (Calm.indexStrN (strT_spec ty_str_9) rfl rfl hc)) (h:=?_)
     refine dP (hc:=fun _=>Calm.bin rfl rfl b_eql) (h:=?_)
     refine draw_nil ?_
     refine athen_n ?_
     refine k_u [(0,_),(1,_),(5,_),(6,_),(10,_),(11,_),(12,_),(13,_),(60,_),(69,_)] ?_
     refine k_F rfl ?_
     refine k_k (AWP.seq ?_)
     refine AWP.draw [(0,true),(1,true),(2,true),(3,true),(4,true),(5,true),(6,true)] [] mixed (by kernel_rfl) ?_
     refine dP (hc:=fun _=>Calm.move rfl) (h:=?_)
     refine dP (hc:=fun _=>Calm.move rfl) (h:=?_)
     refine dC (hc:=Calm.as ((byT_val c k).trans (by rw [← hz])) (Calm.indexStrN (strT_spec ty_str_9) rfl rfl (by omega))) (h:=?_)
     refine dP (hc:=fun _=>Calm.move rfl) (h:=?_)
     refine dP (hc:=fun _=>Calm.move rfl) (h:=?_)
     refine dC (hc:=Calm.as ((byT_val s i).trans (by rw [← hx])) (Calm.indexStrN (strT_spec ty_str_9) rfl rfl hc)) (h:=?_)
     refine dP (hc:=fun _=>Calm.bin rfl rfl b_eql) (h:=?_)
     refine draw_nil ?_
     refine athen_n ?_
     refine k_u [(0,_),(1,_),(5,_),(6,_),(10,_),(11,_),(12,_),(13,_),(60,_),(69,_),(78,_)] ?_
     refine k_F rfl ?_
     refine AWP.skip ?_
     refine ain_n ?_
     refine athen_n ?_
     refine AWP.region ?_
     refine k_m rfl ?_
     refine rC (Calm.bin rfl rfl b_add_i64) ?_
     refine k_e rfl ?_
     refine ⟨k+1,?_,?_,?_,?_⟩
     all_goals (try dsimp only)
     ·exact ⟨sq_,sq_,sq_,sq_,sq_,by rw [hsk];exact some_int (by omega),by rw [hck];exact some_int (by omega),sq_,trivial⟩
     ·exact Mem.Less.refl _
     ·exact hkn
     ·omega
  ·obtain rfl:k=s.size:=by omega
   refine AWP.seq (k_a (k_m rfl (k_m rfl ?_)))
   refine rC (Calm.lenStr (strT_spec ty_str_9) rfl) ?_
   refine rC (Calm.bin rfl rfl b_lss) ?_
   refine k_n ?_
   refine k_u [(0,_),(1,_),(5,_),(6,_),(10,_),(11,_),(12,_),(13,_),(60,_)] ?_
   refine k_F rfl ?_
   rw [List.take_of_length_le (by omega),List.take_of_length_le (by omega),hcq x]
   refine AWP.exit ?_
   refine athen_exit ?_
   refine athen_exit ?_
   refine ain_same ?_
   refine athen_n ?_
   refine k_a (k_m rfl (k_m rfl ?_))
   refine rC (Calm.bin rfl rfl b_neq) ?_
   refine k_n ?_
   refine k_u [(0,_),(1,_),(5,_),(6,_),(10,_),(11,_),(12,_),(13,_),(60,_),(83,_)] ?_
   refine k_F rfl ?_
   refine AWP.skip ?_
   refine ain_n ?_
   refine athen_n ?_
   refine AWP.region ?_
   refine k_m rfl ?_
   refine rC (Calm.bin rfl rfl b_add_i64) ?_
   refine k_e rfl ?_
   refine ⟨i+1,?_,?_,?_,?_⟩
   all_goals (try dsimp only)
   ·exact ⟨sq_,sq_,sq_,sq_,sq_,trivial⟩
   ·exact Mem.Less.refl _
   ·exact hc
   ·omega
 ·refine AWP.seq (k_a (k_m rfl (k_m rfl ?_)))
  refine rC (Calm.lenStr (strT_spec ty_str_9) rfl) ?_
  refine rC (Calm.bin rfl rfl b_lss) ?_
  refine k_n ?_
  refine k_u [(0,_),(1,_),(5,_),(6,_),(10,_),(54,_)] ?_
  refine k_F rfl ?_
  refine AWP.exit ?_
  refine athen_exit ?_
  refine athen_exit ?_
  refine ain_same ?_
  refine athen_n ?_
  refine k_a (k_m rfl (k_m rfl ?_))
  refine ARun.call (lit_lt rfl) go_57 rfl (od_Text c other _) ?_
  rintro _ S8 ⟨rfl,e1⟩
  rw [e1];clear e1 S8
  refine k_m rfl ?_
  refine rC (Calm.extract rfl rfl) ?_
  refine rC (Calm.extract rfl rfl) ?_
  refine k_s rfl (k_e rfl ?_)
  refine k_u [(0,_),(1,_),(5,_),(6,_),(10,_),(54,_),(14,_),(15,_)] ?_
  by_cases c1:other=(p:Int)
  ·refine k_a (k_m rfl (k_m rfl ?_))
   refine rC (Calm.bin rfl rfl b_eql) ?_
   refine k_m rfl ?_
   first|refine k_q 93 ?_|refine rG 93 (Calm.move rfl) ?_
   first|refine k_q 93 ?_|refine rG 93 (Calm.bin rfl rfl b_neq) ?_
   first|refine k_t rfl rfl ?_|refine k_f rfl rfl ?_
   refine k_m rfl ?_
   first|refine k_q 97 ?_|refine rG 97 (Calm.move rfl) ?_
   first|refine k_q 97 ?_|refine rG 97 (Calm.move rfl) ?_
   first|refine k_q 97 ?_|refine rG 97 (Calm.bin rfl rfl (bin_str_neq _ _)) ?_
   first|refine k_t rfl rfl ?_|refine k_f rfl rfl ?_
   refine k_e rfl ?_
   refine k_u [(0,_),(1,_),(5,_),(6,_),(10,_),(54,_),(14,_),(15,_),(4,_)] ?_
   refine AWP.ret ?_
   refine ⟨_,_,⟨_,_,rfl,rfl,rfl⟩,less_,?_⟩
   rfl
  ·by_cases c2:(textP c other).2=0
   ·have c3:(textP c other).1≠s:=fun h=>c1 (text_same (by omega) (by omega) hp1 (by omega) hw c2 h)
    rw [c2]
    refine k_a (k_m rfl (k_m rfl ?_))
    refine rC (Calm.bin rfl rfl b_eql) ?_
    refine k_m rfl ?_
    first|refine k_q 93 ?_|refine rG 93 (Calm.move rfl) ?_
    first|refine k_q 93 ?_|refine rG 93 (Calm.bin rfl rfl b_neq) ?_
    first|refine k_t rfl rfl ?_|refine k_f rfl rfl ?_
    refine k_m rfl ?_
    first|refine k_q 97 ?_|refine rG 97 (Calm.move rfl) ?_
    first|refine k_q 97 ?_|refine rG 97 (Calm.move rfl) ?_
    first|refine k_q 97 ?_|refine rG 97 (Calm.bin rfl rfl (bin_bool (bin_str_neq _ _) (by first | (rw [decide_eq_false c3];done) | (rw [decide_eq_false c3];rfl)))) ?_
    first|refine k_t rfl rfl ?_|refine k_f rfl rfl ?_
    refine k_e rfl ?_
    refine k_u [(0,_),(1,_),(5,_),(6,_),(10,_),(54,_),(14,_),(15,_),(4,_)] ?_
    refine AWP.ret ?_
    refine ⟨_,_,⟨_,_,rfl,rfl,rfl⟩,less_,?_⟩
    rfl
   ·refine k_a (k_m rfl (k_m rfl ?_))
    refine rC (Calm.bin rfl rfl b_eql) ?_
    refine k_m rfl ?_
    first|refine k_q 93 ?_|refine rG 93 (Calm.move rfl) ?_
    first|refine k_q 93 ?_|refine rG 93 (Calm.bin rfl rfl b_neq) ?_
    first|refine k_t rfl rfl ?_|refine k_f rfl rfl ?_
    refine k_m rfl ?_
    first|refine k_q 97 ?_|refine rG 97 (Calm.move rfl) ?_
    first|refine k_q 97 ?_|refine rG 97 (Calm.move rfl) ?_
    first|refine k_q 97 ?_|refine rG 97 (Calm.bin rfl rfl (bin_str_neq _ _)) ?_
    first|refine k_t rfl rfl ?_|refine k_f rfl rfl ?_
    refine k_e rfl ?_
    refine k_u [(0,_),(1,_),(5,_),(6,_),(10,_),(54,_),(14,_),(15,_),(4,_)] ?_
    refine AWP.ret ?_
    refine ⟨_,_,⟨_,_,rfl,rfl,rfl⟩,less_,?_⟩
    rfl
theorem walk_OrderBack (s : ByteArray) (p : Int) (w : World) (w0 : s.size ≤ maxLen) (z0 : s.size < 140737488355328) (w2 : (Lit.int .i64 p).wf = true) :
  Calls Try.prog 10 #[.string s,.int .i64 p] w fun e w'=>e = .returned (.bool true)∧Below w.heap.size w w' :=
 ACall.callsW (law_OrderBack s p _)
end Go.Proofs.Ytgidjbpgkeemiaa
