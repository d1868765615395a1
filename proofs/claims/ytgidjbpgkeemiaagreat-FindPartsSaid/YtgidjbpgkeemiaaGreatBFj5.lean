/-
  Texts that belong together: OdFB, OrdMath2, Od7, Od8, FindMath, Fd1, Rf, Fd2, Fd3, Rw, Rf3.
-/
import Derived.Test.YtgidjbpgkeemiaaGreatBFj4
import Derived.RangeFuncNested
import Derived.RangeFuncBound
import Derived.RangeFuncCalls
import Derived.RangeFuncLeaves
import Derived.Shelf.RegionOpen
import Derived.WalkKit
import Derived.OwnWalkIn
import Derived.TacticsInMore
import Derived.LoopNIn
import Derived.LoopIn
set_option linter.unusedVariables false
set_option linter.unusedSimpArgs false
set_option linter.unusedSectionVars false
namespace Go.Proofs.YtgidjbpgkeemiaaGreat
open Go.RowKit
open Mv Num Loser Srt
set_option maxRecDepth 4000
set_option maxHeartbeats 2000000 in
theorem odB_search (v : Value) (x : Nat) (D : List Nat) (S : Mem) (hv : Sl 1 (fun y => [encB y]) S v D) (hs : D.Pairwise (· < ·)) (hx : x ∈ D) (hl : D.length ≤ 1048576) :
  ACall Tryz.prog 33 #[v,encB x] S fun r S'=>r = .tuple #[.int .i64 (cntL D x:Nat),.bool true]∧S'=S:=by
 obtain ⟨a,cap,rfl,h1,h2,h3⟩:=id hv
 obtain ⟨b,o,rfl,hk⟩:=h3.resolve_left (fun e=>by rw [e] at hx;cases hx)
 refine ACall.enter (rs:=[.tmp 4,.tmp 5]) 54 [(0,.slice (some ⟨b,o,none⟩) D.length cap),(1,encB x)] Tryz.func33 rfl rfl (Nat.le_of_ble_eq_true rfl) rfl ⟨rfl,rfl,trivial⟩ ?_
 refine k_a (k_s rfl (k_e rfl (k_a (k_m rfl ?_))))
 refine rC (Calm.lenSl Tryz.underlying41 rfl) ?_
 refine k_e rfl ?_
 refine k_u [(0,_),(1,_),(4,_),(5,_),(6,_)] ?_
 refine k_a (k_m rfl (k_s rfl (k_e rfl ?_)))
 refine k_u [(0,_),(1,_),(4,_),(5,_),(6,_),(7,_),(8,_)] ?_
 refine AWP.seq ?_
 refine AWP.block ?_
 refine AWP.loop (X:=Nat × Nat) (fun y=>[(0,.slice (some ⟨b,o,none⟩) D.length cap),(1,encB x),(6,.int .i64 D.length),(7,.int .i64 y.1),(8,.int .i64 y.2)]) (fun y=>S) (fun y=>y.1≤y.2∧y.2≤D.length∧(∀ k (hk:k<D.length),k<y.1→D[k]<x) ∧ ∀ k (hk:k<D.length),y.2≤k→x≤D[k]) (fun y=>y.2-y.1) ((0,D.length)) ⟨rfl,rfl,rfl,rfl,rfl,trivial⟩ (Mem.Less.refl _) (⟨Nat.zero_le _,Nat.le_refl _,fun k _ h=>absurd h (Nat.not_lt_zero _),fun k hk h=>absurd hk (Nat.not_lt.2 h)⟩) ?_
 rintro ⟨i,j⟩ ⟨q1,q2,q3,q4⟩
 (try dsimp only at *)
 by_cases hij:i<j
 ·refine AWP.seq (k_a (k_m rfl (k_m rfl ?_)))
  refine rC (Calm.bin rfl rfl b_lss) ?_
  refine k_n ?_
  refine k_u [(0,_),(1,_),(6,_),(7,_),(8,_),(15,_)] ?_
  refine k_T rfl ?_
  obtain ⟨m,hm⟩ : ∃ m,m=(i+j) / 2:=⟨_,rfl⟩
  have hml:m<D.length:=by omega
  have hkm:S.Knows ⟨b,o+m*1,none⟩ [encB D[m]]:=hk m hml
  have e2:((i:Int)+j) / 2 ^ Int.toNat 1=(m:Int):=by rw [hm];show ((i:Int)+j) / 2=_;omega
  have e3:IntKind.i64.wrap (((i:Int)+j) / 2 ^ Int.toNat 1)=(m:Int):=by rw [e2];exact IntWalk.i64_in _ (by omega)
  refine k_k ?_
  refine AWP.block ?_
  refine k_a (k_m rfl (k_m rfl ?_))
  refine rC (Calm.bin rfl rfl b_add_i64) ?_
  refine rC (Calm.conv rfl (by first | exact conv_intW Tryz.underlying3 Tryz.underlying92 (IntWalk.u64_in _ (by omega)) | exact conv_int Tryz.underlying3 Tryz.underlying92)) ?_
  refine rC (Calm.bin rfl rfl b_shr) ?_
  refine rC (Calm.conv rfl (by first | exact conv_intW Tryz.underlying92 Tryz.underlying3 (IntWalk.i64_in _ (by omega)) | exact conv_int Tryz.underlying92 Tryz.underlying3)) ?_
  refine k_e rfl ?_
  refine k_u [(0,_),(1,_),(6,_),(7,_),(8,_),(15,_),(9,_)] ?_
  refine AWP.sub [(0,.slice (some ⟨b,o,none⟩) D.length cap),(1,encB x),(6,.int .i64 D.length),(7,.int .i64 i),(8,.int .i64 j),(9,.int .i64 m),(15,.bool true)] ⟨rfl,rfl,rfl,rfl,rfl,by first | exact congrArg (fun q=>some (Value.int .i64 q)) e2 | exact congrArg (fun q=>some (Value.int .i64 q)) e3,rfl,trivial⟩ ?_
  refine k_a (k_m rfl (k_m rfl ?_))
  refine rC (Calm.indexS Tryz.underlying41 ty_size_5 rfl rfl (by omega) (by omega)) ?_
  refine rC (ld_ ty_plain_5 rfl) ?_
  refine k_m rfl ?_
  refine ARun.call (lit_lt rfl) go_55 rfl (soB_less D[m] x _) ?_
  rintro _ S1 ⟨rfl,e1⟩
  rw [e1];clear e1 S1
  refine k_n ?_
  refine k_u [(0,_),(1,_),(6,_),(7,_),(8,_),(15,_),(9,_),(27,_)] ?_
  refine AWP.condB rfl (fun hlt=>?_) (fun hlt=>?_)
  ·refine AWP.region ?_
   refine k_m rfl ?_
   refine rC (Calm.bin rfl rfl b_add_i64) ?_
   refine k_s rfl ?_
   refine arun_nil ?_
   refine ain_n ?_
   refine athen_n ?_
   refine ⟨(m+1,j),?_,?_,?_,?_⟩
   all_goals (try dsimp only)
   ·exact ⟨sq_,sq_,sq_,sq_,sq_,trivial⟩
   ·exact Mem.Less.refl _
   ·exact ⟨by omega,q2,fun k hk h=>by have hd:D[m]<x:=of_decide_eq_true hlt;rcases Nat.lt_or_ge k m with h' | h';(have:=List.pairwise_iff_getElem.1 hs k m hk hml h';omega);(obtain rfl:k=m:=(by omega);exact hd),q4⟩
   ·omega
  ·refine AWP.region ?_
   refine k_m rfl (k_s rfl ?_)
   refine arun_nil ?_
   refine ain_n ?_
   refine athen_n ?_
   refine ⟨(i,m),?_,?_,?_,?_⟩
   all_goals (try dsimp only)
   ·exact ⟨sq_,sq_,sq_,sq_,sq_,trivial⟩
   ·exact Mem.Less.refl _
   ·exact ⟨by omega,by omega,q3,fun k hk h=>by have hd : ¬ D[m]<x:=of_decide_eq_false hlt;rcases Nat.lt_or_ge m k with h' | h';(have:=List.pairwise_iff_getElem.1 hs m k hml hk h';omega);(obtain rfl:k=m:=(by omega);omega)⟩
   ·omega
 ·obtain rfl:i=j:=by omega
  refine AWP.seq (k_a (k_m rfl (k_m rfl ?_)))
  refine rC (Calm.bin rfl rfl b_lss) ?_
  refine k_n ?_
  refine k_u [(0,_),(1,_),(6,_),(7,_),(8,_),(15,_)] ?_
  refine k_F rfl ?_
  have hci:=cnt_of D x i q2 q3 q4
  obtain ⟨k,hk',hkx⟩:=List.getElem_of_mem hx
  have hin:i<D.length:=by rcases Nat.lt_or_ge i D.length with h | h;(exact h);(have:=q3 k hk' (by omega);omega)
  have hDi:D[i]=x:=by rcases Nat.lt_trichotomy i k with h | h | h;(have:=List.pairwise_iff_getElem.1 hs i k hin hk' h;have:=q4 i hin (Nat.le_refl _);omega);(subst h;exact hkx);(have:=q3 k hk' h;omega)
  have hki:S.Knows ⟨b,o+i*1,none⟩ [encB x]:=by rw [← hDi];exact hk i hin
  rw [hci]
  unfold encB at *
  refine AWP.exit ?_
  refine athen_exit ?_
  refine athen_exit ?_
  refine ain_same ?_
  refine athen_n ?_
  refine k_a (k_m rfl (k_m rfl (k_m rfl ?_)))
  refine rC (Calm.bin rfl rfl b_lss) ?_
  refine k_m rfl ?_
  first|refine k_q 35 ?_|refine rG 35 (Calm.move rfl) ?_
  first|refine k_q 35 ?_|refine rG 35 (Calm.move rfl) ?_
  first|refine k_q 35 ?_|refine rG 35 (Calm.indexS Tryz.underlying41 ty_size_5 rfl rfl (by omega) (by omega)) ?_
  first|refine k_q 35 ?_|refine rG 35 (ld_ ty_plain_5 rfl) ?_
  first|refine k_q 35 ?_|refine rG 35 (Calm.move rfl) ?_
  first|refine k_q 35 ?_|refine rG 35 (Calm.bin rfl rfl b_eql) ?_
  first|refine k_q 35 ?_|refine rG 35 (Calm.move rfl) ?_
  first|refine k_q 42 ?_|refine rG 42 (Calm.move rfl) ?_
  first|refine k_q 42 ?_|refine rG 42 (Calm.move rfl) ?_
  first|refine k_q 42 ?_|refine rG 42 (Calm.indexS Tryz.underlying41 ty_size_5 rfl rfl (by omega) (by omega)) ?_
  first|refine k_q 42 ?_|refine rG 42 (ld_ ty_plain_5 rfl) ?_
  first | refine rS 42 ?_ | refine rU 42 ?_
  first|refine k_q 42 ?_|refine rG 42 (Calm.move rfl) ?_
  first|refine k_q 48 ?_|refine rG 48 (Calm.move rfl) ?_
  first | refine rS 48 ?_ | refine rU 48 ?_
  first|refine k_q 42 ?_|refine rG 42 ((by first | exact Calm.pickT rfl rfl | exact Calm.pickF rfl rfl)) ?_
  first|refine k_q 35 ?_|refine rG 35 ((by first | exact Calm.pickT rfl rfl | exact Calm.pickF rfl rfl)) ?_
  first|refine k_t rfl rfl ?_|refine k_f rfl rfl ?_
  refine k_s rfl (k_e rfl ?_)
  refine k_u [(0,_),(1,_),(6,_),(7,_),(8,_),(15,_),(4,_),(5,_)] ?_
  refine AWP.ret ?_
  refine ⟨_,S,⟨_,_,rfl,⟨_,_,rfl,rfl,rfl⟩,rfl⟩,less_,?_⟩
  exact ⟨rfl,rfl⟩
set_option maxHeartbeats 1000000 in
theorem odB_clone (v : Value) (l : List Nat) (S : Mem) (hv : Sl 1 (fun y => [encB y]) S v l) (hl : l.length ≤ 4096) :
  ACall Tryz.prog 30 #[v] S fun r S'=>∃ o,OkO S o l.length∧r=outV o l.length∧S'=outM S o 5 (l.map encB):=by
 obtain ⟨a,cap,rfl,h1,h2,h3⟩:=id hv
 cases a with
 | none =>
  obtain rfl:l = []:=h3.resolve_right (fun ⟨b,o,e,_⟩=>by cases e)
  refine ACall.enter (rs:=[.tmp 2]) 8 [(0,.slice none 0 cap)] Tryz.func30 rfl rfl (Nat.le_of_ble_eq_true rfl) rfl ⟨rfl,trivial⟩ ?_
  refine k_a (k_e rfl (AWP.seq (k_a (k_m rfl ?_))))
  refine rC (Calm.bin rfl rfl (bin_nil_eql Tryz.underlying41)) ?_
  refine k_n ?_
  refine k_u [(0,_),(2,_),(4,_)] ?_
  refine k_T rfl ?_
  refine k_a (k_e rfl ?_)
  refine k_r ?_
  refine ⟨_,S,⟨_,_,rfl,rfl,rfl⟩,less_,?_⟩
  exact ⟨none,okO_nil _,rfl,rfl⟩
 | some ad =>
  have hsrc:=src_sl hv
  refine ACall.enter (rs:=[.tmp 2]) 8 [(0,.slice (some ad) l.length cap)] Tryz.func30 rfl rfl (Nat.le_of_ble_eq_true rfl) rfl ⟨rfl,trivial⟩ ?_
  refine k_a (k_e rfl (AWP.seq (k_a (k_m rfl ?_))))
  refine rC (Calm.bin rfl rfl (bin_nil_eql Tryz.underlying41)) ?_
  refine k_n ?_
  refine k_u [(0,_),(2,_),(4,_)] ?_
  refine k_F rfl ?_
  refine k_k (k_a ?_)
  refine ARun.build0 (lit_lt rfl) ty_sl_41 ?_
  intro b5 f5
  have g5:=f5
  repeat ((with_reducible replace g5:=fresh_set g5);obtain ⟨g5,_⟩:=g5)
  refine k_m rfl ?_
  refine ARun.appendOK (n:=1) (o:=some (b5,0)) (k:=0) (m:=l.length) (cs:=[]) (news:=l.map encB) (lit_lt rfl) ty_sl_41 rfl rfl rfl (okO_own f5 (Nat.zero_le _)) (appN1 (okO_own f5 (Nat.zero_le _)) rfl) rfl (hsrc.less (Mem.less_set _ _ _ f5.1)) (by rw [List.length_map,Nat.mul_one]) (one_cells (fun _=>rfl) _) (by omega) (by omega) ?_
  intro o1 ho1
  rw [Nat.zero_add] at ho1
  refine k_e rfl ?_
  refine k_u [(0,_),(2,_),(4,_)] ?_
  refine AWP.ret ?_
  refine ⟨_,_,⟨_,_,rfl,rfl,rfl⟩,Mem.Less.refl _,?_⟩
  exact ⟨o1,ho1,by show outV o1 (0+l.length)=_;rw [Nat.zero_add],by rw [outN_one];rfl⟩
theorem odB_tail (A : List Nat) (k : Nat) (zs : List Value) (h : zs.length = A.length - k) : spl (A.map encB) k zs = (A.take k).map encB ++ zs := by
 unfold spl
 rw [List.drop_of_length_le (by rw [List.length_map];omega),List.append_nil,List.map_take]
set_option maxHeartbeats 4000000 in
theorem odB_compact (b room cap : Nat) (L : List Nat) (n : Nat) (hn : L.length = n) (S : Mem) (hb : Fresh S b) (hL : L.Pairwise (· ≤ ·)) (hn2 : n ≤ 4096) (hc : n ≤ cap) :
  ACall Tryz.prog 32 #[.slice (some ⟨b,0,none⟩) n cap] (S.set b ⟨5,L.map encB,room⟩) fun r S'=>∃ (D:List Nat) (zs:List Value),r = .slice (some ⟨b,0,none⟩) D.length cap∧S'=S.set b ⟨5,D.map encB ++ zs,room⟩∧D.Pairwise (· < ·)∧(∀ x ∈ L,x ∈ D)∧D.length≤n:=by
 have hLg:∀ i j (hi:i<L.length) (hj:j<L.length),i<j→L.getD i 0≤L.getD j 0:=fun i j hi hj hij=>by rw [getD_get _ _ _ hi,getD_get _ _ _ hj];exact List.pairwise_iff_getElem.1 hL i j hi hj hij
 have hob:∀ (c:List Value),(S.set b ⟨5,c,room⟩).own b=some ⟨5,c,room⟩:=fun c=>Mem.own_set_same _ _ _
 by_cases h2:n<2
 ·skip
  refine ACall.enter (rs:=[.tmp 2]) 61 [(0,.slice (some ⟨b,0,none⟩) n cap)] Tryz.func32 rfl rfl (Nat.le_of_ble_eq_true rfl) rfl ⟨rfl,trivial⟩ ?_
  refine k_a (k_e rfl (AWP.seq (k_a (k_m rfl ?_))))
  refine rC (Calm.lenSl Tryz.underlying41 rfl) ?_
  refine rC (Calm.bin rfl rfl b_lss) ?_
  refine k_n ?_
  refine k_u [(0,_),(2,_),(8,_)] ?_
  refine k_T rfl ?_
  refine k_a (k_m rfl (k_e rfl ?_))
  refine k_u [(0,_),(2,_),(8,_)] ?_
  refine k_r ?_
  refine ⟨_,_,⟨_,_,rfl,rfl,rfl⟩,Mem.Less.refl _,?_⟩
  exact ⟨L,[],by rw [hn];rfl,by rw [List.append_nil],by (match L,hn with | [],_=>exact List.Pairwise.nil | [x],_=>exact List.pairwise_singleton _ _ | _ :: _ :: _,h=>simp at h;omega),fun x hx=>hx,by omega⟩
 refine ACall.enter (rs:=[.tmp 2]) 61 [(0,.slice (some ⟨b,0,none⟩) n cap)] Tryz.func32 rfl rfl (Nat.le_of_ble_eq_true rfl) rfl ⟨rfl,trivial⟩ ?_
 refine k_a (k_e rfl (AWP.seq (k_a (k_m rfl ?_))))
 refine rC (Calm.lenSl Tryz.underlying41 rfl) ?_
 refine rC (Calm.bin rfl rfl b_lss) ?_
 refine k_n ?_
 refine k_u [(0,_),(2,_),(8,_)] ?_
 refine k_F rfl ?_
 refine k_k (AWP.seq (k_a (k_e rfl ?_)))
 refine AWP.block ?_
 refine AWP.loop (X:=Nat) (fun k=>[(0,.slice (some ⟨b,0,none⟩) n cap),(3,.int .i64 k)]) (fun k=>S.set b ⟨5,L.map encB,room⟩) (fun k=>1≤k∧k≤n ∧ ∀ i,i+1<k→L.getD i 0<L.getD (i+1) 0) (fun k=>n-k) (1) ⟨rfl,rfl,trivial⟩ (Mem.Less.refl _) (⟨Nat.le_refl _,by omega,fun i h=>by have h':i+1<1:=h;omega⟩) ?_
 rintro k ⟨q1,q2,q3⟩
 (try dsimp only at *)
 by_cases hk:k<n
 ·refine AWP.seq (k_a (k_m rfl (k_m rfl ?_)))
  refine rC (Calm.lenSl Tryz.underlying41 rfl) ?_
  refine rC (Calm.bin rfl rfl b_lss) ?_
  refine k_n ?_
  refine k_u [(0,_),(3,_),(13,_)] ?_
  refine k_T rfl ?_
  obtain ⟨j,rfl⟩ : ∃ j,k=j+1:=⟨k-1,by omega⟩
  obtain ⟨x,hx⟩ : ∃ x,x=L.getD (j+1) 0:=⟨_,rfl⟩
  obtain ⟨y,hy⟩ : ∃ y,y=L.getD j 0:=⟨_,rfl⟩
  have hxe:L[j+1]'(by omega)=x:=by rw [hx,getD_get _ _ _ (by omega)]
  have hye:L[j]'(by omega)=y:=by rw [hy,getD_get _ _ _ (by omega)]
  have hyx:y≤x:=by rw [hx,hy];exact hLg j (j+1) (by omega) (by omega) (by omega)
  refine k_k (AWP.seq ?_)
  refine AWP.block ?_
  refine AWP.seq ?_
  refine AWP.draw [(0,true),(1,true),(2,true),(3,true),(4,true),(5,true),(6,true),(7,true),(8,true),(9,true)] [] mixed (by kernel_rfl) ?_
  refine dP (hc:=fun _=>Calm.move rfl) (h:=?_)
  refine dP (hc:=fun _=>Calm.move rfl) (h:=?_)
  refine dP (hc:=fun _=>Calm.indexS Tryz.underlying41 ty_size_5 rfl rfl (by omega) (by omega)) (h:=?_)
  refine dC (hc:=Calm.as (show encB (L[j+1]'(by omega)) = .int .u8 (x:Int) by rw [hxe];rfl) (Calm.load ty_plain_5 rfl (rd_list (g:=encB) (j+1) (by omega) (hob _) rw_))) (h:=?_)
  refine dP (hc:=fun _=>Calm.move rfl) (h:=?_)
  refine dP (hc:=fun _=>Calm.move rfl) (h:=?_)
  refine dP (hc:=fun _=>Calm.bin rfl rfl b_sub_i64) (h:=?_)
  refine dP (hc:=fun _=>Calm.indexS Tryz.underlying41 ty_size_5 rfl rfl (by omega) (by omega)) (h:=?_)
  refine dC (hc:=Calm.as (show encB (L[j]'(by omega)) = .int .u8 (y:Int) by rw [hye];rfl) (Calm.load ty_plain_5 rfl (rd_list (g:=encB) j (by omega) (hob _) rw_))) (h:=?_)
  refine dP (hc:=fun _=>Calm.bin rfl rfl b_eql) (h:=?_)
  refine draw_nil ?_
  refine athen_n ?_
  refine k_u [(0,_),(3,_),(13,_),(25,_)] ?_
  by_cases he:x=y
  ·refine k_T rfl ?_
   have hst:=CpI.start (L:=L) (k:=j+1) (by omega) (by omega) q3 (by rw [← hx,he,hy];rfl)
   refine k_a (k_m rfl (k_m rfl ?_))
   refine rC ((by first | exact Calm.sliceSl Tryz.underlying41 ty_size_5 rfl (bnd_none _ _) (by simp) (bnd_none _ _) (bnd_some _ _ rfl (by omega) (by omega)) | exact Calm.sliceNil Tryz.underlying41 ty_size_5 rfl (bnd_none _ _) (by simp) (bnd_none _ _) (bnd_zero _ _ rfl))) ?_
   refine k_e rfl ?_
   refine k_u [(0,_),(3,_),(13,_),(25,_),(4,_)] ?_
   refine AWP.sub [(0,.slice (some ⟨b,0,none⟩) n cap),(3,.int .i64 ((j+1:Nat):Int)),(4,.slice (some ⟨b,j+1,none⟩) (n-(j+1)) (cap-(j+1)))] ⟨rfl,rfl,by show some _=some _;rw [Int.toNat_natCast,if_neg (by omega),Nat.zero_add,Nat.mul_one],trivial⟩ ?_
   refine AWP.seq (k_a (k_e rfl ?_))
   refine AWP.block ?_
   refine AWP.loop (X:=List Nat × Nat × Nat) (fun z=>[(0,.slice (some ⟨b,0,none⟩) n cap),(3,.int .i64 z.2.1),(4,.slice (some ⟨b,j+1,none⟩) (n-(j+1)) (cap-(j+1))),(5,.int .i64 z.2.2)]) (fun z=>S.set b ⟨5,z.1.map encB,room⟩) (fun z=>1≤z.2.2∧j+1+z.2.2≤n∧CpI L z.1 z.2.1 (j+1+z.2.2)) (fun z=>n-z.2.2) ((L,j+1,1)) ⟨rfl,rfl,rfl,rfl,trivial⟩ (Mem.Less.refl _) (⟨Nat.le_refl _,hk,hst⟩) ?_
   rintro ⟨A,k,c⟩ ⟨r1,r2,r3⟩
   (try dsimp only at *)
   have rA:=r3.1
   have rk:=r3.2.2.1
   by_cases hcn:c<n-(j+1)
   ·refine AWP.seq (k_a (k_m rfl (k_m rfl ?_)))
    refine rC (Calm.lenSl Tryz.underlying41 rfl) ?_
    refine rC (Calm.bin rfl rfl b_lss) ?_
    refine k_n ?_
    refine k_u [(0,_),(3,_),(4,_),(5,_),(32,_)] ?_
    refine k_T rfl ?_
    obtain ⟨q,hq⟩ : ∃ q,q=j+c:=⟨_,rfl⟩
    have hq1:j+1+c=q+1:=by omega
    rw [hq1] at r3 rk
    have hqn:q+1<L.length:=by omega
    obtain ⟨w,hw⟩ : ∃ w,w=L.getD (q+1) 0:=⟨_,rfl⟩
    obtain ⟨u,hu⟩ : ∃ u,u=L.getD q 0:=⟨_,rfl⟩
    have hwe:A[q+1]'(by omega)=w:=by rw [hw,← r3.2.2.2.2.1 (q+1) (by omega),getD_get _ _ _ (by omega)]
    have hue:A[q]'(by omega)=u:=by rw [hu,← r3.2.2.2.2.1 q (by omega),getD_get _ _ _ (by omega)]
    have huw:u≤w:=by rw [hw,hu];exact hLg q (q+1) (by omega) (by omega) (by omega)
    refine k_k (AWP.seq ?_)
    refine AWP.block ?_
    refine AWP.seq ?_
    refine AWP.draw [(0,true),(1,true),(2,true),(3,true),(4,true),(5,true),(6,true),(7,true),(8,true),(9,true)] [] mixed (by kernel_rfl) ?_
    refine dP (hc:=fun _=>Calm.move rfl) (h:=?_)
    refine dP (hc:=fun _=>Calm.move rfl) (h:=?_)
    refine dP (hc:=fun _=>Calm.indexS Tryz.underlying41 ty_size_5 rfl rfl (by omega) (by omega)) (h:=?_)
    refine dC (hc:=Calm.as (show encB (A[q+1]'(by omega)) = .int .u8 (w:Int) by rw [hwe];rfl) (Calm.load ty_plain_5 rfl (rd_list (g:=encB) (q+1) (by omega) (hob _) (by omega)))) (h:=?_)
    refine dP (hc:=fun _=>Calm.move rfl) (h:=?_)
    refine dP (hc:=fun _=>Calm.move rfl) (h:=?_)
    refine dP (hc:=fun _=>Calm.bin rfl rfl b_sub_i64) (h:=?_)
    refine dP (hc:=fun _=>Calm.indexS Tryz.underlying41 ty_size_5 rfl rfl (by omega) (by omega)) (h:=?_)
    refine dC (hc:=Calm.as (show encB (A[q]'(by omega)) = .int .u8 (u:Int) by rw [hue];rfl) (Calm.load ty_plain_5 rfl (rd_list (g:=encB) q (by omega) (hob _) (by omega)))) (h:=?_)
    refine dP (hc:=fun _=>Calm.bin rfl rfl b_neq) (h:=?_)
    refine draw_nil ?_
    refine athen_n ?_
    refine k_u [(0,_),(3,_),(4,_),(5,_),(32,_),(44,_)] ?_
    by_cases hwu:w=u
    ·refine k_F rfl ?_
     refine AWP.skip ?_
     refine ain_n ?_
     refine athen_n ?_
     refine AWP.region ?_
     refine k_m rfl ?_
     refine rC (Calm.bin rfl rfl b_add_i64) ?_
     refine k_e rfl ?_
     refine ⟨(A,k,c+1),?_,?_,?_,?_⟩
     all_goals (try dsimp only)
     ·exact ⟨sq_,sq_,sq_,sq_,trivial⟩
     ·exact Mem.Less.refl _
     ·exact ⟨by omega,by omega,by rw [show j+1+(c+1)=q+1+1 by omega];exact r3.same hqn (by rw [← hw,hwu,hu];rfl)⟩
     ·omega
    ·refine k_T rfl ?_
     refine k_a (k_m rfl (k_m rfl (k_m rfl (k_m rfl ?_))))
     refine rC (Calm.indexS Tryz.underlying41 ty_size_5 rfl rfl (by omega) (by omega)) ?_
     refine rC (Calm.as (show encB (A[q+1]'(by omega)) = .int .u8 (w:Int) by rw [hwe];rfl) (Calm.load ty_plain_5 rfl (rd_list (g:=encB) (q+1) (by omega) (hob _) (by omega)))) ?_
     refine rC (Calm.indexS Tryz.underlying41 ty_size_5 rfl rfl (by omega) (by omega)) ?_
     refine ARun.store1 rfl rfl ty_size_5 rfl own_ lens_ rfl ?_
     try simp only [k_ms,k_sz,k_ss,k_za,Nat.reduceAdd]
     refine k_n ?_
     refine k_u [(0,_),(3,_),(4,_),(5,_),(32,_),(44,_)] ?_
     rw [Int.toNat_natCast,Nat.mul_one]
     refine AWP.region ?_
     refine k_m rfl ?_
     refine rC (Calm.bin rfl rfl b_add_i64) ?_
     refine k_s rfl ?_
     refine arun_nil ?_
     refine ain_n ?_
     refine athen_n ?_
     refine k_u [(0,_),(3,_),(4,_),(5,_),(32,_),(44,_)] ?_
     refine AWP.region ?_
     refine k_m rfl ?_
     refine rC (Calm.bin rfl rfl b_add_i64) ?_
     refine k_e rfl ?_
     refine ⟨(A.set k w,k+1,c+1),?_,?_,?_,?_⟩
     all_goals (try dsimp only)
     ·exact ⟨sq_,sq_,sq_,sq_,trivial⟩
     ·rw [List.map_set];exact Mem.Less.refl _
     ·exact ⟨by omega,by omega,by rw [show j+1+(c+1)=q+1+1 by omega,hw];exact r3.more hqn (by rw [← hw,Nat.add_sub_cancel,← hu];omega)⟩
     ·omega
   ·refine AWP.seq (k_a (k_m rfl (k_m rfl ?_)))
    refine rC (Calm.lenSl Tryz.underlying41 rfl) ?_
    refine rC (Calm.bin rfl rfl b_lss) ?_
    refine k_n ?_
    refine k_u [(0,_),(3,_),(4,_),(5,_),(32,_)] ?_
    refine k_F rfl ?_
    have hqn:j+1+c=L.length:=by omega
    rw [hqn] at r3
    obtain ⟨d1,d2,d3,d4⟩:=r3.done
    refine AWP.exit ?_
    refine athen_exit ?_
    refine athen_exit ?_
    refine ain_same ?_
    refine athen_n ?_
    refine k_a (k_m rfl (k_m rfl ?_))
    refine rC ((by first | exact Calm.sliceSl Tryz.underlying41 ty_size_5 rfl (bnd_none _ _) (by simp) (bnd_none _ _) (bnd_some _ _ rfl (by omega) (by omega)) | exact Calm.sliceNil Tryz.underlying41 ty_size_5 rfl (bnd_none _ _) (by simp) (bnd_none _ _) (bnd_zero _ _ rfl))) ?_
    refine ARun.clearK (b:=b) (o:=k) (k:=n-k) (c:=cap-k) ty_sl_41 rfl (fun v hv=>by simp at hv;rw [hv];rfl) (by show some _=some _;rw [Int.toNat_natCast,if_neg (by omega),Nat.zero_add,Nat.mul_one]) (hob _) (by simp;omega) (.inl (by simp;omega)) ?_
    intro zs hzs
    refine k_n ?_
    refine k_u [(0,_),(3,_),(4,_),(5,_),(32,_)] ?_
    refine k_a (k_m rfl (k_m rfl ?_))
    refine rC ((by first | exact Calm.sliceHead Tryz.underlying41 ty_size_5 rfl (bnd_none _ _) (fun _=>rfl) (bnd_some _ _ rfl (by omega) (by omega)) | exact Calm.sliceNil Tryz.underlying41 ty_size_5 rfl (bnd_none _ _) (by simp) (bnd_zero _ _ rfl) (bnd_none _ _))) ?_
    refine k_e rfl ?_
    refine k_u [(0,_),(3,_),(4,_),(5,_),(32,_),(2,_)] ?_
    refine AWP.ret ?_
    refine ain_ret ?_
    refine athen_ret ?_
    refine athen_ret ?_
    refine ain_ret ?_
    refine athen_ret ?_
    refine ⟨_,_,⟨_,_,rfl,rfl,rfl⟩,Mem.Less.refl _,?_⟩
    exact ⟨A.take k,zs,by rw [d3];rfl,by rw [odB_tail A k zs (by rw [Nat.mul_one] at hzs;omega),Mem.set_set],d1,d2,by omega⟩
  ·refine k_F rfl ?_
   refine AWP.skip ?_
   refine ain_n ?_
   refine athen_n ?_
   refine AWP.region ?_
   refine k_m rfl ?_
   refine rC (Calm.bin rfl rfl b_add_i64) ?_
   refine k_e rfl ?_
   refine ⟨j+2,?_,?_,?_,?_⟩
   all_goals (try dsimp only)
   ·exact ⟨sq_,sq_,trivial⟩
   ·exact Mem.Less.refl _
   ·exact ⟨by omega,hk,fun i hi=>by rcases Nat.lt_or_ge (i+1) (j+1) with h | h;(exact q3 i h);(obtain rfl:i=j:=(by omega);rw [← hx,← hy];omega)⟩
   ·omega
 ·obtain rfl:k=n:=by omega
  refine AWP.seq (k_a (k_m rfl (k_m rfl ?_)))
  refine rC (Calm.lenSl Tryz.underlying41 rfl) ?_
  refine rC (Calm.bin rfl rfl b_lss) ?_
  refine k_n ?_
  refine k_u [(0,_),(3,_),(13,_)] ?_
  refine k_F rfl ?_
  refine AWP.exit ?_
  refine athen_exit ?_
  refine athen_exit ?_
  refine ain_same ?_
  refine athen_n ?_
  refine k_a (k_m rfl (k_e rfl ?_))
  refine k_u [(0,_),(3,_),(13,_),(2,_)] ?_
  refine AWP.ret ?_
  refine ⟨_,_,⟨_,_,rfl,rfl,rfl⟩,Mem.Less.refl _,?_⟩
  exact ⟨L,[],by rw [hn];rfl,by rw [List.append_nil],up_pairwise L (by rw [hn];exact q3),fun x hx=>hx,by omega⟩
theorem odB_compact0 (S : Mem) : ACall Tryz.prog 32 #[.slice none 0 0] S fun r S' => r = .slice none 0 0 ∧ S' = S := by
 refine ACall.enter (rs:=[.tmp 2]) 61 [(0,.slice none 0 0)] Tryz.func32 rfl rfl (Nat.le_of_ble_eq_true rfl) rfl ⟨rfl,trivial⟩ ?_
 refine k_a (k_e rfl (AWP.seq (k_a (k_m rfl ?_))))
 refine rC (Calm.lenSl Tryz.underlying41 rfl) ?_
 refine rC (Calm.bin rfl rfl b_lss) ?_
 refine k_n ?_
 refine k_u [(0,_),(2,_),(8,_)] ?_
 refine k_T rfl ?_
 refine k_a (k_m rfl (k_e rfl ?_))
 refine k_u [(0,_),(2,_),(8,_)] ?_
 refine k_r ?_
 refine ⟨_,S,⟨_,_,rfl,rfl,rfl⟩,less_,?_⟩
 exact ⟨rfl,rfl⟩
set_option maxHeartbeats 4000000 in
theorem odB_ranks (v : Value) (l : List Nat) (S : Mem) (hv : Sl 1 (fun y => [encB y]) S v l) (hl : l.length ≤ 4096) :
  ACall Tryz.prog 16 #[v] S fun r S'=>∃ D:List Nat,(∀ x ∈ l,x ∈ D)∧D.length≤l.length∧RdL gI (l.map (cntL D)) S r S':=by
 obtain ⟨a,cap,rfl,h1,h2,h3⟩:=id hv
 obtain ⟨n,hn⟩ : ∃ n,n=l.length:=⟨_,rfl⟩
 have hcl:=odB_clone _ l S hv hl
 rw [← hn] at hcl hl h1 ⊢
 refine ACall.enter (rs:=[.tmp 2]) 34 [(0,.slice a n cap)] Tryz.func16 rfl rfl (Nat.le_of_ble_eq_true rfl) rfl ⟨rfl,trivial⟩ ?_
 refine k_a (k_e rfl (k_a (k_m rfl ?_)))
 refine ARun.call (lit_lt rfl) go_30 rfl (hcl) ?_
 rintro _ _ ⟨o,ho,rfl,rfl⟩
 refine k_e rfl ?_
 refine k_u [(0,_),(2,_),(3,_)] ?_
 cases o
 ·obtain rfl:n=0:=ho.nil rfl
  have hl0:l = []:=List.length_eq_zero_iff.1 hn.symm
  refine k_a (k_m rfl ?_)
  refine ARun.call (lit_lt rfl) go_31 rfl (soB_sort0 _) ?_
  rintro _ S1 e1
  rw [e1];clear e1 S1
  refine k_n ?_
  refine k_u [(0,_),(2,_),(3,_)] ?_
  refine k_a (k_m rfl ?_)
  refine ARun.call (lit_lt rfl) go_32 rfl (odB_compact0 _) ?_
  rintro _ S1 ⟨rfl,e1⟩
  rw [e1];clear e1 S1
  refine k_e rfl ?_
  refine k_u [(0,_),(2,_),(3,_)] ?_
  refine k_a (k_m rfl ?_)
  refine rC (Calm.lenSl Tryz.underlying41 rfl) ?_
  refine ARun.makeSlice (lit_lt rfl) ty_sl_26 rfl rfl (by omega) (by omega) (by omega) (by omega) ?_
  intro b15 f15
  have g15:=f15
  repeat ((with_reducible replace g15:=fresh_set g15);obtain ⟨g15,_⟩:=g15)
  refine k_e rfl ?_
  refine k_u [(0,_),(2,_),(3,_),(4,_)] ?_
  refine AWP.seq (k_a (k_m rfl ?_))
  refine rC (Calm.lenSl Tryz.underlying41 rfl) ?_
  refine k_m rfl (k_n ?_)
  refine AWP.block ?_
  refine AWP.loop (X:=Unit) (fun x=>[(4,.slice (some ⟨b15,0,none⟩) 0 0),(17,.int .i64 0),(18,.int .i64 0)]) (fun x=>S.set b15 ⟨3,[],0⟩) (fun x=>l = []) (fun x=>0) (()) ⟨rfl,rfl,rfl,trivial⟩ (by rw [madeL_one];exact Mem.Less.refl _) (hl0) ?_
  rintro _ _
  (try dsimp only at *)
  refine k_a ?_
  refine rC (Calm.bin rfl rfl b_lss) ?_
  refine k_n (AWP.seq ?_)
  refine k_F rfl ?_
  refine AWP.exit ?_
  refine athen_exit ?_
  refine athen_exit ?_
  refine ain_same ?_
  refine athen_n ?_
  refine k_a (k_m rfl (k_e rfl ?_))
  refine k_u [(4,_),(17,_),(18,_),(19,_),(2,_)] ?_
  refine AWP.ret ?_
  refine ⟨_,_,⟨_,_,rfl,rfl,rfl⟩,Mem.Less.refl _,?_⟩
  exact ⟨[],(fun x hx=>absurd (hl0 ▸ hx:x ∈ ([] : List Nat)) (List.not_mem_nil)),Nat.zero_le _,Mem.less_set _ _ _ f15.1,by rw [hl0];exact Sl.own1 (g:=gI) (l:=[]) (Mem.own_set_same _ _ _) List.prefix_rfl rfl (Nat.le_refl _) (by decide)⟩
 ·rename_i q
  obtain ⟨b,c⟩:=q
  obtain ⟨fb,hbc⟩:=ho.own b c rfl
  have hR:Rw (fun _=>True) n l.toArray:=⟨by simp [hn],fun _ _=>trivial⟩
  have hsort:=soB_sort (S:=S) b c n c fb (by omega) l.toArray hR
  obtain ⟨d',hd'⟩ : ∃ d',d'=Go.Sort.pdq ltN l.toArray 0 n (Go.Sort.bitsLen n) true true:=⟨_,rfl⟩
  obtain ⟨hp,hs⟩:=sorted_num l n hn.symm d' hd'
  rw [← hd'] at hsort
  obtain ⟨L,hL⟩ : ∃ L,L=d'.toList:=⟨_,rfl⟩
  rw [← hL] at hsort hp hs
  have hLn:L.length=n:=by rw [hp.length_eq];exact hn.symm
  clear hd' hR hL
  refine k_a (k_m rfl ?_)
  refine ARun.call (lit_lt rfl) go_31 rfl (hsort) ?_
  rintro _ _ ⟨rfl,_⟩
  refine k_n ?_
  refine k_u [(0,_),(2,_),(3,_)] ?_
  refine k_a (k_m rfl ?_)
  refine ARun.call (lit_lt rfl) go_32 rfl (odB_compact b c c L n hLn S fb hs hl hbc) ?_
  rintro _ _ ⟨D,zs,rfl,rfl,hD1,hD2,hD3⟩
  have hlD:∀ x ∈ l,x ∈ D:=fun x hx=>hD2 x (hp.mem_iff.2 hx)
  obtain ⟨M,hM⟩ : ∃ M,M=S.set b ⟨5,D.map encB ++ zs,c⟩:=⟨_,rfl⟩
  have hSM:S.Less M:=by rw [hM];exact Mem.less_set _ _ _ fb.1
  have hvD:Sl 1 (fun y=>[encB y]) M (.slice (some ⟨b,0,none⟩) D.length c) D:=by rw [hM];exact Sl.own1 (g:=encB) (l:=D) (Mem.own_set_same _ _ _) (List.prefix_append _ _) rfl (by omega) (by omega)
  rw [← hM]
  refine k_e rfl ?_
  refine k_u [(0,_),(2,_),(3,_)] ?_
  refine k_a (k_m rfl ?_)
  refine rC (Calm.lenSl Tryz.underlying41 rfl) ?_
  refine ARun.makeSlice (lit_lt rfl) ty_sl_26 rfl rfl (by omega) (by omega) (by omega) (by omega) ?_
  intro b15 f15
  have g15:=f15
  repeat ((with_reducible replace g15:=fresh_set g15);obtain ⟨g15,_⟩:=g15)
  refine k_e rfl ?_
  refine k_u [(0,_),(2,_),(3,_),(4,_)] ?_
  rw [show madeL [Value.int .i64 0] (((n:Nat):Int).toNat*1)=([] : List Nat).map gI ++ List.replicate (n-0) (gI 0) by rw [madeL_one,Nat.mul_one];rfl,Nat.mul_one,Int.toNat_natCast]
  refine AWP.seq (k_a (k_m rfl ?_))
  refine rC (Calm.lenSl Tryz.underlying41 rfl) ?_
  refine k_m rfl (k_n ?_)
  refine AWP.block ?_
  refine AWP.loop (X:=Nat) (fun x=>[(3,.slice (some ⟨b,0,none⟩) D.length c),(4,.slice (some ⟨b15,0,none⟩) n n),(16,.slice a n cap),(17,.int .i64 n),(18,.int .i64 x)]) (fun x=>M.set b15 ⟨3,((l.take x).map (cntL D)).map gI ++ List.replicate (n-x) (gI 0),n⟩) (fun x=>x≤n) (fun x=>n-x) (0) ⟨rfl,rfl,rfl,rfl,rfl,trivial⟩ (Mem.Less.refl _) (Nat.zero_le _) ?_
  rintro i hi
  (try dsimp only at *)
  by_cases hc:i<n
  ·refine k_a ?_
   refine rC (Calm.bin rfl rfl b_lss) ?_
   refine k_n (AWP.seq ?_)
   refine k_T rfl ?_
   have hil:i<l.length:=by omega
   obtain ⟨vb,vo,rfl,hk⟩:=h3.resolve_left (fun e=>by rw [e] at hil;exact absurd hil (Nat.not_lt_zero _))
   have hMM:M.Less (M.set b15 ⟨3,((l.take i).map (cntL D)).map gI ++ List.replicate (n-i) (gI 0),n⟩):=Mem.less_set _ _ _ f15.1
   have hki:Mem.Knows (M.set b15 ⟨3,((l.take i).map (cntL D)).map gI ++ List.replicate (n-i) (gI 0),n⟩) ⟨vb,vo+i*1,none⟩ [encB l[i]]:=(hk i hil).less (hSM.trans hMM)
   have hlr:(((l.take i).map (cntL D)).map gI ++ List.replicate (n-i) (gI 0)).length=n:=by simp;omega
   refine k_k (AWP.seq ?_)
   refine AWP.block ?_
   refine k_a (k_m rfl ?_)
   refine rC (Calm.indexS Tryz.underlying41 ty_size_5 rfl rfl (by omega) (by omega)) ?_
   refine rC (ld_ ty_plain_5 rfl) ?_
   refine k_s rfl (k_e rfl ?_)
   refine k_u [(3,_),(4,_),(16,_),(17,_),(18,_),(19,_),(5,_),(6,_)] ?_
   refine AWP.region ?_
   refine k_m rfl (k_m rfl (k_m rfl (k_m rfl ?_)))
   refine ARun.call (lit_lt rfl) go_33 rfl (odB_search _ l[i] D _ (hvD.less hMM) hD1 (hlD _ (List.getElem_mem hil)) (by omega)) ?_
   rintro _ S1 ⟨rfl,e1⟩
   rw [e1];clear e1 S1
   refine k_m rfl ?_
   refine rC (Calm.extract rfl rfl) ?_
   refine rC (Calm.extract rfl rfl) ?_
   refine rC (Calm.indexS Tryz.underlying26 ty_size_3 rfl rfl (by omega) (by omega)) ?_
   refine ARun.store1 rfl rfl ty_size_3 rfl own_ lens_ rfl ?_
   try simp only [k_ms,k_sz,k_ss,k_za,Nat.reduceAdd]
   refine arun_nil ?_
   refine ain_n ?_
   refine athen_n ?_
   refine k_u [(3,_),(4,_),(16,_),(17,_),(18,_),(19,_),(5,_),(6,_)] ?_
   simp only [Nat.zero_add,Nat.mul_one,Int.toNat_natCast]
   have key:(((l.take i).map (cntL D)).map gI ++ List.replicate (n-i) (gI 0)).set i (gI (cntL D l[i]))=((l.take (i+1)).map (cntL D)).map gI ++ List.replicate (n-(i+1)) (gI 0):=by rw [fill_map gI ((l.take i).map (cntL D)) 0 n i (cntL D l[i]) (by simp;omega) hc,show (l.take i).map (cntL D) ++ [cntL D l[i]]=(l.take (i+1)).map (cntL D) by rw [List.take_succ_eq_append_getElem hil,List.map_append];rfl]
   refine AWP.less (M.set b15 ⟨3,((l.take (i+1)).map (cntL D)).map gI ++ List.replicate (n-(i+1)) (gI 0),n⟩) (by rw [← key];exact Mem.Less.refl _) ?_
   refine AWP.region ?_
   refine rC (Calm.bin rfl rfl b_add_i64) ?_
   refine k_m rfl (k_n ?_)
   refine ⟨i+1,?_,?_,?_,?_⟩
   all_goals (try dsimp only)
   ·exact ⟨sq_,sq_,sq_,sq_,sq_,trivial⟩
   ·exact Mem.Less.refl _
   ·exact hc
   ·omega
  ·obtain rfl:i=n:=by omega
   refine k_a ?_
   refine rC (Calm.bin rfl rfl b_lss) ?_
   refine k_n (AWP.seq ?_)
   refine k_F rfl ?_
   rw [Nat.sub_self,List.replicate_zero,List.append_nil,List.take_of_length_le (by omega)]
   refine AWP.exit ?_
   refine athen_exit ?_
   refine athen_exit ?_
   refine ain_same ?_
   refine athen_n ?_
   refine k_a (k_m rfl (k_e rfl ?_))
   refine k_u [(3,_),(4,_),(16,_),(17,_),(18,_),(19,_),(2,_)] ?_
   refine AWP.ret ?_
   refine ⟨_,_,⟨_,_,rfl,rfl,rfl⟩,Mem.Less.refl _,?_⟩
   exact ⟨D,hlD,hD3,hSM.trans (Mem.less_set _ _ _ f15.1),Sl.own1 (g:=gI) (l:=l.map (cntL D)) (Mem.own_set_same _ _ _) List.prefix_rfl (by rw [List.length_map];exact hn.symm) (Nat.le_refl _) (by omega)⟩
end Go.Proofs.YtgidjbpgkeemiaaGreat
namespace Go.Proofs.YtgidjbpgkeemiaaGreat
open Num Loser
namespace Ord
/-! ### Counting -/
theorem countP_lt_range (m : Nat) : ∀ k, m ≤ k → (List.range k).countP (fun x => decide (x < m)) = m
 | 0,h=>by
  obtain rfl:m=0:=by omega
  rfl
 | k+1,h=>by
  rw [List.range_succ,List.countP_append]
  rcases Nat.lt_or_ge k m with h' | h'
  ·obtain rfl:m=k+1:=by omega
   have:(List.range k).countP (fun x=>decide (x<k+1))=(List.range k).length:=List.countP_eq_length.2 fun x hx=>by have:=List.mem_range.1 hx;simp;omega
   rw [this,List.length_range];simp
  ·rw [countP_lt_range m k h']
   simp;omega
theorem countP_less (p q : Nat → Bool) (x : Nat) (hx : p x = false) (hq : q x = true) : ∀ l : List Nat, (∀ y ∈ l, p y = true → q y = true) → x ∈ l → l.countP p < l.countP q
 | [],_,h=>by cases h
 | y :: l,h,hm=>by
  have hle:l.countP p≤l.countP q:=List.countP_mono_left fun z hz=>h z (List.mem_cons_of_mem _ hz)
  rw [List.countP_cons,List.countP_cons]
  rcases List.mem_cons.1 hm with rfl | hm
  ·rw [if_neg (by rw [hx];exact Bool.false_ne_true),if_pos hq];omega
  ·have:=countP_less p q x hx hq l (fun z hz=>h z (List.mem_cons_of_mem _ hz)) hm
   have h0:=h y (List.mem_cons_self ..)
   cases hp:p y with
   | true=>rw [h0 hp];simp;omega
   | false=>cases q y <;> simp <;> omega
theorem range_inj_perm (n : Nat) (f : Nat → Nat) (hf : ∀ a, a < n → f a < n) (hi : ∀ a b, a < n → b < n → f a = f b → a = b) : ((List.range n).map f).Perm (List.range n) := by
 refine pig n _ ?_ (fun y hy=>?_) (by simp)
 ·refine List.pairwise_iff_getElem.2 fun i j h1 h2 hij e=>?_
  simp only [List.length_map,List.length_range] at h1 h2
  simp only [List.getElem_map,List.getElem_range] at e
  have:=hi i j h1 h2 e;omega
 ·obtain ⟨a,ha,rfl⟩:=List.mem_map.1 hy
  exact hf a (List.mem_range.1 ha)
/-! ### Rows: the empty end's is 0 -/
theorem sl_total' (l : List Nat) (a b : Nat) (ha : a ≤ l.length) (hb : b ≤ l.length) (h1 : sl l a b = false) (h2 : sl l b a = false) : a = b := by
 have h:=congrArg List.length (lessB_total _ _ h1 h2)
 simp only [List.length_drop] at h;omega
structure IsRow (s : List Nat) (r : Nat → Nat) : Prop where
  le : ∀ a, a ≤ s.length → r a ≤ s.length
  lt : ∀ a b, a ≤ s.length → b ≤ s.length → (r a < r b ↔ sl s a b = true)
theorem IsRow.inj {s : List Nat} {r : Nat → Nat} (h : IsRow s r) {a b : Nat} (ha : a ≤ s.length) (hb : b ≤ s.length) (e : r a = r b) : a = b := by
 refine sl_total' s a b ha hb ?_ ?_
 ·cases hc:sl s a b with
  | false=>rfl
  | true=>have:=(h.lt a b ha hb).2 hc;omega
 ·cases hc:sl s b a with
  | false=>rfl
  | true=>have:=(h.lt b a hb ha).2 hc;omega
theorem IsRow.one {s : List Nat} {r : Nat → Nat} (h : IsRow s r) (a : Nat) (ha : a ≤ s.length) : r a = (List.range (s.length + 1)).countP (fun b => sl s b a) := by
 have hp:=range_inj_perm (s.length+1) r (fun a ha=>by have:=h.le a (by omega);omega) (fun a b ha hb e=>h.inj (by omega) (by omega) e)
 have h1:=hp.countP_eq (fun x=>decide (x<r a))
 rw [countP_lt_range (r a) (s.length+1) (by have:=h.le a ha;omega),List.countP_map] at h1
 rw [← h1]
 refine List.countP_congr fun b hb=>?_
 have hb':=List.mem_range.1 hb
 rw [← h.lt b a (by omega) ha]
 simp
theorem IsRow.zero {s : List Nat} {r : Nat → Nat} (h : IsRow s r) : r s.length = 0 := by
 rw [h.one _ (Nat.le_refl _)]
 refine List.countP_eq_zero.2 fun b _=>?_
 rw [sl_no s b _ (Nat.le_refl _)];exact Bool.false_ne_true
/-- The rows of ends in order. -/
def rowE (e : List Nat) (n a : Nat) : Nat := if a < n then e.idxOf a + 1 else 0
theorem isRow_sorted {s e : List Nat} (h : SortedE s e) : IsRow s (rowE e s.length) := by
 have hl:=h.len
 have hm:∀ a,a<s.length→a ∈ e:=fun a ha=>h.1.mem_iff.2 (List.mem_range.2 ha)
 refine ⟨fun a ha=>?_,fun a b ha hb=>?_⟩
 ·unfold rowE;split
  ·rename_i h1;have:=List.idxOf_lt_length_of_mem (hm a h1);omega
  ·omega
 ·unfold rowE
  by_cases h1:b<s.length
  ·rw [if_pos h1]
   by_cases h2:a<s.length
   ·rw [if_pos h2]
    have i1:=List.idxOf_lt_length_of_mem (hm a h2)
    have i2:=List.idxOf_lt_length_of_mem (hm b h1)
    have e1:e[e.idxOf a]=a:=List.getElem_idxOf i1
    have e2:e[e.idxOf b]=b:=List.getElem_idxOf i2
    constructor
    ·intro hlt
     have:=List.pairwise_iff_getElem.1 h.2 _ _ i1 i2 (by omega)
     rw [e1,e2] at this;exact this
    ·intro hs
     rcases Nat.lt_trichotomy (e.idxOf a) (e.idxOf b) with h3 | h3 | h3
     ·omega
     ·have:a=b:=by rw [← e1,← e2];simp only [h3]
      subst this;rw [sl_irrefl] at hs;cases hs
     ·have:=List.pairwise_iff_getElem.1 h.2 _ _ i2 i1 h3
      rw [e1,e2] at this
      rw [sl_asymm _ _ _ this] at hs;cases hs
   ·rw [if_neg h2,sl_end s a b (by omega)]
    simp [h1]
  ·rw [if_neg h1,sl_no s a b (by omega)]
   constructor
   ·intro h;omega
   ·intro h;cases h
/-! ### The column, and the way back -/
/-- The place in the column that a row has. -/
def atR (p r : Nat) : Nat := if p < r then r - 1 else r
/-- What is less in a column. -/
def ltC (c : List Nat) (j i : Nat) : Bool := decide (c.getD j 0 < c.getD i 0) || (decide (c.getD j 0 = c.getD i 0) && decide (j < i))
/-- The row of the end that begins with the byte at a place. -/
def toR (c : List Nat) (i : Nat) : Nat := 1 + (List.range c.length).countP (fun j => ltC c j i)
def walkT (c : List Nat) (p : Nat) : Nat → Nat → List Nat → Option (List Nat)
  | 0, r, acc => if r = p then some acc else none
  | k + 1, r, acc => if r = p then none else walkT c p k (toR c (atR p r)) (c.getD (atR p r) 0 :: acc)
theorem ltC_irrefl (c : List Nat) (i : Nat) : ltC c i i = false := by simp [ltC]
theorem ltC_trans (c : List Nat) (i j k : Nat) (h1 : ltC c i j = true) (h2 : ltC c j k = true) : ltC c i k = true := by
 simp only [ltC,Bool.or_eq_true,decide_eq_true_eq,Bool.and_eq_true] at *;omega
theorem ltC_total (c : List Nat) (i j : Nat) (h1 : ltC c i j = false) (h2 : ltC c j i = false) : i = j := by
 simp only [ltC,Bool.or_eq_false_iff,decide_eq_false_iff_not,Bool.and_eq_false_iff] at *;omega
theorem toR_lt (c : List Nat) (i j : Nat) (hi : i < c.length) (hj : j < c.length) : toR c i < toR c j ↔ ltC c i j = true := by
 have up:∀ i j,i<c.length→ltC c i j=true→toR c i<toR c j:=fun i j hi h=>by
  unfold toR
  have:=countP_less (fun b=>ltC c b i) (fun b=>ltC c b j) i (ltC_irrefl c i) h (List.range c.length) (fun b _ hb=>ltC_trans c b i j hb h) (List.mem_range.2 hi)
  omega
 refine ⟨fun h=>?_,up i j hi⟩
 cases hc:ltC c i j with
 | true=>rfl
 | false =>
  cases hd:ltC c j i with
  | true=>have:=up j i hj hd;omega
  | false=>rw [ltC_total c i j hc hd] at h;omega
theorem toR_le (c : List Nat) (i : Nat) (hi : i < c.length) : toR c i ≤ c.length := by
 unfold toR
 have:=countP_less (fun b=>ltC c b i) (fun _=>true) i (ltC_irrefl c i) rfl (List.range c.length) (fun _ _ _=>rfl) (List.mem_range.2 hi)
 simp only [List.countP_true,List.length_range] at this
 omega
theorem toR_pos (c : List Nat) (i : Nat) : 1 ≤ toR c i := by unfold toR; omega
theorem atR_lt {n p r : Nat} (hr : r ≤ n) (hp : p ≤ n) (hne : r ≠ p) : atR p r < n := by unfold atR; split <;> omega
theorem atR_mono {p a b : Nat} (ha : a ≠ p) (hb : b ≠ p) : atR p a < atR p b ↔ a < b := by unfold atR; split <;> split <;> omega
theorem atR_inj {p a b : Nat} (ha : a ≠ p) (hb : b ≠ p) (e : atR p a = atR p b) : a = b := by unfold atR at e; split at e <;> split at e <;> omega
/-- c is the column of s, p its primary: by rows. -/
structure ColR (s c : List Nat) (p : Nat) (r : Nat → Nat) : Prop where
  row : IsRow s r
  len : c.length = s.length
  pos : 0 < s.length
  prim : r 0 = p
  byte : ∀ a, a < s.length → c.getD (atR p (r (a + 1))) 0 = s.getD a 0
theorem ColR.ne {s c : List Nat} {p : Nat} {r : Nat → Nat} (h : ColR s c p r) {a : Nat} (ha : a < s.length) : r (a + 1) ≠ p := fun e => by
 have:=h.row.inj (by omega) (by omega) (e.trans h.prim.symm);omega
theorem ColR.le {s c : List Nat} {p : Nat} {r : Nat → Nat} (h : ColR s c p r) : p ≤ s.length := by rw [← h.prim]; exact h.row.le 0 (by omega)
theorem ColR.at {s c : List Nat} {p : Nat} {r : Nat → Nat} (h : ColR s c p r) {a : Nat} (ha : a < s.length) : atR p (r (a + 1)) < s.length := atR_lt (h.row.le _ (by omega)) h.le (h.ne ha)
theorem ColR.step {s c : List Nat} {p : Nat} {r : Nat → Nat} (h : ColR s c p r) (a : Nat) (ha : a < s.length) : toR c (atR p (r (a + 1))) = r a := by
 have hsl:∀ b,b<s.length→ltC c (atR p (r (b+1))) (atR p (r (a+1)))=sl s b a:=fun b hb=>by
  rw [sl_step s b a hb ha]
  unfold ltC
  have e:decide (atR p (r (b+1))<atR p (r (a+1)))=sl s (b+1) (a+1):=by rw [Bool.eq_iff_iff,decide_eq_true_eq,atR_mono (h.ne hb) (h.ne ha),h.row.lt (b+1) (a+1) (by omega) (by omega)]
  rw [h.byte a ha,h.byte b hb,getD_get s a 0 ha,getD_get s b 0 hb,e]
 have hp:=range_inj_perm s.length (fun b=>atR p (r (b+1))) (fun b hb=>h.at hb) (fun b d hb hd e=>by
  have:=h.row.inj (by omega) (by omega) (atR_inj (h.ne hb) (h.ne hd) e);omega)
 rw [h.row.one a (by omega),List.range_succ,List.countP_append]
 unfold toR
 rw [h.len,← hp.countP_eq,List.countP_map]
 have e1:(List.range s.length).countP ((fun j=>ltC c j (atR p (r (a+1)))) ∘ fun b=>atR p (r (b+1)))=(List.range s.length).countP (fun b=>sl s b a):=List.countP_congr fun b hb=>by
  rw [Function.comp_apply,hsl b (List.mem_range.1 hb)]
 rw [e1,List.countP_singleton,sl_end s _ a (Nat.le_refl _),if_pos (by simp [ha])]
 omega
theorem ColR.back {s c : List Nat} {p : Nat} {r : Nat → Nat} (h : ColR s c p r) : ∀ k, k ≤ s.length → walkT c p k (r k) (s.drop k) = some s
 | 0,_=>by rw [walkT,if_pos h.prim];rfl
 | k+1,hk=>by
  rw [walkT,if_neg (h.ne (by omega)),h.step k (by omega),h.byte k (by omega),getD_get s k 0 (by omega),← List.drop_eq_getElem_cons (by omega)]
  exact h.back k (by omega)
/-- The column's text is the text. -/
theorem ColR.text {s c : List Nat} {p : Nat} {r : Nat → Nat} (h : ColR s c p r) : walkT c p c.length 0 [] = some s := by
 have:=h.back s.length (Nat.le_refl _)
 rw [h.row.zero,List.drop_of_length_le (Nat.le_refl _)] at this
 rw [h.len];exact this
theorem ColR.perm {s c : List Nat} {p : Nat} {r : Nat → Nat} (h : ColR s c p r) : c.Perm s := by
 have hp:=range_inj_perm s.length (fun b=>atR p (r (b+1))) (fun b hb=>h.at hb) (fun b d hb hd e=>by
  have:=h.row.inj (by omega) (by omega) (atR_inj (h.ne hb) (h.ne hd) e);omega)
 have h1:=hp.map (fun i=>c.getD i 0)
 rw [List.map_map] at h1
 have e1:(List.range s.length).map ((fun i=>c.getD i 0) ∘ fun b=>atR p (r (b+1)))=s:=by
  refine List.ext_getElem (by simp) fun i h1 h2=>?_
  rw [List.getElem_map,List.getElem_range,Function.comp_apply,h.byte i h2,getD_get s i 0 h2]
 have e2:(List.range s.length).map (fun i=>c.getD i 0)=c:=by
  refine List.ext_getElem (by simp [h.len]) fun i h1 h2=>?_
  rw [List.getElem_map,List.getElem_range,getD_get c i 0 h2]
 rw [e1,e2] at h1
 exact h1.symm
/-- What a walk that ends well has gone through. -/
theorem walk_rows (c : List Nat) (p : Nat) (s : List Nat) : ∀ (k row : Nat) (acc : List Nat), walkT c p k row acc = some s →
  ∃ r:Nat→Nat,r k=row∧r 0=p∧(∀ j,j<k→r (j+1)≠p∧r j=toR c (atR p (r (j+1)))∧s.getD j 0=c.getD (atR p (r (j+1))) 0)∧s.drop k=acc∧k+acc.length=s.length
 | 0,row,acc,h=>by
  rw [walkT] at h;split at h
  ·rename_i hr;injection h with h;subst h
   exact ⟨fun _=>row,rfl,hr,fun j hj=>absurd hj (Nat.not_lt_zero _),rfl,Nat.zero_add _⟩
  ·cases h
 | k+1,row,acc,h=>by
  rw [walkT] at h;split at h
  ·cases h
  ·rename_i hr
   obtain ⟨r,h1,h2,h3,h4,h5⟩:=walk_rows c p s k _ _ h
   rw [List.length_cons] at h5
   have hk:k<s.length:=by omega
   rw [List.drop_eq_getElem_cons hk] at h4
   injection h4 with h4 h6
   refine ⟨fun j=>if j=k+1 then row else r j,by simp,by simp [h2],fun j hj=>?_,h6,by omega⟩
   rcases Nat.lt_or_ge j k with hj' | hj'
   ·have:=h3 j hj'
    dsimp only
    rw [if_neg (by omega),if_neg (by omega)];exact this
   ·obtain rfl:j=k:=by omega
    dsimp only
    rw [if_pos rfl,if_neg (by omega)]
    exact ⟨hr,h1,by rw [getD_get s j 0 hk];exact h4⟩
/-! ### The column of ends in order -/
def colE (s e : List Nat) : List Nat := s.getD (s.length - 1) 0 :: (e.filter (fun a => decide (a ≠ 0))).map (fun a => s.getD (a - 1) 0)
theorem split_zero {n : Nat} {e : List Nat} (hp : e.Perm (List.range n)) (hn : 0 < n) : ∃ x y, e = x ++ 0 :: y ∧ e.filter (fun a => decide (a ≠ 0)) = x ++ y ∧ e.idxOf 0 = x.length := by
 have hm:0 ∈ e:=hp.mem_iff.2 (List.mem_range.2 hn)
 have hnd:e.Nodup:=hp.nodup_iff.2 List.nodup_range
 obtain ⟨x,y,rfl⟩:=List.append_of_mem hm
 obtain ⟨_,n2,n3⟩:=List.nodup_append.1 hnd
 have hx:∀ a ∈ x,a≠0:=fun a ha=>n3 a ha 0 (List.mem_cons_self ..)
 have hy:∀ a ∈ y,a≠0:=fun a ha e=>by subst e;exact (List.nodup_cons.1 n2).1 ha
 refine ⟨x,y,rfl,?_,?_⟩
 ·rw [List.filter_append,List.filter_cons]
  rw [List.filter_eq_self.2 (fun a ha=>by simp [hx a ha]),List.filter_eq_self.2 (fun a ha=>by simp [hy a ha])]
  simp
 ·rw [List.idxOf_append,if_neg (fun h=>hx 0 h rfl)];simp
theorem colE_ok {s e : List Nat} (h : SortedE s e) (hn : 0 < s.length) : ColR s (colE s e) (e.idxOf 0 + 1) (rowE e s.length) := by
 obtain ⟨x,y,he,hf,hi⟩:=split_zero h.1 hn
 have hl:=h.len
 have hxy:x.length+y.length+1=s.length:=by rw [← hl,he];simp;omega
 refine ⟨isRow_sorted h,?_,hn,by unfold rowE;rw [if_pos hn],fun a ha=>?_⟩
 ·unfold colE;rw [hf];simp;omega
 ·rw [hi]
  unfold colE
  rw [hf]
  by_cases h1:a+1<s.length
  ·have hm:a+1 ∈ e:=h.1.mem_iff.2 (List.mem_range.2 h1)
   have hlt:=List.idxOf_lt_length_of_mem hm
   have hge:e[e.idxOf (a+1)]=a+1:=List.getElem_idxOf hlt
   unfold rowE;rw [if_pos h1]
   generalize e.idxOf (a+1)=q at *
   have hq:(x ++ 0 :: y)[q]?=some (a+1):=by rw [← he,List.getElem?_eq_getElem hlt,hge]
   have key:(x ++ y)[atR (x.length+1) (q+1)-1]?=some (a+1)∧1≤atR (x.length+1) (q+1):=by
    unfold atR
    rcases Nat.lt_trichotomy q x.length with h2 | h2 | h2
    ·rw [if_neg (by omega),Nat.add_sub_cancel]
     rw [List.getElem?_append_left h2] at hq ⊢
     exact ⟨hq,by omega⟩
    ·subst h2
     rw [List.getElem?_append_right (Nat.le_refl _),Nat.sub_self] at hq
     simp at hq
    ·rw [if_pos (by omega),Nat.add_sub_cancel]
     rw [List.getElem?_append_right (by omega)] at hq ⊢
     obtain ⟨d,hd⟩ : ∃ d,q-x.length=d+1:=⟨q-x.length-1,by omega⟩
     rw [hd,List.getElem?_cons_succ] at hq
     rw [show q-1-x.length=d by omega]
     exact ⟨hq,by omega⟩
   obtain ⟨k1,k2⟩:=key
   obtain ⟨z,hz⟩ : ∃ z,atR (x.length+1) (q+1)=z+1:=⟨atR (x.length+1) (q+1)-1,by omega⟩
   rw [hz,Nat.add_sub_cancel] at k1
   rw [hz,List.getD_eq_getElem?_getD,List.getElem?_cons_succ,List.getElem?_map,k1]
   rfl
  ·obtain rfl:a=s.length-1:=by omega
   unfold rowE
   rw [if_neg (by omega)]
   rfl
/-! ### What two ends have in common -/
end Ord
end Go.Proofs.YtgidjbpgkeemiaaGreat
namespace Go.Proofs.YtgidjbpgkeemiaaGreat
open Go.RowKit
open Mv Num Loser Srt
set_option maxRecDepth 4000
theorem cb_append (a b : List UInt8) : cellsB (a ++ b) = cellsB a ++ cellsB b := by simp [cellsB]
theorem nums_map (s : ByteArray) : numsT s = s.data.toList.map UInt8.toNat := by
 refine List.ext_getElem (by simp [numsT]) fun i h1 h2=>?_
 have hi:i<s.data.toList.length:=by simpa using h2
 simp only [numsT,List.getElem_map,List.getElem_range]
 unfold byT
 rw [at8_get _ _ hi];unfold nb;rw [Int.toNat_natCast]
theorem nums_bs (l : List UInt8) : numsT (bs l) = l.map UInt8.toNat := by rw [nums_map, bs_data]
theorem nums_cells (s : ByteArray) : cellsB s.data.toList = (numsT s).map encB := by
 rw [nums_map,List.map_map];rfl
theorem nums_inj {s t : ByteArray} (h : numsT s = numsT t) : s = t := by
 rw [nums_map,nums_map] at h
 have:=List.map_inj_right (f:=UInt8.toNat) (fun a b h=>UInt8.toNat_inj.1 h) |>.1 h
 rw [← bs_of s,← bs_of t,this]
theorem nums_getD (s : ByteArray) (i : Nat) : (numsT s).getD i 0 = (at8 s.data.toList i).toNat := by
 rw [nums_map,List.getD_eq_getElem?_getD,List.getElem?_map]
 unfold at8
 rw [List.getD_eq_getElem?_getD]
 cases s.data.toList[i]? <;> rfl
theorem size_z (s : ByteArray) : (s = ByteArray.empty) ↔ s.size = 0 := ⟨fun h => by rw [h]; rfl, fun h => by
 have h2:s.data.toList = []:=List.length_eq_zero_iff.1 (by simpa using h)
 rw [← bs_of s,h2];rfl⟩
/-- The column so far. -/
def colB (s : ByteArray) (e : List Nat) : List UInt8 := at8 s.data.toList (s.size - 1) :: (e.filter (fun a => decide (a ≠ 0))).map (fun a => at8 s.data.toList (a - 1))
def primU (e : List Nat) : Nat → Nat
  | 0 => 0
  | i + 1 => if e.getD i 0 = 0 then i + 1 else primU e i
theorem colB_nums (s : ByteArray) (e : List Nat) : (colB s e).map UInt8.toNat = Ord.colE (numsT s) e := by
 unfold colB Ord.colE
 rw [List.map_cons,List.map_map,nums_getD,numsT_length]
 congr 1
 refine List.map_congr_left fun a _=>?_
 rw [Function.comp_apply,nums_getD]
theorem colB_zero (s : ByteArray) (e : List Nat) (i : Nat) (hi : i < e.length) (h : e[i] = 0) : colB s (e.take (i + 1)) = colB s (e.take i) := by
 unfold colB;rw [List.take_succ_eq_append_getElem hi,List.filter_append,h];simp
theorem colB_more (s : ByteArray) (e : List Nat) (i : Nat) (hi : i < e.length) (h : e[i] ≠ 0) : colB s (e.take (i + 1)) = colB s (e.take i) ++ [at8 s.data.toList (e[i] - 1)] := by
 unfold colB;rw [List.take_succ_eq_append_getElem hi,List.filter_append];simp [h]
theorem colB_len (s : ByteArray) (e : List Nat) (i : Nat) : (colB s (e.take i)).length ≤ i + 1 := by
 unfold colB
 rw [List.length_cons,List.length_map]
 have h1:=List.length_filter_le (fun a=>decide (a≠0)) (e.take i)
 have h2:=List.length_take_le i e
 omega
theorem primU_idx (e : List Nat) (n : Nat) (hp : e.Perm (List.range n)) (hn : 0 < n) : primU e e.length = e.idxOf 0 + 1 := by
 obtain ⟨x,y,he,_,hi⟩:=Ord.split_zero hp hn
 have hnd:e.Nodup:=hp.nodup_iff.2 List.nodup_range
 have hel:e.length=x.length+1+y.length:=by rw [he];simp;omega
 have h0:e.getD x.length 0=0:=by rw [he];simp
 have key:∀ i,x.length<i→i≤e.length→primU e i=x.length+1:=by
  intro i
  induction i with
  | zero=>intro h;omega
  | succ i ih =>
   intro h1 h2
   rw [primU]
   by_cases h3:i=x.length
   ·subst h3;rw [if_pos h0]
   ·have hne:e.getD i 0≠0:=fun h4=>by
     have h4:=h4.trans h0.symm
     rw [getD_get e i 0 (by omega),getD_get e x.length 0 (by omega)] at h4
     exact List.pairwise_iff_getElem.1 hnd x.length i (by omega) (by omega) (by omega) h4.symm
    rw [if_neg hne];exact ih (by omega) (by omega)
 rw [hi];exact key _ (by omega) (Nat.le_refl _)
/-- A text's column, primary and error. -/
def colP (s : ByteArray) : ByteArray × Nat × Nat :=
  if 4096 < s.size then (bs [], 0, 1) else if s.size = 0 then (bs [], 0, 0) else (bs (colB s (Ord.endsR (numsT s) s.size)), (Ord.endsR (numsT s) s.size).idxOf 0 + 1, 0)
def ColPR (s : ByteArray) (S : Mem) (r : Value) (S' : Mem) : Prop := r = .tuple #[.string (colP s).1, .int .i64 ((colP s).2.1 : Nat), .int .i64 ((colP s).2.2 : Nat)] ∧ S' = S
theorem bin_empty {t : TypeId} {x y : Operand} {s : ByteArray} (h : s.size = 0) : Bin Tryz.prog .eql t x y (.string s) (.string ByteArray.empty) (.bool true) := bin_bool (bin_str_eql _ _) (decide_eq_true ((size_z s).2 h))
theorem bin_some {t : TypeId} {x y : Operand} {s : ByteArray} (h : s.size ≠ 0) : Bin Tryz.prog .eql t x y (.string s) (.string ByteArray.empty) (.bool false) := bin_bool (bin_str_eql _ _) (decide_eq_false (fun e => h ((size_z s).1 e)))
theorem byte_at {s : ByteArray} {a : Nat} (h : a ≠ 0) : Value.int .u8 (nb (at8 s.data.toList (((a : Int) - 1).toNat))) = .int .u8 (nb (at8 s.data.toList (a - 1))) := by rw [show ((a : Int) - 1).toNat = a - 1 by omega]
set_option maxHeartbeats 2000000 in
theorem od_Column (s : ByteArray) (S : Mem) (hs : s.size ≤ 140737488355327) :
  ACall Tryz.prog 7 #[.string s] S (ColPR s S):=by
 by_cases hbig:4096<s.size
 ·have hcp:colP s=(bs [],0,1):=by unfold colP;rw [if_pos hbig]
  refine ACall.enter (rs:=[.tmp 2,.tmp 3,.tmp 4]) 50 [(0,.string s)] Tryz.func7 rfl rfl (Nat.le_of_ble_eq_true rfl) rfl ⟨rfl,trivial⟩ ?_
  refine k_a (k_s rfl (k_s rfl (k_e rfl (AWP.seq ?_))))
  refine k_a (k_m rfl ?_)
  refine rC (Calm.lenStr (strT_spec ty_str_9) rfl) ?_
  refine rC (Calm.bin rfl rfl b_gtr) ?_
  refine k_n ?_
  refine k_u [(0,_),(2,_),(3,_),(4,_),(11,_)] ?_
  refine k_T rfl ?_
  refine k_a (k_s rfl (k_s rfl (k_e rfl ?_)))
  refine k_r ?_
  refine ⟨_,S,⟨_,_,rfl,⟨_,_,rfl,⟨_,_,rfl,rfl,rfl⟩,rfl⟩,rfl⟩,less_,?_⟩
  exact ⟨by rw [hcp];rfl,rfl⟩
 by_cases hz:s.size=0
 ·have hcp:colP s=(bs [],0,0):=by unfold colP;rw [if_neg hbig,if_pos hz]
  refine ACall.enter (rs:=[.tmp 2,.tmp 3,.tmp 4]) 50 [(0,.string s)] Tryz.func7 rfl rfl (Nat.le_of_ble_eq_true rfl) rfl ⟨rfl,trivial⟩ ?_
  refine k_a (k_s rfl (k_s rfl (k_e rfl (AWP.seq ?_))))
  refine k_a (k_m rfl ?_)
  refine rC (Calm.lenStr (strT_spec ty_str_9) rfl) ?_
  refine rC (Calm.bin rfl rfl b_gtr) ?_
  refine k_n ?_
  refine k_u [(0,_),(2,_),(3,_),(4,_),(11,_)] ?_
  refine k_F rfl ?_
  refine k_k (AWP.seq (k_a (k_m rfl ?_)))
  refine rC (Calm.bin rfl rfl (bin_empty hz)) ?_
  refine k_n ?_
  refine k_u [(0,_),(2,_),(3,_),(4,_),(11,_),(13,_)] ?_
  refine k_T rfl ?_
  refine k_a (k_s rfl (k_s rfl (k_e rfl ?_)))
  refine k_r ?_
  refine ⟨_,S,⟨_,_,rfl,⟨_,_,rfl,⟨_,_,rfl,rfl,rfl⟩,rfl⟩,rfl⟩,less_,?_⟩
  exact ⟨by rw [hcp];rfl,rfl⟩
 obtain ⟨n,hn⟩ : ∃ n,n=s.size:=⟨_,rfl⟩
 obtain ⟨e,he⟩ : ∃ e,e=Ord.endsR (numsT s) s.size:=⟨_,rfl⟩
 have hcp:colP s=(bs (colB s e),e.idxOf 0+1,0):=by unfold colP;rw [if_neg hbig,if_neg hz,he]
 have hse:Ord.SortedE (numsT s) e:=by have:=Ord.endsR_ok (numsT s);rw [numsT_length,← he] at this;exact this
 have hpe:e.Perm (List.range n):=by have:=hse.1;rw [numsT_length,← hn] at this;exact this
 have hel:e.length=n:=by rw [hpe.length_eq,List.length_range]
 have hlt:∀ x ∈ e,x<n:=fun x hx=>List.mem_range.1 (hpe.mem_iff.1 hx)
 refine ACall.enter (rs:=[.tmp 2,.tmp 3,.tmp 4]) 50 [(0,.string s)] Tryz.func7 rfl rfl (Nat.le_of_ble_eq_true rfl) rfl ⟨rfl,trivial⟩ ?_
 refine k_a (k_s rfl (k_s rfl (k_e rfl (AWP.seq ?_))))
 refine k_a (k_m rfl ?_)
 refine rC (Calm.lenStr (strT_spec ty_str_9) rfl) ?_
 refine rC (Calm.bin rfl rfl b_gtr) ?_
 refine k_n ?_
 refine k_u [(0,_),(2,_),(3,_),(4,_),(11,_)] ?_
 refine k_F rfl ?_
 refine k_k (AWP.seq (k_a (k_m rfl ?_)))
 refine rC (Calm.bin rfl rfl (bin_some hz)) ?_
 refine k_n ?_
 refine k_u [(0,_),(2,_),(3,_),(4,_),(11,_),(13,_)] ?_
 refine k_F rfl ?_
 refine k_k (k_a (k_m rfl ?_))
 refine rC (Calm.lenStr (strT_spec ty_str_9) rfl) ?_
 refine ARun.makeSliceP (lit_lt rfl) ty_sl_41 rfl rfl (by omega) (by omega) (by omega) (by omega) ?_
 intro b16 f16
 have g16:=f16
 repeat ((with_reducible replace g16:=fresh_set g16);obtain ⟨g16,_⟩:=g16)
 refine k_e rfl ?_
 refine k_u [(0,_),(2,_),(3,_),(4,_),(11,_),(13,_),(5,_)] ?_
 rw [show madeL [Value.int .u8 0] ((0:Int).toNat*1)=cellsB [] by rw [madeL_one];rfl,Nat.mul_one,Int.toNat_natCast]
 refine k_a (k_m rfl (k_m rfl (k_m rfl ?_)))
 refine rC (Calm.lenStr (strT_spec ty_str_9) rfl) ?_
 refine rC (Calm.bin rfl rfl b_sub_i64) ?_
 refine rC (Calm.as (show Value.int .u8 (nb (at8 s.data.toList (((s.size:Int)-1).toNat))) = .int .u8 (nb (at8 s.data.toList (s.size-1))) by rw [show ((s.size:Int)-1).toNat=s.size-1 by omega]) (Calm.indexStr (strT_spec ty_str_9) rfl rfl (by omega) (by omega))) ?_
 refine ARun.build1s (lit_lt rfl) ty_sl_41 rfl rfl ?_
 intro b23 f23
 have g23:=f23
 repeat ((with_reducible replace g23:=fresh_set g23);obtain ⟨g23,_⟩:=g23)
 refine ARun.appendO (o:=some (b16,s.size)) (n:=0) (cs:=cellsB []) (lit_lt rfl) ty_sl_41 rfl rfl (appO_of (okO_own f16 (Nat.zero_le _)) rfl f23) rfl (news:=[_]) rds_ rfl (by omega) (by simp [Value.oneCell']) (by omega) (by omega) ?_
 intro b24 c24 ho24
 refine k_e rfl ?_
 refine k_u [(0,_),(2,_),(3,_),(4,_),(11,_),(13,_),(5,_)] ?_
 obtain ⟨f24,hc24⟩:=ho24.own b24 c24 rfl
 refine AWP.less (S.set b24 ⟨5,cellsB (colB s (e.take 0)),c24⟩) (Mem.Less.refl _) ?_
 refine k_a (k_e rfl (AWP.seq (k_a (k_m rfl ?_))))
 refine ARun.toBytes (lit_lt rfl) ty_str_9 ty_bytes_41 rfl ?_
 intro b26 c26 f26 hc26
 have g26:=f26
 repeat ((with_reducible replace g26:=fresh_set g26);obtain ⟨g26,_⟩:=g26)
 obtain ⟨f26a,hne⟩:=fresh_set f26
 rw [Mem.set_comm S _ _ (Ne.symm hne)]
 have f24a:Fresh (S.set b26 ⟨5,cellsB s.data.toList,c26⟩) b24:=fresh_more f24 (Ne.symm hne)
 have hsl:Sl 1 (fun y=>[encB y]) (S.set b26 ⟨5,cellsB s.data.toList,c26⟩) (.slice (some ⟨b26,0,none⟩) s.size c26) (numsT s):=Sl.own1 (g:=encB) (l:=numsT s) (Mem.own_set_same _ _ _) (by rw [nums_cells];exact List.prefix_rfl) (numsT_length s) hc26 (by omega)
 have hS0:S.Less (S.set b26 ⟨5,cellsB s.data.toList,c26⟩):=Mem.less_set _ _ _ f26a.1
 refine ARun.call (lit_lt rfl) go_16 rfl (((odB_ranks _ (numsT s) _ hsl (by rw [numsT_length];omega)).frame f24a)) ?_
 rintro u1 _ ⟨S1,⟨D,hD,hDl,hS1,hu⟩,f24b,rfl⟩
 refine ARun.call (lit_lt rfl) go_15 rfl (((od_ends u1 (numsT s) ((numsT s).map (cntL D)) S1 hu (by rw [List.length_map]) (by rw [numsT_length];omega) (fun x hx=>by obtain ⟨y,_,rfl⟩:=List.mem_map.1 hx;have:=cnt_le D y;rw [numsT_length] at hDl;omega) (rk_cnt _ D hD)).frame f24b)) ?_
 rintro u2 _ ⟨S2,⟨hS2,hu2⟩,f24c,rfl⟩
 rw [numsT_length,← he] at hu2
 have hSS2:=hS0.trans (hS1.trans hS2)
 obtain ⟨ea,ec,rfl,h1,h2,h3⟩:=hu2
 rw [hel] at h1 h2 ⊢
 refine rC (Calm.lenSl Tryz.underlying26 rfl) ?_
 refine k_m rfl (k_n ?_)
 refine k_u [(0,_),(2,_),(3,_),(4,_),(11,_),(13,_),(5,_),(6,_),(28,_),(29,_),(30,_)] ?_
 refine AWP.block ?_
 refine AWP.loop (X:=Nat × Nat × Option (Nat × Nat)) (fun x=>[(0,.string s),(5,outV x.2.2 (colB s (e.take x.1)).length),(6,.int .i64 x.2.1),(28,.slice ea n ec),(29,.int .i64 n),(30,.int .i64 x.1)]) (fun x=>outM S2 x.2.2 5 (cellsB (colB s (e.take x.1)))) (fun x=>x.1≤n∧x.2.1=primU e x.1∧OkO S2 x.2.2 (colB s (e.take x.1)).length) (fun x=>n-x.1) ((0,0,some (b24,c24))) ⟨rfl,rfl,rfl,rfl,rfl,rfl,trivial⟩ (Mem.Less.refl _) (⟨Nat.zero_le _,rfl,okO_own f24c hc24⟩) ?_
 rintro ⟨i,p,o⟩ ⟨q1,q2,q3⟩
 (try dsimp only at *)
 have hcl:=colB_len s e i
 have hlen:(cellsB (colB s (e.take i))).length=(colB s (e.take i)).length:=cellsB_length _
 have hSk:S2.Less (outM S2 o 5 (cellsB (colB s (e.take i)))):=outM_over q3
 by_cases hc:i<n
 ·refine k_a ?_
  refine rC (Calm.bin rfl rfl b_lss) ?_
  refine k_n (AWP.seq ?_)
  refine k_T rfl ?_
  have hie:i<e.length:=by omega
  obtain ⟨eb,eo,rfl,hk⟩:=h3.resolve_left (fun h=>by rw [h] at hie;exact absurd hie (Nat.not_lt_zero _))
  obtain ⟨a,ha⟩ : ∃ a,a=e[i]:=⟨_,rfl⟩
  have han:a<n:=by rw [ha];exact hlt _ (List.getElem_mem _)
  have hka:Mem.Knows (outM S2 o 5 (cellsB (colB s (e.take i)))) ⟨eb,eo+i*1,none⟩ [.int .i64 (a:Int)]:=by rw [ha];exact (hk i hie).less hSk
  by_cases h0:a=0
  ·have hcz:=colB_zero s e i hie (by rw [← ha];exact h0)
   refine k_k (AWP.seq ?_)
   refine AWP.block ?_
   refine k_a (k_m rfl ?_)
   refine rC (Calm.indexS Tryz.underlying26 ty_size_3 rfl rfl (by omega) (by omega)) ?_
   refine rC (ld_ ty_plain_3 rfl) ?_
   refine k_s rfl (k_e rfl ?_)
   refine k_u [(0,_),(5,_),(6,_),(28,_),(29,_),(30,_),(31,_),(7,_),(8,_)] ?_
   refine AWP.seq (k_a (k_m rfl ?_))
   refine rC (Calm.bin rfl rfl b_eql) ?_
   refine k_n ?_
   refine k_u [(0,_),(5,_),(6,_),(28,_),(29,_),(30,_),(31,_),(7,_),(8,_),(36,_)] ?_
   refine k_T rfl ?_
   refine k_a (k_m rfl ?_)
   refine rC (Calm.bin rfl rfl b_add_i64) ?_
   refine k_e rfl ?_
   refine k_u [(0,_),(5,_),(6,_),(28,_),(29,_),(30,_),(31,_),(7,_),(8,_),(36,_)] ?_
   refine AWP.exit ?_
   refine athen_exit ?_
   refine ain_same ?_
   refine athen_n ?_
   refine AWP.region ?_
   refine rC (Calm.bin rfl rfl b_add_i64) ?_
   refine k_m rfl (k_n ?_)
   refine ⟨(i+1,i+1,o),?_,?_,?_,?_⟩
   all_goals (try dsimp only)
   ·exact ⟨sq_,by rw [hcz];rfl,sq_,sq_,sq_,sq_,trivial⟩
   ·rw [hcz];exact Mem.Less.refl _
   ·exact ⟨hc,by rw [primU,getD_get e i 0 hie,← ha,if_pos h0],by rw [hcz];exact q3⟩
   ·omega
  ·have hcm:=colB_more s e i hie (by rw [← ha];exact h0)
   refine k_k (AWP.seq ?_)
   refine AWP.block ?_
   refine k_a (k_m rfl ?_)
   refine rC (Calm.indexS Tryz.underlying26 ty_size_3 rfl rfl (by omega) (by omega)) ?_
   refine rC (ld_ ty_plain_3 rfl) ?_
   refine k_s rfl (k_e rfl ?_)
   refine k_u [(0,_),(5,_),(6,_),(28,_),(29,_),(30,_),(31,_),(7,_),(8,_)] ?_
   refine AWP.seq (k_a (k_m rfl ?_))
   refine rC (Calm.bin rfl rfl b_eql) ?_
   refine k_n ?_
   refine k_u [(0,_),(5,_),(6,_),(28,_),(29,_),(30,_),(31,_),(7,_),(8,_),(36,_)] ?_
   refine k_F rfl ?_
   refine k_k ?_
   refine AWP.region ?_
   refine k_m rfl (k_m rfl (k_m rfl ?_))
   refine rC (Calm.bin rfl rfl b_sub_i64) ?_
   refine rC (Calm.as (byte_at h0) (Calm.indexStr (strT_spec ty_str_9) rfl rfl (by omega) (by omega))) ?_
   refine ARun.build1s (lit_lt rfl) ty_sl_41 rfl rfl ?_
   intro b44 f44
   have g44:=f44
   repeat ((with_reducible replace g44:=fresh_set g44);obtain ⟨g44,_⟩:=g44)
   refine ARun.appendO (lit_lt rfl) ty_sl_41 rfl hlen (appO_of q3 hlen f44) rfl (news:=[_]) rds_ rfl (by omega) (by simp [Value.oneCell']) (by omega) (by omega) ?_
   intro b45 c45 ho2
   have hpush:cellsB (colB s (e.take i)) ++ [.int .u8 (nb (at8 s.data.toList (a-1)))]=cellsB (colB s (e.take (i+1))):=by rw [hcm,cb_append,ha];rfl
   have hpl:(colB s (e.take (i+1))).length=(colB s (e.take i)).length+1:=by rw [hcm,List.length_append];rfl
   refine k_s rfl ?_
   refine arun_nil ?_
   refine ain_n ?_
   refine athen_n ?_
   refine k_u [(0,_),(5,_),(6,_),(28,_),(29,_),(30,_),(31,_),(7,_),(8,_),(36,_)] ?_
   refine AWP.region ?_
   refine rC (Calm.bin rfl rfl b_add_i64) ?_
   refine k_m rfl (k_n ?_)
   refine ⟨(i+1,p,some (b45,c45)),?_,?_,?_,?_⟩
   all_goals (try dsimp only)
   ·exact ⟨sq_,by rw [hpl];rfl,sq_,sq_,sq_,sq_,trivial⟩
   ·rw [hpush];exact Mem.Less.refl _
   ·exact ⟨hc,by rw [primU,getD_get e i 0 hie,← ha,if_neg h0];exact q2,by rw [hpl];exact ho2⟩
   ·omega
 ·obtain rfl:i=n:=by omega
  refine k_a ?_
  refine rC (Calm.bin rfl rfl b_lss) ?_
  refine k_n (AWP.seq ?_)
  refine k_F rfl ?_
  rw [List.take_of_length_le (by omega)] at q3 hlen ⊢
  obtain ⟨bo,co,rfl⟩:=q3.some (by unfold colB;simp)
  refine AWP.exit ?_
  refine athen_exit ?_
  refine athen_exit ?_
  refine ain_same ?_
  refine athen_n ?_
  refine k_a (k_m rfl ?_)
  refine rC (Calm.toStr ty_bytes_41 ty_str_9 rfl rfl (rds_outM _ _ _ _ _)) ?_
  refine k_m rfl (k_s rfl (k_s rfl (k_e rfl ?_)))
  refine k_u [(0,_),(5,_),(6,_),(28,_),(29,_),(30,_),(31,_),(2,_),(3,_),(4,_)] ?_
  refine AWP.ret ?_
  refine ⟨_,S,⟨_,_,rfl,⟨_,_,rfl,⟨_,_,rfl,rfl,rfl⟩,rfl⟩,rfl⟩,hSS2.trans (outM_over q3),?_⟩
  exact ⟨by rw [hcp,q2,← hel,primU_idx e e.length (by rw [hel];exact hpe) (by omega)];rfl,rfl⟩
end Go.Proofs.YtgidjbpgkeemiaaGreat
namespace Go.Proofs.YtgidjbpgkeemiaaGreat
open Go.RowKit
open Mv Num Loser Srt
set_option maxRecDepth 4000
/-! ### How often -/
def ceq (c : List Nat) (x : Nat) : Nat := c.countP (fun y => decide (y = x))
def clt (c : List Nat) (x : Nat) : Nat := c.countP (fun y => decide (y < x))
theorem clt_succ (c : List Nat) (x : Nat) : clt c (x + 1) = clt c x + ceq c x := by
 unfold clt ceq
 induction c with
 | nil=>rfl
 | cons y c ih =>
  rw [List.countP_cons,List.countP_cons,List.countP_cons,ih]
  by_cases h1:y<x
  ·rw [if_pos (by simp;omega),if_pos (by simpa using h1),if_neg (by simp;omega)];omega
  ·by_cases h2:y=x
   ·rw [if_pos (by simp;omega),if_neg (by simpa using h1),if_pos (by simpa using h2)];omega
   ·rw [if_neg (by simp;omega),if_neg (by simpa using h1),if_neg (by simpa using h2)];omega
theorem clt_zero (c : List Nat) : clt c 0 = 0 := List.countP_eq_zero.2 fun y _ => by simp
theorem clt_le (c : List Nat) (x : Nat) : clt c x ≤ c.length := List.countP_le_length
theorem ceq_le (c : List Nat) (x : Nat) : ceq c x ≤ c.length := List.countP_le_length
theorem ceq_take (c : List Nat) (i x : Nat) (hi : i < c.length) : ceq (c.take (i + 1)) x = if x = c[i] then ceq (c.take i) x + 1 else ceq (c.take i) x := by
 unfold ceq
 rw [List.take_succ_eq_append_getElem hi,List.countP_append,List.countP_singleton]
 by_cases h:x=c[i]
 ·rw [if_pos h,if_pos (by simpa using h.symm)]
 ·rw [if_neg h,if_neg (by simp;omega),Nat.add_zero]
theorem countP_below (p : Nat → Bool) (i : Nat) : ∀ n, i ≤ n → (List.range n).countP (fun j => p j && decide (j < i)) = (List.range i).countP p
 | 0,h=>by
  obtain rfl:i=0:=by omega
  rfl
 | n+1,h=>by
  rcases Nat.lt_or_ge n i with h' | h'
  ·obtain rfl:i=n+1:=by omega
   refine List.countP_congr fun j hj=>?_
   have:=List.mem_range.1 hj
   simp [this]
  ·rw [List.range_succ,List.countP_append,countP_below p i n h',List.countP_singleton]
   rw [if_neg (by simp;omega)];rfl
theorem countP_list (c : List Nat) (q : Nat → Bool) (i : Nat) (hi : i ≤ c.length) : (List.range i).countP (fun j => q (c.getD j 0)) = (c.take i).countP q := by
 have e:c.take i=(List.range i).map (fun j=>c.getD j 0):=by
  refine List.ext_getElem (by simp;omega) fun j h1 h2=>?_
  rw [List.getElem_take,List.getElem_map,List.getElem_range,getD_get]
 rw [e,List.countP_map];rfl
theorem countP_or (p q : Nat → Bool) (h : ∀ j, p j = true → q j = false) : ∀ l : List Nat, l.countP (fun j => p j || q j) = l.countP p + l.countP q
 | []=>rfl
 | j :: l=>by
  rw [List.countP_cons,List.countP_cons,List.countP_cons,countP_or p q h l]
  have:=h j
  cases hp:p j <;> cases hq:q j <;> simp_all <;> omega
theorem toR_eq (c : List Nat) (i : Nat) (hi : i < c.length) : Ord.toR c i = 1 + (clt c (c.getD i 0) + ceq (c.take i) (c.getD i 0)) := by
 unfold Ord.toR Ord.ltC
 rw [countP_or _ _ (fun j h=>by simp only [decide_eq_true_eq,Bool.and_eq_false_iff,decide_eq_false_iff_not] at *;omega)]
 rw [countP_below (fun j=>decide (c.getD j 0=c.getD i 0)) i c.length (by omega),countP_list c (fun y=>decide (y<c.getD i 0)) c.length (Nat.le_refl _),countP_list c (fun y=>decide (y=c.getD i 0)) i (by omega),List.take_length]
 rfl
/-! ### A table of 257 -/
def tab (f : Nat → Nat) : List Nat := (List.range 257).map f
theorem tab_length (f : Nat → Nat) : (tab f).length = 257 := by simp [tab]
theorem tab_get (f : Nat → Nat) (v : Nat) (h : v < (tab f).length) : (tab f)[v] = f v := by simp [tab]
theorem tab_val (f : Nat → Nat) (v : Nat) (h : v < (tab f).length) : gI ((tab f)[v]) = .int .i64 (f v : Int) := by rw [tab_get]; rfl
theorem tab_set (f g : Nat → Nat) (v x : Nat) (h : ∀ u, u < 257 → g u = if u = v then x else f u) : ((tab f).map gI).set v (gI x) = (tab g).map gI := by
 rw [← List.map_set]
 congr 1
 refine List.ext_getElem (by simp [tab]) fun u h1 h2=>?_
 have hu:u<257:=by simpa [tab] using h2
 rw [tab_get,h u hu,List.getElem_set]
 by_cases e:v=u
 ·rw [if_pos e,if_pos e.symm]
 ·rw [if_neg e,if_neg (fun h=>e h.symm),tab_get]
theorem tab_zero : (tab fun _ => 0).map gI = List.replicate 257 (gI 0) := by
 unfold tab;rw [List.map_map]
 refine List.ext_getElem (by simp) fun u h1 h2=>?_
 rw [List.getElem_map,List.getElem_replicate];rfl
def tf1 (c : List Nat) (i u : Nat) : Nat := if u = 0 then 0 else ceq (c.take i) (u - 1)
def tf2 (c : List Nat) (i u : Nat) : Nat := if u < i then clt c u else tf1 c c.length u
def tf3 (c : List Nat) (i u : Nat) : Nat := clt c u + ceq (c.take i) u
theorem f1_le (c : List Nat) (i u : Nat) : tf1 c i u ≤ c.length := by
 unfold tf1;split
 ·omega
 ·have:=ceq_le (c.take i) (u-1);rw [List.length_take] at this;omega
theorem f2_le (c : List Nat) (i u : Nat) : tf2 c i u ≤ c.length := by
 unfold tf2;split
 ·exact clt_le _ _
 ·exact f1_le _ _ _
theorem f3_le (c : List Nat) (i u : Nat) : tf3 c i u ≤ 2 * c.length := by
 unfold tf3
 have h1:=clt_le c u
 have h2:=ceq_le (c.take i) u
 rw [List.length_take] at h2
 omega
theorem f1_start (c : List Nat) : tf1 c 0 = fun _ => 0 := by
 funext u;unfold tf1;split <;> rfl
theorem f1_step (c : List Nat) (i : Nat) (hi : i < c.length) (u : Nat) : tf1 c (i + 1) u = if u = c[i] + 1 then tf1 c i (c[i] + 1) + 1 else tf1 c i u := by
 unfold tf1
 by_cases h0:u=0
 ·subst h0;rw [if_pos rfl,if_neg (by omega),if_pos rfl]
 ·rw [if_neg h0,if_neg h0,ceq_take c i _ hi]
  by_cases h1:u=c[i]+1
  ·rw [if_pos (by omega),if_pos h1,if_neg (by omega),h1]
  ·rw [if_neg (by omega),if_neg h1]
theorem f2_start (c : List Nat) (u : Nat) : tf2 c 1 u = tf1 c c.length u := by
 unfold tf2
 by_cases h:u=0
 ·subst h;rw [if_pos (by omega),clt_zero];rfl
 ·rw [if_neg (by omega)]
theorem f2_step (c : List Nat) (i : Nat) (u : Nat) : tf2 c (i + 1 + 1) u = if u = i + 1 then tf2 c (i + 1) (i + 1) + tf2 c (i + 1) i else tf2 c (i + 1) u := by
 unfold tf2
 by_cases h:u=i+1
 ·subst h
  rw [if_pos (by omega),if_pos rfl,if_neg (by omega),if_pos (by omega),clt_succ]
  unfold tf1
  rw [if_neg (by omega),List.take_length,Nat.add_sub_cancel];omega
 ·rw [if_neg h]
  by_cases h2:u<i+1
  ·rw [if_pos (by omega),if_pos h2]
  ·rw [if_neg (by omega),if_neg h2]
theorem f3_start (c : List Nat) (u : Nat) (hu : u < 257) : tf3 c 0 u = tf2 c 257 u := by
 unfold tf3 tf2;rw [if_pos hu];rfl
theorem f3_step (c : List Nat) (i : Nat) (hi : i < c.length) (u : Nat) : tf3 c (i + 1) u = if u = c[i] then tf3 c i c[i] + 1 else tf3 c i u := by
 unfold tf3
 rw [ceq_take c i u hi]
 by_cases h:u=c[i]
 ·rw [if_pos h,if_pos h,h];omega
 ·rw [if_neg h,if_neg h]
theorem tab_congr {f g : Nat → Nat} (h : ∀ u, u < 257 → f u = g u) : tab f = tab g := List.map_congr_left fun u hu => h u (List.mem_range.1 hu)
theorem nums_at (s : ByteArray) (i : Nat) (h : i < (numsT s).length) : (numsT s)[i] = byT s i := by simp [numsT]
theorem byT_lt (s : ByteArray) (i : Nat) : byT s i < 256 := by
 unfold byT
 have h1:=nb_le (at8 s.data.toList i)
 have h2:=nb_nonneg (at8 s.data.toList i)
 omega
theorem byT_getD (s : ByteArray) (i : Nat) : (numsT s).getD i 0 = byT s i := by rw [nums_getD]; unfold byT nb; rw [Int.toNat_natCast]
theorem byT_val (s : ByteArray) (i : Nat) : Value.int .u8 (nb (at8 s.data.toList i)) = .int .u8 (byT s i : Int) := by rw [byT_nb]
theorem zero257 : zeroT Tryz.prog 100 = some (List.replicate 257 (.int .i64 0)) := by kernel_rfl
def toL (s : ByteArray) : List Nat := (List.range s.size).map (Ord.toR (numsT s))
set_option maxHeartbeats 2000000 in
theorem od_rows (s : ByteArray) (S : Mem) (hs : s.size ≤ 4096) :
  ACall Tryz.prog 34 #[.string s] S (RdL gI (toL s) S):=by
 obtain ⟨c,hc⟩ : ∃ c,c=numsT s:=⟨_,rfl⟩
 have hcl:c.length=s.size:=by rw [hc];exact numsT_length s
 have hci:∀ i (h:i<c.length),c[i]=byT s i:=fun i h=>by subst hc;exact nums_at s i h
 refine ACall.enter (rs:=[.tmp 2]) 62 [(0,.string s)] Tryz.func34 rfl rfl (Nat.le_of_ble_eq_true rfl) rfl ⟨rfl,trivial⟩ ?_
 refine k_a (k_e rfl (k_a ?_))
 refine ARun.alloc (lit_lt rfl) zero257 ?_
 intro b3 f3
 have g3:=f3
 repeat ((with_reducible replace g3:=fresh_set g3);obtain ⟨g3,_⟩:=g3)
 refine k_n ?_
 rw [List.length_replicate]
 refine AWP.less (S.set b3 ⟨100,(tab (tf1 c 0)).map gI,257⟩) (by rw [f1_start,tab_zero];exact Mem.Less.refl _) ?_
 refine AWP.seq (k_a (k_m rfl ?_))
 refine rC (Calm.lenStr (strT_spec ty_str_9) rfl) ?_
 refine k_m rfl (k_n ?_)
 refine k_u [(0,_),(2,_),(3,_),(10,_),(11,_)] ?_
 refine AWP.block ?_
 refine AWP.loop (X:=Nat) (fun i=>[(0,.string s),(3,.pointer (some ⟨b3,0,none⟩)),(10,.int .i64 s.size),(11,.int .i64 i)]) (fun i=>S.set b3 ⟨100,(tab (tf1 c i)).map gI,257⟩) (fun i=>i≤s.size) (fun i=>s.size-i) (0) ⟨rfl,rfl,rfl,rfl,trivial⟩ (Mem.Less.refl _) (Nat.zero_le _) ?_
 rintro i hi
 (try dsimp only at *)
 have ho3:(S.set b3 ⟨100,(tab (tf1 c i)).map gI,257⟩).own b3=some ⟨100,(tab (tf1 c i)).map gI,257⟩:=Mem.own_set_same _ _ _
 by_cases hc1:i<s.size
 ·refine k_a ?_
  refine rC (Calm.bin rfl rfl b_lss) ?_
  refine k_n (AWP.seq ?_)
  refine k_T rfl ?_
  obtain ⟨x,hx⟩ : ∃ x,x=byT s i:=⟨_,rfl⟩
  have hx256:x<256:=by rw [hx];exact byT_lt s i
  have hfl:=f1_le c i (x+1)
  have htl:=tab_length (tf1 c i)
  have hst:=fun u=>f1_step c i (by omega) u
  rw [hci i (by omega),← hx] at hst
  refine k_k (AWP.seq ?_)
  refine AWP.block ?_
  refine k_a (k_m rfl (k_e rfl ?_))
  refine k_u [(0,_),(3,_),(10,_),(11,_),(12,_),(4,_)] ?_
  refine AWP.region ?_
  refine k_m rfl (k_m rfl ?_)
  refine rC (Calm.as ((byT_val s i).trans (by rw [← hx])) (Calm.indexStrN (strT_spec ty_str_9) rfl rfl hc1)) ?_
  refine rC (Calm.conv rfl (by first | exact conv_intW Tryz.underlying5 Tryz.underlying3 (IntWalk.i64_in _ (by omega)) | exact conv_intW Tryz.underlying5 Tryz.underlying3 (wrap_nb_i64 _) | exact conv_int Tryz.underlying5 Tryz.underlying3)) ?_
  refine rC (Calm.bin rfl rfl b_add_i64) ?_
  refine rC (Calm.indexP Tryz.underlying100 ty_size_3 rfl rfl (by omega) (by omega)) ?_
  refine rC (Calm.as (tab_val (tf1 c i) (x+1) (by omega)) (Calm.load ty_plain_3 rfl (rd_list (g:=gI) (x+1) (by omega) ho3 (by omega)))) ?_
  refine rC (Calm.bin rfl rfl b_add_i64) ?_
  refine rC (Calm.indexP Tryz.underlying100 ty_size_3 rfl rfl (by omega) (by omega)) ?_
  refine ARun.store1 rfl rfl ty_size_3 rfl own_ (by rw [List.length_map];omega) rfl ?_
  try simp only [k_ms,k_sz,k_ss,k_za,Nat.reduceAdd]
  refine arun_nil ?_
  refine ain_n ?_
  refine athen_n ?_
  refine k_u [(0,_),(3,_),(10,_),(11,_),(12,_),(4,_)] ?_
  simp only [Nat.zero_add,Nat.mul_one]
  refine AWP.region ?_
  refine rC (Calm.bin rfl rfl b_add_i64) ?_
  refine k_m rfl (k_n ?_)
  refine ⟨i+1,?_,?_,?_,?_⟩
  all_goals (try dsimp only)
  ·exact ⟨sq_,sq_,sq_,sq_,trivial⟩
  ·rw [← tab_set (tf1 c i) (tf1 c (i+1)) (x+1) (tf1 c i (x+1)+1) (fun u _=>hst u)];exact Mem.Less.refl _
  ·exact hc1
  ·omega
 ·obtain rfl:i=s.size:=by omega
  refine k_a ?_
  refine rC (Calm.bin rfl rfl b_lss) ?_
  refine k_n (AWP.seq ?_)
  refine k_F rfl ?_
  refine AWP.exit ?_
  refine athen_exit ?_
  refine athen_exit ?_
  refine ain_same ?_
  refine athen_n ?_
  refine AWP.seq (k_a (k_e rfl ?_))
  refine AWP.less (S.set b3 ⟨100,(tab (tf2 c 1)).map gI,257⟩) (by rw [tab_congr (fun u _=>f2_start c u),hcl];exact Mem.Less.refl _) ?_
  refine AWP.block ?_
  refine AWP.loop (X:=Nat) (fun i=>[(0,.string s),(3,.pointer (some ⟨b3,0,none⟩)),(5,.int .i64 i)]) (fun i=>S.set b3 ⟨100,(tab (tf2 c i)).map gI,257⟩) (fun i=>1≤i∧i≤257) (fun i=>257-i) (1) ⟨rfl,rfl,rfl,trivial⟩ (Mem.Less.refl _) (⟨Nat.le_refl _,by decide⟩) ?_
  rintro i ⟨hi1,hi2⟩
  (try dsimp only at *)
  by_cases hc2:i<257
  ·refine AWP.seq (k_a (k_m rfl ?_))
   refine rC (Calm.bin rfl rfl b_lss) ?_
   refine k_n ?_
   refine k_u [(0,_),(3,_),(5,_),(25,_)] ?_
   refine k_T rfl ?_
   obtain ⟨j,rfl⟩ : ∃ j,i=j+1:=⟨i-1,by omega⟩
   have ho3:(S.set b3 ⟨100,(tab (tf2 c (j+1))).map gI,257⟩).own b3=some ⟨100,(tab (tf2 c (j+1))).map gI,257⟩:=Mem.own_set_same _ _ _
   have hf1:=f2_le c (j+1) (j+1)
   have hf2:=f2_le c (j+1) j
   have htl:=tab_length (tf2 c (j+1))
   refine k_k (AWP.seq ?_)
   refine AWP.block ?_
   refine AWP.draw [(0,true),(1,true),(2,true),(3,true),(4,true),(5,true),(6,true),(7,true),(8,true),(9,false)] [9] mixed (by kernel_rfl) ?_
   refine dP (hc:=fun _=>Calm.move rfl) (h:=?_)
   refine dP (hc:=fun _=>Calm.indexP Tryz.underlying100 ty_size_3 rfl rfl (by omega) (by omega)) (h:=?_)
   refine dC (hc:=Calm.as (tab_val (tf2 c (j+1)) (j+1) (by omega)) (Calm.load ty_plain_3 rfl (rd_list (g:=gI) (j+1) (by omega) ho3 (by omega)))) (h:=?_)
   refine dP (hc:=fun _=>Calm.move rfl) (h:=?_)
   refine dP (hc:=fun _=>Calm.bin rfl rfl b_sub_i64) (h:=?_)
   refine dP (hc:=fun _=>Calm.indexP Tryz.underlying100 ty_size_3 rfl rfl (by omega) (by omega)) (h:=?_)
   refine dC (hc:=Calm.as (tab_val (tf2 c (j+1)) j (by omega)) (Calm.load ty_plain_3 rfl (rd_list (g:=gI) j (by omega) ho3 (by omega)))) (h:=?_)
   refine dP (hc:=fun _=>Calm.bin rfl rfl b_add_i64) (h:=?_)
   refine dP (hc:=fun _=>Calm.indexP Tryz.underlying100 ty_size_3 rfl rfl (by omega) (by omega)) (h:=?_)
   refine draw_only rfl ?_
   refine ARun.store1 rfl rfl ty_size_3 rfl own_ (by rw [List.length_map];omega) rfl ?_
   try simp only [k_ms,k_sz,k_ss,k_za,Nat.reduceAdd]
   refine arun_nil ⟨fun h=>absurd h (by decide),?_⟩
   refine draw_nil ?_
   refine ain_n ?_
   refine athen_n ?_
   refine k_u [(0,_),(3,_),(5,_),(25,_)] ?_
   simp only [Nat.zero_add,Nat.mul_one]
   refine AWP.region ?_
   refine k_m rfl ?_
   refine rC (Calm.bin rfl rfl b_add_i64) ?_
   refine k_e rfl ?_
   refine ⟨j+1+1,?_,?_,?_,?_⟩
   all_goals (try dsimp only)
   ·exact ⟨sq_,sq_,sq_,trivial⟩
   ·rw [← tab_set (tf2 c (j+1)) (tf2 c (j+1+1)) (j+1) (tf2 c (j+1) (j+1)+tf2 c (j+1) j) (fun u _=>f2_step c j u)];exact Mem.Less.refl _
   ·exact ⟨by omega,by omega⟩
   ·omega
  ·obtain rfl:i=257:=by omega
   refine AWP.seq (k_a (k_m rfl ?_))
   refine rC (Calm.bin rfl rfl b_lss) ?_
   refine k_n ?_
   refine k_u [(0,_),(3,_),(5,_),(25,_)] ?_
   refine k_F rfl ?_
   rw [← tab_congr (fun u hu=>f3_start c u hu)]
   refine AWP.exit ?_
   refine athen_exit ?_
   refine athen_exit ?_
   refine ain_same ?_
   refine athen_n ?_
   refine k_a (k_m rfl ?_)
   refine rC (Calm.lenStr (strT_spec ty_str_9) rfl) ?_
   refine ARun.makeSlice (lit_lt rfl) ty_sl_26 rfl rfl (by omega) (by omega) (by omega) (by omega) ?_
   intro b39 f39
   have g39:=f39
   repeat ((with_reducible replace g39:=fresh_set g39);obtain ⟨g39,_⟩:=g39)
   refine k_e rfl ?_
   refine k_u [(0,_),(3,_),(5,_),(25,_),(6,_)] ?_
   rw [show madeL [Value.int .i64 0] (((s.size:Nat):Int).toNat*1)=((List.range 0).map (Ord.toR c)).map gI ++ List.replicate (s.size-0) (gI 0) by rw [madeL_one,Nat.mul_one];rfl,Nat.mul_one,Int.toNat_natCast]
   refine AWP.seq (k_a (k_m rfl ?_))
   refine rC (Calm.lenStr (strT_spec ty_str_9) rfl) ?_
   refine k_m rfl (k_n ?_)
   refine k_u [(0,_),(3,_),(5,_),(25,_),(6,_),(41,_),(42,_)] ?_
   refine AWP.block ?_
   refine AWP.loop (X:=Nat) (fun i=>[(0,.string s),(3,.pointer (some ⟨b3,0,none⟩)),(6,.slice (some ⟨b39,0,none⟩) s.size s.size),(41,.int .i64 s.size),(42,.int .i64 i)]) (fun i=>(S.set b3 ⟨100,(tab (tf3 c i)).map gI,257⟩).set b39 ⟨3,((List.range i).map (Ord.toR c)).map gI ++ List.replicate (s.size-i) (gI 0),s.size⟩) (fun i=>i≤s.size) (fun i=>s.size-i) (0) ⟨rfl,rfl,rfl,rfl,rfl,trivial⟩ (Mem.Less.refl _) (Nat.zero_le _) ?_
   rintro i hi
   (try dsimp only at *)
   by_cases hc3:i<s.size
   ·refine k_a ?_
    refine rC (Calm.bin rfl rfl b_lss) ?_
    refine k_n (AWP.seq ?_)
    refine k_T rfl ?_
    have ho3:((S.set b3 ⟨100,(tab (tf3 c i)).map gI,257⟩).set b39 ⟨3,((List.range i).map (Ord.toR c)).map gI ++ List.replicate (s.size-i) (gI 0),s.size⟩).own b3=some ⟨100,(tab (tf3 c i)).map gI,257⟩:=own_
    obtain ⟨x,hx⟩ : ∃ x,x=byT s i:=⟨_,rfl⟩
    have hx256:x<256:=by rw [hx];exact byT_lt s i
    have hfl:=f3_le c i x
    have htl:=tab_length (tf3 c i)
    have hst:=fun u=>f3_step c i (by omega) u
    rw [hci i (by omega),← hx] at hst
    have hlr:(((List.range i).map (Ord.toR c)).map gI ++ List.replicate (s.size-i) (gI 0)).length=s.size:=by simp;omega
    have hto:Ord.toR c i=1+tf3 c i x:=by rw [toR_eq c i (by omega),getD_get c i 0 (by omega),hci i (by omega),← hx];rfl
    refine k_k (AWP.seq ?_)
    refine AWP.block ?_
    refine k_a (k_m rfl (k_e rfl ?_))
    refine k_u [(0,_),(3,_),(6,_),(41,_),(42,_),(43,_),(7,_)] ?_
    refine k_a (k_m rfl (k_m rfl ?_))
    refine rC (Calm.as ((byT_val s i).trans (by rw [← hx])) (Calm.indexStrN (strT_spec ty_str_9) rfl rfl hc3)) ?_
    refine k_e rfl ?_
    refine k_u [(0,_),(3,_),(6,_),(41,_),(42,_),(43,_),(7,_),(8,_)] ?_
    refine k_a (k_m rfl (k_m rfl (k_m rfl ?_)))
    refine rC (Calm.indexP Tryz.underlying100 ty_size_3 rfl rfl (by omega) (by omega)) ?_
    refine rC (Calm.as (tab_val (tf3 c i) x (by omega)) (Calm.load ty_plain_3 rfl (rd_list (g:=gI) x (by omega) ho3 (by omega)))) ?_
    refine rC (Calm.bin rfl rfl b_add_i64) ?_
    refine rC (Calm.indexS Tryz.underlying26 ty_size_3 rfl rfl (by omega) (by omega)) ?_
    refine ARun.store1 rfl rfl ty_size_3 rfl own_ (by show 0+(i:Int).toNat*1<(((List.range i).map (Ord.toR c)).map gI ++ List.replicate (s.size-i) (gI 0)).length;omega) rfl ?_
    try simp only [k_ms,k_sz,k_ss,k_za,Nat.reduceAdd]
    refine k_n ?_
    refine k_u [(0,_),(3,_),(6,_),(41,_),(42,_),(43,_),(7,_),(8,_)] ?_
    simp only [Nat.zero_add,Nat.mul_one,Int.toNat_natCast]
    have key:(((List.range i).map (Ord.toR c)).map gI ++ List.replicate (s.size-i) (gI 0)).set i (gI (Ord.toR c i))=((List.range (i+1)).map (Ord.toR c)).map gI ++ List.replicate (s.size-(i+1)) (gI 0):=by rw [fill_map gI ((List.range i).map (Ord.toR c)) 0 s.size i (Ord.toR c i) (by simp) hc3];simp only [List.range_succ,List.map_append,List.append_assoc];rfl
    refine AWP.less ((S.set b3 ⟨100,(tab (tf3 c i)).map gI,257⟩).set b39 ⟨3,((List.range (i+1)).map (Ord.toR c)).map gI ++ List.replicate (s.size-(i+1)) (gI 0),s.size⟩) (by rw [← key,hto];exact Mem.Less.refl _) ?_
    have ho4:((S.set b3 ⟨100,(tab (tf3 c i)).map gI,257⟩).set b39 ⟨3,((List.range (i+1)).map (Ord.toR c)).map gI ++ List.replicate (s.size-(i+1)) (gI 0),s.size⟩).own b3=some ⟨100,(tab (tf3 c i)).map gI,257⟩:=own_
    refine AWP.region ?_
    refine k_m rfl ?_
    refine rC (Calm.indexP Tryz.underlying100 ty_size_3 rfl rfl (by omega) (by omega)) ?_
    refine rC (Calm.as (tab_val (tf3 c i) x (by omega)) (Calm.load ty_plain_3 rfl (rd_list (g:=gI) x (by omega) ho4 (by omega)))) ?_
    refine rC (Calm.bin rfl rfl b_add_i64) ?_
    refine rC (Calm.indexP Tryz.underlying100 ty_size_3 rfl rfl (by omega) (by omega)) ?_
    refine ARun.store1 rfl rfl ty_size_3 rfl own_ (by rw [List.length_map];omega) rfl ?_
    try simp only [k_ms,k_sz,k_ss,k_za,Nat.reduceAdd]
    refine arun_nil ?_
    refine ain_n ?_
    refine athen_n ?_
    refine k_u [(0,_),(3,_),(6,_),(41,_),(42,_),(43,_),(7,_),(8,_)] ?_
    simp only [Nat.zero_add,Nat.mul_one,Int.toNat_natCast]
    refine AWP.region ?_
    refine rC (Calm.bin rfl rfl b_add_i64) ?_
    refine k_m rfl (k_n ?_)
    refine ⟨i+1,?_,?_,?_,?_⟩
    all_goals (try dsimp only)
    ·exact ⟨sq_,sq_,sq_,sq_,sq_,trivial⟩
    ·rw [← tab_set (tf3 c i) (tf3 c (i+1)) x (tf3 c i x+1) (fun u _=>hst u),Mem.set_comm (S.set b3 _) _ _ ne_,Mem.set_set];exact Mem.Less.refl _
    ·exact hc3
    ·omega
   ·obtain rfl:i=s.size:=by omega
    refine k_a ?_
    refine rC (Calm.bin rfl rfl b_lss) ?_
    refine k_n (AWP.seq ?_)
    refine k_F rfl ?_
    rw [Nat.sub_self,List.replicate_zero,List.append_nil]
    refine AWP.exit ?_
    refine athen_exit ?_
    refine athen_exit ?_
    refine ain_same ?_
    refine athen_n ?_
    refine k_a (k_m rfl (k_e rfl ?_))
    refine k_u [(0,_),(3,_),(6,_),(41,_),(42,_),(43,_),(2,_)] ?_
    refine AWP.ret ?_
    refine ⟨_,_,⟨_,_,rfl,rfl,rfl⟩,Mem.Less.refl _,?_⟩
    exact ⟨less_,by rw [toL,← hc];exact Sl.own1 (g:=gI) (l:=(List.range s.size).map (Ord.toR c)) (Mem.own_set_same _ _ _) List.prefix_rfl (by simp) (Nat.le_refl _) (by omega)⟩
/-! ### The text -/
def ofN (l : List Nat) : List UInt8 := l.map UInt8.ofNat
theorem ofN_nums (l : List Nat) (h : ∀ x ∈ l, x < 256) : (ofN l).map UInt8.toNat = l := by
 unfold ofN;rw [List.map_map]
 refine (List.map_congr_left fun x hx=>?_).trans (List.map_id' l)
 have:=h x hx
 rw [Function.comp_apply,UInt8.toNat_ofNat'];omega
theorem ofN_cells (l : List Nat) (h : ∀ x ∈ l, x < 256) : l.map encB = cellsB (ofN l) := by
 unfold ofN cellsB;rw [List.map_map]
 refine List.map_congr_left fun x hx=>?_
 have:=h x hx
 rw [Function.comp_apply];unfold nb encB
 rw [UInt8.toNat_ofNat'];congr 1;omega
/-- A column's text: the text and the error. -/
def textP (s : ByteArray) (p : Int) : ByteArray × Nat :=
  if 4096 < s.size then (bs [], 1) else if s.size = 0 ∧ p = 0 then (bs [], 0) else if p < 1 ∨ (s.size : Int) < p then (bs [], 7) else
    match Ord.walkT (numsT s) p.toNat s.size 0 [] with
    | some l => (bs (ofN l), 0)
    | none => (bs [], 7)
def TextR (s : ByteArray) (p : Int) (S : Mem) (r : Value) (S' : Mem) : Prop := r = .tuple #[.string (textP s p).1, .int .i64 ((textP s p).2 : Nat)] ∧ S' = S
theorem walk_end (c : List Nat) (p r : Nat) (acc : List Nat) : Ord.walkT c p 0 r acc = if r = p then some acc else none := rfl
theorem walk_step (c : List Nat) (p k r : Nat) (acc : List Nat) (h : r ≠ p) : Ord.walkT c p (k + 1) r acc = Ord.walkT c p k (Ord.toR c (Ord.atR p r)) (c.getD (Ord.atR p r) 0 :: acc) := by rw [Ord.walkT, if_neg h]
theorem walk_no (c : List Nat) (p k r : Nat) (acc : List Nat) (h : r = p) : Ord.walkT c p (k + 1) r acc = none := by rw [Ord.walkT, if_pos h]
/-- What is written from the end on. -/
def tail8 (K : Nat) (acc : List Nat) : List Value := (List.replicate K 0 ++ acc).map encB
theorem tail8_length (K : Nat) (acc : List Nat) : (tail8 K acc).length = K + acc.length := by simp [tail8]
theorem tail8_set (K x : Nat) (acc : List Nat) : (tail8 (K + 1) acc).set K (encB x) = tail8 K (x :: acc) := by
 unfold tail8
 rw [← List.map_set];congr 1
 rw [List.replicate_succ',List.append_assoc,List.set_append_right _ _ (by simp)]
 simp
theorem at_lt {p r : Nat} (h : r < p) : Ord.atR p r = r := by unfold Ord.atR; rw [if_neg (by omega)]
theorem at_gt {p r : Nat} (h : p < r) : Ord.atR p r = r - 1 := by unfold Ord.atR; rw [if_pos h]
theorem textP_big {s : ByteArray} {p : Int} (h : 4096 < s.size) : textP s p = (bs [], 1) := by unfold textP; rw [if_pos h]
theorem textP_nil {s : ByteArray} {p : Int} (h : ¬4096 < s.size) (h1 : s.size = 0 ∧ p = 0) : textP s p = (bs [], 0) := by unfold textP; rw [if_neg h, if_pos h1]
theorem textP_out {s : ByteArray} {p : Int} (h : ¬4096 < s.size) (h1 : ¬(s.size = 0 ∧ p = 0)) (h2 : p < 1 ∨ (s.size : Int) < p) : textP s p = (bs [], 7) := by unfold textP; rw [if_neg h, if_neg h1, if_pos h2]
theorem textP_some {s : ByteArray} {p : Nat} {l : List Nat} (h : ¬4096 < s.size) (h1 : 1 ≤ p) (h2 : p ≤ s.size) (hw : Ord.walkT (numsT s) p s.size 0 [] = some l) : textP s (p : Int) = (bs (ofN l), 0) := by
 unfold textP;rw [if_neg h,if_neg (by omega),if_neg (by omega),Int.toNat_natCast,hw]
theorem textP_none {s : ByteArray} {p : Nat} (h : ¬4096 < s.size) (h1 : 1 ≤ p) (h2 : p ≤ s.size) (hw : Ord.walkT (numsT s) p s.size 0 [] = none) : textP s (p : Int) = (bs [], 7) := by
 unfold textP;rw [if_neg h,if_neg (by omega),if_neg (by omega),Int.toNat_natCast,hw]
/-- The way back at work. -/
structure TxI (s : ByteArray) (p K r : Nat) (acc : List Nat) : Prop where
  le : K ≤ s.size
  row : r ≤ s.size
  len : K + acc.length = s.size
  byte : ∀ x ∈ acc, x < 256
  walk : Ord.walkT (numsT s) p K r acc = Ord.walkT (numsT s) p s.size 0 []
theorem txI_start (s : ByteArray) (p : Nat) : TxI s p s.size 0 [] := ⟨Nat.le_refl _, Nat.zero_le _, rfl, fun x hx => absurd hx (List.not_mem_nil), rfl⟩
theorem txI_step {s : ByteArray} {p K r : Nat} {acc : List Nat} (h : TxI s p (K + 1) r acc) (hp : p ≤ s.size) (hr : r ≠ p) : TxI s p K (Ord.toR (numsT s) (Ord.atR p r)) (byT s (Ord.atR p r) :: acc) := by
 have hl:=h.len
 refine ⟨by have:=h.le;omega,?_,by rw [List.length_cons];omega,fun x hx=>?_,by rw [← h.walk,walk_step _ _ _ _ _ hr,byT_getD]⟩
 ·rw [← numsT_length s]
  exact Ord.toR_le _ _ (by rw [numsT_length];exact Ord.atR_lt h.row hp hr)
 ·rcases List.mem_cons.1 hx with rfl | hx
  ·exact byT_lt _ _
  ·exact h.byte x hx
set_option maxHeartbeats 4000000 in
theorem od_Text (s : ByteArray) (p : Int) (S : Mem) :
  ACall Tryz.prog 17 #[.string s,.int .i64 p] S (TextR s p S):=by
 by_cases hbig:4096<s.size
 ·have hcp:=textP_big (p:=p) hbig
  refine ACall.enter (rs:=[.tmp 4,.tmp 5]) 68 [(0,.string s),(1,.int .i64 p)] Tryz.func17 rfl rfl (Nat.le_of_ble_eq_true rfl) rfl ⟨rfl,rfl,trivial⟩ ?_
  refine k_a (k_s rfl (k_e rfl (k_a (k_m rfl ?_))))
  refine rC (Calm.lenStr (strT_spec ty_str_9) rfl) ?_
  refine k_e rfl ?_
  refine k_u [(0,_),(1,_),(4,_),(5,_),(6,_)] ?_
  refine AWP.seq ?_
  refine AWP.block ?_
  refine k_a (k_m rfl ?_)
  refine rC (Calm.bin rfl rfl b_gtr) ?_
  refine k_e rfl ?_
  refine k_u [(0,_),(1,_),(4,_),(5,_),(6,_),(14,_)] ?_
  refine k_T rfl ?_
  refine k_a (k_s rfl (k_e rfl ?_))
  refine AWP.ret ?_
  refine ain_ret ?_
  refine athen_ret ?_
  refine ⟨_,S,⟨_,_,rfl,⟨_,_,rfl,rfl,rfl⟩,rfl⟩,less_,?_⟩
  exact ⟨by rw [hcp];rfl,rfl⟩
 by_cases hz:s.size=0∧p=0
 ·have hcp:=textP_nil hbig hz
  obtain ⟨hz1,rfl⟩:=hz
  refine ACall.enter (rs:=[.tmp 4,.tmp 5]) 68 [(0,.string s),(1,.int .i64 0)] Tryz.func17 rfl rfl (Nat.le_of_ble_eq_true rfl) rfl ⟨rfl,rfl,trivial⟩ ?_
  refine k_a (k_s rfl (k_e rfl (k_a (k_m rfl ?_))))
  refine rC (Calm.lenStr (strT_spec ty_str_9) rfl) ?_
  refine k_e rfl ?_
  refine k_u [(0,_),(1,_),(4,_),(5,_),(6,_)] ?_
  refine AWP.seq ?_
  refine AWP.block ?_
  refine k_a (k_m rfl ?_)
  refine rC (Calm.bin rfl rfl b_gtr) ?_
  refine k_e rfl ?_
  refine k_u [(0,_),(1,_),(4,_),(5,_),(6,_),(14,_)] ?_
  refine k_F rfl ?_
  refine k_a (k_m rfl ?_)
  refine rC (Calm.bin rfl rfl b_eql) ?_
  refine k_m rfl ?_
  first|refine k_q 20 ?_|refine rG 20 (Calm.move rfl) ?_
  first|refine k_q 20 ?_|refine rG 20 (Calm.bin rfl rfl b_eql) ?_
  first|refine k_t rfl rfl ?_|refine k_f rfl rfl ?_
  refine k_e rfl ?_
  refine k_u [(0,_),(1,_),(4,_),(5,_),(6,_),(14,_),(17,_)] ?_
  refine k_T rfl ?_
  refine k_a (k_s rfl (k_e rfl ?_))
  refine AWP.ret ?_
  refine ain_ret ?_
  refine athen_ret ?_
  refine ⟨_,S,⟨_,_,rfl,⟨_,_,rfl,rfl,rfl⟩,rfl⟩,less_,?_⟩
  exact ⟨by rw [hcp];rfl,rfl⟩
 by_cases ho:p<1∨(s.size:Int)<p
 ·have hcp:=textP_out hbig hz ho
  by_cases hz1:s.size=0
  ·by_cases ho1:p<1
   ·skip
    refine ACall.enter (rs:=[.tmp 4,.tmp 5]) 68 [(0,.string s),(1,.int .i64 p)] Tryz.func17 rfl rfl (Nat.le_of_ble_eq_true rfl) rfl ⟨rfl,rfl,trivial⟩ ?_
    refine k_a (k_s rfl (k_e rfl (k_a (k_m rfl ?_))))
    refine rC (Calm.lenStr (strT_spec ty_str_9) rfl) ?_
    refine k_e rfl ?_
    refine k_u [(0,_),(1,_),(4,_),(5,_),(6,_)] ?_
    refine AWP.seq ?_
    refine AWP.block ?_
    refine k_a (k_m rfl ?_)
    refine rC (Calm.bin rfl rfl b_gtr) ?_
    refine k_e rfl ?_
    refine k_u [(0,_),(1,_),(4,_),(5,_),(6,_),(14,_)] ?_
    refine k_F rfl ?_
    refine k_a (k_m rfl ?_)
    refine rC (Calm.bin rfl rfl b_eql) ?_
    refine k_m rfl ?_
    first|refine k_q 20 ?_|refine rG 20 (Calm.move rfl) ?_
    first|refine k_q 20 ?_|refine rG 20 (Calm.bin rfl rfl b_eql) ?_
    first|refine k_t rfl rfl ?_|refine k_f rfl rfl ?_
    refine k_e rfl ?_
    refine k_u [(0,_),(1,_),(4,_),(5,_),(6,_),(14,_),(17,_)] ?_
    refine k_F rfl ?_
    refine k_a (k_m rfl ?_)
    refine rC (Calm.bin rfl rfl b_lss) ?_
    refine k_m rfl ?_
    first|refine k_q 27 ?_|refine rG 27 (Calm.move rfl) ?_
    first|refine k_q 27 ?_|refine rG 27 (Calm.move rfl) ?_
    first|refine k_q 27 ?_|refine rG 27 (Calm.bin rfl rfl b_gtr) ?_
    first|refine k_t rfl rfl ?_|refine k_f rfl rfl ?_
    refine k_e rfl ?_
    refine k_u [(0,_),(1,_),(4,_),(5,_),(6,_),(14,_),(17,_),(24,_)] ?_
    refine k_T rfl ?_
    refine k_a (k_s rfl (k_e rfl ?_))
    refine AWP.ret ?_
    refine ain_ret ?_
    refine athen_ret ?_
    refine ⟨_,S,⟨_,_,rfl,⟨_,_,rfl,rfl,rfl⟩,rfl⟩,less_,?_⟩
    exact ⟨by rw [hcp];rfl,rfl⟩
   ·skip
    refine ACall.enter (rs:=[.tmp 4,.tmp 5]) 68 [(0,.string s),(1,.int .i64 p)] Tryz.func17 rfl rfl (Nat.le_of_ble_eq_true rfl) rfl ⟨rfl,rfl,trivial⟩ ?_
    refine k_a (k_s rfl (k_e rfl (k_a (k_m rfl ?_))))
    refine rC (Calm.lenStr (strT_spec ty_str_9) rfl) ?_
    refine k_e rfl ?_
    refine k_u [(0,_),(1,_),(4,_),(5,_),(6,_)] ?_
    refine AWP.seq ?_
    refine AWP.block ?_
    refine k_a (k_m rfl ?_)
    refine rC (Calm.bin rfl rfl b_gtr) ?_
    refine k_e rfl ?_
    refine k_u [(0,_),(1,_),(4,_),(5,_),(6,_),(14,_)] ?_
    refine k_F rfl ?_
    refine k_a (k_m rfl ?_)
    refine rC (Calm.bin rfl rfl b_eql) ?_
    refine k_m rfl ?_
    first|refine k_q 20 ?_|refine rG 20 (Calm.move rfl) ?_
    first|refine k_q 20 ?_|refine rG 20 (Calm.bin rfl rfl b_eql) ?_
    first|refine k_t rfl rfl ?_|refine k_f rfl rfl ?_
    refine k_e rfl ?_
    refine k_u [(0,_),(1,_),(4,_),(5,_),(6,_),(14,_),(17,_)] ?_
    refine k_F rfl ?_
    refine k_a (k_m rfl ?_)
    refine rC (Calm.bin rfl rfl b_lss) ?_
    refine k_m rfl ?_
    first|refine k_q 27 ?_|refine rG 27 (Calm.move rfl) ?_
    first|refine k_q 27 ?_|refine rG 27 (Calm.move rfl) ?_
    first|refine k_q 27 ?_|refine rG 27 (Calm.bin rfl rfl b_gtr) ?_
    first|refine k_t rfl rfl ?_|refine k_f rfl rfl ?_
    refine k_e rfl ?_
    refine k_u [(0,_),(1,_),(4,_),(5,_),(6,_),(14,_),(17,_),(24,_)] ?_
    refine k_T rfl ?_
    refine k_a (k_s rfl (k_e rfl ?_))
    refine AWP.ret ?_
    refine ain_ret ?_
    refine athen_ret ?_
    refine ⟨_,S,⟨_,_,rfl,⟨_,_,rfl,rfl,rfl⟩,rfl⟩,less_,?_⟩
    exact ⟨by rw [hcp];rfl,rfl⟩
  ·by_cases ho1:p<1
   ·skip
    refine ACall.enter (rs:=[.tmp 4,.tmp 5]) 68 [(0,.string s),(1,.int .i64 p)] Tryz.func17 rfl rfl (Nat.le_of_ble_eq_true rfl) rfl ⟨rfl,rfl,trivial⟩ ?_
    refine k_a (k_s rfl (k_e rfl (k_a (k_m rfl ?_))))
    refine rC (Calm.lenStr (strT_spec ty_str_9) rfl) ?_
    refine k_e rfl ?_
    refine k_u [(0,_),(1,_),(4,_),(5,_),(6,_)] ?_
    refine AWP.seq ?_
    refine AWP.block ?_
    refine k_a (k_m rfl ?_)
    refine rC (Calm.bin rfl rfl b_gtr) ?_
    refine k_e rfl ?_
    refine k_u [(0,_),(1,_),(4,_),(5,_),(6,_),(14,_)] ?_
    refine k_F rfl ?_
    refine k_a (k_m rfl ?_)
    refine rC (Calm.bin rfl rfl b_eql) ?_
    refine k_m rfl ?_
    first|refine k_q 20 ?_|refine rG 20 (Calm.move rfl) ?_
    first|refine k_q 20 ?_|refine rG 20 (Calm.bin rfl rfl b_eql) ?_
    first|refine k_t rfl rfl ?_|refine k_f rfl rfl ?_
    refine k_e rfl ?_
    refine k_u [(0,_),(1,_),(4,_),(5,_),(6,_),(14,_),(17,_)] ?_
    refine k_F rfl ?_
    refine k_a (k_m rfl ?_)
    refine rC (Calm.bin rfl rfl b_lss) ?_
    refine k_m rfl ?_
    first|refine k_q 27 ?_|refine rG 27 (Calm.move rfl) ?_
    first|refine k_q 27 ?_|refine rG 27 (Calm.move rfl) ?_
    first|refine k_q 27 ?_|refine rG 27 (Calm.bin rfl rfl b_gtr) ?_
    first|refine k_t rfl rfl ?_|refine k_f rfl rfl ?_
    refine k_e rfl ?_
    refine k_u [(0,_),(1,_),(4,_),(5,_),(6,_),(14,_),(17,_),(24,_)] ?_
    refine k_T rfl ?_
    refine k_a (k_s rfl (k_e rfl ?_))
    refine AWP.ret ?_
    refine ain_ret ?_
    refine athen_ret ?_
    refine ⟨_,S,⟨_,_,rfl,⟨_,_,rfl,rfl,rfl⟩,rfl⟩,less_,?_⟩
    exact ⟨by rw [hcp];rfl,rfl⟩
   ·skip
    refine ACall.enter (rs:=[.tmp 4,.tmp 5]) 68 [(0,.string s),(1,.int .i64 p)] Tryz.func17 rfl rfl (Nat.le_of_ble_eq_true rfl) rfl ⟨rfl,rfl,trivial⟩ ?_
    refine k_a (k_s rfl (k_e rfl (k_a (k_m rfl ?_))))
    refine rC (Calm.lenStr (strT_spec ty_str_9) rfl) ?_
    refine k_e rfl ?_
    refine k_u [(0,_),(1,_),(4,_),(5,_),(6,_)] ?_
    refine AWP.seq ?_
    refine AWP.block ?_
    refine k_a (k_m rfl ?_)
    refine rC (Calm.bin rfl rfl b_gtr) ?_
    refine k_e rfl ?_
    refine k_u [(0,_),(1,_),(4,_),(5,_),(6,_),(14,_)] ?_
    refine k_F rfl ?_
    refine k_a (k_m rfl ?_)
    refine rC (Calm.bin rfl rfl b_eql) ?_
    refine k_m rfl ?_
    first|refine k_q 20 ?_|refine rG 20 (Calm.move rfl) ?_
    first|refine k_q 20 ?_|refine rG 20 (Calm.bin rfl rfl b_eql) ?_
    first|refine k_t rfl rfl ?_|refine k_f rfl rfl ?_
    refine k_e rfl ?_
    refine k_u [(0,_),(1,_),(4,_),(5,_),(6,_),(14,_),(17,_)] ?_
    refine k_F rfl ?_
    refine k_a (k_m rfl ?_)
    refine rC (Calm.bin rfl rfl b_lss) ?_
    refine k_m rfl ?_
    first|refine k_q 27 ?_|refine rG 27 (Calm.move rfl) ?_
    first|refine k_q 27 ?_|refine rG 27 (Calm.move rfl) ?_
    first|refine k_q 27 ?_|refine rG 27 (Calm.bin rfl rfl b_gtr) ?_
    first|refine k_t rfl rfl ?_|refine k_f rfl rfl ?_
    refine k_e rfl ?_
    refine k_u [(0,_),(1,_),(4,_),(5,_),(6,_),(14,_),(17,_),(24,_)] ?_
    refine k_T rfl ?_
    refine k_a (k_s rfl (k_e rfl ?_))
    refine AWP.ret ?_
    refine ain_ret ?_
    refine athen_ret ?_
    refine ⟨_,S,⟨_,_,rfl,⟨_,_,rfl,rfl,rfl⟩,rfl⟩,less_,?_⟩
    exact ⟨by rw [hcp];rfl,rfl⟩
 obtain ⟨q,rfl⟩ : ∃ q:Nat,p=(q:Int):=⟨p.toNat,by omega⟩
 have hq1:1≤q:=by omega
 have hq2:q≤s.size:=by omega
 refine ACall.enter (rs:=[.tmp 4,.tmp 5]) 68 [(0,.string s),(1,.int .i64 q)] Tryz.func17 rfl rfl (Nat.le_of_ble_eq_true rfl) rfl ⟨rfl,rfl,trivial⟩ ?_
 refine k_a (k_s rfl (k_e rfl (k_a (k_m rfl ?_))))
 refine rC (Calm.lenStr (strT_spec ty_str_9) rfl) ?_
 refine k_e rfl ?_
 refine k_u [(0,_),(1,_),(4,_),(5,_),(6,_)] ?_
 refine AWP.seq ?_
 refine AWP.block ?_
 refine k_a (k_m rfl ?_)
 refine rC (Calm.bin rfl rfl b_gtr) ?_
 refine k_e rfl ?_
 refine k_u [(0,_),(1,_),(4,_),(5,_),(6,_),(14,_)] ?_
 refine k_F rfl ?_
 refine k_a (k_m rfl ?_)
 refine rC (Calm.bin rfl rfl b_eql) ?_
 refine k_m rfl ?_
 first|refine k_q 20 ?_|refine rG 20 (Calm.move rfl) ?_
 first|refine k_q 20 ?_|refine rG 20 (Calm.bin rfl rfl b_eql) ?_
 first|refine k_t rfl rfl ?_|refine k_f rfl rfl ?_
 refine k_e rfl ?_
 refine k_u [(0,_),(1,_),(4,_),(5,_),(6,_),(14,_),(17,_)] ?_
 refine k_F rfl ?_
 refine k_a (k_m rfl ?_)
 refine rC (Calm.bin rfl rfl b_lss) ?_
 refine k_m rfl ?_
 first|refine k_q 27 ?_|refine rG 27 (Calm.move rfl) ?_
 first|refine k_q 27 ?_|refine rG 27 (Calm.move rfl) ?_
 first|refine k_q 27 ?_|refine rG 27 (Calm.bin rfl rfl b_gtr) ?_
 first|refine k_t rfl rfl ?_|refine k_f rfl rfl ?_
 refine k_e rfl ?_
 refine k_u [(0,_),(1,_),(4,_),(5,_),(6,_),(14,_),(17,_),(24,_)] ?_
 refine k_F rfl ?_
 refine AWP.skip ?_
 refine ain_n ?_
 refine athen_n ?_
 refine k_a (k_m rfl ?_)
 refine ARun.call (lit_lt rfl) go_34 rfl (od_rows s _ (by omega)) ?_
 rintro u S1 ⟨hS1,hu⟩
 obtain ⟨ta,tc,rfl,t1,t2,t3⟩:=hu
 have htl:(toL s).length=s.size:=by simp [toL]
 rw [htl] at t1 t2 ⊢
 obtain ⟨tb,to_,rfl,htk⟩:=t3.resolve_left (fun h=>by rw [h] at htl;simp at htl;omega)
 refine k_e rfl ?_
 refine k_u [(0,_),(1,_),(4,_),(5,_),(6,_),(14,_),(17,_),(24,_),(7,_)] ?_
 refine k_a (k_m rfl ?_)
 refine ARun.makeSlice (lit_lt rfl) ty_sl_41 rfl rfl (by omega) (by omega) (by omega) (by omega) ?_
 intro b35 f35
 have g35:=f35
 repeat ((with_reducible replace g35:=fresh_set g35);obtain ⟨g35,_⟩:=g35)
 refine k_e rfl ?_
 refine k_u [(0,_),(1,_),(4,_),(5,_),(6,_),(14,_),(17,_),(24,_),(7,_),(8,_)] ?_
 rw [show madeL [Value.int .u8 0] (((s.size:Nat):Int).toNat*1)=tail8 s.size [] by rw [madeL_one,Nat.mul_one,tail8,List.append_nil,List.map_replicate];rfl,Nat.mul_one,Int.toNat_natCast]
 refine k_a (k_e rfl (AWP.seq (k_a (k_m rfl ?_))))
 refine rC (Calm.bin rfl rfl b_sub_i64) ?_
 refine k_e rfl ?_
 refine k_u [(0,_),(1,_),(4,_),(5,_),(6,_),(14,_),(17,_),(24,_),(7,_),(8,_),(9,_),(10,_)] ?_
 refine AWP.block ?_
 refine AWP.loop (X:=Nat × Nat × List Nat) (fun x=>[(0,.string s),(1,.int .i64 q),(7,.slice (some ⟨tb,to_,none⟩) s.size tc),(8,.slice (some ⟨b35,0,none⟩) s.size s.size),(9,.int .i64 x.2.1),(10,.int .i64 ((x.1:Int)-1))]) (fun x=>S1.set b35 ⟨5,tail8 x.1 x.2.2,s.size⟩) (fun x=>TxI s q x.1 x.2.1 x.2.2) (fun x=>x.1) ((s.size,0,[])) ⟨rfl,rfl,rfl,rfl,rfl,rfl,trivial⟩ (Mem.Less.refl _) (txI_start s q) ?_
 rintro ⟨K,r,acc⟩ hI
 (try dsimp only at *)
 have hKl:=hI.le
 have hrl:=hI.row
 have hlen:=hI.len
 by_cases hK:0<K
 ·refine AWP.seq (k_a (k_m rfl ?_))
  refine rC (Calm.bin rfl rfl b_geq) ?_
  refine k_n ?_
  refine k_u [(0,_),(1,_),(7,_),(8,_),(9,_),(10,_),(39,_)] ?_
  refine k_T rfl ?_
  obtain ⟨k,rfl⟩ : ∃ k,K=k+1:=⟨K-1,by omega⟩
  by_cases hrq:r=q
  ·have hcp:=textP_none hbig hq1 hq2 (by rw [← hI.walk];exact walk_no _ _ _ _ _ hrq)
   refine k_k (AWP.seq ?_)
   refine AWP.block ?_
   refine k_a (k_m rfl (k_e rfl ?_))
   refine k_u [(0,_),(1,_),(7,_),(8,_),(9,_),(10,_),(39,_),(11,_)] ?_
   refine AWP.seq ?_
   refine AWP.block ?_
   refine k_a (k_m rfl (k_m rfl ?_))
   refine rC (Calm.bin rfl rfl b_eql) ?_
   refine k_e rfl ?_
   refine k_u [(0,_),(1,_),(7,_),(8,_),(9,_),(10,_),(39,_),(11,_),(43,_)] ?_
   refine k_T rfl ?_
   refine k_a (k_s rfl (k_e rfl ?_))
   refine AWP.ret ?_
   refine ain_ret ?_
   refine athen_ret ?_
   refine ain_ret ?_
   refine athen_ret ?_
   refine athen_ret ?_
   refine ain_ret ?_
   refine athen_ret ?_
   refine ⟨_,S,⟨_,_,rfl,⟨_,_,rfl,rfl,rfl⟩,rfl⟩,hS1.trans (Mem.less_set _ _ _ f35.1),?_⟩
   exact ⟨by rw [hcp];rfl,rfl⟩
  ·have hnx:=txI_step hI hq2 hrq
   obtain ⟨a,ha⟩ : ∃ a,a=Ord.atR q r:=⟨_,rfl⟩
   rw [← ha] at hnx
   have hal:a<s.size:=by rw [ha];exact Ord.atR_lt hrl hq2 hrq
   refine k_k (AWP.seq ?_)
   refine AWP.block ?_
   refine k_a (k_m rfl (k_e rfl ?_))
   refine k_u [(0,_),(1,_),(7,_),(8,_),(9,_),(10,_),(39,_),(11,_)] ?_
   refine AWP.seq ?_
   refine AWP.block ?_
   refine k_a (k_m rfl (k_m rfl ?_))
   refine rC (Calm.bin rfl rfl b_eql) ?_
   refine k_e rfl ?_
   refine k_u [(0,_),(1,_),(7,_),(8,_),(9,_),(10,_),(39,_),(11,_),(43,_)] ?_
   refine k_F rfl ?_
   refine k_a (k_m rfl (k_m rfl ?_))
   refine rC (Calm.bin rfl rfl b_gtr) ?_
   refine k_e rfl ?_
   refine k_u [(0,_),(1,_),(7,_),(8,_),(9,_),(10,_),(39,_),(11,_),(43,_),(47,_)] ?_
   refine AWP.join (X:=Unit) (fun _=>[(0,.string s),(1,.int .i64 q),(7,.slice (some ⟨tb,to_,none⟩) s.size tc),(8,.slice (some ⟨b35,0,none⟩) s.size s.size),(10,.int .i64 (k:Int)),(11,.int .i64 (a:Int))]) (fun _=>S1.set b35 ⟨5,tail8 (k+1) acc,s.size⟩) (fun _=>a<s.size) ?_ ?_
   ·by_cases hlt:r<q
    ·rw [at_lt hlt] at ha
     refine k_F rfl ?_
     refine AWP.skip ?_
     refine ⟨(),?_,?_,?_⟩
     all_goals (try dsimp only)
     ·exact hal
     ·exact ⟨rfl,rfl,rfl,rfl,some_int (by omega),some_int (by omega),trivial⟩
     ·exact Mem.Less.refl _
    ·rw [at_gt (by omega)] at ha
     refine k_T rfl ?_
     refine AWP.region ?_
     refine k_m rfl ?_
     refine rC (Calm.bin rfl rfl b_sub_i64) ?_
     refine k_s rfl ?_
     refine arun_nil ?_
     refine ⟨(),?_,?_,?_⟩
     all_goals (try dsimp only)
     ·exact hal
     ·exact ⟨rfl,rfl,rfl,rfl,some_int (by omega),some_int (by omega),trivial⟩
     ·exact Mem.Less.refl _
   rintro _ _
   intro _ _ hs_ hl_
   (try dsimp only at *)
   refine ain_n ?_
   refine athen_n ?_
   refine AWP.sub _ hs_ (AWP.less _ hl_ ?_)
   clear hs_ hl_
   obtain ⟨x,hx⟩ : ∃ x,x=byT s a:=⟨_,rfl⟩
   have hx256:x<256:=by rw [hx];exact byT_lt s a
   have kt:Mem.Knows (S1.set b35 ⟨5,tail8 (k+1) acc,s.size⟩) ⟨tb,to_+a*1,none⟩ [.int .i64 (Ord.toR (numsT s) a:Nat)]:=by have:=(htk a (by rw [htl];exact hal)).less (Mem.less_set S1 b35 ⟨5,tail8 (k+1) acc,s.size⟩ f35.1);simp only [toL,List.getElem_map,List.getElem_range] at this;exact this
   refine AWP.draw [(0,true),(1,true),(2,true),(3,true),(4,true),(5,true),(6,true),(7,true),(8,true),(9,true),(10,false),(11,true)] [10] mixed (by kernel_rfl) ?_
   refine dP (hc:=fun _=>Calm.move rfl) (h:=?_)
   refine dP (hc:=fun _=>Calm.move rfl) (h:=?_)
   refine dP (hc:=fun _=>Calm.move rfl) (h:=?_)
   refine dP (hc:=fun _=>Calm.move rfl) (h:=?_)
   refine dC (hc:=Calm.as ((byT_val s a).trans (by rw [← hx])) (Calm.indexStrN (strT_spec ty_str_9) rfl rfl hal)) (h:=?_)
   refine dP (hc:=fun _=>Calm.move rfl) (h:=?_)
   refine dP (hc:=fun _=>Calm.move rfl) (h:=?_)
   refine dP (hc:=fun _=>Calm.indexS Tryz.underlying26 ty_size_3 rfl rfl (by omega) (by omega)) (h:=?_)
   refine dC (hc:=ld_ ty_plain_3 rfl) (h:=?_)
   refine dP (hc:=fun _=>Calm.indexS Tryz.underlying41 ty_size_5 rfl rfl (by omega) (by omega)) (h:=?_)
   refine draw_only rfl ?_
   refine ARun.store1 rfl rfl ty_size_5 rfl own_ (by show 0+(k:Int).toNat*1<(tail8 (k+1) acc).length;rw [tail8_length];omega) rfl ?_
   try simp only [k_ms,k_sz,k_ss,k_za,Nat.reduceAdd]
   refine arun_nil ⟨fun h=>absurd h (by decide),?_⟩
   refine dP (hc:=fun _=>Calm.assign rfl) (h:=?_)
   refine draw_nil ?_
   refine ain_n ?_
   refine athen_n ?_
   refine k_u [(0,_),(1,_),(7,_),(8,_),(10,_),(11,_),(9,_)] ?_
   simp only [Nat.zero_add,Nat.mul_one,Int.toNat_natCast]
   refine AWP.region ?_
   refine k_m rfl ?_
   refine rC (Calm.bin rfl rfl b_sub_i64) ?_
   refine k_e rfl ?_
   refine ⟨(k,Ord.toR (numsT s) a,x :: acc),?_,?_,?_,?_⟩
   all_goals (try dsimp only)
   ·exact ⟨sq_,sq_,sq_,sq_,sq_,sq_,trivial⟩
   ·rw [← tail8_set k x acc];exact Mem.Less.refl _
   ·rw [hx];exact hnx
   ·omega
 ·obtain rfl:K=0:=by omega
  refine AWP.seq (k_a (k_m rfl ?_))
  refine rC (Calm.bin rfl rfl b_geq) ?_
  refine k_n ?_
  refine k_u [(0,_),(1,_),(7,_),(8,_),(9,_),(10,_),(39,_)] ?_
  refine k_F rfl ?_
  have hw:=hI.walk
  rw [walk_end] at hw
  by_cases hrq:r=q
  ·rw [if_pos hrq] at hw
   have hcp:=textP_some hbig hq1 hq2 hw.symm
   refine AWP.exit ?_
   refine athen_exit ?_
   refine athen_exit ?_
   refine ain_same ?_
   refine athen_n ?_
   refine AWP.seq (k_a (k_m rfl (k_m rfl ?_)))
   refine rC (Calm.bin rfl rfl b_neq) ?_
   refine k_n ?_
   refine k_u [(0,_),(1,_),(7,_),(8,_),(9,_),(10,_),(39,_),(65,_)] ?_
   refine k_F rfl ?_
   refine k_k (k_a (k_m rfl ?_))
   refine rC (Calm.toStr (l:=ofN acc) ty_bytes_41 ty_str_9 rfl (by unfold ofN;rw [List.length_map];omega) (by rw [← ofN_cells acc hI.byte];exact rds_own (r:=⟨5,acc.map encB,s.size⟩) (Mem.own_set_same _ _ _))) ?_
   refine k_s rfl (k_e rfl ?_)
   refine k_u [(0,_),(1,_),(7,_),(8,_),(9,_),(10,_),(39,_),(65,_),(4,_),(5,_)] ?_
   refine AWP.ret ?_
   refine ⟨_,S,⟨_,_,rfl,⟨_,_,rfl,rfl,rfl⟩,rfl⟩,hS1.trans (Mem.less_set _ _ _ f35.1),?_⟩
   exact ⟨by rw [hcp];rfl,rfl⟩
  ·rw [if_neg hrq] at hw
   have hcp:=textP_none hbig hq1 hq2 hw.symm
   refine AWP.exit ?_
   refine athen_exit ?_
   refine athen_exit ?_
   refine ain_same ?_
   refine athen_n ?_
   refine AWP.seq (k_a (k_m rfl (k_m rfl ?_)))
   refine rC (Calm.bin rfl rfl b_neq) ?_
   refine k_n ?_
   refine k_u [(0,_),(1,_),(7,_),(8,_),(9,_),(10,_),(39,_),(65,_)] ?_
   refine k_T rfl ?_
   refine k_a (k_s rfl (k_e rfl ?_))
   refine k_r ?_
   refine ⟨_,S,⟨_,_,rfl,⟨_,_,rfl,rfl,rfl⟩,rfl⟩,hS1.trans (Mem.less_set _ _ _ f35.1),?_⟩
   exact ⟨by rw [hcp];rfl,rfl⟩
end Go.Proofs.YtgidjbpgkeemiaaGreat
namespace Go.Proofs.YtgidjbpgkeemiaaGreat
open Num Loser
namespace Fd
open _root_.Go.Proofs.YtgidjbpgkeemiaaGreat.Ord
/-! ### Rows and places -/
/-- The places of a text's rows, the empty end's first. -/
def plc (s : List Nat) : List Nat := s.length :: endsR s s.length
def fre (s : List Nat) (r : Nat) : Nat := (plc s).getD r 0
theorem plc_length (s : List Nat) : (plc s).length = s.length + 1 := by unfold plc; rw [List.length_cons, (endsR_ok s).len]
theorem fre_get (s : List Nat) (r : Nat) (h : r < (plc s).length) : (plc s)[r] = fre s r := by unfold fre; rw [getD_get _ _ _ h]
/-- The row of a place. -/
def rw' (s : List Nat) (a : Nat) : Nat := rowE (endsR s s.length) s.length a
theorem rw_ok (s : List Nat) : IsRow s (rw' s) := isRow_sorted (endsR_ok s)
theorem fre_rw (s : List Nat) (a : Nat) (h : a ≤ s.length) : fre s (rw' s a) = a := by
 unfold fre plc rw' rowE
 by_cases h1:a<s.length
 ·rw [if_pos h1,List.getD_cons_succ]
  have hm:a ∈ endsR s s.length:=(endsR_ok s).1.mem_iff.2 (List.mem_range.2 h1)
  have hl:=List.idxOf_lt_length_of_mem hm
  rw [getD_get _ _ _ hl];exact List.getElem_idxOf hl
 ·rw [if_neg h1,List.getD_cons_zero];omega
theorem fre_le (s : List Nat) (r : Nat) : fre s r ≤ s.length := by
 unfold fre
 rcases Nat.lt_or_ge r (plc s).length with h | h
 ·rw [getD_get _ _ _ h]
  have hm:=List.getElem_mem h
  unfold plc at hm
  rcases List.mem_cons.1 hm with e | e
  ·show (plc s)[r]≤_;unfold plc;omega
  ·have:=(endsR_ok s).lt e
   show (plc s)[r]≤_;unfold plc;omega
 ·rw [List.getD_eq_getElem?_getD,List.getElem?_eq_none h];exact Nat.zero_le _
theorem row_all (s : List Nat) (r : Nat) (h : r ≤ s.length) : ∃ a, a ≤ s.length ∧ rw' s a = r := by
 have hp:=range_inj_perm (s.length+1) (rw' s) (fun a ha=>by have:=(rw_ok s).le a (by omega);omega) (fun a b ha hb e=>(rw_ok s).inj (by omega) (by omega) e)
 have hm:=hp.mem_iff.2 (List.mem_range.2 (show r<s.length+1 by omega))
 obtain ⟨a,ha,e⟩:=List.mem_map.1 hm
 exact ⟨a,by have:=List.mem_range.1 ha;omega,e⟩
theorem rw_fre (s : List Nat) (r : Nat) (h : r ≤ s.length) : rw' s (fre s r) = r := by
 obtain ⟨a,ha,rfl⟩:=row_all s r h
 rw [fre_rw s a ha]
theorem plc_map (s : List Nat) : plc s = (List.range (s.length + 1)).map (fre s) := by
 refine List.ext_getElem (by rw [plc_length];simp) fun r h1 h2=>?_
 rw [List.getElem_map,List.getElem_range,fre_get]
theorem fre_inj (s : List Nat) {a b : Nat} (ha : a ≤ s.length) (hb : b ≤ s.length) (e : fre s a = fre s b) : a = b := by rw [← rw_fre s a ha, ← rw_fre s b hb, e]
theorem plc_perm (s : List Nat) : (plc s).Perm (List.range (s.length + 1)) := by
 rw [plc_map]
 exact range_inj_perm _ _ (fun a ha=>by have:=fre_le s a;omega) (fun a b ha hb e=>fre_inj s (by omega) (by omega) e)
/-! ### A column that has a text -/
theorem walk_row (c : List Nat) (p : Nat) (s : List Nat) (hp : p ≤ c.length) (h : walkT c p c.length 0 [] = some s) : c.length = s.length ∧ ∃ r, IsRow s r ∧ r 0 = p ∧ ∀ a, a < s.length → c.getD (atR p (r (a + 1))) 0 = s.getD a 0 := by
 obtain ⟨r,h1,h2,h3,_,h5⟩:=walk_rows c p s _ _ _ h
 rw [List.length_nil] at h5
 have hl:c.length=s.length:=h5
 rw [hl] at h1 h3 hp
 have hle:∀ m a,a≤s.length→s.length-a≤m→r a≤s.length:=by
  intro m
  induction m with
  | zero =>
   intro a ha hm
   obtain rfl:a=s.length:=by omega
   rw [h1];omega
  | succ m ih =>
   intro a ha hm
   rcases Nat.lt_or_ge a s.length with h' | h'
   ·obtain ⟨q1,q2,q3⟩:=h3 a h'
    rw [q2,← hl]
    exact toR_le c _ (by rw [hl];exact atR_lt (ih (a+1) (by omega) (by omega)) hp q1)
   ·obtain rfl:a=s.length:=by omega
    rw [h1];omega
 have hle':∀ a,a≤s.length→r a≤s.length:=fun a ha=>hle _ a ha (Nat.le_refl _)
 have hlt:∀ m a b,a≤s.length→b≤s.length→s.length-a≤m→(r a<r b ↔ sl s a b=true):=by
  intro m
  induction m with
  | zero =>
   intro a b ha hb hm
   obtain rfl:a=s.length:=by omega
   rw [h1,sl_end s _ b (Nat.le_refl _)]
   rcases Nat.lt_or_ge b s.length with h' | h'
   ·rw [(h3 b h').2.1]
    have:=toR_pos c (atR p (r (b+1)))
    simp [h'];omega
   ·obtain rfl:b=s.length:=by omega
    rw [h1];simp
  | succ m ih =>
   intro a b ha hb hm
   rcases Nat.lt_or_ge a s.length with h' | h'
   ·obtain ⟨q1,q2,q3⟩:=h3 a h'
    rcases Nat.lt_or_ge b s.length with h4 | h4
    ·obtain ⟨w1,w2,w3⟩:=h3 b h4
     have ra:=atR_lt (hle' (a+1) (by omega)) hp q1
     have rb:=atR_lt (hle' (b+1) (by omega)) hp w1
     have e:decide (atR p (r (a+1))<atR p (r (b+1)))=sl s (a+1) (b+1):=by rw [Bool.eq_iff_iff,decide_eq_true_eq,atR_mono q1 w1,ih (a+1) (b+1) (by omega) (by omega) (by omega)]
     rw [q2,w2,toR_lt c _ _ (by rw [hl];exact ra) (by rw [hl];exact rb),sl_step s a b h' h4]
     unfold ltC
     rw [← q3,← w3,getD_get s a 0 h',getD_get s b 0 h4,e]
    ·obtain rfl:b=s.length:=by omega
     rw [h1,sl_no s _ _ (Nat.le_refl _)]
     constructor
     ·intro h;omega
     ·intro h;cases h
   ·obtain rfl:a=s.length:=by omega
    rw [h1,sl_end s _ b (Nat.le_refl _)]
    rcases Nat.lt_or_ge b s.length with h' | h'
    ·rw [(h3 b h').2.1]
     have:=toR_pos c (atR p (r (b+1)))
     simp [h'];omega
    ·obtain rfl:b=s.length:=by omega
     rw [h1];simp
 exact ⟨hl,r,⟨hle',fun a b ha hb=>hlt _ a b ha hb (Nat.le_refl _)⟩,h2,fun a ha=>(h3 a ha).2.2.symm⟩
/-- c is the column of s, p its primary. -/
structure Col (s c : List Nat) (p : Nat) : Prop where
  len : c.length = s.length
  prim : rw' s 0 = p
  byte : ∀ a, a < s.length → c.getD (atR p (rw' s (a + 1))) 0 = s.getD a 0
theorem walk_col {c : List Nat} {p : Nat} {s : List Nat} (hp : p ≤ c.length) (h : walkT c p c.length 0 [] = some s) : Col s c p := by
 obtain ⟨hl,r,hr,h0,hb⟩:=walk_row c p s hp h
 have e:∀ a,a≤s.length→r a=rw' s a:=fun a ha=>by rw [hr.one a ha,(rw_ok s).one a ha]
 exact ⟨hl,by rw [← e 0 (Nat.zero_le _),h0],fun a ha=>by rw [← e (a+1) (by omega)];exact hb a ha⟩
theorem Col.le {s c : List Nat} {p : Nat} (h : Col s c p) : p ≤ s.length := by rw [← h.prim]; exact (rw_ok s).le 0 (Nat.zero_le _)
theorem Col.ne {s c : List Nat} {p : Nat} (h : Col s c p) {a : Nat} (ha : a < s.length) : rw' s (a + 1) ≠ p := fun e => by
 have:=(rw_ok s).inj (by omega) (by omega) (e.trans h.prim.symm);omega
theorem Col.at {s c : List Nat} {p : Nat} (h : Col s c p) {a : Nat} (ha : a < s.length) : atR p (rw' s (a + 1)) < s.length := atR_lt ((rw_ok s).le _ (by omega)) h.le (h.ne ha)
theorem Col.fp {s c : List Nat} {p : Nat} (h : Col s c p) : fre s p = 0 := by rw [← h.prim, fre_rw s 0 (Nat.zero_le _)]
theorem Col.f0 {s c : List Nat} {p : Nat} (h : Col s c p) {r : Nat} (hr : r ≤ s.length) : r = p ↔ fre s r = 0 :=
 ⟨fun e=>by rw [e];exact h.fp,fun e=>by rw [← h.prim,← e,rw_fre s r hr]⟩
/-- A row that is not the primary has the byte ahead of its place. -/
theorem Col.row {s c : List Nat} {p : Nat} (h : Col s c p) {r : Nat} (hr : r ≤ s.length) (hp : r ≠ p) : c.getD (atR p r) 0 = s.getD (fre s r - 1) 0 := by
 have h0:fre s r≠0:=fun e=>hp ((h.f0 hr).2 e)
 have hf:=fre_le s r
 have:=h.byte (fre s r-1) (by omega)
 rw [show fre s r-1+1=fre s r by omega,rw_fre s r hr] at this
 exact this
theorem Col.perm' {s c : List Nat} {p : Nat} (h : Col s c p) : ((List.range s.length).map (fun a => atR p (rw' s (a + 1)))).Perm (List.range s.length) :=
 range_inj_perm s.length _ (fun b hb=>h.at hb) (fun b d hb hd e=>by have:=(rw_ok s).inj (by omega) (by omega) (atR_inj (h.ne hb) (h.ne hd) e);omega)
theorem Col.colR {s c : List Nat} {p : Nat} (h : Col s c p) (h0 : 0 < s.length) : ColR s c p (rw' s) := ⟨rw_ok s, h.len, h0, h.prim, h.byte⟩
/-- A step back. -/
theorem Col.back {s c : List Nat} {p : Nat} (h : Col s c p) {r : Nat} (hr : r ≤ s.length) (hp : r ≠ p) : toR c (atR p r) = rw' s (fre s r - 1) := by
 have h0:fre s r≠0:=fun e=>hp ((h.f0 hr).2 e)
 have hf:=fre_le s r
 have:=(h.colR (by omega)).step (fre s r-1) (by omega)
 rw [show fre s r-1+1=fre s r by omega,rw_fre s r hr] at this
 exact this
theorem Col.perm {s c : List Nat} {p : Nat} (h : Col s c p) : c.Perm s := by
 rcases Nat.eq_zero_or_pos s.length with h0 | h0
 ·have h1:=h.len
  rw [List.length_eq_zero_iff.1 h0,List.length_eq_zero_iff.1 (h1.trans h0)]
 ·exact (h.colR h0).perm
/-- A text has one column. -/
theorem Col.one {s c d : List Nat} {p q : Nat} (h : Col s c p) (h' : Col s d q) : c = d ∧ p = q := by
 have hpq:p=q:=h.prim.symm.trans h'.prim
 subst hpq
 refine ⟨List.ext_getElem (h.len.trans h'.len.symm) fun i h1 h2=>?_,rfl⟩
 have hi:i<s.length:=by rw [← h.len];exact h1
 obtain ⟨a,ha,e⟩:=List.mem_map.1 (h.perm'.mem_iff.2 (List.mem_range.2 hi))
 have ha':=List.mem_range.1 ha
 have e1:=h.byte a ha'
 have e2:=h'.byte a ha'
 rw [e] at e1 e2
 rw [getD_get c i 0 h1] at e1
 rw [getD_get d i 0 h2] at e2
 rw [e1,e2]
/-! ### Marks: how often a byte is ahead of a row -/
def mk (c : List Nat) (p r x : Nat) : Nat := ceq (c.take (atR p r)) x
theorem at_next {p r : Nat} (h : r ≠ p) : atR p (r + 1) = atR p r + 1 := by unfold atR; split <;> split <;> omega
theorem at_prim (p : Nat) : atR p (p + 1) = atR p p := by unfold atR; rw [if_pos (by omega), if_neg (by omega)]; omega
theorem mk_zero (c : List Nat) (p x : Nat) : mk c p 0 x = 0 := by unfold mk atR; rw [if_neg (by omega)]; rfl
theorem mk_prim (c : List Nat) (p x : Nat) : mk c p (p + 1) x = mk c p p x := by unfold mk; rw [at_prim]
theorem mk_le (c : List Nat) (p r x : Nat) : mk c p r x ≤ c.length := by
 unfold mk
 have:=ceq_le (c.take (atR p r)) x
 rw [List.length_take] at this
 omega
/-- How many rows ahead have the byte, by places. -/
theorem Col.marks {s c : List Nat} {p : Nat} (h : Col s c p) (R x : Nat) : Fd.mk c p R x = (List.range s.length).countP (fun a => decide (rw' s (a + 1) < R) && decide (s.getD a 0 = x)) := by
 have e1:Fd.mk c p R x=(List.range s.length).countP (fun i=>decide (c.getD i 0=x) && decide (i<atR p R)):=by
  unfold Fd.mk ceq
  rcases Nat.lt_or_ge c.length (atR p R) with h1 | h1
  ·have hq:c.countP (fun y=>decide (y=x))=(List.range c.length).countP (fun j=>decide (c.getD j 0=x)):=by rw [countP_list c (fun y=>decide (y=x)) c.length (Nat.le_refl _),List.take_length]
   rw [List.take_of_length_le (by omega),hq,h.len]
   refine List.countP_congr fun i hi=>?_
   have:=List.mem_range.1 hi
   have h2:=h.len
   rw [decide_eq_true (show i<atR p R by omega),Bool.and_true]
  ·rw [← countP_list c (fun y=>decide (y=x)) (atR p R) h1,← countP_below (fun j=>decide (c.getD j 0=x)) (atR p R) s.length (by rw [← h.len];exact h1)]
 rw [e1,← h.perm'.countP_eq,List.countP_map]
 refine List.countP_congr fun a ha=>?_
 have ha':=List.mem_range.1 ha
 rw [Function.comp_apply,h.byte a ha']
 have hne:=h.ne ha'
 have:atR p (rw' s (a+1))<atR p R ↔ rw' s (a+1)<R:=by unfold atR;split <;> split <;> omega
 rw [decide_eq_decide.2 this,Bool.and_comm]
/-! ### A set of ends that holds each lesser one -/
/-- Q holds of the first rows alone. -/
def Down (s : List Nat) (Q : Nat → Bool) : Prop := ∀ a b, a ≤ s.length → b ≤ s.length → sl s b a = true → Q a = true → Q b = true
def cnt (s : List Nat) (Q : Nat → Bool) : Nat := (List.range (s.length + 1)).countP Q
theorem cnt_le' (s : List Nat) (Q : Nat → Bool) : cnt s Q ≤ s.length + 1 := by have := List.countP_le_length (p := Q) (l := List.range (s.length + 1)); rw [List.length_range] at this; exact this
theorem cnt_rows (s : List Nat) (m : Nat) (hm : m ≤ s.length + 1) : (List.range (s.length + 1)).countP (fun b => decide (rw' s b < m)) = m := by
 have hp:=range_inj_perm (s.length+1) (rw' s) (fun a ha=>by have:=(rw_ok s).le a (by omega);omega) (fun a b ha hb e=>(rw_ok s).inj (by omega) (by omega) e)
 have:=hp.countP_eq (fun x=>decide (x<m))
 rw [countP_lt_range m _ hm,List.countP_map] at this
 exact this
theorem down_row {s : List Nat} {Q : Nat → Bool} (h : Down s Q) {a : Nat} (ha : a ≤ s.length) : Q a = true ↔ rw' s a < cnt s Q := by
 have hra:=(rw_ok s).le a ha
 constructor
 ·intro hq
  have h1:=cnt_rows s (rw' s a+1) (by omega)
  have h2:(List.range (s.length+1)).countP (fun b=>decide (rw' s b<rw' s a+1))≤cnt s Q:=List.countP_mono_left fun b hb hlt=>by
   have hb':=List.mem_range.1 hb
   simp only [decide_eq_true_eq] at hlt
   rcases Nat.lt_or_ge (rw' s b) (rw' s a) with h' | h'
   ·exact h a b ha (by omega) (((rw_ok s).lt b a (by omega) ha).1 h') hq
   ·rw [(rw_ok s).inj (by omega) ha (show rw' s b=rw' s a by omega)];exact hq
  omega
 ·intro hlt
  cases hq:Q a with
  | true=>rfl
  | false =>
   have h1:=cnt_rows s (rw' s a) (by omega)
   have h2:cnt s Q≤(List.range (s.length+1)).countP (fun b=>decide (rw' s b<rw' s a)):=List.countP_mono_left fun b hb hb2=>by
    have hb':=List.mem_range.1 hb
    simp only [decide_eq_true_eq]
    rcases Nat.lt_trichotomy (rw' s b) (rw' s a) with h' | h' | h'
    ·exact h'
    ·rw [(rw_ok s).inj (by omega) ha h',hq] at hb2;cases hb2
    ·have:=h b a (by omega) ha (((rw_ok s).lt a b ha (by omega)).1 h') hb2
     rw [hq] at this;cases this
   omega
/-- A step of the search. -/
def stepQ (s : List Nat) (x : Nat) (Q : Nat → Bool) (a : Nat) : Bool := decide (s.length ≤ a) || (decide (s.getD a 0 < x) || (decide (s.getD a 0 = x) && Q (a + 1)))
theorem down_step {s : List Nat} {Q : Nat → Bool} (h : Down s Q) (x : Nat) : Down s (stepQ s x Q) := by
 intro a b ha hb hs hq
 unfold stepQ at *
 simp only [Bool.or_eq_true,decide_eq_true_eq,Bool.and_eq_true] at *
 rcases Nat.lt_or_ge b s.length with h1 | h1
 ·rcases Nat.lt_or_ge a s.length with h2 | h2
  ·rw [sl_step s b a h1 h2] at hs
   simp only [Bool.or_eq_true,decide_eq_true_eq,Bool.and_eq_true] at hs
   rw [getD_get s a 0 h2] at hq
   rw [getD_get s b 0 h1]
   right
   rcases hq with hq | hq | ⟨hq,hq'⟩
   ·omega
   ·left;rcases hs with hs | ⟨hs,_⟩ <;> omega
   ·rcases hs with hs | ⟨hs,hs'⟩
    ·left;omega
    ·right;exact ⟨by omega,h (a+1) (b+1) (by omega) (by omega) hs' hq'⟩
  ·rw [sl_no s b a h2] at hs;cases hs
 ·left;exact h1
theorem cnt_step {s c : List Nat} {p : Nat} (hc : Col s c p) {Q : Nat → Bool} (h : Down s Q) (x : Nat) : cnt s (stepQ s x Q) = 1 + clt c x + mk c p (cnt s Q) x := by
 rw [hc.marks]
 have e0:clt c x=clt s x:=hc.perm.countP_eq _
 rw [e0]
 generalize hm:cnt s Q=m
 unfold cnt
 rw [List.range_succ,List.countP_append]
 have e1 : [s.length].countP (stepQ s x Q)=1:=by simp [stepQ]
 have e2:(List.range s.length).countP (stepQ s x Q)=(List.range s.length).countP (fun a=>decide (s.getD a 0<x) || (decide (rw' s (a+1)<m) && decide (s.getD a 0=x))):=List.countP_congr fun a ha=>by
  have ha':=List.mem_range.1 ha
  unfold stepQ
  have hd:=down_row h (show a+1≤s.length by omega)
  rw [hm] at hd
  simp only [Bool.or_eq_true,decide_eq_true_eq,Bool.and_eq_true]
  rw [hd]
  constructor
  ·rintro (h | h | ⟨h,h'⟩)
   ·omega
   ·exact .inl h
   ·exact .inr ⟨h',h⟩
  ·rintro (h | ⟨h',h⟩)
   ·exact .inr (.inl h)
   ·exact .inr (.inr ⟨h,h'⟩)
 rw [e1,e2,countP_or _ _ (fun a ha=>by simp only [decide_eq_true_eq,Bool.and_eq_false_iff,decide_eq_false_iff_not] at *;omega)]
 have e3:(List.range s.length).countP (fun a=>decide (s.getD a 0<x))=clt s x:=by
  rw [countP_list s (fun y=>decide (y<x)) s.length (Nat.le_refl _),List.take_length];rfl
 rw [e3]
 omega
/-! ### What begins with a text -/
/-- It begins with w. -/
def beg (w t : List Nat) : Bool := decide (t.take w.length = w)
theorem beg_nil (t : List Nat) : beg [] t = true := by simp [beg]
theorem beg_cons (x : Nat) (w : List Nat) (y : Nat) (t : List Nat) : beg (x :: w) (y :: t) = (decide (y = x) && beg w t) := by
 unfold beg
 rw [List.length_cons,List.take_succ_cons]
 simp only [List.cons.injEq,Bool.decide_and]
theorem beg_end (x : Nat) (w : List Nat) : beg (x :: w) [] = false := by simp [beg]
theorem beg_not_less : ∀ (w t : List Nat), beg w t = true → lessB t w = false
 | [],t,_=>by cases t <;> rfl
 | x :: w,[],h=>by rw [beg_end] at h;cases h
 | x :: w,y :: t,h=>by
  rw [beg_cons] at h
  simp only [Bool.and_eq_true,decide_eq_true_eq] at h
  obtain ⟨rfl,h⟩:=h
  have:=beg_not_less w t h
  simp [lessB,this]
/-- Ends less than w. -/
def lsQ (s w : List Nat) (a : Nat) : Bool := lessB (s.drop a) w
/-- Ends less than w, or that begin with it. -/
def lbQ (s w : List Nat) (a : Nat) : Bool := lessB (s.drop a) w || beg w (s.drop a)
theorem lsQ_cons (s w : List Nat) (x a : Nat) (ha : a ≤ s.length) : lsQ s (x :: w) a = stepQ s x (lsQ s w) a := by
 unfold lsQ stepQ
 rcases Nat.lt_or_ge a s.length with h | h
 ·rw [List.drop_eq_getElem_cons h,getD_get s a 0 h,decide_eq_false (by omega),Bool.false_or]
  rfl
 ·rw [List.drop_eq_nil_of_le h,decide_eq_true h];rfl
theorem lbQ_cons (s w : List Nat) (x a : Nat) (ha : a ≤ s.length) : lbQ s (x :: w) a = stepQ s x (lbQ s w) a := by
 unfold lbQ stepQ
 rcases Nat.lt_or_ge a s.length with h | h
 ·rw [List.drop_eq_getElem_cons h,getD_get s a 0 h,decide_eq_false (by omega),Bool.false_or,beg_cons,lessB]
  cases h1:decide (s[a]<x) <;> cases h2:decide (s[a]=x) <;> simp
 ·rw [List.drop_eq_nil_of_le h,decide_eq_true h];rfl
theorem down_congr {s : List Nat} {Q Q' : Nat → Bool} (h : ∀ a, a ≤ s.length → Q a = Q' a) (hd : Down s Q') : Down s Q := fun a b ha hb hs hq => by
 rw [h b hb];rw [h a ha] at hq;exact hd a b ha hb hs hq
theorem cnt_congr {s : List Nat} {Q Q' : Nat → Bool} (h : ∀ a, a ≤ s.length → Q a = Q' a) : cnt s Q = cnt s Q' := List.countP_congr fun a ha => by rw [h a (by have := List.mem_range.1 ha; omega)]
theorem down_ls (s : List Nat) : ∀ w, Down s (lsQ s w)
 | []=>fun a b _ _ _ h=>by unfold lsQ at h;cases hd:s.drop a <;> rw [hd] at h <;> cases h
 | x :: w=>down_congr (fun a ha=>lsQ_cons s w x a ha) (down_step (down_ls s w) x)
theorem down_lb (s : List Nat) : ∀ w, Down s (lbQ s w)
 | []=>fun a b _ _ _ h=>by unfold lbQ;rw [beg_nil];simp
 | x :: w=>down_congr (fun a ha=>lbQ_cons s w x a ha) (down_step (down_lb s w) x)
def fromP (s w : List Nat) : Nat := cnt s (lsQ s w)
def toP (s w : List Nat) : Nat := cnt s (lbQ s w)
theorem from_nil (s : List Nat) : fromP s [] = 0 := List.countP_eq_zero.2 fun a _ => by unfold lsQ; cases s.drop a <;> exact Bool.false_ne_true
theorem to_nil (s : List Nat) : toP s [] = s.length + 1 := by
 unfold toP cnt
 rw [List.countP_eq_length.2 fun a _=>by unfold lbQ;rw [beg_nil];simp]
 simp
theorem from_cons {s c : List Nat} {p : Nat} (hc : Col s c p) (x : Nat) (w : List Nat) : fromP s (x :: w) = 1 + clt c x + mk c p (fromP s w) x := by
 unfold fromP
 rw [cnt_congr (fun a ha=>lsQ_cons s w x a ha),cnt_step hc (down_ls s w)]
theorem to_cons {s c : List Nat} {p : Nat} (hc : Col s c p) (x : Nat) (w : List Nat) : toP s (x :: w) = 1 + clt c x + mk c p (toP s w) x := by
 unfold toP
 rw [cnt_congr (fun a ha=>lbQ_cons s w x a ha),cnt_step hc (down_lb s w)]
/-- How many begin with it. -/
def begN (s w : List Nat) : Nat := cnt s (fun a => beg w (s.drop a))
theorem to_from (s w : List Nat) : toP s w = fromP s w + begN s w := by
 unfold toP fromP begN cnt lbQ
 rw [countP_or (fun a=>lessB (s.drop a) w) (fun a=>beg w (s.drop a)) (fun a ha=>by
  cases hb:beg w (s.drop a) with
  | false=>rfl
  | true =>
   have h1:lessB (s.drop a) w=false:=beg_not_less w _ hb
   rw [h1] at ha;cases ha)]
 rfl
theorem from_le (s w : List Nat) : fromP s w ≤ s.length + 1 := cnt_le' s _
theorem to_le (s w : List Nat) : toP s w ≤ s.length + 1 := cnt_le' s _
/-- The rows in between begin with it. -/
theorem in_rows (s w : List Nat) (r : Nat) (hr : r ≤ s.length) : (fromP s w ≤ r ∧ r < toP s w) ↔ beg w (s.drop (fre s r)) = true := by
 have hf:=fre_le s r
 have h1:=down_row (down_ls s w) hf
 have h2:=down_row (down_lb s w) hf
 rw [rw_fre s r hr] at h1 h2
 have h3:cnt s (lsQ s w)≤r ↔ ¬ lsQ s w (fre s r)=true:=by rw [h1];omega
 unfold fromP toP
 rw [← h2,h3]
 unfold lsQ lbQ
 constructor
 ·rintro ⟨h3,h4⟩
  simp only [Bool.or_eq_true] at h4
  exact h4.resolve_left h3
 ·intro h
  exact ⟨by rw [beg_not_less w _ h];exact Bool.false_ne_true,by rw [h];simp⟩
end Fd
end Go.Proofs.YtgidjbpgkeemiaaGreat
namespace Go.Proofs.YtgidjbpgkeemiaaGreat
open Go.RowKit
open Mv Num Loser Srt
set_option maxRecDepth 4000
theorem outM_setc {S : Mem} {o : Option (Nat × Nat)} {e : TypeId} {cs : List Value} {b : Nat} {r : Blk} (h : Fresh (outM S o e cs) b) : (outM S o e cs).set b r = outM (S.set b r) o e cs := by
 have:=(fresh_outM h).2
 cases o with
 | none=>rfl
 | some q=>exact Mem.set_comm _ _ _ (Ne.symm (this q.1 q.2 rfl))
theorem okO_setc {S : Mem} {o : Option (Nat × Nat)} {n : Nat} {e : TypeId} {cs : List Value} {b : Nat} {r : Blk} (ho : OkO S o n) (h : Fresh (outM S o e cs) b) : OkO (S.set b r) o n := ho.set (fresh_outM h).2
/-- A block under a slice that grows is written. -/
theorem outM_in {M : Mem} {o : Option (Nat × Nat)} {n : Nat} {e : TypeId} {cs : List Value} {b : Nat} {B B' : Blk} (h : OkO (M.set b B) o n) : (outM (M.set b B) o e cs).set b B' = outM (M.set b B') o e cs := by
 cases o with
 | none=>show (M.set b B).set b B'=M.set b B';rw [Mem.set_set]
 | some q =>
  have hne:=(fresh_set (h.own q.1 q.2 rfl).1).2
  show ((M.set b B).set q.1 _).set b B'=(M.set b B').set q.1 _
  rw [Mem.set_comm _ _ _ hne,Mem.set_set]
theorem okO_in {M : Mem} {o : Option (Nat × Nat)} {n : Nat} {b : Nat} {B B' : Blk} (h : OkO (M.set b B) o n) : OkO (M.set b B') o n :=
 ⟨h.nil,fun q c e=>by
  obtain ⟨h1,h2⟩:=h.own q c e
  obtain ⟨h3,h4⟩:=fresh_set h1
  exact ⟨fresh_more h3 h4,h2⟩⟩
def tb (n : Nat) (f : Nat → Nat) : List Nat := (List.range n).map f
theorem tb_length (n : Nat) (f : Nat → Nat) : (tb n f).length = n := by simp [tb]
theorem tb_val (n : Nat) (f : Nat → Nat) (v : Nat) (h : v < (tb n f).length) : gI ((tb n f)[v]) = .int .i64 (f v : Int) := by simp [tb]; rfl
theorem tb_set (n : Nat) (f g : Nat → Nat) (v x : Nat) (h : ∀ u, u < n → g u = if u = v then x else f u) : ((tb n f).map gI).set v (gI x) = (tb n g).map gI := by
 rw [← List.map_set]
 congr 1
 refine List.ext_getElem (by simp [tb]) fun u h1 h2=>?_
 have hu:u<n:=by simpa [tb] using h2
 rw [List.getElem_set]
 by_cases e:v=u
 ·rw [if_pos e];simp [tb,h u hu,e]
 ·rw [if_neg e];simp [tb,h u hu];intro h;exact absurd h.symm e
theorem tb_congr {n : Nat} {f g : Nat → Nat} (h : ∀ u, u < n → f u = g u) : tb n f = tb n g := List.map_congr_left fun u hu => h u (List.mem_range.1 hu)
theorem tb_zero (n : Nat) : (tb n fun _ => 0).map gI = List.replicate n (gI 0) := by
 unfold tb;rw [List.map_map]
 refine List.ext_getElem (by simp) fun u h1 h2=>?_
 rw [List.getElem_map,List.getElem_replicate];rfl
/-- How many bytes are below each. -/
def firP (s : ByteArray) : List Nat := tb 257 (clt (numsT s))
set_option maxHeartbeats 2000000 in
theorem fd_firsts (s : ByteArray) (S : Mem) (hs : s.size ≤ 4096) :
  ACall Tryz.prog 18 #[.string s] S (RdL gI (firP s) S):=by
 obtain ⟨c,hc⟩ : ∃ c,c=numsT s:=⟨_,rfl⟩
 have hcl:c.length=s.size:=by rw [hc];exact numsT_length s
 have hci:∀ i (h:i<c.length),c[i]=byT s i:=fun i h=>by subst hc;exact nums_at s i h
 refine ACall.enter (rs:=[.tmp 2]) 39 [(0,.string s)] Tryz.func18 rfl rfl (Nat.le_of_ble_eq_true rfl) rfl ⟨rfl,trivial⟩ ?_
 refine k_a (k_e rfl (k_a ?_))
 refine ARun.makeSlice (lit_lt rfl) ty_sl_26 rfl rfl (by omega) (by omega) (by omega) (by omega) ?_
 intro b6 f6
 have g6:=f6
 repeat ((with_reducible replace g6:=fresh_set g6);obtain ⟨g6,_⟩:=g6)
 refine k_e rfl ?_
 refine k_u [(0,_),(2,_),(3,_)] ?_
 refine AWP.less (S.set b6 ⟨3,(tb 257 (tf1 c 0)).map gI,257⟩) (by rw [f1_start,tb_zero];rw [show madeL [Value.int .i64 0] ((257:Int).toNat*1)=List.replicate 257 (gI 0) by rw [madeL_one];rfl];exact Mem.Less.refl _) ?_
 refine AWP.seq (k_a (k_m rfl ?_))
 refine rC (Calm.lenStr (strT_spec ty_str_9) rfl) ?_
 refine k_m rfl (k_n ?_)
 refine k_u [(0,_),(2,_),(3,_),(8,_),(9,_)] ?_
 refine AWP.block ?_
 refine AWP.loop (X:=Nat) (fun i=>[(0,.string s),(3,.slice (some ⟨b6,0,none⟩) 257 257),(8,.int .i64 s.size),(9,.int .i64 i)]) (fun i=>S.set b6 ⟨3,(tb 257 (tf1 c i)).map gI,257⟩) (fun i=>i≤s.size) (fun i=>s.size-i) (0) ⟨rfl,rfl,rfl,rfl,trivial⟩ (Mem.Less.refl _) (Nat.zero_le _) ?_
 rintro i hi
 (try dsimp only at *)
 have ho3:(S.set b6 ⟨3,(tb 257 (tf1 c i)).map gI,257⟩).own b6=some ⟨3,(tb 257 (tf1 c i)).map gI,257⟩:=Mem.own_set_same _ _ _
 by_cases hc1:i<s.size
 ·refine k_a ?_
  refine rC (Calm.bin rfl rfl b_lss) ?_
  refine k_n (AWP.seq ?_)
  refine k_T rfl ?_
  obtain ⟨x,hx⟩ : ∃ x,x=byT s i:=⟨_,rfl⟩
  have hx256:x<256:=by rw [hx];exact byT_lt s i
  have hfl:=f1_le c i (x+1)
  have htl:=tb_length 257 (tf1 c i)
  have hst:=fun u=>f1_step c i (by omega) u
  rw [hci i (by omega),← hx] at hst
  refine k_k (AWP.seq ?_)
  refine AWP.block ?_
  refine k_a (k_m rfl (k_e rfl ?_))
  refine k_u [(0,_),(3,_),(8,_),(9,_),(10,_),(4,_)] ?_
  refine AWP.region ?_
  refine k_m rfl (k_m rfl (k_m rfl ?_))
  refine rC (Calm.as ((byT_val s i).trans (by rw [← hx])) (Calm.indexStrN (strT_spec ty_str_9) rfl rfl hc1)) ?_
  refine rC (Calm.conv rfl (by first | exact conv_intW Tryz.underlying5 Tryz.underlying3 (IntWalk.i64_in _ (by omega)) | exact conv_intW Tryz.underlying5 Tryz.underlying3 (wrap_nb_i64 _) | exact conv_int Tryz.underlying5 Tryz.underlying3)) ?_
  refine rC (Calm.bin rfl rfl b_add_i64) ?_
  refine rC (Calm.indexS Tryz.underlying26 ty_size_3 rfl rfl (by omega) (by omega)) ?_
  refine rC (Calm.as (tb_val 257 (tf1 c i) (x+1) (by omega)) (Calm.load ty_plain_3 rfl (rd_list (g:=gI) (x+1) (by omega) ho3 (by omega)))) ?_
  refine rC (Calm.bin rfl rfl b_add_i64) ?_
  refine rC (Calm.indexS Tryz.underlying26 ty_size_3 rfl rfl (by omega) (by omega)) ?_
  refine ARun.store1 rfl rfl ty_size_3 rfl own_ (by rw [List.length_map];omega) rfl ?_
  try simp only [k_ms,k_sz,k_ss,k_za,Nat.reduceAdd]
  refine arun_nil ?_
  refine ain_n ?_
  refine athen_n ?_
  refine k_u [(0,_),(3,_),(8,_),(9,_),(10,_),(4,_)] ?_
  simp only [Nat.zero_add,Nat.mul_one]
  refine AWP.region ?_
  refine rC (Calm.bin rfl rfl b_add_i64) ?_
  refine k_m rfl (k_n ?_)
  refine ⟨i+1,?_,?_,?_,?_⟩
  all_goals (try dsimp only)
  ·exact ⟨sq_,sq_,sq_,sq_,trivial⟩
  ·rw [← tb_set 257 (tf1 c i) (tf1 c (i+1)) (x+1) (tf1 c i (x+1)+1) (fun u _=>hst u)];exact Mem.Less.refl _
  ·exact hc1
  ·omega
 ·obtain rfl:i=s.size:=by omega
  refine k_a ?_
  refine rC (Calm.bin rfl rfl b_lss) ?_
  refine k_n (AWP.seq ?_)
  refine k_F rfl ?_
  refine AWP.exit ?_
  refine athen_exit ?_
  refine athen_exit ?_
  refine ain_same ?_
  refine athen_n ?_
  refine AWP.seq (k_a (k_m rfl (k_n ?_)))
  refine AWP.less (S.set b6 ⟨3,(tb 257 (tf2 c 1)).map gI,257⟩) (by rw [tb_congr (fun u _=>f2_start c u),hcl];exact Mem.Less.refl _) ?_
  refine AWP.block ?_
  refine AWP.loop (X:=Nat) (fun i=>[(3,.slice (some ⟨b6,0,none⟩) 257 257),(23,.int .i64 i)]) (fun i=>S.set b6 ⟨3,(tb 257 (tf2 c (i+1))).map gI,257⟩) (fun i=>i≤256) (fun i=>256-i) (0) ⟨rfl,rfl,trivial⟩ (Mem.Less.refl _) (Nat.zero_le _) ?_
  rintro j hi2
  (try dsimp only at *)
  by_cases hc2:j<256
  ·refine k_a ?_
   refine rC (Calm.bin rfl rfl b_lss) ?_
   refine k_n (AWP.seq ?_)
   refine k_T rfl ?_
   have ho3:(S.set b6 ⟨3,(tb 257 (tf2 c (j+1))).map gI,257⟩).own b6=some ⟨3,(tb 257 (tf2 c (j+1))).map gI,257⟩:=Mem.own_set_same _ _ _
   have hf1:=f2_le c (j+1) (j+1)
   have hf2:=f2_le c (j+1) j
   have htl:=tb_length 257 (tf2 c (j+1))
   refine k_k (AWP.seq ?_)
   refine AWP.block ?_
   refine k_a (k_m rfl (k_e rfl ?_))
   refine k_u [(3,_),(23,_),(24,_),(5,_)] ?_
   refine AWP.draw [(0,true),(1,true),(2,true),(3,true),(4,true),(5,true),(6,true),(7,true),(8,true),(9,true),(10,true),(11,false)] [11] mixed (by kernel_rfl) ?_
   refine dP (hc:=fun _=>Calm.move rfl) (h:=?_)
   refine dP (hc:=fun _=>Calm.move rfl) (h:=?_)
   refine dP (hc:=fun _=>Calm.bin rfl rfl b_add_i64) (h:=?_)
   refine dP (hc:=fun _=>Calm.indexS Tryz.underlying26 ty_size_3 rfl rfl (by omega) (by omega)) (h:=?_)
   refine dC (hc:=Calm.as (tb_val 257 (tf2 c (j+1)) (j+1) (by omega)) (Calm.load ty_plain_3 rfl (rd_list (g:=gI) (j+1) (by omega) ho3 (by omega)))) (h:=?_)
   refine dP (hc:=fun _=>Calm.move rfl) (h:=?_)
   refine dP (hc:=fun _=>Calm.move rfl) (h:=?_)
   refine dP (hc:=fun _=>Calm.indexS Tryz.underlying26 ty_size_3 rfl rfl (by omega) (by omega)) (h:=?_)
   refine dC (hc:=Calm.as (tb_val 257 (tf2 c (j+1)) j (by omega)) (Calm.load ty_plain_3 rfl (rd_list (g:=gI) j (by omega) ho3 (by omega)))) (h:=?_)
   refine dP (hc:=fun _=>Calm.bin rfl rfl b_add_i64) (h:=?_)
   refine dP (hc:=fun _=>Calm.indexS Tryz.underlying26 ty_size_3 rfl rfl (by omega) (by omega)) (h:=?_)
   refine draw_only rfl ?_
   refine ARun.store1 rfl rfl ty_size_3 rfl own_ (by rw [List.length_map];omega) rfl ?_
   try simp only [k_ms,k_sz,k_ss,k_za,Nat.reduceAdd]
   refine arun_nil ⟨fun h=>absurd h (by decide),?_⟩
   refine draw_nil ?_
   refine ain_n ?_
   refine athen_n ?_
   refine k_u [(3,_),(23,_),(24,_),(5,_)] ?_
   simp only [Nat.zero_add,Nat.mul_one]
   refine AWP.region ?_
   refine rC (Calm.bin rfl rfl b_add_i64) ?_
   refine k_m rfl (k_n ?_)
   refine ⟨j+1,?_,?_,?_,?_⟩
   all_goals (try dsimp only)
   ·exact ⟨sq_,sq_,trivial⟩
   ·rw [← tb_set 257 (tf2 c (j+1)) (tf2 c (j+1+1)) (j+1) (tf2 c (j+1) (j+1)+tf2 c (j+1) j) (fun u _=>f2_step c j u)];exact Mem.Less.refl _
   ·exact hc2
   ·omega
  ·obtain rfl:j=256:=by omega
   refine k_a ?_
   refine rC (Calm.bin rfl rfl b_lss) ?_
   refine k_n (AWP.seq ?_)
   refine k_F rfl ?_
   have hfin:tb 257 (tf2 c (256+1))=firP s:=by unfold firP;rw [← hc];refine tb_congr fun u hu=>?_;unfold tf2;rw [if_pos hu]
   rw [hfin]
   refine AWP.exit ?_
   refine athen_exit ?_
   refine athen_exit ?_
   refine ain_same ?_
   refine athen_n ?_
   refine k_a (k_m rfl (k_e rfl ?_))
   refine k_u [(3,_),(23,_),(24,_),(2,_)] ?_
   refine AWP.ret ?_
   refine ⟨_,_,⟨_,_,rfl,rfl,rfl⟩,Mem.Less.refl _,?_⟩
   exact ⟨less_,Sl.own1 (g:=gI) (l:=firP s) (Mem.own_set_same _ _ _) List.prefix_rfl (tb_length _ _) (Nat.le_refl _) (by decide)⟩
set_option maxHeartbeats 1000000 in
theorem fd_Clone (v : Value) (l : List Nat) (S : Mem) (hv : IdxR S v l) (hl : l.length ≤ 17592186043904) :
  ACall Tryz.prog 35 #[v] S fun r S'=>∃ o,OkO S o l.length∧r=outV o l.length∧S'=outM S o 3 (l.map gI):=by
 obtain ⟨a,cap,rfl,h1,h2,h3⟩:=id hv
 cases a with
 | none =>
  obtain rfl:l = []:=h3.resolve_right (fun ⟨b,o,e,_⟩=>by cases e)
  refine ACall.enter (rs:=[.tmp 2]) 8 [(0,.slice none 0 cap)] Tryz.func35 rfl rfl (Nat.le_of_ble_eq_true rfl) rfl ⟨rfl,trivial⟩ ?_
  refine k_a (k_e rfl (AWP.seq (k_a (k_m rfl ?_))))
  refine rC (Calm.bin rfl rfl (bin_nil_eql Tryz.underlying26)) ?_
  refine k_n ?_
  refine k_u [(0,_),(2,_),(4,_)] ?_
  refine k_T rfl ?_
  refine k_a (k_e rfl ?_)
  refine k_r ?_
  refine ⟨_,S,⟨_,_,rfl,rfl,rfl⟩,less_,?_⟩
  exact ⟨none,okO_nil _,rfl,rfl⟩
 | some ad =>
  have hsrc:=src_sl hv
  refine ACall.enter (rs:=[.tmp 2]) 8 [(0,.slice (some ad) l.length cap)] Tryz.func35 rfl rfl (Nat.le_of_ble_eq_true rfl) rfl ⟨rfl,trivial⟩ ?_
  refine k_a (k_e rfl (AWP.seq (k_a (k_m rfl ?_))))
  refine rC (Calm.bin rfl rfl (bin_nil_eql Tryz.underlying26)) ?_
  refine k_n ?_
  refine k_u [(0,_),(2,_),(4,_)] ?_
  refine k_F rfl ?_
  refine k_k (k_a ?_)
  refine ARun.build0 (lit_lt rfl) ty_sl_26 ?_
  intro b5 f5
  have g5:=f5
  repeat ((with_reducible replace g5:=fresh_set g5);obtain ⟨g5,_⟩:=g5)
  refine k_m rfl ?_
  refine ARun.appendOK (n:=1) (o:=some (b5,0)) (k:=0) (m:=l.length) (cs:=[]) (news:=l.map gI) (lit_lt rfl) ty_sl_26 rfl rfl rfl (okO_own f5 (Nat.zero_le _)) (appN1 (okO_own f5 (Nat.zero_le _)) rfl) rfl (hsrc.less (Mem.less_set _ _ _ f5.1)) (by rw [List.length_map,Nat.mul_one]) (one_cells (fun _=>rfl) _) (by omega) (by omega) ?_
  intro o1 ho1
  rw [Nat.zero_add] at ho1
  refine k_e rfl ?_
  refine k_u [(0,_),(2,_),(4,_)] ?_
  refine AWP.ret ?_
  refine ⟨_,_,⟨_,_,rfl,rfl,rfl⟩,Mem.Less.refl _,?_⟩
  exact ⟨o1,ho1,by show outV o1 (0+l.length)=_;rw [Nat.zero_add],by rw [outN_one];rfl⟩
/-- How often each byte is ahead of each 16th row. -/
def mkRow (c : List Nat) (p k : Nat) : List Nat := tb 256 (Fd.mk c p (16 * k))
def mksP (c : List Nat) (p : Nat) : List (List Nat) := (List.range (c.length / 16 + 1)).map (mkRow c p)
theorem mksP_length (c : List Nat) (p : Nat) : (mksP c p).length = c.length / 16 + 1 := by simp [mksP]
theorem at_row {s : ByteArray} {p r : Nat} (hr : r ≤ s.size) (hp : p ≤ s.size) (hne : r ≠ p) (x : Nat) : Fd.mk (numsT s) p (r + 1) x = if x = byT s (Ord.atR p r) then Fd.mk (numsT s) p r (byT s (Ord.atR p r)) + 1 else Fd.mk (numsT s) p r x := by
 have hl:Ord.atR p r<(numsT s).length:=by rw [numsT_length];exact Ord.atR_lt hr hp hne
 unfold Fd.mk
 rw [Fd.at_next hne,ceq_take _ _ x hl,nums_at]
 by_cases h:x=byT s (Ord.atR p r)
 ·rw [if_pos h,if_pos h,h]
 ·rw [if_neg h,if_neg h]
set_option maxHeartbeats 4000000 in
theorem fd_marks (s : ByteArray) (p : Nat) (S : Mem) (hs : s.size ≤ 4096) (hp : p ≤ s.size) :
  ACall Tryz.prog 19 #[.string s,.int .i64 (p:Int)] S fun r S'=>S.Less S'∧SlOf IdxR S' r (mksP (numsT s) p):=by
 obtain ⟨c,hc⟩ : ∃ c,c=numsT s:=⟨_,rfl⟩
 have hcl:c.length=s.size:=by rw [hc];exact numsT_length s
 have hml:∀ r x,Fd.mk c p r x≤s.size:=fun r x=>by rw [← hcl];exact Fd.mk_le c p r x
 rw [← hc]
 refine ACall.enter (rs:=[.tmp 4]) 50 [(0,.string s),(1,.int .i64 (p:Int))] Tryz.func19 rfl rfl (Nat.le_of_ble_eq_true rfl) rfl ⟨rfl,rfl,trivial⟩ ?_
 refine k_a (k_e rfl (k_a (k_e rfl (k_a ?_))))
 refine ARun.makeSlice (lit_lt rfl) ty_sl_26 rfl rfl (by omega) (by omega) (by omega) (by omega) ?_
 intro b8 f8
 have g8:=f8
 repeat ((with_reducible replace g8:=fresh_set g8);obtain ⟨g8,_⟩:=g8)
 refine k_e rfl ?_
 refine k_u [(0,_),(1,_),(4,_),(5,_),(6,_)] ?_
 refine AWP.less (S.set b8 ⟨3,(tb 256 (Fd.mk c p 0)).map gI,256⟩) (by rw [tb_congr (fun u _=>Fd.mk_zero c p u),tb_zero];rw [show madeL [Value.int .i64 0] ((256:Int).toNat*1)=List.replicate 256 (gI 0) by rw [madeL_one];rfl];exact Mem.Less.refl _) ?_
 refine AWP.seq (k_a (k_m rfl ?_))
 refine rC (Calm.lenStr (strT_spec ty_str_9) rfl) ?_
 refine rC (Calm.bin rfl rfl b_add_i64) ?_
 refine k_m rfl (k_n ?_)
 refine k_u [(0,_),(1,_),(4,_),(5,_),(6,_),(11,_),(12,_)] ?_
 refine AWP.block ?_
 refine AWP.loop (X:=Nat × Mem × Option (Nat × Nat) × List Value) (fun x=>[(0,.string s),(1,.int .i64 (p:Int)),(5,outV x.2.2.1 x.2.2.2.length),(6,.slice (some ⟨b8,0,none⟩) 256 256),(11,.int .i64 ((s.size:Int)+1)),(12,.int .i64 x.1)]) (fun x=>outM (x.2.1.set b8 ⟨3,(tb 256 (Fd.mk c p x.1)).map gI,256⟩) x.2.2.1 26 x.2.2.2) (fun x=>x.1≤s.size+1∧x.2.2.2.length=(x.1+15) / 16∧S.Less x.2.1∧Fresh x.2.1 b8∧OkO (x.2.1.set b8 ⟨3,(tb 256 (Fd.mk c p x.1)).map gI,256⟩) x.2.2.1 x.2.2.2.length ∧ ∀ j (h:j<x.2.2.2.length),IdxR x.2.1 x.2.2.2[j] (mkRow c p j)) (fun x=>s.size+1-x.1) ((0,S,none,[])) ⟨rfl,rfl,rfl,rfl,rfl,rfl,trivial⟩ (Mem.Less.refl _) (⟨Nat.zero_le _,by show 0=(0+15) / 16;decide,Mem.Less.refl _,f8,okO_nil _,fun j h=>absurd h (Nat.not_lt_zero _)⟩) ?_
 rintro ⟨r,M,o,hs_⟩ ⟨q1,q2,q3,q4,q5,q6⟩
 (try dsimp only at *)
 by_cases hr:r<s.size+1
 ·refine k_a ?_
  refine rC (Calm.bin rfl rfl b_lss) ?_
  refine k_n (AWP.seq ?_)
  refine k_T rfl ?_
  refine k_k (AWP.seq ?_)
  refine AWP.block ?_
  refine k_a (k_m rfl (k_e rfl ?_))
  refine k_u [(0,_),(1,_),(5,_),(6,_),(11,_),(12,_),(13,_),(7,_)] ?_
  refine AWP.seq (k_a (k_m rfl ?_))
  refine rC (Calm.bin rfl rfl b_rem) ?_
  refine rC (Calm.bin rfl rfl b_eql) ?_
  refine k_n ?_
  refine k_u [(0,_),(1,_),(5,_),(6,_),(11,_),(12,_),(13,_),(7,_),(17,_)] ?_
  refine AWP.join (X:=Mem × Option (Nat × Nat) × List Value) (fun x=>[(0,.string s),(1,.int .i64 (p:Int)),(5,outV x.2.1 x.2.2.length),(6,.slice (some ⟨b8,0,none⟩) 256 256),(7,.int .i64 r),(11,.int .i64 ((s.size:Int)+1)),(12,.int .i64 r)]) (fun x=>outM (x.1.set b8 ⟨3,(tb 256 (Fd.mk c p r)).map gI,256⟩) x.2.1 26 x.2.2) (fun x=>x.2.2.length=(r+1+15) / 16∧S.Less x.1∧Fresh x.1 b8∧OkO (x.1.set b8 ⟨3,(tb 256 (Fd.mk c p r)).map gI,256⟩) x.2.1 x.2.2.length ∧ ∀ j (h:j<x.2.2.length),IdxR x.1 x.2.2[j] (mkRow c p j)) ?_ ?_
  ·by_cases h16:r % 16=0
   ·refine k_T rfl ?_
    have hown:(outM (M.set b8 ⟨3,(tb 256 (Fd.mk c p r)).map gI,256⟩) o 26 hs_).own b8=some ⟨3,(tb 256 (Fd.mk c p r)).map gI,256⟩:=own_outM q5 (Mem.own_set_same _ _ _)
    refine AWP.region ?_
    refine k_m rfl (k_m rfl ?_)
    refine ARun.call (lit_lt rfl) go_35 rfl (fd_Clone _ (tb 256 (Fd.mk c p r)) _ (Sl.own1 (g:=gI) (l:=tb 256 (Fd.mk c p r)) hown List.prefix_rfl (tb_length _ _) (Nat.le_refl _) (by decide)) (by rw [tb_length];decide)) ?_
    rintro _ _ ⟨o2,ho2,rfl,rfl⟩
    rw [tb_length] at ho2 ⊢
    obtain ⟨b,cc,rfl⟩:=ho2.some (by decide)
    obtain ⟨fb,hbc⟩:=ho2.own b cc rfl
    have hne:b8≠b:=fb.ne hown
    have hfM:Fresh M b:=(fresh_set (fresh_outM fb).1).1
    have q5':=okO_setc (r:=⟨3,(tb 256 (Fd.mk c p r)).map gI,cc⟩) q5 fb
    rw [show outM (outM (M.set b8 ⟨3,(tb 256 (Fd.mk c p r)).map gI,256⟩) o 26 hs_) (some (b,cc)) 3 ((tb 256 (Fd.mk c p r)).map gI)=outM ((M.set b ⟨3,(tb 256 (Fd.mk c p r)).map gI,cc⟩).set b8 ⟨3,(tb 256 (Fd.mk c p r)).map gI,256⟩) o 26 hs_ from (outM_setc fb).trans (by rw [Mem.set_comm _ _ _ hne])]
    rw [Mem.set_comm _ _ _ hne] at q5'
    have hM2:M.Less (M.set b ⟨3,(tb 256 (Fd.mk c p r)).map gI,cc⟩):=Mem.less_set _ _ _ hfM.1
    have hf2:Fresh (M.set b ⟨3,(tb 256 (Fd.mk c p r)).map gI,cc⟩) b8:=fresh_more q4 hne
    have hix:IdxR (M.set b ⟨3,(tb 256 (Fd.mk c p r)).map gI,cc⟩) (.slice (some ⟨b,0,none⟩) 256 cc) (mkRow c p hs_.length):=by unfold mkRow;rw [show 16*hs_.length=r by omega];exact Sl.own1 (g:=gI) (l:=tb 256 (Fd.mk c p r)) (Mem.own_set_same _ _ _) List.prefix_rfl (tb_length _ _) hbc (by decide)
    generalize M.set b ⟨3,(tb 256 (Fd.mk c p r)).map gI,cc⟩=M2 at *
    refine ARun.build1s (lit_lt rfl) ty_sl_27 rfl rfl ?_
    intro b21 f21
    have g21:=f21
    repeat ((with_reducible replace g21:=fresh_set g21);obtain ⟨g21,_⟩:=g21)
    refine ARun.appendO (lit_lt rfl) ty_sl_27 rfl rfl (appO_of q5' rfl f21) rfl (news:=[_]) rds_ rfl (by omega) (by simp [Value.oneCell',outV]) (by omega) (by omega) ?_
    intro b22 c22 ho3
    refine k_s rfl ?_
    refine arun_nil ?_
    refine ⟨(M2,some (b22,c22),hs_ ++ [.slice (some ⟨b,0,none⟩) 256 cc]),?_,?_,?_⟩
    all_goals (try dsimp only)
    ·exact ⟨by rw [List.length_append,q2];simp;omega,q3.trans hM2,hf2,by rw [List.length_append];exact ho3,heads_step (R:=IdxR) idxR_less (f:=mkRow c p) q6 hM2 hix⟩
    ·exact ⟨sq_,sq_,by rw [List.length_append];rfl,sq_,sq_,sq_,sq_,trivial⟩
    ·exact Mem.Less.refl _
   ·refine k_F rfl ?_
    refine AWP.skip ?_
    refine ⟨(M,o,hs_),?_,?_,?_⟩
    all_goals (try dsimp only)
    ·exact ⟨by omega,q3,q4,q5,q6⟩
    ·exact ⟨sq_,sq_,sq_,sq_,sq_,sq_,sq_,trivial⟩
    ·exact Mem.Less.refl _
  rintro ⟨M2,o2,hs2⟩ ⟨p2,p3,p4,p5,p6⟩
  intro _ _ hs_ hl_
  (try dsimp only at *)
  refine athen_n ?_
  refine AWP.sub _ hs_ (AWP.less _ hl_ ?_)
  clear hs_ hl_
  have hown:(outM (M2.set b8 ⟨3,(tb 256 (Fd.mk c p r)).map gI,256⟩) o2 26 hs2).own b8=some ⟨3,(tb 256 (Fd.mk c p r)).map gI,256⟩:=own_outM p5 (Mem.own_set_same _ _ _)
  have htl:=tb_length 256 (Fd.mk c p r)
  rcases Nat.lt_trichotomy r p with hrp | hrp | hrp
  ·refine AWP.block ?_
   refine k_a (k_m rfl (k_m rfl ?_))
   refine rC (Calm.bin rfl rfl b_lss) ?_
   refine k_e rfl ?_
   refine k_u [(0,_),(1,_),(5,_),(6,_),(7,_),(11,_),(12,_),(23,_)] ?_
   refine k_T rfl ?_
   obtain ⟨x,hx⟩ : ∃ x,x=byT s r:=⟨_,rfl⟩
   have hx256:x<256:=by rw [hx];exact byT_lt s r
   have hst:=fun u=>at_row (s:=s) (p:=p) (r:=r) (by omega) hp (by omega) u
   rw [at_lt hrp,← hx,← hc] at hst
   have hmx:=hml r x
   refine AWP.region ?_
   refine k_m rfl (k_m rfl (k_m rfl ?_))
   refine rC (Calm.as ((byT_val s r).trans (by rw [← hx])) (Calm.indexStrN (strT_spec ty_str_9) rfl rfl (by omega))) ?_
   refine rC (Calm.indexS Tryz.underlying26 ty_size_3 rfl rfl (by omega) (by omega)) ?_
   refine rC (Calm.as (tb_val 256 (Fd.mk c p r) x (by omega)) (Calm.load ty_plain_3 rfl (rd_list (g:=gI) x (by omega) hown (by omega)))) ?_
   refine rC (Calm.bin rfl rfl b_add_i64) ?_
   refine rC (Calm.indexS Tryz.underlying26 ty_size_3 rfl rfl (by omega) (by omega)) ?_
   refine ARun.store1 rfl rfl ty_size_3 rfl hown (by rw [List.length_map];omega) rfl ?_
   try simp only [k_ms,k_sz,k_ss,k_za,Nat.reduceAdd]
   refine arun_nil ?_
   refine ain_n ?_
   refine ain_n ?_
   refine athen_n ?_
   refine k_u [(0,_),(1,_),(5,_),(6,_),(7,_),(11,_),(12,_),(23,_)] ?_
   simp only [Nat.zero_add,Nat.mul_one,Int.toNat_natCast]
   rw [outM_in p5]
   refine AWP.region ?_
   refine rC (Calm.bin rfl rfl b_add_i64) ?_
   refine k_m rfl (k_n ?_)
   refine ⟨(r+1,M2,o2,hs2),?_,?_,?_,?_⟩
   all_goals (try dsimp only)
   ·exact ⟨sq_,sq_,sq_,sq_,sq_,sq_,trivial⟩
   ·rw [← tb_set 256 (Fd.mk c p r) (Fd.mk c p (r+1)) x (Fd.mk c p r x+1) (fun u _=>hst u)];exact Mem.Less.refl _
   ·exact ⟨hr,p2,p3,p4,okO_in p5,p6⟩
   ·omega
  ·subst hrp
   refine AWP.block ?_
   refine k_a (k_m rfl (k_m rfl ?_))
   refine rC (Calm.bin rfl rfl b_lss) ?_
   refine k_e rfl ?_
   refine k_u [(0,_),(1,_),(5,_),(6,_),(7,_),(11,_),(12,_),(23,_)] ?_
   refine k_F rfl ?_
   refine k_a (k_m rfl (k_m rfl ?_))
   refine rC (Calm.bin rfl rfl b_gtr) ?_
   refine k_e rfl ?_
   refine k_u [(0,_),(1,_),(5,_),(6,_),(7,_),(11,_),(12,_),(23,_),(35,_)] ?_
   refine k_F rfl ?_
   have e2:tb 256 (Fd.mk c r (r+1))=tb 256 (Fd.mk c r r):=tb_congr fun u _=>Fd.mk_prim c r u
   refine AWP.skip ?_
   refine ain_n ?_
   refine ain_n ?_
   refine athen_n ?_
   refine AWP.region ?_
   refine rC (Calm.bin rfl rfl b_add_i64) ?_
   refine k_m rfl (k_n ?_)
   refine ⟨(r+1,M2,o2,hs2),?_,?_,?_,?_⟩
   all_goals (try dsimp only)
   ·exact ⟨sq_,sq_,sq_,sq_,sq_,sq_,trivial⟩
   ·rw [e2];exact Mem.Less.refl _
   ·exact ⟨hr,p2,p3,p4,okO_in p5,p6⟩
   ·omega
  ·refine AWP.block ?_
   refine k_a (k_m rfl (k_m rfl ?_))
   refine rC (Calm.bin rfl rfl b_lss) ?_
   refine k_e rfl ?_
   refine k_u [(0,_),(1,_),(5,_),(6,_),(7,_),(11,_),(12,_),(23,_)] ?_
   refine k_F rfl ?_
   refine k_a (k_m rfl (k_m rfl ?_))
   refine rC (Calm.bin rfl rfl b_gtr) ?_
   refine k_e rfl ?_
   refine k_u [(0,_),(1,_),(5,_),(6,_),(7,_),(11,_),(12,_),(23,_),(35,_)] ?_
   refine k_T rfl ?_
   obtain ⟨q,rfl⟩ : ∃ q,r=q+1:=⟨r-1,by omega⟩
   obtain ⟨x,hx⟩ : ∃ x,x=byT s q:=⟨_,rfl⟩
   have hx256:x<256:=by rw [hx];exact byT_lt s q
   have hst:=fun u=>at_row (s:=s) (p:=p) (r:=q+1) (by omega) hp (by omega) u
   rw [at_gt hrp,Nat.add_sub_cancel,← hx,← hc] at hst
   have hmx:=hml (q+1) x
   refine AWP.region ?_
   refine k_m rfl (k_m rfl (k_m rfl ?_))
   refine rC (Calm.bin rfl rfl b_sub_i64) ?_
   refine rC (Calm.as ((show Value.int .u8 (nb (at8 s.data.toList ((((q+1:Nat):Int)-1).toNat))) = .int .u8 (nb (at8 s.data.toList q)) by rw [show (((q+1:Nat):Int)-1).toNat=q by omega]).trans ((byT_val s q).trans (by rw [← hx]))) (Calm.indexStr (strT_spec ty_str_9) rfl rfl (by omega) (by omega))) ?_
   refine rC (Calm.indexS Tryz.underlying26 ty_size_3 rfl rfl (by omega) (by omega)) ?_
   refine rC (Calm.as (tb_val 256 (Fd.mk c p (q+1)) x (by omega)) (Calm.load ty_plain_3 rfl (rd_list (g:=gI) x (by omega) hown (by omega)))) ?_
   refine rC (Calm.bin rfl rfl b_add_i64) ?_
   refine rC (Calm.indexS Tryz.underlying26 ty_size_3 rfl rfl (by omega) (by omega)) ?_
   refine ARun.store1 rfl rfl ty_size_3 rfl hown (by rw [List.length_map];omega) rfl ?_
   try simp only [k_ms,k_sz,k_ss,k_za,Nat.reduceAdd]
   refine arun_nil ?_
   refine ain_n ?_
   refine ain_n ?_
   refine athen_n ?_
   refine k_u [(0,_),(1,_),(5,_),(6,_),(7,_),(11,_),(12,_),(23,_),(35,_)] ?_
   simp only [Nat.zero_add,Nat.mul_one,Int.toNat_natCast]
   rw [outM_in p5]
   refine AWP.region ?_
   refine rC (Calm.bin rfl rfl b_add_i64) ?_
   refine k_m rfl (k_n ?_)
   refine ⟨(q+1+1,M2,o2,hs2),?_,?_,?_,?_⟩
   all_goals (try dsimp only)
   ·exact ⟨sq_,sq_,sq_,sq_,sq_,sq_,trivial⟩
   ·rw [← tb_set 256 (Fd.mk c p (q+1)) (Fd.mk c p (q+1+1)) x (Fd.mk c p (q+1) x+1) (fun u _=>hst u)];exact Mem.Less.refl _
   ·exact ⟨hr,p2,p3,p4,okO_in p5,p6⟩
   ·omega
 ·refine k_a ?_
  refine rC (Calm.bin rfl rfl b_lss) ?_
  refine k_n (AWP.seq ?_)
  refine k_F rfl ?_
  have hb8:=Mem.less_set M b8 ⟨3,(tb 256 (Fd.mk c p r)).map gI,256⟩ q4.1
  refine AWP.exit ?_
  refine athen_exit ?_
  refine athen_exit ?_
  refine ain_same ?_
  refine athen_n ?_
  refine k_a (k_m rfl (k_e rfl ?_))
  refine k_u [(0,_),(1,_),(5,_),(6,_),(11,_),(12,_),(13,_),(4,_)] ?_
  refine AWP.ret ?_
  refine ⟨_,_,⟨_,_,rfl,rfl,rfl⟩,Mem.Less.refl _,?_⟩
  exact ⟨q3.trans (hb8.trans (outM_over q5)),⟨hs_,by rw [mksP_length];omega,by have:=sl_outV (g:=fun x:Value=>x) (e:=26) q5 rfl (by omega);rwa [List.map_id'] at this,fun i hi hi'=>by have:=((q6 i hi').less hb8).less (outM_over (e:=26) (cs:=hs_) q5);simp only [mksP,List.getElem_map,List.getElem_range];exact this⟩⟩
end Go.Proofs.YtgidjbpgkeemiaaGreat
namespace Go.Proofs.YtgidjbpgkeemiaaGreat
open Go.RowKit Go.Shelf
namespace Mv
/-- A block that holds no cells has changed, or a new one has come. -/
theorem Step.grown {S S' : Mem} {w W W' : World} {row : Option Nat} (h : Step S w S' W) (hg : W.grownBy W' row) (hr : ∀ r, row = some r → w.heap.size ≤ r ∧ ∃ o : Obj, W.heap[r]? = some o ∧ o.isCells = false) : Step S w S' W' := by
 have hc:∀ (b:Nat) (cur:Array Value) (e:TypeId) (fz:Nat × Nat),W.heap[b]?=some (.cells cur e fz)→W'.heap[b]?=W.heap[b]?:=fun b cur e fz hb =>
  hg.block b (Array.getElem?_eq_some_iff.1 hb).1 (fun e'=>by obtain ⟨_,o,ho,hn⟩:=hr b e'.symm;rw [hb] at ho;cases ho;cases hn)
 refine ⟨⟨fun b r hb=>?_,fun a v ha=>?_⟩,hg.os.trans h.os,hg.tape.trans h.tape,hg.output.trans h.output,Nat.le_trans h.size hg.size,fun k hk hn=>?_,h.dom,h.ro⟩
 ·obtain ⟨cur,fz,h1,h2⟩:=h.view.own b r hb
  exact ⟨cur,fz,(hc b _ _ _ h1).trans h1,h2⟩
 ·obtain ⟨h1,h2⟩:=h.view.ro a v ha
  exact ⟨cell_kept h1 hg (fun r e=>(hr r e).2),h2⟩
 ·exact (hg.block k (Nat.lt_of_lt_of_le hk h.size) (fun e=>by have:=(hr k e.symm).1;omega)).trans (h.block k hk hn)
/-- What is no cells lies as it lay. -/
theorem Step.others {S S' : Mem} {w w' : World} (hv : View S w) (h : Step S w S' w') : KeepsOthers w w' :=
 ⟨h.size,fun k o hk ho=>(h.block k (Array.getElem?_eq_some_iff.1 hk).1 (by
  cases e:S.own k with
  | none=>rfl
  | some r=>obtain ⟨cur,fz,h1,_⟩:=hv.own k r e;rw [hk] at h1;cases h1;cases ho)).trans hk⟩
theorem View.box {S : Mem} {w : World} (h : View S w) {b : Nat} {T : TypeId} {v : Value} (hb : S.own b = some ⟨T, [v], 1⟩) : w.cell? ⟨b, 0, none⟩ = some v ∧ w.frozen? ⟨b, 0, none⟩ = false := by
 obtain ⟨cur,fz,h1,h2,h3,h4⟩:=h.own b _ hb
 refine ⟨h.rd (a:=⟨b,0,none⟩) (by unfold Mem.rd;simp [hb]),?_⟩
 have:=h4 0 (.inl (by have:=h3;simp only at this;omega))
 simp only [World.frozen?,h1]
 simpa using this
/-- Code of a function that ranges over a function: what is asked of the world at its end. -/
def AWPM (P : Program) (N : Nat) (c : Code) (Q : Mem → World → Exit → Act → World → Prop) (E : Env) (S : Mem) : Prop :=
  ∀ S0 w0 a w, Step S0 w0 S w → Good N E a → c.wpIn Fence.wide 6 P (Q S0 w0) a w
section
variable {P : Program} {N : Nat} {Q : Mem → World → Exit → Act → World → Prop} {E : Env} {S : Mem}
theorem AWPM.seq {x y : Code} (h : AWP P N x (Athen (AWPM P N y Q) fun _ _ _ => False) E S) : AWPM P N (.seq x y) Q E S := fun S0 w0 a w hs hg => by
 refine wpIn_seq (wpIn_mono (wpIn_wide.2 (h a w hg hs.view)) fun e a1 w1 ⟨E1,S1,k,g,s⟩=>?_)
 cases e with
 | normal=>exact k S0 w0 a1 w1 (hs.trans s) g
 | exit id=>exact k.elim
 | goto l=>exact k.elim
 | ret=>exact k.elim
 | panic c=>exact k.elim
 | outgrown=>exact k.elim
theorem AWPM.seqM {x y : Code} (h : AWPM P N x (fun S0 w0 => Exit.then (y.wpIn Fence.wide 6 P (Q S0 w0)) (Q S0 w0)) E S) : AWPM P N (.seq x y) Q E S := fun S0 w0 a w hs hg => wpIn_seq (h S0 w0 a w hs hg)
theorem AWPM.sub (E' : Env) (hs : Sub E' E) {c : Code} (h : AWPM P N c Q E' S) : AWPM P N c Q E S := fun S0 w0 a w hv hg => h S0 w0 a w hv (hg.sub hs)
theorem AWPM.less (S' : Mem) (hl : S'.Less S) {c : Code} (h : AWPM P N c Q E S') : AWPM P N c Q E S := fun S0 w0 a w hv hg => h S0 w0 a w (hv.less hl) hg
end
/-- A function that ranges over a function is entered. -/
theorem ACall.enterM {P : Program} {S : Mem} {f : FuncId} {fn : Func} {c : Code} {args : List Value} {rs : List ResultVar} {R : Value → Mem → Prop} (n : Nat) (E0 : Env) (hf : P.funcs[f]? = some fn) (hb : fn.body = some c) (hn : fn.ntmps = n) (hl : args.length ≤ n) (hr : fn.results = rs.toArray) (hE : SubA E0 args)
  (h:AWPM P n c (fun S0 w0=>bodyPostM Fence.wide 6 P fn (fun e w'=>∃ v S',e = .returned v∧R v S'∧Step S0 w0 S' w')) E0 S):ACall P f args.toArray S R:=fun w hv=>by
 refine (callsIn_wide (n:=6)).1 (callsIn_of_wp_marks hf hb trivial (h S w _ w (Step.refl hv) ⟨?_,rfl,fun d v hd=>?_⟩) rfl)
 ·simp only [Array.size_append,List.size_toArray,Array.size_replicate];omega
 ·have:=hE.lk hd
  have hlt:d<args.length:=by
   rcases Nat.lt_or_ge d args.length with h | h
   ·exact h
   ·rw [List.getElem?_eq_none h] at this;cases this
  simp only [Array.getD_eq_getD_getElem?,Array.getElem?_append,List.size_toArray,hlt,if_true,List.getElem?_toArray,this,Option.getD_some]
end Mv
end Go.Proofs.YtgidjbpgkeemiaaGreat
namespace Go.Proofs.YtgidjbpgkeemiaaGreat
open Go.RowKit
open Mv Num Loser Srt
set_option maxRecDepth 4000
/-- What is known of a book: its column, primary, and what is counted. -/
structure BkK (S : Mem) (b : Nat) (s : ByteArray) (p : Nat) : Prop where
  col : S.Knows ⟨b, 0, none⟩ [.string s]
  pri : S.Knows ⟨b, 1, none⟩ [.int .i64 (p : Int)]
  fir : ∃ vf, S.Knows ⟨b, 2, none⟩ [vf] ∧ IdxR S vf (firP s)
  mks : ∃ vm, S.Knows ⟨b, 3, none⟩ [vm] ∧ SlOf IdxR S vm (mksP (numsT s) p)
theorem BkK.less {S S' : Mem} {b : Nat} {s : ByteArray} {p : Nat} (h : BkK S b s p) (hl : S.Less S') : BkK S' b s p := by
 obtain ⟨h1,h2,⟨vf,h3,h4⟩,⟨vm,h5,h6⟩⟩:=h
 exact ⟨h1.less hl,h2.less hl,⟨vf,h3.less hl,h4.less hl⟩,⟨vm,h5.less hl,h6.less idxR_less hl⟩⟩
set_option maxHeartbeats 1000000 in
theorem fd_byteOf (ii : Int) (b : Nat) (s : ByteArray) (p r : Nat) (S : Mem) (h : BkK S b s p) (ei : ii = r) (hr : r ≤ s.size) (hp : p ≤ s.size) (hne : r ≠ p) (hs : s.size ≤ 4096) :
  ACall Tryz.prog 26 #[.pointer (some ⟨b,0,none⟩),.int .i64 ii] S fun v S'=>v = .int .u8 (byT s (Ord.atR p r):Int)∧S'=S:=by
 subst ei
 have k0:=h.col
 have k1:=h.pri
 by_cases hrp:r<p
 ·rw [at_lt hrp]
  refine ACall.enter (rs:=[.tmp 4]) 27 [(0,.pointer (some ⟨b,0,none⟩)),(1,.int .i64 (r:Int))] Tryz.func26 rfl rfl (Nat.le_of_ble_eq_true rfl) rfl ⟨rfl,rfl,trivial⟩ ?_
  refine k_a (k_e rfl (AWP.seq (k_a (k_m rfl ?_))))
  refine k_m rfl ?_
  refine rC (Calm.nilCheck rfl) ?_
  refine rC (Calm.fieldAddr ty_field_59_0 rfl) ?_
  refine rC (Calm.fieldAddr ty_field_33_1 rfl) ?_
  refine rC (ld_ ty_plain_3 rfl) ?_
  refine rC (Calm.bin rfl rfl b_gtr) ?_
  refine k_n ?_
  refine k_u [(0,_),(1,_),(4,_),(11,_)] ?_
  refine k_F rfl ?_
  refine k_k (k_a (k_m rfl ?_))
  refine rC (Calm.nilCheck rfl) ?_
  refine rC (Calm.fieldAddr ty_field_59_0 rfl) ?_
  refine rC (Calm.fieldAddr ty_field_33_0 rfl) ?_
  refine rC (ld_ ty_plain_9 rfl) ?_
  refine k_m rfl ?_
  refine rC (Calm.as (byT_val s r) (Calm.indexStrN (strT_spec ty_str_9) rfl rfl (by omega))) ?_
  refine k_e rfl ?_
  refine k_u [(0,_),(1,_),(4,_),(11,_)] ?_
  refine AWP.ret ?_
  refine ⟨_,S,⟨_,_,rfl,rfl,rfl⟩,less_,?_⟩
  exact ⟨rfl,rfl⟩
 ·rw [at_gt (by omega)]
  refine ACall.enter (rs:=[.tmp 4]) 27 [(0,.pointer (some ⟨b,0,none⟩)),(1,.int .i64 (r:Int))] Tryz.func26 rfl rfl (Nat.le_of_ble_eq_true rfl) rfl ⟨rfl,rfl,trivial⟩ ?_
  refine k_a (k_e rfl (AWP.seq (k_a (k_m rfl ?_))))
  refine k_m rfl ?_
  refine rC (Calm.nilCheck rfl) ?_
  refine rC (Calm.fieldAddr ty_field_59_0 rfl) ?_
  refine rC (Calm.fieldAddr ty_field_33_1 rfl) ?_
  refine rC (ld_ ty_plain_3 rfl) ?_
  refine rC (Calm.bin rfl rfl b_gtr) ?_
  refine k_n ?_
  refine k_u [(0,_),(1,_),(4,_),(11,_)] ?_
  refine k_T rfl ?_
  refine k_a (k_m rfl ?_)
  refine rC (Calm.nilCheck rfl) ?_
  refine rC (Calm.fieldAddr ty_field_59_0 rfl) ?_
  refine rC (Calm.fieldAddr ty_field_33_0 rfl) ?_
  refine rC (ld_ ty_plain_9 rfl) ?_
  refine k_m rfl ?_
  refine rC (Calm.bin rfl rfl b_sub_i64) ?_
  refine rC (Calm.as ((show Value.int .u8 (nb (at8 s.data.toList (((r:Int)-1).toNat))) = .int .u8 (nb (at8 s.data.toList (r-1))) by rw [show ((r:Int)-1).toNat=r-1 by omega]).trans (byT_val s (r-1))) (Calm.indexStr (strT_spec ty_str_9) rfl rfl (by omega) (by omega))) ?_
  refine k_e rfl ?_
  refine k_u [(0,_),(1,_),(4,_),(11,_)] ?_
  refine k_r ?_
  refine ⟨_,S,⟨_,_,rfl,rfl,rfl⟩,less_,?_⟩
  exact ⟨rfl,rfl⟩
theorem mk_same (s : ByteArray) (p x : Nat) : Fd.mk (numsT s) p (p + 1) x = Fd.mk (numsT s) p p x := Fd.mk_prim _ _ _
set_option maxHeartbeats 2000000 in
theorem fd_ahead (xx ii : Int) (b : Nat) (s : ByteArray) (p x r : Nat) (S : Mem) (h : BkK S b s p) (ex : xx = x) (ei : ii = r) (hx : x < 256) (hr : r ≤ s.size + 1) (hp : p ≤ s.size) (hs : s.size ≤ 4096) :
  ACall Tryz.prog 41 #[.pointer (some ⟨b,0,none⟩),.int .u8 xx,.int .i64 ii] S fun v S'=>v = .int .i64 (Fd.mk (numsT s) p r x:Nat)∧S'=S:=by
 subst ei ex
 have k1:=h.pri
 obtain ⟨vm,k3,hm⟩:=h.mks
 obtain ⟨hs_,hl,⟨ma,mc,rfl,m1,m2,m3⟩,hrow⟩:=hm
 have hlen:=mksP_length (numsT s) p
 rw [numsT_length] at hlen
 have hml:∀ r,Fd.mk (numsT s) p r x≤s.size:=fun r=>by have:=Fd.mk_le (numsT s) p r x;rw [numsT_length] at this;exact this
 have hln:hs_.length=s.size / 16+1:=by omega
 obtain ⟨mb,mo,rfl,hk⟩:=m3.resolve_left (fun e=>by rw [e] at hln;simp at hln)
 obtain ⟨k,hkk⟩ : ∃ k,k=min (r / 16) (s.size / 16):=⟨_,rfl⟩
 have hk1:k<hs_.length:=by omega
 have hk16:16*k≤r:=by omega
 have kh:=hk k hk1
 have hri:=hrow k (by omega) hk1
 simp only [mksP,List.getElem_map,List.getElem_range] at hri
 obtain ⟨ra,rc,er,r1,r2,r3⟩:=hri
 have hrl:(mkRow (numsT s) p k).length=256:=tb_length _ _
 rw [hrl] at er r1 r2
 obtain ⟨rb,ro,rfl,hrk⟩:=r3.resolve_left (fun e=>by rw [e] at hrl;simp at hrl)
 have kx:S.Knows ⟨rb,ro+x*1,none⟩ [.int .i64 (Fd.mk (numsT s) p (16*k) x:Nat)]:=by have:=hrk x (by omega);simp only [mkRow,tb,List.getElem_map,List.getElem_range] at this;exact this
 rw [er] at kh
 rw [hln] at k3
 have hstep:∀ i,i≤s.size→i≠p→Fd.mk (numsT s) p (i+1) x=if x=byT s (Ord.atR p i) then Fd.mk (numsT s) p i x+1 else Fd.mk (numsT s) p i x:=fun i hi hne=>by
  rw [at_row hi hp hne x]
  by_cases e:x=byT s (Ord.atR p i)
  ·rw [if_pos e,if_pos e,← e]
  ·rw [if_neg e,if_neg e]
 have hprim:=mk_same s p x
 obtain ⟨F,hF⟩ : ∃ F:Nat→Nat,F=fun r=>Fd.mk (numsT s) p r x:=⟨_,rfl⟩
 have hFr:∀ r,Fd.mk (numsT s) p r x=F r:=fun r=>by rw [hF]
 simp only [hFr] at hstep hprim hml kx
 rw [hFr]
 clear hrow hk r3 hrk m3 hF hFr
 by_cases hkr:r / 16≤s.size / 16
 ·have hkv:k=r / 16:=by omega
  refine ACall.enter (rs:=[.tmp 6]) 55 [(0,.pointer (some ⟨b,0,none⟩)),(1,.int .u8 (x:Int)),(2,.int .i64 (r:Int))] Tryz.func41 rfl rfl (Nat.le_of_ble_eq_true rfl) rfl ⟨rfl,rfl,rfl,trivial⟩ ?_
  refine k_a (k_e rfl (k_a (k_m rfl ?_)))
  refine rC (Calm.bin rfl rfl b_quo_i64) ?_
  refine k_m rfl ?_
  refine rC (Calm.nilCheck rfl) ?_
  refine rC (Calm.fieldAddr ty_field_59_0 rfl) ?_
  refine rC (Calm.fieldAddr ty_field_33_3 rfl) ?_
  refine rC (ld_ ty_plain_27 rfl) ?_
  refine rC (Calm.lenSl Tryz.underlying27 rfl) ?_
  refine rC (Calm.bin rfl rfl b_sub_i64) ?_
  refine rC ((by first | exact Calm.as (by show _=Value.int .i64 (k:Int);congr 1;omega) (Calm.minL rfl rfl (by omega)) | exact Calm.as (by show _=Value.int .i64 (k:Int);congr 1;omega) (Calm.minR rfl rfl (by omega)))) ?_
  refine k_e rfl ?_
  refine k_u [(0,_),(1,_),(2,_),(6,_),(7,_)] ?_
  refine k_a (k_m rfl ?_)
  refine rC (Calm.nilCheck rfl) ?_
  refine rC (Calm.fieldAddr ty_field_59_0 rfl) ?_
  refine rC (Calm.fieldAddr ty_field_33_3 rfl) ?_
  refine rC (ld_ ty_plain_27 rfl) ?_
  refine k_m rfl ?_
  refine rC (Calm.indexS Tryz.underlying27 ty_size_26 rfl rfl (by omega) (by omega)) ?_
  refine rC (ld_ ty_plain_26 rfl) ?_
  refine k_m rfl ?_
  refine rC (Calm.indexS Tryz.underlying26 ty_size_3 rfl rfl (by omega) (by omega)) ?_
  refine rC (ld_ ty_plain_3 rfl) ?_
  refine k_e rfl ?_
  refine k_u [(0,_),(1,_),(2,_),(6,_),(7,_),(8,_)] ?_
  refine k_u [(0,.pointer (some ⟨b,0,none⟩)),(1,.int .u8 (x:Int)),(2,.int .i64 (r:Int)),(6,.int .i64 0),(7,.int .i64 (k:Int)),(8,.int .i64 (F (16*k):Nat))] ?_
  refine AWP.seq (k_a (k_m rfl ?_))
  refine rC (Calm.bin rfl rfl b_mul_i64) ?_
  refine k_e rfl ?_
  refine k_u [(0,_),(1,_),(2,_),(6,_),(7,_),(8,_),(9,_)] ?_
  refine AWP.block ?_
  refine AWP.loop (X:=Nat) (fun i=>[(0,.pointer (some ⟨b,0,none⟩)),(1,.int .u8 (x:Int)),(2,.int .i64 (r:Int)),(8,.int .i64 (F i:Nat)),(9,.int .i64 i)]) (fun i=>S) (fun i=>i≤r) (fun i=>r-i) (16*k) ⟨rfl,rfl,rfl,rfl,some_int (by omega),trivial⟩ (Mem.Less.refl _) (hk16) ?_
  rintro i hi
  (try dsimp only at *)
  have hFi:=hml i
  by_cases hir:i<r
  ·refine AWP.seq (k_a (k_m rfl (k_m rfl ?_)))
   refine rC (Calm.bin rfl rfl b_lss) ?_
   refine k_n ?_
   refine k_u [(0,_),(1,_),(2,_),(8,_),(9,_),(35,_)] ?_
   refine k_T rfl ?_
   by_cases hip:i=p
   ·subst hip
    refine k_k (AWP.seq ?_)
    refine AWP.block ?_
    refine k_a (k_m rfl (k_m rfl ?_))
    refine rC (Calm.nilCheck rfl) ?_
    refine rC (Calm.fieldAddr ty_field_59_0 rfl) ?_
    refine rC (Calm.fieldAddr ty_field_33_1 rfl) ?_
    refine rC (ld_ ty_plain_3 rfl) ?_
    refine rC (Calm.bin rfl rfl b_neq) ?_
    refine k_m rfl ?_
    first|refine k_q 45 ?_|refine rG 45 (Calm.move rfl) ?_
    first|refine k_q 45 ?_|refine rG 45 (Calm.move rfl) ?_
    first | refine rS 45 ?_ | refine rU 45 ?_
    first|refine k_q 45 ?_|refine rG 45 (Calm.move rfl) ?_
    first|refine k_q 45 ?_|refine rG 45 (Calm.bin rfl rfl b_eql) ?_
    first|refine k_t rfl rfl ?_|refine k_f rfl rfl ?_
    refine k_n ?_
    refine k_u [(0,_),(1,_),(2,_),(8,_),(9,_),(35,_),(51,_)] ?_
    refine k_F rfl ?_
    refine AWP.skip ?_
    refine ain_n ?_
    refine athen_n ?_
    refine AWP.region ?_
    refine k_m rfl ?_
    refine rC (Calm.bin rfl rfl b_add_i64) ?_
    refine k_e rfl ?_
    refine ⟨i+1,?_,?_,?_,?_⟩
    all_goals (try dsimp only)
    ·exact ⟨sq_,sq_,sq_,by rw [hprim];rfl,sq_,trivial⟩
    ·exact Mem.Less.refl _
    ·exact hir
    ·omega
   ·have hst:=hstep i (by omega) hip
    obtain ⟨y,hy⟩ : ∃ y,y=byT s (Ord.atR p i):=⟨_,rfl⟩
    have hy256:y<256:=by rw [hy];exact byT_lt _ _
    rw [← hy] at hst
    refine k_k (AWP.seq ?_)
    refine AWP.block ?_
    refine k_a (k_m rfl (k_m rfl ?_))
    refine rC (Calm.nilCheck rfl) ?_
    refine rC (Calm.fieldAddr ty_field_59_0 rfl) ?_
    refine rC (Calm.fieldAddr ty_field_33_1 rfl) ?_
    refine rC (ld_ ty_plain_3 rfl) ?_
    refine rC (Calm.bin rfl rfl b_neq) ?_
    refine k_m rfl ?_
    first|refine k_q 45 ?_|refine rG 45 (Calm.move rfl) ?_
    first|refine k_q 45 ?_|refine rG 45 (Calm.move rfl) ?_
    refine ARun.callG 7 true 45 rfl (lit_lt rfl) rfl (lit_lt rfl) go_26 rfl (fd_byteOf _ b s p i _ h rfl (by omega) hp hip hs) ?_
    rintro _ S9 ⟨rfl,e9⟩
    rw [e9,← hy];clear e9 S9
    first|refine k_q 45 ?_|refine rG 45 (Calm.move rfl) ?_
    first|refine k_q 45 ?_|refine rG 45 (Calm.bin rfl rfl b_eql) ?_
    first|refine k_t rfl rfl ?_|refine k_f rfl rfl ?_
    refine k_n ?_
    refine k_u [(0,_),(1,_),(2,_),(8,_),(9,_),(35,_),(51,_)] ?_
    by_cases hxy:x=y
    ·rw [if_pos hxy] at hst
     refine k_T rfl ?_
     refine AWP.region ?_
     refine k_m rfl ?_
     refine rC (Calm.bin rfl rfl b_add_i64) ?_
     refine k_s rfl ?_
     refine arun_nil ?_
     refine ain_n ?_
     refine athen_n ?_
     refine k_u [(0,_),(1,_),(2,_),(8,_),(9,_),(35,_),(51,_)] ?_
     refine AWP.region ?_
     refine k_m rfl ?_
     refine rC (Calm.bin rfl rfl b_add_i64) ?_
     refine k_e rfl ?_
     refine ⟨i+1,?_,?_,?_,?_⟩
     all_goals (try dsimp only)
     ·exact ⟨sq_,sq_,sq_,by rw [hst];exact some_int (by omega),sq_,trivial⟩
     ·exact Mem.Less.refl _
     ·exact hir
     ·omega
    ·rw [if_neg hxy] at hst
     refine k_F rfl ?_
     refine AWP.skip ?_
     refine ain_n ?_
     refine athen_n ?_
     refine AWP.region ?_
     refine k_m rfl ?_
     refine rC (Calm.bin rfl rfl b_add_i64) ?_
     refine k_e rfl ?_
     refine ⟨i+1,?_,?_,?_,?_⟩
     all_goals (try dsimp only)
     ·exact ⟨sq_,sq_,sq_,by rw [hst];rfl,sq_,trivial⟩
     ·exact Mem.Less.refl _
     ·exact hir
     ·omega
  ·obtain rfl:i=r:=by omega
   refine AWP.seq (k_a (k_m rfl (k_m rfl ?_)))
   refine rC (Calm.bin rfl rfl b_lss) ?_
   refine k_n ?_
   refine k_u [(0,_),(1,_),(2,_),(8,_),(9,_),(35,_)] ?_
   refine k_F rfl ?_
   refine AWP.exit ?_
   refine athen_exit ?_
   refine athen_exit ?_
   refine ain_same ?_
   refine athen_n ?_
   refine k_a (k_m rfl (k_e rfl ?_))
   refine k_u [(0,_),(1,_),(2,_),(8,_),(9,_),(35,_),(6,_)] ?_
   refine AWP.ret ?_
   refine ⟨_,S,⟨_,_,rfl,rfl,rfl⟩,less_,?_⟩
   exact ⟨rfl,rfl⟩
 ·have hkv:k=s.size / 16:=by omega
  refine ACall.enter (rs:=[.tmp 6]) 55 [(0,.pointer (some ⟨b,0,none⟩)),(1,.int .u8 (x:Int)),(2,.int .i64 (r:Int))] Tryz.func41 rfl rfl (Nat.le_of_ble_eq_true rfl) rfl ⟨rfl,rfl,rfl,trivial⟩ ?_
  refine k_a (k_e rfl (k_a (k_m rfl ?_)))
  refine rC (Calm.bin rfl rfl b_quo_i64) ?_
  refine k_m rfl ?_
  refine rC (Calm.nilCheck rfl) ?_
  refine rC (Calm.fieldAddr ty_field_59_0 rfl) ?_
  refine rC (Calm.fieldAddr ty_field_33_3 rfl) ?_
  refine rC (ld_ ty_plain_27 rfl) ?_
  refine rC (Calm.lenSl Tryz.underlying27 rfl) ?_
  refine rC (Calm.bin rfl rfl b_sub_i64) ?_
  refine rC ((by first | exact Calm.as (by show _=Value.int .i64 (k:Int);congr 1;omega) (Calm.minL rfl rfl (by omega)) | exact Calm.as (by show _=Value.int .i64 (k:Int);congr 1;omega) (Calm.minR rfl rfl (by omega)))) ?_
  refine k_e rfl ?_
  refine k_u [(0,_),(1,_),(2,_),(6,_),(7,_)] ?_
  refine k_a (k_m rfl ?_)
  refine rC (Calm.nilCheck rfl) ?_
  refine rC (Calm.fieldAddr ty_field_59_0 rfl) ?_
  refine rC (Calm.fieldAddr ty_field_33_3 rfl) ?_
  refine rC (ld_ ty_plain_27 rfl) ?_
  refine k_m rfl ?_
  refine rC (Calm.indexS Tryz.underlying27 ty_size_26 rfl rfl (by omega) (by omega)) ?_
  refine rC (ld_ ty_plain_26 rfl) ?_
  refine k_m rfl ?_
  refine rC (Calm.indexS Tryz.underlying26 ty_size_3 rfl rfl (by omega) (by omega)) ?_
  refine rC (ld_ ty_plain_3 rfl) ?_
  refine k_e rfl ?_
  refine k_u [(0,_),(1,_),(2,_),(6,_),(7,_),(8,_)] ?_
  refine k_u [(0,.pointer (some ⟨b,0,none⟩)),(1,.int .u8 (x:Int)),(2,.int .i64 (r:Int)),(6,.int .i64 0),(7,.int .i64 (k:Int)),(8,.int .i64 (F (16*k):Nat))] ?_
  refine AWP.seq (k_a (k_m rfl ?_))
  refine rC (Calm.bin rfl rfl b_mul_i64) ?_
  refine k_e rfl ?_
  refine k_u [(0,_),(1,_),(2,_),(6,_),(7,_),(8,_),(9,_)] ?_
  refine AWP.block ?_
  refine AWP.loop (X:=Nat) (fun i=>[(0,.pointer (some ⟨b,0,none⟩)),(1,.int .u8 (x:Int)),(2,.int .i64 (r:Int)),(8,.int .i64 (F i:Nat)),(9,.int .i64 i)]) (fun i=>S) (fun i=>i≤r) (fun i=>r-i) (16*k) ⟨rfl,rfl,rfl,rfl,some_int (by omega),trivial⟩ (Mem.Less.refl _) (hk16) ?_
  rintro i hi
  (try dsimp only at *)
  have hFi:=hml i
  by_cases hir:i<r
  ·refine AWP.seq (k_a (k_m rfl (k_m rfl ?_)))
   refine rC (Calm.bin rfl rfl b_lss) ?_
   refine k_n ?_
   refine k_u [(0,_),(1,_),(2,_),(8,_),(9,_),(35,_)] ?_
   refine k_T rfl ?_
   by_cases hip:i=p
   ·subst hip
    refine k_k (AWP.seq ?_)
    refine AWP.block ?_
    refine k_a (k_m rfl (k_m rfl ?_))
    refine rC (Calm.nilCheck rfl) ?_
    refine rC (Calm.fieldAddr ty_field_59_0 rfl) ?_
    refine rC (Calm.fieldAddr ty_field_33_1 rfl) ?_
    refine rC (ld_ ty_plain_3 rfl) ?_
    refine rC (Calm.bin rfl rfl b_neq) ?_
    refine k_m rfl ?_
    first|refine k_q 45 ?_|refine rG 45 (Calm.move rfl) ?_
    first|refine k_q 45 ?_|refine rG 45 (Calm.move rfl) ?_
    first | refine rS 45 ?_ | refine rU 45 ?_
    first|refine k_q 45 ?_|refine rG 45 (Calm.move rfl) ?_
    first|refine k_q 45 ?_|refine rG 45 (Calm.bin rfl rfl b_eql) ?_
    first|refine k_t rfl rfl ?_|refine k_f rfl rfl ?_
    refine k_n ?_
    refine k_u [(0,_),(1,_),(2,_),(8,_),(9,_),(35,_),(51,_)] ?_
    refine k_F rfl ?_
    refine AWP.skip ?_
    refine ain_n ?_
    refine athen_n ?_
    refine AWP.region ?_
    refine k_m rfl ?_
    refine rC (Calm.bin rfl rfl b_add_i64) ?_
    refine k_e rfl ?_
    refine ⟨i+1,?_,?_,?_,?_⟩
    all_goals (try dsimp only)
    ·exact ⟨sq_,sq_,sq_,by rw [hprim];rfl,sq_,trivial⟩
    ·exact Mem.Less.refl _
    ·exact hir
    ·omega
   ·have hst:=hstep i (by omega) hip
    obtain ⟨y,hy⟩ : ∃ y,y=byT s (Ord.atR p i):=⟨_,rfl⟩
    have hy256:y<256:=by rw [hy];exact byT_lt _ _
    rw [← hy] at hst
    refine k_k (AWP.seq ?_)
    refine AWP.block ?_
    refine k_a (k_m rfl (k_m rfl ?_))
    refine rC (Calm.nilCheck rfl) ?_
    refine rC (Calm.fieldAddr ty_field_59_0 rfl) ?_
    refine rC (Calm.fieldAddr ty_field_33_1 rfl) ?_
    refine rC (ld_ ty_plain_3 rfl) ?_
    refine rC (Calm.bin rfl rfl b_neq) ?_
    refine k_m rfl ?_
    first|refine k_q 45 ?_|refine rG 45 (Calm.move rfl) ?_
    first|refine k_q 45 ?_|refine rG 45 (Calm.move rfl) ?_
    refine ARun.callG 7 true 45 rfl (lit_lt rfl) rfl (lit_lt rfl) go_26 rfl (fd_byteOf _ b s p i _ h rfl (by omega) hp hip hs) ?_
    rintro _ S9 ⟨rfl,e9⟩
    rw [e9,← hy];clear e9 S9
    first|refine k_q 45 ?_|refine rG 45 (Calm.move rfl) ?_
    first|refine k_q 45 ?_|refine rG 45 (Calm.bin rfl rfl b_eql) ?_
    first|refine k_t rfl rfl ?_|refine k_f rfl rfl ?_
    refine k_n ?_
    refine k_u [(0,_),(1,_),(2,_),(8,_),(9,_),(35,_),(51,_)] ?_
    by_cases hxy:x=y
    ·rw [if_pos hxy] at hst
     refine k_T rfl ?_
     refine AWP.region ?_
     refine k_m rfl ?_
     refine rC (Calm.bin rfl rfl b_add_i64) ?_
     refine k_s rfl ?_
     refine arun_nil ?_
     refine ain_n ?_
     refine athen_n ?_
     refine k_u [(0,_),(1,_),(2,_),(8,_),(9,_),(35,_),(51,_)] ?_
     refine AWP.region ?_
     refine k_m rfl ?_
     refine rC (Calm.bin rfl rfl b_add_i64) ?_
     refine k_e rfl ?_
     refine ⟨i+1,?_,?_,?_,?_⟩
     all_goals (try dsimp only)
     ·exact ⟨sq_,sq_,sq_,by rw [hst];exact some_int (by omega),sq_,trivial⟩
     ·exact Mem.Less.refl _
     ·exact hir
     ·omega
    ·rw [if_neg hxy] at hst
     refine k_F rfl ?_
     refine AWP.skip ?_
     refine ain_n ?_
     refine athen_n ?_
     refine AWP.region ?_
     refine k_m rfl ?_
     refine rC (Calm.bin rfl rfl b_add_i64) ?_
     refine k_e rfl ?_
     refine ⟨i+1,?_,?_,?_,?_⟩
     all_goals (try dsimp only)
     ·exact ⟨sq_,sq_,sq_,by rw [hst];rfl,sq_,trivial⟩
     ·exact Mem.Less.refl _
     ·exact hir
     ·omega
  ·obtain rfl:i=r:=by omega
   refine AWP.seq (k_a (k_m rfl (k_m rfl ?_)))
   refine rC (Calm.bin rfl rfl b_lss) ?_
   refine k_n ?_
   refine k_u [(0,_),(1,_),(2,_),(8,_),(9,_),(35,_)] ?_
   refine k_F rfl ?_
   refine AWP.exit ?_
   refine athen_exit ?_
   refine athen_exit ?_
   refine ain_same ?_
   refine athen_n ?_
   refine k_a (k_m rfl (k_e rfl ?_))
   refine k_u [(0,_),(1,_),(2,_),(8,_),(9,_),(35,_),(6,_)] ?_
   refine AWP.ret ?_
   refine ⟨_,S,⟨_,_,rfl,rfl,rfl⟩,less_,?_⟩
   exact ⟨rfl,rfl⟩
set_option maxHeartbeats 1000000 in
theorem fd_back (ii : Int) (b : Nat) (s : ByteArray) (p r : Nat) (S : Mem) (h : BkK S b s p) (ei : ii = r) (hr : r ≤ s.size) (hp : p ≤ s.size) (hne : r ≠ p) (hs : s.size ≤ 4096) :
  ACall Tryz.prog 37 #[.pointer (some ⟨b,0,none⟩),.int .i64 ii] S fun v S'=>v = .int .i64 (Ord.toR (numsT s) (Ord.atR p r):Nat)∧S'=S:=by
 subst ei
 obtain ⟨vf,k2,hv⟩:=h.fir
 obtain ⟨fa,fc,rfl,f1,f2,f3⟩:=hv
 have hfl:(firP s).length=257:=tb_length _ _
 rw [hfl] at f1 f2 k2
 obtain ⟨fb,fo,rfl,hk⟩:=f3.resolve_left (fun e=>by rw [e] at hfl;simp at hfl)
 obtain ⟨a,ha⟩ : ∃ a,a=Ord.atR p r:=⟨_,rfl⟩
 have hal:a<s.size:=by rw [ha];exact Ord.atR_lt hr hp hne
 obtain ⟨x,hx⟩ : ∃ x,x=byT s a:=⟨_,rfl⟩
 have hx256:x<256:=by rw [hx];exact byT_lt _ _
 have hto:Ord.toR (numsT s) a=1+(clt (numsT s) x+Fd.mk (numsT s) p r x):=by
  rw [toR_eq _ a (by rw [numsT_length];exact hal),byT_getD,← hx];unfold Fd.mk;rw [← ha]
 have kx:S.Knows ⟨fb,fo+x*1,none⟩ [.int .i64 (clt (numsT s) x:Nat)]:=by have:=hk x (by omega);simp only [firP,tb,List.getElem_map,List.getElem_range] at this;exact this
 have hcl:=clt_le (numsT s) x
 have hml:=Fd.mk_le (numsT s) p r x
 rw [numsT_length] at hcl hml
 rw [← ha,hto]
 refine ACall.enter (rs:=[.tmp 4]) 23 [(0,.pointer (some ⟨b,0,none⟩)),(1,.int .i64 (r:Int))] Tryz.func37 rfl rfl (Nat.le_of_ble_eq_true rfl) rfl ⟨rfl,rfl,trivial⟩ ?_
 refine k_a (k_e rfl (k_a (k_m rfl (k_m rfl ?_))))
 refine ARun.call (lit_lt rfl) go_26 rfl (fd_byteOf _ b s p r _ h rfl hr hp hne hs) ?_
 rintro _ S9 ⟨rfl,e9⟩
 rw [e9,← ha,← hx];clear e9 S9
 refine k_e rfl ?_
 refine k_u [(0,_),(1,_),(4,_),(5,_)] ?_
 refine AWP.seq ?_
 refine AWP.draw [(0,true),(1,true),(2,true),(3,true),(4,true),(5,true),(6,true),(7,true),(8,true),(9,true),(10,true),(11,true),(12,false),(13,true),(14,true)] [] mixed (by kernel_rfl) ?_
 refine dP (hc:=fun _=>Calm.move rfl) (h:=?_)
 refine dP (hc:=fun _=>Calm.nilCheck rfl) (h:=?_)
 refine dP (hc:=fun _=>Calm.fieldAddr ty_field_59_0 rfl) (h:=?_)
 refine dP (hc:=fun _=>Calm.fieldAddr ty_field_33_2 rfl) (h:=?_)
 refine dC (hc:=ld_ ty_plain_26 rfl) (h:=?_)
 refine dP (hc:=fun _=>Calm.move rfl) (h:=?_)
 refine dP (hc:=fun _=>Calm.indexS Tryz.underlying26 ty_size_3 rfl rfl (by omega) (by omega)) (h:=?_)
 refine dC (hc:=ld_ ty_plain_3 rfl) (h:=?_)
 refine dP (hc:=fun _=>Calm.bin rfl rfl b_add_i64) (h:=?_)
 refine dP (hc:=fun _=>Calm.move rfl) (h:=?_)
 refine dP (hc:=fun _=>Calm.move rfl) (h:=?_)
 refine dP (hc:=fun _=>Calm.move rfl) (h:=?_)
 refine draw_only rfl ?_
 refine ARun.call (lit_lt rfl) go_41 rfl (fd_ahead _ _ b s p x r _ h rfl rfl hx256 (by omega) hp hs) ?_
 rintro _ S9 ⟨rfl,e9⟩
 rw [e9];clear e9 S9
 refine arun_nil ⟨fun _=>less_,?_⟩
 refine dP (hc:=fun _=>Calm.bin rfl rfl b_add_i64) (h:=?_)
 refine dP (hc:=fun _=>Calm.assign rfl) (h:=?_)
 refine draw_nil ?_
 refine athen_n ?_
 refine k_u [(0,_),(1,_),(4,_),(5,_)] ?_
 refine AWP.ret ?_
 refine ⟨_,S,⟨_,_,rfl,rfl,rfl⟩,less_,?_⟩
 exact ⟨congrArg (fun q:Int=>Value.int .i64 q) (by omega),rfl⟩
theorem fd_rows (b : Nat) (S : Mem) : ACall Tryz.prog 20 #[.pointer (some ⟨b, 0, none⟩)] S fun r S' => ∃ q, Fresh S q ∧ r = .func (.func 36) #[] #[.pointer (some ⟨q, 0, none⟩)] ∧ S' = S.set q ⟨53, [.pointer (some ⟨b, 0, none⟩)], 1⟩ := by
 refine ACall.enter (rs:=[.tmp 2]) 4 [(0,.pointer (some ⟨b,0,none⟩))] Tryz.func20 rfl rfl (Nat.le_of_ble_eq_true rfl) rfl ⟨rfl,trivial⟩ ?_
 refine k_a ?_
 refine ARun.box1 (lit_lt rfl) rfl rfl ?_
 intro b1 f1
 have g1:=f1
 repeat ((with_reducible replace g1:=fresh_set g1);obtain ⟨g1,_⟩:=g1)
 try simp only [k_l1,k_l0,k_za,Nat.reduceAdd]
 refine k_e rfl (k_a ?_)
 refine rC (Calm.makeFunc rfl rfl) ?_
 refine k_e rfl ?_
 refine k_u [(0,_),(1,_),(2,_)] ?_
 refine AWP.ret ?_
 refine ⟨_,_,⟨_,_,rfl,rfl,rfl⟩,Mem.Less.refl _,?_⟩
 exact ⟨b1,f1,rfl,rfl⟩
end Go.Proofs.YtgidjbpgkeemiaaGreat
namespace Go.Proofs.YtgidjbpgkeemiaaGreat
open Go.RowKit Go.Shelf
open Mv Num Loser Srt
attribute [local go_sem] Oper.semAt_some
/-- The k-th row that is told. -/
def rowK (t : List Nat) (k : Nat) : Nat := Fd.rw' t (t.length - k)
theorem rowK_zero (t : List Nat) : rowK t 0 = 0 := (Fd.rw_ok t).zero
theorem rowK_le (t : List Nat) (k : Nat) : rowK t k ≤ t.length := (Fd.rw_ok t).le _ (Nat.sub_le _ _)
theorem rowK_next {t c : List Nat} {p : Nat} (h : Fd.Col t c p) (k : Nat) (hk : k < t.length) : rowK t k ≠ p ∧ Ord.toR c (Ord.atR p (rowK t k)) = rowK t (k + 1) := by
 have hf:Fd.fre t (rowK t k)=t.length-k:=Fd.fre_rw t _ (Nat.sub_le _ _)
 have hne:rowK t k≠p:=fun e=>by
  have:=(h.f0 (rowK_le t k)).1 e
  omega
 refine ⟨hne,?_⟩
 rw [h.back (rowK_le t k) hne,hf,Nat.sub_sub];rfl
set_option maxRecDepth 100000 in
set_option maxHeartbeats 2000000 in
theorem rows_it (l q b : Nat) (s : ByteArray) (p : Nat) (t : List Nat) (hcol : Fd.Col t (numsT s) p) (hs : s.size ≤ 4096) (J Jx : Nat → World → Prop) (W : World)
  (hK:∀ k W,J k W → ∃ M,BkK M b s p∧M.Knows ⟨q,0,none⟩ [.pointer (some ⟨b,0,none⟩)]∧View M W ∧ ∀ W',Step M W M W'→J k W')
  (hY:∀ k W,k<s.size+1→J k W→YieldAt Fence.wide 4 Tryz.prog l #[.int .i64 (rowK t k:Int),.int .i64 ((s.size-k:Nat):Int)] W fun e W'=>(e = .returned (.bool true)∧J (k+1) W')∨(e = .returned (.bool false)∧Jx k W')) (h0:J 0 W) :
  CallsIn Fence.wide 5 Tryz.prog 36 #[.func (.yield l) #[] #[],.pointer (some ⟨q,0,none⟩)] W fun e W'=>(∃ v,e = .returned v)∧(J (s.size+1) W' ∨ ∃ k,k<s.size+1∧Jx k W'):=by
 have htl:t.length=s.size:=by rw [← hcol.len,numsT_length]
 have hple:p≤s.size:=by rw [← htl];exact hcol.le
 have cells:∀ k W,J k W→W.cell? ⟨q,0,none⟩=some (.pointer (some ⟨b,0,none⟩))∧W.cell? ⟨b,0,none⟩=some (.string s):=fun k W hj=>by
  obtain ⟨M,h1,h2,h3,_⟩:=hK k W hj
  have c1:=h2 W h3 0 _ rfl
  have c2:=h1.col W h3 0 _ rfl
  exact ⟨by simpa [Addr.add] using c1,by simpa [Addr.add] using c2⟩
 refine callsIn_of_wp Tryz.func36 rfl trivial ?_ rfl
 simp only [Tryz.ntmps36,List.size_toArray,List.length_cons,List.length_nil,Nat.reduceAdd,Nat.reduceSub,Array.replicate_succ,Array.replicate_zero,List.push_toArray,List.append_toArray,List.nil_append,List.cons_append]
 obtain ⟨hq0,hb0⟩:=cells 0 W h0
 gi_wp2
 gi_loopw [3,4] (fun i j wr=>∃ k:Nat,k≤s.size∧i = .int .i64 (rowK t k:Int)∧j = .int .i64 ((s.size-k:Nat):Int)∧J k wr)
  (fun i j _=>(intOf j+1).toNat)
 case atStart=>exact ⟨0,Nat.zero_le _,by rw [rowK_zero];rfl,rfl,h0⟩
 case round =>
  obtain ⟨k,hk,rfl,rfl,hJs⟩:=hrel
  obtain ⟨fn,tmps,assign,body,hy,hR⟩:=hY k wr (by omega) hJs
  by_cases hlt:k<s.size
  ·gi_wp2
   refine hR.mono ?_
   rintro e W3 (⟨rfl,hJ3⟩ | ⟨rfl,hJx⟩)
   ·obtain ⟨hq3,hb3⟩:=cells (k+1) W3 hJ3
    obtain ⟨M,hB,hkq,hv,hab⟩:=hK (k+1) W3 hJ3
    obtain ⟨hne,hnx⟩:=rowK_next hcol k (by omega)
    have hc:=fd_back (rowK t k:Int) b s p (rowK t k) M hB rfl (by have:=rowK_le t k;omega) hple hne hs
    rw [hnx] at hc
    gi_wp2_with (refine ⟨trivial,?_⟩;gi_at_call 37;refine (callsIn_wide.2 (hc W3 hv)).mono ?_;rintro e' w2 ⟨r,S2,rfl,⟨rfl,hS2⟩,st2⟩;rw [hS2] at st2;clear hS2 S2)
    have e2:((s.size-k:Nat):Int)-1=((s.size-(k+1):Nat):Int):=by omega
    gi_wp2
    go_roundw
    case rel=>exact ⟨k+1,by omega,rfl,by simp;omega,hab _ st2⟩
    case measure=>simp [intOf]
   ·gi_wp2
    go_end0
    exact ⟨⟨_,rfl⟩,.inr ⟨k,by omega,hJx⟩⟩
  ·obtain rfl:k=s.size:=by omega
   have e0:((s.size-s.size:Nat):Int)=0:=by omega
   rw [e0] at hy
   gi_wp2
   refine hR.mono ?_
   rintro e W3 (⟨rfl,hJ3⟩ | ⟨rfl,hJx⟩)
   ·gi_wp2
    go_end0
    exact ⟨⟨_,rfl⟩,.inl hJ3⟩
   ·gi_wp2
    go_end0
    exact ⟨⟨_,rfl⟩,.inr ⟨s.size,by omega,hJx⟩⟩
end Go.Proofs.YtgidjbpgkeemiaaGreat
namespace Go.Proofs.YtgidjbpgkeemiaaGreat
open Go.RowKit Go.Shelf
namespace Mv
/-- Anywhere, or in a round. -/
def FW : Option Nat → Fence
  | none => Fence.wide
  | some l => Fence.wide.inRound l
theorem FW.fn (ro : Option Nat) (f : FuncId) : (FW ro).fn f := by cases ro <;> exact trivial
theorem FW.depth (ro : Option Nat) : (FW ro).depth = none := by cases ro <;> rfl
theorem FW.calls {ro : Option Nat} {n : Nat} {P : Program} {f : FuncId} {args : Array Value} {w : World} {R : Ending → World → Prop} (h : Calls P f args w R) : CallsIn (FW ro) n P f args w R := by
 cases ro with
 | none=>exact callsIn_wide.2 h
 | some l=>exact CallsIn.inRound l (callsIn_wide.2 h)
theorem FW.rows {ro : Option Nat} {n : Nat} {P : Program} {row : String} {args : Array Value} {w : World} {R : Value → World → Prop} (h : Rows P row args w R) : RowsIn (FW ro) n P row args w R := by
 cases ro with
 | none=>exact fun c cs _=>let ⟨v,w',r,s⟩:=h c cs;⟨v,w',r,stepsIn_wide.2 s⟩
 | some l=>exact fun c cs _=>let ⟨v,w',r,s⟩:=h c cs;⟨v,w',r,stepsIn_wide.2 s⟩
/-- An act, its deferred calls put for it. -/
def dd (ds : List Deferred) (a : Act) : Act := { a with defers := ds }
theorem dd_put (ds : List Deferred) (a : Act) (d : Option Tmp) (v : Value) : (dd ds a).put d v = dd ds (a.put d v) := by cases d <;> rfl
def noDefer (o : Oper) : Bool := match o.op with
  | .defer _ => false
  | _ => true
theorem noDefer_ne {o : Oper} (h : noDefer o = true) : ∀ c, o.op ≠ .defer c := fun c e => by unfold noDefer at h; rw [e] at h; cases h
def NQ (p : Act → World → Prop) : Exit → Act → World → Prop := fun e a w => e = .normal ∧ p a w
def GQ (ds : List Deferred) (p : Act → World → Prop) : Exit → Act → World → Prop := fun e a w => e = .normal ∧ ∃ a1, a = dd ds a1 ∧ p a1 w
section
variable {P : Program} {ops : Array Oper} {ro : Option Nat} {n : Nat} {ds : List Deferred} {p : Act → World → Prop}
theorem op_lift {o : Oper} {a : Act} {w : World} {K : Act → World → Prop} {Q : Exit → Act → World → Prop} (ho : noDefer o = true) (hK : ∀ a w, K a w → a.defers = []) (h : o.wp P a w K (NQ p)) :
  o.wpIn (FW ro) n P (dd ds a) w (fun a' w'=>∃ a1,a'=dd ds a1∧K a1 w') Q:=by
 refine ⟨fun f _=>FW.fn ro f,?_⟩
 rw [Oper.semAt_eq _ _ _ (noDefer_ne ho)]
 unfold Oper.wp at h
 show o.uponIn _ _ _ _ _ _ ((execOp a.eval o).run P w)
 generalize (execOp a.eval o).run P w=r at *
 cases r with
 | ok nx w' =>
  cases nx with
  | value v=>exact ⟨_,dd_put _ _ _ _,h⟩
  | skip=>exact ⟨_,dd_put _ _ _ _,h⟩
  | defer d =>
   have h':K _ w':=h
   have h1:=hK _ _ h'
   cases hd:o.dst <;> rw [hd] at h1 <;> cases h1
  | enter f args =>
   refine ⟨fun e=>(by rw [FW.depth] at e;cases e),(FW.calls h).mono fun e w'' he=>?_⟩
   match e,he with
   | .returned v,he=>exact ⟨_,dd_put _ _ _ _,he⟩
   | .panicked c,he=>exact absurd he.1 (by simp)
   | .outgrown,he=>obtain ⟨a1,w1,he,_⟩:=he;cases he
  | row row args =>
   refine ⟨fun e=>(by rw [FW.depth] at e;cases e),RowsIn.mono (FW.rows h) fun v w'' he=>?_⟩
   exact ⟨_,dd_put _ _ _ _,he⟩
  | _=>exact h.elim
 | halt x w' =>
  cases x <;> first
   | exact h.elim
   | exact absurd h.1 (by simp)
theorem no_letsOut : ¬ LetsOut (NQ p) := fun ⟨a, w, h, _⟩ => by cases h
theorem put_defers {a : Act} {d : Option Tmp} {v : Value} : (a.put d v).defers = a.defers := by cases d <;> rfl
theorem op_defers {o : Oper} {a : Act} {w : World} {K : Act → World → Prop} (hK : ∀ a w, K a w → a.defers = []) (h : o.wp P a w K (NQ p)) : a.defers = [] := by
 unfold Oper.wp at h
 generalize (execOp a.eval o).run P w=r at *
 cases r with
 | ok nx w' =>
  cases nx with
  | value v=>have:=hK _ _ h;rw [put_defers] at this;exact this
  | skip=>have:=hK _ _ h;rw [put_defers] at this;exact this
  | defer d =>
   have h':K _ w':=h
   have h1:=hK _ _ h'
   rw [put_defers] at h1;cases h1
  | enter f args =>
   obtain ⟨e,w'',fr,he,_⟩:=h []
   match e,he with
   | .returned v,he=>have:=hK _ _ he;rw [put_defers] at this;exact this
   | .panicked c,he=>exact absurd he.1 (by simp)
   | .outgrown,he=>obtain ⟨a1,w1,he,_⟩:=he;cases he
  | row row args =>
   obtain ⟨v,w'',he,_⟩:=h default []
   have:=hK _ _ he;rw [put_defers] at this;exact this
  | _=>exact h.elim
 | halt x w' =>
  cases x <;> first
   | exact h.elim
   | exact absurd h.1 (by simp)
theorem any_defers (hp : ∀ a w, p a w → a.defers = []) : ∀ (fuel : Nat) (listed : Array Bool) (a : Act) (w : World), wpAny P .any ops (NQ p) fuel listed a w → a.defers = []
 | 0,_,a,w,h=>hp a w h.2.2
 | fuel+1,listed,a,w,h=>by
  cases hr:Region.ready .any ops listed with
  | nil=>exact hp a w (h.1 hr).2
  | cons i is =>
   have h1:=h.2 i (by rw [hr];exact List.mem_cons_self ..)
   have ih:=fun a w=>any_defers hp fuel (listed.setIfInBounds i true) a w
   unfold wpOp at h1
   split at h1
   ·exact ih _ _ h1
   ·split at h1
    ·rcases h1 with h1 | ⟨_,h1⟩
     ·exact op_defers ih h1
     ·exact absurd h1 no_letsOut
    ·have:=ih _ _ h1;rw [put_defers] at this;exact this
theorem any_lift (hp : ∀ a w, p a w → a.defers = []) (hd : ∀ (i : Nat) (o : Oper), ops[i]? = some o → noDefer o = true) : ∀ (fuel : Nat) (listed : Array Bool) (a : Act) (w : World), wpAny P .any ops (NQ p) fuel listed a w → wpAnyIn (FW ro) n P .any ops (GQ ds p) fuel listed (dd ds a) w
 | 0,_,a,w,h=>⟨h.1,rfl,a,rfl,h.2.2⟩
 | fuel+1,listed,a,w,h=>by
  refine ⟨fun hr=>⟨rfl,a,rfl,(h.1 hr).2⟩,fun i hi=>?_⟩
  have h1:=h.2 i hi
  have ih:=fun a w=>any_lift hp hd fuel (listed.setIfInBounds i true) a w
  unfold wpOp at h1
  unfold wpOpIn
  split at h1
  ·rename_i hn;rw [hn];exact ih _ _ h1
  ·rename_i o ho
   rw [ho]
   dsimp only
   split at h1
   ·rename_i hw
    rw [if_pos (show Region.wanted o (yielded ops (dd ds a).tmps)=true from hw)]
    rcases h1 with h1 | ⟨_,h1⟩
    ·exact Oper.wpIn_mono (fun a' w' ⟨a1,e,hk⟩=>by subst e;exact ih _ _ hk) (op_lift (hd i o ho) (fun a w=>any_defers hp fuel _ a w) h1)
    ·exact absurd h1 no_letsOut
   ·rename_i hw
    rw [if_neg (show ¬ Region.wanted o (yielded ops (dd ds a).tmps)=true from hw)]
    exact ⟨fun f _=>FW.fn ro f,by rw [dd_put];exact ih _ _ h1⟩
end
/-! ### Code, in a round or behind one -/
section
variable {P : Program} {N : Nat} {ro : Option Nat} {n : Nat} {ds : List Deferred}
theorem ARun.lift {l : List Oper} {ops : Array Oper} : ∀ {K : Env → Mem → Prop} {E : Env} {S : Mem}, ARun P N ops l K E S → (∀ o ∈ l, noDefer o = true) → ∀ {Q : Exit → Act → World → Prop} (a : Act) (w : World), Good N E a → View S w →
  (∀ a' w',Post N K S w a' w'→Q .normal (dd ds a') w')→wpListIn (FW ro) n P ops Q l (dd ds a) w:=by
 induction l with
 | nil=>exact fun {K E S} h _ Q a w hg hv hq=>hq a w ⟨E,S,h,hg,Step.refl hv⟩
 | cons o os ih =>
  intro K E S h hd Q a w hg hv hq
  have h1:=h a w hg hv
  have next:∀ a1 w1,Post N (fun E' S'=>ARun P N ops os K E' S') S w a1 w1→wpListIn (FW ro) n P ops Q os (dd ds a1) w1:=fun a1 w1 ⟨E1,S1,r,g1,s1⟩ =>
   ih r (fun o ho=>hd o (List.mem_cons_of_mem _ ho)) a1 w1 g1 s1.view fun a' w' ⟨E2,S2,k,g2,s2⟩=>hq a' w' ⟨E2,S2,k,g2,s1.trans s2⟩
  unfold wpListIn
  split
  ·rename_i hw
   rw [if_pos (show Region.wanted o (yielded ops a.tmps)=true from hw)] at h1
   have h2:o.wp P a w (Post N (fun E' S'=>ARun P N ops os K E' S') S w) (NQ fun _ _=>False):=upon_noQ h1
   exact Oper.wpIn_mono (fun a' w' ⟨a1,e,hk⟩=>by subst e;exact next _ _ hk) (op_lift (hd o (List.mem_cons_self ..)) (fun a w ⟨_,_,_,g,_⟩=>g.defers) h2)
  ·rename_i hw
   rw [if_neg (show ¬ Region.wanted o (yielded ops a.tmps)=true from hw)] at h1
   exact ⟨fun f _=>FW.fn ro f,by rw [dd_put];exact next _ _ h1⟩
def GWP (ro : Option Nat) (n : Nat) (ds : List Deferred) (P : Program) (N : Nat) (c : Code) (Q : Exit → Env → Mem → Prop) (E : Env) (S : Mem) : Prop :=
  ∀ a w, Good N E a → View S w → c.wpIn (FW ro) n P (fun e a' w' => ∃ a1, a' = dd ds a1 ∧ Post N (Q e) S w a1 w') (dd ds a) w
variable {Q : Exit → Env → Mem → Prop} {E : Env} {S : Mem}
theorem GWP.mono {c : Code} {Q' : Exit → Env → Mem → Prop} (h : GWP ro n ds P N c Q E S) (hq : ∀ e E S, Q e E S → Q' e E S) : GWP ro n ds P N c Q' E S := fun a w hg hv =>
 wpIn_mono (h a w hg hv) fun e _ _ ⟨a1,e1,x⟩=>⟨a1,e1,x.mono (hq e)⟩
theorem GWP.sub {c : Code} (E' : Env) (hs : Sub E' E) (h : GWP ro n ds P N c Q E' S) : GWP ro n ds P N c Q E S := fun a w hg hv => h a w (hg.sub hs) hv
theorem GWP.less {c : Code} (S' : Mem) (hs : S'.Less S) (h : GWP ro n ds P N c Q E S') : GWP ro n ds P N c Q E S := fun a w hg hv =>
 wpIn_mono (h a w hg (hv.less hs)) fun _ _ _ ⟨a1,e1,E1,S1,k,g,s⟩=>⟨a1,e1,E1,S1,k,g,s.lessL hs⟩
theorem GWP.seq {x y : Code} (h : GWP ro n ds P N x (Athen (GWP ro n ds P N y Q) Q) E S) : GWP ro n ds P N (.seq x y) Q E S := fun a w hg hv => by
 refine wpIn_seq (wpIn_mono (h a w hg hv) fun e a' w1 ⟨a1,e1,E1,S1,k,g,s⟩=>?_)
 subst e1
 cases e with
 | normal=>exact wpIn_mono (k a1 w1 g s.view) fun e a2 w2 ⟨a3,e3,E2,S2,k2,g2,s2⟩=>⟨a3,e3,E2,S2,k2,g2,s.trans s2⟩
 | exit id=>exact ⟨a1,rfl,E1,S1,k,g,s⟩
 | goto l=>exact ⟨a1,rfl,E1,S1,k,g,s⟩
 | ret=>exact ⟨a1,rfl,E1,S1,k,g,s⟩
 | panic c=>exact ⟨a1,rfl,E1,S1,k,g,s⟩
 | outgrown=>exact ⟨a1,rfl,E1,S1,k,g,s⟩
theorem GWP.skip (h : Q .normal E S) : GWP ro n ds P N .skip Q E S := fun a w hg hv => wpIn_skip ⟨a, rfl, E, S, h, hg, Step.refl hv⟩
theorem GWP.ret (h : Q .ret E S) : GWP ro n ds P N .ret Q E S := fun a w hg hv => wpIn_ret ⟨a, rfl, E, S, h, hg, Step.refl hv⟩
theorem GWP.exit {id : Nat} (h : Q (.exit id) E S) : GWP ro n ds P N (.exit id) Q E S := fun a w hg hv => wpIn_exit ⟨a, rfl, E, S, h, hg, Step.refl hv⟩
theorem GWP.cond {c : Operand} {x y : Code} (t : Bool) (hc : ev E c = some (.bool t)) (h : GWP ro n ds P N (if t then x else y) Q E S) : GWP ro n ds P N (.cond c x y) Q E S := fun a w hg hv =>
 wpIn_cond (show (dd ds a).eval c = .bool t from hg.ev hc) (h a w hg hv)
theorem GWP.condT {c : Operand} {x y : Code} {t : Bool} (hc : ev E c = some (.bool t)) (ht : t = true) (h : GWP ro n ds P N x Q E S) : GWP ro n ds P N (.cond c x y) Q E S := GWP.cond t hc (by rw [ht]; exact h)
theorem GWP.condF {c : Operand} {x y : Code} {t : Bool} (hc : ev E c = some (.bool t)) (ht : t = false) (h : GWP ro n ds P N y Q E S) : GWP ro n ds P N (.cond c x y) Q E S := GWP.cond t hc (by rw [ht]; exact h)
theorem GWP.condB {c : Operand} {x y : Code} {t : Bool} (hc : ev E c = some (.bool t)) (h1 : t = true → GWP ro n ds P N x Q E S) (h0 : t = false → GWP ro n ds P N y Q E S) : GWP ro n ds P N (.cond c x y) Q E S := GWP.cond t hc (by cases t; exact h0 rfl; exact h1 rfl)
theorem GWP.block {id : Nat} {c : Code} (h : GWP ro n ds P N c (AinBlock id Q) E S) : GWP ro n ds P N (.block id c) Q E S := fun a w hg hv =>
 wpIn_block (wpIn_mono (h a w hg hv) fun e a' w1 x=>by
  cases e with
  | exit id' =>
   simp only [Exit.inBlock]
   obtain ⟨a1,e1,E1,S1,k,g,s⟩:=x
   simp only [AinBlock] at k
   split
   ·rename_i e;rw [if_pos e] at k;exact ⟨a1,e1,E1,S1,k,g,s⟩
   ·rename_i e;rw [if_neg e] at k;exact ⟨a1,e1,E1,S1,k,g,s⟩
  | normal=>exact x
  | goto l=>exact x
  | ret=>exact x
  | panic c=>exact x
  | outgrown=>exact x)
theorem GWP.region {id : Nat} {l : List Oper} (h : ARun P N l.toArray l (Q .normal) E S) (hd : l.all noDefer = true := by kernel_rfl) : GWP ro n ds P N (.region id l.toArray false) Q E S := fun a w hg hv =>
 wpIn_region_lit (h.lift (fun o ho=>List.all_eq_true.1 hd o ho) a w hg hv fun a' w' x=>⟨a',rfl,x⟩)
theorem q0_NQ {K : Env → Mem → Prop} {w0 : World} {S0 : Mem} : Q0 N K S0 w0 = NQ (Post N K S0 w0) := by
 funext e a w
 cases e <;> simp [Q0,NQ]
theorem any_region {id : Nat} {l : List Oper} {K : Env → Mem → Prop} {a : Act} {w : World} (hm : P.follows .mixedOrders = true) (hd : l.all noDefer = true)
  (h:wpAny P .any l.toArray (Q0 N K S w) l.toArray.size (Array.replicate l.toArray.size false) a { w with drawn:=w.drawn+1 }):(Code.region id l.toArray true).wpIn (FW ro) n P (GQ ds (Post N K S w)) (dd ds a) w:=by
 rw [q0_NQ] at h
 exact wpIn_region_any hm (any_lift (fun a w ⟨_,_,_,g,_⟩=>g.defers) (fun i o ho=>List.all_eq_true.1 hd o (by
  have:=Array.mem_of_getElem? ho
  simpa using this)) _ _ _ _ h)
theorem GWP.draw {id : Nat} {l : List Oper} (st : List (Nat × Bool)) (W : List Nat) (hm : P.follows .mixedOrders = true) (hok : drawOK l st W = true)
  (h:DrawRun P N l W S st (Q .normal) E S) (hd:l.all noDefer=true:=by kernel_rfl):GWP ro n ds P N (.region id l.toArray true) Q E S:=fun a w g hv=>by
 simp only [drawOK,Bool.and_eq_true,beq_iff_eq] at hok
 obtain ⟨⟨h1,h2⟩,h3⟩:=hok
 refine wpIn_mono (any_region hm hd ?_) (fun e a' w' x=>by obtain ⟨rfl,a1,e1,hx⟩:=x;exact ⟨a1,e1,hx⟩)
 refine wpAny_of_G (W:=fun i=>W.contains i) (C:=View S) _ _ _ _ ?_
 have hsz:l.toArray.size=st.length:=by simp [h2]
 rw [hsz]
 have hst:Step S w S { w with drawn:=w.drawn+1 }:=Step.drawn hv _
 exact draw_G h1 st _ E S a _ (by rw [h2];exact h3) (closed_start _ _) h g hst.view hst
theorem GWP.drawG {id : Nat} {l : List Oper} (W : List Nat) (hm : P.follows .mixedOrders = true)
  (h:DG P N l W S (Q .normal) l.length (Array.replicate l.length false) E S) (hd:l.all noDefer=true:=by kernel_rfl):GWP ro n ds P N (.region id l.toArray true) Q E S:=fun a w g hv=>by
 refine wpIn_mono (any_region hm hd ?_) (fun e a' w' x=>by obtain ⟨rfl,a1,e1,hx⟩:=x;exact ⟨a1,e1,hx⟩)
 refine wpAny_of_G (W:=fun i=>W.contains i) (C:=View S) _ _ _ _ ?_
 have hst:Step S w S { w with drawn:=w.drawn+1 }:=Step.drawn hv _
 have:=h w a _ (closed_start _ _) g hst.view hst
 simpa using this
theorem wpIn_loopX {F : Fence} {n : Nat} {P : Program} {c : Code} {Q : Exit → Act → World → Prop} {X : Type} (I : X → Act → World → Prop) (μ : X → Nat) (x0 : X) {a : Act} {w : World} (h0 : I x0 a w)
  (round:∀ x a w,I x a w→c.wpIn F n P (Exit.then (fun a' w'=>∃ x',I x' a' w' ∧ μ x' < μ x) Q) a w):(Code.loop c).wpIn F n P Q a w:=by
 intro b k cs hro hb hr
 have key:∀ j x a w,μ x=j→I x a w → ∃ e a' w',Q e a' w'∧ArrivesIn (Machine.fenced P F) P (lone (b.atR a (.code c :: .inLoop c :: k)) cs w) b k cs e a' w':=by
  intro j
  induction j using Nat.strongRecOn with
  | _ j ih =>
   intro x a w hn hI
   obtain ⟨e,a1,w1,hq,harr⟩:=round x a w hI b (.inLoop c :: k) cs hro hb hr
   cases e with
   | normal =>
    obtain ⟨x',hI1,hlt⟩:=hq
    obtain ⟨e2,a2,w2,hq2,harr2⟩:=ih (μ x') (hn ▸ hlt) x' a1 w1 rfl hI1
    exact ⟨e2,a2,w2,hq2,.of_steps (StepsIn.trans harr (.one (fenced_calm hb hr rfl) stepR_inLoop)) harr2⟩
   | exit id=>exact ⟨_,a1,w1,hq,.pass (x:=.inLoop c) rfl (fun _ _=>.inl (by simp)) harr⟩
   | goto l=>exact ⟨_,a1,w1,hq,.pass (x:=.inLoop c) rfl (fun _ _=>.inl (by simp)) harr⟩
   | ret=>exact ⟨_,a1,w1,hq,.pass (x:=.inLoop c) rfl (fun _ _=>.inl (by simp)) harr⟩
   | panic ch=>exact ⟨_,a1,w1,hq,.pass (x:=.inLoop c) rfl (fun _ _=>.inl (by simp)) harr⟩
   | outgrown=>exact ⟨_,a1,w1,hq,.pass (x:=.inLoop c) rfl (fun _ _=>.inl (by simp)) harr⟩
 obtain ⟨e,a',w',hq,harr⟩:=key _ x0 a w rfl h0
 exact ⟨e,a',w',hq,.of_steps (.one (fenced_calm hb hr rfl) stepR_loop) harr⟩
theorem GWP.loop {X : Type} {c : Code} (st : X → Env) (m : X → Mem) (ok : X → Prop) (μ : X → Nat) (x0 : X) (hE : Sub (st x0) E) (hm : (m x0).Less S) (h0 : ok x0)
  (round:∀ x,ok x→GWP ro n ds P N c (Athen (fun E' S'=>∃ x',Sub (st x') E'∧(m x').Less S'∧ok x' ∧ μ x' < μ x) Q) (st x) (m x)):GWP ro n ds P N (.loop c) Q E S:=fun a w hg hv=>by
 refine wpIn_loopX (fun x a' w'=>∃ a1,a'=dd ds a1∧Good N (st x) a1∧Step S w (m x) w'∧ok x) μ x0 ⟨a,rfl,hg.sub hE,(Step.refl hv).less hm,h0⟩ fun x a' w1 ⟨a1,e1,h1,h2,h3⟩=>?_
 subst e1
 refine wpIn_mono (round x h3 a1 w1 h1 h2.view) fun e a'' w2 ⟨a2,e2,E2,S2,k,g,s⟩=>?_
 subst e2
 cases e with
 | normal=>obtain ⟨x',hs,hm',ho,hl⟩:=k;exact ⟨x',⟨a2,rfl,g.sub hs,(h2.trans s).less hm',ho⟩,hl⟩
 | exit id=>exact ⟨a2,rfl,E2,S2,k,g,h2.trans s⟩
 | goto l=>exact ⟨a2,rfl,E2,S2,k,g,h2.trans s⟩
 | ret=>exact ⟨a2,rfl,E2,S2,k,g,h2.trans s⟩
 | panic c=>exact ⟨a2,rfl,E2,S2,k,g,h2.trans s⟩
 | outgrown=>exact ⟨a2,rfl,E2,S2,k,g,h2.trans s⟩
theorem GWP.join {X : Type} {c : Code} (st : X → Env) (m : X → Mem) (ok : X → Prop) (h : GWP ro n ds P N c (JoinQ Q st m ok) E S) (k : ∀ x, ok x → ∀ E' S', Sub (st x) E' → (m x).Less S' → Q .normal E' S') : GWP ro n ds P N c Q E S :=
 h.mono fun e E' S' hq=>match e,hq with
  | .normal,⟨x,h1,h2,h3⟩=>k x h1 E' S' h2 h3
  | .ret,hq=>hq
  | .exit _,hq=>hq
  | .goto _,hq=>hq
  | .outgrown,hq=>hq
  | .panic _,hq=>hq
/-- The end of a function that has ranged over a function. -/
theorem GWP.endM {fn : Func} {rs : List ResultVar} {R : Value → Mem → Prop} {S0 : Mem} {w0 : World} {c : Code} {D : Nat} {a : Act} {w : World} (hr : fn.results = rs.toArray) (hs : Step S0 w0 S w) (hD : w0.heap.size ≤ D) (hK : w.heap[D]? = some (.deferred (some []))) (hg : Good N E a)
  (h:GWP none n [{ target:=.collected D,args:=#[] }] P N c (Aret P rs R) E S) :
  c.wpIn Fence.wide n P (bodyPostM Fence.wide n P fn (fun e w'=>∃ v S',e = .returned v∧R v S'∧Step S0 w0 S' w')) { a with defers:={ target:=.collected D,args:=#[] } :: [] } w:=by
 refine wpIn_mono (h a w hg hs.view) fun e a' w' ⟨a1,e1,E',S',k,g,s⟩=>?_
 subst e1
 have fin:Aret P rs R .normal E' S'→LeavesInM Fence.wide n P fn (dd [{ target:=.collected D,args:=#[] }] a1).tmps (fun e w'=>∃ v S',e = .returned v∧R v S'∧Step S0 w0 S' w') [{ target:=.collected D,args:=#[] }] .returning w':=fun hk=>by
  obtain ⟨vs,S2,h1,h2,h3⟩:=hk
  have hK':=(s.others hs.view).same _ _ hK rfl
  refine ⟨by simp,.inl ⟨D,_,rfl,run_takeDeferred hK',?_⟩⟩
  have st2:=((hs.trans s).less h2).grown (grownBy_putObj' _ D (.deferred none)) (fun r e=>by cases e;exact ⟨hD,_,hK',rfl⟩)
  have st1:=(hs.trans s).grown (grownBy_putObj' _ D (.deferred none)) (fun r e=>by cases e;exact ⟨hD,_,hK',rfl⟩)
  have hres:=run_results (a:=a1) hr g st1.view h1
  exact ⟨one vs,hres,one vs,S2,rfl,h3,st2⟩
 cases e with
 | normal=>exact fin k
 | ret=>exact fin k
 | exit id=>exact k.elim
 | goto l=>exact k.elim
 | panic c=>exact k.elim
 | outgrown=>exact k.elim
/-- The end of a function that ranges over a function. -/
def QM (P : Program) (fn : Func) (R : Value → Mem → Prop) (S0 : Mem) (w0 : World) : Exit → Act → World → Prop := bodyPostM Fence.wide 6 P fn (fun e w' => ∃ v S', e = .returned v ∧ R v S' ∧ Step S0 w0 S' w')
theorem QM.ret {fn : Func} {rs : List ResultVar} {R : Value → Mem → Prop} {S0 : Mem} {w0 : World} {a : Act} {w : World} (hr : fn.results = rs.toArray) (hs : Step S0 w0 S w) (hg : Good N E a) (h : ∃ vs S', ResV P rs E S vs ∧ S'.Less S ∧ R (one vs) S') : LeavesInM Fence.wide 6 P fn a.tmps (fun e w' => ∃ v S', e = .returned v ∧ R v S' ∧ Step S0 w0 S' w') a.defers .returning w := by
 obtain ⟨vs,S2,h1,h2,h3⟩:=h
 rw [hg.defers]
 exact ⟨one vs,run_results hr hg hs.view h1,one vs,S2,rfl,h3,hs.less h2⟩
/-- Code ahead of the range: it may return. -/
theorem AWPM.seqR {fn : Func} {rs : List ResultVar} {R : Value → Mem → Prop} {x y : Code} (hr : fn.results = rs.toArray) (h : AWP P N x (Athen (AWPM P N y (QM P fn R)) (Aret P rs R)) E S) : AWPM P N (.seq x y) (QM P fn R) E S := fun S0 w0 a w hs hg => by
 refine wpIn_seq (wpIn_mono (wpIn_wide.2 (h a w hg hs.view)) fun e a1 w1 ⟨E1,S1,k,g,s⟩=>?_)
 cases e with
 | normal=>exact k S0 w0 a1 w1 (hs.trans s) g
 | exit id=>exact k.elim
 | goto l=>exact k.elim
 | ret=>exact QM.ret hr (hs.trans s) g k
 | panic c=>exact k.elim
 | outgrown=>exact k.elim
theorem ACall.enterR {S : Mem} {f : FuncId} {fn : Func} {c : Code} {args : List Value} {rs : List ResultVar} {R : Value → Mem → Prop} (n : Nat) (E0 : Env) (hf : P.funcs[f]? = some fn) (hb : fn.body = some c) (hn : fn.ntmps = n) (hl : args.length ≤ n) (hr : fn.results = rs.toArray) (hE : SubA E0 args)
  (h:AWPM P n c (QM P fn R) E0 S):ACall P f args.toArray S R:=ACall.enterM (rs:=rs) n E0 hf hb hn hl hr hE h
end
end Mv
end Go.Proofs.YtgidjbpgkeemiaaGreat
namespace Go.Proofs.YtgidjbpgkeemiaaGreat
open Go.RowKit Go.Shelf
namespace Mv
theorem range_view3 {P : Program} {N : Nat} {g : Operand} {p1 p2 : Tmp} {assign body : Code} {Q : Exit → Act → World → Prop} {a : Act} {w w0 : World} {S0 : Mem} {gf : Nat} {lb : Array Value} (n id : Nat) (v1 v2 : Nat → Value) (I Ix : Nat → Mem → Prop) (E0 : Env)
  (hG:Good N E0 a) (hgv:ev E0 g=some (.func (.func gf) #[] lb)) (eg:∀ args w,(callFunc gf args).run P w = .ok (.enter gf args) w) (hp1:p1<N) (hp2:p2<N)
  (h0:∃ S,I 0 S∧Step S0 w0 S w)
  (hit:∀ (l:Nat) (J Jx:Nat→World→Prop) (W:World),(∀ k W,J k W → ∃ S,I k S∧View S W ∧ ∀ W',Step S W S W'→J k W')→(∀ k W,k<n→J k W→YieldAt Fence.wide 4 P l #[v1 k,v2 k] W fun e W'=>(e = .returned (.bool true)∧J (k+1) W')∨(e = .returned (.bool false)∧Jx k W'))→J 0 W →
   CallsIn Fence.wide 5 P gf (#[.func (.yield l) #[] #[]] ++ lb) W fun e W'=>(∃ v,e = .returned v)∧(J n W' ∨ ∃ k,k<n∧Jx k W'))
  (hround:∀ (l k:Nat) (S:Mem),k<n→I k S→GWP (some l) 4 [] P N assign (Athen (GWP (some l) 4 [] P N body (fun e _ S'=>(e = .normal∧I (k+1) S')∨(e = .exit id∧Ix k S'))) (fun _ _ _=>False)) ((p2,v2 k) :: (p1,v1 k) :: E0) S)
  (hdone:∀ (D:Nat) (S:Mem) (W:World),I n S→Step S0 w0 S W→w0.heap.size≤D→W.heap[D]?=some (.deferred (some []))→Q .normal { a with defers:={ target:=.collected D,args:=#[] } :: [] } W)
  (hstop:∀ (D k:Nat) (S:Mem) (W:World),k<n→Ix k S→Step S0 w0 S W→w0.heap.size≤D→W.heap[D]?=some (.deferred (some []))→Q (.exit id) { a with defers:={ target:=.collected D,args:=#[] } :: [] } W) :
  (Code.rangeFunc g #[p1,p2] assign body).wpIn Fence.wide 6 P Q a w:=by
 have hg:a.eval g = .func (.func gf) #[] lb:=hG.ev hgv
 have had:=hG.defers
 obtain ⟨Sw,hI0,hs0⟩:=h0
 have hle:=hs0.size
 refine wpIn_rangeFunc fun fn hfn=>?_
 obtain ⟨rec,hrec⟩ : ∃ rec:LoopState→Option Code→Loop,rec=fun st pe=>{ state:=st,pending:=pe,fn,tmps:=a.tmps,params:=#[p1,p2],assign,body,defers:=w.heap.size }:=⟨_,rfl⟩
 have put:∀ {S:Mem} {W:World} {l:Nat} {o:Obj} (o':Obj),Step S0 w0 S W→w.heap.size≤l→W.heap[l]?=some o→o.isCells=false→Step S0 w0 S (W.putObj l o'):=fun o' h hl ho hc =>
  h.grown (grownBy_putObj' _ _ o') fun r e=>by cases e;exact ⟨Nat.le_trans hle hl,_,ho,hc⟩
 obtain ⟨J,hJ⟩ : ∃ J:Nat→World→Prop,J=fun k W=>∃ S,I k S∧Step S0 w0 S W∧W.heap[w.heap.size+1]?=some (.loop (rec .ready none))∧W.heap[w.heap.size]?=some (.deferred (some [])):=⟨_,rfl⟩
 obtain ⟨Jx,hJx⟩ : ∃ Jx:Nat→World→Prop,Jx=fun k W=>∃ S,Ix k S∧Step S0 w0 S W∧W.heap[w.heap.size+1]?=some (.loop (rec .done (some (.exit id))))∧W.heap[w.heap.size]?=some (.deferred (some [])):=⟨_,rfl⟩
 obtain ⟨Wl,hWl⟩ : ∃ Wl,Wl=(w.alloc (.deferred (some []))).alloc (.loop (rec .ready none)):=⟨_,rfl⟩
 refine ⟨w.heap.size+1,[{ target:=.collected w.heap.size,args:=#[] }],Wl,{ target:=.fn (.func gf) lb,args:=#[.func (.yield (w.heap.size+1)) #[] #[]] },Wl,gf,#[.func (.yield (w.heap.size+1)) #[] #[]] ++ lb,Wl,by rw [hWl,hrec];exact run_enterLoop_outer _ _ _ _ _,?_,fun _ _=>trivial,?_,fun _=>by omega,?_⟩
 ·simp only [resolve,hg]
  simp [go_sem]
 ·simp [invoke,go_sem,eg]
 ·refine (hit (w.heap.size+1) J Jx _ (fun k W hk=>by
   rw [hJ] at hk ⊢
   obtain ⟨S,h1,h2,hl,hd⟩:=hk
   refine ⟨S,h1,h2.view,fun W' hst=>⟨S,h1,h2.trans hst,?_,?_⟩⟩
   ·exact (hst.others h2.view).same _ _ hl rfl
   ·exact (hst.others h2.view).same _ _ hd rfl) ?_ ?_).mono ?_
  ·intro k W hk hj
   rw [hJ] at hj
   obtain ⟨S,h1,h2,hl,hd⟩:=hj
   have hlt:w.heap.size+1<W.heap.size:=(Array.getElem?_eq_some_iff.1 hl).1
   have hy:=run_yield (P:=P) (args:=#[v1 k,v2 k]) hl (by rw [hrec];rfl)
   rw [hrec] at hy
   have ga:Good N ((p2,v2 k) :: (p1,v1 k) :: E0) { tmps:=((#[p1,p2] : Array Tmp).zip #[v1 k,v2 k]).foldl (fun t (p,v)=>t.setIfInBounds p v) a.tmps,defers:=[] }:=by
    have:=(hG.put hp1 (v1 k)).put hp2 (v2 k)
    have ez:((#[p1,p2] : Array Tmp).zip #[v1 k,v2 k]).foldl (fun t (p,v)=>t.setIfInBounds p v) a.tmps=(a.tmps.setIfInBounds p1 (v1 k)).setIfInBounds p2 (v2 k):=by simp
    rw [ez]
    exact ⟨this.size,rfl,this.at_⟩
   refine ⟨fn,_,assign,body,hy,roundIn_of_wpIn hfn (wpIn_mono (hround (w.heap.size+1) k S hk h1 _ W ga h2.view) fun e a' Wa hq=>?_)⟩
   obtain ⟨a1,ea,E1,S1,kq,g1,sa⟩:=hq
   subst ea
   cases e with
   | exit _=>exact kq.elim
   | goto _=>exact kq.elim
   | ret=>exact kq.elim
   | panic _=>exact kq.elim
   | outgrown=>exact kq.elim
   | normal=>?_
   have hl':=(sa.others h2.view).same _ _ hl rfl
   have hd':=(sa.others h2.view).same _ _ hd rfl
   have h2':=h2.trans sa
   have hlt':w.heap.size+1<Wa.heap.size:=(Array.getElem?_eq_some_iff.1 hl').1
   refine ⟨_,run_beginRound hl' (by rw [hrec]),?_⟩
   obtain ⟨W1,hW1⟩ : ∃ W1,W1=Wa.putObj (w.heap.size+1) (.loop { rec .ready none with state:=.busy }):=⟨_,rfl⟩
   have l1:W1.heap[w.heap.size+1]?=some (.loop { rec .ready none with state:=.busy }):=by rw [hW1];exact World.putObj_heap_same hlt'
   have d1:W1.heap[w.heap.size]?=some (.deferred (some [])):=by rw [hW1];exact (World.putObj_heap_other (by omega)).trans hd'
   have s1:Step S0 w0 S1 W1:=by rw [hW1];exact put _ h2' (by omega) hl' rfl
   rw [← hW1]
   refine wpIn_mono (kq a1 W1 g1 s1.view) fun e a3 W3 hp=>?_
   obtain ⟨a4,ea,E3,S3,hp,g3,s3⟩:=hp
   rcases hp with ⟨rfl,i3⟩ | ⟨rfl,i3⟩
   ·have ho:=s3.others s1.view
    have l3:=ho.same _ _ l1 rfl
    have d3:=ho.same _ _ d1 rfl
    have hlt3:w.heap.size+1<W3.heap.size:=(Array.getElem?_eq_some_iff.1 l3).1
    refine ⟨_,_,run_endRound (P:=P) none l3,.inl ⟨rfl,?_⟩⟩
    rw [hJ]
    refine ⟨S3,i3,put _ (s1.trans s3) (by omega) l3 rfl,?_,(World.putObj_heap_other (by omega)).trans d3⟩
    rw [World.putObj_heap_same hlt3,hrec]
    rfl
   ·have ho:=s3.others s1.view
    have l3:=ho.same _ _ l1 rfl
    have d3:=ho.same _ _ d1 rfl
    have hlt3:w.heap.size+1<W3.heap.size:=(Array.getElem?_eq_some_iff.1 l3).1
    refine ⟨_,_,run_endRound (P:=P) (some (.exit id)) l3,.inr ⟨rfl,?_⟩⟩
    rw [hJx]
    refine ⟨S3,i3,put _ (s1.trans s3) (by omega) l3 rfl,?_,(World.putObj_heap_other (by omega)).trans d3⟩
    rw [World.putObj_heap_same hlt3,hrec]
    rfl
  ·rw [hJ,hWl]
   refine ⟨Sw,hI0,(hs0.grown (World.grownBy_alloc w _ none) (fun r e=>by cases e)).grown (World.grownBy_alloc _ _ none) (fun r e=>by cases e),?_,?_⟩
   ·rw [hrec];have:=World.alloc_heap_new (w.alloc (.deferred (some []))) (.loop { state:=.ready,pending:=none,fn,tmps:=a.tmps,params:=#[p1,p2],assign,body,defers:=w.heap.size });rwa [World.size_alloc] at this
   ·exact (Below.heap_alloc _ _ _ (by simp)).trans (World.alloc_heap_new w _)
  ·rintro e W2 ⟨⟨v,rfl⟩,hj | ⟨k,hkn,hj⟩⟩
   ·rw [hJ] at hj
    obtain ⟨S,h1,h2,hl,hd⟩:=hj
    refine ⟨none,_,by have:=run_endLoop (P:=P) hl (by rw [hrec];simp);rw [hrec] at this;exact this,?_⟩
    rw [had]
    exact hdone _ S _ h1 (put _ h2 (by omega) hl rfl) hle ((World.putObj_heap_other (by omega)).trans hd)
   ·rw [hJx] at hj
    obtain ⟨S,h1,h2,hl,hd⟩:=hj
    refine ⟨some (.exit id),_,by have:=run_endLoop (P:=P) hl (by rw [hrec];simp);rw [hrec] at this;exact this,?_⟩
    rw [had]
    exact wpIn_exit (hstop _ k S _ hkn h1 (put _ h2 (by omega) hl rfl) hle ((World.putObj_heap_other (by omega)).trans hd))
end Mv
end Go.Proofs.YtgidjbpgkeemiaaGreat
