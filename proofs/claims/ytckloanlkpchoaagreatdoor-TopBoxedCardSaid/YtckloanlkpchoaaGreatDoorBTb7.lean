/-
  Texts that belong together: Pk1, Pk2, Rf, Rw, Rf3, RfP, Pk3, Pk4, Gro, Pk5, Cn1, Cn2, VBitsAdd, SBW, SB1, SB2, Cn3, Tb1, Sg2, Sg3.
-/
import Derived.Test.YtckloanlkpchoaaGreatDoorBTb6
import Derived.RangeFuncNested
import Derived.RangeFuncBound
import Derived.RangeFuncCalls
import Derived.RangeFuncLeaves
import Derived.Shelf.RegionOpen
import Derived.WalkKit
import Derived.OwnWalkIn
import Derived.TacticsInMore
import Derived.LoopNIn
import Derived.LoopIn
import Derived.Test.YtckloanlkpchoaaGreatDoorBitsWrite
import Derived.Test.YtckloanlkpchoaaGreatDoorBitsCheck
import Derived.Test.YtckloanlkpchoaaGreatDoorSBLib
import Derived.Test.YtckloanlkpchoaaGreatDoorBitsGet
set_option linter.unusedVariables false
set_option linter.unusedSimpArgs false
set_option linter.unusedSectionVars false
namespace Go.Proofs.YtckloanlkpchoaaGreatDoor
open Go.RowKit
open Mv Srt
set_option maxRecDepth 4000
namespace Pk
def cfW (wt : List Nat) (a b : Nat) : Int := if wt.getD a 0 < wt.getD b 0 then -1 else if wt.getD b 0 < wt.getD a 0 then 1 else 0
theorem lq_cfW (wt : List Nat) : lq (cfW wt) = wlt wt := by
 funext a b
 unfold lq cfW wlt
 rw [Bool.eq_iff_iff]
 simp only [decide_eq_true_eq]
 split
 ·omega
 ·split <;> omega
theorem getD_of {l : List Nat} {i : Nat} (h : i < l.length) : l.getD i 0 = l[i] := by
 rw [List.getD_eq_getElem?_getD,List.getElem?_eq_getElem h];rfl
theorem pk_cmp (a b c : Nat) (wt : List Nat) (v : Value) (S : Mem) (hc : S.Knows ⟨c, 0, none⟩ [v]) (hv : RowR S v wt) (ha : a < wt.length) (hb : b < wt.length) :
  ACall Tryz.prog 119 #[gI a,gI b,.pointer (some ⟨c,0,none⟩)] S fun r S'=>r = .int .i64 (cfW wt a b)∧S'=S:=by
 obtain ⟨pa,ca,rfl,h1,h2,h3⟩:=hv
 obtain ⟨b0,off,rfl,hkn⟩:=h3.resolve_left (fun e=>by subst e;exact absurd ha (Nat.not_lt_zero _))
 have ka:=hkn a ha
 have kb:=hkn b hb
 have e:cfW wt a b=if wt[a]<wt[b] then -1 else if wt[b]<wt[a] then 1 else 0:=by unfold cfW;rw [getD_of ha,getD_of hb]
 rw [e]
 unfold gI
 refine ACall.enter (rs:=[.tmp 5]) 15 [(0,.int .i64 (a:Int)),(1,.int .i64 (b:Int)),(2,.pointer (some ⟨c,0,none⟩))] Tryz.func119 rfl rfl (Nat.le_of_ble_eq_true rfl) rfl ⟨rfl,rfl,rfl,trivial⟩ ?_
 iterate 6 refine s1_ ?_
 refine AWP.draw [(0,true),(1,true),(2,true),(3,true),(4,true),(5,true),(6,true),(7,true),(8,false),(9,true)] [] mixed (by kernel_rfl) ?_
 iterate 8 refine s1_ ?_
 refine draw_only rfl ?_
 refine ca_ rfl (numV_cmp2 _ _ _) ?_
 rintro _ S1 ⟨rfl,h5⟩
 rw [h5];clear h5 S1
 refine arun_nil ⟨fun _=>less_,?_⟩
 iterate 3 refine s1_ ?_
 refine su_ [(0,_),(1,_),(2,_),(5,_)] ?_
 refine s1_ ?_
 refine ⟨_,S,⟨_,_,rfl,rfl,rfl⟩,Mem.Less.refl _,?_⟩
 exact ⟨rfl,rfl⟩
theorem syms_step (wt : List Nat) (i : Nat) : ((List.range (i + 1)).filter fun i => decide (0 < wt.getD i 0)) = ((List.range i).filter fun i => decide (0 < wt.getD i 0)) ++ if 0 < wt.getD i 0 then [i] else [] := by
 rw [List.range_succ,List.filter_append]
 congr 1
 by_cases q:0<wt.getD i 0
 ·rw [if_pos q,List.filter_cons_of_pos (by simpa using q)];rfl
 ·rw [if_neg q,List.filter_cons_of_neg (by simpa using q)];rfl
set_option maxHeartbeats 4000000 in
theorem pk_leaves (v : Value) (wt : List Nat) (S : Mem) (hv : RowR S v wt) (hl : wt.length ≤ 512) (h2 : 1 ≤ (order wt).length) :
  ACall Tryz.prog 84 #[v] S (NewL gI 3 (order wt) S):=by
 have hord:=(order_law wt).2.1
 have hos:order wt=(Sta.stable (lq (cfW wt)) (syms0 wt).toArray (syms0 wt).length).toList:=by rw [lq_cfW];rfl
 have hsl:(syms0 wt).length≤512:=Nat.le_trans (List.length_filter_le _ _) (by rw [List.length_range];exact hl)
 obtain ⟨pa,ca,rfl,h1,h1',h3⟩:=id hv
 refine ACall.enter (rs:=[.tmp 2]) 24 [(0,.slice pa wt.length ca)] Tryz.func84 rfl rfl (Nat.le_of_ble_eq_true rfl) rfl ⟨rfl,trivial⟩ ?_
 iterate 2 refine s1_ ?_
 refine ARun.box1 (lit_lt rfl) rfl rfl ?_
 intro b1 f1
 have g1:=f1
 repeat ((with_reducible replace g1:=fresh_set g1);obtain ⟨g1,_⟩:=g1)
 refine nl_ ?_
 iterate 17 refine s1_ ?_
 refine AWP.loop (X:=Nat × List Nat × Option (Nat × Nat)) (fun x=>[(1,.pointer (some ⟨b1,0,none⟩)),(3,outV x.2.2 x.2.1.length),(6,.slice pa wt.length ca),(7,.int .i64 (wt.length:Int)),(8,.int .i64 (x.1:Int))]) (fun x=>outM (S.set b1 ⟨108,[.slice pa wt.length ca],1⟩) x.2.2 3 (x.2.1.map gI)) (fun x=>x.1≤wt.length∧x.2.1=((List.range x.1).filter fun i=>decide (0<wt.getD i 0))∧OkO (S.set b1 ⟨108,[.slice pa wt.length ca],1⟩) x.2.2 x.2.1.length) (fun x=>wt.length-x.1) ((0,[],none)) ⟨rfl,rfl,rfl,rfl,rfl,trivial⟩ (Mem.Less.refl _) (⟨Nat.zero_le _,rfl,okO_nil _⟩) ?_
 rintro ⟨i,L,o⟩ ⟨k1,k2,k3⟩
 (try dsimp only at *)
 have hLl:L.length≤i:=by rw [k2];exact Nat.le_trans (List.length_filter_le _ _) (by rw [List.length_range];exact Nat.le_refl _)
 by_cases hi:i<wt.length
 ·obtain ⟨b0,off,rfl,hkn⟩:=h3.resolve_left (fun e=>by subst e;exact absurd hi (Nat.not_lt_zero _))
  have ki:=(hkn i hi).less ((show S.Less (S.set b1 ⟨108,[.slice (some ⟨b0,off,none⟩) wt.length ca],1⟩) from less_).trans (outM_over (e:=3) (cs:=L.map gI) k3))
  have hstep:=syms_step wt i
  rw [← k2] at hstep
  iterate 6 refine s1_ ?_
  refine cT_ ?_
  by_cases hw:0<wt.getD i 0
  ·rw [if_pos hw] at hstep
   iterate 13 refine s1_ ?_
   refine su_ [(1,_),(3,_),(6,_),(7,_),(8,_),(9,_),(4,_),(5,_)] ?_
   iterate 3 refine s1_ ?_
   refine rC (Calm.bin rfl rfl (bin_bool (bin_gtr _ _) (decide_eq_true (by rw [getD_of hi] at hw;omega)))) ?_
   iterate 2 refine s1_ ?_
   refine su_ [(1,_),(3,_),(6,_),(7,_),(8,_),(9,_),(4,_),(5,_),(14,_)] ?_
   refine cT_ ?_
   iterate 3 refine s1_ ?_
   refine ARun.build1s (lit_lt rfl) ty_sl_52 rfl rfl ?_
   intro b17 f17
   have g17:=f17
   repeat ((with_reducible replace g17:=fresh_set g17);obtain ⟨g17,_⟩:=g17)
   refine ARun.appendO (lit_lt rfl) ty_sl_52 rfl map_len (appO_of k3 map_len f17) rfl (news:=[_]) rds_ rfl (by omega) (by simp [Value.oneCell']) (by omega) (by omega) ?_
   intro b18 c18 ho2
   iterate 4 refine s1_ ?_
   refine su_ [(1,_),(3,_),(6,_),(7,_),(8,_),(9,_),(4,_),(5,_),(14,_)] ?_
   iterate 5 refine s1_ ?_
   refine ⟨(i+1,L ++ [i],some (b18,c18)),?_,?_,?_,?_⟩
   all_goals (try dsimp only)
   ·exact ⟨sq_,sq_,sq_,sq_,sq_,trivial⟩
   ·exact push_less rfl
   ·exact ⟨hi,hstep.symm,push_ok ho2 rfl⟩
   ·omega
  ·rw [if_neg hw,List.append_nil] at hstep
   iterate 13 refine s1_ ?_
   refine su_ [(1,_),(3,_),(6,_),(7,_),(8,_),(9,_),(4,_),(5,_)] ?_
   iterate 3 refine s1_ ?_
   refine rC (Calm.bin rfl rfl (bin_bool (bin_gtr _ _) (decide_eq_false (by rw [getD_of hi] at hw;omega)))) ?_
   iterate 2 refine s1_ ?_
   refine su_ [(1,_),(3,_),(6,_),(7,_),(8,_),(9,_),(4,_),(5,_),(14,_)] ?_
   refine cF_ ?_
   iterate 8 refine s1_ ?_
   refine ⟨(i+1,L,o),?_,?_,?_,?_⟩
   all_goals (try dsimp only)
   ·exact ⟨sq_,sq_,sq_,sq_,sq_,trivial⟩
   ·exact Mem.Less.refl _
   ·exact ⟨hi,hstep.symm,k3⟩
   ·omega
 ·iterate 6 refine s1_ ?_
  refine cF_ ?_
  obtain rfl:i=wt.length:=by omega
  have k2:L=syms0 wt:=k2
  subst k2
  obtain ⟨bo,co,rfl⟩:=k3.some (by omega)
  obtain ⟨fo,hco⟩:=k3.own bo co rfl
  have hvB:RowR (S.set b1 ⟨108,[.slice pa wt.length ca],1⟩) (.slice pa wt.length ca) wt:=rowR_less _ _ _ _ hv less_
  have o1:(S.set b1 ⟨108,[.slice pa wt.length ca],1⟩).own b1=some ⟨108,[.slice pa wt.length ca],1⟩:=Mem.own_set_same _ _ _
  have hC:CmpC Tryz.prog gI (cfW wt) (fun k=>k<wt.length) 119 [.pointer (some ⟨b1,0,none⟩)] (S.set b1 ⟨108,[.slice pa wt.length ca],1⟩):=⟨fun x=>⟨rfl,rfl⟩,go_119,fun x y hx hy=>pk_cmp x y b1 wt _ _ (Mem.own_knows o1 0 _ (fun j v hj=>by rw [Nat.zero_add];exact hj)) hvB hx hy⟩
  have hR:Rw (fun k=>k<wt.length) (syms0 wt).length (syms0 wt).toArray:=⟨by simp,fun i hi=>by rw [getElem!_pos _ i (by simpa using hi)];have:=List.mem_filter.1 (List.getElem_mem (l:=syms0 wt) hi);simpa using this.1⟩
  have hsort:=soS_stable hC bo co (syms0 wt).length co fo (by omega) (syms0 wt).toArray hR
  rw [show (syms0 wt).toArray.toList=syms0 wt from rfl,← hos] at hsort
  iterate 9 refine s1_ ?_
  refine ca_ rfl (hsort) ?_
  rintro _ _ ⟨rfl,R2⟩
  obtain ⟨fo',hne⟩:=fresh_set fo
  rw [← hord] at hco ⊢
  iterate 2 refine s1_ ?_
  refine su_ [(1,_),(3,_),(6,_),(7,_),(8,_),(9,_)] ?_
  iterate 6 refine s1_ ?_
  refine su_ [(1,_),(3,_),(6,_),(7,_),(8,_),(9,_),(2,_)] ?_
  refine s1_ ?_
  refine ⟨_,outM S (some (bo,co)) 3 ((order wt).map gI),⟨_,_,rfl,rfl,rfl⟩,Less.set less_ _ _,?_⟩
  exact ⟨some (bo,co),⟨fun e=>(by cases e),fun b' c' e=>(by cases e;exact ⟨fo',hco⟩)⟩,rfl,rfl⟩
end Pk
end Go.Proofs.YtckloanlkpchoaaGreatDoor
namespace Go.Proofs.YtckloanlkpchoaaGreatDoor
open Go.RowKit
open Mv Srt
set_option maxRecDepth 4000
namespace Pk
theorem kn_at {S : Mem} {b o : Nat} {cs : List Value} (h : S.Knows ⟨b, o, none⟩ cs) (k : Nat) {v : Value} (hk : cs[k]? = some v) : S.Knows ⟨b, o + k, none⟩ [v] := fun w hv j u hj => by
 cases j with
 | zero =>
  simp only [List.getElem?_cons_zero,Option.some.injEq] at hj
  subst hj
  have:=h w hv k v hk
  rw [addr_add] at this ⊢;exact this
 | succ j=>simp at hj
theorem kn_adr {S : Mem} {b o o' : Nat} {cs : List Value} (h : S.Knows ⟨b, o, none⟩ cs) (e : o = o') : S.Knows ⟨b, o', none⟩ cs := e ▸ h
def itF (x : It) : List Value := [.int .u64 (x.w : Int), .int .i64 x.leaf, .int .i64 (x.first : Int)]
theorem it_len (x : It) : (itF x).length = 3 := rfl
theorem push_it {L : List It} {x : It} {S : Mem} {o : Option (Nat × Nat)} {e : TypeId} {cs : List Value} (h : cs = itF x) : (outN 3 S o e ((L ++ [x]).flatMap itF)).Less (outN 3 S o e (L.flatMap itF ++ cs)) := by
 rw [h,List.flatMap_append];simp only [List.flatMap_cons,List.flatMap_nil,List.append_nil];exact Mem.Less.refl _
/-- A level that is the call's own. -/
def NewIt (l : List It) (S : Mem) (r : Value) (S' : Mem) : Prop := ∃ o, OkO S o l.length ∧ r = outV o l.length ∧ S' = outN 3 S o 214 (l.flatMap itF)
theorem lvs_succ (ws : List Nat) (k c : Nat) : lvs ws k (c + 1) = lvs ws k c ++ [lf ws (k + c)] := by
 unfold lvs
 rw [List.range'_concat,List.map_append];simp
theorem lvs_cons (ws : List Nat) {k n : Nat} (h : k < n) : lvs ws k (n - k) = lf ws k :: lvs ws (k + 1) (n - (k + 1)) := by
 unfold lvs
 rw [show n-k=(n-(k+1))+1 from by omega,List.range'_succ,List.map_cons]
theorem prs_drop {l : List It} {j : Nat} (h : j < l.length / 2) : (prs l).drop j = ((l.map It.w).getD (2 * j) 0 + (l.map It.w).getD (2 * j + 1) 0, 2 * j) :: (prs l).drop (j + 1) := by
 have hl:j<(prs l).length:=by rw [prs_length];exact h
 rw [List.drop_eq_getElem_cons hl,prs_get hl]
set_option maxHeartbeats 8000000 in
theorem pk_next (vw vo vl : Value) (wt ord : List Nat) (l : List It) (S : Mem) (hw : RowR S vw wt) (ho : Sl 1 (fun x => [gI x]) S vo ord) (hl : Sl 3 itF S vl l) (hord : ∀ i ∈ ord, i < wt.length) (h1 : ord.length ≤ 512) (h2 : l.length ≤ 2000) (hb : ∀ x ∈ l, x.w ≤ 1152921504606846976) (hwb : ∀ x ∈ wt, x ≤ 1152921504606846976) :
  ACall Tryz.prog 85 #[vw,vo,vl] S (NewIt (nx (ord.map fun i=>wt.getD i 0) (prs l) 0) S):=by
 obtain ⟨pw,cw,rfl,w1,w2,w3⟩:=id hw
 obtain ⟨po,co,rfl,o1,o2,o3⟩:=id ho
 obtain ⟨pl,cl,rfl,l1,l2,l3⟩:=id hl
 obtain ⟨ws,hws⟩ : ∃ ws,(ord.map fun i=>wt.getD i 0)=ws:=⟨_,rfl⟩
 have hwsl:ws.length=ord.length:=by rw [← hws,List.length_map]
 have hwsg:∀ k (hk:k<ord.length),ws.getD k 0=wt.getD ord[k] 0:=fun k hk=>by
  rw [← hws,List.getD_eq_getElem?_getD,List.getElem?_eq_getElem (by rw [List.length_map];exact hk)];simp
 have hnl:=nx_length ws (prs l) 0 (Nat.zero_le _)
 rw [prs_length,Nat.sub_zero,hwsl] at hnl
 rw [hws]
 refine ACall.enter (rs:=[.tmp 6]) 91 [(0,.slice pw wt.length cw),(1,.slice po ord.length co),(2,.slice pl l.length cl)] Tryz.func85 rfl rfl (Nat.le_of_ble_eq_true rfl) rfl ⟨rfl,rfl,rfl,trivial⟩ ?_
 iterate 13 refine s1_ ?_
 refine ARun.makeSliceP (lit_lt rfl) ty_sl_171 rfl rfl (by omega) (by omega) (by omega) (by omega) ?_
 intro b17 f17
 have g17:=f17
 repeat ((with_reducible replace g17:=fresh_set g17);obtain ⟨g17,_⟩:=g17)
 iterate 3 refine s1_ ?_
 refine su_ [(0,_),(1,_),(2,_),(6,_),(7,_)] ?_
 iterate 12 refine s1_ ?_
 refine AWP.loop (X:=Nat × Nat × List It × Option (Nat × Nat)) (fun x=>[(0,.slice pw wt.length cw),(1,.slice po ord.length co),(2,.slice pl l.length cl),(7,outV x.2.2.2 x.2.2.1.length),(8,.int .i64 ((x.2.1:Nat):Int)),(9,.int .i64 ((2*x.1:Nat):Int))]) (fun x=>outN 3 S x.2.2.2 214 (x.2.2.1.flatMap itF)) (fun x=>x.1≤l.length / 2∧x.2.1≤ord.length∧x.2.2.1 ++ nx ws ((prs l).drop x.1) x.2.1=nx ws (prs l) 0∧OkO S x.2.2.2 x.2.2.1.length) (fun x=>l.length / 2-x.1) ((0,0,[],some (b17,((ord.length:Int)+(l.length:Int) / 2).toNat))) ⟨rfl,rfl,rfl,rfl,rfl,rfl,trivial⟩ (by rw [show madeL [Value.int .u64 0,.int .i64 0,.int .i64 0] (Int.toNat 0*3) = [] from List.eq_nil_of_length_eq_zero (madeL_length _ _)];exact Mem.Less.refl _) (⟨Nat.zero_le _,Nat.zero_le _,rfl,⟨fun e=>(by cases e),fun q c e=>(by cases e;exact ⟨f17,Nat.zero_le _⟩)⟩⟩) ?_
 rintro ⟨j,k,L,o⟩ ⟨k1,k2,k3,k4⟩
 (try dsimp only at *)
 have hL:L.length≤2000:=by have e:=congrArg List.length k3;rw [hnl,List.length_append] at e;omega
 by_cases hj:j<l.length / 2
 ·iterate 10 refine s1_ ?_
  refine su_ [(0,_),(1,_),(2,_),(7,_),(8,_),(9,_),(22,_)] ?_
  refine cT_ ?_
  obtain ⟨lb,lo,rfl,lkn⟩:=l3.resolve_left (fun e=>by rw [e] at hj;simp at hj)
  have ka:=kn_at ((lkn (2*j) (by omega)).less (outN_over (n:=3) (e:=214) (cs:=L.flatMap itF) k4)) 0 rfl
  have kb:=kn_at ((lkn (2*j+1) (by omega)).less (outN_over (n:=3) (e:=214) (cs:=L.flatMap itF) k4)) 0 rfl
  have hba:=hb _ (List.getElem_mem (show 2*j<l.length by omega))
  have hbb:=hb _ (List.getElem_mem (show 2*j+1<l.length by omega))
  obtain ⟨W,hW⟩ : ∃ W,l[2*j].w+l[2*j+1].w=W:=⟨_,rfl⟩
  have hd:=prs_drop hj
  rw [w_getD (by omega),w_getD (by omega),hW] at hd
  rw [hd,nx] at k3
  have hcl:=cntLe_le ws W k
  iterate 5 refine s1_ ?_
  refine AWP.draw [(0,true),(1,true),(2,true),(3,true),(4,true),(5,true),(6,true),(7,true),(8,true),(9,true),(10,true),(11,true),(12,true)] [] mixed (by kernel_rfl) ?_
  iterate 11 refine s1_ ?_
  refine dP (hc:=fun _=>Calm.bin rfl rfl (bin_valS (bin_addW (IntWalk.u64_in _ (by omega))) (b:=((W:Nat):Int)) (by omega))) (h:=?_)
  iterate 3 refine s1_ ?_
  refine su_ [(0,_),(1,_),(2,_),(7,_),(8,_),(9,_),(22,_),(10,_)] ?_
  iterate 2 refine s1_ ?_
  refine AWP.loop (X:=Nat × List It × Option (Nat × Nat)) (fun x=>[(0,.slice pw wt.length cw),(1,.slice po ord.length co),(2,.slice (some ⟨lb,lo,none⟩) l.length cl),(7,outV x.2.2 x.2.1.length),(8,.int .i64 ((k+x.1:Nat):Int)),(9,.int .i64 ((2*j:Nat):Int)),(10,.int .u64 ((W:Nat):Int))]) (fun x=>outN 3 S x.2.2 214 (x.2.1.flatMap itF)) (fun x=>x.1≤cntLe ws W k∧x.2.1=L ++ lvs ws k x.1∧OkO S x.2.2 x.2.1.length) (fun x=>cntLe ws W k-x.1) ((0,L,o)) ⟨rfl,rfl,rfl,rfl,rfl,rfl,rfl,trivial⟩ (Mem.Less.refl _) (⟨Nat.zero_le _,(by show L=L ++ [];rw [List.append_nil]),k4⟩) ?_
  rintro ⟨c,L2,o2⟩ ⟨m1,m2,m3⟩
  (try dsimp only at *)
  have hL2:L2.length≤4000:=by rw [m2,List.length_append,lvs_length];omega
  by_cases hc:c<cntLe ws W k
  ·have hk:k+c<ord.length:=by omega
   have hle:=cntLe_get hc
   obtain ⟨ob,oo,rfl,okn⟩:=o3.resolve_left (fun e=>by subst e;exact absurd hk (Nat.not_lt_zero _))
   have hoi:=hord _ (List.getElem_mem hk)
   obtain ⟨wb,wo,rfl,wkn⟩:=w3.resolve_left (fun e=>by subst e;exact absurd hoi (Nat.not_lt_zero _))
   have ko:Mem.Knows (outN 3 S o2 214 (L2.flatMap itF)) ⟨ob,oo+(k+c)*1,none⟩ [.int .i64 ((ord[k+c] : Nat):Int)]:=(okn (k+c) hk).less (outN_over (n:=3) (e:=214) (cs:=L2.flatMap itF) m3)
   have kw:Mem.Knows (outN 3 S o2 214 (L2.flatMap itF)) ⟨wb,wo+ord[k+c]*1,none⟩ [.int .u64 ((wt[ord[k+c]] : Nat):Int)]:=(wkn _ hoi).less (outN_over (n:=3) (e:=214) (cs:=L2.flatMap itF) m3)
   have hwk:=hwsg (k+c) hk
   rw [getD_of hoi] at hwk
   generalize hq:ord[k+c]=q at *
   have hwq:=hwb _ (List.getElem_mem hoi)
   generalize hu:wt[q]=u at *
   rw [hwk] at hle
   iterate 6 refine s1_ ?_
   refine rC (Calm.bin rfl rfl (bin_bool (bin_lss _ _) (decide_eq_true (by omega)))) ?_
   iterate 9 refine s1_ ?_
   first|refine k_q 41 ?_|refine rG 41 (Calm.bin rfl rfl (bin_bool (bin_leq _ _) (decide_eq_true (by omega)))) ?_
   iterate 3 refine s1_ ?_
   refine su_ [(0,_),(1,_),(2,_),(7,_),(8,_),(9,_),(10,_),(51,_)] ?_
   refine cT_ ?_
   iterate 14 refine s1_ ?_
   refine ARun.build1 (lit_lt rfl) ty_sl_171 rfl (by decide) (by decide) rfl rfl ?_
   intro b62 f62
   have g62:=f62
   repeat ((with_reducible replace g62:=fresh_set g62);obtain ⟨g62,_⟩:=g62)
   refine ARun.appendOK (n:=3) (o:=o2) (k:=L2.length) (m:=1) (cs:=L2.flatMap itF) (news:=[_,_,_]) (lit_lt rfl) ty_sl_171 rfl rfl (flat_length it_len _) m3 ((appN_self m3 (flat_length it_len _)).temp f62) rfl (src_own (Mem.own_set_same _ _ _) List.prefix_rfl) rfl (by simp [Value.oneCell']) (by omega) (by omega) ?_
   intro o3' ho3
   iterate 7 refine s1_ ?_
   refine ⟨(c+1,L2 ++ [lf ws (k+c)],o3'),?_,?_,?_,?_⟩
   all_goals (try dsimp only)
   ·exact ⟨rfl,rfl,rfl,(by rw [List.length_append];rfl),sq_,rfl,rfl,trivial⟩
   ·exact push_it (by unfold itF lf;simp only;rw [hwk];first | rfl | (congr 1))
   ·exact ⟨hc,by rw [m2,lvs_succ,List.append_assoc],by rw [List.length_append];exact ho3⟩
   ·omega
  ·obtain rfl:c=cntLe ws W k:=by omega
   by_cases hk:k+cntLe ws W k<ord.length
   ·have hgt:=cntLe_next (ws:=ws) (w:=W) (k:=k) (by omega)
    obtain ⟨ob,oo,rfl,okn⟩:=o3.resolve_left (fun e=>by subst e;exact absurd hk (Nat.not_lt_zero _))
    have hoi:=hord _ (List.getElem_mem hk)
    obtain ⟨wb,wo,rfl,wkn⟩:=w3.resolve_left (fun e=>by subst e;exact absurd hoi (Nat.not_lt_zero _))
    have ko:Mem.Knows (outN 3 S o2 214 (L2.flatMap itF)) ⟨ob,oo+(k+cntLe ws W k)*1,none⟩ [.int .i64 ((ord[k+cntLe ws W k] : Nat):Int)]:=(okn (k+cntLe ws W k) hk).less (outN_over (n:=3) (e:=214) (cs:=L2.flatMap itF) m3)
    have kw:Mem.Knows (outN 3 S o2 214 (L2.flatMap itF)) ⟨wb,wo+ord[k+cntLe ws W k]*1,none⟩ [.int .u64 ((wt[ord[k+cntLe ws W k]] : Nat):Int)]:=(wkn _ hoi).less (outN_over (n:=3) (e:=214) (cs:=L2.flatMap itF) m3)
    have hwk:=hwsg (k+cntLe ws W k) hk
    rw [getD_of hoi] at hwk
    generalize hq:ord[k+cntLe ws W k]=q at *
    have hwq:=hwb _ (List.getElem_mem hoi)
    generalize hu:wt[q]=u at *
    rw [hwk] at hgt
    iterate 6 refine s1_ ?_
    refine rC (Calm.bin rfl rfl (bin_bool (bin_lss _ _) (decide_eq_true (by omega)))) ?_
    iterate 9 refine s1_ ?_
    first|refine k_q 41 ?_|refine rG 41 (Calm.bin rfl rfl (bin_bool (bin_leq _ _) (decide_eq_false (by omega)))) ?_
    iterate 3 refine s1_ ?_
    refine su_ [(0,_),(1,_),(2,_),(7,_),(8,_),(9,_),(10,_),(51,_)] ?_
    refine cF_ ?_
    iterate 10 refine s1_ ?_
    refine ARun.build1 (lit_lt rfl) ty_sl_171 rfl (by decide) (by decide) rfl rfl ?_
    intro b70 f70
    have g70:=f70
    repeat ((with_reducible replace g70:=fresh_set g70);obtain ⟨g70,_⟩:=g70)
    refine ARun.appendOK (n:=3) (o:=o2) (k:=L2.length) (m:=1) (cs:=L2.flatMap itF) (news:=[_,_,_]) (lit_lt rfl) ty_sl_171 rfl rfl (flat_length it_len _) m3 ((appN_self m3 (flat_length it_len _)).temp f70) rfl (src_own (Mem.own_set_same _ _ _) List.prefix_rfl) rfl (by simp [Value.oneCell']) (by omega) (by omega) ?_
    intro o3' ho3
    iterate 4 refine s1_ ?_
    refine su_ [(0,_),(1,_),(2,_),(7,_),(8,_),(9,_),(10,_),(51,_)] ?_
    iterate 6 refine s1_ ?_
    refine ⟨(j+1,k+cntLe ws W k,L2 ++ [pk (W,2*j)],o3'),?_,?_,?_,?_⟩
    all_goals (try dsimp only)
    ·exact ⟨rfl,rfl,rfl,(by rw [List.length_append];rfl),sq_,sq_,trivial⟩
    ·exact push_it rfl
    ·exact ⟨hj,by omega,by rw [m2];simp only [List.append_assoc,List.singleton_append,List.cons_append,List.nil_append];exact k3,by rw [List.length_append];exact ho3⟩
    ·omega
   ·iterate 6 refine s1_ ?_
    refine rC (Calm.bin rfl rfl (bin_bool (bin_lss _ _) (decide_eq_false (by omega)))) ?_
    iterate 13 refine s1_ ?_
    refine su_ [(0,_),(1,_),(2,_),(7,_),(8,_),(9,_),(10,_),(51,_)] ?_
    refine cF_ ?_
    iterate 10 refine s1_ ?_
    refine ARun.build1 (lit_lt rfl) ty_sl_171 rfl (by decide) (by decide) rfl rfl ?_
    intro b70 f70
    have g70:=f70
    repeat ((with_reducible replace g70:=fresh_set g70);obtain ⟨g70,_⟩:=g70)
    refine ARun.appendOK (n:=3) (o:=o2) (k:=L2.length) (m:=1) (cs:=L2.flatMap itF) (news:=[_,_,_]) (lit_lt rfl) ty_sl_171 rfl rfl (flat_length it_len _) m3 ((appN_self m3 (flat_length it_len _)).temp f70) rfl (src_own (Mem.own_set_same _ _ _) List.prefix_rfl) rfl (by simp [Value.oneCell']) (by omega) (by omega) ?_
    intro o3' ho3
    iterate 4 refine s1_ ?_
    refine su_ [(0,_),(1,_),(2,_),(7,_),(8,_),(9,_),(10,_),(51,_)] ?_
    iterate 6 refine s1_ ?_
    refine ⟨(j+1,k+cntLe ws W k,L2 ++ [pk (W,2*j)],o3'),?_,?_,?_,?_⟩
    all_goals (try dsimp only)
    ·exact ⟨rfl,rfl,rfl,(by rw [List.length_append];rfl),sq_,sq_,trivial⟩
    ·exact push_it rfl
    ·exact ⟨hj,by omega,by rw [m2];simp only [List.append_assoc,List.singleton_append,List.cons_append,List.nil_append];exact k3,by rw [List.length_append];exact ho3⟩
    ·omega
 ·obtain rfl:j=l.length / 2:=by omega
  iterate 10 refine s1_ ?_
  refine su_ [(0,_),(1,_),(2,_),(7,_),(8,_),(9,_),(22,_)] ?_
  refine cF_ ?_
  rw [List.drop_eq_nil_of_le (by rw [prs_length];exact Nat.le_refl _),nx,hwsl] at k3
  iterate 7 refine s1_ ?_
  refine AWP.loop (X:=Nat × List It × Option (Nat × Nat)) (fun x=>[(0,.slice pw wt.length cw),(1,.slice po ord.length co),(7,outV x.2.2 x.2.1.length),(8,.int .i64 ((x.1:Nat):Int))]) (fun x=>outN 3 S x.2.2 214 (x.2.1.flatMap itF)) (fun x=>x.1≤ord.length∧x.2.1 ++ lvs ws x.1 (ord.length-x.1)=nx ws (prs l) 0∧OkO S x.2.2 x.2.1.length) (fun x=>ord.length-x.1) ((k,L,o)) ⟨rfl,rfl,rfl,rfl,trivial⟩ (Mem.Less.refl _) (⟨k2,k3,k4⟩) ?_
  rintro ⟨c,L2,o2⟩ ⟨m1,m2,m3⟩
  (try dsimp only at *)
  have hL2:L2.length≤4000:=by have e:=congrArg List.length m2;rw [hnl,List.length_append] at e;omega
  by_cases hk:c<ord.length
  ·rw [lvs_cons ws hk] at m2
   iterate 9 refine s1_ ?_
   refine su_ [(0,_),(1,_),(7,_),(8,_),(75,_)] ?_
   refine cT_ ?_
   obtain ⟨ob,oo,rfl,okn⟩:=o3.resolve_left (fun e=>by subst e;exact absurd hk (Nat.not_lt_zero _))
   have hoi:=hord _ (List.getElem_mem hk)
   obtain ⟨wb,wo,rfl,wkn⟩:=w3.resolve_left (fun e=>by subst e;exact absurd hoi (Nat.not_lt_zero _))
   have ko:Mem.Knows (outN 3 S o2 214 (L2.flatMap itF)) ⟨ob,oo+(c)*1,none⟩ [.int .i64 ((ord[c] : Nat):Int)]:=(okn (c) hk).less (outN_over (n:=3) (e:=214) (cs:=L2.flatMap itF) m3)
   have kw:Mem.Knows (outN 3 S o2 214 (L2.flatMap itF)) ⟨wb,wo+ord[c]*1,none⟩ [.int .u64 ((wt[ord[c]] : Nat):Int)]:=(wkn _ hoi).less (outN_over (n:=3) (e:=214) (cs:=L2.flatMap itF) m3)
   have hwk:=hwsg (c) hk
   rw [getD_of hoi] at hwk
   generalize hq:ord[c]=q at *
   have hwq:=hwb _ (List.getElem_mem hoi)
   generalize hu:wt[q]=u at *
   iterate 15 refine s1_ ?_
   refine ARun.build1 (lit_lt rfl) ty_sl_171 rfl (by decide) (by decide) rfl rfl ?_
   intro b88 f88
   have g88:=f88
   repeat ((with_reducible replace g88:=fresh_set g88);obtain ⟨g88,_⟩:=g88)
   refine ARun.appendOK (n:=3) (o:=o2) (k:=L2.length) (m:=1) (cs:=L2.flatMap itF) (news:=[_,_,_]) (lit_lt rfl) ty_sl_171 rfl rfl (flat_length it_len _) m3 ((appN_self m3 (flat_length it_len _)).temp f88) rfl (src_own (Mem.own_set_same _ _ _) List.prefix_rfl) rfl (by simp [Value.oneCell']) (by omega) (by omega) ?_
   intro o3' ho3
   iterate 4 refine s1_ ?_
   refine su_ [(0,_),(1,_),(7,_),(8,_),(75,_)] ?_
   iterate 6 refine s1_ ?_
   refine ⟨(c+1,L2 ++ [lf ws c],o3'),?_,?_,?_,?_⟩
   all_goals (try dsimp only)
   ·exact ⟨rfl,rfl,(by rw [List.length_append];rfl),sq_,trivial⟩
   ·exact push_it (by unfold itF lf;simp only;rw [hwk];rfl)
   ·exact ⟨hk,by rw [← m2,List.append_assoc];rfl,by rw [List.length_append];exact ho3⟩
   ·omega
  ·obtain rfl:c=ord.length:=by omega
   iterate 9 refine s1_ ?_
   refine su_ [(0,_),(1,_),(7,_),(8,_),(75,_)] ?_
   refine cF_ ?_
   rw [Nat.sub_self,show lvs ws ord.length 0 = [] from rfl,List.append_nil] at m2
   rw [← m2]
   iterate 11 refine s1_ ?_
   refine su_ [(0,_),(1,_),(7,_),(8,_),(75,_),(6,_)] ?_
   refine s1_ ?_
   refine ⟨_,_,⟨_,_,rfl,rfl,rfl⟩,Mem.Less.refl _,?_⟩
   exact ⟨o2,m3,rfl,rfl⟩
end Pk
end Go.Proofs.YtckloanlkpchoaaGreatDoor
namespace Go.Proofs.YtckloanlkpchoaaGreatDoor
open Go.RowKit Go.Shelf
namespace Mv
/-- A block that holds no cells has changed, or a new one has come. -/
theorem Step.grown {S S' : Mem} {w W W' : World} {row : Option Nat} (h : Step S w S' W) (hg : W.grownBy W' row) (hr : ∀ r, row = some r → w.heap.size ≤ r ∧ ∃ o : Obj, W.heap[r]? = some o ∧ o.isCells = false) : Step S w S' W' := by
 have hc:∀ (b:Nat) (cur:Array Value) (e:TypeId) (fz:Nat × Nat),W.heap[b]?=some (.cells cur e fz)→W'.heap[b]?=W.heap[b]?:=fun b cur e fz hb =>
  hg.block b (Array.getElem?_eq_some_iff.1 hb).1 (fun e'=>by obtain ⟨_,o,ho,hn⟩:=hr b e'.symm;rw [hb] at ho;cases ho;cases hn)
 refine ⟨⟨fun b r hb=>?_,fun a v ha=>?_,fun g l hgl=>?_⟩,hg.os.trans h.os,hg.tape.trans h.tape,hg.output.trans h.output,Nat.le_trans h.size hg.size,fun k hk hn=>?_,h.dom,h.ro⟩
 ·obtain ⟨cur,fz,h1,h2⟩:=h.view.own b r hb
  exact ⟨cur,fz,(hc b _ _ _ h1).trans h1,h2⟩
 ·obtain ⟨h1,h2⟩:=h.view.ro a v ha
  exact ⟨cell_kept h1 hg (fun r e=>(hr r e).2),h2⟩
 ·obtain ⟨h1,h2,h3⟩:=h.view.fz g l hgl
  refine ⟨h1,h2,?_⟩
  obtain ⟨cur,hi,k1,k2⟩:=id h3
  exact h3.of_block (hc g _ _ _ k1)
 ·exact (hg.block k (Nat.lt_of_lt_of_le hk h.size) (fun e=>by have:=(hr k e.symm).1;omega)).trans (h.block k hk hn)
/-- What is no cells lies as it lay. -/
theorem Step.others {S S' : Mem} {w w' : World} (hv : View S w) (h : Step S w S' w') : KeepsOthers w w' :=
 ⟨h.size,fun k o hk ho=>(h.block k (Array.getElem?_eq_some_iff.1 hk).1 (by
  cases e:S.own k with
  | none=>rfl
  | some r=>obtain ⟨cur,fz,h1,_⟩:=hv.own k r e;rw [hk] at h1;cases h1;cases ho)).trans hk⟩
theorem View.box {S : Mem} {w : World} (h : View S w) {b : Nat} {T : TypeId} {v : Value} (hb : S.own b = some ⟨T, [v], 1⟩) : w.cell? ⟨b, 0, none⟩ = some v ∧ w.frozen? ⟨b, 0, none⟩ = false := by
 obtain ⟨cur,fz,h1,h2,h3,h4⟩:=h.own b _ hb
 refine ⟨h.rd (a:=⟨b,0,none⟩) (by unfold Mem.rd;simp [hb]),?_⟩
 have:=h4 0 (.inl (by have:=h3;simp only at this;omega))
 simp only [World.frozen?,h1]
 simpa using this
/-- Code of a function that ranges over a function: what is asked of the world at its end. -/
def AWPM (P : Program) (N : Nat) (c : Code) (Q : Mem → World → Exit → Act → World → Prop) (E : Env) (S : Mem) : Prop :=
  ∀ S0 w0 a w, Step S0 w0 S w → Good N E a → c.wpIn Fence.wide 6 P (Q S0 w0) a w
section
variable {P : Program} {N : Nat} {Q : Mem → World → Exit → Act → World → Prop} {E : Env} {S : Mem}
theorem AWPM.seq {x y : Code} (h : AWP P N x (Athen (AWPM P N y Q) fun _ _ _ => False) E S) : AWPM P N (.seq x y) Q E S := fun S0 w0 a w hs hg => by
 refine wpIn_seq (wpIn_mono (wpIn_wide.2 (h a w hg hs.view)) fun e a1 w1 ⟨E1,S1,k,g,s⟩=>?_)
 cases e with
 | normal=>exact k S0 w0 a1 w1 (hs.trans s) g
 | exit id=>exact k.elim
 | goto l=>exact k.elim
 | ret=>exact k.elim
 | panic c=>exact k.elim
 | outgrown=>exact k.elim
theorem AWPM.seqM {x y : Code} (h : AWPM P N x (fun S0 w0 => Exit.then (y.wpIn Fence.wide 6 P (Q S0 w0)) (Q S0 w0)) E S) : AWPM P N (.seq x y) Q E S := fun S0 w0 a w hs hg => wpIn_seq (h S0 w0 a w hs hg)
theorem AWPM.sub (E' : Env) (hs : Sub E' E) {c : Code} (h : AWPM P N c Q E' S) : AWPM P N c Q E S := fun S0 w0 a w hv hg => h S0 w0 a w hv (hg.sub hs)
theorem AWPM.less (S' : Mem) (hl : S'.Less S) {c : Code} (h : AWPM P N c Q E S') : AWPM P N c Q E S := fun S0 w0 a w hv hg => h S0 w0 a w (hv.less hl) hg
end
/-- A function that ranges over a function is entered. -/
theorem ACall.enterM {P : Program} {S : Mem} {f : FuncId} {fn : Func} {c : Code} {args : List Value} {rs : List ResultVar} {R : Value → Mem → Prop} (n : Nat) (E0 : Env) (hf : P.funcs[f]? = some fn) (hb : fn.body = some c) (hn : fn.ntmps = n) (hl : args.length ≤ n) (hr : fn.results = rs.toArray) (hE : SubA E0 args)
  (h:AWPM P n c (fun S0 w0=>bodyPostM Fence.wide 6 P fn (fun e w'=>∃ v S',e = .returned v∧R v S'∧Step S0 w0 S' w')) E0 S):ACall P f args.toArray S R:=fun w hv=>by
 refine (callsIn_wide (n:=6)).1 (callsIn_of_wp_marks hf hb trivial (h S w _ w (Step.refl hv) ⟨?_,rfl,fun d v hd=>?_⟩) rfl)
 ·simp only [Array.size_append,List.size_toArray,Array.size_replicate];omega
 ·have:=hE.lk hd
  have hlt:d<args.length:=by
   rcases Nat.lt_or_ge d args.length with h | h
   ·exact h
   ·rw [List.getElem?_eq_none h] at this;cases this
  simp only [Array.getD_eq_getD_getElem?,Array.getElem?_append,List.size_toArray,hlt,if_true,List.getElem?_toArray,this,Option.getD_some]
end Mv
end Go.Proofs.YtckloanlkpchoaaGreatDoor
namespace Go.Proofs.YtckloanlkpchoaaGreatDoor
open Go.RowKit Go.Shelf
namespace Mv
/-- Anywhere, or in a round. -/
def FW : Option Nat → Fence
  | none => Fence.wide
  | some l => Fence.wide.inRound l
theorem FW.fn (ro : Option Nat) (f : FuncId) : (FW ro).fn f := by cases ro <;> exact trivial
theorem FW.depth (ro : Option Nat) : (FW ro).depth = none := by cases ro <;> rfl
theorem FW.calls {ro : Option Nat} {n : Nat} {P : Program} {f : FuncId} {args : Array Value} {w : World} {R : Ending → World → Prop} (h : Calls P f args w R) : CallsIn (FW ro) n P f args w R := by
 cases ro with
 | none=>exact callsIn_wide.2 h
 | some l=>exact CallsIn.inRound l (callsIn_wide.2 h)
theorem FW.rows {ro : Option Nat} {n : Nat} {P : Program} {row : String} {args : Array Value} {w : World} {R : Value → World → Prop} (h : Rows P row args w R) : RowsIn (FW ro) n P row args w R := by
 cases ro with
 | none=>exact fun c cs _=>let ⟨v,w',r,s⟩:=h c cs;⟨v,w',r,stepsIn_wide.2 s⟩
 | some l=>exact fun c cs _=>let ⟨v,w',r,s⟩:=h c cs;⟨v,w',r,stepsIn_wide.2 s⟩
/-- An act, its deferred calls put for it. -/
def dd (ds : List Deferred) (a : Act) : Act := { a with defers := ds }
theorem dd_put (ds : List Deferred) (a : Act) (d : Option Tmp) (v : Value) : (dd ds a).put d v = dd ds (a.put d v) := by cases d <;> rfl
def noDefer (o : Oper) : Bool := match o.op with
  | .defer _ => false
  | _ => true
theorem noDefer_ne {o : Oper} (h : noDefer o = true) : ∀ c, o.op ≠ .defer c := fun c e => by unfold noDefer at h; rw [e] at h; cases h
def NQ (p : Act → World → Prop) : Exit → Act → World → Prop := fun e a w => e = .normal ∧ p a w
def GQ (ds : List Deferred) (p : Act → World → Prop) : Exit → Act → World → Prop := fun e a w => e = .normal ∧ ∃ a1, a = dd ds a1 ∧ p a1 w
section
variable {P : Program} {ops : Array Oper} {ro : Option Nat} {n : Nat} {ds : List Deferred} {p : Act → World → Prop}
theorem op_lift {o : Oper} {a : Act} {w : World} {K : Act → World → Prop} {Q : Exit → Act → World → Prop} (ho : noDefer o = true) (hK : ∀ a w, K a w → a.defers = []) (h : o.wp P a w K (NQ p)) :
  o.wpIn (FW ro) n P (dd ds a) w (fun a' w'=>∃ a1,a'=dd ds a1∧K a1 w') Q:=by
 refine ⟨fun f _=>FW.fn ro f,?_⟩
 rw [Oper.semAt_eq _ _ _ (noDefer_ne ho)]
 unfold Oper.wp at h
 show o.uponIn _ _ _ _ _ _ ((execOp a.eval o).run P w)
 generalize (execOp a.eval o).run P w=r at *
 cases r with
 | ok nx w' =>
  cases nx with
  | value v=>exact ⟨_,dd_put _ _ _ _,h⟩
  | skip=>exact ⟨_,dd_put _ _ _ _,h⟩
  | defer d =>
   have h':K _ w':=h
   have h1:=hK _ _ h'
   cases hd:o.dst <;> rw [hd] at h1 <;> cases h1
  | enter f args =>
   refine ⟨fun e=>(by rw [FW.depth] at e;cases e),(FW.calls h).mono fun e w'' he=>?_⟩
   match e,he with
   | .returned v,he=>exact ⟨_,dd_put _ _ _ _,he⟩
   | .panicked c,he=>exact absurd he.1 (by simp)
   | .outgrown,he=>obtain ⟨a1,w1,he,_⟩:=he;cases he
  | row row args =>
   refine ⟨fun e=>(by rw [FW.depth] at e;cases e),RowsIn.mono (FW.rows h) fun v w'' he=>?_⟩
   exact ⟨_,dd_put _ _ _ _,he⟩
  | _=>exact h.elim
 | halt x w' =>
  cases x <;> first
   | exact h.elim
   | exact absurd h.1 (by simp)
theorem no_letsOut : ¬ LetsOut (NQ p) := fun ⟨a, w, h, _⟩ => by cases h
theorem put_defers {a : Act} {d : Option Tmp} {v : Value} : (a.put d v).defers = a.defers := by cases d <;> rfl
theorem op_defers {o : Oper} {a : Act} {w : World} {K : Act → World → Prop} (hK : ∀ a w, K a w → a.defers = []) (h : o.wp P a w K (NQ p)) : a.defers = [] := by
 unfold Oper.wp at h
 generalize (execOp a.eval o).run P w=r at *
 cases r with
 | ok nx w' =>
  cases nx with
  | value v=>have:=hK _ _ h;rw [put_defers] at this;exact this
  | skip=>have:=hK _ _ h;rw [put_defers] at this;exact this
  | defer d =>
   have h':K _ w':=h
   have h1:=hK _ _ h'
   rw [put_defers] at h1;cases h1
  | enter f args =>
   obtain ⟨e,w'',fr,he,_⟩:=h []
   match e,he with
   | .returned v,he=>have:=hK _ _ he;rw [put_defers] at this;exact this
   | .panicked c,he=>exact absurd he.1 (by simp)
   | .outgrown,he=>obtain ⟨a1,w1,he,_⟩:=he;cases he
  | row row args =>
   obtain ⟨v,w'',he,_⟩:=h default []
   have:=hK _ _ he;rw [put_defers] at this;exact this
  | _=>exact h.elim
 | halt x w' =>
  cases x <;> first
   | exact h.elim
   | exact absurd h.1 (by simp)
theorem any_defers (hp : ∀ a w, p a w → a.defers = []) : ∀ (fuel : Nat) (listed : Array Bool) (a : Act) (w : World), wpAny P .any ops (NQ p) fuel listed a w → a.defers = []
 | 0,_,a,w,h=>hp a w h.2.2
 | fuel+1,listed,a,w,h=>by
  cases hr:Region.ready .any ops listed with
  | nil=>exact hp a w (h.1 hr).2
  | cons i is =>
   have h1:=h.2 i (by rw [hr];exact List.mem_cons_self ..)
   have ih:=fun a w=>any_defers hp fuel (listed.setIfInBounds i true) a w
   unfold wpOp at h1
   split at h1
   ·exact ih _ _ h1
   ·split at h1
    ·rcases h1 with h1 | ⟨_,h1⟩
     ·exact op_defers ih h1
     ·exact absurd h1 no_letsOut
    ·have:=ih _ _ h1;rw [put_defers] at this;exact this
theorem any_lift (hp : ∀ a w, p a w → a.defers = []) (hd : ∀ (i : Nat) (o : Oper), ops[i]? = some o → noDefer o = true) : ∀ (fuel : Nat) (listed : Array Bool) (a : Act) (w : World), wpAny P .any ops (NQ p) fuel listed a w → wpAnyIn (FW ro) n P .any ops (GQ ds p) fuel listed (dd ds a) w
 | 0,_,a,w,h=>⟨h.1,rfl,a,rfl,h.2.2⟩
 | fuel+1,listed,a,w,h=>by
  refine ⟨fun hr=>⟨rfl,a,rfl,(h.1 hr).2⟩,fun i hi=>?_⟩
  have h1:=h.2 i hi
  have ih:=fun a w=>any_lift hp hd fuel (listed.setIfInBounds i true) a w
  unfold wpOp at h1
  unfold wpOpIn
  split at h1
  ·rename_i hn;rw [hn];exact ih _ _ h1
  ·rename_i o ho
   rw [ho]
   dsimp only
   split at h1
   ·rename_i hw
    rw [if_pos (show Region.wanted o (yielded ops (dd ds a).tmps)=true from hw)]
    rcases h1 with h1 | ⟨_,h1⟩
    ·exact Oper.wpIn_mono (fun a' w' ⟨a1,e,hk⟩=>by subst e;exact ih _ _ hk) (op_lift (hd i o ho) (fun a w=>any_defers hp fuel _ a w) h1)
    ·exact absurd h1 no_letsOut
   ·rename_i hw
    rw [if_neg (show ¬ Region.wanted o (yielded ops (dd ds a).tmps)=true from hw)]
    exact ⟨fun f _=>FW.fn ro f,by rw [dd_put];exact ih _ _ h1⟩
end
/-! ### Code, in a round or behind one -/
section
variable {P : Program} {N : Nat} {ro : Option Nat} {n : Nat} {ds : List Deferred}
theorem ARun.lift {l : List Oper} {ops : Array Oper} : ∀ {K : Env → Mem → Prop} {E : Env} {S : Mem}, ARun P N ops l K E S → (∀ o ∈ l, noDefer o = true) → ∀ {Q : Exit → Act → World → Prop} (a : Act) (w : World), Good N E a → View S w →
  (∀ a' w',Post N K S w a' w'→Q .normal (dd ds a') w')→wpListIn (FW ro) n P ops Q l (dd ds a) w:=by
 induction l with
 | nil=>exact fun {K E S} h _ Q a w hg hv hq=>hq a w ⟨E,S,h,hg,Step.refl hv⟩
 | cons o os ih =>
  intro K E S h hd Q a w hg hv hq
  have h1:=h a w hg hv
  have next:∀ a1 w1,Post N (fun E' S'=>ARun P N ops os K E' S') S w a1 w1→wpListIn (FW ro) n P ops Q os (dd ds a1) w1:=fun a1 w1 ⟨E1,S1,r,g1,s1⟩ =>
   ih r (fun o ho=>hd o (List.mem_cons_of_mem _ ho)) a1 w1 g1 s1.view fun a' w' ⟨E2,S2,k,g2,s2⟩=>hq a' w' ⟨E2,S2,k,g2,s1.trans s2⟩
  unfold wpListIn
  split
  ·rename_i hw
   rw [if_pos (show Region.wanted o (yielded ops a.tmps)=true from hw)] at h1
   have h2:o.wp P a w (Post N (fun E' S'=>ARun P N ops os K E' S') S w) (NQ fun _ _=>False):=upon_noQ h1
   exact Oper.wpIn_mono (fun a' w' ⟨a1,e,hk⟩=>by subst e;exact next _ _ hk) (op_lift (hd o (List.mem_cons_self ..)) (fun a w ⟨_,_,_,g,_⟩=>g.defers) h2)
  ·rename_i hw
   rw [if_neg (show ¬ Region.wanted o (yielded ops a.tmps)=true from hw)] at h1
   exact ⟨fun f _=>FW.fn ro f,by rw [dd_put];exact next _ _ h1⟩
def GWP (ro : Option Nat) (n : Nat) (ds : List Deferred) (P : Program) (N : Nat) (c : Code) (Q : Exit → Env → Mem → Prop) (E : Env) (S : Mem) : Prop :=
  ∀ a w, Good N E a → View S w → c.wpIn (FW ro) n P (fun e a' w' => ∃ a1, a' = dd ds a1 ∧ Post N (Q e) S w a1 w') (dd ds a) w
variable {Q : Exit → Env → Mem → Prop} {E : Env} {S : Mem}
theorem GWP.mono {c : Code} {Q' : Exit → Env → Mem → Prop} (h : GWP ro n ds P N c Q E S) (hq : ∀ e E S, Q e E S → Q' e E S) : GWP ro n ds P N c Q' E S := fun a w hg hv =>
 wpIn_mono (h a w hg hv) fun e _ _ ⟨a1,e1,x⟩=>⟨a1,e1,x.mono (hq e)⟩
theorem GWP.sub {c : Code} (E' : Env) (hs : Sub E' E) (h : GWP ro n ds P N c Q E' S) : GWP ro n ds P N c Q E S := fun a w hg hv => h a w (hg.sub hs) hv
theorem GWP.less {c : Code} (S' : Mem) (hs : S'.Less S) (h : GWP ro n ds P N c Q E S') : GWP ro n ds P N c Q E S := fun a w hg hv =>
 wpIn_mono (h a w hg (hv.less hs)) fun _ _ _ ⟨a1,e1,E1,S1,k,g,s⟩=>⟨a1,e1,E1,S1,k,g,s.lessL hs⟩
theorem GWP.seq {x y : Code} (h : GWP ro n ds P N x (Athen (GWP ro n ds P N y Q) Q) E S) : GWP ro n ds P N (.seq x y) Q E S := fun a w hg hv => by
 refine wpIn_seq (wpIn_mono (h a w hg hv) fun e a' w1 ⟨a1,e1,E1,S1,k,g,s⟩=>?_)
 subst e1
 cases e with
 | normal=>exact wpIn_mono (k a1 w1 g s.view) fun e a2 w2 ⟨a3,e3,E2,S2,k2,g2,s2⟩=>⟨a3,e3,E2,S2,k2,g2,s.trans s2⟩
 | exit id=>exact ⟨a1,rfl,E1,S1,k,g,s⟩
 | goto l=>exact ⟨a1,rfl,E1,S1,k,g,s⟩
 | ret=>exact ⟨a1,rfl,E1,S1,k,g,s⟩
 | panic c=>exact ⟨a1,rfl,E1,S1,k,g,s⟩
 | outgrown=>exact ⟨a1,rfl,E1,S1,k,g,s⟩
theorem GWP.skip (h : Q .normal E S) : GWP ro n ds P N .skip Q E S := fun a w hg hv => wpIn_skip ⟨a, rfl, E, S, h, hg, Step.refl hv⟩
theorem GWP.ret (h : Q .ret E S) : GWP ro n ds P N .ret Q E S := fun a w hg hv => wpIn_ret ⟨a, rfl, E, S, h, hg, Step.refl hv⟩
theorem GWP.exit {id : Nat} (h : Q (.exit id) E S) : GWP ro n ds P N (.exit id) Q E S := fun a w hg hv => wpIn_exit ⟨a, rfl, E, S, h, hg, Step.refl hv⟩
theorem GWP.cond {c : Operand} {x y : Code} (t : Bool) (hc : ev E c = some (.bool t)) (h : GWP ro n ds P N (if t then x else y) Q E S) : GWP ro n ds P N (.cond c x y) Q E S := fun a w hg hv =>
 wpIn_cond (show (dd ds a).eval c = .bool t from hg.ev hc) (h a w hg hv)
theorem GWP.condT {c : Operand} {x y : Code} {t : Bool} (hc : ev E c = some (.bool t)) (ht : t = true) (h : GWP ro n ds P N x Q E S) : GWP ro n ds P N (.cond c x y) Q E S := GWP.cond t hc (by rw [ht]; exact h)
theorem GWP.condF {c : Operand} {x y : Code} {t : Bool} (hc : ev E c = some (.bool t)) (ht : t = false) (h : GWP ro n ds P N y Q E S) : GWP ro n ds P N (.cond c x y) Q E S := GWP.cond t hc (by rw [ht]; exact h)
theorem GWP.condB {c : Operand} {x y : Code} {t : Bool} (hc : ev E c = some (.bool t)) (h1 : t = true → GWP ro n ds P N x Q E S) (h0 : t = false → GWP ro n ds P N y Q E S) : GWP ro n ds P N (.cond c x y) Q E S := GWP.cond t hc (by cases t; exact h0 rfl; exact h1 rfl)
theorem GWP.block {id : Nat} {c : Code} (h : GWP ro n ds P N c (AinBlock id Q) E S) : GWP ro n ds P N (.block id c) Q E S := fun a w hg hv =>
 wpIn_block (wpIn_mono (h a w hg hv) fun e a' w1 x=>by
  cases e with
  | exit id' =>
   simp only [Exit.inBlock]
   obtain ⟨a1,e1,E1,S1,k,g,s⟩:=x
   simp only [AinBlock] at k
   split
   ·rename_i e;rw [if_pos e] at k;exact ⟨a1,e1,E1,S1,k,g,s⟩
   ·rename_i e;rw [if_neg e] at k;exact ⟨a1,e1,E1,S1,k,g,s⟩
  | normal=>exact x
  | goto l=>exact x
  | ret=>exact x
  | panic c=>exact x
  | outgrown=>exact x)
theorem GWP.region {id : Nat} {l : List Oper} (h : ARun P N l.toArray l (Q .normal) E S) (hd : l.all noDefer = true := by kernel_rfl) : GWP ro n ds P N (.region id l.toArray false) Q E S := fun a w hg hv =>
 wpIn_region_lit (h.lift (fun o ho=>List.all_eq_true.1 hd o ho) a w hg hv fun a' w' x=>⟨a',rfl,x⟩)
theorem q0_NQ {K : Env → Mem → Prop} {w0 : World} {S0 : Mem} : Q0 N K S0 w0 = NQ (Post N K S0 w0) := by
 funext e a w
 cases e <;> simp [Q0,NQ]
theorem any_region {id : Nat} {l : List Oper} {K : Env → Mem → Prop} {a : Act} {w : World} (hm : P.follows .mixedOrders = true) (hd : l.all noDefer = true)
  (h:wpAny P .any l.toArray (Q0 N K S w) l.toArray.size (Array.replicate l.toArray.size false) a { w with drawn:=w.drawn+1 }):(Code.region id l.toArray true).wpIn (FW ro) n P (GQ ds (Post N K S w)) (dd ds a) w:=by
 rw [q0_NQ] at h
 exact wpIn_region_any hm (any_lift (fun a w ⟨_,_,_,g,_⟩=>g.defers) (fun i o ho=>List.all_eq_true.1 hd o (by
  have:=Array.mem_of_getElem? ho
  simpa using this)) _ _ _ _ h)
theorem GWP.draw {id : Nat} {l : List Oper} (st : List (Nat × Bool)) (W : List Nat) (hm : P.follows .mixedOrders = true) (hok : drawOK l st W = true)
  (h:DrawRun P N l W S st (Q .normal) E S) (hd:l.all noDefer=true:=by kernel_rfl):GWP ro n ds P N (.region id l.toArray true) Q E S:=fun a w g hv=>by
 simp only [drawOK,Bool.and_eq_true,beq_iff_eq] at hok
 obtain ⟨⟨h1,h2⟩,h3⟩:=hok
 refine wpIn_mono (any_region hm hd ?_) (fun e a' w' x=>by obtain ⟨rfl,a1,e1,hx⟩:=x;exact ⟨a1,e1,hx⟩)
 refine wpAny_of_G (W:=fun i=>W.contains i) (C:=View S) _ _ _ _ ?_
 have hsz:l.toArray.size=st.length:=by simp [h2]
 rw [hsz]
 have hst:Step S w S { w with drawn:=w.drawn+1 }:=Step.drawn hv _
 exact draw_G h1 st _ E S a _ (by rw [h2];exact h3) (closed_start _ _) h g hst.view hst
theorem GWP.drawG {id : Nat} {l : List Oper} (W : List Nat) (hm : P.follows .mixedOrders = true)
  (h:DG P N l W S (Q .normal) l.length (Array.replicate l.length false) E S) (hd:l.all noDefer=true:=by kernel_rfl):GWP ro n ds P N (.region id l.toArray true) Q E S:=fun a w g hv=>by
 refine wpIn_mono (any_region hm hd ?_) (fun e a' w' x=>by obtain ⟨rfl,a1,e1,hx⟩:=x;exact ⟨a1,e1,hx⟩)
 refine wpAny_of_G (W:=fun i=>W.contains i) (C:=View S) _ _ _ _ ?_
 have hst:Step S w S { w with drawn:=w.drawn+1 }:=Step.drawn hv _
 have:=h w a _ (closed_start _ _) g hst.view hst
 simpa using this
theorem wpIn_loopX {F : Fence} {n : Nat} {P : Program} {c : Code} {Q : Exit → Act → World → Prop} {X : Type} (I : X → Act → World → Prop) (μ : X → Nat) (x0 : X) {a : Act} {w : World} (h0 : I x0 a w)
  (round:∀ x a w,I x a w→c.wpIn F n P (Exit.then (fun a' w'=>∃ x',I x' a' w' ∧ μ x' < μ x) Q) a w):(Code.loop c).wpIn F n P Q a w:=by
 intro b k cs hro hb hr
 have key:∀ j x a w,μ x=j→I x a w → ∃ e a' w',Q e a' w'∧ArrivesIn (Machine.fenced P F) P (lone (b.atR a (.code c :: .inLoop c :: k)) cs w) b k cs e a' w':=by
  intro j
  induction j using Nat.strongRecOn with
  | _ j ih =>
   intro x a w hn hI
   obtain ⟨e,a1,w1,hq,harr⟩:=round x a w hI b (.inLoop c :: k) cs hro hb hr
   cases e with
   | normal =>
    obtain ⟨x',hI1,hlt⟩:=hq
    obtain ⟨e2,a2,w2,hq2,harr2⟩:=ih (μ x') (hn ▸ hlt) x' a1 w1 rfl hI1
    exact ⟨e2,a2,w2,hq2,.of_steps (StepsIn.trans harr (.one (fenced_calm hb hr rfl) stepR_inLoop)) harr2⟩
   | exit id=>exact ⟨_,a1,w1,hq,.pass (x:=.inLoop c) rfl (fun _ _=>.inl (by simp)) harr⟩
   | goto l=>exact ⟨_,a1,w1,hq,.pass (x:=.inLoop c) rfl (fun _ _=>.inl (by simp)) harr⟩
   | ret=>exact ⟨_,a1,w1,hq,.pass (x:=.inLoop c) rfl (fun _ _=>.inl (by simp)) harr⟩
   | panic ch=>exact ⟨_,a1,w1,hq,.pass (x:=.inLoop c) rfl (fun _ _=>.inl (by simp)) harr⟩
   | outgrown=>exact ⟨_,a1,w1,hq,.pass (x:=.inLoop c) rfl (fun _ _=>.inl (by simp)) harr⟩
 obtain ⟨e,a',w',hq,harr⟩:=key _ x0 a w rfl h0
 exact ⟨e,a',w',hq,.of_steps (.one (fenced_calm hb hr rfl) stepR_loop) harr⟩
theorem GWP.loop {X : Type} {c : Code} (st : X → Env) (m : X → Mem) (ok : X → Prop) (μ : X → Nat) (x0 : X) (hE : Sub (st x0) E) (hm : (m x0).Less S) (h0 : ok x0)
  (round:∀ x,ok x→GWP ro n ds P N c (Athen (fun E' S'=>∃ x',Sub (st x') E'∧(m x').Less S'∧ok x' ∧ μ x' < μ x) Q) (st x) (m x)):GWP ro n ds P N (.loop c) Q E S:=fun a w hg hv=>by
 refine wpIn_loopX (fun x a' w'=>∃ a1,a'=dd ds a1∧Good N (st x) a1∧Step S w (m x) w'∧ok x) μ x0 ⟨a,rfl,hg.sub hE,(Step.refl hv).less hm,h0⟩ fun x a' w1 ⟨a1,e1,h1,h2,h3⟩=>?_
 subst e1
 refine wpIn_mono (round x h3 a1 w1 h1 h2.view) fun e a'' w2 ⟨a2,e2,E2,S2,k,g,s⟩=>?_
 subst e2
 cases e with
 | normal=>obtain ⟨x',hs,hm',ho,hl⟩:=k;exact ⟨x',⟨a2,rfl,g.sub hs,(h2.trans s).less hm',ho⟩,hl⟩
 | exit id=>exact ⟨a2,rfl,E2,S2,k,g,h2.trans s⟩
 | goto l=>exact ⟨a2,rfl,E2,S2,k,g,h2.trans s⟩
 | ret=>exact ⟨a2,rfl,E2,S2,k,g,h2.trans s⟩
 | panic c=>exact ⟨a2,rfl,E2,S2,k,g,h2.trans s⟩
 | outgrown=>exact ⟨a2,rfl,E2,S2,k,g,h2.trans s⟩
theorem GWP.join {X : Type} {c : Code} (st : X → Env) (m : X → Mem) (ok : X → Prop) (h : GWP ro n ds P N c (JoinQ Q st m ok) E S) (k : ∀ x, ok x → ∀ E' S', Sub (st x) E' → (m x).Less S' → Q .normal E' S') : GWP ro n ds P N c Q E S :=
 h.mono fun e E' S' hq=>match e,hq with
  | .normal,⟨x,h1,h2,h3⟩=>k x h1 E' S' h2 h3
  | .ret,hq=>hq
  | .exit _,hq=>hq
  | .goto _,hq=>hq
  | .outgrown,hq=>hq
  | .panic _,hq=>hq
/-- The end of a function that has ranged over a function. -/
theorem GWP.endM {fn : Func} {rs : List ResultVar} {R : Value → Mem → Prop} {S0 : Mem} {w0 : World} {c : Code} {D : Nat} {a : Act} {w : World} (hr : fn.results = rs.toArray) (hs : Step S0 w0 S w) (hD : w0.heap.size ≤ D) (hK : w.heap[D]? = some (.deferred (some []))) (hg : Good N E a)
  (h:GWP none n [{ target:=.collected D,args:=#[] }] P N c (Aret P rs R) E S) :
  c.wpIn Fence.wide n P (bodyPostM Fence.wide n P fn (fun e w'=>∃ v S',e = .returned v∧R v S'∧Step S0 w0 S' w')) { a with defers:={ target:=.collected D,args:=#[] } :: [] } w:=by
 refine wpIn_mono (h a w hg hs.view) fun e a' w' ⟨a1,e1,E',S',k,g,s⟩=>?_
 subst e1
 have fin:Aret P rs R .normal E' S'→LeavesInM Fence.wide n P fn (dd [{ target:=.collected D,args:=#[] }] a1).tmps (fun e w'=>∃ v S',e = .returned v∧R v S'∧Step S0 w0 S' w') [{ target:=.collected D,args:=#[] }] .returning w':=fun hk=>by
  obtain ⟨vs,S2,h1,h2,h3⟩:=hk
  have hK':=(s.others hs.view).same _ _ hK rfl
  refine ⟨by simp,.inl ⟨D,_,rfl,run_takeDeferred hK',?_⟩⟩
  have st2:=((hs.trans s).less h2).grown (grownBy_putObj' _ D (.deferred none)) (fun r e=>by cases e;exact ⟨hD,_,hK',rfl⟩)
  have st1:=(hs.trans s).grown (grownBy_putObj' _ D (.deferred none)) (fun r e=>by cases e;exact ⟨hD,_,hK',rfl⟩)
  have hres:=run_results (a:=a1) hr g st1.view h1
  exact ⟨one vs,hres,one vs,S2,rfl,h3,st2⟩
 cases e with
 | normal=>exact fin k
 | ret=>exact fin k
 | exit id=>exact k.elim
 | goto l=>exact k.elim
 | panic c=>exact k.elim
 | outgrown=>exact k.elim
/-- The end of a function that ranges over a function. -/
def QM (P : Program) (fn : Func) (R : Value → Mem → Prop) (S0 : Mem) (w0 : World) : Exit → Act → World → Prop := bodyPostM Fence.wide 6 P fn (fun e w' => ∃ v S', e = .returned v ∧ R v S' ∧ Step S0 w0 S' w')
theorem QM.ret {fn : Func} {rs : List ResultVar} {R : Value → Mem → Prop} {S0 : Mem} {w0 : World} {a : Act} {w : World} (hr : fn.results = rs.toArray) (hs : Step S0 w0 S w) (hg : Good N E a) (h : ∃ vs S', ResV P rs E S vs ∧ S'.Less S ∧ R (one vs) S') : LeavesInM Fence.wide 6 P fn a.tmps (fun e w' => ∃ v S', e = .returned v ∧ R v S' ∧ Step S0 w0 S' w') a.defers .returning w := by
 obtain ⟨vs,S2,h1,h2,h3⟩:=h
 rw [hg.defers]
 exact ⟨one vs,run_results hr hg hs.view h1,one vs,S2,rfl,h3,hs.less h2⟩
/-- Code ahead of the range: it may return. -/
theorem AWPM.seqR {fn : Func} {rs : List ResultVar} {R : Value → Mem → Prop} {x y : Code} (hr : fn.results = rs.toArray) (h : AWP P N x (Athen (AWPM P N y (QM P fn R)) (Aret P rs R)) E S) : AWPM P N (.seq x y) (QM P fn R) E S := fun S0 w0 a w hs hg => by
 refine wpIn_seq (wpIn_mono (wpIn_wide.2 (h a w hg hs.view)) fun e a1 w1 ⟨E1,S1,k,g,s⟩=>?_)
 cases e with
 | normal=>exact k S0 w0 a1 w1 (hs.trans s) g
 | exit id=>exact k.elim
 | goto l=>exact k.elim
 | ret=>exact QM.ret hr (hs.trans s) g k
 | panic c=>exact k.elim
 | outgrown=>exact k.elim
theorem ACall.enterR {S : Mem} {f : FuncId} {fn : Func} {c : Code} {args : List Value} {rs : List ResultVar} {R : Value → Mem → Prop} (n : Nat) (E0 : Env) (hf : P.funcs[f]? = some fn) (hb : fn.body = some c) (hn : fn.ntmps = n) (hl : args.length ≤ n) (hr : fn.results = rs.toArray) (hE : SubA E0 args)
  (h:AWPM P n c (QM P fn R) E0 S):ACall P f args.toArray S R:=ACall.enterM (rs:=rs) n E0 hf hb hn hl hr hE h
end
end Mv
end Go.Proofs.YtckloanlkpchoaaGreatDoor
namespace Go.Proofs.YtckloanlkpchoaaGreatDoor
open Go.RowKit Go.Shelf
namespace Mv
theorem range_view3 {P : Program} {N : Nat} {g : Operand} {p1 p2 : Tmp} {assign body : Code} {Q : Exit → Act → World → Prop} {a : Act} {w w0 : World} {S0 : Mem} {gf : Nat} {lb : Array Value} (n id : Nat) (v1 v2 : Nat → Value) (I Ix : Nat → Mem → Prop) (E0 : Env)
  (hG:Good N E0 a) (hgv:ev E0 g=some (.func (.func gf) #[] lb)) (eg:∀ args w,(callFunc gf args).run P w = .ok (.enter gf args) w) (hp1:p1<N) (hp2:p2<N)
  (h0:∃ S,I 0 S∧Step S0 w0 S w)
  (hit:∀ (l:Nat) (J Jx:Nat→World→Prop) (W:World),(∀ k W,J k W → ∃ S,I k S∧View S W ∧ ∀ W',Step S W S W'→J k W')→(∀ k W,k<n→J k W→YieldAt Fence.wide 4 P l #[v1 k,v2 k] W fun e W'=>(e = .returned (.bool true)∧J (k+1) W')∨(e = .returned (.bool false)∧Jx k W'))→J 0 W →
   CallsIn Fence.wide 5 P gf (#[.func (.yield l) #[] #[]] ++ lb) W fun e W'=>(∃ v,e = .returned v)∧(J n W' ∨ ∃ k,k<n∧Jx k W'))
  (hround:∀ (l k:Nat) (S:Mem),k<n→I k S→GWP (some l) 4 [] P N assign (Athen (GWP (some l) 4 [] P N body (fun e _ S'=>(e = .normal∧I (k+1) S')∨(e = .exit id∧Ix k S'))) (fun _ _ _=>False)) ((p2,v2 k) :: (p1,v1 k) :: E0) S)
  (hdone:∀ (D:Nat) (S:Mem) (W:World),I n S→Step S0 w0 S W→w0.heap.size≤D→W.heap[D]?=some (.deferred (some []))→Q .normal { a with defers:={ target:=.collected D,args:=#[] } :: [] } W)
  (hstop:∀ (D k:Nat) (S:Mem) (W:World),k<n→Ix k S→Step S0 w0 S W→w0.heap.size≤D→W.heap[D]?=some (.deferred (some []))→Q (.exit id) { a with defers:={ target:=.collected D,args:=#[] } :: [] } W) :
  (Code.rangeFunc g #[p1,p2] assign body).wpIn Fence.wide 6 P Q a w:=by
 have hg:a.eval g = .func (.func gf) #[] lb:=hG.ev hgv
 have had:=hG.defers
 obtain ⟨Sw,hI0,hs0⟩:=h0
 have hle:=hs0.size
 refine wpIn_rangeFunc fun fn hfn=>?_
 obtain ⟨rec,hrec⟩ : ∃ rec:LoopState→Option Code→Loop,rec=fun st pe=>{ state:=st,pending:=pe,fn,tmps:=a.tmps,params:=#[p1,p2],assign,body,defers:=w.heap.size }:=⟨_,rfl⟩
 have put:∀ {S:Mem} {W:World} {l:Nat} {o:Obj} (o':Obj),Step S0 w0 S W→w.heap.size≤l→W.heap[l]?=some o→o.isCells=false→Step S0 w0 S (W.putObj l o'):=fun o' h hl ho hc =>
  h.grown (grownBy_putObj' _ _ o') fun r e=>by cases e;exact ⟨Nat.le_trans hle hl,_,ho,hc⟩
 obtain ⟨J,hJ⟩ : ∃ J:Nat→World→Prop,J=fun k W=>∃ S,I k S∧Step S0 w0 S W∧W.heap[w.heap.size+1]?=some (.loop (rec .ready none))∧W.heap[w.heap.size]?=some (.deferred (some [])):=⟨_,rfl⟩
 obtain ⟨Jx,hJx⟩ : ∃ Jx:Nat→World→Prop,Jx=fun k W=>∃ S,Ix k S∧Step S0 w0 S W∧W.heap[w.heap.size+1]?=some (.loop (rec .done (some (.exit id))))∧W.heap[w.heap.size]?=some (.deferred (some [])):=⟨_,rfl⟩
 obtain ⟨Wl,hWl⟩ : ∃ Wl,Wl=(w.alloc (.deferred (some []))).alloc (.loop (rec .ready none)):=⟨_,rfl⟩
 refine ⟨w.heap.size+1,[{ target:=.collected w.heap.size,args:=#[] }],Wl,{ target:=.fn (.func gf) lb,args:=#[.func (.yield (w.heap.size+1)) #[] #[]] },Wl,gf,#[.func (.yield (w.heap.size+1)) #[] #[]] ++ lb,Wl,by rw [hWl,hrec];exact run_enterLoop_outer _ _ _ _ _,?_,fun _ _=>trivial,?_,fun _=>by omega,?_⟩
 ·simp only [resolve,hg]
  simp [go_sem]
 ·simp [invoke,go_sem,eg]
 ·refine (hit (w.heap.size+1) J Jx _ (fun k W hk=>by
   rw [hJ] at hk ⊢
   obtain ⟨S,h1,h2,hl,hd⟩:=hk
   refine ⟨S,h1,h2.view,fun W' hst=>⟨S,h1,h2.trans hst,?_,?_⟩⟩
   ·exact (hst.others h2.view).same _ _ hl rfl
   ·exact (hst.others h2.view).same _ _ hd rfl) ?_ ?_).mono ?_
  ·intro k W hk hj
   rw [hJ] at hj
   obtain ⟨S,h1,h2,hl,hd⟩:=hj
   have hlt:w.heap.size+1<W.heap.size:=(Array.getElem?_eq_some_iff.1 hl).1
   have hy:=run_yield (P:=P) (args:=#[v1 k,v2 k]) hl (by rw [hrec];rfl)
   rw [hrec] at hy
   have ga:Good N ((p2,v2 k) :: (p1,v1 k) :: E0) { tmps:=((#[p1,p2] : Array Tmp).zip #[v1 k,v2 k]).foldl (fun t (p,v)=>t.setIfInBounds p v) a.tmps,defers:=[] }:=by
    have:=(hG.put hp1 (v1 k)).put hp2 (v2 k)
    have ez:((#[p1,p2] : Array Tmp).zip #[v1 k,v2 k]).foldl (fun t (p,v)=>t.setIfInBounds p v) a.tmps=(a.tmps.setIfInBounds p1 (v1 k)).setIfInBounds p2 (v2 k):=by simp
    rw [ez]
    exact ⟨this.size,rfl,this.at_⟩
   refine ⟨fn,_,assign,body,hy,roundIn_of_wpIn hfn (wpIn_mono (hround (w.heap.size+1) k S hk h1 _ W ga h2.view) fun e a' Wa hq=>?_)⟩
   obtain ⟨a1,ea,E1,S1,kq,g1,sa⟩:=hq
   subst ea
   cases e with
   | exit _=>exact kq.elim
   | goto _=>exact kq.elim
   | ret=>exact kq.elim
   | panic _=>exact kq.elim
   | outgrown=>exact kq.elim
   | normal=>?_
   have hl':=(sa.others h2.view).same _ _ hl rfl
   have hd':=(sa.others h2.view).same _ _ hd rfl
   have h2':=h2.trans sa
   have hlt':w.heap.size+1<Wa.heap.size:=(Array.getElem?_eq_some_iff.1 hl').1
   refine ⟨_,run_beginRound hl' (by rw [hrec]),?_⟩
   obtain ⟨W1,hW1⟩ : ∃ W1,W1=Wa.putObj (w.heap.size+1) (.loop { rec .ready none with state:=.busy }):=⟨_,rfl⟩
   have l1:W1.heap[w.heap.size+1]?=some (.loop { rec .ready none with state:=.busy }):=by rw [hW1];exact World.putObj_heap_same hlt'
   have d1:W1.heap[w.heap.size]?=some (.deferred (some [])):=by rw [hW1];exact (World.putObj_heap_other (by omega)).trans hd'
   have s1:Step S0 w0 S1 W1:=by rw [hW1];exact put _ h2' (by omega) hl' rfl
   rw [← hW1]
   refine wpIn_mono (kq a1 W1 g1 s1.view) fun e a3 W3 hp=>?_
   obtain ⟨a4,ea,E3,S3,hp,g3,s3⟩:=hp
   rcases hp with ⟨rfl,i3⟩ | ⟨rfl,i3⟩
   ·have ho:=s3.others s1.view
    have l3:=ho.same _ _ l1 rfl
    have d3:=ho.same _ _ d1 rfl
    have hlt3:w.heap.size+1<W3.heap.size:=(Array.getElem?_eq_some_iff.1 l3).1
    refine ⟨_,_,run_endRound (P:=P) none l3,.inl ⟨rfl,?_⟩⟩
    rw [hJ]
    refine ⟨S3,i3,put _ (s1.trans s3) (by omega) l3 rfl,?_,(World.putObj_heap_other (by omega)).trans d3⟩
    rw [World.putObj_heap_same hlt3,hrec]
    rfl
   ·have ho:=s3.others s1.view
    have l3:=ho.same _ _ l1 rfl
    have d3:=ho.same _ _ d1 rfl
    have hlt3:w.heap.size+1<W3.heap.size:=(Array.getElem?_eq_some_iff.1 l3).1
    refine ⟨_,_,run_endRound (P:=P) (some (.exit id)) l3,.inr ⟨rfl,?_⟩⟩
    rw [hJx]
    refine ⟨S3,i3,put _ (s1.trans s3) (by omega) l3 rfl,?_,(World.putObj_heap_other (by omega)).trans d3⟩
    rw [World.putObj_heap_same hlt3,hrec]
    rfl
  ·rw [hJ,hWl]
   refine ⟨Sw,hI0,(hs0.grown (World.grownBy_alloc w _ none) (fun r e=>by cases e)).grown (World.grownBy_alloc _ _ none) (fun r e=>by cases e),?_,?_⟩
   ·rw [hrec];have:=World.alloc_heap_new (w.alloc (.deferred (some []))) (.loop { state:=.ready,pending:=none,fn,tmps:=a.tmps,params:=#[p1,p2],assign,body,defers:=w.heap.size });rwa [World.size_alloc] at this
   ·exact (Below.heap_alloc _ _ _ (by simp)).trans (World.alloc_heap_new w _)
  ·rintro e W2 ⟨⟨v,rfl⟩,hj | ⟨k,hkn,hj⟩⟩
   ·rw [hJ] at hj
    obtain ⟨S,h1,h2,hl,hd⟩:=hj
    refine ⟨none,_,by have:=run_endLoop (P:=P) hl (by rw [hrec];simp);rw [hrec] at this;exact this,?_⟩
    rw [had]
    exact hdone _ S _ h1 (put _ h2 (by omega) hl rfl) hle ((World.putObj_heap_other (by omega)).trans hd)
   ·rw [hJx] at hj
    obtain ⟨S,h1,h2,hl,hd⟩:=hj
    refine ⟨some (.exit id),_,by have:=run_endLoop (P:=P) hl (by rw [hrec];simp);rw [hrec] at this;exact this,?_⟩
    rw [had]
    exact wpIn_exit (hstop _ k S _ hkn h1 (put _ h2 (by omega) hl rfl) hle ((World.putObj_heap_other (by omega)).trans hd))
end Mv
end Go.Proofs.YtckloanlkpchoaaGreatDoor
namespace Go.Proofs.YtckloanlkpchoaaGreatDoor
open Go.RowKit Go.Shelf
open Mv
attribute [local go_sem] Oper.semAt_some
namespace Pk
set_option maxRecDepth 100000 in
set_option maxHeartbeats 2000000 in
theorem backP_it (l Bs b off cap n : Nat) (pa : Nat → Option Addr) (pl pc : Nat → Nat) (hreach : n ≤ 16384) (J Jx : Nat → World → Prop) (W : World)
  (hK:∀ k W,J k W→W.cell? ⟨Bs,0,none⟩=some (.slice (some ⟨b,off,none⟩) n cap) ∧ ∀ j,j<n→W.cell? ⟨b,off+j,none⟩=some (.slice (pa j) (pl j) (pc j)))
  (hY:∀ k W,k<n→J k W→YieldAt Fence.wide 4 Tryz.prog l #[.int .i64 ((n-1-k:Nat):Int),.slice (pa (n-1-k)) (pl (n-1-k)) (pc (n-1-k))] W fun e W'=>(e = .returned (.bool true)∧J (k+1) W')∨(e = .returned (.bool false)∧Jx k W')) (h0:J 0 W) :
  CallsIn Fence.wide 5 Tryz.prog 141 #[.func (.yield l) #[] #[],.pointer (some ⟨Bs,0,none⟩)] W fun e W'=>(∃ v,e = .returned v)∧(J n W' ∨ ∃ k,k<n∧Jx k W'):=by
 refine callsIn_of_wp Tryz.func141 rfl trivial ?_ rfl
 simp only [Tryz.ntmps141,List.size_toArray,List.length_cons,List.length_nil,Nat.reduceAdd,Nat.reduceSub,Array.replicate_succ,Array.replicate_zero,List.push_toArray,List.append_toArray,List.nil_append,List.cons_append]
 have hBs:=(hK 0 W h0).1
 gi_wp2
 gi_loopw [3] (fun i wr=>∃ k:Nat,k≤n∧i = .int .i64 ((n:Int)-1-k)∧J k wr)
  (fun i _=>(intOf i+1).toNat)
 case atStart=>exact ⟨0,Nat.zero_le _,by simp,h0⟩
 case round =>
  obtain ⟨k,hk,rfl,hJs⟩:=hrel
  by_cases hlt:k<n
  ·obtain ⟨m,hm⟩ : ∃ m,n-1-k=m:=⟨_,rfl⟩
   have hm':(n:Int)-1-k=m:=by omega
   have hml:m<n:=by omega
   obtain ⟨fn,tmps,assign,body,hy,hR⟩:=hY k wr hlt hJs
   rw [hm] at hy
   rw [hm']
   have hc0:wr.cell? ⟨b,off+m,none⟩=some (.slice (pa m) (pl m) (pc m)):=(hK k wr hJs).2 m hml
   have hBs':=(hK k wr hJs).1
   gi_wp2
   refine hR.mono ?_
   rintro e W3 (⟨rfl,hJ3⟩ | ⟨rfl,hJx⟩)
   ·gi_wp2
    go_roundw
    case rel=>exact ⟨k+1,by omega,by simp;omega,hJ3⟩
    case measure=>simp [intOf]
   ·gi_wp2
    refine bodyPost_ret (results_none rfl _ _ _) rfl ?_
    exact ⟨⟨_,rfl⟩,.inr ⟨k,hlt,hJx⟩⟩
  ·obtain rfl:k=n:=by omega
   have e1:(k:Int)-1-k = -1:=by omega
   rw [e1]
   gi_wp2
   go_end0
   exact ⟨⟨_,rfl⟩,.inl hJs⟩
theorem goBk : goFn Tryz.prog 121 = true := by kernel_rfl
instance : TGo Tryz.prog 121 := ⟨goBk⟩
theorem pk_Backward (a : Option Addr) (n c : Nat) (S : Mem) : ACall Tryz.prog 121 #[.slice a n c] S fun r S' => ∃ b, Fresh S b ∧ r = .func (.func 141) #[] #[.pointer (some ⟨b, 0, none⟩)] ∧ S' = S.set b ⟨173, [.slice a n c], 1⟩ := by
 refine ACall.enter (rs:=[.tmp 2]) 4 [(0,.slice a n c)] Tryz.func121 rfl rfl (Nat.le_of_ble_eq_true rfl) rfl ⟨rfl,trivial⟩ ?_
 iterate 2 refine s1_ ?_
 refine ARun.box1 (lit_lt rfl) rfl rfl ?_
 intro b1 f1
 have g1:=f1
 repeat ((with_reducible replace g1:=fresh_set g1);obtain ⟨g1,_⟩:=g1)
 refine nl_ ?_
 iterate 9 refine s1_ ?_
 refine su_ [(0,_),(1,_),(2,_)] ?_
 refine s1_ ?_
 refine ⟨_,_,⟨_,_,rfl,rfl,rfl⟩,Mem.Less.refl _,?_⟩
 exact ⟨b1,f1,rfl,rfl⟩
end Pk
end Go.Proofs.YtckloanlkpchoaaGreatDoor
namespace Go.Proofs.YtckloanlkpchoaaGreatDoor
open Go.RowKit Go.Shelf
open Mv Srt
set_option maxRecDepth 4000
namespace Pk
/-- Levels, behind one slice. -/
structure Lvs (S : Mem) (ws : List Nat) (J a o : Nat) (pa : Nat → Option Addr) (pc : Nat → Nat) : Prop where
  at_ : ∀ j, j < J + 1 → S.Knows ⟨a, o + j, none⟩ [.slice (pa j) (lev ws j).length (pc j)]
  sl : ∀ j, j < J + 1 → Sl 3 itF S (.slice (pa j) (lev ws j).length (pc j)) (lev ws j)
theorem Lvs.less {S S' : Mem} {ws : List Nat} {J a o : Nat} {pa : Nat → Option Addr} {pc : Nat → Nat} (h : Lvs S ws J a o pa pc) (hl : S.Less S') : Lvs S' ws J a o pa pc := ⟨fun j hj => (h.at_ j hj).less hl, fun j hj => (h.sl j hj).less hl⟩
theorem lev_le (ws : List Nat) : ∀ j, (lev ws j).length ≤ 2 * ws.length
 | 0=>by rw [lev_zero,lvs];simp;omega
 | j+1=>by rw [lev_length];have:=lev_le ws j;omega
theorem set_gI' (l : List Nat) (i n : Nat) : (l.map gI).set i (gI n) = (l.set i n).map gI := by rw [List.map_set]
set_option maxHeartbeats 4000000 in
theorem pk_count (ws : List Nat) (J n m a o cap : Nat) (pa : Nat → Option Addr) (pc : Nat → Nat) (S : Mem) (hv : Lvs S ws J a o pa pc) (hup : Up ws) (hn : ws.length = n) (h2 : 2 ≤ n) (h3 : n ≤ 512) (hm : m = 2 * n - 2) (hml : m ≤ (lev ws J).length) (hJ : J ≤ 14) :
  ACall Tryz.prog 86 #[.slice (some ⟨a,o,none⟩) (J+1) cap,.int .i64 (n:Int)] S fun r S'=>∃ b,Fresh S b∧r = .slice (some ⟨b,0,none⟩) n n∧S'=S.set b ⟨3,((List.range n).map (many (cnts ws J m))).map gI,n⟩:=by
 refine ACall.enterR (args:=[.slice (some ⟨a,o,none⟩) (J+1) cap,.int .i64 (n:Int)]) (rs:=[.tmp 4]) 45 [(0,.slice (some ⟨a,o,none⟩) (J+1) cap),(1,.int .i64 (n:Int))] Tryz.func86 rfl rfl (Nat.le_of_ble_eq_true rfl) rfl ⟨rfl,rfl,trivial⟩ ?_
 refine AWPM.seqR (rs:=[.tmp 4]) rfl ?_
 refine AWP.region ?_
 refine k_e rfl ?_
 refine AWPM.seqR (rs:=[.tmp 4]) rfl ?_
 refine AWP.region ?_
 refine k_m rfl ?_
 refine ARun.makeSlice (lit_lt rfl) ty_sl_52 rfl rfl (by omega) (by omega) (by omega) (by omega) ?_
 intro b13 f13
 have g13:=f13
 repeat ((with_reducible replace g13:=fresh_set g13);obtain ⟨g13,_⟩:=g13)
 refine ARun.alloc (lit_lt rfl) ty_zero_52 ?_
 intro b5 f5
 have g5:=f5
 repeat ((with_reducible replace g5:=fresh_set g5);obtain ⟨g5,_⟩:=g5)
 try simp only [k_l1,k_l0,k_za,Nat.reduceAdd]
 refine ARun.store1 rfl rfl ty_size_52 rfl own_ lens_ rfl ?_
 try simp only [k_ms,k_sz,k_ss,k_za,Nat.reduceAdd]
 refine k_n ?_
 refine AWPM.sub [(0,_),(1,_),(4,_),(5,_)] ⟨rfl,rfl,rfl,rfl,trivial⟩ ?_
 refine AWPM.seqR (rs:=[.tmp 4]) rfl ?_
 refine AWP.region ?_
 refine k_m rfl ?_
 refine rC (Calm.bin rfl rfl b_mul_i64) ?_
 refine rC (Calm.bin rfl rfl b_sub_i64) ?_
 refine ARun.alloc (lit_lt rfl) ty_zero_3 ?_
 intro b6 f6
 have g6:=f6
 repeat ((with_reducible replace g6:=fresh_set g6);obtain ⟨g6,_⟩:=g6)
 try simp only [k_l1,k_l0,k_za,Nat.reduceAdd]
 refine ARun.store1 rfl rfl ty_size_3 rfl own_ lens_ rfl ?_
 try simp only [k_ms,k_sz,k_ss,k_za,Nat.reduceAdd]
 refine k_n ?_
 refine AWPM.sub [(0,_),(1,_),(4,_),(5,_),(6,_)] ⟨rfl,rfl,rfl,rfl,rfl,trivial⟩ ?_
 refine AWPM.seqM ?_
 refine AWPM.seq ?_
 refine AWP.region ?_
 refine k_m rfl ?_
 refine ARun.call (lit_lt rfl) go_121 rfl (pk_Backward _ _ _ _) ?_
 rintro _ _ ⟨q,fq,rfl,rfl⟩
 intro S0 w0 e w hs0 hg
 have gq:=fq
 repeat ((with_reducible replace gq:=fresh_set gq);obtain ⟨gq,_⟩:=gq)
 refine wpIn_block ?_
 have em:((n:Int)).toNat=n:=by omega
 have ez:madeL [Value.int .i64 0] n=(tbC n (cnK ws J m 0) 0).map gI:=by
  rw [madeL_one,tbC_zero]
  exact (List.eq_replicate_iff.2 ⟨by simp,fun v hv=>by obtain ⟨x,hx,rfl⟩:=List.mem_map.1 hv;obtain ⟨y,_,rfl⟩:=List.mem_map.1 hx;rfl⟩).symm
 have e2:(2*(n:Int)-2)=((nAt ws J m 0:Nat):Int):=by show _=((m:Nat):Int);omega
 simp only [em,Nat.mul_one,ez,e2] at hs0
 obtain ⟨M6,hM6⟩ : ∃ M6,M6=(S.set b5 ⟨52,[.slice (some ⟨b13,0,none⟩) n n],1⟩).set q ⟨173,[.slice (some ⟨a,o,none⟩) (J+1) cap],1⟩:=⟨_,rfl⟩
 have hM:S.Less M6:=by rw [hM6];exact less_
 have o5:M6.own b5=some ⟨52,[.slice (some ⟨b13,0,none⟩) n n],1⟩:=by rw [hM6];exact own_
 have oq:M6.own q=some ⟨173,[.slice (some ⟨a,o,none⟩) (J+1) cap],1⟩:=by rw [hM6];exact own_
 have f13':Fresh M6 b13:=by rw [hM6];exact fresh_more (fresh_more g13 ne_) ne_
 have f6':Fresh M6 b6:=by rw [hM6];exact fresh_more (fresh_more g6 ne_) ne_
 have n6:b6≠b13:=ne_
 have y5:b5≠b13:=f13'.ne o5
 have y6:b5≠b6:=f6'.ne o5
 replace hs0:Step S0 w0 ((M6.set b13 ⟨3,(tbC n (cnK ws J m 0) 0).map gI,n⟩).set b6 ⟨3,[.int .i64 ((nAt ws J m 0:Nat):Int)],1⟩) w:=hs0.less (by rw [hM6];exact less_)
 have hvM:=hv.less hM
 have hM6l:(S.set b13 ⟨3,((List.range n).map (many (cnts ws J m))).map gI,n⟩).Less ((M6.set b13 ⟨3,((List.range n).map (many (cnts ws J m))).map gI,n⟩).set b6 ⟨3,[.int .i64 ((nAt ws J m (J+1):Nat):Int)],1⟩):=by rw [hM6];exact less_
 clear hM6 fq gq f5 g5 f13 g6 f6 em ez e2
 have hlenM:∀ k,k≤J→nAt ws J m k≤(lev ws (J-k)).length:=fun k hk=>nAt_le ws hml k hk
 refine range_view3 (N:=45) (p1:=19) (p2:=20) (S0:=S0) (w0:=w0) (gf:=141) (lb:=#[.pointer (some ⟨q,0,none⟩)]) (J+1) 0 (fun k=>.int .i64 ((J+1-1-k:Nat):Int)) (fun k=>.slice (pa (J+1-1-k)) (lev ws (J+1-1-k)).length (pc (J+1-1-k))) (fun k Z=>Mem.Less ((M6.set b13 ⟨3,(tbC n (cnK ws J m k) 0).map gI,n⟩).set b6 ⟨3,[.int .i64 ((nAt ws J m k:Nat):Int)],1⟩) Z) (fun _ _=>False) [(4,.slice none 0 0),(5,.pointer (some ⟨b5,0,none⟩)),(6,.pointer (some ⟨b6,0,none⟩)),(18,.func (.func 141) #[] #[.pointer (some ⟨q,0,none⟩)])] (hg.sub ⟨rfl,rfl,rfl,rfl,trivial⟩) rfl (enters_of Tryz.func141 (by kernel_rfl) rfl) (lit_lt rfl) (lit_lt rfl) ?start ?it ?round ?done ?stop
 case start=>exact ⟨_,Mem.Less.refl _,hs0⟩
 case stop=>intro D k T W hk hx;exact hx.elim
 case it =>
  intro l J' Jx W hK hY hJ0
  refine backP_it l q a o cap (J+1) pa (fun j=>(lev ws j).length) pc (by omega) J' Jx W (fun k W hj=>?_) hY hJ0
  obtain ⟨Z,hl,hvw,_⟩:=hK k W hj
  have hMZ:=Mem.Less.trans (show M6.Less ((M6.set b13 ⟨3,(tbC n (cnK ws J m k) 0).map gI,n⟩).set b6 ⟨3,[.int .i64 ((nAt ws J m k:Nat):Int)],1⟩) from less_) hl
  refine ⟨?_,fun j hj=>?_⟩
  ·have:=(Mem.own_knows (hMZ.own oq) 0 [.slice (some ⟨a,o,none⟩) (J+1) cap] (fun j u hj=>by rw [Nat.zero_add];exact hj)) W hvw 0 _ rfl
   simpa [Addr.add] using this
  ·have:=((hvM.at_ j hj).less hMZ) W hvw 0 _ rfl
   simpa [Addr.add] using this
 case round =>
  intro l k Z hk hl
  refine GWP.less _ hl ?_
  have eJ:J+1-1-k=J-k:=by omega
  rw [eJ]
  have hmk:=hlenM k (by omega)
  obtain ⟨L,hL⟩ : ∃ L,L=lev ws (J-k):=⟨_,rfl⟩
  have hLv:L.filter isL=lvs ws 0 ws.length:=by rw [hL];exact (lev_ok hup _).lv
  have hsl:=hvM.sl (J-k) (by omega)
  have hcs:tbC n (cnK ws J m (k+1)) 0=tbC n (cnK ws J m k) (A L (nAt ws J m k)):=by rw [cnK_succ,tbC_snoc,hL]
  have hnx:nAt ws J m (k+1)=2*B L (nAt ws J m k):=by rw [hL];rfl
  rw [← hL] at hmk hsl ⊢
  rw [hcs,hnx]
  have hLn:1≤L.length:=by
   have h0:=congrArg List.length hLv
   have h1:(L.filter isL).length≤L.length:=List.length_filter_le _ _
   unfold lvs at h0
   rw [List.length_map,List.length_range'] at h0
   omega
  obtain ⟨pz,cz,he,l1,l2,l3⟩:=id hsl
  obtain ⟨rfl,rfl⟩ : pz=pa (J-k)∧cz=pc (J-k):=by injection he with h1 _ h2;exact ⟨h1.symm,h2.symm⟩
  obtain ⟨lb,lo,hpa,lkn⟩:=l3.resolve_left (fun e=>by rw [e] at hLn;simp at hLn)
  rw [hpa]
  obtain ⟨mk,hmk'⟩ : ∃ mk,mk=nAt ws J m k:=⟨_,rfl⟩
  rw [← hmk'] at hmk ⊢
  obtain ⟨ys,hys⟩ : ∃ ys,ys=cnK ws J m k:=⟨_,rfl⟩
  have hmany:∀ x,many ys x≤15:=fun x=>by
   unfold many
   refine Nat.le_trans List.countP_le_length ?_
   rw [hys];unfold cnK;rw [List.length_map,List.length_range];omega
  rw [← hys]
  have hBm:B L mk≤mk:=by unfold B;exact Nat.le_trans List.countP_le_length (by rw [List.length_take];omega)
  have hLle:L.length≤2*n:=by rw [hL,← hn];exact lev_le ws _
  refine GWP.region ?_
  refine k_e rfl ?_
  refine GWP.sub [(20,_),(4,_),(5,_),(6,_),(8,_)] ⟨rfl,rfl,rfl,rfl,rfl,trivial⟩ ?_
  refine GWP.block ?_
  refine GWP.seq ?_
  refine GWP.region ?_
  refine k_e rfl ?_
  refine GWP.seq ?_
  refine GWP.seq ?_
  refine GWP.region ?_
  refine k_m rfl ?_
  refine rC (ld_ ty_plain_3 rfl) ?_
  refine rC (Calm.sliceHi mk Tryz.underlying171 ty_size_214 rfl rfl rfl (by omega)) ?_
  refine rC (Calm.lenSl Tryz.underlying171 rfl) ?_
  refine k_m rfl (k_n ?_)
  refine GWP.sub [(20,_),(4,_),(5,_),(6,_),(8,_),(9,_),(23,_),(24,_),(25,_)] ⟨rfl,rfl,rfl,rfl,rfl,rfl,rfl,rfl,rfl,trivial⟩ ?_
  refine GWP.block ?_
  refine GWP.loop (X:=Nat) (fun i=>[(4,.slice none 0 0),(5,.pointer (some ⟨b5,0,none⟩)),(6,.pointer (some ⟨b6,0,none⟩)),(9,.int .i64 ((B L i:Nat):Int)),(23,.slice (some ⟨lb,lo,none⟩) mk (pc (J-k))),(24,.int .i64 (mk:Int)),(25,.int .i64 (i:Int))]) (fun i=>(M6.set b13 ⟨3,(tbC n ys (A L i)).map gI,n⟩).set b6 ⟨3,[.int .i64 (mk:Int)],1⟩) (fun i=>i≤mk) (fun i=>mk-i) (0) ⟨rfl,rfl,rfl,rfl,rfl,rfl,rfl,trivial⟩ (by rw [show A L 0=0 from rfl];exact Mem.Less.refl _) (Nat.zero_le _) ?_
  rintro i hi0
  (try dsimp only at *)
  by_cases hi:i<mk
  ·have hiL:i<L.length:=by omega
   have ki:=(lkn i hiL).less (show M6.Less ((M6.set b13 ⟨3,(tbC n ys (A L i)).map gI,n⟩).set b6 ⟨3,[.int .i64 (mk:Int)],1⟩) from less_)
   have hA:=A_succ hiL
   have hB:=B_succ hiL
   have hBi:B L i≤i:=Nat.le_trans List.countP_le_length (by rw [List.length_take];omega)
   refine GWP.seq ?_
   refine GWP.region ?_
   refine rC (Calm.bin rfl rfl b_lss) ?_
   refine k_n ?_
   refine GWP.seq ?_
   refine GWP.condT rfl (by first|rfl|(simp;done)|(simp;omega)) ?_
   by_cases hLf:isL L[i]=true
   ·rw [if_pos hLf] at hA hB
    obtain ⟨hleaf,hAn⟩:=leaf_at hLv hiL hLf
    rw [hn] at hAn
    have hcell:((tbC n ys (A L i)).map gI)[0+((A L i:Nat):Int).toNat*1]?=some (gI (many ys (A L i))):=by
     have h:=tbC_get ys (A L i) hAn
     rw [if_neg (Nat.lt_irrefl _),Nat.add_zero,List.getD_eq_getElem?_getD,List.getElem?_eq_getElem (by rw [tbC_length];exact hAn)] at h
     rw [show 0+((A L i:Nat):Int).toNat*1=A L i from by omega,List.getElem?_map,List.getElem?_eq_getElem (by rw [tbC_length];exact hAn)]
     exact congrArg some (congrArg gI h)
    have hmn:=hmany (A L i)
    rw [show itF L[i] = [.int .u64 (L[i].w:Int),.int .i64 ((A L i:Nat):Int),.int .i64 (L[i].first:Int)] from by unfold itF;rw [hleaf]] at ki
    refine GWP.skip ?_
    refine athen_n ?_
    refine GWP.seq ?_
    refine GWP.block ?_
    refine GWP.seq ?_
    refine GWP.region ?_
    refine rC (Calm.indexS Tryz.underlying171 ty_size_214 rfl rfl (by omega) (by omega)) ?_
    refine rC (ldA_ (cs:=[_,_,_]) ty_agg_214 ty_size_214 rfl) ?_
    refine ARun.alloc (lit_lt rfl) ty_zero_214 ?_
    intro b11 f11
    have g11:=f11
    repeat ((with_reducible replace g11:=fresh_set g11);obtain ⟨g11,_⟩:=g11)
    try simp only [k_l1,k_l0,k_za,Nat.reduceAdd]
    first|refine k_A rfl rfl ty_size_214 ?_|refine k_B rfl rfl ty_size_214 ?_
    try simp only [k_ms,k_sz,k_ss,k_za,Nat.reduceAdd]
    refine k_n ?_
    refine GWP.sub [(4,_),(5,_),(6,_),(9,_),(23,_),(24,_),(25,_),(26,_),(11,_)] ⟨rfl,rfl,rfl,rfl,rfl,rfl,rfl,rfl,rfl,trivial⟩ ?_
    have y11:b5≠b11:=g11.ne o5
    refine GWP.seq ?_
    refine GWP.region ?_
    refine rC (Calm.fieldAddr ty_field_214_1 rfl) ?_
    refine rC (ld_ ty_plain_3 rfl) ?_
    refine rC (Calm.bin rfl rfl b_geq) ?_
    refine k_n ?_
    refine GWP.sub [(4,_),(5,_),(6,_),(9,_),(23,_),(24,_),(25,_),(26,_),(11,_),(31,_)] ⟨rfl,rfl,rfl,rfl,rfl,rfl,rfl,rfl,rfl,rfl,trivial⟩ ?_
    refine GWP.condT rfl (by first|rfl|(simp;done)|(simp;omega)) ?_
    refine GWP.region ?_
    refine rC (ld_ ty_plain_52 rfl) ?_
    refine rC (Calm.fieldAddr ty_field_214_1 rfl) ?_
    refine rC (ld_ ty_plain_3 rfl) ?_
    refine rC (Calm.indexS Tryz.underlying52 ty_size_3 rfl rfl (by omega) (by omega)) ?_
    refine rC (Calm.load ty_plain_3 rfl (rd_own' own_ hcell)) ?_
    refine rC (Calm.bin rfl rfl (bin_addW (show IntKind.i64.wrap _=((many ys (A L i)+1:Nat):Int) from IntWalk.i64_in _ (by omega)))) ?_
    refine rC (Calm.indexS Tryz.underlying52 ty_size_3 rfl rfl (by omega) (by omega)) ?_
    refine ARun.store1 rfl rfl ty_size_3 rfl own_ (by show 0+((A L i:Nat):Int).toNat*1<((tbC n ys (A L i)).map gI).length;rw [List.length_map,tbC_length];omega) rfl ?_
    try simp only [k_ms,k_sz,k_ss,k_za,Nat.reduceAdd]
    refine arun_nil ?_
    refine ain_n ?_
    refine athen_n ?_
    refine GWP.sub [(4,_),(5,_),(6,_),(9,_),(23,_),(24,_),(25,_),(26,_),(11,_),(31,_)] ⟨rfl,rfl,rfl,rfl,rfl,rfl,rfl,rfl,rfl,rfl,trivial⟩ ?_
    refine GWP.region ?_
    refine rC (Calm.bin rfl rfl b_add_i64) ?_
    refine k_m rfl (k_n ?_)
    refine ⟨i+1,?_,?_,?_,?_⟩
    all_goals (try dsimp only)
    ·exact ⟨rfl,rfl,rfl,by rw [hB];rfl,rfl,rfl,rfl,trivial⟩
    ·(rw [hA,← tbC_step ys hAn,← set_gI',show ((A L i:Nat):Int).toNat*1=A L i from by omega];exact less_)
    ·omega
    ·omega
   ·rw [if_neg hLf] at hA hB
    have hneg:L[i].leaf<0:=by unfold isL at hLf;simpa using hLf
    unfold itF at ki
    refine GWP.skip ?_
    refine athen_n ?_
    refine GWP.seq ?_
    refine GWP.block ?_
    refine GWP.seq ?_
    refine GWP.region ?_
    refine rC (Calm.indexS Tryz.underlying171 ty_size_214 rfl rfl (by omega) (by omega)) ?_
    refine rC (ldA_ (cs:=[_,_,_]) ty_agg_214 ty_size_214 rfl) ?_
    refine ARun.alloc (lit_lt rfl) ty_zero_214 ?_
    intro b11 f11
    have g11:=f11
    repeat ((with_reducible replace g11:=fresh_set g11);obtain ⟨g11,_⟩:=g11)
    try simp only [k_l1,k_l0,k_za,Nat.reduceAdd]
    first|refine k_A rfl rfl ty_size_214 ?_|refine k_B rfl rfl ty_size_214 ?_
    try simp only [k_ms,k_sz,k_ss,k_za,Nat.reduceAdd]
    refine k_n ?_
    refine GWP.sub [(4,_),(5,_),(6,_),(9,_),(23,_),(24,_),(25,_),(26,_),(11,_)] ⟨rfl,rfl,rfl,rfl,rfl,rfl,rfl,rfl,rfl,trivial⟩ ?_
    refine GWP.seq ?_
    refine GWP.region ?_
    refine rC (Calm.fieldAddr ty_field_214_1 rfl) ?_
    refine rC (ld_ ty_plain_3 rfl) ?_
    refine rC (Calm.bin rfl rfl b_geq) ?_
    refine k_n ?_
    refine GWP.sub [(4,_),(5,_),(6,_),(9,_),(23,_),(24,_),(25,_),(26,_),(11,_),(31,_)] ⟨rfl,rfl,rfl,rfl,rfl,rfl,rfl,rfl,rfl,rfl,trivial⟩ ?_
    refine GWP.condF rfl (by first|rfl|(simp;done)|(simp;omega)) ?_
    refine GWP.region ?_
    refine k_m rfl ?_
    refine rC (Calm.bin rfl rfl b_add_i64) ?_
    refine k_s rfl ?_
    refine arun_nil ?_
    refine ain_n ?_
    refine athen_n ?_
    refine GWP.sub [(4,_),(5,_),(6,_),(9,_),(23,_),(24,_),(25,_),(26,_),(11,_),(31,_)] ⟨rfl,rfl,rfl,rfl,rfl,rfl,rfl,rfl,rfl,rfl,trivial⟩ ?_
    refine GWP.region ?_
    refine rC (Calm.bin rfl rfl b_add_i64) ?_
    refine k_m rfl (k_n ?_)
    refine ⟨i+1,?_,?_,?_,?_⟩
    all_goals (try dsimp only)
    ·exact ⟨rfl,rfl,rfl,by rw [hB];rfl,rfl,rfl,rfl,trivial⟩
    ·(rw [hA];exact less_)
    ·omega
    ·omega
  ·refine GWP.seq ?_
   refine GWP.region ?_
   refine rC (Calm.bin rfl rfl b_lss) ?_
   refine k_n ?_
   refine GWP.seq ?_
   refine GWP.condF rfl (by first|rfl|(simp;done)|(simp;omega)) ?_
   obtain rfl:i=mk:=by omega
   refine GWP.exit ?_
   refine athen_exit ?_
   refine athen_exit ?_
   refine ain_same ?_
   refine athen_n ?_
   refine GWP.region ?_
   refine k_m rfl ?_
   refine rC (Calm.bin rfl rfl (bin_mulW (show IntKind.i64.wrap _=((2*B L i:Nat):Int) from by rw [show (2:Int)*((B L i:Nat):Int)=((2*B L i:Nat):Int) from by omega];exact IntWalk.i64_in _ (by omega)))) ?_
   refine ARun.store1 rfl rfl ty_size_3 rfl own_ lens_ rfl ?_
   try simp only [k_ms,k_sz,k_ss,k_za,Nat.reduceAdd]
   refine arun_nil ?_
   refine ain_n ?_
   exact .inl ⟨rfl,Mem.Less.refl _⟩
 case done =>
  rintro D Z W hl hst hD hK
  replace hst:=hst.less hl
  clear hl hs0
  rw [tbC_zero,← cnts_eq] at hst
  refine GWP.endM (rs:=[.tmp 4]) (N:=45) rfl hst hD hK (hg.sub (show Sub [(4,.slice none 0 0),(5,.pointer (some ⟨b5,0,none⟩)),(6,.pointer (some ⟨b6,0,none⟩))] _ from ⟨rfl,rfl,rfl,trivial⟩)) ?_
  refine GWP.seq ?_
  refine GWP.region ?_
  refine rC (ld_ ty_plain_52 rfl) ?_
  refine k_e rfl ?_
  refine GWP.sub [(4,_),(5,_),(6,_)] ⟨rfl,rfl,rfl,trivial⟩ ?_
  refine GWP.ret ?_
  refine ⟨_,S.set b13 ⟨3,((List.range n).map (many (cnts ws J m))).map gI,n⟩,⟨_,_,rfl,rfl,rfl⟩,hM6l,?_⟩
  exact ⟨b13,g13,rfl,rfl⟩
end Pk
end Go.Proofs.YtckloanlkpchoaaGreatDoor
namespace Go.Proofs.YtckloanlkpchoaaGreatDoor
open Go.RowKit
open Mv Srt
set_option maxRecDepth 4000
namespace Pk
theorem pk_heavy (n : Nat) (S : Mem) (hn : n ≤ 1099511627776) : ACall Tryz.prog 117 #[.int .u64 (n : Int)] S fun r S' => r = .bool false ∧ S' = S := by
 refine ACall.enter (rs:=[.tmp 2]) 5 [(0,.int .u64 (n:Int))] Tryz.func117 rfl rfl (Nat.le_of_ble_eq_true rfl) rfl ⟨rfl,trivial⟩ ?_
 iterate 8 refine s1_ ?_
 refine rC (Calm.bin rfl rfl (bin_bool (bin_gtr _ _) (decide_eq_false (by omega)))) ?_
 iterate 3 refine s1_ ?_
 refine su_ [(0,_),(2,_)] ?_
 refine s1_ ?_
 refine ⟨_,S,⟨_,_,rfl,rfl,rfl⟩,less_,?_⟩
 exact ⟨rfl,rfl⟩
theorem goIF : goFn Tryz.prog 138 = true := by kernel_rfl
instance : TGo Tryz.prog 138 := ⟨goIF⟩
theorem goCF : goFn Tryz.prog 116 = true := by kernel_rfl
instance : TGo Tryz.prog 116 := ⟨goCF⟩
theorem pk_IndexFunc (l : List Nat) (v : Value) (S : Mem) (hv : RowR S v l) (hl : ∀ x ∈ l, x ≤ 1099511627776) :
  ACall Tryz.prog 138 #[v,.func (.func 117) #[] #[]] S fun r S'=>r = .int .i64 (-1)∧S'=S:=by
 obtain ⟨a,cap,rfl,hlc,hcap,hk⟩:=hv
 refine ACall.enter (rs:=[.tmp 4]) 19 [(0,.slice a l.length cap),(1,.func (.func 117) #[] #[])] Tryz.func138 rfl rfl (Nat.le_of_ble_eq_true rfl) rfl ⟨rfl,rfl,trivial⟩ ?_
 iterate 13 refine s1_ ?_
 refine su_ [(0,_),(1,_),(4,_),(7,_),(8,_)] ?_
 refine s1_ ?_
 refine AWP.loop (X:=Nat) (fun x=>[(0,.slice a l.length cap),(1,.func (.func 117) #[] #[]),(7,.int .i64 l.length),(8,.int .i64 x)]) (fun x=>S) (fun x=>x≤l.length) (fun x=>l.length-x) (0) ⟨rfl,rfl,rfl,rfl,trivial⟩ (Mem.Less.refl _) (Nat.zero_le _) ?_
 rintro k hk1
 (try dsimp only at *)
 by_cases hl':k<l.length
 ·obtain ⟨b,off,rfl,hkn⟩:=hk.resolve_left (by intro h;rw [h] at hl';exact absurd hl' (Nat.not_lt_zero _))
  have hkk:=hkn k hl'
  iterate 6 refine s1_ ?_
  refine cT_ ?_
  iterate 10 refine s1_ ?_
  refine su_ [(0,_),(1,_),(7,_),(8,_),(9,_),(5,_)] ?_
  iterate 7 refine s1_ ?_
  refine ARun.callV (lit_lt rfl) go_117 rfl rfl (pk_heavy l[k] S (hl _ (List.getElem_mem hl'))) ?_
  rintro _ S1 ⟨rfl,h1⟩
  rw [h1];clear h1 S1
  iterate 2 refine s1_ ?_
  refine su_ [(0,_),(1,_),(7,_),(8,_),(9,_),(5,_),(16,_)] ?_
  refine cF_ ?_
  iterate 8 refine s1_ ?_
  refine ⟨k+1,?_,?_,?_,?_⟩
  all_goals (try dsimp only)
  ·exact ⟨rfl,rfl,rfl,rfl,trivial⟩
  ·exact Mem.Less.refl _
  ·exact hl'
  ·omega
 ·iterate 6 refine s1_ ?_
  refine cF_ ?_
  iterate 11 refine s1_ ?_
  refine ⟨_,S,⟨_,_,rfl,rfl,rfl⟩,less_,?_⟩
  exact ⟨rfl,rfl⟩
theorem pk_ContainsFunc (l : List Nat) (v : Value) (S : Mem) (hv : RowR S v l) (hl : ∀ x ∈ l, x ≤ 1099511627776) :
  ACall Tryz.prog 116 #[v,.func (.func 117) #[] #[]] S fun r S'=>r = .bool false∧S'=S:=by
 obtain ⟨a,cap,rfl,_⟩:=id hv
 refine ACall.enter (rs:=[.tmp 4]) 9 [(0,.slice a l.length cap),(1,.func (.func 117) #[] #[])] Tryz.func116 rfl rfl (Nat.le_of_ble_eq_true rfl) rfl ⟨rfl,rfl,trivial⟩ ?_
 iterate 9 refine s1_ ?_
 refine ca_ rfl (pk_IndexFunc l _ S hv hl) ?_
 rintro _ S1 ⟨rfl,h1⟩
 rw [h1];clear h1 S1
 iterate 4 refine s1_ ?_
 refine su_ [(0,_),(1,_),(4,_)] ?_
 refine s1_ ?_
 refine ⟨_,S,⟨_,_,rfl,rfl,rfl⟩,less_,?_⟩
 exact ⟨rfl,rfl⟩
theorem pk_alphabet (l : List Nat) (v : Value) (S : Mem) (hv : RowR S v l) (hl : ∀ x ∈ l, x ≤ 1099511627776) (h5 : l.length ≤ 512) :
  ACall Tryz.prog 82 #[v] S fun r S'=>r = .bool true∧S'=S:=by
 obtain ⟨a,cap,rfl,_⟩:=id hv
 refine ACall.enter (rs:=[.tmp 2]) 11 [(0,.slice a l.length cap)] Tryz.func82 rfl rfl (Nat.le_of_ble_eq_true rfl) rfl ⟨rfl,trivial⟩ ?_
 iterate 9 refine s1_ ?_
 refine rC (Calm.bin rfl rfl (bin_bool (bin_leq _ _) (decide_eq_true (by omega)))) ?_
 iterate 2 refine s1_ ?_
 refine ARun.callG 3 true 6 rfl (lit_lt rfl) rfl (lit_lt rfl) go_116 rfl (pk_ContainsFunc l _ S hv hl) ?_
 rintro _ S1 ⟨rfl,h1⟩
 rw [h1];clear h1 S1
 iterate 5 refine s1_ ?_
 refine su_ [(0,_),(2,_)] ?_
 refine s1_ ?_
 refine ⟨_,S,⟨_,_,rfl,rfl,rfl⟩,less_,?_⟩
 exact ⟨rfl,rfl⟩
theorem pk_bits (n : Nat) (S : Mem) (h1 : 1 ≤ n) (h2 : n ≤ 15) : ACall Tryz.prog 83 #[.int .i64 (n : Int)] S fun r S' => r = .bool true ∧ S' = S := by
 refine ACall.enter (rs:=[.tmp 2]) 9 [(0,.int .i64 (n:Int))] Tryz.func83 rfl rfl (Nat.le_of_ble_eq_true rfl) rfl ⟨rfl,trivial⟩ ?_
 iterate 16 refine s1_ ?_
 refine su_ [(0,_),(2,_)] ?_
 refine s1_ ?_
 refine ⟨_,S,⟨_,_,rfl,rfl,rfl⟩,less_,?_⟩
 exact ⟨rfl,rfl⟩
theorem shl_one {k y : Nat} (h : k ≤ 15) (hy : 2 ^ k = y) : IntKind.i64.wrap (1 * 2 ^ (((k : Nat) : Int)).toNat) = (y : Int) := by
 rw [Int.toNat_natCast]
 have:(2:Int) ^ k=(y:Int):=by rw [← hy,Int.natCast_pow];rfl
 rw [this,Int.one_mul]
 have:=Nat.pow_le_pow_right (show 0<2 by decide) h
 rw [hy] at this
 exact IntWalk.i64_in _ (by omega)
theorem used_take (ls : List Nat) (m : Nat) {i : Nat} (h : i < ls.length) : Cn.used (ls.take (i + 1)) m = Cn.used (ls.take i) m + if 1 ≤ ls.getD i 0 ∧ ls.getD i 0 ≤ m then 2 ^ (m - ls.getD i 0) else 0 := by
 unfold Cn.used
 rw [List.take_succ_eq_append_getElem h,List.map_append,List.sum_append,List.getD_eq_getElem?_getD,List.getElem?_eq_getElem h]
 simp
theorem used_take_le (ls : List Nat) (m i : Nat) : Cn.used (ls.take i) m ≤ Cn.used ls m := by
 have h:Cn.used ls m=Cn.used (ls.take i) m+Cn.used (ls.drop i) m:=by
  unfold Cn.used
  rw [← List.sum_append,← List.map_append,List.take_append_drop]
 omega
theorem pk_Room (ls : List Nat) (v : Value) (S : Mem) (hv : IdxR S v ls) (hl : ∀ x ∈ ls, x ≤ 15) (h5 : ls.length ≤ 512) (hu : Cn.used ls 15 ≤ 32768) :
  ACall Tryz.prog 136 #[v,.int .i64 15] S fun r S'=>r = .tuple #[.int .i64 ((32768-Cn.used ls 15:Nat):Int),.int .i64 0]∧S'=S:=by
 obtain ⟨a,cap,rfl,hlc,hcap,hk⟩:=id hv
 refine ACall.enter (rs:=[.tmp 4,.tmp 5]) 44 [(0,.slice a ls.length cap),(1,.int .i64 15)] Tryz.func136 rfl rfl (Nat.le_of_ble_eq_true rfl) rfl ⟨rfl,rfl,trivial⟩ ?_
 iterate 10 refine s1_ ?_
 refine ca_ rfl (pk_bits 15 S (by decide) (by decide)) ?_
 rintro _ S1 ⟨rfl,h1⟩
 rw [h1];clear h1 S1
 iterate 8 refine s1_ ?_
 refine su_ [(0,_),(1,_),(4,_),(5,_),(16,_)] ?_
 refine cF_ ?_
 iterate 5 refine s1_ ?_
 refine rC (Calm.bin rfl rfl (bin_valS (bin_shl (by decide) (by decide)) (show _=((32768:Nat):Int) from by decide))) ?_
 iterate 3 refine s1_ ?_
 refine su_ [(0,_),(1,_),(4,_),(5,_),(16,_),(6,_)] ?_
 iterate 9 refine s1_ ?_
 refine AWP.loop (X:=Nat) (fun i=>[(1,.int .i64 15),(6,.int .i64 ((32768-Cn.used (ls.take i) 15:Nat):Int)),(19,.slice a ls.length cap),(20,.int .i64 ls.length),(21,.int .i64 i)]) (fun _=>S) (fun i=>i≤ls.length) (fun i=>ls.length-i) (0) ⟨rfl,rfl,rfl,rfl,rfl,trivial⟩ (Mem.Less.refl _) (Nat.zero_le _) ?_
 rintro i hi
 (try dsimp only at *)
 by_cases hl':i<ls.length
 ·obtain ⟨b,off,rfl,hkn⟩:=hk.resolve_left (by intro h;rw [h] at hl';exact absurd hl' (Nat.not_lt_zero _))
  have ki:=hkn i hl'
  have hx:=hl _ (List.getElem_mem hl')
  have ht:=used_take ls 15 hl'
  have hle:=used_take_le ls 15 (i+1)
  rw [show ls.getD i 0=ls[i] from getD_of hl'] at ht
  generalize ls[i]=x at *
  iterate 6 refine s1_ ?_
  refine cT_ ?_
  iterate 11 refine s1_ ?_
  refine su_ [(1,_),(6,_),(19,_),(20,_),(21,_),(22,_),(8,_)] ?_
  iterate 13 refine s1_ ?_
  refine su_ [(1,_),(6,_),(19,_),(20,_),(21,_),(22,_),(8,_),(25,_)] ?_
  refine cF_ ?_
  by_cases h0:0<x
  ·rw [if_pos ⟨h0,hx⟩] at ht
   obtain ⟨y,hy⟩ : ∃ y,2 ^ (15-x)=y:=⟨_,rfl⟩
   rw [hy] at ht
   have h15:(15:Int)-(x:Int)=((15-x:Nat):Int):=by omega
   iterate 7 refine s1_ ?_
   refine su_ [(1,_),(6,_),(19,_),(20,_),(21,_),(22,_),(8,_),(25,_),(33,_)] ?_
   refine cT_ ?_
   iterate 5 refine s1_ ?_
   refine rC (Calm.bin rfl rfl (bin_valS (bin_shl (by omega) (show (15:Int)-(x:Int)≤64 from by omega)) (h15 ▸ shl_one (by omega) hy))) ?_
   iterate 6 refine s1_ ?_
   refine su_ [(1,_),(6,_),(19,_),(20,_),(21,_),(22,_),(8,_),(25,_),(33,_)] ?_
   iterate 5 refine s1_ ?_
   refine ⟨i+1,?_,?_,?_,?_⟩
   all_goals (try dsimp only)
   ·exact ⟨rfl,(by rw [ht];exact congrArg some (congrArg (Value.int .i64) (by omega))),rfl,rfl,rfl,trivial⟩
   ·exact Mem.Less.refl _
   ·exact hl'
   ·omega
  ·rw [if_neg (by omega)] at ht
   iterate 7 refine s1_ ?_
   refine su_ [(1,_),(6,_),(19,_),(20,_),(21,_),(22,_),(8,_),(25,_),(33,_)] ?_
   refine cF_ ?_
   iterate 9 refine s1_ ?_
   refine ⟨i+1,?_,?_,?_,?_⟩
   all_goals (try dsimp only)
   ·exact ⟨rfl,(by rw [ht];rfl),rfl,rfl,rfl,trivial⟩
   ·exact Mem.Less.refl _
   ·exact hl'
   ·omega
 ·obtain rfl:i=ls.length:=by omega
  iterate 6 refine s1_ ?_
  refine cF_ ?_
  rw [List.take_length]
  iterate 12 refine s1_ ?_
  refine su_ [(1,_),(6,_),(19,_),(20,_),(21,_),(22,_),(4,_),(5,_)] ?_
  refine s1_ ?_
  refine ⟨_,S,⟨_,_,rfl,⟨_,_,rfl,rfl,rfl⟩,rfl⟩,less_,?_⟩
  exact ⟨rfl,rfl⟩
end Pk
end Go.Proofs.YtckloanlkpchoaaGreatDoor
namespace Go.Proofs.YtckloanlkpchoaaGreatDoor
open Go.RowKit
open Mv
namespace Mv
/-- No block of what is known to be fixed. -/
def RoFree (M : Mem) (b : Nat) : Prop := ∀ a v, M.ro a = some v → a.block ≠ b
/-- A slice that grows, and is owned. -/
structure Gro (M : Mem) (o : Option (Nat × Nat)) (e : TypeId) (cs : List Value) : Prop where
  nil : o = none → cs = []
  own : ∀ b c, o = some (b, c) → M.own b = some ⟨e, cs, c⟩ ∧ cs.length ≤ c ∧ RoFree M b
def Away (o : Option (Nat × Nat)) (b : Nat) : Prop := ∀ q c, o = some (q, c) → q ≠ b
def Apart (o o' : Option (Nat × Nat)) : Prop := ∀ q c, o = some (q, c) → Away o' q
theorem Away.nil (b : Nat) : Away none b := fun q c h => by cases h
theorem Apart.nil (o : Option (Nat × Nat)) : Apart none o := fun q c h => by cases h
theorem Apart.symm {o o' : Option (Nat × Nat)} (h : Apart o o') : Apart o' o := fun q c e q' c' e' h' => h q' c' e' q c e h'.symm
theorem Gro.empty (M : Mem) (e : TypeId) : Gro M none e [] := ⟨fun _ => rfl, fun b c h => by cases h⟩
theorem Gro.set {M : Mem} {o : Option (Nat × Nat)} {e : TypeId} {cs : List Value} (h : Gro M o e cs) {b : Nat} (r : Blk) (ha : Away o b) : Gro (M.set b r) o e cs :=
 ⟨h.nil,fun q c eq=>⟨(Mem.own_set_other _ _ (ha q c eq)).trans (h.own q c eq).1,(h.own q c eq).2.1,(h.own q c eq).2.2⟩⟩
/-- What a step leaves as it was: all that is owned, but one slice's block; b is new to it. -/
structure Left (M M' : Mem) (o : Option (Nat × Nat)) (b : Nat) : Prop where
  own : ∀ x r, M.own x = some r → (∀ c, o ≠ some (x, c)) → M'.own x = some r ∧ x ≠ b
  ro : M'.ro = M.ro
theorem Left.gro {M M' : Mem} {o o' : Option (Nat × Nat)} {b : Nat} {e : TypeId} {cs : List Value} (h : Left M M' o b) (hg : Gro M o' e cs) (ha : Apart o o') : Gro M' o' e cs ∧ Away o' b := by
 refine ⟨⟨hg.nil,fun q c e=>?_⟩,fun q c e=>?_⟩
 ·obtain ⟨h1,h2,h3⟩:=hg.own q c e
  exact ⟨(h.own q _ h1 (fun c' e'=>ha q c' e' q c e rfl)).1,h2,fun a v hv=>h3 a v (by rw [← h.ro];exact hv)⟩
 ·obtain ⟨h1,_⟩:=hg.own q c e
  exact (h.own q _ h1 (fun c' e'=>ha q c' e' q c e rfl)).2
theorem Left.less {B M M' : Mem} {o : Option (Nat × Nat)} {b : Nat} (h : Left M M' o b) (hB : B.Less M) (ho : ∀ q c, o = some (q, c) → B.own q = none) : B.Less M' ∧ B.own b = none := by
 have key:∀ x r,B.own x=some r→M'.own x=some r∧x≠b:=fun x r hx=>h.own x r (hB.1 x r hx) (fun c e=>by have:=ho x c e;rw [hx] at this;cases this)
 refine ⟨⟨fun x r hx=>(key x r hx).1,hB.2.trans h.ro.symm⟩,?_⟩
 cases hb:B.own b with
 | none=>rfl
 | some r=>exact absurd rfl (key b r hb).2
theorem Left.at_ {M M' : Mem} {o : Option (Nat × Nat)} {b x : Nat} {r : Blk} (h : Left M M' o b) (hx : M.own x = some r) (ha : Away o x) : M'.own x = some r ∧ x ≠ b :=
 h.own x r hx fun c e=>ha x c e rfl
/-- The memory without a growing slice's block. -/
def delo (M : Mem) : Option (Nat × Nat) → Mem
  | none => M
  | some q => M.del q.1
theorem delo_ro (M : Mem) (o : Option (Nat × Nat)) : (delo M o).ro = M.ro := by cases o <;> rfl
theorem delo_own {M : Mem} {o : Option (Nat × Nat)} {x : Nat} {r : Blk} (hx : M.own x = some r) (ho : ∀ c, o ≠ some (x, c)) : (delo M o).own x = some r := by
 cases o with
 | none=>exact hx
 | some q=>exact (Mem.own_del_other _ (fun e=>ho q.2 (by rw [e]))).trans hx
section
variable {P : Program} {N : Nat} {E : Env} {M : Mem} {ops : Array Oper} {ty : TypeId} {pos : String} {aft : Array Edge}
theorem ARun.appendG {os : List Oper} {K : Env → Mem → Prop} {T e : TypeId} {y : Nat} {z : Value} {x1 x2 : Operand} {o : Option (Nat × Nat)} {n : Nat} {cs news : List Value} {a2 : Addr} {m c2 d : Nat} (hn : d < N) (hT : slT P T = some (e, 1, y, [z]))
  (hx:ev E x1=some (outV o n)) (hcs:cs.length=n) (hg:Gro M o e cs)
  (hy:ev E x2=some (.slice (some a2) m c2)) (hnews:M.rds a2 news) (hnl:news.length=m) (hm:0<m) (h1:∀ v ∈ news,v.oneCell'=true) (hfit:(n+m)*y≤140737488355328) (h63:n+m≤9223372036854775807)
  (h:∀ b c M',Gro M' (some (b,c)) e (cs ++ news)→Left M M' o b→ARun P N ops os K ((d,outV (some (b,c)) (n+m)) :: E) M') :
  ARun P N ops (⟨some d,.call ⟨.builtin .append,#[x1,x2],#[T,T]⟩,ty,pos,aft,none⟩ :: os) K E M:=by
 refine ARun.appendO (S:=delo M o) hn hT hx hcs ⟨fun ho=>?_,fun b c ho=>?_⟩ hy hnews hnl hm h1 hfit h63 fun b c hok=>?_
 ·subst ho;exact ⟨hg.nil rfl,Mem.Less.refl _⟩
 ·subst ho;exact ⟨(hg.own b c rfl).1,Mem.Less.refl _⟩
 ·obtain ⟨hf,hbc⟩:=hok.own b c rfl
  refine h b c _ ⟨fun e=>(by cases e),fun b' c' e=>?_⟩ ⟨fun x r hx ho=>?_,?_⟩
  ·cases e
   exact ⟨Mem.own_set_same _ _ _,by rw [List.length_append];omega,fun a v hv=>hf.2 a v hv⟩
  ·have hd:=delo_own hx ho
   have hne:x≠b:=hf.ne hd
   exact ⟨(Mem.own_set_other _ _ hne).trans hd,hne⟩
  ·show (delo M o).ro=M.ro;exact delo_ro M o
end
end Mv
end Go.Proofs.YtckloanlkpchoaaGreatDoor
namespace Go.Proofs.YtckloanlkpchoaaGreatDoor
open Go.RowKit
open Mv Srt
set_option maxRecDepth 4000
namespace Pk
def lvV (ws : List Nat) (pa : Nat → Option Addr) (pc : Nat → Nat) (j : Nat) : Value := .slice (pa j) (lev ws j).length (pc j)
def zB : Blk := ⟨3, (List.replicate 258 0).map gI, 258⟩
/-- What holds while levels are made. -/
structure LI (S : Mem) (ws : List Nat) (b : Nat) (MB M : Mem) (k : Nat) (o : Option (Nat × Nat)) (pa : Nat → Option Addr) (pc : Nat → Nat) : Prop where
  base : S.Less MB
  less : MB.Less M
  nb : MB.own b = none
  no : ∀ q c, o = some (q, c) → MB.own q = none
  aw : Away o b
  ob : M.own b = some zB
  gro : Gro M o 171 ((List.range k).map (lvV ws pa pc))
  sl : ∀ j, j < k → Sl 3 itF MB (lvV ws pa pc j) (lev ws j)
section
variable {S : Mem} {ws : List Nat} {b : Nat} {MB M M' : Mem} {k : Nat} {o : Option (Nat × Nat)} {pa : Nat → Option Addr} {pc : Nat → Nat}
theorem gAway {o : Option (Nat × Nat)} {e : TypeId} {cs : List Value} {x : Nat} (h : Gro M o e cs) (hx : Fresh M x) : Away o x := fun q k e' => hx.ne (h.own q k e').1
theorem LI.temp (h : LI S ws b MB M k o pa pc) {x : Nat} (hx : Fresh M x) (r : Blk) : LI S ws b MB (M.set x r) k o pa pc :=
 { h with
  less:=h.less.trans (Mem.less_set _ _ _ hx.1)
  ob:=(Mem.own_set_other _ _ (hx.ne h.ob)).trans h.ob
  gro:=h.gro.set r (gAway h.gro hx) }
theorem LI.base' (h : LI S ws b MB M k o pa pc) {x : Nat} (hx : Fresh M x) (r : Blk) : LI S ws b (MB.set x r) (M.set x r) k o pa pc := by
 have h1:=h.temp hx r
 have hf:MB.own x=none:=(hx.less h.less).1
 exact { h1 with
  base:=h.base.trans (Mem.less_set _ _ _ hf)
  less:=⟨fun y r' hy=>by
   by_cases e:y=x
   ·subst e;rw [Mem.own_set_same] at hy ⊢;exact hy
   ·rw [Mem.own_set_other _ _ e] at hy ⊢;exact h.less.1 y r' hy,h.less.2⟩
  nb:=(Mem.own_set_other _ _ (hx.ne h.ob)).trans h.nb
  no:=fun q c e=>(Mem.own_set_other _ _ (gAway h.gro hx q c e)).trans (h.no q c e)
  sl:=fun j hj=>(h.sl j hj).less (Mem.less_set _ _ _ hf) }
theorem LI.push (h : LI S ws b MB M k o pa pc) {q c : Nat} (hl : Mv.Left M M' o q) {pz : Option Addr} {cz : Nat} (hz : Sl 3 itF MB (.slice pz (lev ws k).length cz) (lev ws k)) (hg : Gro M' (some (q, c)) 171 ((List.range k).map (lvV ws pa pc) ++ [.slice pz (lev ws k).length cz])) :
  LI S ws b MB M' (k+1) (some (q,c)) (fun j=>if j=k then pz else pa j) (fun j=>if j=k then cz else pc j):=by
 obtain ⟨l1,l2⟩:=hl.less h.less h.no
 obtain ⟨q1,q2⟩:=hl.at_ h.ob h.aw
 have e1:∀ j,j≠k→lvV ws (fun j=>if j=k then pz else pa j) (fun j=>if j=k then cz else pc j) j=lvV ws pa pc j:=fun j hj=>by simp only [lvV,if_neg hj]
 have e2:lvV ws (fun j=>if j=k then pz else pa j) (fun j=>if j=k then cz else pc j) k = .slice pz (lev ws k).length cz:=by simp only [lvV,if_pos]
 refine { h with less:=l1,no:=fun q' c' e=>by cases e;exact l2,aw:=fun q' c' e=>by cases e;exact Ne.symm q2,ob:=q1,gro:=?_,sl:=fun j hj=>?_ }
 ·rw [List.range_succ,List.map_append,List.map_cons,List.map_nil,e2,List.map_congr_left (g:=lvV ws pa pc) fun j hj=>e1 j (by have:=List.mem_range.1 hj;omega)]
  exact hg
 ·by_cases e:j=k
  ·subst e;rw [e2];exact hz
  ·rw [e1 j e];exact h.sl j (by omega)
theorem LI.lvs (h : LI S ws b MB M (k + 1) o pa pc) : ∃ q c, o = some (q, c) ∧ k + 1 ≤ c ∧ Lvs M ws k q 0 pa pc := by
 cases ho:o with
 | none =>
  have:=h.gro.nil ho
  rw [List.range_succ,List.map_append] at this
  simp at this
 | some w =>
  obtain ⟨q,c⟩:=w
  obtain ⟨h1,h2,_⟩:=h.gro.own q c ho
  rw [List.length_map,List.length_range] at h2
  refine ⟨q,c,rfl,h2,fun j hj=>?_,fun j hj=>(h.sl j hj).less h.less⟩
  have hj':((List.range (k+1)).map (lvV ws pa pc))[j]?=some (lvV ws pa pc j):=by rw [List.getElem?_map,List.getElem?_range hj];rfl
  exact Mem.own_knows h1 (0+j) _ (fun i v hi=>by
   match i,hi with
   | 0,hi=>cases hi;rw [Nat.zero_add,Nat.add_zero];exact hj')
theorem LI.next (h : LI S ws b MB M k o pa pc) {o' : Option (Nat × Nat)} (ho : OkO M o' (lev ws k).length) (h1 : 1 ≤ (lev ws k).length) (h2 : (lev ws k).length ≤ 9223372036854775807) :
  ∃ q cz,outV o' (lev ws k).length = .slice (some ⟨q,0,none⟩) (lev ws k).length cz ∧ ∃ MB',LI S ws b MB' (outN 3 M o' 214 ((lev ws k).flatMap itF)) k o pa pc∧Sl 3 itF MB' (.slice (some ⟨q,0,none⟩) (lev ws k).length cz) (lev ws k):=by
 cases e:o' with
 | none=>have:=ho.nil e;omega
 | some w =>
  obtain ⟨q,c⟩:=w
  subst e
  have hf:=(ho.own q c rfl).1
  refine ⟨q,c,rfl,outN 3 MB (some (q,c)) 214 ((lev ws k).flatMap itF),h.base' hf _,?_⟩
  have ho':OkO MB (some (q,c)) (lev ws k).length:=⟨fun e=>(by cases e),fun b' c' e=>⟨((ho.own b' c' e).1).less h.less,(ho.own b' c' e).2⟩⟩
  exact sl_outN it_len ho' rfl h2
theorem LI.start (hb : Fresh S b) : LI S ws b S (S.set b zB) 0 none (fun _ => none) (fun _ => 0) where
 base:=Mem.Less.refl _
 less:=Mem.less_set _ _ _ hb.1
 nb:=hb.1
 no:=fun q c e=>by cases e
 aw:=fun q c e=>by cases e
 ob:=Mem.own_set_same _ _ _
 gro:=Gro.empty _ _
 sl:=fun j h=>absurd h (Nat.not_lt_zero _)
end
theorem left_none {M : Mem} {q : Nat} (r : Blk) (hq : Fresh M q) : Mv.Left M (M.set q r) none q := ⟨fun x r' hx _ => ⟨(Mem.own_set_other _ _ (hq.ne hx)).trans hx, hq.ne hx⟩, rfl⟩
theorem gro_one {M : Mem} {q : Nat} {e : TypeId} {v : Value} (hq : Fresh M q) : Gro (M.set q ⟨e, [v], 1⟩) (some (q, 1)) e [v] := ⟨fun e => (by cases e), fun b c e => by cases e; exact ⟨Mem.own_set_same _ _ _, Nat.le_refl _, fun a v hv => hq.2 a v hv⟩⟩
theorem mem_nx {ws : List Nat} {x : It} : ∀ (ps : List (Nat × Nat)) (k : Nat), x ∈ nx ws ps k → (∃ j, x = lf ws j) ∨ ∃ p ∈ ps, x = pk p
 | [],k,h=>by
  unfold nx lvs at h
  obtain ⟨j,_,rfl⟩:=List.mem_map.1 h
  exact .inl ⟨j,rfl⟩
 | p :: ps,k,h=>by
  unfold nx at h
  rcases List.mem_append.1 h with h | h
  ·unfold lvs at h
   obtain ⟨j,_,rfl⟩:=List.mem_map.1 h
   exact .inl ⟨j,rfl⟩
  ·rcases List.mem_cons.1 h with h | h
   ·exact .inr ⟨p,List.mem_cons_self ..,h⟩
   ·rcases mem_nx ps _ h with h | ⟨q,hq,h⟩
    ·exact .inl h
    ·exact .inr ⟨q,List.mem_cons_of_mem _ hq,h⟩
theorem getD_le {C : Nat} : ∀ (ws : List Nat), (∀ w ∈ ws, w ≤ C) → ∀ j, ws.getD j 0 ≤ C := fun ws h j => by
 rw [List.getD_eq_getElem?_getD]
 rcases Nat.lt_or_ge j ws.length with q | q
 ·rw [List.getElem?_eq_getElem q];exact h _ (List.getElem_mem q)
 ·rw [List.getElem?_eq_none q];exact Nat.zero_le _
theorem lev_w {ws : List Nat} {C : Nat} (h : ∀ w ∈ ws, w ≤ C) : ∀ j, ∀ x ∈ lev ws j, x.w ≤ C * 2 ^ j
 | 0,x,hx=>by
  rcases mem_nx [] 0 hx with ⟨j,rfl⟩ | ⟨p,hp,_⟩
  ·have:=getD_le ws h j
   show ws.getD j 0≤_;omega
  ·cases hp
 | j+1,x,hx=>by
  rcases mem_nx (prs (lev ws j)) 0 hx with ⟨i,rfl⟩ | ⟨p,hp,rfl⟩
  ·have:=getD_le ws h i
   show ws.getD i 0≤_
   exact Nat.le_trans this (Nat.le_mul_of_pos_right _ (Nat.two_pow_pos _))
  ·unfold prs at hp
   obtain ⟨i,_,rfl⟩:=List.mem_map.1 hp
   have hm:∀ w ∈ (lev ws j).map It.w,w≤C*2 ^ j:=fun w hw=>by obtain ⟨y,hy,rfl⟩:=List.mem_map.1 hw;exact lev_w h j y hy
   have h1:=getD_le _ hm (2*i)
   have h2:=getD_le _ hm (2*i+1)
   show _+_≤C*2 ^ (j+1)
   rw [Nat.pow_succ,← Nat.mul_assoc];omega
theorem own_less {M : Mem} {b : Nat} {r : Blk} (h : M.own b = some r) : (M.set b r).Less M := ⟨fun k r' hk => by
 by_cases e:k=b
 ·subst e;rw [Mem.own_set_same] at hk;rw [h];exact hk
 ·rw [Mem.own_set_other _ _ e] at hk;exact hk,rfl⟩
theorem lessSkip {A B : Mem} {b : Nat} {r : Blk} (h : A.Less B) (hb : A.own b = none) : A.Less (B.set b r) := ⟨fun k r' hk => by
 by_cases e:k=b
 ·subst e;rw [hb] at hk;cases hk
 ·rw [Mem.own_set_other _ _ e];exact h.1 k r' hk,h.2⟩
theorem lev0 (ws : List Nat) : nx ws (prs []) 0 = lev ws 0 := rfl
set_option maxHeartbeats 8000000 in
theorem pk_Lengths (v : Value) (wt : List Nat) (S : Mem) (hv : RowR S v wt) (hl : wt.length = 258) (hb : ∀ x ∈ wt, x ≤ 1000) (h2 : 2 ≤ (order wt).length) :
  ACall Tryz.prog 48 #[v,.int .i64 15] S fun r S'=>∃ u,r = .tuple #[u,.int .i64 0]∧RdL gI (lengthsP wt 15) S u S':=by
 have hol:(order wt).length≤258:=by
  rw [(order_law wt).2.1]
  refine Nat.le_trans (List.length_filter_le _ _) ?_
  rw [List.length_range,hl];exact Nat.le_refl _
 obtain ⟨pa,ca,rfl,w1,w2,w3⟩:=id hv
 rw [hl] at hv w1 w2 ⊢
 obtain ⟨ws,hws⟩ : ∃ ws,ws=wso wt:=⟨_,rfl⟩
 have hwsd:(order wt).map (fun i=>wt.getD i 0)=ws:=by rw [hws];rfl
 have hwl:ws.length=(order wt).length:=by rw [hws];unfold wso;simp
 have hup:Up ws:=by rw [hws];exact (order_law wt).2.2
 have hwb:∀ w ∈ ws,w≤1000:=fun w hw=>by
  rw [hws] at hw
  obtain ⟨i,hi,rfl⟩:=List.mem_map.1 hw
  exact getD_le wt hb i
 have hom:∀ i ∈ order wt,i<wt.length:=fun i hi=>(order_mem hi).1
 obtain ⟨n,hn⟩ : ∃ n,n=(order wt).length:=⟨_,rfl⟩
 have hlong:2*n-2≤(lev ws 14).length:=by
  have:=(Pk.lengths_law (wt:=wt) (limit:=15) (by decide) h2 (Nat.le_trans hol (by decide))).1
  rw [hws,hn];exact this
 have hlev1:∀ j,1≤(lev ws j).length:=fun j=>by
  have h0:=congrArg List.length (lev_ok hup j).lv
  have h1:((lev ws j).filter isL).length≤(lev ws j).length:=List.length_filter_le _ _
  unfold lvs at h0
  rw [List.length_map,List.length_range'] at h0
  omega
 have hlev2:∀ j,(lev ws j).length≤516:=fun j=>by have:=lev_le ws j;omega
 have hlevw:∀ j,j≤14 → ∀ x ∈ lev ws j,x.w≤1152921504606846976:=fun j hj x hx=>by
  have h1:=lev_w hwb j x hx
  have h3:(2:Nat) ^ j≤2 ^ 14:=Nat.pow_le_pow_right (by decide) hj
  generalize (2:Nat) ^ j=y at *
  omega
 refine ACall.enter (rs:=[.tmp 4,.tmp 5]) 83 [(0,.slice pa 258 ca),(1,.int .i64 15)] Tryz.func48 rfl rfl (Nat.le_of_ble_eq_true rfl) rfl ⟨rfl,rfl,trivial⟩ ?_
 iterate 10 refine s1_ ?_
 refine ca_ rfl (pk_alphabet wt _ S hv (fun x hx=>Nat.le_trans (hb x hx) (by decide)) (by omega)) ?_
 rintro _ S1 ⟨rfl,h1⟩
 rw [h1];clear h1 S1
 iterate 3 refine s1_ ?_
 refine ARun.callG 3 false 15 rfl (lit_lt rfl) rfl (lit_lt rfl) go_83 rfl (pk_bits 15 S (by decide) (by decide)) ?_
 rintro _ S1 ⟨rfl,h1⟩
 rw [h1];clear h1 S1
 iterate 4 refine s1_ ?_
 refine su_ [(0,_),(1,_),(4,_),(5,_),(19,_)] ?_
 refine cF_ ?_
 iterate 5 refine s1_ ?_
 refine ca_ rfl (pk_leaves _ wt S hv (by omega) (by omega)) ?_
 rintro u S1 hN
 obtain ⟨hSS,hord⟩:=hN.rd (by omega);clear hN;obtain ⟨po,co,rfl,o1,o2,o3⟩:=id hord;rw [← hn] at hord o1 o2 h2 hol hwl ⊢
 iterate 3 refine s1_ ?_
 refine su_ [(0,_),(1,_),(4,_),(5,_),(19,_),(6,_)] ?_
 iterate 4 refine s1_ ?_
 refine ARun.makeSlice (lit_lt rfl) ty_sl_52 rfl rfl (by omega) (by omega) (by omega) (by omega) ?_
 intro b24 f24
 have g24:=f24
 repeat ((with_reducible replace g24:=fresh_set g24);obtain ⟨g24,_⟩:=g24)
 iterate 3 refine s1_ ?_
 refine su_ [(0,_),(1,_),(4,_),(5,_),(19,_),(6,_),(7,_)] ?_
 refine AWP.less (S1.set b24 zB) (by unfold zB;rw [List.map_replicate,madeL_one];exact Mem.Less.refl _) ?_
 iterate 8 refine s1_ ?_
 refine su_ [(0,_),(1,_),(4,_),(5,_),(19,_),(6,_),(7,_),(8,_)] ?_
 iterate 13 refine s1_ ?_
 refine rC (Calm.bin rfl rfl (bin_valS (bin_shl (by decide) (by decide)) (show _=((32768:Nat):Int) from by decide))) ?_
 iterate 4 refine s1_ ?_
 refine su_ [(0,_),(1,_),(4,_),(5,_),(19,_),(6,_),(7,_),(8,_),(27,_)] ?_
 refine cF_ ?_
 iterate 10 refine s1_ ?_
 refine su_ [(0,_),(1,_),(4,_),(5,_),(19,_),(6,_),(7,_),(8,_),(27,_),(32,_)] ?_
 refine cF_ ?_
 iterate 9 refine s1_ ?_
 refine su_ [(0,_),(1,_),(4,_),(5,_),(19,_),(6,_),(7,_),(8,_),(27,_),(32,_),(35,_)] ?_
 refine cF_ ?_
 have hI0:=LI.start (ws:=ws) g24
 have hw1:RowR (S1.set b24 zB) (.slice pa 258 ca) wt:=(rowR_less _ _ _ _ hv hSS).less (Mem.less_set _ _ _ g24.1)
 have ho1:Sl 1 (fun x=>[gI x]) (S1.set b24 zB) (.slice po n co) (order wt):=hord.less (Mem.less_set _ _ _ g24.1)
 iterate 15 refine s1_ ?_
 refine ca_ rfl (pk_next _ _ (.slice none 0 0) wt (order wt) [] _ hw1 ho1 ⟨none,0,rfl,Nat.le_refl _,by decide,.inl rfl⟩ hom (by omega) (by decide) (fun x hx=>by cases hx) (fun x hx=>Nat.le_trans (hb x hx) (by decide))) ?_
 rintro u0 M1 hN
 rw [hwsd,lev0] at hN;obtain ⟨o0,hok,rfl,hM1⟩:=hN;obtain ⟨q0,c0,e0,MB0,hI1,hs0⟩:=hI0.next hok (hlev1 0) (by have:=hlev2 0;omega);rw [← hM1] at hI1;rw [e0];clear hM1 hI0 hok
 have hI2:=fun (b:Nat) (hb:Fresh M1 b)=>hI1.push (left_none ⟨171,[.slice (some ⟨q0,0,none⟩) (lev ws 0).length c0],1⟩ hb) hs0 (gro_one hb)
 refine ARun.build1s (lit_lt rfl) ty_sl_173 rfl rfl ?_
 intro b47 f47
 have g47:=f47
 repeat ((with_reducible replace g47:=fresh_set g47);obtain ⟨g47,_⟩:=g47)
 iterate 3 refine s1_ ?_
 refine su_ [(0,_),(1,_),(4,_),(5,_),(19,_),(6,_),(7,_),(8,_),(27,_),(32,_),(35,_),(9,_)] ?_
 iterate 2 refine s1_ ?_
 refine AWP.loop (X:=Mem × Mem × Nat × Nat × Nat × (Nat→Option Addr) × (Nat→Nat)) (fun x=>[(0,.slice pa 258 ca),(1,.int .i64 15),(6,.slice po n co),(7,.slice (some ⟨b24,0,none⟩) 258 258),(9,.slice (some ⟨x.2.2.2.1,0,none⟩) (x.2.2.1+1) x.2.2.2.2.1)]) (fun x=>x.2.1) (fun x=>x.2.2.1≤14∧LI S1 ws b24 x.1 x.2.1 (x.2.2.1+1) (some (x.2.2.2.1,x.2.2.2.2.1)) x.2.2.2.2.2.1 x.2.2.2.2.2.2) (fun x=>15-x.2.2.1) ((MB0,_,0,b47,1,_,_)) ⟨rfl,rfl,rfl,rfl,rfl,trivial⟩ (Mem.Less.refl _) (⟨Nat.zero_le _,hI2 b47 f47⟩) ?_
 rintro ⟨MB,M,k,q,c,pz,cz⟩ ⟨r1,hI⟩
 (try dsimp only at *)
 obtain ⟨q',c',eq',hkc,hLv⟩:=hI.lvs
 cases eq'
 have hSM:=hI.base.trans hI.less
 by_cases hk:k<14
 ·have ha:=hLv.at_ k (by omega)
  have hs:=hLv.sl k (by omega)
  iterate 9 refine s1_ ?_
  refine su_ [(0,_),(1,_),(6,_),(7,_),(9,_),(51,_)] ?_
  refine cT_ ?_
  iterate 12 refine s1_ ?_
  refine rC (Calm.loadK ty_plain_171 rfl (kn_adr ha (by omega))) ?_
  refine ca_ rfl (pk_next _ _ _ wt (order wt) _ _ (rowR_less _ _ _ _ (rowR_less _ _ _ _ hv hSS) hSM) (hord.less hSM) hs hom (by omega) (Nat.le_trans (hlev2 k) (by decide)) (hlevw k (by omega)) (fun x hx=>Nat.le_trans (hb x hx) (by decide))) ?_
  rintro u1 M1' hN
  rw [hwsd,show nx ws (prs (lev ws k)) 0=lev ws (k+1) from rfl] at hN;obtain ⟨o0',hok,rfl,hM1⟩:=hN;obtain ⟨q1,c1,e1,MB1,hI3,hs1⟩:=hI.next hok (hlev1 (k+1)) (by have:=hlev2 (k+1);omega);rw [← hM1] at hI3;rw [e1];clear hM1 hok
  refine ARun.build1s (lit_lt rfl) ty_sl_173 rfl rfl ?_
  intro b62 f62
  have g62:=f62
  repeat ((with_reducible replace g62:=fresh_set g62);obtain ⟨g62,_⟩:=g62)
  refine ARun.appendG (lit_lt rfl) ty_sl_173 rfl (by simp) (hI3.temp f62 _).gro rfl rds_ rfl (by omega) (by simp [Value.oneCell']) (by omega) (by omega) ?_
  intro b63 c63 M2 hg hl
  iterate 4 refine s1_ ?_
  refine ⟨(MB1,M2,k+1,b63,c63,(fun j=>if j=k+1 then some ⟨q1,0,none⟩ else pz j),(fun j=>if j=k+1 then c1 else cz j)),?_,?_,?_,?_⟩
  all_goals (try dsimp only)
  ·exact ⟨rfl,rfl,rfl,rfl,rfl,trivial⟩
  ·exact Mem.Less.refl _
  ·exact ⟨hk,(hI3.temp f62 _).push hl hs1 hg⟩
  ·omega
 ·obtain rfl:k=14:=by omega
  iterate 9 refine s1_ ?_
  refine su_ [(0,_),(1,_),(6,_),(7,_),(9,_),(51,_)] ?_
  refine cF_ ?_
  iterate 11 refine s1_ ?_
  refine ca_ rfl (pk_count ws 14 n (2*n-2) q 0 c pz cz M hLv hup hwl h2 (by omega) rfl hlong (by decide)) ?_
  rintro _ M4 ⟨bc,fc,rfl,hM4⟩
  obtain ⟨cs,hcs⟩ : ∃ cs,cs=(List.range n).map (many (cnts ws 14 (2*n-2))):=⟨_,rfl⟩
  rw [← hcs] at hM4
  have hcl:cs.length=n:=by rw [hcs];simp
  have hne:bc≠b24:=fc.ne' hI.ob
  have hob:=hI.ob
  have hSM4:S1.Less M4:=by rw [hM4];exact hSM.trans (Mem.less_set _ _ _ fc.1)
  have hoc:M4.own bc=some ⟨3,cs.map gI,n⟩:=by rw [hM4];exact Mem.own_set_same _ _ _
  have ho4:M4.own b24=some zB:=by rw [hM4];exact (Mem.own_set_other _ _ (Ne.symm hne)).trans hob
  clear hM4
  have hkO:∀ i,i<n → ∃ ob oo,po=some ⟨ob,oo,none⟩∧S1.Knows ⟨ob,oo+i*1,none⟩ [gI ((order wt).getD i 0)]:=fun i hi=>by
   obtain ⟨ob,oo,e,okn⟩:=o3.resolve_left (fun e=>by rw [e] at hn;simp at hn;omega)
   refine ⟨ob,oo,e,?_⟩
   have:=okn i (by omega)
   rw [getD_of (show i<(order wt).length by omega)]
   exact this
  iterate 4 refine s1_ ?_
  refine su_ [(0,_),(1,_),(6,_),(7,_),(9,_),(51,_),(67,_),(68,_),(69,_)] ?_
  refine s1_ ?_
  refine AWP.loop (X:=Nat) (fun i=>[(6,.slice po n co),(7,.slice (some ⟨b24,0,none⟩) 258 258),(67,.slice (some ⟨bc,0,none⟩) n n),(68,.int .i64 (n:Int)),(69,.int .i64 (i:Int))]) (fun i=>M4.set b24 ⟨3,(putL wt 15 i).map gI,258⟩) (fun i=>i≤n) (fun i=>n-i) (0) ⟨rfl,rfl,rfl,rfl,rfl,trivial⟩ (by rw [show putL wt 15 0=List.replicate 258 0 from by unfold putL;rw [hl]];exact own_less ho4) (Nat.zero_le _) ?_
  rintro i hi
  (try dsimp only at *)
  have hpl:(putL wt 15 i).length=258:=by rw [putL_length,hl]
  by_cases hi':i<n
  ·obtain ⟨ob,oo,rfl,hkn⟩:=hkO i hi'
   have hps:putL wt 15 (i+1)=(putL wt 15 i).set ((order wt).getD i 0) (many (cnts (wso wt) 14 (2*(order wt).length-2)) i):=rfl
   rw [← hws,← hn] at hps
   have hcv:cs[i]?=some (many (cnts ws 14 (2*n-2)) i):=by rw [hcs,List.getElem?_map,List.getElem?_range hi'];rfl
   have hoi:(order wt).getD i 0<258:=by rw [getD_of (show i<(order wt).length by omega),← hl];exact hom _ (List.getElem_mem _)
   generalize (order wt).getD i 0=y at *
   generalize many (cnts ws 14 (2*n-2)) i=z at *
   have hoc':=(Mem.own_set_other M4 ⟨3,(putL wt 15 i).map gI,258⟩ hne).trans hoc
   have hkn':=hkn.less (lessSkip (r:=⟨3,(putL wt 15 i).map gI,258⟩) hSM4 g24.1)
   have hcell:(cs.map gI)[0+(i:Int).toNat*1]?=some (gI z):=by rw [show 0+(i:Int).toNat*1=i from by omega,List.getElem?_map,hcv];rfl
   iterate 6 refine s1_ ?_
   refine cT_ ?_
   iterate 8 refine s1_ ?_
   refine rC (Calm.load ty_plain_3 rfl (rd_own' hoc' hcell)) ?_
   iterate 4 refine s1_ ?_
   refine su_ [(6,_),(7,_),(67,_),(68,_),(69,_),(70,_),(10,_),(11,_)] ?_
   iterate 8 refine s1_ ?_
   refine ARun.store1 rfl rfl ty_size_3 rfl (Mem.own_set_same _ _ _) (by show 0+(y:Int).toNat*1<((putL wt 15 i).map gI).length;rw [List.length_map,hpl];omega) rfl ?_
   try simp only [k_ms,k_sz,k_ss,k_za,Nat.reduceAdd]
   iterate 3 refine s1_ ?_
   refine su_ [(6,_),(7,_),(67,_),(68,_),(69,_),(70,_),(10,_),(11,_)] ?_
   iterate 5 refine s1_ ?_
   refine ⟨i+1,?_,?_,?_,?_⟩
   all_goals (try dsimp only)
   ·exact ⟨rfl,rfl,rfl,rfl,rfl,trivial⟩
   ·(rw [hps,← set_gI',show (y:Int).toNat*1=y from by omega];exact Mem.Less.refl _)
   ·omega
   ·omega
  ·iterate 6 refine s1_ ?_
   refine cF_ ?_
   obtain rfl:i=n:=by omega
   have hpe:putL wt 15 i=lengthsP wt 15:=by unfold lengthsP;rw [hn]
   rw [hpe] at hpl ⊢
   iterate 12 refine s1_ ?_
   refine su_ [(6,_),(7,_),(67,_),(68,_),(69,_),(70,_),(4,_),(5,_)] ?_
   refine s1_ ?_
   refine ⟨_,_,⟨_,_,rfl,⟨_,_,rfl,rfl,rfl⟩,rfl⟩,Mem.Less.refl _,?_⟩
   exact ⟨_,rfl,hSS.trans (lessSkip hSM4 g24.1),Sl.own1 (g:=gI) (l:=lengthsP wt 15) (Mem.own_set_same _ _ _) List.prefix_rfl hpl (Nat.le_refl _) (by decide)⟩
end Pk
end Go.Proofs.YtckloanlkpchoaaGreatDoor
namespace Go.Proofs.YtckloanlkpchoaaGreatDoor
open Go.RowKit
open Mv
set_option maxRecDepth 4000
namespace Cn
theorem cn_Check (ls : List Nat) (v : Value) (S : Mem) (hv : IdxR S v ls) (hl : ∀ x ∈ ls, x ≤ 15) (h5 : ls.length ≤ 512) (hu : used ls 15 = 32768) :
  ACall Tryz.prog 111 #[v] S fun r S'=>r = .int .i64 0∧S'=S:=by
 have hR:=Pk.pk_Room ls v S hv hl h5 (by omega)
 rw [hu] at hR
 obtain ⟨pa,ca,rfl,w1,w2,w3⟩:=id hv
 refine ACall.enter (rs:=[.tmp 2]) 40 [(0,.slice pa ls.length ca)] Tryz.func111 rfl rfl (Nat.le_of_ble_eq_true rfl) rfl ⟨rfl,trivial⟩ ?_
 iterate 8 refine s1_ ?_
 refine ca_ rfl (hR) ?_
 rintro _ S1 ⟨rfl,h1⟩
 rw [h1];clear h1 S1
 iterate 7 refine s1_ ?_
 refine su_ [(0,_),(2,_),(3,_),(4,_)] ?_
 iterate 7 refine s1_ ?_
 refine su_ [(0,_),(2,_),(3,_),(4,_),(14,_)] ?_
 refine cF_ ?_
 iterate 16 refine s1_ ?_
 refine AWP.loop (X:=Nat × Nat) (fun x=>[(0,.slice pa ls.length ca),(3,.int .i64 0),(5,.int .i64 (x.2:Int)),(15,.slice pa ls.length ca),(16,.int .i64 (ls.length:Int)),(17,.int .i64 (x.1:Int))]) (fun _=>S) (fun x=>x.1≤ls.length∧x.2≤x.1) (fun x=>ls.length-x.1) ((0,0)) ⟨rfl,rfl,rfl,rfl,rfl,rfl,trivial⟩ (Mem.Less.refl _) (⟨Nat.zero_le _,Nat.le_refl _⟩) ?_
 rintro ⟨i,m⟩ ⟨hi,hm⟩
 (try dsimp only at *)
 by_cases q:i<ls.length
 ·obtain ⟨b,off,rfl,hkn⟩:=w3.resolve_left (by intro h;rw [h] at q;exact absurd q (Nat.not_lt_zero _))
  have ki:=hkn i q
  generalize ls[i]=x at *
  iterate 6 refine s1_ ?_
  refine cT_ ?_
  iterate 11 refine s1_ ?_
  refine su_ [(0,_),(3,_),(5,_),(15,_),(16,_),(17,_),(18,_),(7,_)] ?_
  iterate 6 refine s1_ ?_
  refine su_ [(0,_),(3,_),(5,_),(15,_),(16,_),(17,_),(18,_),(7,_),(22,_)] ?_
  refine AWP.condB rfl (fun hc=>?_) (fun hc=>?_)
  ·iterate 7 refine s1_ ?_
   refine su_ [(0,_),(3,_),(5,_),(15,_),(16,_),(17,_),(18,_),(7,_),(22,_)] ?_
   iterate 5 refine s1_ ?_
   refine ⟨(i+1,m+1),?_,?_,?_,?_⟩
   all_goals (try dsimp only)
   ·exact ⟨rfl,rfl,rfl,rfl,rfl,rfl,trivial⟩
   ·exact Mem.Less.refl _
   ·exact ⟨q,Nat.succ_le_succ hm⟩
   ·omega
  ·iterate 8 refine s1_ ?_
   refine ⟨(i+1,m),?_,?_,?_,?_⟩
   all_goals (try dsimp only)
   ·exact ⟨rfl,rfl,rfl,rfl,rfl,rfl,trivial⟩
   ·exact Mem.Less.refl _
   ·exact ⟨q,Nat.le_succ_of_le hm⟩
   ·omega
 ·iterate 6 refine s1_ ?_
  refine cF_ ?_
  iterate 24 refine s1_ ?_
  refine su_ [(0,_),(3,_),(5,_),(15,_),(16,_),(17,_),(18,_),(39,_)] ?_
  refine cT_ ?_
  iterate 7 refine s1_ ?_
  refine ⟨_,S,⟨_,_,rfl,rfl,rfl⟩,less_,?_⟩
  exact ⟨rfl,rfl⟩
/-! ### A book at work -/
def tb (n : Nat) (f : Nat → Nat) : List Nat := (List.range n).map f
theorem tb_len (n : Nat) (f : Nat → Nat) : (tb n f).length = n := by unfold tb; simp
theorem tb_get {n i : Nat} (f : Nat → Nat) (h : i < n) : (tb n f)[i]? = some (f i) := by unfold tb; rw [List.getElem?_map, List.getElem?_range h]; rfl
theorem tb_set {n i x : Nat} {f g : Nat → Nat} (hi : i < n) (hx : g i = x) (hg : ∀ k, k < n → k ≠ i → g k = f k) : (tb n f).set i x = tb n g := by
 refine List.ext_getElem? fun k=>?_
 rcases Nat.lt_or_ge k n with q | q
 ·rw [tb_get g q,List.getElem?_set]
  by_cases e:i=k
  ·subst e;rw [if_pos rfl,if_pos (by rw [tb_len];exact q),hx]
  ·rw [if_neg e,tb_get f q,hg k q (Ne.symm e)]
 ·rw [List.getElem?_eq_none (by rw [List.length_set,tb_len];exact q),List.getElem?_eq_none (by rw [tb_len];exact q)]
theorem tb_eq {n : Nat} {f g : Nat → Nat} (h : ∀ k, k < n → f k = g k) : tb n f = tb n g := List.map_congr_left fun k hk => h k (List.mem_range.1 hk)
def cF (ls : List Nat) (l i k : Nat) : Nat := if 1 ≤ k ∧ k < l then cn ls k else if k = l then (ls.take i).countP (fun x => decide (x = l)) else 0
def fF (ls : List Nat) (l k : Nat) : Nat := if 1 ≤ k ∧ k < l then fst ls k else 0
def kF (ls : List Nat) (l i j : Nat) : Nat := if 1 ≤ ls.getD j 0 ∧ (ls.getD j 0 < l ∨ ls.getD j 0 = l ∧ j < i) then code ls j else 0
def bkC (cs fs : List Nat) (sy co le : Value) : List Value := cs.map gI ++ fs.map gU ++ [sy, co, le]
theorem bkC_cs {cs fs : List Nat} {sy co le : Value} {i x : Nat} (hi : i < cs.length) : (bkC cs fs sy co le).set i (gI x) = bkC (cs.set i x) fs sy co le := by
 unfold bkC
 rw [List.set_append_left _ _ (by rw [List.length_append,List.length_map];omega),List.set_append_left _ _ (by rw [List.length_map];exact hi),List.map_set]
theorem bkC_fs {cs fs : List Nat} {sy co le : Value} {i x : Nat} (hc : cs.length = 16) (hi : i < fs.length) : (bkC cs fs sy co le).set (16 + i) (gU x) = bkC cs (fs.set i x) sy co le := by
 unfold bkC
 rw [List.set_append_left _ _ (by rw [List.length_append,List.length_map,List.length_map];omega),List.set_append_right _ _ (by rw [List.length_map];omega),List.length_map,hc,Nat.add_sub_cancel_left,List.map_set]
theorem bkC_sy {cs fs : List Nat} {sy sy' co le : Value} (hc : cs.length = 16) (hf : fs.length = 16) : (bkC cs fs sy co le).set 32 sy' = bkC cs fs sy' co le := by
 unfold bkC
 rw [List.set_append_right _ _ (by rw [List.length_append,List.length_map,List.length_map];omega),List.length_append,List.length_map,List.length_map,hc,hf];rfl
theorem bkC_len {cs fs : List Nat} {sy co le : Value} (hc : cs.length = 16) (hf : fs.length = 16) : (bkC cs fs sy co le).length = 35 := by
 unfold bkC
 rw [List.length_append,List.length_append,List.length_map,List.length_map,hc,hf];rfl
theorem bkC_c {cs fs : List Nat} {sy co le : Value} {i x : Nat} (h : cs[i]? = some x) : (bkC cs fs sy co le)[i]? = some (gI x) := by
 have hi:=(List.getElem?_eq_some_iff.1 h).1
 unfold bkC
 rw [List.getElem?_append_left (by rw [List.length_append,List.length_map];omega),List.getElem?_append_left (by rw [List.length_map];exact hi),List.getElem?_map,h];rfl
theorem bkC_f {cs fs : List Nat} {sy co le : Value} {i x : Nat} (hc : cs.length = 16) (h : fs[i]? = some x) : (bkC cs fs sy co le)[16 + i]? = some (gU x) := by
 have hi:=(List.getElem?_eq_some_iff.1 h).1
 unfold bkC
 rw [List.getElem?_append_left (by rw [List.length_append,List.length_map,List.length_map];omega),List.getElem?_append_right (by rw [List.length_map];omega),List.length_map,hc,Nat.add_sub_cancel_left,List.getElem?_map,h];rfl
theorem bkC_e {cs fs : List Nat} {sy co le : Value} (hc : cs.length = 16) (hf : fs.length = 16) (i : Nat) : (bkC cs fs sy co le)[32 + i]? = [sy, co, le][i]? := by
 unfold bkC
 rw [List.getElem?_append_right (by rw [List.length_append,List.length_map,List.length_map];omega),List.length_append,List.length_map,List.length_map,hc,hf,Nat.add_sub_cancel_left]
/-- A book that is made. -/
structure BK (S : Mem) (bc bk n : Nat) (cs fs ks ys : List Nat) (v : Value) (M : Mem) (o : Option (Nat × Nat)) : Prop where
  less : S.Less M
  nk : S.own bk = none
  nc : S.own bc = none
  no : ∀ q c, o = some (q, c) → S.own q = none
  ak : Away o bk
  ac : Away o bc
  ne : bc ≠ bk
  gro : Gro M o 3 (ys.map gI)
  ok : M.own bk = some ⟨163, bkC cs fs (outV o ys.length) (.slice (some ⟨bc, 0, none⟩) n n) v, 35⟩
  oc : M.own bc = some ⟨26, ks.map gU, n⟩
  lc : cs.length = 16
  lf : fs.length = 16
  lk : ks.length = n
section
variable {S : Mem} {bc bk n : Nat} {cs fs ks ys : List Nat} {v : Value} {M M' : Mem} {o : Option (Nat × Nat)}
theorem BK.setC (h : BK S bc bk n cs fs ks ys v M o) {cs' : List Nat} (hc : cs'.length = 16) : BK S bc bk n cs' fs ks ys v (M.set bk ⟨163, bkC cs' fs (outV o ys.length) (.slice (some ⟨bc, 0, none⟩) n n) v, 35⟩) o :=
 { h with
  less:=⟨fun x r hx=>(Mem.own_set_other _ _ (fun e=>by subst e;rw [h.nk] at hx;cases hx)).trans (h.less.1 x r hx),h.less.2⟩
  gro:=h.gro.set _ h.ak
  ok:=Mem.own_set_same _ _ _
  oc:=(Mem.own_set_other _ _ h.ne).trans h.oc
  lc:=hc }
theorem BK.setF (h : BK S bc bk n cs fs ks ys v M o) {fs' : List Nat} (hf : fs'.length = 16) : BK S bc bk n cs fs' ks ys v (M.set bk ⟨163, bkC cs fs' (outV o ys.length) (.slice (some ⟨bc, 0, none⟩) n n) v, 35⟩) o :=
 { h with
  less:=⟨fun x r hx=>(Mem.own_set_other _ _ (fun e=>by subst e;rw [h.nk] at hx;cases hx)).trans (h.less.1 x r hx),h.less.2⟩
  gro:=h.gro.set _ h.ak
  ok:=Mem.own_set_same _ _ _
  oc:=(Mem.own_set_other _ _ h.ne).trans h.oc
  lf:=hf }
theorem BK.setK (h : BK S bc bk n cs fs ks ys v M o) {ks' : List Nat} (hk : ks'.length = n) : BK S bc bk n cs fs ks' ys v (M.set bc ⟨26, ks'.map gU, n⟩) o :=
 { h with
  less:=⟨fun x r hx=>(Mem.own_set_other _ _ (fun e=>by subst e;rw [h.nc] at hx;cases hx)).trans (h.less.1 x r hx),h.less.2⟩
  gro:=h.gro.set _ h.ac
  ok:=(Mem.own_set_other _ _ (Ne.symm h.ne)).trans h.ok
  oc:=Mem.own_set_same _ _ _
  lk:=hk }
theorem BK.temp (h : BK S bc bk n cs fs ks ys v M o) {x : Nat} (hx : Fresh M x) (r : Blk) : BK S bc bk n cs fs ks ys v (M.set x r) o :=
 { h with
  less:=h.less.trans (Mem.less_set _ _ _ hx.1)
  gro:=h.gro.set r (fun q k e=>hx.ne (h.gro.own q k e).1)
  ok:=(Mem.own_set_other _ _ (hx.ne h.ok)).trans h.ok
  oc:=(Mem.own_set_other _ _ (hx.ne h.oc)).trans h.oc }
theorem BK.push (h : BK S bc bk n cs fs ks ys v M o) {q c : Nat} {ys' : List Nat} (hl : Mv.Left M M' o q) (hg : Gro M' (some (q, c)) 3 (ys'.map gI)) :
  BK S bc bk n cs fs ks ys' v (M'.set bk ⟨163,bkC cs fs (outV (some (q,c)) ys'.length) (.slice (some ⟨bc,0,none⟩) n n) v,35⟩) (some (q,c)):=by
 obtain ⟨l1,l2⟩:=hl.less h.less h.no
 obtain ⟨q1,q2⟩:=hl.at_ h.ok h.ak
 obtain ⟨q3,q4⟩:=hl.at_ h.oc h.ac
 have ak:Away (some (q,c)) bk:=fun q' c' e=>by cases e;exact Ne.symm q2
 exact { h with
  less:=⟨fun x r hx=>(Mem.own_set_other _ _ (fun e=>by subst e;rw [h.nk] at hx;cases hx)).trans (l1.1 x r hx),l1.2⟩
  no:=fun q' c' e=>by cases e;exact l2
  ak:=ak
  ac:=fun q' c' e=>by cases e;exact Ne.symm q4
  gro:=hg.set _ ak
  ok:=Mem.own_set_same _ _ _
  oc:=(Mem.own_set_other _ _ h.ne).trans q3 }
theorem BK.cast {cs' fs' ks' ys' : List Nat} (h : BK S bc bk n cs fs ks ys v M o) (e1 : cs = cs') (e2 : fs = fs') (e3 : ks = ks') (e4 : ys = ys') : BK S bc bk n cs' fs' ks' ys' v M o := by subst e1; subst e2; subst e3; subst e4; exact h
end
/-- A book that may be read. -/
structure BookR (S : Mem) (b : Nat) (ls : List Nat) : Prop where
  ex : ∃ sy co v, S.Knows ⟨b, 0, none⟩ (bkC (tb 16 (cF ls 16 0)) (tb 16 (fF ls 16)) sy co v) ∧ IdxR S sy (syms ls 15) ∧ RowR S co (tb ls.length (kF ls 16 0)) ∧ IdxR S v ls
theorem BookR.less {S S' : Mem} {b : Nat} {ls : List Nat} (h : BookR S b ls) (hl : S.Less S') : BookR S' b ls := by
 obtain ⟨sy,co,v,h1,h2,h3,h4⟩:=h.ex
 exact ⟨sy,co,v,h1.less hl,h2.less hl,h3.less hl,h4.less hl⟩
theorem BK.done {S : Mem} {bc bk : Nat} {ls : List Nat} {v : Value} {M : Mem} {o : Option (Nat × Nat)} (h : BK S bc bk ls.length (tb 16 (cF ls 16 0)) (tb 16 (fF ls 16)) (tb ls.length (kF ls 16 0)) (syms ls 15) v M o) (hv : IdxR S v ls) (hl : ls.length ≤ 512) : BookR M bk ls := by
 refine ⟨_,_,_,Mem.own_knows h.ok 0 _ (fun j v hj=>by rw [Nat.zero_add];exact hj),?_,?_,hv.less h.less⟩
 ·have hn:=cn_sum ls 15
  cases ho:o with
  | none =>
   have:=h.gro.nil ho
   rw [List.map_eq_nil_iff] at this
   rw [this];exact Sl.nil _ _ _
  | some w =>
   obtain ⟨q,c⟩:=w
   obtain ⟨h1,h2,_⟩:=h.gro.own q c ho
   rw [List.length_map] at h2
   exact Sl.own1 (g:=gI) h1 List.prefix_rfl rfl h2 (by omega)
 ·exact Sl.own1 (g:=gU) h.oc List.prefix_rfl (tb_len _ _) (Nat.le_refl _) (by omega)
theorem nxt_le {ls : List Nat} (hu : used ls 15 ≤ 32768) {l : Nat} (h : l ≤ 15) : nxt ls l ≤ 32768 := by
 have h1:=nxt_shift ls l (15-l)
 rw [show l+(15-l)=15 from by omega] at h1
 have h3:=used_nxt ls 15
 have h2:nxt ls l≤nxt ls l*2 ^ (15-l):=Nat.le_mul_of_pos_right _ (Nat.two_pow_pos _)
 omega
theorem cnt_le (ls : List Nat) (l i : Nat) : (ls.take i).countP (fun x => decide (x = l)) ≤ cn ls l := ((List.take_prefix i ls).sublist).countP_le
theorem nxt_pred {ls : List Nat} {l : Nat} (h : 1 ≤ l) : nxt ls l = 2 * nxt ls (l - 1) + cn ls l := by
 obtain ⟨k,rfl⟩ : ∃ k,l=k+1:=⟨l-1,by omega⟩
 rfl
theorem syms_pred {ls : List Nat} {l : Nat} (h : 1 ≤ l) : syms ls l = syms ls (l - 1) ++ idxTo ls l ls.length := by
 obtain ⟨k,rfl⟩ : ∃ k,l=k+1:=⟨l-1,by omega⟩
 rfl
end Cn
end Go.Proofs.YtckloanlkpchoaaGreatDoor
namespace Go.Proofs.YtckloanlkpchoaaGreatDoor
open Go.RowKit
open Mv
set_option maxRecDepth 4000
namespace Cn
theorem BK.start {S : Mem} {ls : List Nat} {v : Value} {bc bk : Nat} (hc : Fresh S bc) (hk : Fresh S bk) (hne : bc ≠ bk) (hv : IdxR S v ls) : BK S bc bk ls.length (tb 16 (cF ls 1 0)) (tb 16 (fF ls 1)) (tb ls.length (kF ls 1 0)) (syms ls 0) v ((S.set bc ⟨26, (tb ls.length (kF ls 1 0)).map gU, ls.length⟩).set bk ⟨163, bkC (tb 16 (cF ls 1 0)) (tb 16 (fF ls 1)) (.slice none 0 0) (.slice (some ⟨bc, 0, none⟩) ls.length ls.length) v, 35⟩) none where
 less:=(Mem.less_set _ _ _ hc.1).trans (Mem.less_set _ _ _ ((Mem.own_set_other _ _ (Ne.symm hne)).trans hk.1))
 nk:=hk.1
 nc:=hc.1
 no:=fun q c e=>by cases e
 ak:=Away.nil _
 ac:=Away.nil _
 ne:=hne
 gro:=Gro.empty _ _
 ok:=Mem.own_set_same _ _ _
 oc:=(Mem.own_set_other _ _ hne).trans (Mem.own_set_same _ _ _)
 lc:=tb_len _ _
 lf:=tb_len _ _
 lk:=tb_len _ _
theorem tb_zero {n : Nat} {f : Nat → Nat} (h : ∀ k, k < n → f k = 0) : tb n f = List.replicate n 0 := List.eq_replicate_iff.2 ⟨tb_len n f, fun x hx => by
 unfold tb at hx
 obtain ⟨k,hk,rfl⟩:=List.mem_map.1 hx
 exact h k (List.mem_range.1 hk)⟩
theorem cF_one (ls : List Nat) (k : Nat) : cF ls 1 0 k = 0 := by
 unfold cF
 rw [if_neg (by omega)]
 split <;> simp
theorem fF_one (ls : List Nat) (k : Nat) : fF ls 1 k = 0 := if_neg (by omega)
theorem kF_one (ls : List Nat) (k : Nat) : kF ls 1 0 k = 0 := if_neg (by omega)
theorem cells0 (ls : List Nat) (a b : Value) : bkC (tb 16 (cF ls 1 0)) (tb 16 (fF ls 1)) (.slice none 0 0) a b = List.replicate 16 (.int .i64 0) ++ List.replicate 16 (.int .u64 0) ++ [.slice none 0 0, a, b] := by
 unfold bkC
 rw [tb_zero (fun k _=>cF_one ls k),tb_zero (fun k _=>fF_one ls k),List.map_replicate,List.map_replicate];rfl
theorem codes0 (ls : List Nat) : (tb ls.length (kF ls 1 0)).map gU = List.replicate ls.length (.int .u64 0) := by
 rw [tb_zero (fun k _=>kF_one ls k),List.map_replicate];rfl
theorem fF_step (ls : List Nat) {l : Nat} (h1 : 1 ≤ l) (h2 : l ≤ 15) : (tb 16 (fF ls l)).set l (2 * nxt ls (l - 1)) = tb 16 (fF ls (l + 1)) := by
 refine tb_set (by omega) ?_ fun k _ hk=>?_
 ·unfold fF fst;rw [if_pos ⟨h1,by omega⟩]
 ·unfold fF
  by_cases e:1≤k∧k<l
  ·rw [if_pos e,if_pos ⟨e.1,by omega⟩]
  ·rw [if_neg e,if_neg (by omega)]
theorem cnt_succ {ls : List Nat} {i l : Nat} (h : i < ls.length) : (ls.take (i + 1)).countP (fun x => decide (x = l)) = (ls.take i).countP (fun x => decide (x = l)) + if ls.getD i 0 = l then 1 else 0 := take_succ_count ls l h
theorem cF_yes {ls : List Nat} {l i : Nat} (h2 : l ≤ 15) (hi : i < ls.length) (e : ls.getD i 0 = l) : (tb 16 (cF ls l i)).set l (cF ls l i l + 1) = tb 16 (cF ls l (i + 1)) := by
 refine tb_set (by omega) ?_ fun k _ hk=>?_
 ·have a:∀ j,cF ls l j l=(ls.take j).countP (fun x=>decide (x=l)):=fun j=>by unfold cF;rw [if_neg (by omega),if_pos rfl]
  rw [a,a,cnt_succ hi,if_pos e]
 ·unfold cF
  rw [if_neg hk,if_neg hk]
theorem cF_no {ls : List Nat} {l i : Nat} (hi : i < ls.length) (e : ls.getD i 0 ≠ l) : tb 16 (cF ls l i) = tb 16 (cF ls l (i + 1)) := tb_eq fun k _ => by
 unfold cF
 rw [cnt_succ hi,if_neg e,Nat.add_zero]
theorem kF_yes {ls : List Nat} {l i : Nat} (h1 : 1 ≤ l) (hi : i < ls.length) (e : ls.getD i 0 = l) : (tb ls.length (kF ls l i)).set i (2 * nxt ls (l - 1) + (ls.take i).countP (fun x => decide (x = l))) = tb ls.length (kF ls l (i + 1)) := by
 refine tb_set hi ?_ fun k _ hk=>?_
 ·unfold kF code fst rank
  rw [if_pos ⟨by omega,.inr ⟨e,by omega⟩⟩,if_neg (by omega),e]
 ·unfold kF
  by_cases q:1≤ls.getD k 0∧(ls.getD k 0<l∨ls.getD k 0=l∧k<i)
  ·rw [if_pos q,if_pos ⟨q.1,q.2.imp id fun h=>⟨h.1,by omega⟩⟩]
  ·rw [if_neg q,if_neg (by omega)]
theorem kF_no {ls : List Nat} {l i : Nat} (e : ls.getD i 0 ≠ l) : tb ls.length (kF ls l i) = tb ls.length (kF ls l (i + 1)) := tb_eq fun k _ => by
 unfold kF
 by_cases q:1≤ls.getD k 0∧(ls.getD k 0<l∨ls.getD k 0=l∧k<i)
 ·rw [if_pos q,if_pos ⟨q.1,q.2.imp id fun h=>⟨h.1,by omega⟩⟩]
 ·rw [if_neg q,if_neg (fun h=>q ⟨h.1,h.2.imp id fun g=>⟨g.1,by
   rcases Nat.lt_or_ge k i with x | x
   ·exact x
   ·obtain rfl:k=i:=by omega
    exact absurd g.1 e⟩⟩)]
theorem cF_next (ls : List Nat) (l : Nat) (h1 : 1 ≤ l) : tb 16 (cF ls l ls.length) = tb 16 (cF ls (l + 1) 0) := tb_eq fun k _ => by
 unfold cF
 rw [List.take_length,List.take_zero]
 by_cases q:1≤k∧k<l
 ·rw [if_pos q,if_pos ⟨q.1,by omega⟩]
 ·rw [if_neg q]
  by_cases e:k=l
  ·subst e;rw [if_pos rfl,if_pos ⟨h1,by omega⟩];rfl
  ·rw [if_neg e,if_neg (by omega)]
   split <;> simp
theorem kF_next (ls : List Nat) (l : Nat) : tb ls.length (kF ls l ls.length) = tb ls.length (kF ls (l + 1) 0) := tb_eq fun k hk => by
 unfold kF
 by_cases q:1≤ls.getD k 0∧(ls.getD k 0<l∨ls.getD k 0=l∧k<ls.length)
 ·rw [if_pos q,if_pos ⟨q.1,.inl (by omega)⟩]
 ·rw [if_neg q,if_neg (by omega)]
theorem push_yes {ls : List Nat} {l i : Nat} (e : ls.getD i 0 = l) : (syms ls (l - 1) ++ idxTo ls l i) ++ [i] = syms ls (l - 1) ++ idxTo ls l (i + 1) := by rw [idxTo_succ, if_pos e, List.append_assoc]
theorem push_no {ls : List Nat} {l i : Nat} (e : ls.getD i 0 ≠ l) : syms ls (l - 1) ++ idxTo ls l i = syms ls (l - 1) ++ idxTo ls l (i + 1) := by rw [idxTo_succ, if_neg e, List.append_nil]
set_option maxHeartbeats 8000000 in
theorem cn_Of (ls : List Nat) (v : Value) (S : Mem) (hv : IdxR S v ls) (hlen : ls.length ≤ 512) (hu : used ls 15 ≤ 32768) :
  ACall Tryz.prog 45 #[v] S fun r S'=>∃ b,r = .pointer (some ⟨b,0,none⟩)∧S.Less S'∧BookR S' b ls:=by
 obtain ⟨pa,ca,rfl,w1,w2,w3⟩:=id hv
 refine ACall.enter (rs:=[.tmp 2]) 67 [(0,.slice pa ls.length ca)] Tryz.func45 rfl rfl (Nat.le_of_ble_eq_true rfl) rfl ⟨rfl,trivial⟩ ?_
 iterate 10 refine s1_ ?_
 refine ARun.makeSlice (lit_lt rfl) ty_sl_108 rfl rfl (by omega) (by omega) (by omega) (by omega) ?_
 intro b11 f11
 have g11:=f11
 repeat ((with_reducible replace g11:=fresh_set g11);obtain ⟨g11,_⟩:=g11)
 refine rC (Calm.build (cs:=[_,_,_,_,_,_,_,_,_,_,_,_,_,_,_,_,_,_,_,_,_,_,_,_,_,_,_,_,_,_,_,_,_,_,_]) ty_bld_163 rfl rfl) ?_
 refine ARun.boxA (cs:=[_,_,_,_,_,_,_,_,_,_,_,_,_,_,_,_,_,_,_,_,_,_,_,_,_,_,_,_,_,_,_,_,_,_,_]) (lit_lt rfl) rfl ?_
 intro b13 f13
 have g13:=f13
 repeat ((with_reducible replace g13:=fresh_set g13);obtain ⟨g13,_⟩:=g13)
 refine nl_ ?_
 iterate 3 refine s1_ ?_
 refine su_ [(0,_),(2,_),(3,_)] ?_
 refine AWP.less ((S.set b11 ⟨26,(tb ls.length (kF ls 1 0)).map gU,ls.length⟩).set b13 ⟨163,bkC (tb 16 (cF ls 1 0)) (tb 16 (fF ls 1)) (.slice none 0 0) (.slice (some ⟨b11,0,none⟩) ls.length ls.length) (.slice pa ls.length ca),35⟩) (by rw [codes0,cells0,madeL_one,show ((ls.length:Int)).toNat=ls.length from by omega,Nat.mul_one];exact Mem.Less.refl _) ?_
 have h13:=(fresh_set f13).1
 have hB0:=BK.start f11 h13 (fun e=>(fresh_set f13).2 e.symm) hv
 iterate 12 refine s1_ ?_
 refine AWP.loop (X:=Nat × Mem × Option (Nat × Nat)) (fun x=>[(0,.slice pa ls.length ca),(3,.pointer (some ⟨b13,0,none⟩)),(4,.int .u64 ((nxt ls (x.1-1):Nat):Int)),(5,.int .i64 (x.1:Int))]) (fun x=>x.2.1) (fun x=>1≤x.1∧x.1≤16∧BK S b11 b13 ls.length (tb 16 (cF ls x.1 0)) (tb 16 (fF ls x.1)) (tb ls.length (kF ls x.1 0)) (syms ls (x.1-1)) (.slice pa ls.length ca) x.2.1 x.2.2) (fun x=>16-x.1) ((1,_,none)) ⟨rfl,rfl,rfl,rfl,trivial⟩ (Mem.Less.refl _) (⟨Nat.le_refl _,(show 1≤16 by decide),hB0⟩) ?_
 rintro ⟨l,M,o⟩ ⟨h1,h2,hB⟩
 (try dsimp only at *)
 by_cases hl:l≤15
 ·have hnx:=nxt_le hu hl
  have hnp:=nxt_pred (ls:=ls) h1
  have hok:=hB.ok
  obtain ⟨e,he⟩ : ∃ e,e=2*nxt ls (l-1):=⟨_,rfl⟩
  iterate 7 refine s1_ ?_
  refine su_ [(0,_),(3,_),(4,_),(5,_),(15,_)] ?_
  refine cT_ ?_
  iterate 7 refine s1_ ?_
  refine rC (Calm.bin rfl rfl (bin_valS (bin_shl (by decide) (by decide)) (show IntKind.u64.wrap (((nxt ls (l-1):Nat):Int)*2 ^ (1:Int).toNat)=((e:Nat):Int) from by rw [show (2:Int) ^ (1:Int).toNat=2 from rfl];exact (IntWalk.u64_in _ (by omega)).trans (by omega)))) ?_
  iterate 3 refine s1_ ?_
  refine su_ [(0,_),(3,_),(4,_),(5,_),(15,_)] ?_
  iterate 8 refine s1_ ?_
  refine ARun.store1 rfl rfl ty_size_26 rfl hok (by rw [bkC_len hB.lc hB.lf];omega) rfl ?_
  try simp only [k_ms,k_sz,k_ss,k_za,Nat.reduceAdd]
  iterate 2 refine s1_ ?_
  refine su_ [(0,_),(3,_),(4,_),(5,_),(15,_)] ?_
  refine AWP.less _ (show Mem.Less (M.set b13 ⟨163,bkC (tb 16 (cF ls l 0)) (tb 16 (fF ls (l+1))) (outV o (syms ls (l-1)).length) (.slice (some ⟨b11,0,none⟩) ls.length ls.length) (.slice pa ls.length ca),35⟩) _ from by rw [← fF_step ls h1 hl,← he,← bkC_fs hB.lc (by rw [hB.lf];omega),show 16+((l:Int)).toNat*1=16+l from by omega];exact Mem.Less.refl _) ?_
  have hB2:=(hB.setF (fs':=tb 16 (fF ls (l+1))) (tb_len _ _)).cast rfl rfl rfl (show syms ls (l-1)=syms ls (l-1) ++ idxTo ls l 0 from (List.append_nil _).symm)
  iterate 8 refine s1_ ?_
  refine AWP.loop (X:=Nat × Mem × Option (Nat × Nat)) (fun x=>[(0,.slice pa ls.length ca),(3,.pointer (some ⟨b13,0,none⟩)),(4,.int .u64 ((e+(ls.take x.1).countP (fun x=>decide (x=l)):Nat):Int)),(5,.int .i64 (l:Int)),(26,.slice pa ls.length ca),(27,.int .i64 (ls.length:Int)),(28,.int .i64 (x.1:Int))]) (fun x=>x.2.1) (fun x=>x.1≤ls.length∧BK S b11 b13 ls.length (tb 16 (cF ls l x.1)) (tb 16 (fF ls (l+1))) (tb ls.length (kF ls l x.1)) (syms ls (l-1) ++ idxTo ls l x.1) (.slice pa ls.length ca) x.2.1 x.2.2) (fun x=>ls.length-x.1) ((0,_,o)) ⟨rfl,rfl,rfl,rfl,rfl,rfl,rfl,trivial⟩ (Mem.Less.refl _) (⟨Nat.zero_le _,hB2⟩) ?_
  rintro ⟨i,M1,o1⟩ ⟨hi,hI⟩
  (try dsimp only at *)
  by_cases q:i<ls.length
  ·obtain ⟨b,off,rfl,hkn⟩:=w3.resolve_left (by intro h;rw [h] at q;exact absurd q (Nat.not_lt_zero _))
   have ki:=(hkn i q).less hI.less
   have hgd:ls.getD i 0=ls[i]:=Pk.getD_of q
   generalize ls[i]=y at *
   have hcs:=cnt_succ (l:=l) q
   have hcl:=cnt_le ls l (i+1)
   iterate 6 refine s1_ ?_
   refine cT_ ?_
   by_cases hy:y=l
   ·subst hy
    rw [if_pos hgd] at hcs
    obtain ⟨ct,hct⟩ : ∃ ct,ct=(ls.take i).countP (fun x=>decide (x=y)):=⟨_,rfl⟩
    have hcF:cF ls y i y=ct:=by unfold cF;rw [if_neg (by omega),if_pos rfl,hct]
    rw [← hct] at hcs ⊢
    iterate 13 refine s1_ ?_
    refine su_ [(0,_),(3,_),(4,_),(5,_),(26,_),(27,_),(28,_),(29,_),(6,_),(7,_)] ?_
    iterate 7 refine s1_ ?_
    refine su_ [(0,_),(3,_),(4,_),(5,_),(26,_),(27,_),(28,_),(29,_),(6,_),(7,_),(35,_)] ?_
    refine cT_ ?_
    iterate 5 refine s1_ ?_
    refine rC (Calm.load ty_plain_108 rfl (rd_own' hI.ok (bkC_e hI.lc hI.lf 1))) ?_
    iterate 3 refine s1_ ?_
    refine ARun.store1 rfl rfl ty_size_26 rfl hI.oc (by show 0+(i:Int).toNat*1<((tb ls.length (kF ls y i)).map gU).length;rw [List.length_map,tb_len];omega) rfl ?_
    try simp only [k_ms,k_sz,k_ss,k_za,Nat.reduceAdd]
    iterate 2 refine s1_ ?_
    refine su_ [(0,_),(3,_),(4,_),(5,_),(26,_),(27,_),(28,_),(29,_),(6,_),(7,_),(35,_)] ?_
    refine AWP.less _ (show Mem.Less (M1.set b11 ⟨26,(tb ls.length (kF ls y (i+1))).map gU,ls.length⟩) _ from by rw [← kF_yes h1 q hgd,← he,← hct,List.map_set,show (i:Int).toNat*1=i from by omega];exact Mem.Less.refl _) ?_
    have hI2:=hI.setK (ks':=tb ls.length (kF ls y (i+1))) (tb_len _ _)
    iterate 6 refine s1_ ?_
    refine rC (Calm.load ty_plain_52 rfl (rd_own' hI2.ok (bkC_e hI2.lc hI2.lf 0))) ?_
    refine s1_ ?_
    refine ARun.build1s (lit_lt rfl) ty_sl_52 rfl rfl ?_
    intro b49 f49
    have g49:=f49
    repeat ((with_reducible replace g49:=fresh_set g49);obtain ⟨g49,_⟩:=g49)
    refine ARun.appendG (lit_lt rfl) ty_sl_52 rfl (List.length_map ..) (hI2.temp f49 _).gro rfl rds_ rfl (by omega) (by simp [Value.oneCell']) (by have:=cn_sum ls (y-1);have:=idxTo_length ls y i (by omega);rw [List.length_append];have:=(ls.take i).countP_le_length (p:=fun x=>decide (x=y));rw [List.length_take] at this;omega) (by have:=cn_sum ls (y-1);have:=idxTo_length ls y i (by omega);rw [List.length_append];have:=(ls.take i).countP_le_length (p:=fun x=>decide (x=y));rw [List.length_take] at this;omega) ?_
    intro b50 c50 M3 hg hl3
    have hI3:=hI2.temp f49 ⟨3,[.int .i64 (i:Int)],1⟩
    have ho3:=(hl3.at_ hI3.ok hI3.ak).1
    have hg3:Gro M3 (some (b50,c50)) 3 ((syms ls (y-1) ++ idxTo ls y i ++ [i]).map gI):=by rw [List.map_append];exact hg
    have hI4:=hI3.push hl3 hg3
    iterate 2 refine s1_ ?_
    refine ARun.store1 rfl rfl ty_size_52 rfl ho3 (by rw [bkC_len hI3.lc hI3.lf];decide) rfl ?_
    try simp only [k_ms,k_sz,k_ss,k_za,Nat.reduceAdd]
    iterate 2 refine s1_ ?_
    refine su_ [(0,_),(3,_),(4,_),(5,_),(26,_),(27,_),(28,_),(29,_),(6,_),(7,_),(35,_)] ?_
    refine AWP.less _ (show Mem.Less (M3.set b13 ⟨163,bkC (tb 16 (cF ls y i)) (tb 16 (fF ls (y+1))) (outV (some (b50,c50)) (syms ls (y-1) ++ idxTo ls y i ++ [i]).length) (.slice (some ⟨b11,0,none⟩) ls.length ls.length) (.slice (some ⟨b,off,none⟩) ls.length ca),35⟩) _ from by rw [List.length_append,← bkC_sy (sy:=outV o1 (syms ls (y-1) ++ idxTo ls y i).length) hI3.lc hI3.lf];exact Mem.Less.refl _) ?_
    refine s1_ ?_
    refine AWP.draw [(0,true),(1,true),(2,true),(3,true),(4,true),(5,true),(6,true),(7,true),(8,true),(9,true),(10,false)] [10] mixed (by kernel_rfl) ?_
    iterate 5 refine s1_ ?_
    refine dC (hc:=Calm.load ty_plain_3 rfl (rd_own' hI4.ok (bkC_c (show (tb 16 (cF ls y i))[0+(y:Int).toNat*1]?=some ct from by rw [show 0+(y:Int).toNat*1=y from by omega,← hcF];exact tb_get _ (by omega))))) (h:=?_)
    refine dP (hc:=fun _=>Calm.bin rfl rfl (bin_addW (show IntKind.i64.wrap ((ct:Int)+1)=((ct+1:Nat):Int) from IntWalk.i64_in _ (by omega)))) (h:=?_)
    iterate 3 refine s1_ ?_
    refine draw_only rfl ?_
    refine ARun.store1 rfl rfl ty_size_3 rfl hI4.ok (by rw [bkC_len hI4.lc hI4.lf];omega) rfl ?_
    try simp only [k_ms,k_sz,k_ss,k_za,Nat.reduceAdd]
    refine arun_nil ⟨fun h=>absurd h (by decide),?_⟩
    iterate 2 refine s1_ ?_
    refine su_ [(0,_),(3,_),(4,_),(5,_),(26,_),(27,_),(28,_),(29,_),(6,_),(7,_),(35,_)] ?_
    refine AWP.less _ (show Mem.Less (M3.set b13 ⟨163,bkC (tb 16 (cF ls y (i+1))) (tb 16 (fF ls (y+1))) (outV (some (b50,c50)) (syms ls (y-1) ++ idxTo ls y i ++ [i]).length) (.slice (some ⟨b11,0,none⟩) ls.length ls.length) (.slice (some ⟨b,off,none⟩) ls.length ca),35⟩) _ from by rw [← cF_yes hl q hgd,hcF,← bkC_cs (by rw [tb_len];omega),show (y:Int).toNat*1=y from by omega];exact Mem.Less.refl _) ?_
    have hI5:=(hI4.setC (cs':=tb 16 (cF ls y (i+1))) (tb_len _ _)).cast rfl rfl rfl (push_yes hgd)
    rw [Mem.set_set] at hI5
    generalize Mem.set M3 b13 _=M5 at hI5 ⊢
    iterate 7 refine s1_ ?_
    refine su_ [(0,_),(3,_),(4,_),(5,_),(26,_),(27,_),(28,_),(29,_),(6,_),(7,_),(35,_)] ?_
    iterate 5 refine s1_ ?_
    refine ⟨(i+1,M5,some (b50,c50)),?_,?_,?_,?_⟩
    all_goals (try dsimp only)
    ·exact ⟨rfl,rfl,(by rw [hcs];exact some_int (by omega)),rfl,rfl,rfl,rfl,trivial⟩
    ·exact Mem.Less.refl _
    ·exact ⟨q,hI5⟩
    ·omega
   ·rw [if_neg (by omega)] at hcs
    iterate 13 refine s1_ ?_
    refine su_ [(0,_),(3,_),(4,_),(5,_),(26,_),(27,_),(28,_),(29,_),(6,_),(7,_)] ?_
    iterate 7 refine s1_ ?_
    refine su_ [(0,_),(3,_),(4,_),(5,_),(26,_),(27,_),(28,_),(29,_),(6,_),(7,_),(35,_)] ?_
    refine cF_ ?_
    iterate 8 refine s1_ ?_
    refine ⟨(i+1,M1,o1),?_,?_,?_,?_⟩
    all_goals (try dsimp only)
    ·exact ⟨rfl,rfl,(by rw [hcs];rfl),rfl,rfl,rfl,rfl,trivial⟩
    ·exact Mem.Less.refl _
    ·exact ⟨q,hI.cast (cF_no q (by omega)) rfl (kF_no (by omega)) (push_no (by omega))⟩
    ·omega
  ·obtain rfl:i=ls.length:=by omega
   iterate 6 refine s1_ ?_
   refine cF_ ?_
   iterate 12 refine s1_ ?_
   refine ⟨(l+1,M1,o1),?_,?_,?_,?_⟩
   all_goals (try dsimp only)
   ·exact ⟨rfl,rfl,(by rw [show l+1-1=l from by omega,hnp,he,List.take_length];rfl),rfl,trivial⟩
   ·exact Mem.Less.refl _
   ·exact ⟨by omega,by omega,hI.cast (cF_next ls l h1) rfl (kF_next ls l) (syms_pred h1).symm⟩
   ·omega
 ·obtain rfl:l=16:=by omega
  iterate 7 refine s1_ ?_
  refine su_ [(0,_),(3,_),(4,_),(5,_),(15,_)] ?_
  refine cF_ ?_
  iterate 11 refine s1_ ?_
  refine su_ [(0,_),(3,_),(4,_),(5,_),(15,_),(2,_)] ?_
  refine s1_ ?_
  refine ⟨_,_,⟨_,_,rfl,rfl,rfl⟩,Mem.Less.refl _,?_⟩
  exact ⟨b13,rfl,hB.less,hB.done hv hlen⟩
end Cn
end Go.Proofs.YtckloanlkpchoaaGreatDoor
namespace Go.Proofs.YtckloanlkpchoaaGreatDoor
open Go.RowKit
open Bits Mv
set_option maxRecDepth 20000
namespace Bits
theorem add_partI (L : List Bool) (v r k : Nat) (hv : v ≤ 18446744073709551615) (hk : L.length % 8 + k ≤ 8) (hr : k ≤ r) :
  bits .or .u64 (IntKind.u64.wrap (((num (rest L):Nat):Int)*2 ^ ((k:Int)).toNat)) (bits .and .u64 ((v:Int) / 2 ^ ((r:Int)-(k:Int)).toNat) (IntKind.u64.wrap (IntKind.u64.wrap (1*2 ^ ((k:Int)).toNat)-1)))=((num (rest L ++ numB (v / 2 ^ (r-k)) k):Nat):Int) ∧
   num (rest L ++ numB (v / 2 ^ (r-k)) k)<256:=by
 obtain ⟨A,B,h1,h2,h3,h4,h5⟩:=add_part L v (r-k) k hv hk
 rw [show ((r:Int)-(k:Int)).toNat=r-k from by omega,Int.toNat_natCast,Int.one_mul,h1,h2,h3]
 exact ⟨rfl,by omega⟩
def wrM (S : Mem) (p : Nat) (o : Option (Nat × Nat)) (L : List Bool) : Mem :=
  (outM S o 5 (bytesV L)).set p ⟨74, [outV o (L.length / 8), .int .u64 (num (rest L) : Nat), .int .i64 (L.length % 8 : Nat)], 3⟩
theorem wrM_eight (S : Mem) (p b c : Nat) (M C : List Bool) (h : M.length % 8 + C.length = 8) : wrM S p (some (b, c)) (M ++ C) =
  (S.set b ⟨5,bytesV M ++ [.int .u8 (num (rest M ++ C):Nat)],c⟩).set p ⟨74,[.slice (some ⟨b,0,none⟩) (M.length / 8+1) c,.int .u64 0,.int .i64 0],3⟩:=by
 unfold wrM outM outV
 have e:(M ++ C).length / 8=M.length / 8+1:=by rw [List.length_append];omega
 have e9:(((M ++ C).length % 8:Nat):Int)=0:=by rw [List.length_append];omega
 simp only [bytesV_eight M C h,(rest_eight M C h).2,e,e9]
 rfl
theorem wrM_few (S : Mem) (p : Nat) (o : Option (Nat × Nat)) (M C : List Bool) (h : M.length % 8 + C.length < 8) : wrM S p o (M ++ C) =
  (outM S o 5 (bytesV M)).set p ⟨74,[outV o (M.length / 8),.int .u64 (num (rest M ++ C):Nat),.int .i64 ((M.length % 8:Nat)+(C.length:Nat))],3⟩:=by
 unfold wrM
 have e:(M ++ C).length / 8=M.length / 8:=by rw [List.length_append];omega
 have e9:(((M ++ C).length % 8:Nat):Int)=(M.length % 8:Nat)+(C.length:Nat):=by rw [List.length_append];omega
 rw [bytesV_few M C h,(rest_few M C h).2,e,e9]
structure OkW (S : Mem) (p : Nat) (o : Option (Nat × Nat)) (L : List Bool) : Prop where
  fp : Fresh S p
  nil : o = none → L.length < 8
  own : ∀ b c, o = some (b, c) → Fresh S b ∧ b ≠ p ∧ L.length / 8 ≤ c
end Bits
set_option maxHeartbeats 1000000 in
theorem bitsV_Add (p v width : Nat) (L : List Bool) (o : Option (Nat × Nat)) (S : Mem) (h3 : width ≤ 64) (h5 : v ≤ 18446744073709551615) (hlen : L.length ≤ 1048576 + 64) (hok : OkW S p o L) :
  ACall Tryz.prog 27 #[.pointer (some ⟨p,0,none⟩),.int .u64 v,.int .i64 width] (wrM S p o L) fun r S'=>r = .tuple #[] ∧ ∃ o',OkW S p o' (L ++ numB v width)∧S'=wrM S p o' (L ++ numB v width):=by
 refine ACall.enter (rs:=[]) 74 [(0,.pointer (some ⟨p,0,none⟩)),(1,.int .u64 v),(2,.int .i64 width)] Tryz.func27 rfl rfl (Nat.le_of_ble_eq_true rfl) rfl ⟨rfl,rfl,rfl,trivial⟩ ?_
 refine s1_ ?_
 refine AWP.loop (X:=Nat × List Bool × Option (Nat × Nat)) (fun x=>[(0,.pointer (some ⟨p,0,none⟩)),(1,.int .u64 v),(2,.int .i64 x.1)]) (fun x=>wrM S p x.2.2 x.2.1) (fun x=>x.1≤width∧x.2.1 ++ numB v x.1=L ++ numB v width∧OkW S p x.2.2 x.2.1) (fun x=>x.1) ((width,L,o)) ⟨rfl,rfl,rfl,trivial⟩ less_ (⟨Nat.le_refl _,rfl,hok⟩) ?_
 rintro ⟨r,M,ov⟩ ⟨hr,hM,hok⟩
 (try dsimp only at *)
 have hMl:M.length≤1048576+128:=by have:=congrArg List.length hM;simp [numB_length] at this;omega
 obtain ⟨k,hk⟩ : ∃ k:Nat,(k:Int)=min (r:Int) (8-(M.length % 8:Nat)):=⟨(min (r:Int) (8-(M.length % 8:Nat))).toNat,by omega⟩
 have hk1:k≤r∧M.length % 8+k≤8∧(r=k∨M.length % 8+k=8):=by omega
 obtain ⟨hkr,hk8,hke⟩:=hk1
 obtain ⟨hR,hRb⟩:=add_partI M v r k h5 hk8 hkr
 have hfp:=hok.fp
 unfold wrM
 iterate 7 refine s1_ ?_
 refine su_ [(0,_),(1,_),(2,_),(9,_)] ?_
 refine AWP.condB rfl (fun hc=>?_) (fun hc=>?_)
 ·have hr0:0<r:=by simpa using hc
  iterate 11 refine s1_ ?_
  refine rC (Calm.minE hk rfl rfl) ?_
  iterate 3 refine s1_ ?_
  refine su_ [(0,_),(1,_),(2,_),(9,_),(6,_)] ?_
  refine s1_ ?_
  refine AWP.draw [(0,true),(1,true),(2,true),(3,true),(4,true),(5,true),(6,true),(7,true),(8,true),(9,true)] [] mixed (by kernel_rfl) ?_
  iterate 12 refine s1_ ?_
  refine su_ [(0,_),(1,_),(2,_),(9,_),(6,_),(7,_)] ?_
  refine s1_ ?_
  refine AWP.draw [(0,true),(1,true),(2,true),(3,true),(4,true),(5,true),(6,true),(7,true),(8,true),(9,true),(10,true),(11,true),(12,true),(13,true),(14,true),(15,true),(16,true),(17,true),(18,false),(19,true),(20,true),(21,false)] [18,21] mixed (by kernel_rfl) ?_
  iterate 18 refine s1_ ?_
  refine draw_only rfl ?_
  refine s1_ ?_
  refine arun_nil ⟨fun h=>absurd h (by decide),?_⟩
  iterate 2 refine s1_ ?_
  refine draw_only rfl ?_
  refine s1_ ?_
  refine arun_nil ⟨fun h=>absurd h (by decide),?_⟩
  iterate 2 refine s1_ ?_
  refine su_ [(0,_),(1,_),(2,_),(9,_),(6,_),(7,_)] ?_
  rw [hR]
  iterate 8 refine s1_ ?_
  refine su_ [(0,_),(1,_),(2,_),(9,_),(6,_),(7,_)] ?_
  iterate 9 refine s1_ ?_
  refine su_ [(0,_),(1,_),(2,_),(9,_),(6,_),(7,_),(53,_)] ?_
  refine AWP.condB rfl (fun hc8=>?_) (fun hc8=>?_)
  ·have he8:M.length % 8+k=8:=by have:=of_decide_eq_true hc8;omega
   rcases ov with _ | ⟨b,c⟩
   ·simp only [outM,outV]
    have hM8:=hok.nil rfl
    have hb0:bytesV M = []:=List.eq_nil_of_length_eq_zero (by rw [bytesV_length];omega)
    refine AWP.draw [(0,true),(1,true),(2,true),(3,true),(4,true),(5,true),(6,true),(7,true),(8,true),(9,true),(10,true),(11,true),(12,false),(13,false),(14,true),(15,true),(16,false),(17,true),(18,true),(19,false),(20,true),(21,true),(22,false)] [13,16,19,22] mixed (by kernel_rfl) ?_
    iterate 12 refine s1_ ?_
    refine draw_only rfl ?_
    refine ARun.build1s (lit_lt rfl) ty_sl_51 rfl rfl ?_
    intro b66 f66
    have g66:=f66
    repeat ((with_reducible replace g66:=fresh_set g66);obtain ⟨g66,_⟩:=g66)
    refine arun_nil ⟨fun _=>less_,?_⟩
    refine draw_only rfl ?_
    refine ARun.appendNil1 (lit_lt rfl) ty_sl_51 rfl rfl (news:=[_]) (rds_cons ((rd_set_same _ _ _ _).trans rfl) (rds_nil _ _)) rfl (by omega) (by omega) (by omega) ?_
    intro bn cn fbn hcn
    have gbn:=fbn
    repeat ((with_reducible replace gbn:=fresh_set gbn);obtain ⟨gbn,_⟩:=gbn)
    refine arun_nil ⟨fun h=>absurd h (by decide),?_⟩
    iterate 2 refine s1_ ?_
    refine draw_only rfl ?_
    refine s1_ ?_
    refine arun_nil ⟨fun h=>absurd h (by decide),?_⟩
    iterate 2 refine s1_ ?_
    refine draw_only rfl ?_
    refine s1_ ?_
    refine arun_nil ⟨fun h=>absurd h (by decide),?_⟩
    iterate 2 refine s1_ ?_
    refine draw_only rfl ?_
    refine s1_ ?_
    refine arun_nil ⟨fun h=>absurd h (by decide),?_⟩
    iterate 3 refine s1_ ?_
    refine ⟨(r-k,M ++ numB (v / 2 ^ (r-k)) k,some (bn,cn)),?_,?_,?_,?_⟩
    all_goals (try dsimp only)
    ·exact ⟨rfl,rfl,some_int (by omega),trivial⟩
    ·show (wrM S p (some (bn,cn)) (M ++ numB (v / 2 ^ (r-k)) k)).Less _;rw [wrM_eight _ _ _ _ _ _ (by rw [numB_length];exact he8),hb0,List.nil_append,show M.length / 8=0 from by omega];exact less_
    ·exact ⟨by omega,by rw [List.append_assoc,← numB_split,show k+(r-k)=r from by omega];exact hM,hok.fp,(fun h=>by cases h),fun b2 c2 h2=>by cases h2;exact ⟨gbn,by assumption,by rw [List.length_append,numB_length];omega⟩⟩
    ·omega
   ·simp only [outM,outV]
    obtain ⟨ho1,ho2,ho3⟩:=hok.own b c rfl
    refine AWP.draw [(0,true),(1,true),(2,true),(3,true),(4,true),(5,true),(6,true),(7,true),(8,true),(9,true),(10,true),(11,true),(12,false),(13,false),(14,true),(15,true),(16,false),(17,true),(18,true),(19,false),(20,true),(21,true),(22,false)] [13,16,19,22] mixed (by kernel_rfl) ?_
    iterate 12 refine s1_ ?_
    refine draw_only rfl ?_
    refine ARun.build1s (lit_lt rfl) ty_sl_51 rfl rfl ?_
    intro b66 f66
    have g66:=f66
    repeat ((with_reducible replace g66:=fresh_set g66);obtain ⟨g66,_⟩:=g66)
    refine arun_nil ⟨fun _=>less_,?_⟩
    refine draw_only rfl ?_
    refine ARun.append1 (lit_lt rfl) ty_sl_51 rfl own_ (bytesV_length M) rfl (news:=[_]) rds_ rfl (by simp [Value.oneCell']) (by omega) (by omega) del_ ?_
    intro bn cn fbn hcn
    have gbn:=fbn
    repeat ((with_reducible replace gbn:=fresh_set gbn);obtain ⟨gbn,_⟩:=gbn)
    refine arun_nil ⟨fun h=>absurd h (by decide),?_⟩
    iterate 2 refine s1_ ?_
    refine draw_only rfl ?_
    refine s1_ ?_
    refine arun_nil ⟨fun h=>absurd h (by decide),?_⟩
    iterate 2 refine s1_ ?_
    refine draw_only rfl ?_
    refine s1_ ?_
    refine arun_nil ⟨fun h=>absurd h (by decide),?_⟩
    iterate 2 refine s1_ ?_
    refine draw_only rfl ?_
    refine s1_ ?_
    refine arun_nil ⟨fun h=>absurd h (by decide),?_⟩
    iterate 3 refine s1_ ?_
    refine ⟨(r-k,M ++ numB (v / 2 ^ (r-k)) k,some (bn,cn)),?_,?_,?_,?_⟩
    all_goals (try dsimp only)
    ·exact ⟨rfl,rfl,some_int (by omega),trivial⟩
    ·show (wrM S p (some (bn,cn)) (M ++ numB (v / 2 ^ (r-k)) k)).Less _;rw [wrM_eight _ _ _ _ _ _ (by rw [numB_length];exact he8)];exact less_
    ·exact ⟨by omega,by rw [List.append_assoc,← numB_split,show k+(r-k)=r from by omega];exact hM,hok.fp,(fun h=>by cases h),fun b2 c2 h2=>by cases h2;exact ⟨gbn,by assumption,by rw [List.length_append,numB_length];omega⟩⟩
    ·omega
  ·have he8 : ¬ M.length % 8+k=8:=by have:=of_decide_eq_false hc8;omega
   iterate 3 refine s1_ ?_
   refine ⟨(r-k,M ++ numB (v / 2 ^ (r-k)) k,ov),?_,?_,?_,?_⟩
   all_goals (try dsimp only)
   ·exact ⟨rfl,rfl,some_int (by omega),trivial⟩
   ·show (wrM S p ov (M ++ numB (v / 2 ^ (r-k)) k)).Less _;rw [wrM_few _ _ _ _ _ (by rw [numB_length];omega),numB_length];exact less_
   ·exact ⟨by omega,by rw [List.append_assoc,← numB_split,show k+(r-k)=r from by omega];exact hM,hok.fp,fun h=>by have:=hok.nil h;rw [List.length_append,numB_length];omega,fun b2 c2 h2=>by obtain ⟨q1,q2,q3⟩:=hok.own b2 c2 h2;exact ⟨q1,q2,by rw [List.length_append,numB_length];omega⟩⟩
   ·omega
 ·have hr0:r=0:=by have:=of_decide_eq_false hc;omega
  subst hr0
  iterate 4 refine s1_ ?_
  refine ⟨_,_,rfl,less_,?_⟩
  exact ⟨rfl,ov,by rw [numB_zero,List.append_nil] at hM;rw [← hM];exact hok,by rw [numB_zero,List.append_nil] at hM;rw [← hM]⟩
end Go.Proofs.YtckloanlkpchoaaGreatDoor
namespace Go.Proofs.YtckloanlkpchoaaGreatDoor
open Go.RowKit
open Bits Mv
set_option maxRecDepth 20000
namespace Bits
theorem fresh_wrM {S : Mem} {p : Nat} {o : Option (Nat × Nat)} {L : List Bool} {b : Nat} (h : Fresh (wrM S p o L) b) : Fresh S b ∧ b ≠ p ∧ ∀ q c, o = some (q, c) → b ≠ q := by
 unfold wrM at h
 obtain ⟨h1,h2⟩:=fresh_set h
 cases o with
 | none=>exact ⟨h1,h2,fun q c e=>by cases e⟩
 | some qc =>
  obtain ⟨q,c⟩:=qc
  obtain ⟨h3,h4⟩:=fresh_set h1
  exact ⟨h3,h2,fun q' c' e=>by cases e;exact h4⟩
/-- The same over more memory. -/
theorem wrM_more (S S' : Mem) (p : Nat) (o : Option (Nat × Nat)) (L : List Bool) (h : S.Less S') : (wrM S p o L).Less (wrM S' p o L) := by
 unfold wrM
 refine Less.set ?_ _ _
 cases o with
 | none=>exact h
 | some qc=>exact Less.set h _ _
theorem OkW.set {S : Mem} {p b : Nat} {o : Option (Nat × Nat)} {L : List Bool} {r : Blk} (h : OkW S p o L) (hp : b ≠ p) (ho : ∀ q c, o = some (q, c) → b ≠ q) : OkW (S.set b r) p o L := by
 have fs:∀ q,Fresh S q→q≠b→Fresh (S.set b r) q:=fun q hq hne=>⟨by rw [Mem.own_set_other _ _ hne];exact hq.1,hq.2⟩
 exact ⟨fs p h.fp (Ne.symm hp),h.nil,fun q c e=>⟨fs q (h.own q c e).1 (Ne.symm (ho q c e)),(h.own q c e).2⟩⟩
theorem OkW.unset {S : Mem} {p b : Nat} {o : Option (Nat × Nat)} {L : List Bool} {r : Blk} (h : OkW (S.set b r) p o L) : OkW S p o L :=
 ⟨(fresh_set h.fp).1,h.nil,fun q c e=>⟨(fresh_set (h.own q c e).1).1,(h.own q c e).2⟩⟩
theorem own_wrM (S : Mem) (p : Nat) (o : Option (Nat × Nat)) (L : List Bool) (b : Nat) (r : Blk) (hp : b ≠ p) (ho : ∀ q c, o = some (q, c) → b ≠ q) (h : S.own b = some r) : (wrM S p o L).own b = some r := by
 unfold wrM
 rw [Mem.own_set_other _ _ hp]
 cases o with
 | none=>exact h
 | some qc =>
  obtain ⟨q,c⟩:=qc
  exact (Mem.own_set_other _ _ (ho q c rfl)).trans h
def lastB (L : List Bool) : UInt8 := UInt8.ofNat (num (rest L) * 2 ^ (8 - L.length % 8))
theorem lastI (L : List Bool) : IntKind.u8.wrap (IntKind.u64.wrap (((num (rest L) : Nat) : Int) * 2 ^ ((8 : Int) - (L.length % 8 : Nat)).toNat)) = nb (lastB L) := by
 obtain ⟨R,h1,h2,h3⟩:=last_byte L
 rw [show ((8:Int)-(L.length % 8:Nat)).toNat=8-L.length % 8 from by omega,h1,h2,h3];rfl
theorem pack_one (L : List Bool) (h : L.length < 8) (hn : L.length % 8 ≠ 0) : pack L = [lastB L] := by
 rw [pack_last L hn]
 have:whole L = []:=by unfold whole;rw [show L.length / 8=0 from by omega];rfl
 rw [this];rfl
theorem rds_own' {S : Mem} {b : Nat} {r : Blk} {cs : List Value} (h : S.own b = some r) (e : r.cells = cs) : S.rds ⟨b, 0, none⟩ cs := by rw [← e]; exact rds_own h
end Bits
theorem bitsV_AddI (p : Nat) (v width : Int) (L : List Bool) (o : Option (Nat × Nat)) (S : Mem) (h0 : 0 ≤ width) (h3 : width ≤ 64) (h4 : 0 ≤ v) (h5 : v ≤ 18446744073709551615) (hlen : L.length ≤ 1048576 + 64) (hok : OkW S p o L) :
  ACall Tryz.prog 27 #[.pointer (some ⟨p,0,none⟩),.int .u64 v,.int .i64 width] (wrM S p o L) fun r S'=>r = .tuple #[] ∧ ∃ o',OkW S p o' (L ++ numB v.toNat width.toNat)∧S'=wrM S p o' (L ++ numB v.toNat width.toNat):=by
 have:=bitsV_Add p v.toNat width.toNat L o S (by omega) (by omega) hlen hok
 rwa [Int.toNat_of_nonneg h4,Int.toNat_of_nonneg h0] at this
set_option maxHeartbeats 400000 in
theorem bitsV_Len (p : Nat) (L : List Bool) (o : Option (Nat × Nat)) (S : Mem) (hlen : L.length ≤ 2000000) (hok : OkW S p o L) :
  ACall Tryz.prog 31 #[.pointer (some ⟨p,0,none⟩)] (wrM S p o L) fun r S'=>r = .int .i64 (L.length:Nat)∧S'=wrM S p o L:=by
 refine ACall.enter (rs:=[.tmp 2]) 14 [(0,.pointer (some ⟨p,0,none⟩))] Tryz.func31 rfl rfl (Nat.le_of_ble_eq_true rfl) rfl ⟨rfl,trivial⟩ ?_
 rcases o with _ | ⟨b,c⟩
 ·unfold wrM outM outV
  iterate 6 refine s1_ ?_
  refine AWP.draw [(0,true),(1,true),(2,true),(3,true),(4,true),(5,true),(6,true),(7,true),(8,true),(9,true),(10,true),(11,true)] [] mixed (by kernel_rfl) ?_
  iterate 14 refine s1_ ?_
  refine su_ [(0,_),(2,_)] ?_
  refine s1_ ?_
  refine ⟨_,_,⟨_,_,rfl,rfl,rfl⟩,less_,?_⟩
  exact ⟨val_int (by have:=hok.nil rfl;omega),rfl⟩
 ·unfold wrM outM outV
  iterate 6 refine s1_ ?_
  refine AWP.draw [(0,true),(1,true),(2,true),(3,true),(4,true),(5,true),(6,true),(7,true),(8,true),(9,true),(10,true),(11,true)] [] mixed (by kernel_rfl) ?_
  iterate 14 refine s1_ ?_
  refine su_ [(0,_),(2,_)] ?_
  refine s1_ ?_
  refine ⟨_,_,⟨_,_,rfl,rfl,rfl⟩,less_,?_⟩
  exact ⟨val_int (by omega),rfl⟩
set_option maxHeartbeats 1000000 in
theorem bitsV_Bits (p : Nat) (L : List Bool) (o : Option (Nat × Nat)) (S : Mem) (hlen : L.length ≤ 1048576) (hok : OkW S p o L) :
  ACall Tryz.prog 28 #[.pointer (some ⟨p,0,none⟩)] (wrM S p o L) fun r S'=>r = .agg #[.string (bs (pack L)),.int .i64 (L.length:Nat)]∧S'=S:=by
 refine ACall.enter (rs:=[.cell 2 31]) 37 [(0,.pointer (some ⟨p,0,none⟩))] Tryz.func28 rfl rfl (Nat.le_of_ble_eq_true rfl) rfl ⟨rfl,trivial⟩ ?_
 have hfp:=hok.fp
 have hLen:=bitsV_Len p L o S (by omega) hok
 have hq8:L.length / 8≤200000:=by omega
 have hlb:=lastI L
 iterate 2 refine s1_ ?_
 refine ARun.alloc (lit_lt rfl) ty_zero_31 ?_
 intro b2 f2
 have g2:=f2
 repeat ((with_reducible replace g2:=fresh_set g2);obtain ⟨g2,_⟩:=g2)
 refine nl_ ?_
 iterate 2 refine s1_ ?_
 obtain ⟨q1,q2,q3⟩:=fresh_wrM g2
 have q2':=Ne.symm q2
 rcases o with _ | ⟨b,c⟩
 ·have hM8:=hok.nil rfl
  simp only [wrM,outM,outV] at hLen ⊢
  iterate 9 refine s1_ ?_
  refine su_ [(0,_),(2,_),(3,_)] ?_
  iterate 10 refine s1_ ?_
  refine su_ [(0,_),(2,_),(3,_),(12,_)] ?_
  refine AWP.condB rfl (fun hc=>?_) (fun hc=>?_)
  ·have hn:L.length % 8≠0:=by have:=of_decide_eq_true hc;omega
   refine AWP.draw [(0,true),(1,true),(2,true),(3,true),(4,true),(5,true),(6,true),(7,true),(8,true),(9,true),(10,true),(11,true),(12,true),(13,true),(14,true),(15,true),(16,true),(17,false),(18,false),(19,true)] [18] mixed (by kernel_rfl) ?_
   iterate 16 refine s1_ ?_
   refine dC (hc:=Calm.conv rfl (conv_intW Tryz.underlying26 Tryz.underlying5 hlb)) (h:=?_)
   refine draw_only rfl ?_
   refine ARun.build1s (lit_lt rfl) ty_sl_51 rfl rfl ?_
   intro b30 f30
   have g30:=f30
   repeat ((with_reducible replace g30:=fresh_set g30);obtain ⟨g30,_⟩:=g30)
   refine arun_nil ⟨fun _=>less_,?_⟩
   refine draw_only rfl ?_
   refine ARun.appendNil1 (lit_lt rfl) ty_sl_51 rfl rfl (news:=[_]) rds_ rfl (by omega) (by omega) (by omega) ?_
   intro bn cn fbn hcn
   have gbn:=fbn
   repeat ((with_reducible replace gbn:=fresh_set gbn);obtain ⟨gbn,_⟩:=gbn)
   refine arun_nil ⟨fun h=>absurd h (by decide),?_⟩
   iterate 3 refine s1_ ?_
   refine su_ [(0,_),(2,_),(3,_),(12,_)] ?_
   have hbs:pack L = [lastB L]:=pack_one L hM8 hn
   refine s1_ ?_
   refine AWP.draw [(0,true),(1,true),(2,true),(3,false),(4,true),(5,false)] [5] mixed (by kernel_rfl) ?_
   refine s1_ ?_
   refine dC (hc:=Calm.toStr ty_bytes_51 ty_str_9 rfl (l:=[lastB L]) rfl rds_) (h:=?_)
   refine s1_ ?_
   refine draw_only rfl ?_
   refine ca_ rfl (ACall.pure_more less_ hLen) ?_
   rintro _ _ ⟨rfl,rfl⟩
   refine arun_nil ⟨fun _=>less_,?_⟩
   refine s1_ ?_
   refine draw_only rfl ?_
   refine s1_ ?_
   refine arun_nil ⟨fun h=>absurd h (by decide),?_⟩
   iterate 2 refine s1_ ?_
   refine su_ [(0,_),(2,_),(3,_),(12,_)] ?_
   refine s1_ ?_
   refine ⟨_,S,⟨_,_,_,rfl,.inr ⟨ty_agg_31,[_,_],ty_size_31,rds_,rfl⟩,rfl,rfl⟩,less_,?_⟩
   exact ⟨by rw [hbs];rfl,rfl⟩
  ·have hn:L = []:=List.eq_nil_of_length_eq_zero (by have:=of_decide_eq_false hc;omega)
   iterate 3 refine s1_ ?_
   refine AWP.draw [(0,true),(1,true),(2,true),(3,false),(4,true),(5,false)] [5] mixed (by kernel_rfl) ?_
   iterate 3 refine s1_ ?_
   refine draw_only rfl ?_
   refine ca_ rfl (ACall.pure_more less_ hLen) ?_
   rintro _ _ ⟨rfl,rfl⟩
   refine arun_nil ⟨fun _=>less_,?_⟩
   refine s1_ ?_
   refine draw_only rfl ?_
   refine s1_ ?_
   refine arun_nil ⟨fun h=>absurd h (by decide),?_⟩
   iterate 2 refine s1_ ?_
   refine su_ [(0,_),(2,_),(3,_),(12,_)] ?_
   refine s1_ ?_
   refine ⟨_,S,⟨_,_,_,rfl,.inr ⟨ty_agg_31,[_,_],ty_size_31,rds_,rfl⟩,rfl,rfl⟩,less_,?_⟩
   exact ⟨by rw [hn];rfl,rfl⟩
 ·simp only [wrM,outM,outV] at hLen ⊢
  obtain ⟨ho1,ho2,ho3⟩:=hok.own b c rfl
  have hb2:=q3 b c rfl
  iterate 9 refine s1_ ?_
  refine su_ [(0,_),(2,_),(3,_)] ?_
  iterate 10 refine s1_ ?_
  refine su_ [(0,_),(2,_),(3,_),(12,_)] ?_
  refine AWP.condB rfl (fun hc=>?_) (fun hc=>?_)
  ·have hn:L.length % 8≠0:=by have:=of_decide_eq_true hc;omega
   refine AWP.draw [(0,true),(1,true),(2,true),(3,true),(4,true),(5,true),(6,true),(7,true),(8,true),(9,true),(10,true),(11,true),(12,true),(13,true),(14,true),(15,true),(16,true),(17,false),(18,false),(19,true)] [18] mixed (by kernel_rfl) ?_
   iterate 16 refine s1_ ?_
   refine dC (hc:=Calm.conv rfl (conv_intW Tryz.underlying26 Tryz.underlying5 hlb)) (h:=?_)
   refine draw_only rfl ?_
   refine ARun.build1s (lit_lt rfl) ty_sl_51 rfl rfl ?_
   intro b30 f30
   have g30:=f30
   repeat ((with_reducible replace g30:=fresh_set g30);obtain ⟨g30,_⟩:=g30)
   refine arun_nil ⟨fun _=>less_,?_⟩
   refine draw_only rfl ?_
   refine ARun.appendCopy1 (lit_lt rfl) ty_sl_51 rfl (xs:=bytesV L) (rds_own' own_ rfl) (bytesV_length L) rfl (news:=[_]) rds_ rfl (by omega) (by omega) (by omega) ?_
   intro bn cn fbn hcn
   have gbn:=fbn
   repeat ((with_reducible replace gbn:=fresh_set gbn);obtain ⟨gbn,_⟩:=gbn)
   refine arun_nil ⟨fun h=>absurd h (by decide),?_⟩
   iterate 3 refine s1_ ?_
   refine su_ [(0,_),(2,_),(3,_),(12,_)] ?_
   have hbs:cellsB (pack L)=bytesV L ++ [.int .u8 (nb (lastB L))]:=by rw [pack_last L hn];simp [cellsB,bytesV,lastB]
   refine s1_ ?_
   refine AWP.draw [(0,true),(1,true),(2,true),(3,false),(4,true),(5,false)] [5] mixed (by kernel_rfl) ?_
   refine s1_ ?_
   refine dC (hc:=Calm.toStr ty_bytes_51 ty_str_9 rfl (l:=pack L) (by rw [pack_length];omega) (by rw [hbs];exact rds_own' own_ rfl)) (h:=?_)
   refine s1_ ?_
   refine draw_only rfl ?_
   refine ca_ rfl (ACall.pure_more less_ hLen) ?_
   rintro _ _ ⟨rfl,rfl⟩
   refine arun_nil ⟨fun _=>less_,?_⟩
   refine s1_ ?_
   refine draw_only rfl ?_
   refine s1_ ?_
   refine arun_nil ⟨fun h=>absurd h (by decide),?_⟩
   iterate 2 refine s1_ ?_
   refine su_ [(0,_),(2,_),(3,_),(12,_)] ?_
   refine s1_ ?_
   refine ⟨_,S,⟨_,_,_,rfl,.inr ⟨ty_agg_31,[_,_],ty_size_31,rds_,rfl⟩,rfl,rfl⟩,less_,?_⟩
   exact ⟨rfl,rfl⟩
  ·have hn:L.length % 8=0:=by have:=of_decide_eq_false hc;omega
   have hbs:cellsB (pack L)=bytesV L:=by unfold bytesV;rw [pack_whole L hn];rfl
   iterate 3 refine s1_ ?_
   refine AWP.draw [(0,true),(1,true),(2,true),(3,false),(4,true),(5,false)] [5] mixed (by kernel_rfl) ?_
   refine s1_ ?_
   refine dC (hc:=Calm.toStr ty_bytes_51 ty_str_9 rfl (l:=pack L) (by rw [pack_length];omega) (by rw [hbs];exact rds_own' own_ rfl)) (h:=?_)
   refine s1_ ?_
   refine draw_only rfl ?_
   refine ca_ rfl (ACall.pure_more less_ hLen) ?_
   rintro _ _ ⟨rfl,rfl⟩
   refine arun_nil ⟨fun _=>less_,?_⟩
   refine s1_ ?_
   refine draw_only rfl ?_
   refine s1_ ?_
   refine arun_nil ⟨fun h=>absurd h (by decide),?_⟩
   iterate 2 refine s1_ ?_
   refine su_ [(0,_),(2,_),(3,_),(12,_)] ?_
   refine s1_ ?_
   refine ⟨_,S,⟨_,_,_,rfl,.inr ⟨ty_agg_31,[_,_],ty_size_31,rds_,rfl⟩,rfl,rfl⟩,less_,?_⟩
   exact ⟨rfl,rfl⟩
end Go.Proofs.YtckloanlkpchoaaGreatDoor
namespace Go.Proofs.YtckloanlkpchoaaGreatDoor
open Go.RowKit
open Bits Mv
set_option maxRecDepth 20000
namespace Bits
def two (a : Value) (e : Int) : Value := .tuple #[a, .int .i64 e]
noncomputable def getP (s : ByteArray) (N at_ width : Int) : Value :=
  if chk s.data.toList N ≠ 0 then two (.int .u64 0) 2
  else if ¬ (0 ≤ width ∧ width ≤ 64) ∨ at_ < 0 ∨ N < at_ then two (.int .u64 0) 1
  else if N - at_ < width then two (.int .u64 0) 5
  else two (.int .u64 (num (slc s.data.toList at_.toNat width.toNat) : Nat)) 0
theorem chk_right {B : List UInt8} {N : Int} (h : chk B N = 0) : right B N := by
 unfold chk at h
 split at h
 ·assumption
 ·cases h
theorem chk_two {B : List UInt8} {N : Int} (h : ¬ chk B N = 0) : chk B N = 2 := by
 unfold chk at h ⊢
 split at h
 ·exact absurd rfl h
 ·rename_i hn;rw [if_neg hn]
theorem bnot_t {p : Prop} [Decidable p] (h : (!decide p) = true) : ¬ p := by simpa using h
theorem bnot_f {p : Prop} [Decidable p] (h : (!decide p) = false) : p := by simpa using h
theorem wrM_nil (S : Mem) (p : Nat) : wrM S p none [] = S.set p ⟨74, [.slice none 0 0, .int .u64 0, .int .i64 0], 3⟩ := rfl
theorem okW_nil {S : Mem} {p : Nat} (h : Fresh S p) : OkW S p none [] := ⟨h, fun _ => by simp, fun b c e => by cases e⟩
theorem own_wrM_ok {S : Mem} {p b : Nat} {o : Option (Nat × Nat)} {L : List Bool} {r : Blk} (hk : OkW S p o L) (h : S.own b = some r) : (wrM S p o L).own b = some r :=
 own_wrM S p o L b r (hk.fp.ne h) (fun q c e=>(hk.own q c e).1.ne h) h
theorem chk_no {B : List UInt8} {N : Int} (h : ¬ right B N) : chk B N = 2 := if_neg h
theorem chk_yes {B : List UInt8} {N : Int} (h : right B N) : chk B N = 0 := if_pos h
theorem right_iff (B : List UInt8) (N : Int) (h0 : 0 ≤ N) (h1 : N ≤ 1048576) (h2 : B.length = (N.toNat + 7) / 8) : right B N ↔ (N % 8 = 0 ∨ IntKind.u8.wrap (nb (at8 B (N.toNat / 8)) * 2 ^ (N % 8).toNat) = 0) := by
 unfold right
 rw [right_last B N.toNat h2]
 have e:(N % 8).toNat=N.toNat % 8:=by omega
 have hz:=shl_zero (at8 B (N.toNat / 8)) (N.toNat % 8) (by omega)
 rw [IntKind.wrap_u8,e,hz]
 constructor
 ·rintro ⟨_,_,h | h⟩
  ·exact .inl (by omega)
  ·exact .inr h
 ·rintro (h | h)
  ·exact ⟨h0,h1,.inl (by omega)⟩
  ·exact ⟨h0,h1,.inr h⟩
end Bits
theorem bits_wide (x : Int) (S : Mem) : ACall Tryz.prog 24 #[.int .i64 x] S fun r S' => r = .bool (decide (0 ≤ x ∧ x ≤ 64)) ∧ S' = S := by
 by_cases h0:0≤x
 ·by_cases h1:x≤64
  ·rw [decide_eq_true (⟨h0,h1⟩ : 0≤x∧x≤64)]
   refine ACall.enter (rs:=[.tmp 2]) 9 [(0,.int .i64 x)] Tryz.func24 rfl rfl (Nat.le_of_ble_eq_true rfl) rfl ⟨rfl,trivial⟩ ?_
   iterate 16 refine s1_ ?_
   refine su_ [(0,_),(2,_)] ?_
   refine s1_ ?_
   refine ⟨_,_,⟨_,_,rfl,rfl,rfl⟩,less_,?_⟩
   exact ⟨rfl,rfl⟩
  ·rw [decide_eq_false (fun h=>h1 h.2 : ¬ (0≤x∧x≤64))]
   refine ACall.enter (rs:=[.tmp 2]) 9 [(0,.int .i64 x)] Tryz.func24 rfl rfl (Nat.le_of_ble_eq_true rfl) rfl ⟨rfl,trivial⟩ ?_
   iterate 16 refine s1_ ?_
   refine su_ [(0,_),(2,_)] ?_
   refine s1_ ?_
   refine ⟨_,_,⟨_,_,rfl,rfl,rfl⟩,less_,?_⟩
   exact ⟨rfl,rfl⟩
 ·rw [decide_eq_false (fun h=>h0 h.1 : ¬ (0≤x∧x≤64))]
  refine ACall.enter (rs:=[.tmp 2]) 9 [(0,.int .i64 x)] Tryz.func24 rfl rfl (Nat.le_of_ble_eq_true rfl) rfl ⟨rfl,trivial⟩ ?_
  iterate 16 refine s1_ ?_
  refine su_ [(0,_),(2,_)] ?_
  refine s1_ ?_
  refine ⟨_,_,⟨_,_,rfl,rfl,rfl⟩,less_,?_⟩
  exact ⟨rfl,rfl⟩
set_option maxHeartbeats 1000000 in
theorem bitsV_Check (s : ByteArray) (N : Int) (S : Mem) (hs : s.size ≤ 9223372036854775807) :
  ACall Tryz.prog 18 #[.agg #[.string s,.int .i64 N]] S fun r S'=>r = .int .i64 (chk s.data.toList N)∧S'=S:=by
 by_cases h1:N<0
 ·rw [chk_no (fun h=>by have:=h.1;omega)]
  refine ACall.enter (rs:=[.tmp 2]) 40 [(0,.agg #[.string s,.int .i64 N])] Tryz.func18 rfl rfl (Nat.le_of_ble_eq_true rfl) rfl ⟨rfl,trivial⟩ ?_
  iterate 2 refine s1_ ?_
  refine ARun.boxA (cs:=[_,_]) (lit_lt rfl) rfl ?_
  intro b1 f1
  have g1:=f1
  repeat ((with_reducible replace g1:=fresh_set g1);obtain ⟨g1,_⟩:=g1)
  refine nl_ ?_
  iterate 27 refine s1_ ?_
  refine su_ [(0,_),(1,_),(2,_),(22,_)] ?_
  refine cT_ ?_
  iterate 7 refine s1_ ?_
  refine ⟨_,S,⟨_,_,rfl,rfl,rfl⟩,less_,?_⟩
  exact ⟨rfl,rfl⟩
 by_cases h2:1048576<N
 ·rw [chk_no (fun h=>by have:=h.2.1;omega)]
  refine ACall.enter (rs:=[.tmp 2]) 40 [(0,.agg #[.string s,.int .i64 N])] Tryz.func18 rfl rfl (Nat.le_of_ble_eq_true rfl) rfl ⟨rfl,trivial⟩ ?_
  iterate 2 refine s1_ ?_
  refine ARun.boxA (cs:=[_,_]) (lit_lt rfl) rfl ?_
  intro b1 f1
  have g1:=f1
  repeat ((with_reducible replace g1:=fresh_set g1);obtain ⟨g1,_⟩:=g1)
  refine nl_ ?_
  iterate 27 refine s1_ ?_
  refine su_ [(0,_),(1,_),(2,_),(22,_)] ?_
  refine cT_ ?_
  iterate 7 refine s1_ ?_
  refine ⟨_,S,⟨_,_,rfl,rfl,rfl⟩,less_,?_⟩
  exact ⟨rfl,rfl⟩
 have hsz:s.size=s.data.toList.length:=(Array.length_toList (xs:=s.data)).symm
 by_cases h3:(s.size:Int)=(N+7) / 8
 ·have hR:=Bits.right_iff s.data.toList N (by omega) (by omega) (by omega)
  by_cases h4:N % 8=0
  ·rw [chk_yes (hR.2 (.inl h4))]
   refine ACall.enter (rs:=[.tmp 2]) 40 [(0,.agg #[.string s,.int .i64 N])] Tryz.func18 rfl rfl (Nat.le_of_ble_eq_true rfl) rfl ⟨rfl,trivial⟩ ?_
   iterate 2 refine s1_ ?_
   refine ARun.boxA (cs:=[_,_]) (lit_lt rfl) rfl ?_
   intro b1 f1
   have g1:=f1
   repeat ((with_reducible replace g1:=fresh_set g1);obtain ⟨g1,_⟩:=g1)
   refine nl_ ?_
   iterate 27 refine s1_ ?_
   refine su_ [(0,_),(1,_),(2,_),(22,_)] ?_
   refine cF_ ?_
   iterate 11 refine s1_ ?_
   refine su_ [(0,_),(1,_),(2,_),(22,_),(3,_)] ?_
   iterate 18 refine s1_ ?_
   refine su_ [(0,_),(1,_),(2,_),(22,_),(3,_),(39,_)] ?_
   refine cF_ ?_
   iterate 8 refine s1_ ?_
   refine ⟨_,S,⟨_,_,rfl,rfl,rfl⟩,less_,?_⟩
   exact ⟨rfl,rfl⟩
  ·have e1:((s.size:Int)-1).toNat=N.toNat / 8:=by omega
   refine ACall.enter (rs:=[.tmp 2]) 40 [(0,.agg #[.string s,.int .i64 N])] Tryz.func18 rfl rfl (Nat.le_of_ble_eq_true rfl) rfl ⟨rfl,trivial⟩ ?_
   iterate 2 refine s1_ ?_
   refine ARun.boxA (cs:=[_,_]) (lit_lt rfl) rfl ?_
   intro b1 f1
   have g1:=f1
   repeat ((with_reducible replace g1:=fresh_set g1);obtain ⟨g1,_⟩:=g1)
   refine nl_ ?_
   iterate 27 refine s1_ ?_
   refine su_ [(0,_),(1,_),(2,_),(22,_)] ?_
   refine cF_ ?_
   rw [← e1] at hR
   iterate 11 refine s1_ ?_
   refine su_ [(0,_),(1,_),(2,_),(22,_),(3,_)] ?_
   iterate 18 refine s1_ ?_
   refine su_ [(0,_),(1,_),(2,_),(22,_),(3,_),(39,_)] ?_
   refine AWP.condB rfl (fun hc=>?_) (fun hc=>?_)
   ·iterate 7 refine s1_ ?_
    refine ⟨_,S,⟨_,_,rfl,rfl,rfl⟩,less_,?_⟩
    exact ⟨by rw [chk_no (fun h=>by rcases hR.1 h with h | h;exact h4 h;exact bnot_t hc h)];rfl,rfl⟩
   ·iterate 8 refine s1_ ?_
    refine ⟨_,S,⟨_,_,rfl,rfl,rfl⟩,less_,?_⟩
    exact ⟨by rw [chk_yes (hR.2 (.inr (bnot_f hc)))];rfl,rfl⟩
 ·rw [chk_no (fun h=>h3 (by have:=h.2.2.1;omega))]
  refine ACall.enter (rs:=[.tmp 2]) 40 [(0,.agg #[.string s,.int .i64 N])] Tryz.func18 rfl rfl (Nat.le_of_ble_eq_true rfl) rfl ⟨rfl,trivial⟩ ?_
  iterate 2 refine s1_ ?_
  refine ARun.boxA (cs:=[_,_]) (lit_lt rfl) rfl ?_
  intro b1 f1
  have g1:=f1
  repeat ((with_reducible replace g1:=fresh_set g1);obtain ⟨g1,_⟩:=g1)
  refine nl_ ?_
  iterate 27 refine s1_ ?_
  refine su_ [(0,_),(1,_),(2,_),(22,_)] ?_
  refine cT_ ?_
  iterate 7 refine s1_ ?_
  refine ⟨_,S,⟨_,_,rfl,rfl,rfl⟩,less_,?_⟩
  exact ⟨rfl,rfl⟩
end Go.Proofs.YtckloanlkpchoaaGreatDoor
namespace Go.Proofs.YtckloanlkpchoaaGreatDoor
open Go.RowKit
open Bits Mv
set_option maxRecDepth 20000
namespace Bits
theorem size_list (s : ByteArray) : s.size = s.data.toList.length := (Array.length_toList (xs := s.data)).symm
end Bits
set_option maxHeartbeats 1000000 in
theorem bitsV_Get (s : ByteArray) (N at_ wd : Int) (S : Mem) (hs : s.size ≤ 9223372036854775807) (hw0 : -9223372036854775808 ≤ wd) (hw1 : wd ≤ 9223372036854775807) :
  ACall Tryz.prog 10 #[.agg #[.string s,.int .i64 N],.int .i64 at_,.int .i64 wd] S fun r S'=>r=getP s N at_ wd∧S'=S:=by
 unfold getP
 refine ACall.enter (rs:=[.tmp 6,.tmp 7]) 39 [(0,.agg #[.string s,.int .i64 N]),(1,.int .i64 at_),(2,.int .i64 wd)] Tryz.func10 rfl rfl (Nat.le_of_ble_eq_true rfl) rfl ⟨rfl,rfl,rfl,trivial⟩ ?_
 iterate 2 refine s1_ ?_
 refine ARun.boxA (cs:=[_,_]) (lit_lt rfl) rfl ?_
 intro b3 f3
 have g3:=f3
 repeat ((with_reducible replace g3:=fresh_set g3);obtain ⟨g3,_⟩:=g3)
 refine nl_ ?_
 iterate 8 refine s1_ ?_
 refine ca_ rfl (bitsV_Check s N _ hs) ?_
 rintro _ _ ⟨rfl,rfl⟩
 iterate 3 refine s1_ ?_
 refine su_ [(0,_),(1,_),(2,_),(3,_),(6,_),(7,_),(8,_)] ?_
 iterate 6 refine s1_ ?_
 refine su_ [(0,_),(1,_),(2,_),(3,_),(6,_),(7,_),(8,_),(12,_)] ?_
 refine AWP.condB rfl (fun hc=>?_) (fun hc=>?_)
 ·have hc:=bnot_t hc
  iterate 7 refine s1_ ?_
  refine su_ [(0,_),(1,_),(2,_),(3,_),(6,_),(7,_),(8,_),(12,_)] ?_
  iterate 2 refine s1_ ?_
  refine ⟨_,S,⟨_,_,rfl,⟨_,_,rfl,rfl,rfl⟩,rfl⟩,less_,?_⟩
  exact ⟨by rw [if_pos hc,chk_two hc];rfl,rfl⟩
 ·have hc:=bnot_f hc
  rw [if_neg (fun h=>h hc)]
  obtain ⟨hN0,hN1,hR⟩:=chk_right hc
  by_cases hw:0≤wd∧wd≤64
  ·by_cases ha:at_<0
   ·iterate 7 refine s1_ ?_
    refine ca_ rfl (bits_wide wd _) ?_
    rintro _ _ ⟨rfl,rfl⟩
    rw [decide_eq_true hw]
    iterate 14 refine s1_ ?_
    refine su_ [(0,_),(1,_),(2,_),(3,_),(6,_),(7,_),(8,_),(12,_),(14,_)] ?_
    refine cT_ ?_
    iterate 9 refine s1_ ?_
    refine ⟨_,S,⟨_,_,rfl,⟨_,_,rfl,rfl,rfl⟩,rfl⟩,less_,?_⟩
    exact ⟨by rw [if_pos (.inr (.inl ha))];rfl,rfl⟩
   ·by_cases hb:N<at_
    ·iterate 7 refine s1_ ?_
     refine ca_ rfl (bits_wide wd _) ?_
     rintro _ _ ⟨rfl,rfl⟩
     rw [decide_eq_true hw]
     iterate 14 refine s1_ ?_
     refine su_ [(0,_),(1,_),(2,_),(3,_),(6,_),(7,_),(8,_),(12,_),(14,_)] ?_
     refine cT_ ?_
     iterate 9 refine s1_ ?_
     refine ⟨_,S,⟨_,_,rfl,⟨_,_,rfl,rfl,rfl⟩,rfl⟩,less_,?_⟩
     exact ⟨by rw [if_pos (.inr (.inr hb))];rfl,rfl⟩
    ·rw [if_neg (fun h=>by rcases h with h | h | h;exact h hw;exact ha h;exact hb h)]
     iterate 7 refine s1_ ?_
     refine ca_ rfl (bits_wide wd _) ?_
     rintro _ _ ⟨rfl,rfl⟩
     rw [decide_eq_true hw]
     iterate 14 refine s1_ ?_
     refine su_ [(0,_),(1,_),(2,_),(3,_),(6,_),(7,_),(8,_),(12,_),(14,_)] ?_
     refine cF_ ?_
     iterate 11 refine s1_ ?_
     refine su_ [(0,_),(1,_),(2,_),(3,_),(6,_),(7,_),(8,_),(12,_),(14,_),(28,_)] ?_
     refine AWP.condB rfl (fun hf=>?_) (fun hf=>?_)
     ·have hf:=of_decide_eq_true hf
      iterate 9 refine s1_ ?_
      refine ⟨_,S,⟨_,_,rfl,⟨_,_,rfl,rfl,rfl⟩,rfl⟩,less_,?_⟩
      exact ⟨by rw [if_pos hf];rfl,rfl⟩
     ·have hf:=of_decide_eq_false hf
      rw [if_neg hf]
      have hs1:s.size=(N.toNat+7) / 8:=by rw [← hR.1];exact size_list s
      iterate 8 refine s1_ ?_
      refine ca_ rfl (ACall.of_calls fun w=>bits_At s (by omega) N at_ wd w (by omega) (by omega) (by omega) (by omega)) ?_
      rintro _ _ ⟨rfl,rfl⟩
      iterate 4 refine s1_ ?_
      refine su_ [(0,_),(1,_),(2,_),(3,_),(6,_),(7,_),(8,_),(12,_),(14,_),(28,_)] ?_
      refine s1_ ?_
      refine ⟨_,S,⟨_,_,rfl,⟨_,_,rfl,rfl,rfl⟩,rfl⟩,less_,?_⟩
      exact ⟨rfl,rfl⟩
  ·iterate 7 refine s1_ ?_
   refine ca_ rfl (bits_wide wd _) ?_
   rintro _ _ ⟨rfl,rfl⟩
   rw [decide_eq_false hw]
   iterate 14 refine s1_ ?_
   refine su_ [(0,_),(1,_),(2,_),(3,_),(6,_),(7,_),(8,_),(12,_),(14,_)] ?_
   refine cT_ ?_
   iterate 9 refine s1_ ?_
   refine ⟨_,S,⟨_,_,rfl,⟨_,_,rfl,rfl,rfl⟩,rfl⟩,less_,?_⟩
   exact ⟨by rw [if_pos (.inl hw)];rfl,rfl⟩
end Go.Proofs.YtckloanlkpchoaaGreatDoor
namespace Go.Proofs.YtckloanlkpchoaaGreatDoor
open Go.RowKit
open Mv Bits
set_option maxRecDepth 4000
namespace Cn
theorem cF_all (ls : List Nat) {k : Nat} (h1 : 1 ≤ k) (h2 : k ≤ 15) : (tb 16 (cF ls 16 0))[k]? = some (cn ls k) := by
 rw [tb_get _ (by omega)];unfold cF;rw [if_pos ⟨h1,by omega⟩]
theorem fF_all (ls : List Nat) {k : Nat} (h1 : 1 ≤ k) (h2 : k ≤ 15) : (tb 16 (fF ls 16))[k]? = some (fst ls k) := by
 rw [tb_get _ (by omega)];unfold fF;rw [if_pos ⟨h1,by omega⟩]
theorem kF_all (ls : List Nat) {x : Nat} (h : ls.getD x 0 ≤ 15) : kF ls 16 0 x = code ls x := by
 unfold kF
 by_cases e:ls.getD x 0=0
 ·rw [if_neg (by omega)];unfold code;rw [if_pos e]
 ·rw [if_pos ⟨by omega,.inl (by omega)⟩]
theorem sl_at {α : Type} {f : α → List Value} {S : Mem} {v : Value} {l : List α} (h : Sl 1 f S v l) {i : Nat} (hi : i < l.length) : ∃ b o c, v = .slice (some ⟨b, o, none⟩) l.length c ∧ S.Knows ⟨b, o + i * 1, none⟩ (f l[i]) := by
 obtain ⟨a,c,rfl,_,_,h4⟩:=h
 obtain ⟨b,o,rfl,hk⟩:=h4.resolve_left (fun e=>by subst e;exact absurd hi (Nat.not_lt_zero _))
 exact ⟨b,o,c,rfl,hk i hi⟩
theorem cn_Code (b : Nat) (ls : List Nat) (x : Nat) (S : Mem) (hB : BookR S b ls) (hx : x < ls.length) (h15 : ls.getD x 0 ≤ 15) :
  ACall Tryz.prog 56 #[.pointer (some ⟨b,0,none⟩),.int .i64 (x:Int)] S fun r S'=>r = .tuple #[.int .u64 (code ls x:Nat),.int .i64 (ls.getD x 0:Nat)]∧S'=S:=by
 obtain ⟨sy,co,v,hk,h1,h2,h3⟩:=hB.ex
 have lc:=tb_len 16 (cF ls 16 0)
 have lf:=tb_len 16 (fF ls 16)
 obtain ⟨cb,co',cc,rfl,kc⟩:=sl_at h2 (i:=x) (by rw [tb_len];exact hx)
 obtain ⟨vb,vo,vc,rfl,kv⟩:=sl_at h3 hx
 have e1:(tb ls.length (kF ls 16 0))[x]'(by rw [tb_len];exact hx)=code ls x:=by
  have:=tb_get (kF ls 16 0) hx
  rw [List.getElem?_eq_getElem (by rw [tb_len];exact hx)] at this
  rw [Option.some.inj this,kF_all ls h15]
 rw [e1] at kc
 rw [← Pk.getD_of hx] at kv
 rw [tb_len] at hk h2
 refine ACall.enter (rs:=[.tmp 4,.tmp 5]) 20 [(0,.pointer (some ⟨b,0,none⟩)),(1,.int .i64 (x:Int))] Tryz.func56 rfl rfl (Nat.le_of_ble_eq_true rfl) rfl ⟨rfl,rfl,trivial⟩ ?_
 iterate 7 refine s1_ ?_
 refine AWP.draw [(0,true),(1,true),(2,true),(3,true),(4,true),(5,true),(6,true),(7,true),(8,true),(9,true),(10,true),(11,true),(12,true),(13,true),(14,true),(15,true)] [] mixed (by kernel_rfl) ?_
 iterate 3 refine s1_ ?_
 refine dC (hc:=Calm.loadK ty_plain_108 rfl (Pk.kn_at hk 33 (bkC_e lc lf 1))) (h:=?_)
 iterate 2 refine s1_ ?_
 refine dC (hc:=Calm.loadK ty_plain_26 rfl (Pk.kn_adr kc (by omega))) (h:=?_)
 iterate 3 refine s1_ ?_
 refine dC (hc:=Calm.loadK ty_plain_52 rfl (Pk.kn_at hk 34 (bkC_e lc lf 2))) (h:=?_)
 iterate 2 refine s1_ ?_
 refine dC (hc:=Calm.loadK ty_plain_3 rfl (Pk.kn_adr kv (by omega))) (h:=?_)
 iterate 4 refine s1_ ?_
 refine su_ [(0,_),(1,_),(4,_),(5,_)] ?_
 refine s1_ ?_
 refine ⟨_,S,⟨_,_,rfl,⟨_,_,rfl,rfl,rfl⟩,rfl⟩,less_,?_⟩
 exact ⟨rfl,rfl⟩
theorem cn_find_no (b : Nat) (ls : List Nat) (c l ahead : Nat) (S : Mem) (hB : BookR S b ls) (hl1 : 1 ≤ l) (hl2 : l ≤ 15) (hc : c < 1000000) (hh : fst ls l + cn ls l ≤ c) :
  ACall Tryz.prog 113 #[.pointer (some ⟨b,0,none⟩),.int .u64 (c:Int),.int .i64 (l:Int),.int .i64 (ahead:Int)] S fun r S'=>r = .int .i64 (-1)∧S'=S:=by
 obtain ⟨sy,co,v,hk,h1,h2,h3⟩:=hB.ex
 have lc:=tb_len 16 (cF ls 16 0)
 have kf:=Pk.kn_at hk (16+l) (bkC_f lc (fF_all ls hl1 hl2))
 have kc:=Pk.kn_at hk l (bkC_c (cF_all ls hl1 hl2))
 refine ACall.enter (rs:=[.tmp 8]) 47 [(0,.pointer (some ⟨b,0,none⟩)),(1,.int .u64 (c:Int)),(2,.int .i64 (l:Int)),(3,.int .i64 (ahead:Int))] Tryz.func113 rfl rfl (Nat.le_of_ble_eq_true rfl) rfl ⟨rfl,rfl,rfl,rfl,trivial⟩ ?_
 iterate 13 refine s1_ ?_
 refine rC (Calm.loadK ty_plain_26 rfl (Pk.kn_adr kf (by omega))) ?_
 refine rC (Calm.bin rfl rfl (bin_subW (show IntKind.u64.wrap ((c:Int)-(fst ls l:Nat))=((c-fst ls l:Nat):Int) from (IntWalk.u64_in _ (by omega)).trans (by omega)))) ?_
 iterate 3 refine s1_ ?_
 refine su_ [(0,_),(1,_),(2,_),(3,_),(8,_),(9,_)] ?_
 iterate 9 refine s1_ ?_
 refine rC (Calm.loadK ty_plain_26 rfl (Pk.kn_adr kf (by omega))) ?_
 refine rC (Calm.bin rfl rfl (bin_bool (bin_lss _ _) (decide_eq_false (by omega)))) ?_
 iterate 7 refine s1_ ?_
 first|refine k_q 26 ?_|refine rG 26 (Calm.loadK ty_plain_3 rfl (Pk.kn_adr kc (by omega))) ?_
 first|refine k_q 26 ?_|refine rG 26 (Calm.conv rfl (conv_intW Tryz.underlying3 Tryz.underlying26 (IntWalk.u64_in _ (by omega)))) ?_
 first|refine k_q 26 ?_|refine rG 26 (Calm.bin rfl rfl (bin_bool (bin_geq _ _) (decide_eq_true (by omega)))) ?_
 iterate 3 refine s1_ ?_
 refine su_ [(0,_),(1,_),(2,_),(3,_),(8,_),(9,_),(36,_)] ?_
 refine cT_ ?_
 iterate 7 refine s1_ ?_
 refine ⟨_,S,⟨_,_,rfl,rfl,rfl⟩,less_,?_⟩
 exact ⟨rfl,rfl⟩
theorem cn_find_yes (b : Nat) (ls : List Nat) (l ahead q x : Nat) (S : Mem) (hB : BookR S b ls) (hl1 : 1 ≤ l) (hl2 : l ≤ 15) (hc : fst ls l + q < 1000000) (hq : q < cn ls l) (hn : cn ls l ≤ 1000000) (ha : ahead + q < 100000) (hx : (syms ls 15)[ahead + q]? = some x) :
  ACall Tryz.prog 113 #[.pointer (some ⟨b,0,none⟩),.int .u64 ((fst ls l+q:Nat):Int),.int .i64 (l:Int),.int .i64 (ahead:Int)] S fun r S'=>r = .int .i64 (x:Int)∧S'=S:=by
 obtain ⟨sy,co,v,hk,h1,h2,h3⟩:=hB.ex
 have lc:=tb_len 16 (cF ls 16 0)
 have lf:=tb_len 16 (fF ls 16)
 have kf:=Pk.kn_at hk (16+l) (bkC_f lc (fF_all ls hl1 hl2))
 have kc:=Pk.kn_at hk l (bkC_c (cF_all ls hl1 hl2))
 obtain ⟨hi,hxe⟩:=List.getElem?_eq_some_iff.1 hx
 obtain ⟨sb,so,sc,rfl,ks⟩:=sl_at h1 hi
 rw [hxe] at ks
 refine ACall.enter (rs:=[.tmp 8]) 47 [(0,.pointer (some ⟨b,0,none⟩)),(1,.int .u64 ((fst ls l+q:Nat):Int)),(2,.int .i64 (l:Int)),(3,.int .i64 (ahead:Int))] Tryz.func113 rfl rfl (Nat.le_of_ble_eq_true rfl) rfl ⟨rfl,rfl,rfl,rfl,trivial⟩ ?_
 iterate 13 refine s1_ ?_
 refine rC (Calm.loadK ty_plain_26 rfl (Pk.kn_adr kf (by omega))) ?_
 refine rC (Calm.bin rfl rfl (bin_subW (show IntKind.u64.wrap (((fst ls l+q:Nat):Int)-(fst ls l:Nat))=(q:Int) from (IntWalk.u64_in _ (by omega)).trans (by omega)))) ?_
 iterate 3 refine s1_ ?_
 refine su_ [(0,_),(1,_),(2,_),(3,_),(8,_),(9,_)] ?_
 iterate 9 refine s1_ ?_
 refine rC (Calm.loadK ty_plain_26 rfl (Pk.kn_adr kf (by omega))) ?_
 refine rC (Calm.bin rfl rfl (bin_bool (bin_lss _ _) (decide_eq_false (by omega)))) ?_
 iterate 7 refine s1_ ?_
 first|refine k_q 26 ?_|refine rG 26 (Calm.loadK ty_plain_3 rfl (Pk.kn_adr kc (by omega))) ?_
 first|refine k_q 26 ?_|refine rG 26 (Calm.conv rfl (conv_intW Tryz.underlying3 Tryz.underlying26 (IntWalk.u64_in _ (by omega)))) ?_
 first|refine k_q 26 ?_|refine rG 26 (Calm.bin rfl rfl (bin_bool (bin_geq _ _) (decide_eq_false (by omega)))) ?_
 iterate 3 refine s1_ ?_
 refine su_ [(0,_),(1,_),(2,_),(3,_),(8,_),(9,_),(36,_)] ?_
 refine cF_ ?_
 iterate 7 refine s1_ ?_
 refine rC (Calm.loadK ty_plain_52 rfl (Pk.kn_at hk 32 (bkC_e lc lf 0))) ?_
 iterate 5 refine s1_ ?_
 refine rC (Calm.loadK ty_plain_3 rfl (Pk.kn_adr ks (by omega))) ?_
 iterate 3 refine s1_ ?_
 refine su_ [(0,_),(1,_),(2,_),(3,_),(8,_),(9,_),(36,_)] ?_
 refine s1_ ?_
 refine ⟨_,S,⟨_,_,rfl,rfl,rfl⟩,less_,?_⟩
 exact ⟨rfl,rfl⟩
/-- What Next reads: a symbol's bits. -/
theorem left_pos {ls : List Nat} {x : Nat} (hx : x < ls.length) (h0 : ls.getD x 0 ≠ 0) (h15 : ls.getD x 0 ≤ 15) {l : Nat} (h1 : 1 ≤ l) (hl : l ≤ ls.getD x 0) : (syms ls (l - 1)).length < (syms ls 15).length := by
 have h2:=(List.getElem?_eq_some_iff.1 (syms_at hx h0 h15)).1
 have h3:=syms_le ls (show l-1≤ls.getD x 0-1 by omega)
 omega
theorem slc_take (B : List UInt8) (p n m : Nat) (h : m ≤ n) : slc B p m = (slc B p n).take m := by
 obtain ⟨k,rfl⟩ : ∃ k,n=m+k:=⟨n-m,by omega⟩
 rw [slc_add,List.take_left' (slc_length _ _ _)]
theorem or_bit (a c : Nat) (hc : c < 2) (ha : a < 1000000) : bits .or .u64 (((2 * a : Nat) : Int)) ((c : Nat) : Int) = ((2 * a + c : Nat) : Int) := by
 have:=bits_join .u64 64 (by decide) (fun n h0 h1=>by rw [IntKind.wrap_u64];omega) 1 ((2*a:Nat):Int) ((c:Nat):Int) (by omega) (by rw [show ((2:Int) ^ 1)=2 from rfl];omega) (by omega) (by omega) (by rw [show ((2:Int) ^ 1)=2 from rfl];omega) (by omega)
 rw [this];omega
set_option maxHeartbeats 4000000 in
theorem cn_Next (b : Nat) (ls : List Nat) (x : Nat) (s : ByteArray) (N at_ : Nat) (S : Mem) (hB : BookR S b ls) (hs : s.size ≤ 200000) (hN : N ≤ 8 * s.size) (hx : x < ls.length) (h0 : ls.getD x 0 ≠ 0) (h15 : ls.getD x 0 ≤ 15) (hc : code ls x < 2 ^ ls.getD x 0) (hn : at_ + ls.getD x 0 ≤ N) (hb : slc s.data.toList at_ (ls.getD x 0) = bitsOf ls x) (hlen : ls.length ≤ 512) :
  ACall Tryz.prog 79 #[.pointer (some ⟨b,0,none⟩),.agg #[.string s,.int .i64 (N:Int)],.int .i64 (at_:Int)] S fun r S'=>r = .tuple #[.int .u64 (x:Int),.int .i64 ((at_+ls.getD x 0:Nat):Int),.int .i64 0]∧S'=S:=by
 obtain ⟨sy,co,v,hk,hy1,hy2,hy3⟩:=id hB.ex
 have lc:=tb_len 16 (cF ls 16 0)
 have lf:=tb_len 16 (fF ls 16)
 obtain ⟨sa,sc,rfl,_⟩:=Sl.len_eq hy1
 obtain ⟨m,hm⟩ : ∃ m,m=ls.getD x 0:=⟨_,rfl⟩
 obtain ⟨n15,hn15⟩ : ∃ n,n=(syms ls 15).length:=⟨_,rfl⟩
 have hn15':n15≤512:=by have:=cn_sum ls 15;omega
 rw [← hn15] at hk hy1
 rw [← hm] at h0 h15 hn ⊢
 have hpow:(2:Nat) ^ 15=32768:=by decide
 refine ACall.enter (rs:=[.tmp 6,.tmp 7,.tmp 8]) 68 [(0,.pointer (some ⟨b,0,none⟩)),(1,.agg #[.string s,.int .i64 (N:Int)]),(2,.int .i64 (at_:Int))] Tryz.func79 rfl rfl (Nat.le_of_ble_eq_true rfl) rfl ⟨rfl,rfl,rfl,trivial⟩ ?_
 iterate 2 refine s1_ ?_
 refine ARun.boxA (cs:=[_,_]) (lit_lt rfl) rfl ?_
 intro b4 f4
 have g4:=f4
 repeat ((with_reducible replace g4:=fresh_set g4);obtain ⟨g4,_⟩:=g4)
 refine nl_ ?_
 iterate 5 refine s1_ ?_
 have hB4:=hB.less (Mem.less_set S b4 ⟨31,[.string s,.int .i64 (N:Int)],2⟩ f4.1)
 have hk4:=hk.less (Mem.less_set S b4 ⟨31,[.string s,.int .i64 (N:Int)],2⟩ f4.1)
 iterate 11 refine s1_ ?_
 refine rC (Calm.loadK ty_plain_52 rfl (Pk.kn_at hk4 32 (bkC_e lc lf 0))) ?_
 iterate 4 refine s1_ ?_
 refine su_ [(0,_),(1,_),(2,_),(4,_),(6,_),(7,_),(8,_),(9,_),(10,_),(11,_)] ?_
 iterate 7 refine s1_ ?_
 refine AWP.loop (X:=Nat) (fun l=>[(0,.pointer (some ⟨b,0,none⟩)),(2,.int .i64 (at_:Int)),(4,.pointer (some ⟨b4,0,none⟩)),(9,.int .u64 ((num (slc s.data.toList at_ (l-1)):Nat):Int)),(10,.int .i64 ((syms ls (l-1)).length:Int)),(11,.int .i64 ((n15-(syms ls (l-1)).length:Nat):Int)),(12,.int .i64 (l:Int))]) (fun _=>S.set b4 ⟨31,[.string s,.int .i64 (N:Int)],2⟩) (fun l=>1≤l∧l≤m) (fun l=>m-l) (1) ⟨rfl,rfl,rfl,rfl,rfl,rfl,rfl,trivial⟩ (Mem.Less.refl _) (⟨Nat.le_refl _,by omega⟩) ?_
 rintro l ⟨h1,h2⟩
 (try dsimp only at *)
 have hp:=left_pos hx (by omega) (by omega) h1 (show l≤ls.getD x 0 by omega)
 have hlt:=num_lt (slc s.data.toList at_ (l-1))
 rw [slc_length] at hlt
 have hpw:2 ^ (l-1)≤2 ^ 15:=Nat.pow_le_pow_right (by decide) (by omega)
 have hadd:=slc_add s.data.toList at_ (l-1) 1
 rw [show l-1+1=l from by omega] at hadd
 have hap:=congrArg num hadd
 rw [num_append,slc_length] at hap
 obtain ⟨a,ha⟩ : ∃ a,a=num (slc s.data.toList at_ (l-1)):=⟨_,rfl⟩
 obtain ⟨c,hcc⟩ : ∃ c,c=num (slc s.data.toList (at_+(l-1)) 1):=⟨_,rfl⟩
 have hc2:c<2:=by have:=num_lt (slc s.data.toList (at_+(l-1)) 1);rw [slc_length] at this;omega
 rw [← ha,← hcc] at hap
 rw [← ha] at hlt ⊢
 have hAt:=fun w=>bits_At s hs N ((at_+(l-1):Nat):Int) 1 w (by omega) (by omega) (by omega) (by omega)
 rw [Int.toNat_natCast,show (1:Int).toNat=1 from rfl,← hcc] at hAt
 have hsl:=slc_take s.data.toList at_ m l h2
 rw [hm,hb] at hsl
 have hsyl:=syms_length ls (l-1)
 rw [show l-1+1=l from by omega] at hsyl
 have hsle:=syms_le ls (show l≤15 by omega)
 iterate 7 refine s1_ ?_
 refine su_ [(0,_),(2,_),(4,_),(9,_),(10,_),(11,_),(12,_),(20,_)] ?_
 refine cT_ ?_
 iterate 11 refine s1_ ?_
 refine su_ [(0,_),(2,_),(4,_),(9,_),(10,_),(11,_),(12,_),(20,_),(24,_)] ?_
 refine cF_ ?_
 iterate 13 refine s1_ ?_
 refine su_ [(0,_),(2,_),(4,_),(9,_),(10,_),(11,_),(12,_),(20,_),(24,_),(30,_)] ?_
 refine cF_ ?_
 iterate 5 refine s1_ ?_
 refine rC (Calm.bin rfl rfl (bin_valS (bin_shl (by decide) (by decide)) (show IntKind.u64.wrap ((a:Int)*2 ^ (1:Int).toNat)=((2*a:Nat):Int) from by rw [show (2:Int) ^ (1:Int).toNat=2 from rfl];exact (IntWalk.u64_in _ (by omega)).trans (by omega)))) ?_
 iterate 4 refine s1_ ?_
 refine rC (Calm.bin rfl rfl (bin_subW (show IntKind.i64.wrap _=((at_+(l-1):Nat):Int) from (IntWalk.i64_in _ (by omega)).trans (by omega)))) ?_
 refine ca_ rfl (ACall.of_calls fun w=>hAt w) ?_
 rintro _ _ ⟨rfl,rfl⟩
 refine rC (Calm.bin rfl rfl (bin_orE (or_bit a c hc2 (by omega)))) ?_
 iterate 3 refine s1_ ?_
 refine su_ [(0,_),(2,_),(4,_),(9,_),(10,_),(11,_),(12,_),(20,_),(24,_),(30,_)] ?_
 by_cases q:l=m
 ·subst q
  have hf:=find_yes hx hc (by omega)
  have hsa:=syms_at hx (by omega) (show ls.getD x 0≤15 by omega)
  rw [← hm] at hf hsa
  rw [← hsl,hap] at hf
  have hrk:2*a+c=fst ls l+rank ls x:=by omega
  have hrl:=rank_lt hx
  have hcn:=idx_length ls l
  rw [hrk]
  iterate 7 refine s1_ ?_
  refine ca_ rfl (cn_find_yes b ls l _ (rank ls x) x _ hB4 h1 (by omega) (by omega) hf.2 (by omega) (by have:=(List.getElem?_eq_some_iff.1 hsa).1;omega) hsa) ?_
  rintro _ _ ⟨rfl,rfl⟩
  iterate 3 refine s1_ ?_
  refine su_ [(0,_),(2,_),(4,_),(9,_),(10,_),(11,_),(12,_),(20,_),(24,_),(30,_),(13,_)] ?_
  iterate 6 refine s1_ ?_
  refine su_ [(0,_),(2,_),(4,_),(9,_),(10,_),(11,_),(12,_),(20,_),(24,_),(30,_),(13,_),(46,_)] ?_
  refine cT_ ?_
  iterate 12 refine s1_ ?_
  refine su_ [(0,_),(2,_),(4,_),(9,_),(10,_),(11,_),(12,_),(20,_),(24,_),(30,_),(13,_),(46,_),(6,_),(7,_),(8,_)] ?_
  iterate 7 refine s1_ ?_
  refine ⟨_,S,⟨_,_,rfl,⟨_,_,rfl,⟨_,_,rfl,rfl,rfl⟩,rfl⟩,rfl⟩,less_,?_⟩
  exact ⟨rfl,rfl⟩
 ·have hf:=find_no hc h1 (show l<ls.getD x 0 by omega)
  rw [← hsl,hap] at hf
  iterate 7 refine s1_ ?_
  refine ca_ rfl (cn_find_no b ls (2*a+c) l _ _ hB4 h1 (by omega) (by omega) (by omega)) ?_
  rintro _ _ ⟨rfl,rfl⟩
  iterate 3 refine s1_ ?_
  refine su_ [(0,_),(2,_),(4,_),(9,_),(10,_),(11,_),(12,_),(20,_),(24,_),(30,_),(13,_)] ?_
  iterate 6 refine s1_ ?_
  refine su_ [(0,_),(2,_),(4,_),(9,_),(10,_),(11,_),(12,_),(20,_),(24,_),(30,_),(13,_),(46,_)] ?_
  refine cF_ ?_
  iterate 2 refine s1_ ?_
  refine AWP.draw [(0,true),(1,true),(2,true),(3,true),(4,true),(5,true),(6,true),(7,true),(8,true),(9,true),(10,true),(11,true),(12,true),(13,true),(14,true),(15,true),(16,true),(17,true)] [] mixed (by kernel_rfl) ?_
  iterate 6 refine s1_ ?_
  refine dC (hc:=Calm.loadK (v:=.int .i64 ((cn ls l:Nat):Int)) ty_plain_3 rfl (Pk.kn_adr (Pk.kn_at hk4 l (bkC_c (cF_all ls h1 (by omega)))) (by omega))) (h:=?_)
  iterate 7 refine s1_ ?_
  refine dC (hc:=Calm.loadK (v:=.int .i64 ((cn ls l:Nat):Int)) ty_plain_3 rfl (Pk.kn_adr (Pk.kn_at hk4 l (bkC_c (cF_all ls h1 (by omega)))) (by omega))) (h:=?_)
  iterate 6 refine s1_ ?_
  refine su_ [(0,_),(2,_),(4,_),(9,_),(10,_),(11,_),(12,_),(20,_),(24,_),(30,_),(13,_),(46,_)] ?_
  iterate 6 refine s1_ ?_
  refine ⟨l+1,?_,?_,?_,?_⟩
  all_goals (try dsimp only)
  ·exact ⟨rfl,rfl,rfl,some_int (by rw [show l+1-1=l from by omega,hap];omega),some_int (by rw [show l+1-1=l from by omega];omega),some_int (by rw [show l+1-1=l from by omega];omega),rfl,trivial⟩
  ·exact Mem.Less.refl _
  ·omega
  ·omega
end Cn
end Go.Proofs.YtckloanlkpchoaaGreatDoor
namespace Go.Proofs.YtckloanlkpchoaaGreatDoor
open Go.RowKit
open Mv Bits
set_option maxRecDepth 4000
namespace Tb
theorem wr_over {S : Mem} {p : Nat} {o : Option (Nat × Nat)} {L : List Bool} (h : OkW S p o L) : S.Less (wrM S p o L) := by
 unfold wrM
 refine (outM_over (n:=L.length / 8) (S:=S) (o:=o) ⟨fun e=>?_,fun b c e=>⟨(h.own b c e).1,(h.own b c e).2.2⟩⟩).trans (Mem.less_set _ _ _ ?_)
 ·have:=h.nil e;omega
 ·cases o with
  | none=>exact h.fp.1
  | some q=>exact (Mem.own_set_other _ _ (Ne.symm (h.own q.1 q.2 rfl).2.1)).trans h.fp.1
theorem headD_drop {ls : List Nat} (h : 0 < ls.length) : ls.headD 0 = ls[0] := by cases ls with | nil => cases h | cons a t => rfl
theorem go_drop {ls : List Nat} {i now : Nat} (h : i < ls.length) : go now (ls.drop i) = up (ls[i] - now) ++ dn (now - ls[i]) ++ [false] ++ go ls[i] (ls.drop (i + 1)) := by
 rw [List.drop_eq_getElem_cons h];rfl
theorem up_pos {k : Nat} (h : 0 < k) : up k = [true, false] ++ up (k - 1) := by
 obtain ⟨j,rfl⟩ : ∃ j,k=j+1:=⟨k-1,by omega⟩
 exact up_succ j
theorem dn_pos {k : Nat} (h : 0 < k) : dn k = [true, true] ++ dn (k - 1) := by
 obtain ⟨j,rfl⟩ : ∃ j,k=j+1:=⟨k-1,by omega⟩
 exact dn_succ j
theorem len_of {A B C : List Bool} (h : A ++ B = C) : A.length ≤ C.length := by rw [← h, List.length_append]; exact Nat.le_add_right _ _
set_option maxHeartbeats 4000000 in
theorem tb_Add (p : Nat) (ls : List Nat) (v : Value) (L : List Bool) (o : Option (Nat × Nat)) (S : Mem) (hv : IdxR S v ls) (h1 : 0 < ls.length) (hl5 : ls.length ≤ 512) (h15 : ∀ x ∈ ls, x ≤ 15) (hok : OkW S p o L) (hL : (L ++ tbl ls).length ≤ 1048576) :
  ACall Tryz.prog 55 #[.pointer (some ⟨p,0,none⟩),v] (wrM S p o L) fun r S'=>r = .tuple #[] ∧ ∃ o',OkW S p o' (L ++ tbl ls)∧S'=wrM S p o' (L ++ tbl ls):=by
 obtain ⟨b,off,ca,rfl,k0⟩:=Cn.sl_at hv h1
 have kn:=hv.at1
 obtain ⟨n,hn⟩ : ∃ n,n=ls.length:=⟨_,rfl⟩
 have hhd:=headD_drop h1
 have h0:=h15 _ (List.getElem_mem h1)
 have k0':=k0.less (wr_over hok)
 have htot:L ++ numB ls[0] 4 ++ go ls[0] (ls.drop 0)=L ++ tbl ls:=by unfold tbl;rw [hhd,List.drop_zero,List.append_assoc]
 have hlen0:L.length≤1048576:=by rw [List.length_append] at hL;omega
 obtain ⟨T,hT⟩ : ∃ T,T=L ++ tbl ls:=⟨_,rfl⟩
 rw [← hT] at hL htot ⊢
 generalize hx0:ls[0]=x0 at *
 refine ACall.enter (rs:=[]) 37 [(0,.pointer (some ⟨p,0,none⟩)),(1,.slice (some ⟨b,off,none⟩) ls.length ca)] Tryz.func55 rfl rfl (Nat.le_of_ble_eq_true rfl) rfl ⟨rfl,rfl,trivial⟩ ?_
 iterate 8 refine s1_ ?_
 refine su_ [(0,_),(1,_),(4,_)] ?_
 iterate 5 refine s1_ ?_
 refine ca_ rfl (bitsV_AddI p _ 4 L o S (by omega) (by omega) (by omega) (by omega) (by omega) hok) ?_
 rintro _ _ ⟨rfl,o1,hk1,rfl⟩
 rw [Int.toNat_natCast,show (4:Int).toNat=4 from rfl] at hk1 ⊢
 iterate 2 refine s1_ ?_
 refine su_ [(0,_),(1,_),(4,_)] ?_
 iterate 8 refine s1_ ?_
 refine AWP.loop (X:=Nat × Nat × Option (Nat × Nat) × List Bool) (fun x=>[(0,.pointer (some ⟨p,0,none⟩)),(4,.int .i64 (x.2.1:Int)),(14,.slice (some ⟨b,off,none⟩) ls.length ca),(15,.int .i64 (ls.length:Int)),(16,.int .i64 (x.1:Int))]) (fun x=>wrM S p x.2.2.1 x.2.2.2) (fun x=>x.1≤ls.length∧x.2.1≤15∧OkW S p x.2.2.1 x.2.2.2∧x.2.2.2 ++ go x.2.1 (ls.drop x.1)=T) (fun x=>ls.length-x.1) ((0,x0,o1,_)) ⟨rfl,rfl,rfl,rfl,rfl,trivial⟩ (Mem.Less.refl _) (⟨Nat.zero_le _,h0,hk1,htot⟩) ?_
 rintro ⟨i,now,o2,M⟩ ⟨hi,hnow,hM,hTM⟩
 (try dsimp only at *)
 by_cases q:i<ls.length
 ·have ki:=(kn i q).less (wr_over hM)
  have hy:=h15 _ (List.getElem_mem q)
  rw [go_drop q] at hTM
  generalize ls[i]=y at *
  iterate 6 refine s1_ ?_
  refine cT_ ?_
  iterate 11 refine s1_ ?_
  refine su_ [(0,_),(4,_),(14,_),(15,_),(16,_),(17,_),(6,_)] ?_
  iterate 2 refine s1_ ?_
  refine AWP.loop (X:=Nat × Option (Nat × Nat) × List Bool) (fun x=>[(0,.pointer (some ⟨p,0,none⟩)),(4,.int .i64 (x.1:Int)),(6,.int .i64 (y:Int)),(14,.slice (some ⟨b,off,none⟩) ls.length ca),(15,.int .i64 (ls.length:Int)),(16,.int .i64 (i:Int))]) (fun x=>wrM S p x.2.1 x.2.2) (fun x=>x.1≤15∧OkW S p x.2.1 x.2.2∧x.2.2 ++ (up (y-x.1) ++ dn (x.1-y) ++ [false] ++ go y (ls.drop (i+1)))=T) (fun x=>y-x.1) ((now,o2,M)) ⟨rfl,rfl,rfl,rfl,rfl,rfl,trivial⟩ (Mem.Less.refl _) (⟨hnow,hM,hTM⟩) ?_
  rintro ⟨a,o3,M3⟩ ⟨ha,hM3,hT3⟩
  (try dsimp only at *)
  have hl3:=len_of hT3
  iterate 8 refine s1_ ?_
  refine su_ [(0,_),(4,_),(6,_),(14,_),(15,_),(16,_),(22,_)] ?_
  refine AWP.condB rfl (fun hc=>?_) (fun hc=>?_)
  ·have hc:=of_decide_eq_true hc
   iterate 6 refine s1_ ?_
   refine ca_ rfl (bitsV_AddI p 2 2 M3 o3 S (by omega) (by omega) (by omega) (by omega) (by omega) hM3) ?_
   rintro _ _ ⟨rfl,o4,hk4,rfl⟩
   iterate 3 refine s1_ ?_
   refine su_ [(0,_),(4,_),(6,_),(14,_),(15,_),(16,_),(22,_)] ?_
   iterate 6 refine s1_ ?_
   refine ⟨(a+1,o4,M3 ++ [true,false]),?_,?_,?_,?_⟩
   all_goals (try dsimp only)
   ·exact ⟨rfl,rfl,rfl,rfl,rfl,rfl,trivial⟩
   ·exact Mem.Less.refl _
   ·exact ⟨by omega,hk4,by rw [← hT3,up_pos (show 0<y-a by omega),show y-a-1=y-(a+1) from by omega,show a-y=0 from by omega,show a+1-y=0 from by omega];simp⟩
   ·omega
  ·have hc:=of_decide_eq_false hc
   have hya:y≤a:=by omega
   iterate 7 refine s1_ ?_
   refine AWP.loop (X:=Nat × Option (Nat × Nat) × List Bool) (fun x=>[(0,.pointer (some ⟨p,0,none⟩)),(4,.int .i64 (x.1:Int)),(6,.int .i64 (y:Int)),(14,.slice (some ⟨b,off,none⟩) ls.length ca),(15,.int .i64 (ls.length:Int)),(16,.int .i64 (i:Int))]) (fun x=>wrM S p x.2.1 x.2.2) (fun x=>x.1≤15∧y≤x.1∧OkW S p x.2.1 x.2.2∧x.2.2 ++ (dn (x.1-y) ++ [false] ++ go y (ls.drop (i+1)))=T) (fun x=>x.1-y) ((a,o3,M3)) ⟨rfl,rfl,rfl,rfl,rfl,rfl,trivial⟩ (Mem.Less.refl _) (⟨ha,hya,hM3,by rw [← hT3,show y-a=0 from by omega];rfl⟩) ?_
   rintro ⟨d,o5,M5⟩ ⟨hd,hyd,hM5,hT5⟩
   (try dsimp only at *)
   have hl5:=len_of hT5
   iterate 8 refine s1_ ?_
   refine su_ [(0,_),(4,_),(6,_),(14,_),(15,_),(16,_),(29,_)] ?_
   refine AWP.condB rfl (fun hc2=>?_) (fun hc2=>?_)
   ·have hc2:=of_decide_eq_true hc2
    iterate 6 refine s1_ ?_
    refine ca_ rfl (bitsV_AddI p 3 2 M5 o5 S (by omega) (by omega) (by omega) (by omega) (by omega) hM5) ?_
    rintro _ _ ⟨rfl,o6,hk6,rfl⟩
    iterate 3 refine s1_ ?_
    refine su_ [(0,_),(4,_),(6,_),(14,_),(15,_),(16,_),(29,_)] ?_
    iterate 6 refine s1_ ?_
    refine ⟨(d-1,o6,M5 ++ [true,true]),?_,?_,?_,?_⟩
    all_goals (try dsimp only)
    ·exact ⟨rfl,some_int (by omega),rfl,rfl,rfl,rfl,trivial⟩
    ·exact Mem.Less.refl _
    ·exact ⟨by omega,by omega,hk6,by rw [← hT5,dn_pos (show 0<d-y by omega),show d-y-1=d-1-y from by omega];simp⟩
    ·omega
   ·have hc2:=of_decide_eq_false hc2
    obtain rfl:d=y:=by omega
    iterate 7 refine s1_ ?_
    refine ca_ rfl (bitsV_AddI p 0 1 M5 o5 S (by omega) (by omega) (by omega) (by omega) (by omega) hM5) ?_
    rintro _ _ ⟨rfl,o6,hk6,rfl⟩
    iterate 3 refine s1_ ?_
    refine su_ [(0,_),(4,_),(6,_),(14,_),(15,_),(16,_),(29,_)] ?_
    iterate 5 refine s1_ ?_
    refine ⟨(i+1,d,o6,M5 ++ [false]),?_,?_,?_,?_⟩
    all_goals (try dsimp only)
    ·exact ⟨rfl,rfl,rfl,rfl,rfl,trivial⟩
    ·exact Mem.Less.refl _
    ·exact ⟨q,hd,hk6,by rw [← hT5,Nat.sub_self];simp [dn]⟩
    ·omega
 ·obtain rfl:i=ls.length:=by omega
  rw [List.drop_length] at hTM
  obtain rfl:M=T:=by rw [← hTM];exact (List.append_nil _).symm
  iterate 6 refine s1_ ?_
  refine cF_ ?_
  iterate 4 refine s1_ ?_
  refine ⟨_,_,rfl,Mem.Less.refl _,?_⟩
  exact ⟨rfl,o2,hM,rfl⟩
end Tb
end Go.Proofs.YtckloanlkpchoaaGreatDoor
namespace Go.Proofs.YtckloanlkpchoaaGreatDoor
open Go.RowKit
open Mv Bits
set_option maxRecDepth 4000
namespace Sg
/-- A coder's block. -/
def cB (r : List UInt8) : Blk := ⟨61, cellsB r, 256⟩
theorem mt_ToR (bc b : Nat) (r : List UInt8) (c : UInt8) (l : List UInt8) (S T : Mem) (hbc : Fresh S bc) (hr : Mt.Row r) (hb : Fresh (S.set bc (cB r)) b) (hR : Bl.R (S.set bc (cB r)) b l T) :
  ACall Tryz.prog 89 #[.pointer (some ⟨bc,0,none⟩),.int .u8 (nb c)] T fun v T'=>v = .int .u8 (nb (UInt8.ofNat (r.idxOf c)))∧Bl.R (S.set bc (cB (Mt.lift r (r.idxOf c)))) b l T':=by
 obtain ⟨p,o,hp,ho,hne,rfl⟩:=hR
 have h1:=frameM (Mt.mt_To 61 bc r c S hbc hr) ho (e:=5) (cs:=cellsB l)
 have hfb:Fresh (outM (S.set bc (cB r)) o 5 (cellsB l)) b:=by
  cases o with
  | none=>exact hb
  | some q=>exact fresh_more hb (Ne.symm (hne q.1 q.2 rfl).1)
 have h2:=h1.frame (b:=b) (r:=Bl.blk p (outV o l.length)) hfb
 exact h2.mono fun v S' ⟨M1,⟨M2,⟨hv,hM2⟩,ok2,hM1⟩,_,hS'⟩=>by
  subst hM2;subst hM1;subst hS'
  exact ⟨hv,p,o,hp,ok2,hne,rfl⟩
theorem far_snoc (r l : List UInt8) (c : UInt8) : Mt.far r (l ++ [c]) = Mt.far r l ++ [UInt8.ofNat ((Mt.farR r l).idxOf c)] := by rw [Mt.far_append]; rfl
theorem farR_snoc (r l : List UInt8) (c : UInt8) : Mt.farR r (l ++ [c]) = Mt.lift (Mt.farR r l) ((Mt.farR r l).idxOf c) := by rw [Mt.farR_append]; rfl
theorem at8_get {l : List UInt8} {i : Nat} (h : i < l.length) : l.take (i + 1) = l.take i ++ [at8 l i] := by
 rw [List.take_succ_eq_append_getElem h]
 congr 2
 unfold at8
 rw [List.getD_eq_getElem?_getD,List.getElem?_eq_getElem h];rfl
set_option maxHeartbeats 4000000 in
theorem sg_symbols (bc : Nat) (r : List UInt8) (t : ByteArray) (S : Mem) (hbc : Fresh S bc) (hr : Mt.Row r) (ht : t.size ≤ 512) :
  ACall Tryz.prog 54 #[.pointer (some ⟨bc,0,none⟩),.string t] (S.set bc (cB r)) fun v S'=>Zr.GrU (S.set bc (cB (Mt.farR r t.data.toList))) (Zr.enc (Mt.far r t.data.toList) 0) v S':=by
 have hlen:t.data.toList.length=t.size:=Array.length_toList (xs:=t.data)
 refine ACall.enter (rs:=[.tmp 4]) 32 [(0,.pointer (some ⟨bc,0,none⟩)),(1,.string t)] Tryz.func54 rfl rfl (Nat.le_of_ble_eq_true rfl) rfl ⟨rfl,rfl,trivial⟩ ?_
 iterate 7 refine s1_ ?_
 refine ARun.alloc (lit_lt rfl) ty_zero_64 ?_
 intro b5 f5
 have g5:=f5
 repeat ((with_reducible replace g5:=fresh_set g5);obtain ⟨g5,_⟩:=g5)
 refine nl_ ?_
 iterate 2 refine s1_ ?_
 have hf5:∀ k,Fresh (S.set bc k) b5:=fun k=>fresh_more (fresh_set f5).1 (fresh_set f5).2
 iterate 9 refine s1_ ?_
 refine su_ [(0,_),(1,_),(4,_),(5,_),(6,_)] ?_
 iterate 8 refine s1_ ?_
 refine su_ [(0,_),(1,_),(4,_),(5,_),(6,_),(15,_),(16,_)] ?_
 refine s1_ ?_
 refine AWP.loop (X:=Nat × Mem) (fun x=>[(1,.string t),(5,Bl.self b5),(6,.func (.func 89) #[.pointer (some ⟨bc,0,none⟩)] #[]),(15,.int .i64 (t.size:Int)),(16,.int .i64 (x.1:Int))]) (fun x=>x.2) (fun x=>x.1≤t.size∧Bl.R (S.set bc (cB (Mt.farR r (t.data.toList.take x.1)))) b5 (Mt.far r (t.data.toList.take x.1)) x.2) (fun x=>t.size-x.1) ((0,_)) ⟨rfl,rfl,rfl,rfl,rfl,trivial⟩ (Mem.Less.refl _) (⟨Nat.zero_le _,Bl.R.new _ b5⟩) ?_
 rintro ⟨i,T⟩ ⟨hi,hR⟩
 (try dsimp only at *)
 by_cases q:i<t.size
 ·have hti:=at8_get (l:=t.data.toList) (i:=i) (by omega)
  have hrow:=Mt.farR_row (t.data.toList.take i) r hr
  have hll:=Mt.far_length (t.data.toList.take i) r
  rw [List.length_take] at hll
  have hto:=mt_ToR bc b5 _ (at8 t.data.toList i) _ S T hbc hrow (hf5 _) hR
  rw [← farR_snoc,← hti] at hto
  iterate 6 refine s1_ ?_
  refine cT_ ?_
  iterate 10 refine s1_ ?_
  refine su_ [(1,_),(5,_),(6,_),(15,_),(16,_),(17,_),(7,_)] ?_
  iterate 5 refine s1_ ?_
  refine ARun.callV (lit_lt rfl) go_89 rfl rfl (hto) ?_
  rintro _ T1 ⟨rfl,hR1⟩
  refine ca_ rfl (Bl.WriteByte _ b5 _ T1 _ (hf5 _) hR1 (by omega)) ?_
  rintro _ T2 ⟨rfl,hR2⟩
  rw [← far_snoc,← hti] at hR2
  iterate 3 refine s1_ ?_
  refine su_ [(1,_),(5,_),(6,_),(15,_),(16,_),(17,_),(7,_)] ?_
  iterate 5 refine s1_ ?_
  refine ⟨(i+1,T2),?_,?_,?_,?_⟩
  all_goals (try dsimp only)
  ·exact ⟨rfl,rfl,rfl,rfl,rfl,trivial⟩
  ·exact Mem.Less.refl _
  ·exact ⟨q,hR2⟩
  ·omega
 ·obtain rfl:i=t.size:=by omega
  rw [← hlen,List.take_length] at hR
  have hll:=Mt.far_length t.data.toList r
  iterate 6 refine s1_ ?_
  refine cF_ ?_
  iterate 7 refine s1_ ?_
  refine ca_ rfl (Bl.StringE _ b5 _ T (hf5 _) hR (by omega)) ?_
  rintro _ Sx ⟨rfl,h1⟩
  rw [h1];clear h1 Sx
  refine ca_ rfl (Zr.zr_Encode (bs (Mt.far r t.data.toList)) _ (by show (Mt.far r t.data.toList).toArray.size≤65536;rw [List.size_toArray];omega)) ?_
  rintro _ S2 ⟨v,rfl,hG⟩
  iterate 7 refine s1_ ?_
  refine su_ [(1,_),(5,_),(6,_),(15,_),(16,_),(17,_),(8,_)] ?_
  iterate 6 refine s1_ ?_
  refine su_ [(1,_),(5,_),(6,_),(15,_),(16,_),(17,_),(8,_),(4,_)] ?_
  refine s1_ ?_
  refine ⟨_,_,⟨_,_,rfl,rfl,rfl⟩,Mem.Less.refl _,?_⟩
  exact hG
end Sg
end Go.Proofs.YtckloanlkpchoaaGreatDoor
namespace Go.Proofs.YtckloanlkpchoaaGreatDoor
open Go.RowKit
open Mv Bits
set_option maxRecDepth 4000
namespace Sg
/-- A call where a writer lies over the memory. -/
theorem wrF {P : Program} {f : FuncId} {args : Array Value} {S : Mem} {R : Value → Mem → Prop} (h : ACall P f args S R) {p : Nat} {o : Option (Nat × Nat)} {L : List Bool} (hok : OkW S p o L) :
  ACall P f args (wrM S p o L) fun v S'=>∃ M,R v M∧OkW M p o L∧S'=wrM M p o L:=by
 have h1:=frameM h (m:=L.length / 8) (o:=o) (e:=5) (cs:=bytesV L) ⟨fun e=>(by have:=hok.nil e;omega),fun b c e=>⟨(hok.own b c e).1,(hok.own b c e).2.2⟩⟩
 have hp:Fresh (outM S o 5 (bytesV L)) p:=by
  cases o with
  | none=>exact hok.fp
  | some q=>exact fresh_more hok.fp (Ne.symm (hok.own q.1 q.2 rfl).2.1)
 exact (h1.frame (b:=p) (r:=⟨74,[outV o (L.length / 8),.int .u64 (num (rest L):Nat),.int .i64 (L.length % 8:Nat)],3⟩) hp).mono fun v S' ⟨M1,⟨M2,hv,ok2,hM1⟩,hf,hS'⟩=>by
  subst hM1;subst hS'
  refine ⟨M2,hv,⟨?_,hok.nil,fun b c e=>⟨(ok2.own b c e).1,(hok.own b c e).2.1,(hok.own b c e).2.2⟩⟩,rfl⟩
  exact (fresh_outM hf).1
theorem okW_less {S S' : Mem} {p : Nat} {o : Option (Nat × Nat)} {L : List Bool} (h : OkW S' p o L) (hl : S.Less S') : OkW S p o L := ⟨h.fp.less hl, h.nil, fun b c e => ⟨(h.own b c e).1.less hl, (h.own b c e).2.1, (h.own b c e).2.2⟩⟩
theorem gr_row {S S' : Mem} {l : List Nat} {v : Value} (h : Zr.GrU S l v S') (hl : l.length ≤ 9223372036854775807) : S.Less S' ∧ RowR S' v l := by
 obtain ⟨o,ho,rfl,rfl⟩:=h
 exact ⟨outM_over ho,(RdL.of_out (g:=gU) ho rfl hl).2⟩
theorem cntW_all (l : List Nat) : ∀ x ∈ cntW l, x ≤ l.length := fun x hx => by
 unfold cntW at hx
 obtain ⟨i,_,rfl⟩:=List.mem_map.1 hx
 exact List.countP_le_length
theorem good_all {l ls : List Nat} (h : Good l ls) : ∀ x ∈ ls, x ≤ 15 := fun x hx => by
 obtain ⟨i,hi,rfl⟩:=List.mem_iff_getElem.1 hx
 have:=h.le i (by rw [← h.len];exact hi)
 rwa [Pk.getD_of hi] at this
theorem flat_drop {ls l : List Nat} {i : Nat} (h : i < l.length) : (l.drop i).flatMap (Cn.bitsOf ls) = Cn.bitsOf ls l[i] ++ (l.drop (i + 1)).flatMap (Cn.bitsOf ls) := by
 rw [List.drop_eq_getElem_cons h,List.flatMap_cons]
set_option maxHeartbeats 4000000 in
theorem sg_write (bc p : Nat) (r : List UInt8) (t : ByteArray) (o : Option (Nat × Nat)) (L : List Bool) (S : Mem) (hbc : Fresh S bc) (hr : Mt.Row r) (ht0 : t.data.toList ≠ []) (ht : t.size ≤ 512) (hok : OkW (S.set bc (cB r)) p o L) (hL : (L ++ bitsS (Zr.enc (Mt.far r t.data.toList) 0)).length ≤ 1048576) :
  ACall Tryz.prog 30 #[.pointer (some ⟨bc,0,none⟩),.pointer (some ⟨p,0,none⟩),.string t] (wrM (S.set bc (cB r)) p o L) fun v S'=>v = .tuple #[] ∧ ∃ o',OkW (S.set bc (cB (Mt.farR r t.data.toList))) p o' (L ++ bitsS (Zr.enc (Mt.far r t.data.toList) 0))∧S'=wrM (S.set bc (cB (Mt.farR r t.data.toList))) p o' (L ++ bitsS (Zr.enc (Mt.far r t.data.toList) 0)):=by
 have hlen:t.data.toList.length=t.size:=Array.length_toList (xs:=t.data)
 have hfl:=Mt.far_length t.data.toList r
 have hne:Mt.far r t.data.toList ≠ []:=fun e=>ht0 (List.eq_nil_of_length_eq_zero (by rw [← hfl,e];rfl))
 have hsy:=enc_syms hne
 have hel:=Zr.enc_len (Mt.far r t.data.toList) 0
 have h1:=wrF (sg_symbols bc r t S hbc hr ht) hok
 generalize hl:Zr.enc (Mt.far r t.data.toList) 0=l at *
 have hgd:=lensS_good hsy
 have hol:=order_len hsy
 obtain ⟨ls,hls⟩ : ∃ ls,ls=lensS l:=⟨_,rfl⟩
 obtain ⟨T,hT⟩ : ∃ T,T=L ++ bitsS l:=⟨_,rfl⟩
 have hT':T=L ++ Tb.tbl ls ++ (l.drop 0).flatMap (Cn.bitsOf ls):=by rw [hT,hls,List.drop_zero,List.append_assoc];rfl
 rw [← hls] at hgd
 rw [← hT] at hL ⊢
 have hLt:(L ++ Tb.tbl ls).length≤1048576:=by rw [hT',List.length_append] at hL;omega
 refine ACall.enter (rs:=[]) 41 [(0,.pointer (some ⟨bc,0,none⟩)),(1,.pointer (some ⟨p,0,none⟩)),(2,.string t)] Tryz.func30 rfl rfl (Nat.le_of_ble_eq_true rfl) rfl ⟨rfl,rfl,rfl,trivial⟩ ?_
 iterate 4 refine s1_ ?_
 refine ca_ rfl (h1) ?_
 rintro v _ ⟨M1,hG,hk1,rfl⟩
 obtain ⟨hB1,hrow⟩:=gr_row hG (by omega)
 iterate 3 refine s1_ ?_
 refine su_ [(0,_),(1,_),(2,_),(6,_)] ?_
 iterate 3 refine s1_ ?_
 refine ca_ rfl (wrF (sg_weights v l M1 hrow (by omega) hsy.lt) hk1) ?_
 rintro _ _ ⟨M2,⟨b2,f2,rfl,hM2⟩,hk2,rfl⟩
 have hw2:RowR M2 (.slice (some ⟨b2,0,none⟩) 258 258) (cntW l):=Sl.own1 (g:=gU) (by rw [hM2];exact Mem.own_set_same _ _ _) List.prefix_rfl (cntW_length l) (Nat.le_refl _) (by decide)
 have hB2:M1.Less M2:=by rw [hM2];exact Mem.less_set _ _ _ f2.1
 refine ca_ rfl (wrF (Pk.pk_Lengths _ (cntW l) M2 hw2 (cntW_length l) (fun x hx=>Nat.le_trans (cntW_all l x hx) (by omega)) hol.1) hk2) ?_
 rintro _ _ ⟨M3,⟨u,rfl,hB3,hu3⟩,hk3,rfl⟩
 have hu3:IdxR M3 u ls:=by rw [hls];exact hu3
 iterate 7 refine s1_ ?_
 refine su_ [(0,_),(1,_),(2,_),(6,_),(7,_)] ?_
 iterate 4 refine s1_ ?_
 refine ca_ rfl (Tb.tb_Add p ls u L o M3 hu3 (by rw [hgd.len];decide) (by rw [hgd.len];decide) (good_all hgd) hk3 hLt) ?_
 rintro _ _ ⟨rfl,o4,hk4,rfl⟩
 iterate 2 refine s1_ ?_
 refine su_ [(0,_),(1,_),(2,_),(6,_),(7,_)] ?_
 iterate 3 refine s1_ ?_
 refine ca_ rfl (wrF (Cn.cn_Of ls u M3 hu3 (by rw [hgd.len];decide) (by rw [hgd.used];decide)) hk4) ?_
 rintro _ _ ⟨M5,⟨bk,rfl,hB5,hbk⟩,hk5,rfl⟩
 have hrow5:RowR M5 v l:=hrow.less ((hB2.trans hB3).trans hB5)
 have hfin:(S.set bc (cB (Mt.farR r t.data.toList))).Less M5:=((hB1.trans hB2).trans hB3).trans hB5
 obtain ⟨va,vc,hve,_⟩:=Sl.len_eq hrow5
 subst hve
 iterate 3 refine s1_ ?_
 refine su_ [(0,_),(1,_),(2,_),(6,_),(7,_),(9,_)] ?_
 iterate 8 refine s1_ ?_
 refine AWP.loop (X:=Nat × Option (Nat × Nat) × List Bool) (fun x=>[(1,.pointer (some ⟨p,0,none⟩)),(9,.pointer (some ⟨bk,0,none⟩)),(26,.slice va l.length vc),(27,.int .i64 (l.length:Int)),(28,.int .i64 (x.1:Int))]) (fun x=>wrM M5 p x.2.1 x.2.2) (fun x=>x.1≤l.length∧OkW M5 p x.2.1 x.2.2∧x.2.2 ++ (l.drop x.1).flatMap (Cn.bitsOf ls)=T) (fun x=>l.length-x.1) ((0,o4,L ++ Tb.tbl ls)) ⟨rfl,rfl,rfl,rfl,rfl,trivial⟩ (Mem.Less.refl _) (⟨Nat.zero_le _,hk5,hT'.symm⟩) ?_
 rintro ⟨i,oi,Li⟩ ⟨hi,hki,hTi⟩
 (try dsimp only at *)
 by_cases q:i<l.length
 ·obtain ⟨rb,ro,rc,hre,kr⟩:=Cn.sl_at hrow5 q
  cases hre
  have kr':=kr.less (Tb.wr_over hki)
  have hx:=hgd.pos _ (List.getElem_mem q)
  have hx15:=hgd.le _ hx.1
  have hcd:=code_ok hgd (List.getElem_mem q)
  have hli:=Tb.len_of hTi
  rw [flat_drop q,← List.append_assoc] at hTi
  have hpw:2 ^ ls.getD l[i] 0≤2 ^ 15:=Nat.pow_le_pow_right (by decide) hx15
  generalize l[i]=x at *
  have hco:=Cn.cn_Code bk ls x _ (hbk.less (Tb.wr_over hki)) hcd.1 hx15
  iterate 6 refine s1_ ?_
  refine cT_ ?_
  iterate 11 refine s1_ ?_
  refine su_ [(1,_),(9,_),(26,_),(27,_),(28,_),(29,_),(11,_)] ?_
  iterate 5 refine s1_ ?_
  refine ca_ rfl (hco) ?_
  rintro _ Sx ⟨rfl,h1⟩
  rw [h1];clear h1 Sx
  iterate 2 refine s1_ ?_
  refine ca_ rfl (bitsV_Add p (Cn.code ls x) (ls.getD x 0) Li oi M5 (by omega) (by omega) (by omega) hki) ?_
  rintro _ _ ⟨rfl,o8,hk8,rfl⟩
  iterate 3 refine s1_ ?_
  refine su_ [(1,_),(9,_),(26,_),(27,_),(28,_),(29,_),(11,_)] ?_
  iterate 5 refine s1_ ?_
  refine ⟨(i+1,o8,Li ++ Cn.bitsOf ls x),?_,?_,?_,?_⟩
  all_goals (try dsimp only)
  ·exact ⟨rfl,rfl,rfl,rfl,rfl,trivial⟩
  ·exact Mem.Less.refl _
  ·exact ⟨q,hk8,hTi⟩
  ·omega
 ·obtain rfl:i=l.length:=by omega
  rw [List.drop_length,List.flatMap_nil,List.append_nil] at hTi
  subst hTi
  iterate 6 refine s1_ ?_
  refine cF_ ?_
  iterate 4 refine s1_ ?_
  refine ⟨_,_,rfl,wrM_more _ _ _ _ _ hfin,?_⟩
  exact ⟨rfl,oi,okW_less hki hfin,rfl⟩
end Sg
end Go.Proofs.YtckloanlkpchoaaGreatDoor
