/-
  Texts that belong together: Fd14, FdL0, SelOpen, FdOpen, FdL1.
-/
import Derived.Test.YtgidjbpgkeemiaaBFi6
set_option linter.unusedVariables false
set_option linter.unusedSimpArgs false
set_option linter.unusedSectionVars false
namespace Go.Proofs.Ytgidjbpgkeemiaa
open Go.RowKit Go.Shelf
open Mv Num Loser Srt
set_option maxRecDepth 8000
theorem bl_nums : ∀ a b : List UInt8, Op.bytesLess a b = lessB (a.map UInt8.toNat) (b.map UInt8.toNat)
 | a,[]=>by cases a <;> rfl
 | [],_ :: _=>rfl
 | x :: a,y :: b=>by
  show (decide (x<y) || (x == y && Op.bytesLess a b))=(decide (x.toNat<y.toNat) || (decide (x.toNat=y.toNat) && lessB (a.map UInt8.toNat) (b.map UInt8.toNat)))
  rw [bl_nums a b]
  congr 2
  rw [Bool.eq_iff_iff];simp [UInt8.toNat_inj]
theorem less_cut (s w : ByteArray) (a : Nat) : Op.bytesLess (s.extract a s.size).data.toList w.data.toList = Fd.lsQ (numsT s) (numsT w) a := by
 rw [bl_nums,← nums_map,← nums_map,nums_cut,List.take_of_length_le (by rw [numsT_length];exact Nat.le_refl _)];rfl
theorem beg_cut (s w : ByteArray) (a : Nat) : begS (s.extract a s.size) w = Fd.beg (numsT w) ((numsT s).drop a) := by
 unfold begS
 rw [nums_cut,List.take_of_length_le (by rw [numsT_length];exact Nat.le_refl _)]
theorem cut_size (s : ByteArray) (a : Nat) : (s.extract a s.size).size ≤ s.size := by
 have:=congrArg List.length (nums_cut s a s.size)
 rw [numsT_length,List.length_drop,List.length_take,numsT_length] at this;omega
theorem cnt_plc (t : List Nat) (q : Nat → Bool) : (Fd.plc t).countP q = Fd.cnt t q := (Fd.plc_perm t).countP_eq q
theorem countP_next {α : Type} (q : α → Bool) (l : List α) (i : Nat) (h : i < l.length) : (l.take (i + 1)).countP q = (l.take i).countP q + (if q l[i] = true then 1 else 0) := by
 rw [List.take_succ_eq_append_getElem h,List.countP_append,List.countP_singleton]
set_option maxHeartbeats 4000000 in
theorem rfd_Range (x : Ix) (what : ByteArray) (cx : List Value) (S : Mem) (hx : IxV S cx x) (fx : FitX x) (h64 : In64 x.mks) (hw : what.size ≤ 140737488355327) :
  ACall Try.prog 39 #[.agg cx.toArray,.string what] S fun r S'=>r = .tuple #[.int .i64 ((rangeP x what).1:Nat),.int .i64 ((rangeP x what).2.1:Nat),.int .i64 ((rangeP x what).2.2:Nat)]∧S'=S:=by
 have hx0:=hx
 obtain ⟨p1,c1,n2,p2,c2,p3,c3,p4,c4,rfl,h1,h2,h3,h4⟩:=hx.parts
 unfold rangeP
 rcases chk_two x with h0 | h0
 ·obtain ⟨p,t,ho,hp⟩:=chk_ok h0
  rw [if_pos h0]
  have htx:=ho.tx hp
  rw [htx]
  have hs:=ho.small
  have hts:=ho.size
  obtain ⟨T,hT⟩ : ∃ T,T=numsT t:=⟨_,rfl⟩
  obtain ⟨W,hW⟩ : ∃ W,W=numsT what:=⟨_,rfl⟩
  have hTl:T.length=t.size:=by rw [hT,numsT_length]
  have hpl:=Fd.plc_length T
  rw [← hT,← hW]
  refine ACall.enter (rs:=[.tmp 4,.tmp 5,.tmp 6]) 43 [(0,.agg #[.string x.col,.int .i64 x.pri,.slice p1 x.fir.length c1,.slice p2 n2 c2,.string x.bits,.int .i64 x.n,.slice p3 x.cnts.length c3,.slice p4 x.plcs.length c4]),(1,.string what)] Try.func39 rfl rfl (Nat.le_of_ble_eq_true rfl) rfl ⟨rfl,rfl,trivial⟩ ?_
  refine k_a ?_
  refine ARun.boxA (cs:=[_,_,_,_,_,_,_,_]) (lit_lt rfl) rfl ?_
  intro b2 f2
  have g2:=f2
  repeat ((with_reducible replace g2:=fresh_set g2);obtain ⟨g2,_⟩:=g2)
  try simp only [k_l1,k_l0,k_za,Nat.reduceAdd]
  refine k_s rfl (k_s rfl (k_e rfl (AWP.seq (k_a ?_))))
  refine rC (ldA_ (cs:=[_,_,_,_,_,_,_,_]) ty_agg_48 ty_size_48 rfl) ?_
  refine ARun.call (lit_lt rfl) go_37 rfl (rfd_Check x _ _ (hx0.less less_) fx h64) ?_
  rintro _ S2 ⟨rfl,q⟩
  rw [q,h0];clear q S2
  refine rC (Calm.bin rfl rfl b_neq) ?_
  refine k_n ?_
  refine k_u [(0,_),(1,_),(2,_),(4,_),(5,_),(6,_),(14,_)] ?_
  refine k_F rfl ?_
  refine k_k (k_a ?_)
  refine rC (ldA_ (cs:=[_,_,_,_,_,_,_,_]) ty_agg_48 ty_size_48 rfl) ?_
  refine ARun.call (lit_lt rfl) go_82 rfl (rfd_Text x _ _ (hx0.less less_)) ?_
  rintro _ S2 ⟨rfl,q⟩
  rw [q,htx];clear q S2
  refine k_e rfl ?_
  refine k_u [(0,_),(1,_),(2,_),(4,_),(5,_),(6,_),(14,_),(7,_)] ?_
  refine k_a (k_s rfl (k_e rfl (AWP.seq (k_a ?_))))
  refine k_m rfl ?_
  refine ARun.call (lit_lt rfl) go_74 rfl (rfd_Ends t _ (by omega)) ?_
  rintro ve M2 ⟨hM2,hve⟩
  rw [← hT] at hve
  obtain ⟨ea,ec,rfl,e1,e2,e3⟩:=id hve
  rw [hpl,hTl] at e1 e2 hve ⊢
  have hSM:S.Less M2:=Mem.Less.trans less_ hM2
  clear hM2
  refine rC (Calm.lenSl Try.underlying24 rfl) ?_
  refine k_m rfl (k_n ?_)
  refine k_u [(0,_),(1,_),(2,_),(4,_),(5,_),(6,_),(14,_),(7,_),(8,_),(9,_),(18,_),(19,_),(20,_)] ?_
  refine AWP.block ?_
  refine AWP.loop (X:=Nat) (fun i=>[(1,.string what),(7,.string t),(8,.int .i64 (((Fd.plc T).take i).countP (Fd.lsQ T W):Nat)),(9,.int .i64 (((Fd.plc T).take i).countP (fun a=>Fd.beg W (T.drop a)):Nat)),(18,.slice ea (t.size+1) ec),(19,.int .i64 (t.size+1:Nat)),(20,.int .i64 i)]) (fun i=>M2) (fun i=>i≤t.size+1) (fun i=>t.size+1-i) (0) ⟨rfl,rfl,rfl,rfl,rfl,rfl,rfl,trivial⟩ (Mem.Less.refl _) (Nat.zero_le _) ?_
  rintro i hi
  (try dsimp only at *)
  have b1:((Fd.plc T).take i).countP (Fd.lsQ T W)≤t.size+1:=Nat.le_trans List.countP_le_length (by rw [List.length_take];omega)
  have b2:((Fd.plc T).take i).countP (fun a=>Fd.beg W (T.drop a))≤t.size+1:=Nat.le_trans List.countP_le_length (by rw [List.length_take];omega)
  by_cases hil:i<t.size+1
  ·refine k_a ?_
   refine rC (Calm.bin rfl rfl b_lss) ?_
   refine k_n (AWP.seq ?_)
   refine k_T rfl ?_
   obtain ⟨eb,eo,rfl,hek⟩:=e3.resolve_left (fun e=>by rw [e] at hpl;simp at hpl)
   obtain ⟨a,ha⟩ : ∃ a,a=(Fd.plc T)[i]'(by omega):=⟨_,rfl⟩
   have hka:=hek i (by omega)
   have hal:a≤t.size:=by rw [ha,Fd.fre_get];have:=Fd.fre_le T i;omega
   have n1:=countP_next (Fd.lsQ T W) (Fd.plc T) i (by omega)
   have n2':=countP_next (fun a=>Fd.beg W (T.drop a)) (Fd.plc T) i (by omega)
   rw [← ha] at hka n1 n2'
   unfold i64n at hka
   have hcs:=cut_size t a
   have hbc:begS (t.extract a t.size) what=Fd.beg W (T.drop a):=by rw [hT,hW];exact beg_cut t what a
   have hlc:Op.bytesLess (t.extract a t.size).data.toList what.data.toList=Fd.lsQ T W a:=by rw [hT,hW];exact less_cut t what a
   refine k_k (AWP.seq ?_)
   refine AWP.block ?_
   refine k_a ?_
   refine rC (Calm.indexS Try.underlying24 ty_size_3 rfl rfl (by omega) (by omega)) ?_
   refine rC (ld_ ty_plain_3 rfl) ?_
   refine k_e rfl ?_
   refine k_u [(1,_),(7,_),(8,_),(9,_),(18,_),(19,_),(20,_),(21,_),(11,_)] ?_
   refine k_a (k_m rfl (k_m rfl ?_))
   refine rC (Calm.as (congrArg Value.string (show t.extract ((a:Int)).toNat t.size=t.extract a t.size by simp)) (Calm.sliceStr (strT_spec ty_str_9) rfl (bnd_none _ _) (bnd_some _ _ rfl (by omega) (by omega)))) ?_
   refine k_m rfl ?_
   refine ARun.call (lit_lt rfl) go_83 rfl (rfd_begins _ what _ (by omega) (by omega)) ?_
   rintro _ S9 ⟨rfl,e9⟩
   rw [e9,hbc];clear e9 S9
   refine k_n ?_
   refine k_u [(1,_),(7,_),(8,_),(9,_),(18,_),(19,_),(20,_),(21,_),(11,_),(28,_)] ?_
   by_cases hbq:Fd.beg W (T.drop a)=true
   ·have hlq:Fd.lsQ T W a=false:=Fd.beg_not_less W (T.drop a) hbq
    rw [hbq,if_pos rfl] at n2'
    rw [hlq,if_neg Bool.false_ne_true] at n1
    refine AWP.condT rfl ((by rw [hbq])) ?_
    refine AWP.region ?_
    refine k_m rfl ?_
    refine rC (Calm.bin rfl rfl b_add_i64) ?_
    refine k_s rfl ?_
    refine arun_nil ?_
    refine ain_n ?_
    refine athen_n ?_
    refine k_u [(1,_),(7,_),(8,_),(9,_),(18,_),(19,_),(20,_),(21,_),(11,_),(28,_)] ?_
    refine AWP.region ?_
    refine rC (Calm.bin rfl rfl b_add_i64) ?_
    refine k_m rfl (k_n ?_)
    refine ⟨i+1,?_,?_,?_,?_⟩
    all_goals (try dsimp only)
    ·exact ⟨sq_,sq_,some_int (by omega),some_int (by omega),sq_,sq_,sq_,trivial⟩
    ·exact Mem.Less.refl _
    ·exact hil
    ·omega
   ·rw [if_neg hbq] at n2'
    refine AWP.condF rfl ((by rw [Bool.eq_false_iff.2 hbq])) ?_
    by_cases hlq:Fd.lsQ T W a=true
    ·rw [if_pos hlq] at n1
     refine k_a (k_m rfl (k_m rfl ?_))
     refine rC (Calm.as (congrArg Value.string (show t.extract ((a:Int)).toNat t.size=t.extract a t.size by simp)) (Calm.sliceStr (strT_spec ty_str_9) rfl (bnd_none _ _) (bnd_some _ _ rfl (by omega) (by omega)))) ?_
     refine k_m rfl ?_
     refine rC (Calm.bin rfl rfl (bin_bool (bin_str_lss _ _) (hlc.trans hlq))) ?_
     refine k_n ?_
     refine k_u [(1,_),(7,_),(8,_),(9,_),(18,_),(19,_),(20,_),(21,_),(11,_),(28,_),(35,_)] ?_
     refine k_T rfl ?_
     refine AWP.region ?_
     refine k_m rfl ?_
     refine rC (Calm.bin rfl rfl b_add_i64) ?_
     refine k_s rfl ?_
     refine arun_nil ?_
     refine ain_n ?_
     refine athen_n ?_
     refine k_u [(1,_),(7,_),(8,_),(9,_),(18,_),(19,_),(20,_),(21,_),(11,_),(28,_),(35,_)] ?_
     refine AWP.region ?_
     refine rC (Calm.bin rfl rfl b_add_i64) ?_
     refine k_m rfl (k_n ?_)
     refine ⟨i+1,?_,?_,?_,?_⟩
     all_goals (try dsimp only)
     ·exact ⟨sq_,sq_,some_int (by omega),some_int (by omega),sq_,sq_,sq_,trivial⟩
     ·exact Mem.Less.refl _
     ·exact hil
     ·omega
    ·rw [if_neg hlq] at n1
     refine k_a (k_m rfl (k_m rfl ?_))
     refine rC (Calm.as (congrArg Value.string (show t.extract ((a:Int)).toNat t.size=t.extract a t.size by simp)) (Calm.sliceStr (strT_spec ty_str_9) rfl (bnd_none _ _) (bnd_some _ _ rfl (by omega) (by omega)))) ?_
     refine k_m rfl ?_
     refine rC (Calm.bin rfl rfl (bin_bool (bin_str_lss _ _) (hlc.trans (Bool.eq_false_iff.2 hlq)))) ?_
     refine k_n ?_
     refine k_u [(1,_),(7,_),(8,_),(9,_),(18,_),(19,_),(20,_),(21,_),(11,_),(28,_),(35,_)] ?_
     refine k_F rfl ?_
     refine AWP.skip ?_
     refine ain_n ?_
     refine athen_n ?_
     refine AWP.region ?_
     refine rC (Calm.bin rfl rfl b_add_i64) ?_
     refine k_m rfl (k_n ?_)
     refine ⟨i+1,?_,?_,?_,?_⟩
     all_goals (try dsimp only)
     ·exact ⟨sq_,sq_,some_int (by omega),some_int (by omega),sq_,sq_,sq_,trivial⟩
     ·exact Mem.Less.refl _
     ·exact hil
     ·omega
  ·obtain rfl:i=t.size+1:=by omega
   refine k_a ?_
   refine rC (Calm.bin rfl rfl b_lss) ?_
   refine k_n (AWP.seq ?_)
   refine k_F rfl ?_
   have hfull:(Fd.plc T).take (t.size+1)=Fd.plc T:=List.take_of_length_le (by omega)
   simp only [hfull,cnt_plc] at b1 b2 ⊢
   have hto:=Fd.to_from T W
   have hf1:Fd.cnt T (Fd.lsQ T W)=Fd.fromP T W:=rfl
   have hf2:Fd.cnt T (fun a=>Fd.beg W (T.drop a))=Fd.begN T W:=rfl
   rw [hf1] at b1
   rw [hf2] at b2
   rw [hf1,hf2]
   refine AWP.exit ?_
   refine athen_exit ?_
   refine athen_exit ?_
   refine ain_same ?_
   refine athen_n ?_
   refine k_a (k_m rfl (k_m rfl (k_m rfl ?_)))
   refine rC (Calm.bin rfl rfl b_add_i64) ?_
   refine k_s rfl (k_s rfl (k_e rfl ?_))
   refine k_u [(1,_),(7,_),(8,_),(9,_),(18,_),(19,_),(20,_),(21,_),(4,_),(5,_),(6,_)] ?_
   refine AWP.ret ?_
   refine ⟨_,S,⟨_,_,rfl,⟨_,_,rfl,⟨_,_,rfl,rfl,rfl⟩,rfl⟩,rfl⟩,hSM,?_⟩
   exact ⟨by rw [hto];rfl,rfl⟩
 ·rw [if_neg (by omega)]
  refine ACall.enter (rs:=[.tmp 4,.tmp 5,.tmp 6]) 43 [(0,.agg #[.string x.col,.int .i64 x.pri,.slice p1 x.fir.length c1,.slice p2 n2 c2,.string x.bits,.int .i64 x.n,.slice p3 x.cnts.length c3,.slice p4 x.plcs.length c4]),(1,.string what)] Try.func39 rfl rfl (Nat.le_of_ble_eq_true rfl) rfl ⟨rfl,rfl,trivial⟩ ?_
  refine k_a ?_
  refine ARun.boxA (cs:=[_,_,_,_,_,_,_,_]) (lit_lt rfl) rfl ?_
  intro b2 f2
  have g2:=f2
  repeat ((with_reducible replace g2:=fresh_set g2);obtain ⟨g2,_⟩:=g2)
  try simp only [k_l1,k_l0,k_za,Nat.reduceAdd]
  refine k_s rfl (k_s rfl (k_e rfl (AWP.seq (k_a ?_))))
  refine rC (ldA_ (cs:=[_,_,_,_,_,_,_,_]) ty_agg_48 ty_size_48 rfl) ?_
  refine ARun.call (lit_lt rfl) go_37 rfl (rfd_Check x _ _ (hx0.less less_) fx h64) ?_
  rintro _ S2 ⟨rfl,q⟩
  rw [q,h0];clear q S2
  refine rC (Calm.bin rfl rfl b_neq) ?_
  refine k_n ?_
  refine k_u [(0,_),(1,_),(2,_),(4,_),(5,_),(6,_),(14,_)] ?_
  refine k_T rfl ?_
  refine k_a (k_s rfl (k_s rfl (k_e rfl ?_)))
  refine k_r ?_
  refine ⟨_,S,⟨_,_,rfl,⟨_,_,rfl,⟨_,_,rfl,rfl,rfl⟩,rfl⟩,rfl⟩,less_,?_⟩
  exact ⟨rfl,rfl⟩
set_option maxHeartbeats 4000000 in
theorem rfd_Count (x : Ix) (what : ByteArray) (cx : List Value) (S : Mem) (hx : IxV S cx x) (fx : FitX x) (h64 : In64 x.mks) (hw : what.size ≤ 140737488355327) :
  ACall Try.prog 41 #[.agg cx.toArray,.string what] S fun r S'=>r = .tuple #[.int .i64 (((rangeP x what).2.1:Int)-(rangeP x what).1),.int .i64 ((rangeP x what).2.2:Nat)]∧S'=S:=by
 have hx0:=hx
 obtain ⟨p1,c1,n2,p2,c2,p3,c3,p4,c4,rfl,h1,h2,h3,h4⟩:=hx.parts
 obtain ⟨q1,q2⟩:=range_le x what
 refine ACall.enter (rs:=[.tmp 4,.tmp 5]) 20 [(0,.agg #[.string x.col,.int .i64 x.pri,.slice p1 x.fir.length c1,.slice p2 n2 c2,.string x.bits,.int .i64 x.n,.slice p3 x.cnts.length c3,.slice p4 x.plcs.length c4]),(1,.string what)] Try.func41 rfl rfl (Nat.le_of_ble_eq_true rfl) rfl ⟨rfl,rfl,trivial⟩ ?_
 refine k_a ?_
 refine ARun.boxA (cs:=[_,_,_,_,_,_,_,_]) (lit_lt rfl) rfl ?_
 intro b2 f2
 have g2:=f2
 repeat ((with_reducible replace g2:=fresh_set g2);obtain ⟨g2,_⟩:=g2)
 try simp only [k_l1,k_l0,k_za,Nat.reduceAdd]
 refine k_s rfl (k_e rfl (k_a ?_))
 refine rC (ldA_ (cs:=[_,_,_,_,_,_,_,_]) ty_agg_48 ty_size_48 rfl) ?_
 refine k_m rfl ?_
 refine ARun.call (lit_lt rfl) go_39 rfl (rfd_Range x what _ _ (hx0.less less_) fx h64 hw) ?_
 rintro _ S1 ⟨rfl,q⟩
 rw [q];clear q S1
 refine k_m rfl ?_
 refine rC (Calm.extract rfl rfl) ?_
 refine rC (Calm.extract rfl rfl) ?_
 refine rC (Calm.extract rfl rfl) ?_
 refine k_s rfl (k_s rfl (k_e rfl ?_))
 refine k_u [(0,_),(1,_),(2,_),(4,_),(5,_),(6,_),(7,_),(8,_)] ?_
 refine k_a (k_m rfl (k_m rfl ?_))
 refine rC (Calm.bin rfl rfl b_sub_i64) ?_
 refine k_m rfl (k_s rfl (k_e rfl ?_))
 refine k_u [(0,_),(1,_),(2,_),(4,_),(5,_),(6,_),(7,_),(8,_)] ?_
 refine AWP.ret ?_
 refine ⟨_,S,⟨_,_,rfl,⟨_,_,rfl,rfl,rfl⟩,rfl⟩,less_,?_⟩
 exact ⟨rfl,rfl⟩
theorem filter_next (q : Nat → Bool) (i : Nat) : (List.range (i + 1)).filter q = (List.range i).filter q ++ (if q i = true then [i] else []) := by
 rw [List.range_succ,List.filter_append]
 congr 1
 by_cases h:q i=true
 ·rw [if_pos h,List.filter_cons_of_pos h];rfl
 ·rw [if_neg h,List.filter_cons_of_neg h];rfl
set_option maxHeartbeats 4000000 in
theorem rfd_Locate (x : Ix) (what : ByteArray) (cx : List Value) (S : Mem) (hx : IxV S cx x) (fx : FitX x) (h64 : In64 x.mks) (hw : what.size ≤ 140737488355327) :
  ACall Try.prog 43 #[.agg cx.toArray,.string what] S fun r S'=>∃ v,r = .tuple #[v,.int .i64 ((locP x what).2:Nat)]∧S.Less S'∧IntsV S' v (castL (locP x what).1):=by
 have hx0:=hx
 obtain ⟨p1,c1,n2,p2,c2,p3,c3,p4,c4,rfl,h1,h2,h3,h4⟩:=hx.parts
 unfold locP
 rcases chk_two x with h0 | h0
 ·obtain ⟨p,t,ho,hp⟩:=chk_ok h0
  rw [if_pos h0]
  have htx:=ho.tx hp
  rw [htx]
  have hs:=ho.small
  have hts:=ho.size
  obtain ⟨T,hT⟩ : ∃ T,T=numsT t:=⟨_,rfl⟩
  obtain ⟨W,hW⟩ : ∃ W,W=numsT what:=⟨_,rfl⟩
  have hTl:T.length=t.size:=by rw [hT,numsT_length]
  rw [← hT,← hW]
  have hF:Fd.plcs T W=(List.range (t.size+1)).filter (fun a=>Fd.beg W (T.drop a)):=by unfold Fd.plcs;rw [hTl]
  refine ACall.enter (rs:=[.tmp 4,.tmp 5]) 30 [(0,.agg #[.string x.col,.int .i64 x.pri,.slice p1 x.fir.length c1,.slice p2 n2 c2,.string x.bits,.int .i64 x.n,.slice p3 x.cnts.length c3,.slice p4 x.plcs.length c4]),(1,.string what)] Try.func43 rfl rfl (Nat.le_of_ble_eq_true rfl) rfl ⟨rfl,rfl,trivial⟩ ?_
  refine k_a ?_
  refine ARun.boxA (cs:=[_,_,_,_,_,_,_,_]) (lit_lt rfl) rfl ?_
  intro b2 f2
  have g2:=f2
  repeat ((with_reducible replace g2:=fresh_set g2);obtain ⟨g2,_⟩:=g2)
  try simp only [k_l1,k_l0,k_za,Nat.reduceAdd]
  refine k_s rfl (k_e rfl (AWP.seq (k_a ?_)))
  refine rC (ldA_ (cs:=[_,_,_,_,_,_,_,_]) ty_agg_48 ty_size_48 rfl) ?_
  refine ARun.call (lit_lt rfl) go_37 rfl (rfd_Check x _ _ (hx0.less less_) fx h64) ?_
  rintro _ S2 ⟨rfl,q⟩
  rw [q,h0];clear q S2
  refine rC (Calm.bin rfl rfl b_neq) ?_
  refine k_n ?_
  refine k_u [(0,_),(1,_),(2,_),(4,_),(5,_),(11,_)] ?_
  refine k_F rfl ?_
  refine k_k (k_a ?_)
  refine rC (ldA_ (cs:=[_,_,_,_,_,_,_,_]) ty_agg_48 ty_size_48 rfl) ?_
  refine ARun.call (lit_lt rfl) go_82 rfl (rfd_Text x _ _ (hx0.less less_)) ?_
  rintro _ S2 ⟨rfl,q⟩
  rw [q,htx];clear q S2
  have hSb:S.Less (S.set b2 ⟨48,[.string x.col,.int .i64 x.pri,.slice p1 x.fir.length c1,.slice p2 n2 c2,.string x.bits,.int .i64 x.n,.slice p3 x.cnts.length c3,.slice p4 x.plcs.length c4],8⟩):=less_
  generalize S.set b2 ⟨48,[.string x.col,.int .i64 x.pri,.slice p1 x.fir.length c1,.slice p2 n2 c2,.string x.bits,.int .i64 x.n,.slice p3 x.cnts.length c3,.slice p4 x.plcs.length c4],8⟩=M2 at *
  refine k_e rfl ?_
  refine k_u [(0,_),(1,_),(2,_),(4,_),(5,_),(11,_),(6,_)] ?_
  refine k_a (k_e rfl (AWP.seq (k_a (k_e rfl ?_))))
  refine AWP.block ?_
  refine AWP.loop (X:=Nat × Option (Nat × Nat)) (fun y=>[(1,.string what),(6,.string t),(7,outV y.2 ((List.range y.1).filter (fun a=>Fd.beg W (T.drop a))).length),(8,.int .i64 y.1)]) (fun y=>outM M2 y.2 3 (((List.range y.1).filter (fun a=>Fd.beg W (T.drop a))).map gI)) (fun y=>y.1≤t.size+1∧OkO M2 y.2 ((List.range y.1).filter (fun a=>Fd.beg W (T.drop a))).length) (fun y=>t.size+1-y.1) ((0,none)) ⟨rfl,rfl,rfl,rfl,trivial⟩ (Mem.Less.refl _) (⟨Nat.zero_le _,okO_nil _⟩) ?_
  rintro ⟨i,o⟩ ⟨hi,hO⟩
  (try dsimp only at *)
  have hfl:((List.range i).filter (fun a=>Fd.beg W (T.drop a))).length≤4097:=Nat.le_trans (List.length_filter_le ..) (by rw [List.length_range];omega)
  by_cases hil:i≤t.size
  ·refine AWP.seq (k_a (k_m rfl (k_m rfl ?_)))
   refine rC (Calm.lenStr (strT_spec ty_str_9) rfl) ?_
   refine rC (Calm.bin rfl rfl b_leq) ?_
   refine k_n ?_
   refine k_u [(1,_),(6,_),(7,_),(8,_),(17,_)] ?_
   refine k_T rfl ?_
   have hnx:=filter_next (fun a=>Fd.beg W (T.drop a)) i
   have hcs:=cut_size t i
   have hbc:begS (t.extract i t.size) what=Fd.beg W (T.drop i):=by rw [hT,hW];exact beg_cut t what i
   refine k_k (AWP.seq ?_)
   refine AWP.block ?_
   refine k_a (k_m rfl (k_m rfl ?_))
   refine rC (Calm.as (congrArg Value.string (show t.extract ((i:Int)).toNat t.size=t.extract i t.size by simp)) (Calm.sliceStr (strT_spec ty_str_9) rfl (bnd_none _ _) (bnd_some _ _ rfl (by omega) (by omega)))) ?_
   refine k_m rfl ?_
   refine ARun.call (lit_lt rfl) go_83 rfl (rfd_begins _ what _ (by omega) (by omega)) ?_
   rintro _ S9 ⟨rfl,e9⟩
   rw [e9,hbc];clear e9 S9
   refine k_n ?_
   refine k_u [(1,_),(6,_),(7,_),(8,_),(17,_),(24,_)] ?_
   by_cases hbq:Fd.beg W (T.drop i)=true
   ·rw [if_pos hbq] at hnx
    refine AWP.condT rfl ((by rw [hbq])) ?_
    refine AWP.region ?_
    refine k_m rfl (k_m rfl ?_)
    refine ARun.build1s (lit_lt rfl) ty_sl_24 rfl rfl ?_
    intro b27 f27
    have g27:=f27
    repeat ((with_reducible replace g27:=fresh_set g27);obtain ⟨g27,_⟩:=g27)
    refine ARun.appendO (o:=o) (n:=((List.range i).filter (fun a=>Fd.beg W (T.drop a))).length) (m:=1) (cs:=((List.range i).filter (fun a=>Fd.beg W (T.drop a))).map gI) (lit_lt rfl) ty_sl_24 rfl (List.length_map ..) (appO_of hO (List.length_map ..) g27) rfl (news:=[_]) rds_ rfl (by omega) (by simp [Value.oneCell']) (by omega) (by omega) ?_
    intro b28 c28 ho3
    refine k_s rfl ?_
    refine arun_nil ?_
    refine ain_n ?_
    refine athen_n ?_
    refine k_u [(1,_),(6,_),(7,_),(8,_),(17,_),(24,_)] ?_
    refine AWP.region ?_
    refine k_m rfl ?_
    refine rC (Calm.bin rfl rfl b_add_i64) ?_
    refine k_e rfl ?_
    refine ⟨(i+1,some (b28,c28)),?_,?_,?_,?_⟩
    all_goals (try dsimp only)
    ·exact ⟨sq_,sq_,by rw [hnx,List.length_append];rfl,sq_,trivial⟩
    ·rw [hnx,List.map_append];exact Mem.Less.refl _
    ·exact ⟨by omega,by rw [hnx,List.length_append];exact ho3⟩
    ·omega
   ·rw [if_neg hbq,List.append_nil] at hnx
    refine AWP.condF rfl ((by rw [Bool.eq_false_iff.2 hbq])) ?_
    refine AWP.skip ?_
    refine ain_n ?_
    refine athen_n ?_
    refine AWP.region ?_
    refine k_m rfl ?_
    refine rC (Calm.bin rfl rfl b_add_i64) ?_
    refine k_e rfl ?_
    refine ⟨(i+1,o),?_,?_,?_,?_⟩
    all_goals (try dsimp only)
    ·exact ⟨sq_,sq_,by rw [hnx];rfl,sq_,trivial⟩
    ·rw [hnx];exact Mem.Less.refl _
    ·exact ⟨by omega,by rw [hnx];exact hO⟩
    ·omega
  ·obtain rfl:i=t.size+1:=by omega
   refine AWP.seq (k_a (k_m rfl (k_m rfl ?_)))
   refine rC (Calm.lenStr (strT_spec ty_str_9) rfl) ?_
   refine rC (Calm.bin rfl rfl b_leq) ?_
   refine k_n ?_
   refine k_u [(1,_),(6,_),(7,_),(8,_),(17,_)] ?_
   refine k_F rfl ?_
   rw [← hF] at hO hfl ⊢
   refine AWP.exit ?_
   refine athen_exit ?_
   refine athen_exit ?_
   refine ain_same ?_
   refine athen_n ?_
   refine k_a (k_m rfl (k_s rfl (k_e rfl ?_)))
   refine k_u [(1,_),(6,_),(7,_),(8,_),(17,_),(4,_),(5,_)] ?_
   refine AWP.ret ?_
   refine ⟨_,_,⟨_,_,rfl,⟨_,_,rfl,rfl,rfl⟩,rfl⟩,Mem.Less.refl _,?_⟩
   exact ⟨_,rfl,hSb.trans (outM_over hO),idx_ints (sl_outV (g:=gI) hO rfl (by omega))⟩
 ·rw [if_neg (by omega)]
  refine ACall.enter (rs:=[.tmp 4,.tmp 5]) 30 [(0,.agg #[.string x.col,.int .i64 x.pri,.slice p1 x.fir.length c1,.slice p2 n2 c2,.string x.bits,.int .i64 x.n,.slice p3 x.cnts.length c3,.slice p4 x.plcs.length c4]),(1,.string what)] Try.func43 rfl rfl (Nat.le_of_ble_eq_true rfl) rfl ⟨rfl,rfl,trivial⟩ ?_
  refine k_a ?_
  refine ARun.boxA (cs:=[_,_,_,_,_,_,_,_]) (lit_lt rfl) rfl ?_
  intro b2 f2
  have g2:=f2
  repeat ((with_reducible replace g2:=fresh_set g2);obtain ⟨g2,_⟩:=g2)
  try simp only [k_l1,k_l0,k_za,Nat.reduceAdd]
  refine k_s rfl (k_e rfl (AWP.seq (k_a ?_)))
  refine rC (ldA_ (cs:=[_,_,_,_,_,_,_,_]) ty_agg_48 ty_size_48 rfl) ?_
  refine ARun.call (lit_lt rfl) go_37 rfl (rfd_Check x _ _ (hx0.less less_) fx h64) ?_
  rintro _ S2 ⟨rfl,q⟩
  rw [q,h0];clear q S2
  refine rC (Calm.bin rfl rfl b_neq) ?_
  refine k_n ?_
  refine k_u [(0,_),(1,_),(2,_),(4,_),(5,_),(11,_)] ?_
  refine k_T rfl ?_
  refine k_a (k_s rfl (k_e rfl ?_))
  refine k_r ?_
  refine ⟨_,S,⟨_,_,rfl,⟨_,_,rfl,rfl,rfl⟩,rfl⟩,less_,?_⟩
  exact ⟨_,rfl,Mem.Less.refl _,Sl.nil _ _ _⟩
set_option maxHeartbeats 4000000 in
theorem rfd_Extract (x : Ix) (aa nn : Int) (cx : List Value) (S : Mem) (hx : IxV S cx x) (fx : FitX x) (h64 : In64 x.mks) (ha64 : -9223372036854775808 ≤ aa ∧ aa < 9223372036854775808) (hn64 : -9223372036854775808 ≤ nn ∧ nn < 9223372036854775808) :
  ACall Try.prog 45 #[.agg cx.toArray,.int .i64 aa,.int .i64 nn] S fun r S'=>r = .tuple #[.string (extP x aa nn).1,.int .i64 ((extP x aa nn).2:Nat)]∧S'=S:=by
 have hx0:=hx
 obtain ⟨p1,c1,n2,p2,c2,p3,c3,p4,c4,rfl,h1,h2,h3,h4⟩:=hx.parts
 unfold extP
 rcases chk_two x with h0 | h0
 case inr =>
  rw [if_pos (by omega)]
  refine ACall.enter (rs:=[.tmp 6,.tmp 7]) 40 [(0,.agg #[.string x.col,.int .i64 x.pri,.slice p1 x.fir.length c1,.slice p2 n2 c2,.string x.bits,.int .i64 x.n,.slice p3 x.cnts.length c3,.slice p4 x.plcs.length c4]),(1,.int .i64 aa),(2,.int .i64 nn)] Try.func45 rfl rfl (Nat.le_of_ble_eq_true rfl) rfl ⟨rfl,rfl,rfl,trivial⟩ ?_
  refine k_a ?_
  refine ARun.boxA (cs:=[_,_,_,_,_,_,_,_]) (lit_lt rfl) rfl ?_
  intro b3 f3
  have g3:=f3
  repeat ((with_reducible replace g3:=fresh_set g3);obtain ⟨g3,_⟩:=g3)
  try simp only [k_l1,k_l0,k_za,Nat.reduceAdd]
  refine k_s rfl (k_e rfl (AWP.seq (k_a ?_)))
  refine rC (ldA_ (cs:=[_,_,_,_,_,_,_,_]) ty_agg_48 ty_size_48 rfl) ?_
  refine ARun.call (lit_lt rfl) go_37 rfl (rfd_Check x _ _ (hx0.less less_) fx h64) ?_
  rintro _ S2 ⟨rfl,q⟩
  rw [q,h0];clear q S2
  refine rC (Calm.bin rfl rfl b_neq) ?_
  refine k_n ?_
  refine k_u [(0,_),(1,_),(2,_),(3,_),(6,_),(7,_),(10,_)] ?_
  refine k_T rfl ?_
  refine k_a (k_s rfl (k_e rfl ?_))
  refine k_r ?_
  refine ⟨_,S,⟨_,_,rfl,⟨_,_,rfl,rfl,rfl⟩,rfl⟩,less_,?_⟩
  exact ⟨rfl,rfl⟩
 obtain ⟨p,t,ho,hp⟩:=chk_ok h0
 have htx:=ho.tx hp
 rw [if_neg (fun h=>h h0),htx]
 have hs:=ho.small
 have hts:=ho.size
 by_cases g1:aa<0
 ·rw [if_pos (.inl g1)]
  refine ACall.enter (rs:=[.tmp 6,.tmp 7]) 40 [(0,.agg #[.string x.col,.int .i64 x.pri,.slice p1 x.fir.length c1,.slice p2 n2 c2,.string x.bits,.int .i64 x.n,.slice p3 x.cnts.length c3,.slice p4 x.plcs.length c4]),(1,.int .i64 aa),(2,.int .i64 nn)] Try.func45 rfl rfl (Nat.le_of_ble_eq_true rfl) rfl ⟨rfl,rfl,rfl,trivial⟩ ?_
  refine k_a ?_
  refine ARun.boxA (cs:=[_,_,_,_,_,_,_,_]) (lit_lt rfl) rfl ?_
  intro b3 f3
  have g3:=f3
  repeat ((with_reducible replace g3:=fresh_set g3);obtain ⟨g3,_⟩:=g3)
  try simp only [k_l1,k_l0,k_za,Nat.reduceAdd]
  refine k_s rfl (k_e rfl (AWP.seq (k_a ?_)))
  refine rC (ldA_ (cs:=[_,_,_,_,_,_,_,_]) ty_agg_48 ty_size_48 rfl) ?_
  refine ARun.call (lit_lt rfl) go_37 rfl (rfd_Check x _ _ (hx0.less less_) fx h64) ?_
  rintro _ S2 ⟨rfl,q⟩
  rw [q,h0];clear q S2
  refine rC (Calm.bin rfl rfl b_neq) ?_
  refine k_n ?_
  refine k_u [(0,_),(1,_),(2,_),(3,_),(6,_),(7,_),(10,_)] ?_
  refine k_F rfl ?_
  refine k_k (AWP.seq (k_a (k_m rfl ?_)))
  refine rC (Calm.bin rfl rfl b_lss) ?_
  refine k_m rfl ?_
  first|refine k_q 13 ?_|refine rG 13 (Calm.move rfl) ?_
  first|refine k_q 13 ?_|refine rG 13 (Calm.bin rfl rfl b_lss) ?_
  first|refine k_t rfl rfl ?_|refine k_f rfl rfl ?_
  refine k_m rfl ?_
  first|refine k_q 17 ?_|refine rG 17 (Calm.move rfl) ?_
  first|refine k_q 17 ?_|refine rG 17 (Calm.fieldAddr ty_field_48_0 rfl) ?_
  first|refine k_q 17 ?_|refine rG 17 (ld_ ty_plain_9 rfl) ?_
  first|refine k_q 17 ?_|refine rG 17 (Calm.lenStr (strT_spec ty_str_9) rfl) ?_
  first|refine k_q 17 ?_|refine rG 17 (Calm.bin rfl rfl b_gtr) ?_
  first|refine k_t rfl rfl ?_|refine k_f rfl rfl ?_
  refine k_m rfl ?_
  first|refine k_q 24 ?_|refine rG 24 (Calm.move rfl) ?_
  first|refine k_q 24 ?_|refine rG 24 (Calm.fieldAddr ty_field_48_0 rfl) ?_
  first|refine k_q 24 ?_|refine rG 24 (ld_ ty_plain_9 rfl) ?_
  first|refine k_q 24 ?_|refine rG 24 (Calm.lenStr (strT_spec ty_str_9) rfl) ?_
  first|refine k_q 24 ?_|refine rG 24 (Calm.move rfl) ?_
  first|refine k_q 24 ?_|refine rG 24 (Calm.bin rfl rfl b_sub_i64) ?_
  first|refine k_q 24 ?_|refine rG 24 (Calm.bin rfl rfl b_gtr) ?_
  first|refine k_t rfl rfl ?_|refine k_f rfl rfl ?_
  refine k_n ?_
  refine k_u [(0,_),(1,_),(2,_),(3,_),(6,_),(7,_),(10,_),(32,_)] ?_
  refine k_T rfl ?_
  refine k_a (k_s rfl (k_e rfl ?_))
  refine k_r ?_
  refine ⟨_,S,⟨_,_,rfl,⟨_,_,rfl,rfl,rfl⟩,rfl⟩,less_,?_⟩
  exact ⟨rfl,rfl⟩
 by_cases g2:nn<0
 ·rw [if_pos (.inr (.inl g2))]
  refine ACall.enter (rs:=[.tmp 6,.tmp 7]) 40 [(0,.agg #[.string x.col,.int .i64 x.pri,.slice p1 x.fir.length c1,.slice p2 n2 c2,.string x.bits,.int .i64 x.n,.slice p3 x.cnts.length c3,.slice p4 x.plcs.length c4]),(1,.int .i64 aa),(2,.int .i64 nn)] Try.func45 rfl rfl (Nat.le_of_ble_eq_true rfl) rfl ⟨rfl,rfl,rfl,trivial⟩ ?_
  refine k_a ?_
  refine ARun.boxA (cs:=[_,_,_,_,_,_,_,_]) (lit_lt rfl) rfl ?_
  intro b3 f3
  have g3:=f3
  repeat ((with_reducible replace g3:=fresh_set g3);obtain ⟨g3,_⟩:=g3)
  try simp only [k_l1,k_l0,k_za,Nat.reduceAdd]
  refine k_s rfl (k_e rfl (AWP.seq (k_a ?_)))
  refine rC (ldA_ (cs:=[_,_,_,_,_,_,_,_]) ty_agg_48 ty_size_48 rfl) ?_
  refine ARun.call (lit_lt rfl) go_37 rfl (rfd_Check x _ _ (hx0.less less_) fx h64) ?_
  rintro _ S2 ⟨rfl,q⟩
  rw [q,h0];clear q S2
  refine rC (Calm.bin rfl rfl b_neq) ?_
  refine k_n ?_
  refine k_u [(0,_),(1,_),(2,_),(3,_),(6,_),(7,_),(10,_)] ?_
  refine k_F rfl ?_
  refine k_k (AWP.seq (k_a (k_m rfl ?_)))
  refine rC (Calm.bin rfl rfl b_lss) ?_
  refine k_m rfl ?_
  first|refine k_q 13 ?_|refine rG 13 (Calm.move rfl) ?_
  first|refine k_q 13 ?_|refine rG 13 (Calm.bin rfl rfl b_lss) ?_
  first|refine k_t rfl rfl ?_|refine k_f rfl rfl ?_
  refine k_m rfl ?_
  first|refine k_q 17 ?_|refine rG 17 (Calm.move rfl) ?_
  first|refine k_q 17 ?_|refine rG 17 (Calm.fieldAddr ty_field_48_0 rfl) ?_
  first|refine k_q 17 ?_|refine rG 17 (ld_ ty_plain_9 rfl) ?_
  first|refine k_q 17 ?_|refine rG 17 (Calm.lenStr (strT_spec ty_str_9) rfl) ?_
  first|refine k_q 17 ?_|refine rG 17 (Calm.bin rfl rfl b_gtr) ?_
  first|refine k_t rfl rfl ?_|refine k_f rfl rfl ?_
  refine k_m rfl ?_
  first|refine k_q 24 ?_|refine rG 24 (Calm.move rfl) ?_
  first|refine k_q 24 ?_|refine rG 24 (Calm.fieldAddr ty_field_48_0 rfl) ?_
  first|refine k_q 24 ?_|refine rG 24 (ld_ ty_plain_9 rfl) ?_
  first|refine k_q 24 ?_|refine rG 24 (Calm.lenStr (strT_spec ty_str_9) rfl) ?_
  first|refine k_q 24 ?_|refine rG 24 (Calm.move rfl) ?_
  first|refine k_q 24 ?_|refine rG 24 (Calm.bin rfl rfl b_sub_i64) ?_
  first|refine k_q 24 ?_|refine rG 24 (Calm.bin rfl rfl b_gtr) ?_
  first|refine k_t rfl rfl ?_|refine k_f rfl rfl ?_
  refine k_n ?_
  refine k_u [(0,_),(1,_),(2,_),(3,_),(6,_),(7,_),(10,_),(32,_)] ?_
  refine k_T rfl ?_
  refine k_a (k_s rfl (k_e rfl ?_))
  refine k_r ?_
  refine ⟨_,S,⟨_,_,rfl,⟨_,_,rfl,rfl,rfl⟩,rfl⟩,less_,?_⟩
  exact ⟨rfl,rfl⟩
 by_cases g3:(x.col.size:Int)<aa
 ·rw [if_pos (.inr (.inr (.inl g3)))]
  refine ACall.enter (rs:=[.tmp 6,.tmp 7]) 40 [(0,.agg #[.string x.col,.int .i64 x.pri,.slice p1 x.fir.length c1,.slice p2 n2 c2,.string x.bits,.int .i64 x.n,.slice p3 x.cnts.length c3,.slice p4 x.plcs.length c4]),(1,.int .i64 aa),(2,.int .i64 nn)] Try.func45 rfl rfl (Nat.le_of_ble_eq_true rfl) rfl ⟨rfl,rfl,rfl,trivial⟩ ?_
  refine k_a ?_
  refine ARun.boxA (cs:=[_,_,_,_,_,_,_,_]) (lit_lt rfl) rfl ?_
  intro b3 f3
  have g3:=f3
  repeat ((with_reducible replace g3:=fresh_set g3);obtain ⟨g3,_⟩:=g3)
  try simp only [k_l1,k_l0,k_za,Nat.reduceAdd]
  refine k_s rfl (k_e rfl (AWP.seq (k_a ?_)))
  refine rC (ldA_ (cs:=[_,_,_,_,_,_,_,_]) ty_agg_48 ty_size_48 rfl) ?_
  refine ARun.call (lit_lt rfl) go_37 rfl (rfd_Check x _ _ (hx0.less less_) fx h64) ?_
  rintro _ S2 ⟨rfl,q⟩
  rw [q,h0];clear q S2
  refine rC (Calm.bin rfl rfl b_neq) ?_
  refine k_n ?_
  refine k_u [(0,_),(1,_),(2,_),(3,_),(6,_),(7,_),(10,_)] ?_
  refine k_F rfl ?_
  refine k_k (AWP.seq (k_a (k_m rfl ?_)))
  refine rC (Calm.bin rfl rfl b_lss) ?_
  refine k_m rfl ?_
  first|refine k_q 13 ?_|refine rG 13 (Calm.move rfl) ?_
  first|refine k_q 13 ?_|refine rG 13 (Calm.bin rfl rfl b_lss) ?_
  first|refine k_t rfl rfl ?_|refine k_f rfl rfl ?_
  refine k_m rfl ?_
  first|refine k_q 17 ?_|refine rG 17 (Calm.move rfl) ?_
  first|refine k_q 17 ?_|refine rG 17 (Calm.fieldAddr ty_field_48_0 rfl) ?_
  first|refine k_q 17 ?_|refine rG 17 (ld_ ty_plain_9 rfl) ?_
  first|refine k_q 17 ?_|refine rG 17 (Calm.lenStr (strT_spec ty_str_9) rfl) ?_
  first|refine k_q 17 ?_|refine rG 17 (Calm.bin rfl rfl b_gtr) ?_
  first|refine k_t rfl rfl ?_|refine k_f rfl rfl ?_
  refine k_m rfl ?_
  first|refine k_q 24 ?_|refine rG 24 (Calm.move rfl) ?_
  first|refine k_q 24 ?_|refine rG 24 (Calm.fieldAddr ty_field_48_0 rfl) ?_
  first|refine k_q 24 ?_|refine rG 24 (ld_ ty_plain_9 rfl) ?_
  first|refine k_q 24 ?_|refine rG 24 (Calm.lenStr (strT_spec ty_str_9) rfl) ?_
  first|refine k_q 24 ?_|refine rG 24 (Calm.move rfl) ?_
  first|refine k_q 24 ?_|refine rG 24 (Calm.bin rfl rfl b_sub_i64) ?_
  first|refine k_q 24 ?_|refine rG 24 (Calm.bin rfl rfl b_gtr) ?_
  first|refine k_t rfl rfl ?_|refine k_f rfl rfl ?_
  refine k_n ?_
  refine k_u [(0,_),(1,_),(2,_),(3,_),(6,_),(7,_),(10,_),(32,_)] ?_
  refine k_T rfl ?_
  refine k_a (k_s rfl (k_e rfl ?_))
  refine k_r ?_
  refine ⟨_,S,⟨_,_,rfl,⟨_,_,rfl,rfl,rfl⟩,rfl⟩,less_,?_⟩
  exact ⟨rfl,rfl⟩
 by_cases g4:(x.col.size:Int)-aa<nn
 ·rw [if_pos (.inr (.inr (.inr g4)))]
  refine ACall.enter (rs:=[.tmp 6,.tmp 7]) 40 [(0,.agg #[.string x.col,.int .i64 x.pri,.slice p1 x.fir.length c1,.slice p2 n2 c2,.string x.bits,.int .i64 x.n,.slice p3 x.cnts.length c3,.slice p4 x.plcs.length c4]),(1,.int .i64 aa),(2,.int .i64 nn)] Try.func45 rfl rfl (Nat.le_of_ble_eq_true rfl) rfl ⟨rfl,rfl,rfl,trivial⟩ ?_
  refine k_a ?_
  refine ARun.boxA (cs:=[_,_,_,_,_,_,_,_]) (lit_lt rfl) rfl ?_
  intro b3 f3
  have g3:=f3
  repeat ((with_reducible replace g3:=fresh_set g3);obtain ⟨g3,_⟩:=g3)
  try simp only [k_l1,k_l0,k_za,Nat.reduceAdd]
  refine k_s rfl (k_e rfl (AWP.seq (k_a ?_)))
  refine rC (ldA_ (cs:=[_,_,_,_,_,_,_,_]) ty_agg_48 ty_size_48 rfl) ?_
  refine ARun.call (lit_lt rfl) go_37 rfl (rfd_Check x _ _ (hx0.less less_) fx h64) ?_
  rintro _ S2 ⟨rfl,q⟩
  rw [q,h0];clear q S2
  refine rC (Calm.bin rfl rfl b_neq) ?_
  refine k_n ?_
  refine k_u [(0,_),(1,_),(2,_),(3,_),(6,_),(7,_),(10,_)] ?_
  refine k_F rfl ?_
  refine k_k (AWP.seq (k_a (k_m rfl ?_)))
  refine rC (Calm.bin rfl rfl b_lss) ?_
  refine k_m rfl ?_
  first|refine k_q 13 ?_|refine rG 13 (Calm.move rfl) ?_
  first|refine k_q 13 ?_|refine rG 13 (Calm.bin rfl rfl b_lss) ?_
  first|refine k_t rfl rfl ?_|refine k_f rfl rfl ?_
  refine k_m rfl ?_
  first|refine k_q 17 ?_|refine rG 17 (Calm.move rfl) ?_
  first|refine k_q 17 ?_|refine rG 17 (Calm.fieldAddr ty_field_48_0 rfl) ?_
  first|refine k_q 17 ?_|refine rG 17 (ld_ ty_plain_9 rfl) ?_
  first|refine k_q 17 ?_|refine rG 17 (Calm.lenStr (strT_spec ty_str_9) rfl) ?_
  first|refine k_q 17 ?_|refine rG 17 (Calm.bin rfl rfl b_gtr) ?_
  first|refine k_t rfl rfl ?_|refine k_f rfl rfl ?_
  refine k_m rfl ?_
  first|refine k_q 24 ?_|refine rG 24 (Calm.move rfl) ?_
  first|refine k_q 24 ?_|refine rG 24 (Calm.fieldAddr ty_field_48_0 rfl) ?_
  first|refine k_q 24 ?_|refine rG 24 (ld_ ty_plain_9 rfl) ?_
  first|refine k_q 24 ?_|refine rG 24 (Calm.lenStr (strT_spec ty_str_9) rfl) ?_
  first|refine k_q 24 ?_|refine rG 24 (Calm.move rfl) ?_
  first|refine k_q 24 ?_|refine rG 24 (Calm.bin rfl rfl b_sub_i64) ?_
  first|refine k_q 24 ?_|refine rG 24 (Calm.bin rfl rfl b_gtr) ?_
  first|refine k_t rfl rfl ?_|refine k_f rfl rfl ?_
  refine k_n ?_
  refine k_u [(0,_),(1,_),(2,_),(3,_),(6,_),(7,_),(10,_),(32,_)] ?_
  refine k_T rfl ?_
  refine k_a (k_s rfl (k_e rfl ?_))
  refine k_r ?_
  refine ⟨_,S,⟨_,_,rfl,⟨_,_,rfl,rfl,rfl⟩,rfl⟩,less_,?_⟩
  exact ⟨rfl,rfl⟩
 have hb : ¬ (aa<0∨nn<0∨(x.col.size:Int)<aa∨(x.col.size:Int)-aa<nn):=fun h=>by rcases h with h | h | h | h <;> omega
 rw [if_neg hb]
 refine ACall.enter (rs:=[.tmp 6,.tmp 7]) 40 [(0,.agg #[.string x.col,.int .i64 x.pri,.slice p1 x.fir.length c1,.slice p2 n2 c2,.string x.bits,.int .i64 x.n,.slice p3 x.cnts.length c3,.slice p4 x.plcs.length c4]),(1,.int .i64 aa),(2,.int .i64 nn)] Try.func45 rfl rfl (Nat.le_of_ble_eq_true rfl) rfl ⟨rfl,rfl,rfl,trivial⟩ ?_
 refine k_a ?_
 refine ARun.boxA (cs:=[_,_,_,_,_,_,_,_]) (lit_lt rfl) rfl ?_
 intro b3 f3
 have g3:=f3
 repeat ((with_reducible replace g3:=fresh_set g3);obtain ⟨g3,_⟩:=g3)
 try simp only [k_l1,k_l0,k_za,Nat.reduceAdd]
 refine k_s rfl (k_e rfl (AWP.seq (k_a ?_)))
 refine rC (ldA_ (cs:=[_,_,_,_,_,_,_,_]) ty_agg_48 ty_size_48 rfl) ?_
 refine ARun.call (lit_lt rfl) go_37 rfl (rfd_Check x _ _ (hx0.less less_) fx h64) ?_
 rintro _ S2 ⟨rfl,q⟩
 rw [q,h0];clear q S2
 refine rC (Calm.bin rfl rfl b_neq) ?_
 refine k_n ?_
 refine k_u [(0,_),(1,_),(2,_),(3,_),(6,_),(7,_),(10,_)] ?_
 refine k_F rfl ?_
 refine k_k (AWP.seq (k_a (k_m rfl ?_)))
 refine rC (Calm.bin rfl rfl b_lss) ?_
 refine k_m rfl ?_
 first|refine k_q 13 ?_|refine rG 13 (Calm.move rfl) ?_
 first|refine k_q 13 ?_|refine rG 13 (Calm.bin rfl rfl b_lss) ?_
 first|refine k_t rfl rfl ?_|refine k_f rfl rfl ?_
 refine k_m rfl ?_
 first|refine k_q 17 ?_|refine rG 17 (Calm.move rfl) ?_
 first|refine k_q 17 ?_|refine rG 17 (Calm.fieldAddr ty_field_48_0 rfl) ?_
 first|refine k_q 17 ?_|refine rG 17 (ld_ ty_plain_9 rfl) ?_
 first|refine k_q 17 ?_|refine rG 17 (Calm.lenStr (strT_spec ty_str_9) rfl) ?_
 first|refine k_q 17 ?_|refine rG 17 (Calm.bin rfl rfl b_gtr) ?_
 first|refine k_t rfl rfl ?_|refine k_f rfl rfl ?_
 refine k_m rfl ?_
 first|refine k_q 24 ?_|refine rG 24 (Calm.move rfl) ?_
 first|refine k_q 24 ?_|refine rG 24 (Calm.fieldAddr ty_field_48_0 rfl) ?_
 first|refine k_q 24 ?_|refine rG 24 (ld_ ty_plain_9 rfl) ?_
 first|refine k_q 24 ?_|refine rG 24 (Calm.lenStr (strT_spec ty_str_9) rfl) ?_
 first|refine k_q 24 ?_|refine rG 24 (Calm.move rfl) ?_
 first|refine k_q 24 ?_|refine rG 24 (Calm.bin rfl rfl b_sub_i64) ?_
 first|refine k_q 24 ?_|refine rG 24 (Calm.bin rfl rfl b_gtr) ?_
 first|refine k_t rfl rfl ?_|refine k_f rfl rfl ?_
 refine k_n ?_
 refine k_u [(0,_),(1,_),(2,_),(3,_),(6,_),(7,_),(10,_),(32,_)] ?_
 refine k_F rfl ?_
 refine k_k (k_a ?_)
 refine rC (ldA_ (cs:=[_,_,_,_,_,_,_,_]) ty_agg_48 ty_size_48 rfl) ?_
 refine ARun.call (lit_lt rfl) go_82 rfl (rfd_Text x _ _ (hx0.less less_)) ?_
 rintro _ S2 ⟨rfl,q⟩
 rw [q,htx];clear q S2
 refine k_m rfl (k_m rfl (k_m rfl ?_))
 refine rC (Calm.bin rfl rfl b_add_i64) ?_
 refine rC (Calm.sliceStr (strT_spec ty_str_9) rfl (bnd_some _ _ rfl (by omega) (by omega)) (bnd_some _ _ rfl (by omega) (by omega))) ?_
 refine k_s rfl (k_e rfl ?_)
 refine k_u [(0,_),(1,_),(2,_),(3,_),(6,_),(7,_),(10,_),(32,_)] ?_
 refine AWP.ret ?_
 refine ⟨_,S,⟨_,_,rfl,⟨_,_,rfl,rfl,rfl⟩,rfl⟩,less_,?_⟩
 exact ⟨rfl,rfl⟩
end Go.Proofs.Ytgidjbpgkeemiaa
namespace Go.Proofs.Ytgidjbpgkeemiaa
open Go.RowKit
open Mv Num Loser Srt
set_option maxRecDepth 8000
def fxB : ByteArray := bs [98, 97, 110, 97, 110, 97]
def fxC : ByteArray := bs [97, 110, 110, 98, 97, 97]
def fxAna : ByteArray := bs [97, 110, 97]
def fxAn : ByteArray := bs [97, 110]
def fxNan : ByteArray := bs [110, 97, 110]
theorem fx_num : numsT fxB = [98, 97, 110, 97, 110, 97] := by decide +kernel
theorem fx_ana : numsT fxAna = [97, 110, 97] := by decide +kernel
theorem fx_an : numsT fxAn = [97, 110] := by decide +kernel
theorem fx_nil : numsT ByteArray.empty = [] := by decide +kernel
theorem fx_txt : textP fxC 4 = (fxB, 0) := by decide +kernel
theorem fx_no : (textP fxC 0).2 = 7 := by decide +kernel
theorem fx_ok : OkX (ixP fxC 4 fxB) 4 fxB := by
 have h0:(textP fxC (4:Nat)).2=0:=by rw [show ((4:Nat):Int)=4 from rfl,fx_txt]
 obtain ⟨p,ep,q1,q2,q3,q4⟩:=text_col h0
 obtain rfl:p=4:=by omega
 rw [show ((4:Nat):Int)=4 from rfl,fx_txt] at q3 q4
 exact ⟨fx_txt,rfl,q1,q2,q3,q4⟩
theorem fx_chk : chkX (ixP fxC 4 fxB) = 0 := ok_chk fx_ok rfl
theorem fx_tx : txtX (ixP fxC 4 fxB) = fxB := fx_ok.tx rfl
theorem fx_r1 : rangeP (ixP fxC 4 fxB) fxAna = (2, 4, 0) := by
 unfold rangeP;rw [if_pos fx_chk,fx_tx,fx_num,fx_ana];decide +kernel
theorem fx_r2 : rangeP (ixP fxC 4 fxB) fxAn = (2, 4, 0) := by
 unfold rangeP;rw [if_pos fx_chk,fx_tx,fx_num,fx_an];decide +kernel
theorem fx_r3 : rangeP (ixP fxC 4 fxB) ByteArray.empty = (0, 7, 0) := by
 unfold rangeP;rw [if_pos fx_chk,fx_tx,fx_num,fx_nil];decide +kernel
theorem fx_l : locP (ixP fxC 4 fxB) fxAna = ([1, 3], 0) := by
 unfold locP;rw [if_pos fx_chk,fx_tx,fx_num,fx_ana];decide +kernel
theorem fx_e1 : extP (ixP fxC 4 fxB) 2 3 = (fxNan, 0) := by
 have hz:(ixP fxC 4 fxB).col.size=6:=rfl
 unfold extP;rw [if_neg (fun h=>h fx_chk),fx_tx,hz,if_neg (by decide)];decide +kernel
theorem fx_e2 : extP (ixP fxC 4 fxB) 4 3 = (ByteArray.empty, 1) := by
 have hz:(ixP fxC 4 fxB).col.size=6:=rfl
 unfold extP;rw [if_neg (fun h=>h fx_chk),hz,if_pos (by decide)]
set_option maxHeartbeats 4000000 in
theorem fd_lives (S : Mem) : ACall Try.prog 32 #[] S fun r S' => r = .bool true ∧ S' = S := by
 have h0:(textP fxC 4).2=0:=by rw [fx_txt]
 have hy0:ixP fxC (4:Int).toNat (textP fxC 4).1=ixP fxC 4 fxB:=by rw [fx_txt];rfl
 obtain ⟨y,hyd⟩ : ∃ y,y=ixP fxC 4 fxB:=⟨_,rfl⟩
 have e1:=fx_r1
 have e2:=fx_r2
 have e3:=fx_r3
 have e4:=fx_l
 have e5:=fx_e1
 have e6:=fx_e2
 have e7:=fx_chk
 rw [← hyd] at e1 e2 e3 e4 e5 e6 e7 hy0
 refine ACall.enter (rs:=[.tmp 0]) 117 [] Try.func32 rfl rfl (Nat.le_of_ble_eq_true rfl) rfl trivial ?_
 refine k_a (k_e rfl (k_a ?_))
 refine ARun.call (lit_lt rfl) go_33 rfl (fd_Make fxC 4 _) ?_
 rintro _ S1 hm
 obtain ⟨p1,c1,n2,p2,c2,p3,c3,p4,c4,hyy⟩:=hm.yes h0
 obtain ⟨rfl,hS1,hy⟩:=hyy y hy0.symm
 clear hyy hm
 refine k_m rfl ?_
 refine rC (Calm.extract rfl rfl) ?_
 refine rC (Calm.extract rfl rfl) ?_
 refine ARun.alloc (lit_lt rfl) ty_zero_48 ?_
 intro b1 f1
 have g1:=f1
 repeat ((with_reducible replace g1:=fresh_set g1);obtain ⟨g1,_⟩:=g1)
 try simp only [k_l1,k_l0,k_za,Nat.reduceAdd]
 first|refine k_A rfl rfl ty_size_48 ?_|refine k_B rfl rfl ty_size_48 ?_
 try simp only [k_ms,k_sz,k_ss,k_za,Nat.reduceAdd]
 refine k_e rfl ?_
 refine k_u [(0,_),(1,_),(2,_)] ?_
 refine k_a ?_
 refine rC (ldA_ (cs:=[_,_,_,_,_,_,_,_]) ty_agg_48 ty_size_48 rfl) ?_
 refine ARun.call (lit_lt rfl) go_40 rfl (fd_Count y fxAna _ _ (hy.less less_) (by decide)) ?_
 rintro _ S9 ⟨rfl,q9⟩
 rw [q9,e1];clear q9 S9
 refine k_m rfl ?_
 refine rC (Calm.extract rfl rfl) ?_
 refine rC (Calm.extract rfl rfl) ?_
 refine k_s rfl (k_e rfl ?_)
 refine k_u [(0,_),(1,_),(2,_),(3,_),(4,_)] ?_
 refine k_a ?_
 refine rC (ldA_ (cs:=[_,_,_,_,_,_,_,_]) ty_agg_48 ty_size_48 rfl) ?_
 refine ARun.call (lit_lt rfl) go_42 rfl (((fd_Locate y fxAna _ S1 hy (by decide)).frame f1)) ?_
 rintro _ _ ⟨S2,⟨v,rfl,hS2,hv⟩,f1b,rfl⟩
 rw [e4] at hv ⊢
 replace hy:=hy.less hS2
 obtain ⟨va,vc,rfl,_⟩:=id hv
 refine k_m rfl ?_
 refine rC (Calm.extract rfl rfl) ?_
 refine rC (Calm.extract rfl rfl) ?_
 refine k_s rfl (k_e rfl ?_)
 refine k_u [(0,_),(1,_),(2,_),(3,_),(4,_),(5,_),(6,_)] ?_
 refine k_a ?_
 refine rC (ldA_ (cs:=[_,_,_,_,_,_,_,_]) ty_agg_48 ty_size_48 rfl) ?_
 refine ARun.call (lit_lt rfl) go_38 rfl (fd_Range y fxAn _ _ (hy.less less_) (by decide)) ?_
 rintro _ S9 ⟨rfl,q9⟩
 rw [q9,e2];clear q9 S9
 refine k_m rfl ?_
 refine rC (Calm.extract rfl rfl) ?_
 refine rC (Calm.extract rfl rfl) ?_
 refine rC (Calm.extract rfl rfl) ?_
 refine k_s rfl (k_s rfl (k_e rfl ?_))
 refine k_u [(0,_),(1,_),(2,_),(3,_),(4,_),(5,_),(6,_),(7,_),(8,_),(9,_)] ?_
 refine k_a ?_
 refine rC (ldA_ (cs:=[_,_,_,_,_,_,_,_]) ty_agg_48 ty_size_48 rfl) ?_
 refine ARun.call (lit_lt rfl) go_44 rfl (fd_Extract y 2 3 _ _ (hy.less less_) (by decide) (by decide)) ?_
 rintro _ S9 ⟨rfl,q9⟩
 rw [q9,e5];clear q9 S9
 refine k_m rfl ?_
 refine rC (Calm.extract rfl rfl) ?_
 refine rC (Calm.extract rfl rfl) ?_
 refine k_s rfl (k_e rfl ?_)
 refine k_u [(0,_),(1,_),(2,_),(3,_),(4,_),(5,_),(6,_),(7,_),(8,_),(9,_),(10,_),(11,_)] ?_
 refine k_a ?_
 refine rC (ldA_ (cs:=[_,_,_,_,_,_,_,_]) ty_agg_48 ty_size_48 rfl) ?_
 refine ARun.call (lit_lt rfl) go_40 rfl (fd_Count y ByteArray.empty _ _ (hy.less less_) (by decide)) ?_
 rintro _ S9 ⟨rfl,q9⟩
 rw [q9,e3];clear q9 S9
 refine k_m rfl ?_
 refine rC (Calm.extract rfl rfl) ?_
 refine rC (Calm.extract rfl rfl) ?_
 refine k_s rfl (k_e rfl ?_)
 refine k_u [(0,_),(1,_),(2,_),(3,_),(4,_),(5,_),(6,_),(7,_),(8,_),(9,_),(10,_),(11,_),(12,_),(13,_)] ?_
 refine k_a ?_
 refine ARun.call (lit_lt rfl) go_33 rfl (fd_Make fxC 0 _) ?_
 rintro _ S9 hm
 obtain ⟨rfl,q9⟩:=hm.no (by rw [fx_no];decide)
 rw [q9,fx_no];clear q9 hm S9
 refine k_m rfl ?_
 refine rC (Calm.extract rfl rfl) ?_
 refine rC (Calm.extract rfl rfl) ?_
 refine ARun.alloc (lit_lt rfl) ty_zero_48 ?_
 intro b14 f14
 have g14:=f14
 repeat ((with_reducible replace g14:=fresh_set g14);obtain ⟨g14,_⟩:=g14)
 try simp only [k_l1,k_l0,k_za,Nat.reduceAdd]
 first|refine k_A rfl rfl ty_size_48 ?_|refine k_B rfl rfl ty_size_48 ?_
 try simp only [k_ms,k_sz,k_ss,k_za,Nat.reduceAdd]
 refine k_e rfl ?_
 refine k_u [(0,_),(1,_),(2,_),(3,_),(4,_),(5,_),(6,_),(7,_),(8,_),(9,_),(10,_),(11,_),(12,_),(13,_),(15,_)] ?_
 refine k_a ?_
 refine rC (ldA_ (cs:=[_,_,_,_,_,_,_,_]) ty_agg_48 ty_size_48 rfl) ?_
 refine ARun.call (lit_lt rfl) go_44 rfl (fd_Extract y 4 3 _ _ (hy.less less_) (by decide) (by decide)) ?_
 rintro _ S9 ⟨rfl,q9⟩
 rw [q9,e6];clear q9 S9
 refine k_m rfl ?_
 refine rC (Calm.extract rfl rfl) ?_
 refine rC (Calm.extract rfl rfl) ?_
 refine k_s rfl (k_e rfl ?_)
 refine k_u [(0,_),(1,_),(2,_),(3,_),(4,_),(5,_),(6,_),(7,_),(8,_),(9,_),(10,_),(11,_),(12,_),(13,_),(15,_),(17,_)] ?_
 refine k_a (k_m rfl ?_)
 refine rC (Calm.bin rfl rfl b_eql) ?_
 refine k_m rfl ?_
 first|refine k_q 59 ?_|refine rG 59 (Calm.move rfl) ?_
 first|refine k_q 59 ?_|refine rG 59 (Calm.bin rfl rfl b_eql) ?_
 first|refine k_t rfl rfl ?_|refine k_f rfl rfl ?_
 refine k_m rfl ?_
 first|refine k_q 63 ?_|refine rG 63 (Calm.move rfl) ?_
 first|refine k_q 63 ?_|refine rG 63 (Calm.bin rfl rfl b_eql) ?_
 first|refine k_t rfl rfl ?_|refine k_f rfl rfl ?_
 refine k_m rfl ?_
 first|refine k_q 67 ?_|refine rG 67 (Calm.move rfl) ?_
 refine rUn 67 ?_
 refine ARun.buildN (cs:=[_,_]) (lit_lt rfl) ty_sl_24 rfl rfl rfl rfl ?_
 intro b69 f69
 have g69:=f69
 repeat ((with_reducible replace g69:=fresh_set g69);obtain ⟨g69,_⟩:=g69)
 refine ARun.callG 10 true 67 rfl (lit_lt rfl) rfl (lit_lt rfl) go_21 rfl (si_SameNumbers [1,3] [1,3] _ _ _ (hv.less less_) (Sl.own1 (g:=gZ) (l:=[1,3]) own_ List.prefix_rfl rfl (Nat.le_refl _) (by decide))) ?_
 rintro _ S9 ⟨rfl,q9⟩
 rw [q9,decide_eq_true (Eq.refl _)];clear q9 S9
 first|refine k_t rfl rfl ?_|refine k_f rfl rfl ?_
 refine k_m rfl ?_
 first|refine k_q 72 ?_|refine rG 72 (Calm.move rfl) ?_
 first|refine k_q 72 ?_|refine rG 72 (Calm.bin rfl rfl b_eql) ?_
 first|refine k_t rfl rfl ?_|refine k_f rfl rfl ?_
 refine k_m rfl ?_
 first|refine k_q 76 ?_|refine rG 76 (Calm.move rfl) ?_
 first|refine k_q 76 ?_|refine rG 76 (Calm.bin rfl rfl b_eql) ?_
 first|refine k_t rfl rfl ?_|refine k_f rfl rfl ?_
 refine k_m rfl ?_
 first|refine k_q 80 ?_|refine rG 80 (Calm.move rfl) ?_
 first|refine k_q 80 ?_|refine rG 80 (Calm.bin rfl rfl b_eql) ?_
 first|refine k_t rfl rfl ?_|refine k_f rfl rfl ?_
 refine k_m rfl ?_
 first|refine k_q 84 ?_|refine rG 84 (Calm.move rfl) ?_
 first|refine k_q 84 ?_|refine rG 84 (Calm.bin rfl rfl b_eql) ?_
 first|refine k_t rfl rfl ?_|refine k_f rfl rfl ?_
 refine k_m rfl ?_
 first|refine k_q 88 ?_|refine rG 88 (Calm.move rfl) ?_
 first|refine k_q 88 ?_|refine rG 88 (Calm.bin rfl rfl (bin_str_eql _ _)) ?_
 first|refine k_t rfl rfl ?_|refine k_f rfl rfl ?_
 refine k_m rfl ?_
 first|refine k_q 92 ?_|refine rG 92 (Calm.move rfl) ?_
 first|refine k_q 92 ?_|refine rG 92 (Calm.bin rfl rfl b_eql) ?_
 first|refine k_t rfl rfl ?_|refine k_f rfl rfl ?_
 refine k_m rfl ?_
 first|refine k_q 96 ?_|refine rG 96 (Calm.move rfl) ?_
 first|refine k_q 96 ?_|refine rG 96 (Calm.bin rfl rfl b_eql) ?_
 first|refine k_t rfl rfl ?_|refine k_f rfl rfl ?_
 refine k_m rfl ?_
 first|refine k_q 100 ?_|refine rG 100 (Calm.move rfl) ?_
 first|refine k_q 100 ?_|refine rG 100 (Calm.bin rfl rfl b_eql) ?_
 first|refine k_t rfl rfl ?_|refine k_f rfl rfl ?_
 refine k_m rfl ?_
 first|refine k_q 104 ?_|refine rG 104 (Calm.move rfl) ?_
 first|refine k_q 104 ?_|refine rG 104 (Calm.bin rfl rfl b_eql) ?_
 first|refine k_t rfl rfl ?_|refine k_f rfl rfl ?_
 refine k_m rfl ?_
 first|refine k_q 108 ?_|refine rG 108 (Calm.move rfl) ?_
 first|refine k_q 108 ?_|refine rG 108 (Calm.bin rfl rfl b_eql) ?_
 first|refine k_t rfl rfl ?_|refine k_f rfl rfl ?_
 refine k_m rfl ?_
 first|refine k_q 112 ?_|refine rG 112 (ldA_ (cs:=[_,_,_,_,_,_,_,_]) ty_agg_48 ty_size_48 rfl) ?_
 refine ARun.callG 55 true 112 rfl (lit_lt rfl) rfl (lit_lt rfl) go_36 rfl (fd_Check y _ _ (hy.less less_)) ?_
 rintro _ S9 ⟨rfl,q9⟩
 rw [q9,e7];clear q9 S9
 first|refine k_q 112 ?_|refine rG 112 (Calm.bin rfl rfl b_eql) ?_
 first|refine k_t rfl rfl ?_|refine k_f rfl rfl ?_
 refine k_e rfl ?_
 refine k_u [(0,_),(1,_),(2,_),(3,_),(4,_),(5,_),(6,_),(7,_),(8,_),(9,_),(10,_),(11,_),(12,_),(13,_),(15,_),(17,_)] ?_
 refine AWP.ret ?_
 refine ⟨_,S,⟨_,_,rfl,rfl,rfl⟩,(hS1.trans hS2).trans less_,?_⟩
 exact ⟨rfl,rfl⟩
end Go.Proofs.Ytgidjbpgkeemiaa
namespace Go.Proofs.Ytgidjbpgkeemiaa
open Go.RowKit
open Mv Bits Sel
set_option maxRecDepth 20000
theorem opens_Bitstr : OpensF Try.prog 44 2 (fun y : ByteArray × Int => [.string y.1, .int .i64 y.2]) (fun y => y.1.size ≤ 140737488351232 ∧ (Lit.int .i64 y.2).wf = true) :=
 OpensFL.struct Try.underlying44 (by kernel_rfl) (OpensFL.cons (opensF_string Try.underlying9 (by kernel_rfl)) rfl (OpensFL.one (opensF_int Try.underlying3 (by kernel_rfl)) rfl))
def BitstrV (S : Mem) (cs : List Value) (y : ByteArray × Int) : Prop := cs = [.string y.1, .int .i64 y.2] ∧ y.1.size ≤ 140737488351232 ∧ (Lit.int .i64 y.2).wf = true
theorem opens_BitstrV : Opens Try.prog 44 2 BitstrV := opens_Bitstr.opens
/-- Rows over memory. -/
def RowsV (S : Mem) (cs : List Value) (y : ByteArray × Int × List Int) : Prop := ∃ hc, cs = [.string y.1, .int .i64 y.2.1, hc] ∧ Sl 1 i64s S hc y.2.2 ∧ y.1.size ≤ 140737488351232 ∧ (Lit.int .i64 y.2.1).wf = true
theorem opens_RowsV : Opens Try.prog 46 3 RowsV :=
 (OpensL.struct (n:=2+1) Try.underlying46 (by kernel_rfl) (OpensL.cons opens_BitstrV rfl (OpensL.one (opens_slice Try.underlying24 (by kernel_rfl) rfl (opensF_int Try.underlying3 (by kernel_rfl))) rfl))).mono
  fun S cs y ⟨c0,c1,e,⟨e0,g1,g2⟩,v,e1,hv,_⟩=>by
   subst e e0 e1
   exact ⟨(y.1.1,y.1.2,y.2),v,rfl,hv,g1,g2⟩
end Go.Proofs.Ytgidjbpgkeemiaa
namespace Go.Proofs.Ytgidjbpgkeemiaa
open Go.RowKit
open Mv Bits Sel
set_option maxRecDepth 20000
structure IndexV (S : Mem) (cs : List Value) (x : Ix) : Prop where
  is : IxV S cs x
  col : x.col.size ≤ 140737488351232
  fit : FitX x
  in64 : In64 x.mks
theorem opens_IndexV : Opens Try.prog 48 8 IndexV :=
 (OpensL.struct (n:=1+(1+(1+(1+(3+1))))) Try.underlying48 (by kernel_rfl) (OpensL.cons (opensF_string Try.underlying9 (by kernel_rfl)).opens rfl
  (OpensL.cons (opensF_int Try.underlying3 (by kernel_rfl)).opens rfl
  (OpensL.cons (opens_slice Try.underlying24 (by kernel_rfl) rfl (opensF_int Try.underlying3 (by kernel_rfl))) rfl
  (OpensL.cons (opens_slices Try.underlying42 (by kernel_rfl) Try.underlying24 (by kernel_rfl) (b:=8) (b':=24) rfl rfl (opensF_int Try.underlying3 (by kernel_rfl))) rfl
  (OpensL.cons opens_RowsV rfl
  (OpensL.one (opens_slice Try.underlying24 (by kernel_rfl) rfl (opensF_int Try.underlying3 (by kernel_rfl))) rfl))))))).mono
  fun S cs y ⟨c0,c1,e,⟨e0,g0⟩,c2,c3,e1,⟨e2,g2⟩,c4,c5,e3,⟨v1,e4,s1,p1,l1⟩,c6,c7,e5,⟨v2,e9,s2,p2,l2⟩,c8,c9,e6,⟨hc,e7,sr,z1,z2⟩,⟨v4,e8,s4,p4,l4⟩⟩=>by
   subst e e0 e1 e2 e3 e4 e5 e6 e7 e8 e9
   refine ⟨⟨y.1,y.2.1,y.2.2.1,y.2.2.2.1,y.2.2.2.2.1.1,y.2.2.2.2.1.2.1,y.2.2.2.2.1.2.2,y.2.2.2.2.2⟩,⟨v1,v2,hc,v4,rfl,s1,s2,sr,s4⟩,g0,⟨by show y.2.2.2.1.length≤_;omega,fun m hm=>by have:=(p2 m hm).2;omega⟩,fun m hm z hz=>?_⟩
   have:=(p2 m hm).1 z hz
   simp [Lit.wf,IntKind.min,IntKind.max,IntKind.signed,IntKind.bits] at this
   omega
end Go.Proofs.Ytgidjbpgkeemiaa
namespace Go.Proofs.Ytgidjbpgkeemiaa
open Go.RowKit
open Mv Num Loser Srt
set_option maxRecDepth 8000
theorem fdl_long (s : ByteArray) (S : Mem) (hs : s.size ≤ 140737488355328) : ACall Try.prog 31 #[.string s] S fun r S' => r = .bool (decide (150 < s.size ∧ s.size ≤ 4096)) ∧ S' = S := by
 by_cases h1:150<s.size
 ·by_cases h2:s.size≤4096
  ·rw [decide_eq_true ⟨h1,h2⟩]
   refine ACall.enter (rs:=[.tmp 2]) 11 [(0,.string s)] Try.func31 rfl rfl (Nat.le_of_ble_eq_true rfl) rfl ⟨rfl,trivial⟩ ?_
   refine k_a (k_e rfl (k_a (k_m rfl ?_)))
   refine rC (Calm.lenStr (strT_spec ty_str_9) rfl) ?_
   refine rC (Calm.bin rfl rfl b_gtr) ?_
   refine k_m rfl ?_
   first|refine k_q 6 ?_|refine rG 6 (Calm.move rfl) ?_
   first|refine k_q 6 ?_|refine rG 6 (Calm.lenStr (strT_spec ty_str_9) rfl) ?_
   first|refine k_q 6 ?_|refine rG 6 (Calm.bin rfl rfl b_leq) ?_
   first|refine k_t rfl rfl ?_|refine k_f rfl rfl ?_
   refine k_e rfl ?_
   refine k_u [(0,_),(2,_)] ?_
   refine AWP.ret ?_
   refine ⟨_,S,⟨_,_,rfl,rfl,rfl⟩,less_,?_⟩
   exact ⟨rfl,rfl⟩
  ·rw [decide_eq_false (fun h=>h2 h.2)]
   refine ACall.enter (rs:=[.tmp 2]) 11 [(0,.string s)] Try.func31 rfl rfl (Nat.le_of_ble_eq_true rfl) rfl ⟨rfl,trivial⟩ ?_
   refine k_a (k_e rfl (k_a (k_m rfl ?_)))
   refine rC (Calm.lenStr (strT_spec ty_str_9) rfl) ?_
   refine rC (Calm.bin rfl rfl b_gtr) ?_
   refine k_m rfl ?_
   first|refine k_q 6 ?_|refine rG 6 (Calm.move rfl) ?_
   first|refine k_q 6 ?_|refine rG 6 (Calm.lenStr (strT_spec ty_str_9) rfl) ?_
   first|refine k_q 6 ?_|refine rG 6 (Calm.bin rfl rfl b_leq) ?_
   first|refine k_t rfl rfl ?_|refine k_f rfl rfl ?_
   refine k_e rfl ?_
   refine k_u [(0,_),(2,_)] ?_
   refine AWP.ret ?_
   refine ⟨_,S,⟨_,_,rfl,rfl,rfl⟩,less_,?_⟩
   exact ⟨rfl,rfl⟩
 ·rw [decide_eq_false (fun h=>h1 h.1)]
  refine ACall.enter (rs:=[.tmp 2]) 11 [(0,.string s)] Try.func31 rfl rfl (Nat.le_of_ble_eq_true rfl) rfl ⟨rfl,trivial⟩ ?_
  refine k_a (k_e rfl (k_a (k_m rfl ?_)))
  refine rC (Calm.lenStr (strT_spec ty_str_9) rfl) ?_
  refine rC (Calm.bin rfl rfl b_gtr) ?_
  refine k_m rfl ?_
  first|refine k_q 6 ?_|refine rG 6 (Calm.move rfl) ?_
  first|refine k_q 6 ?_|refine rG 6 (Calm.lenStr (strT_spec ty_str_9) rfl) ?_
  first|refine k_q 6 ?_|refine rG 6 (Calm.bin rfl rfl b_leq) ?_
  first|refine k_t rfl rfl ?_|refine k_f rfl rfl ?_
  refine k_e rfl ?_
  refine k_u [(0,_),(2,_)] ?_
  refine AWP.ret ?_
  refine ⟨_,S,⟨_,_,rfl,rfl,rfl⟩,less_,?_⟩
  exact ⟨rfl,rfl⟩
theorem same_self (x : Ix) : sameD x x = true := by unfold sameD; simp
theorem zix_v (S : Mem) : IxV S (ixC zix (.slice none 0 0) (.slice none 0 0) (.slice none 0 0) (.slice none 0 0)) zix := ⟨_, _, _, _, rfl, Sl.nil _ _ _, SlOf.nil _ _, Sl.nil _ _ _, Sl.nil _ _ _⟩
theorem zix_f : FitX zix := ⟨by decide, fun m h => by cases h⟩
set_option maxHeartbeats 8000000 in
theorem law_FindMakes (s : ByteArray) (pp : Int) (cx : List Value) (x : Ix) (S : Mem) (hs : s.size ≤ 140737488355328) (hX : IndexV S cx x) :
  ACall Try.prog 6 #[.string s,.int .i64 pp,.agg cx.toArray] S fun r _=>r = .bool true:=by
 have hx0:=hX.is
 have fx:=hX.fit
 have h64:=hX.in64
 have hcz:=hX.col
 obtain ⟨p1,c1,n2,p2,c2,p3,c3,p4,c4,rfl,h1,h2,h3,h4⟩:=hX.is.parts
 by_cases g1:150<s.size∧s.size≤4096
 ·skip
  refine ACall.enter (rs:=[.tmp 6]) 49 [(0,.string s),(1,.int .i64 pp),(2,.agg #[.string x.col,.int .i64 x.pri,.slice p1 x.fir.length c1,.slice p2 n2 c2,.string x.bits,.int .i64 x.n,.slice p3 x.cnts.length c3,.slice p4 x.plcs.length c4])] Try.func6 rfl rfl (Nat.le_of_ble_eq_true rfl) rfl ⟨rfl,rfl,rfl,trivial⟩ ?_
  refine k_a ?_
  refine ARun.boxA (cs:=[_,_,_,_,_,_,_,_]) (lit_lt rfl) rfl ?_
  intro b5 f5
  have g5:=f5
  repeat ((with_reducible replace g5:=fresh_set g5);obtain ⟨g5,_⟩:=g5)
  try simp only [k_l1,k_l0,k_za,Nat.reduceAdd]
  refine k_e rfl (AWP.seq (k_a (k_m rfl ?_)))
  refine ARun.call (lit_lt rfl) go_31 rfl (fdl_long s _ hs) ?_
  rintro _ S9 ⟨rfl,e9⟩
  rw [e9,decide_eq_true g1];clear e9 S9
  refine k_m rfl ?_
  first|refine k_q 13 ?_|refine rG 13 (Calm.fieldAddr ty_field_48_0 rfl) ?_
  first|refine k_q 13 ?_|refine rG 13 (ld_ ty_plain_9 rfl) ?_
  first | refine rS 13 ?_ | refine rU 13 ?_
  first|refine k_t rfl rfl ?_|refine k_f rfl rfl ?_
  refine k_n ?_
  refine k_u [(0,_),(1,_),(2,_),(5,_),(6,_),(17,_)] ?_
  refine k_T rfl ?_
  refine k_a ?_
  refine ARun.call (lit_lt rfl) go_32 rfl (fd_lives _) ?_
  rintro _ S9 ⟨rfl,e9⟩
  rw [e9];clear e9 S9
  refine k_e rfl ?_
  refine k_u [(0,_),(1,_),(2,_),(5,_),(6,_),(17,_)] ?_
  refine k_r ?_
  refine ⟨_,_,⟨_,_,rfl,rfl,rfl⟩,less_,?_⟩
  rfl
 by_cases g2:150<x.col.size∧x.col.size≤4096
 ·skip
  refine ACall.enter (rs:=[.tmp 6]) 49 [(0,.string s),(1,.int .i64 pp),(2,.agg #[.string x.col,.int .i64 x.pri,.slice p1 x.fir.length c1,.slice p2 n2 c2,.string x.bits,.int .i64 x.n,.slice p3 x.cnts.length c3,.slice p4 x.plcs.length c4])] Try.func6 rfl rfl (Nat.le_of_ble_eq_true rfl) rfl ⟨rfl,rfl,rfl,trivial⟩ ?_
  refine k_a ?_
  refine ARun.boxA (cs:=[_,_,_,_,_,_,_,_]) (lit_lt rfl) rfl ?_
  intro b5 f5
  have g5:=f5
  repeat ((with_reducible replace g5:=fresh_set g5);obtain ⟨g5,_⟩:=g5)
  try simp only [k_l1,k_l0,k_za,Nat.reduceAdd]
  refine k_e rfl (AWP.seq (k_a (k_m rfl ?_)))
  refine ARun.call (lit_lt rfl) go_31 rfl (fdl_long s _ hs) ?_
  rintro _ S9 ⟨rfl,e9⟩
  rw [e9,decide_eq_false g1];clear e9 S9
  refine k_m rfl ?_
  first|refine k_q 13 ?_|refine rG 13 (Calm.fieldAddr ty_field_48_0 rfl) ?_
  first|refine k_q 13 ?_|refine rG 13 (ld_ ty_plain_9 rfl) ?_
  refine ARun.callG 2 false 13 rfl (lit_lt rfl) rfl (lit_lt rfl) go_31 rfl (fdl_long x.col _ (by omega)) ?_
  rintro _ S9 ⟨rfl,e9⟩
  rw [e9,decide_eq_true g2];clear e9 S9
  first|refine k_t rfl rfl ?_|refine k_f rfl rfl ?_
  refine k_n ?_
  refine k_u [(0,_),(1,_),(2,_),(5,_),(6,_),(17,_)] ?_
  refine k_T rfl ?_
  refine k_a ?_
  refine ARun.call (lit_lt rfl) go_32 rfl (fd_lives _) ?_
  rintro _ S9 ⟨rfl,e9⟩
  rw [e9];clear e9 S9
  refine k_e rfl ?_
  refine k_u [(0,_),(1,_),(2,_),(5,_),(6,_),(17,_)] ?_
  refine k_r ?_
  refine ⟨_,_,⟨_,_,rfl,rfl,rfl⟩,less_,?_⟩
  rfl
 by_cases h0:(textP s pp).2=0
 ·obtain ⟨_,_,_,hsm,_,_⟩:=text_col h0
  obtain ⟨y,hye⟩ : ∃ y,y=ixP s pp.toNat (textP s pp).1:=⟨_,rfl⟩
  have fy:FitX y:=by rw [hye];exact fit_mk _ _ _ hsm
  refine ACall.enter (rs:=[.tmp 6]) 49 [(0,.string s),(1,.int .i64 pp),(2,.agg #[.string x.col,.int .i64 x.pri,.slice p1 x.fir.length c1,.slice p2 n2 c2,.string x.bits,.int .i64 x.n,.slice p3 x.cnts.length c3,.slice p4 x.plcs.length c4])] Try.func6 rfl rfl (Nat.le_of_ble_eq_true rfl) rfl ⟨rfl,rfl,rfl,trivial⟩ ?_
  refine k_a ?_
  refine ARun.boxA (cs:=[_,_,_,_,_,_,_,_]) (lit_lt rfl) rfl ?_
  intro b5 f5
  have g5:=f5
  repeat ((with_reducible replace g5:=fresh_set g5);obtain ⟨g5,_⟩:=g5)
  try simp only [k_l1,k_l0,k_za,Nat.reduceAdd]
  refine k_e rfl (AWP.seq (k_a (k_m rfl ?_)))
  refine ARun.call (lit_lt rfl) go_31 rfl (fdl_long s _ hs) ?_
  rintro _ S9 ⟨rfl,e9⟩
  rw [e9,decide_eq_false g1];clear e9 S9
  refine k_m rfl ?_
  first|refine k_q 13 ?_|refine rG 13 (Calm.fieldAddr ty_field_48_0 rfl) ?_
  first|refine k_q 13 ?_|refine rG 13 (ld_ ty_plain_9 rfl) ?_
  refine ARun.callG 2 false 13 rfl (lit_lt rfl) rfl (lit_lt rfl) go_31 rfl (fdl_long x.col _ (by omega)) ?_
  rintro _ S9 ⟨rfl,e9⟩
  rw [e9,decide_eq_false g2];clear e9 S9
  first|refine k_t rfl rfl ?_|refine k_f rfl rfl ?_
  refine k_n ?_
  refine k_u [(0,_),(1,_),(2,_),(5,_),(6,_),(17,_)] ?_
  refine k_F rfl ?_
  refine k_k (k_a (k_m rfl (k_m rfl ?_)))
  refine ARun.call (lit_lt rfl) go_33 rfl (((fd_Make s pp S).frame f5)) ?_
  rintro _ _ ⟨S1,hm,f5a,rfl⟩
  obtain ⟨q1,k1,m2,q2,k2,q3,k3,q4,k4,hyy⟩:=hm.yes h0
  obtain ⟨rfl,hS1,hy⟩:=hyy y hye
  clear hyy hm
  refine k_m rfl ?_
  refine rC (Calm.extract rfl rfl) ?_
  refine rC (Calm.extract rfl rfl) ?_
  refine ARun.alloc (lit_lt rfl) ty_zero_48 ?_
  intro b7 f7
  have g7:=f7
  repeat ((with_reducible replace g7:=fresh_set g7);obtain ⟨g7,_⟩:=g7)
  try simp only [k_l1,k_l0,k_za,Nat.reduceAdd]
  first|refine k_A rfl rfl ty_size_48 ?_|refine k_B rfl rfl ty_size_48 ?_
  try simp only [k_ms,k_sz,k_ss,k_za,Nat.reduceAdd]
  refine k_e rfl ?_
  refine k_u [(0,_),(1,_),(2,_),(5,_),(6,_),(17,_),(7,_),(8,_)] ?_
  refine k_a (k_m rfl (k_m rfl ?_))
  refine ARun.call (lit_lt rfl) go_34 rfl ((((rfd_Make s pp S1).frame f5a).frame f7)) ?_
  rintro _ _ ⟨_,⟨S2,hm,f5b,rfl⟩,f7b,rfl⟩
  obtain ⟨r1,j1,o2,r2,j2,r3,j3,r4,j4,hyy⟩:=hm.yes h0
  obtain ⟨rfl,hS2,hz⟩:=hyy y hye
  clear hyy hm
  replace hy:=hy.less hS2
  have hx2:=hx0.less (hS1.trans hS2)
  have g7b:=f7b
  repeat ((with_reducible replace g7b:=fresh_set g7b);obtain ⟨g7b,_⟩:=g7b)
  refine k_m rfl ?_
  refine rC (Calm.extract rfl rfl) ?_
  refine rC (Calm.extract rfl rfl) ?_
  refine ARun.alloc (lit_lt rfl) ty_zero_48 ?_
  intro b9 f9
  have g9:=f9
  repeat ((with_reducible replace g9:=fresh_set g9);obtain ⟨g9,_⟩:=g9)
  try simp only [k_l1,k_l0,k_za,Nat.reduceAdd]
  first|refine k_A rfl rfl ty_size_48 ?_|refine k_B rfl rfl ty_size_48 ?_
  try simp only [k_ms,k_sz,k_ss,k_za,Nat.reduceAdd]
  refine k_e rfl ?_
  refine k_u [(0,_),(1,_),(2,_),(5,_),(6,_),(17,_),(7,_),(8,_),(9,_),(10,_)] ?_
  refine AWP.seq ?_
  refine AWP.draw [(0,false),(1,true),(2,true),(3,true),(4,false),(5,true),(6,true),(7,true),(8,true),(9,true),(10,true),(11,true),(12,true),(14,true),(13,false),(15,false),(16,true),(17,true),(18,true)] [] mixed (by kernel_rfl) ?_
  refine draw_only rfl ?_
  refine ARun.call (lit_lt rfl) go_32 rfl (fd_lives _) ?_
  rintro _ S9 ⟨rfl,e9⟩
  rw [e9];clear e9 S9
  refine arun_nil ⟨fun _=>less_,?_⟩
  refine dP (hc:=fun _=>Calm.move rfl) (h:=?_)
  first|refine k_d ?_|refine dL (hc:=ldA_ (cs:=[_,_,_,_,_,_,_,_]) ty_agg_48 ty_size_48 rfl) (h:=?_)
  first|refine k_d ?_|refine dL (hc:=ldA_ (cs:=[_,_,_,_,_,_,_,_]) ty_agg_48 ty_size_48 rfl) (h:=?_)
  refine draw_only rfl ?_
  refine ARun.callG 1 true 32 rfl (lit_lt rfl) rfl (lit_lt rfl) go_35 rfl (rfd_Same y y _ _ _ (hy.less less_) (hz.less less_) fy fy) ?_
  rintro _ S9 ⟨rfl,e9⟩
  rw [e9,same_self];clear e9 S9
  refine arun_nil ⟨fun _=>less_,?_⟩
  refine dP (hc:=fun _=>(by first | exact Calm.pickT rfl rfl | exact Calm.pickF rfl rfl)) (h:=?_)
  refine dP (hc:=fun _=>Calm.move rfl) (h:=?_)
  first|refine k_d ?_|refine dG (hc:=fun _=>Calm.move rfl) (h:=?_)
  first|refine k_d ?_|refine dG (hc:=fun _=>Calm.move rfl) (h:=?_)
  first|refine k_d ?_|refine dG (hc:=fun _=>Calm.bin rfl rfl (bin_bool (bin_eql _ _) (decide_eq_true rfl))) (h:=?_)
  refine dP (hc:=fun _=>(by first | exact Calm.pickT rfl rfl | exact Calm.pickF rfl rfl)) (h:=?_)
  refine dP (hc:=fun _=>Calm.move rfl) (h:=?_)
  first|refine k_d ?_|refine dL (hc:=ldA_ (cs:=[_,_,_,_,_,_,_,_]) ty_agg_48 ty_size_48 rfl) (h:=?_)
  first|refine k_d ?_|refine dL (hc:=ldA_ (cs:=[_,_,_,_,_,_,_,_]) ty_agg_48 ty_size_48 rfl) (h:=?_)
  refine draw_only rfl ?_
  refine ARun.callG 11 true 42 rfl (lit_lt rfl) rfl (lit_lt rfl) go_36 rfl (fd_Check x _ _ (hx2.less less_)) ?_
  rintro _ S9 ⟨rfl,e9⟩
  rw [e9];clear e9 S9
  refine arun_nil ⟨fun _=>less_,?_⟩
  refine draw_only rfl ?_
  refine ARun.callG 11 true 42 rfl (lit_lt rfl) rfl (lit_lt rfl) go_37 rfl (rfd_Check x _ _ (hx2.less less_) fx h64) ?_
  rintro _ S9 ⟨rfl,e9⟩
  rw [e9];clear e9 S9
  refine arun_nil ⟨fun _=>less_,?_⟩
  first|refine k_d ?_|refine dG (hc:=fun _=>Calm.bin rfl rfl (bin_bool (bin_eql _ _) (decide_eq_true rfl))) (h:=?_)
  refine dP (hc:=fun _=>(by first | exact Calm.pickT rfl rfl | exact Calm.pickF rfl rfl)) (h:=?_)
  refine dP (hc:=fun _=>Calm.assign rfl) (h:=?_)
  refine draw_nil ?_
  refine athen_n ?_
  refine k_u [(0,_),(1,_),(2,_),(5,_),(6,_),(17,_),(7,_),(8,_),(9,_),(10,_)] ?_
  refine AWP.ret ?_
  refine ⟨_,_,⟨_,_,rfl,rfl,rfl⟩,less_,?_⟩
  rfl
 ·skip
  refine ACall.enter (rs:=[.tmp 6]) 49 [(0,.string s),(1,.int .i64 pp),(2,.agg #[.string x.col,.int .i64 x.pri,.slice p1 x.fir.length c1,.slice p2 n2 c2,.string x.bits,.int .i64 x.n,.slice p3 x.cnts.length c3,.slice p4 x.plcs.length c4])] Try.func6 rfl rfl (Nat.le_of_ble_eq_true rfl) rfl ⟨rfl,rfl,rfl,trivial⟩ ?_
  refine k_a ?_
  refine ARun.boxA (cs:=[_,_,_,_,_,_,_,_]) (lit_lt rfl) rfl ?_
  intro b5 f5
  have g5:=f5
  repeat ((with_reducible replace g5:=fresh_set g5);obtain ⟨g5,_⟩:=g5)
  try simp only [k_l1,k_l0,k_za,Nat.reduceAdd]
  refine k_e rfl (AWP.seq (k_a (k_m rfl ?_)))
  refine ARun.call (lit_lt rfl) go_31 rfl (fdl_long s _ hs) ?_
  rintro _ S9 ⟨rfl,e9⟩
  rw [e9,decide_eq_false g1];clear e9 S9
  refine k_m rfl ?_
  first|refine k_q 13 ?_|refine rG 13 (Calm.fieldAddr ty_field_48_0 rfl) ?_
  first|refine k_q 13 ?_|refine rG 13 (ld_ ty_plain_9 rfl) ?_
  refine ARun.callG 2 false 13 rfl (lit_lt rfl) rfl (lit_lt rfl) go_31 rfl (fdl_long x.col _ (by omega)) ?_
  rintro _ S9 ⟨rfl,e9⟩
  rw [e9,decide_eq_false g2];clear e9 S9
  first|refine k_t rfl rfl ?_|refine k_f rfl rfl ?_
  refine k_n ?_
  refine k_u [(0,_),(1,_),(2,_),(5,_),(6,_),(17,_)] ?_
  refine k_F rfl ?_
  refine k_k (k_a (k_m rfl (k_m rfl ?_)))
  refine ARun.call (lit_lt rfl) go_33 rfl (fd_Make s pp _) ?_
  rintro _ S9 hm
  obtain ⟨rfl,e9⟩:=hm.no h0
  rw [e9];clear e9 hm S9
  refine k_m rfl ?_
  refine rC (Calm.extract rfl rfl) ?_
  refine rC (Calm.extract rfl rfl) ?_
  refine ARun.alloc (lit_lt rfl) ty_zero_48 ?_
  intro b7 f7
  have g7:=f7
  repeat ((with_reducible replace g7:=fresh_set g7);obtain ⟨g7,_⟩:=g7)
  try simp only [k_l1,k_l0,k_za,Nat.reduceAdd]
  first|refine k_A rfl rfl ty_size_48 ?_|refine k_B rfl rfl ty_size_48 ?_
  try simp only [k_ms,k_sz,k_ss,k_za,Nat.reduceAdd]
  refine k_e rfl ?_
  refine k_u [(0,_),(1,_),(2,_),(5,_),(6,_),(17,_),(7,_),(8,_)] ?_
  refine k_a (k_m rfl (k_m rfl ?_))
  refine ARun.call (lit_lt rfl) go_34 rfl (rfd_Make s pp _) ?_
  rintro _ S9 hm
  obtain ⟨rfl,e9⟩:=hm.no h0
  rw [e9];clear e9 hm S9
  refine k_m rfl ?_
  refine rC (Calm.extract rfl rfl) ?_
  refine rC (Calm.extract rfl rfl) ?_
  refine ARun.alloc (lit_lt rfl) ty_zero_48 ?_
  intro b9 f9
  have g9:=f9
  repeat ((with_reducible replace g9:=fresh_set g9);obtain ⟨g9,_⟩:=g9)
  try simp only [k_l1,k_l0,k_za,Nat.reduceAdd]
  first|refine k_A rfl rfl ty_size_48 ?_|refine k_B rfl rfl ty_size_48 ?_
  try simp only [k_ms,k_sz,k_ss,k_za,Nat.reduceAdd]
  refine k_e rfl ?_
  refine k_u [(0,_),(1,_),(2,_),(5,_),(6,_),(17,_),(7,_),(8,_),(9,_),(10,_)] ?_
  refine AWP.seq ?_
  refine AWP.draw [(0,false),(1,true),(2,true),(3,true),(4,false),(5,true),(6,true),(7,true),(8,true),(9,true),(10,true),(11,true),(12,true),(14,true),(13,false),(15,false),(16,true),(17,true),(18,true)] [] mixed (by kernel_rfl) ?_
  refine draw_only rfl ?_
  refine ARun.call (lit_lt rfl) go_32 rfl (fd_lives _) ?_
  rintro _ S9 ⟨rfl,e9⟩
  rw [e9];clear e9 S9
  refine arun_nil ⟨fun _=>less_,?_⟩
  refine dP (hc:=fun _=>Calm.move rfl) (h:=?_)
  first|refine k_d ?_|refine dL (hc:=ldA_ (cs:=[_,_,_,_,_,_,_,_]) ty_agg_48 ty_size_48 rfl) (h:=?_)
  first|refine k_d ?_|refine dL (hc:=ldA_ (cs:=[_,_,_,_,_,_,_,_]) ty_agg_48 ty_size_48 rfl) (h:=?_)
  refine draw_only rfl ?_
  refine ARun.callG 1 true 32 rfl (lit_lt rfl) rfl (lit_lt rfl) go_35 rfl (rfd_Same zix zix _ _ _ (zix_v _) (zix_v _) zix_f zix_f) ?_
  rintro _ S9 ⟨rfl,e9⟩
  rw [e9,same_self];clear e9 S9
  refine arun_nil ⟨fun _=>less_,?_⟩
  refine dP (hc:=fun _=>(by first | exact Calm.pickT rfl rfl | exact Calm.pickF rfl rfl)) (h:=?_)
  refine dP (hc:=fun _=>Calm.move rfl) (h:=?_)
  first|refine k_d ?_|refine dG (hc:=fun _=>Calm.move rfl) (h:=?_)
  first|refine k_d ?_|refine dG (hc:=fun _=>Calm.move rfl) (h:=?_)
  first|refine k_d ?_|refine dG (hc:=fun _=>Calm.bin rfl rfl (bin_bool (bin_eql _ _) (decide_eq_true rfl))) (h:=?_)
  refine dP (hc:=fun _=>(by first | exact Calm.pickT rfl rfl | exact Calm.pickF rfl rfl)) (h:=?_)
  refine dP (hc:=fun _=>Calm.move rfl) (h:=?_)
  first|refine k_d ?_|refine dL (hc:=ldA_ (cs:=[_,_,_,_,_,_,_,_]) ty_agg_48 ty_size_48 rfl) (h:=?_)
  first|refine k_d ?_|refine dL (hc:=ldA_ (cs:=[_,_,_,_,_,_,_,_]) ty_agg_48 ty_size_48 rfl) (h:=?_)
  refine draw_only rfl ?_
  refine ARun.callG 11 true 42 rfl (lit_lt rfl) rfl (lit_lt rfl) go_36 rfl (fd_Check x _ _ (hx0.less less_)) ?_
  rintro _ S9 ⟨rfl,e9⟩
  rw [e9];clear e9 S9
  refine arun_nil ⟨fun _=>less_,?_⟩
  refine draw_only rfl ?_
  refine ARun.callG 11 true 42 rfl (lit_lt rfl) rfl (lit_lt rfl) go_37 rfl (rfd_Check x _ _ (hx0.less less_) fx h64) ?_
  rintro _ S9 ⟨rfl,e9⟩
  rw [e9];clear e9 S9
  refine arun_nil ⟨fun _=>less_,?_⟩
  first|refine k_d ?_|refine dG (hc:=fun _=>Calm.bin rfl rfl (bin_bool (bin_eql _ _) (decide_eq_true rfl))) (h:=?_)
  refine dP (hc:=fun _=>(by first | exact Calm.pickT rfl rfl | exact Calm.pickF rfl rfl)) (h:=?_)
  refine dP (hc:=fun _=>Calm.assign rfl) (h:=?_)
  refine draw_nil ?_
  refine athen_n ?_
  refine k_u [(0,_),(1,_),(2,_),(5,_),(6,_),(17,_),(7,_),(8,_),(9,_),(10,_)] ?_
  refine AWP.ret ?_
  refine ⟨_,_,⟨_,_,rfl,rfl,rfl⟩,less_,?_⟩
  rfl
set_option maxHeartbeats 8000000 in
theorem law_FindAsks (cx : List Value) (x : Ix) (what : ByteArray) (aa nn : Int) (S : Mem) (hX : IndexV S cx x) (hw : what.size ≤ 140737488355327) (ha64 : -9223372036854775808 ≤ aa ∧ aa < 9223372036854775808) (hn64 : -9223372036854775808 ≤ nn ∧ nn < 9223372036854775808) :
  ACall Try.prog 7 #[.agg cx.toArray,.string what,.int .i64 aa,.int .i64 nn] S fun r _=>r = .bool true:=by
 have hx0:=hX.is
 have fx:=hX.fit
 have h64:=hX.in64
 have hcz:=hX.col
 obtain ⟨p1,c1,n2,p2,c2,p3,c3,p4,c4,rfl,h1,h2,h3,h4⟩:=hX.is.parts
 by_cases g2:150<x.col.size∧x.col.size≤4096
 ·skip
  refine ACall.enter (rs:=[.tmp 8]) 129 [(0,.agg #[.string x.col,.int .i64 x.pri,.slice p1 x.fir.length c1,.slice p2 n2 c2,.string x.bits,.int .i64 x.n,.slice p3 x.cnts.length c3,.slice p4 x.plcs.length c4]),(1,.string what),(2,.int .i64 aa),(3,.int .i64 nn)] Try.func7 rfl rfl (Nat.le_of_ble_eq_true rfl) rfl ⟨rfl,rfl,rfl,rfl,trivial⟩ ?_
  refine k_a ?_
  refine ARun.boxA (cs:=[_,_,_,_,_,_,_,_]) (lit_lt rfl) rfl ?_
  intro b4 f4
  have g4:=f4
  repeat ((with_reducible replace g4:=fresh_set g4);obtain ⟨g4,_⟩:=g4)
  try simp only [k_l1,k_l0,k_za,Nat.reduceAdd]
  refine k_e rfl (AWP.seq (k_a ?_))
  refine rC (Calm.fieldAddr ty_field_48_0 rfl) ?_
  refine rC (ld_ ty_plain_9 rfl) ?_
  refine ARun.call (lit_lt rfl) go_31 rfl (fdl_long x.col _ (by omega)) ?_
  rintro _ S9 ⟨rfl,e9⟩
  rw [e9,decide_eq_true g2];clear e9 S9
  refine k_n ?_
  refine k_u [(0,_),(1,_),(2,_),(3,_),(4,_),(8,_),(29,_)] ?_
  refine k_T rfl ?_
  refine k_a ?_
  refine ARun.call (lit_lt rfl) go_32 rfl (fd_lives _) ?_
  rintro _ S9 ⟨rfl,e9⟩
  rw [e9];clear e9 S9
  refine k_e rfl ?_
  refine k_u [(0,_),(1,_),(2,_),(3,_),(4,_),(8,_),(29,_)] ?_
  refine k_r ?_
  refine ⟨_,_,⟨_,_,rfl,rfl,rfl⟩,less_,?_⟩
  rfl
 ·skip
  refine ACall.enter (rs:=[.tmp 8]) 129 [(0,.agg #[.string x.col,.int .i64 x.pri,.slice p1 x.fir.length c1,.slice p2 n2 c2,.string x.bits,.int .i64 x.n,.slice p3 x.cnts.length c3,.slice p4 x.plcs.length c4]),(1,.string what),(2,.int .i64 aa),(3,.int .i64 nn)] Try.func7 rfl rfl (Nat.le_of_ble_eq_true rfl) rfl ⟨rfl,rfl,rfl,rfl,trivial⟩ ?_
  refine k_a ?_
  refine ARun.boxA (cs:=[_,_,_,_,_,_,_,_]) (lit_lt rfl) rfl ?_
  intro b4 f4
  have g4:=f4
  repeat ((with_reducible replace g4:=fresh_set g4);obtain ⟨g4,_⟩:=g4)
  try simp only [k_l1,k_l0,k_za,Nat.reduceAdd]
  refine k_e rfl (AWP.seq (k_a ?_))
  refine rC (Calm.fieldAddr ty_field_48_0 rfl) ?_
  refine rC (ld_ ty_plain_9 rfl) ?_
  refine ARun.call (lit_lt rfl) go_31 rfl (fdl_long x.col _ (by omega)) ?_
  rintro _ S9 ⟨rfl,e9⟩
  rw [e9,decide_eq_false g2];clear e9 S9
  refine k_n ?_
  refine k_u [(0,_),(1,_),(2,_),(3,_),(4,_),(8,_),(29,_)] ?_
  refine k_F rfl ?_
  refine k_k (k_a ?_)
  refine rC (ldA_ (cs:=[_,_,_,_,_,_,_,_]) ty_agg_48 ty_size_48 rfl) ?_
  refine k_m rfl ?_
  refine ARun.call (lit_lt rfl) go_38 rfl (fd_Range x what _ _ (hx0.less less_) (by omega)) ?_
  rintro _ S9 ⟨rfl,e9⟩
  rw [e9];clear e9 S9
  refine k_m rfl ?_
  refine rC (Calm.extract rfl rfl) ?_
  refine rC (Calm.extract rfl rfl) ?_
  refine rC (Calm.extract rfl rfl) ?_
  refine k_s rfl (k_s rfl (k_e rfl ?_))
  refine k_u [(0,_),(1,_),(2,_),(3,_),(4,_),(8,_),(29,_),(9,_),(10,_),(11,_)] ?_
  refine k_a ?_
  refine rC (ldA_ (cs:=[_,_,_,_,_,_,_,_]) ty_agg_48 ty_size_48 rfl) ?_
  refine k_m rfl ?_
  refine ARun.call (lit_lt rfl) go_39 rfl (rfd_Range x what _ _ (hx0.less less_) fx h64 hw) ?_
  rintro _ S9 ⟨rfl,e9⟩
  rw [e9];clear e9 S9
  refine k_m rfl ?_
  refine rC (Calm.extract rfl rfl) ?_
  refine rC (Calm.extract rfl rfl) ?_
  refine rC (Calm.extract rfl rfl) ?_
  refine k_s rfl (k_s rfl (k_e rfl ?_))
  refine k_u [(0,_),(1,_),(2,_),(3,_),(4,_),(8,_),(29,_),(9,_),(10,_),(11,_),(12,_),(13,_),(14,_)] ?_
  refine k_a ?_
  refine rC (ldA_ (cs:=[_,_,_,_,_,_,_,_]) ty_agg_48 ty_size_48 rfl) ?_
  refine k_m rfl ?_
  refine ARun.call (lit_lt rfl) go_40 rfl (fd_Count x what _ _ (hx0.less less_) (by omega)) ?_
  rintro _ S9 ⟨rfl,e9⟩
  rw [e9];clear e9 S9
  refine k_m rfl ?_
  refine rC (Calm.extract rfl rfl) ?_
  refine rC (Calm.extract rfl rfl) ?_
  refine k_s rfl (k_e rfl ?_)
  refine k_u [(0,_),(1,_),(2,_),(3,_),(4,_),(8,_),(29,_),(9,_),(10,_),(11,_),(12,_),(13,_),(14,_),(15,_),(16,_)] ?_
  refine k_a ?_
  refine rC (ldA_ (cs:=[_,_,_,_,_,_,_,_]) ty_agg_48 ty_size_48 rfl) ?_
  refine k_m rfl ?_
  refine ARun.call (lit_lt rfl) go_41 rfl (rfd_Count x what _ _ (hx0.less less_) fx h64 hw) ?_
  rintro _ S9 ⟨rfl,e9⟩
  rw [e9];clear e9 S9
  refine k_m rfl ?_
  refine rC (Calm.extract rfl rfl) ?_
  refine rC (Calm.extract rfl rfl) ?_
  refine k_s rfl (k_e rfl ?_)
  refine k_u [(0,_),(1,_),(2,_),(3,_),(4,_),(8,_),(29,_),(9,_),(10,_),(11,_),(12,_),(13,_),(14,_),(15,_),(16,_),(17,_),(18,_)] ?_
  refine k_a ?_
  refine rC (ldA_ (cs:=[_,_,_,_,_,_,_,_]) ty_agg_48 ty_size_48 rfl) ?_
  refine k_m rfl ?_
  refine ARun.call (lit_lt rfl) go_42 rfl (((fd_Locate x what _ S hx0 (by omega)).frame f4)) ?_
  rintro _ _ ⟨S1,⟨va,rfl,hS1,hva⟩,f4a,rfl⟩
  have hx1:=hx0.less hS1
  obtain ⟨a1,k1,rfl,_⟩:=id hva
  refine k_m rfl ?_
  refine rC (Calm.extract rfl rfl) ?_
  refine rC (Calm.extract rfl rfl) ?_
  refine k_s rfl (k_e rfl ?_)
  refine k_u [(0,_),(1,_),(2,_),(3,_),(4,_),(8,_),(29,_),(9,_),(10,_),(11,_),(12,_),(13,_),(14,_),(15,_),(16,_),(17,_),(18,_),(19,_),(20,_)] ?_
  refine k_a ?_
  refine rC (ldA_ (cs:=[_,_,_,_,_,_,_,_]) ty_agg_48 ty_size_48 rfl) ?_
  refine k_m rfl ?_
  refine ARun.call (lit_lt rfl) go_43 rfl (((rfd_Locate x what _ S1 hx1 fx h64 hw).frame f4a)) ?_
  rintro _ _ ⟨S2,⟨vb,rfl,hS2,hvb⟩,f4b,rfl⟩
  have hx2:=hx1.less hS2
  replace hva:=hva.less hS2
  obtain ⟨a2,k2,rfl,_⟩:=id hvb
  refine k_m rfl ?_
  refine rC (Calm.extract rfl rfl) ?_
  refine rC (Calm.extract rfl rfl) ?_
  refine k_s rfl (k_e rfl ?_)
  refine k_u [(0,_),(1,_),(2,_),(3,_),(4,_),(8,_),(29,_),(9,_),(10,_),(11,_),(12,_),(13,_),(14,_),(15,_),(16,_),(17,_),(18,_),(19,_),(20,_),(21,_),(22,_)] ?_
  refine k_a ?_
  refine rC (ldA_ (cs:=[_,_,_,_,_,_,_,_]) ty_agg_48 ty_size_48 rfl) ?_
  refine k_m rfl (k_m rfl ?_)
  refine ARun.call (lit_lt rfl) go_44 rfl (fd_Extract x aa nn _ _ (hx2.less less_) ha64 hn64) ?_
  rintro _ S9 ⟨rfl,e9⟩
  rw [e9];clear e9 S9
  refine k_m rfl ?_
  refine rC (Calm.extract rfl rfl) ?_
  refine rC (Calm.extract rfl rfl) ?_
  refine k_s rfl (k_e rfl ?_)
  refine k_u [(0,_),(1,_),(2,_),(3,_),(4,_),(8,_),(29,_),(9,_),(10,_),(11,_),(12,_),(13,_),(14,_),(15,_),(16,_),(17,_),(18,_),(19,_),(20,_),(21,_),(22,_),(23,_),(24,_)] ?_
  refine k_a ?_
  refine rC (ldA_ (cs:=[_,_,_,_,_,_,_,_]) ty_agg_48 ty_size_48 rfl) ?_
  refine k_m rfl (k_m rfl ?_)
  refine ARun.call (lit_lt rfl) go_45 rfl (rfd_Extract x aa nn _ _ (hx2.less less_) fx h64 ha64 hn64) ?_
  rintro _ S9 ⟨rfl,e9⟩
  rw [e9];clear e9 S9
  refine k_m rfl ?_
  refine rC (Calm.extract rfl rfl) ?_
  refine rC (Calm.extract rfl rfl) ?_
  refine k_s rfl (k_e rfl ?_)
  refine k_u [(0,_),(1,_),(2,_),(3,_),(4,_),(8,_),(29,_),(9,_),(10,_),(11,_),(12,_),(13,_),(14,_),(15,_),(16,_),(17,_),(18,_),(19,_),(20,_),(21,_),(22,_),(23,_),(24,_),(25,_),(26,_)] ?_
  refine k_a ?_
  refine ARun.call (lit_lt rfl) go_32 rfl (fd_lives _) ?_
  rintro _ S9 ⟨rfl,e9⟩
  rw [e9];clear e9 S9
  refine k_m rfl ?_
  first|refine k_q 84 ?_|refine rG 84 (Calm.move rfl) ?_
  first|refine k_q 84 ?_|refine rG 84 (Calm.move rfl) ?_
  first|refine k_q 84 ?_|refine rG 84 (Calm.bin rfl rfl (bin_bool (bin_eql _ _) (decide_eq_true rfl))) ?_
  first|refine k_t rfl rfl ?_|refine k_f rfl rfl ?_
  refine k_m rfl ?_
  first|refine k_q 89 ?_|refine rG 89 (Calm.move rfl) ?_
  first|refine k_q 89 ?_|refine rG 89 (Calm.move rfl) ?_
  first|refine k_q 89 ?_|refine rG 89 (Calm.bin rfl rfl (bin_bool (bin_eql _ _) (decide_eq_true rfl))) ?_
  first|refine k_t rfl rfl ?_|refine k_f rfl rfl ?_
  refine k_m rfl ?_
  first|refine k_q 94 ?_|refine rG 94 (Calm.move rfl) ?_
  first|refine k_q 94 ?_|refine rG 94 (Calm.move rfl) ?_
  first|refine k_q 94 ?_|refine rG 94 (Calm.bin rfl rfl (bin_bool (bin_eql _ _) (decide_eq_true rfl))) ?_
  first|refine k_t rfl rfl ?_|refine k_f rfl rfl ?_
  refine k_m rfl ?_
  first|refine k_q 99 ?_|refine rG 99 (Calm.move rfl) ?_
  first|refine k_q 99 ?_|refine rG 99 (Calm.move rfl) ?_
  first|refine k_q 99 ?_|refine rG 99 (Calm.bin rfl rfl (bin_bool (bin_eql _ _) (decide_eq_true rfl))) ?_
  first|refine k_t rfl rfl ?_|refine k_f rfl rfl ?_
  refine k_m rfl ?_
  first|refine k_q 104 ?_|refine rG 104 (Calm.move rfl) ?_
  first|refine k_q 104 ?_|refine rG 104 (Calm.move rfl) ?_
  first|refine k_q 104 ?_|refine rG 104 (Calm.bin rfl rfl (bin_bool (bin_eql _ _) (decide_eq_true rfl))) ?_
  first|refine k_t rfl rfl ?_|refine k_f rfl rfl ?_
  refine k_m rfl ?_
  first|refine k_q 109 ?_|refine rG 109 (Calm.move rfl) ?_
  first|refine k_q 109 ?_|refine rG 109 (Calm.move rfl) ?_
  refine ARun.callG 26 true 109 rfl (lit_lt rfl) rfl (lit_lt rfl) go_21 rfl (si_SameNumbers (castL (locP x what).1) (castL (locP x what).1) _ _ _ (hva.less less_) (hvb.less less_)) ?_
  rintro _ S9 ⟨rfl,e9⟩
  rw [e9,decide_eq_true (Eq.refl _)];clear e9 S9
  first|refine k_t rfl rfl ?_|refine k_f rfl rfl ?_
  refine k_m rfl ?_
  first|refine k_q 114 ?_|refine rG 114 (Calm.move rfl) ?_
  first|refine k_q 114 ?_|refine rG 114 (Calm.move rfl) ?_
  first|refine k_q 114 ?_|refine rG 114 (Calm.bin rfl rfl (bin_bool (bin_eql _ _) (decide_eq_true rfl))) ?_
  first|refine k_t rfl rfl ?_|refine k_f rfl rfl ?_
  refine k_m rfl ?_
  first|refine k_q 119 ?_|refine rG 119 (Calm.move rfl) ?_
  first|refine k_q 119 ?_|refine rG 119 (Calm.move rfl) ?_
  first|refine k_q 119 ?_|refine rG 119 (Calm.bin rfl rfl (bin_bool (bin_str_eql _ _) (decide_eq_true rfl))) ?_
  first|refine k_t rfl rfl ?_|refine k_f rfl rfl ?_
  refine k_m rfl ?_
  first|refine k_q 124 ?_|refine rG 124 (Calm.move rfl) ?_
  first|refine k_q 124 ?_|refine rG 124 (Calm.move rfl) ?_
  first|refine k_q 124 ?_|refine rG 124 (Calm.bin rfl rfl (bin_bool (bin_eql _ _) (decide_eq_true rfl))) ?_
  first|refine k_t rfl rfl ?_|refine k_f rfl rfl ?_
  refine k_e rfl ?_
  refine k_u [(0,_),(1,_),(2,_),(3,_),(4,_),(8,_),(29,_),(9,_),(10,_),(11,_),(12,_),(13,_),(14,_),(15,_),(16,_),(17,_),(18,_),(19,_),(20,_),(21,_),(22,_),(23,_),(24,_),(25,_),(26,_)] ?_
  refine AWP.ret ?_
  refine ⟨_,_,⟨_,_,rfl,rfl,rfl⟩,less_,?_⟩
  rfl
theorem walk_FindMakes (s : ByteArray) (a : Int) (cs : List Value) (y : Ix) (W : World) (w0 : s.size ≤ maxLen) (ws : s.size < 140737488355328) (w1 : (Lit.int .i64 a).wf = true) (w2 : IndexV (roM W) cs y) :
  Calls Try.prog 6 #[.string s,.int .i64 a,.agg cs.toArray] W fun e w'=>e = .returned (.bool true)∧Below W.heap.size W w' :=
 ACall.callsW (law_FindMakes s a cs y _ (by omega) w2)
theorem walk_FindAsks (cs : List Value) (y : Ix) (s : ByteArray) (a b : Int) (W : World) (w0 : IndexV (roM W) cs y) (w1 : s.size ≤ maxLen) (ws : s.size < 140737488355328) (w2 : (Lit.int .i64 a).wf = true) (w3 : (Lit.int .i64 b).wf = true) :
  Calls Try.prog 7 #[.agg cs.toArray,.string s,.int .i64 a,.int .i64 b] W fun e w'=>e = .returned (.bool true)∧Below W.heap.size W w' :=
 ACall.callsW (law_FindAsks cs y s a b _ w0 (by omega) (by have:=wf64 w2;omega) (by have:=wf64 w3;omega))
end Go.Proofs.Ytgidjbpgkeemiaa
