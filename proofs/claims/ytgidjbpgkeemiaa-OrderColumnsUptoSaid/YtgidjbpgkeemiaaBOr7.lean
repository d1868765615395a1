/-
  Texts that belong together: Od8, Od6, Od9, OdL0, OdL1.
-/
import Derived.Test.YtgidjbpgkeemiaaBOr6
set_option linter.unusedVariables false
set_option linter.unusedSimpArgs false
set_option linter.unusedSectionVars false
namespace Go.Proofs.Ytgidjbpgkeemiaa
open Go.RowKit
open Mv Num Loser Srt
set_option maxRecDepth 4000
/-! ### How often -/
def ceq (c : List Nat) (x : Nat) : Nat := c.countP (fun y => decide (y = x))
def clt (c : List Nat) (x : Nat) : Nat := c.countP (fun y => decide (y < x))
theorem clt_succ (c : List Nat) (x : Nat) : clt c (x + 1) = clt c x + ceq c x := by
 unfold clt ceq
 induction c with
 | nil=>rfl
 | cons y c ih =>
  rw [List.countP_cons,List.countP_cons,List.countP_cons,ih]
  by_cases h1:y<x
  ·rw [if_pos (by simp;omega),if_pos (by simpa using h1),if_neg (by simp;omega)];omega
  ·by_cases h2:y=x
   ·rw [if_pos (by simp;omega),if_neg (by simpa using h1),if_pos (by simpa using h2)];omega
   ·rw [if_neg (by simp;omega),if_neg (by simpa using h1),if_neg (by simpa using h2)];omega
theorem clt_zero (c : List Nat) : clt c 0 = 0 := List.countP_eq_zero.2 fun y _ => by simp
theorem clt_le (c : List Nat) (x : Nat) : clt c x ≤ c.length := List.countP_le_length
theorem ceq_le (c : List Nat) (x : Nat) : ceq c x ≤ c.length := List.countP_le_length
theorem ceq_take (c : List Nat) (i x : Nat) (hi : i < c.length) : ceq (c.take (i + 1)) x = if x = c[i] then ceq (c.take i) x + 1 else ceq (c.take i) x := by
 unfold ceq
 rw [List.take_succ_eq_append_getElem hi,List.countP_append,List.countP_singleton]
 by_cases h:x=c[i]
 ·rw [if_pos h,if_pos (by simpa using h.symm)]
 ·rw [if_neg h,if_neg (by simp;omega),Nat.add_zero]
theorem countP_below (p : Nat → Bool) (i : Nat) : ∀ n, i ≤ n → (List.range n).countP (fun j => p j && decide (j < i)) = (List.range i).countP p
 | 0,h=>by
  obtain rfl:i=0:=by omega
  rfl
 | n+1,h=>by
  rcases Nat.lt_or_ge n i with h' | h'
  ·obtain rfl:i=n+1:=by omega
   refine List.countP_congr fun j hj=>?_
   have:=List.mem_range.1 hj
   simp [this]
  ·rw [List.range_succ,List.countP_append,countP_below p i n h',List.countP_singleton]
   rw [if_neg (by simp;omega)];rfl
theorem countP_list (c : List Nat) (q : Nat → Bool) (i : Nat) (hi : i ≤ c.length) : (List.range i).countP (fun j => q (c.getD j 0)) = (c.take i).countP q := by
 have e:c.take i=(List.range i).map (fun j=>c.getD j 0):=by
  refine List.ext_getElem (by simp;omega) fun j h1 h2=>?_
  rw [List.getElem_take,List.getElem_map,List.getElem_range,getD_get]
 rw [e,List.countP_map];rfl
theorem countP_or (p q : Nat → Bool) (h : ∀ j, p j = true → q j = false) : ∀ l : List Nat, l.countP (fun j => p j || q j) = l.countP p + l.countP q
 | []=>rfl
 | j :: l=>by
  rw [List.countP_cons,List.countP_cons,List.countP_cons,countP_or p q h l]
  have:=h j
  cases hp:p j <;> cases hq:q j <;> simp_all <;> omega
theorem toR_eq (c : List Nat) (i : Nat) (hi : i < c.length) : Ord.toR c i = 1 + (clt c (c.getD i 0) + ceq (c.take i) (c.getD i 0)) := by
 unfold Ord.toR Ord.ltC
 rw [countP_or _ _ (fun j h=>by simp only [decide_eq_true_eq,Bool.and_eq_false_iff,decide_eq_false_iff_not] at *;omega)]
 rw [countP_below (fun j=>decide (c.getD j 0=c.getD i 0)) i c.length (by omega),countP_list c (fun y=>decide (y<c.getD i 0)) c.length (Nat.le_refl _),countP_list c (fun y=>decide (y=c.getD i 0)) i (by omega),List.take_length]
 rfl
/-! ### A table of 257 -/
def tab (f : Nat → Nat) : List Nat := (List.range 257).map f
theorem tab_length (f : Nat → Nat) : (tab f).length = 257 := by simp [tab]
theorem tab_get (f : Nat → Nat) (v : Nat) (h : v < (tab f).length) : (tab f)[v] = f v := by simp [tab]
theorem tab_val (f : Nat → Nat) (v : Nat) (h : v < (tab f).length) : gI ((tab f)[v]) = .int .i64 (f v : Int) := by rw [tab_get]; rfl
theorem tab_set (f g : Nat → Nat) (v x : Nat) (h : ∀ u, u < 257 → g u = if u = v then x else f u) : ((tab f).map gI).set v (gI x) = (tab g).map gI := by
 rw [← List.map_set]
 congr 1
 refine List.ext_getElem (by simp [tab]) fun u h1 h2=>?_
 have hu:u<257:=by simpa [tab] using h2
 rw [tab_get,h u hu,List.getElem_set]
 by_cases e:v=u
 ·rw [if_pos e,if_pos e.symm]
 ·rw [if_neg e,if_neg (fun h=>e h.symm),tab_get]
theorem tab_zero : (tab fun _ => 0).map gI = List.replicate 257 (gI 0) := by
 unfold tab;rw [List.map_map]
 refine List.ext_getElem (by simp) fun u h1 h2=>?_
 rw [List.getElem_map,List.getElem_replicate];rfl
def tf1 (c : List Nat) (i u : Nat) : Nat := if u = 0 then 0 else ceq (c.take i) (u - 1)
def tf2 (c : List Nat) (i u : Nat) : Nat := if u < i then clt c u else tf1 c c.length u
def tf3 (c : List Nat) (i u : Nat) : Nat := clt c u + ceq (c.take i) u
theorem f1_le (c : List Nat) (i u : Nat) : tf1 c i u ≤ c.length := by
 unfold tf1;split
 ·omega
 ·have:=ceq_le (c.take i) (u-1);rw [List.length_take] at this;omega
theorem f2_le (c : List Nat) (i u : Nat) : tf2 c i u ≤ c.length := by
 unfold tf2;split
 ·exact clt_le _ _
 ·exact f1_le _ _ _
theorem f3_le (c : List Nat) (i u : Nat) : tf3 c i u ≤ 2 * c.length := by
 unfold tf3
 have h1:=clt_le c u
 have h2:=ceq_le (c.take i) u
 rw [List.length_take] at h2
 omega
theorem f1_start (c : List Nat) : tf1 c 0 = fun _ => 0 := by
 funext u;unfold tf1;split <;> rfl
theorem f1_step (c : List Nat) (i : Nat) (hi : i < c.length) (u : Nat) : tf1 c (i + 1) u = if u = c[i] + 1 then tf1 c i (c[i] + 1) + 1 else tf1 c i u := by
 unfold tf1
 by_cases h0:u=0
 ·subst h0;rw [if_pos rfl,if_neg (by omega),if_pos rfl]
 ·rw [if_neg h0,if_neg h0,ceq_take c i _ hi]
  by_cases h1:u=c[i]+1
  ·rw [if_pos (by omega),if_pos h1,if_neg (by omega),h1]
  ·rw [if_neg (by omega),if_neg h1]
theorem f2_start (c : List Nat) (u : Nat) : tf2 c 1 u = tf1 c c.length u := by
 unfold tf2
 by_cases h:u=0
 ·subst h;rw [if_pos (by omega),clt_zero];rfl
 ·rw [if_neg (by omega)]
theorem f2_step (c : List Nat) (i : Nat) (u : Nat) : tf2 c (i + 1 + 1) u = if u = i + 1 then tf2 c (i + 1) (i + 1) + tf2 c (i + 1) i else tf2 c (i + 1) u := by
 unfold tf2
 by_cases h:u=i+1
 ·subst h
  rw [if_pos (by omega),if_pos rfl,if_neg (by omega),if_pos (by omega),clt_succ]
  unfold tf1
  rw [if_neg (by omega),List.take_length,Nat.add_sub_cancel];omega
 ·rw [if_neg h]
  by_cases h2:u<i+1
  ·rw [if_pos (by omega),if_pos h2]
  ·rw [if_neg (by omega),if_neg h2]
theorem f3_start (c : List Nat) (u : Nat) (hu : u < 257) : tf3 c 0 u = tf2 c 257 u := by
 unfold tf3 tf2;rw [if_pos hu];rfl
theorem f3_step (c : List Nat) (i : Nat) (hi : i < c.length) (u : Nat) : tf3 c (i + 1) u = if u = c[i] then tf3 c i c[i] + 1 else tf3 c i u := by
 unfold tf3
 rw [ceq_take c i u hi]
 by_cases h:u=c[i]
 ·rw [if_pos h,if_pos h,h];omega
 ·rw [if_neg h,if_neg h]
theorem tab_congr {f g : Nat → Nat} (h : ∀ u, u < 257 → f u = g u) : tab f = tab g := List.map_congr_left fun u hu => h u (List.mem_range.1 hu)
theorem nums_at (s : ByteArray) (i : Nat) (h : i < (numsT s).length) : (numsT s)[i] = byT s i := by simp [numsT]
theorem byT_lt (s : ByteArray) (i : Nat) : byT s i < 256 := by
 unfold byT
 have h1:=nb_le (at8 s.data.toList i)
 have h2:=nb_nonneg (at8 s.data.toList i)
 omega
theorem byT_getD (s : ByteArray) (i : Nat) : (numsT s).getD i 0 = byT s i := by rw [nums_getD]; unfold byT nb; rw [Int.toNat_natCast]
theorem byT_val (s : ByteArray) (i : Nat) : Value.int .u8 (nb (at8 s.data.toList i)) = .int .u8 (byT s i : Int) := by rw [byT_nb]
theorem zero257 : zeroT Try.prog 150 = some (List.replicate 257 (.int .i64 0)) := by kernel_rfl
def toL (s : ByteArray) : List Nat := (List.range s.size).map (Ord.toR (numsT s))
set_option maxHeartbeats 2000000 in
theorem od_rows (s : ByteArray) (S : Mem) (hs : s.size ≤ 4096) :
  ACall Try.prog 97 #[.string s] S (RdL gI (toL s) S):=by
 obtain ⟨c,hc⟩ : ∃ c,c=numsT s:=⟨_,rfl⟩
 have hcl:c.length=s.size:=by rw [hc];exact numsT_length s
 have hci:∀ i (h:i<c.length),c[i]=byT s i:=fun i h=>by subst hc;exact nums_at s i h
 refine ACall.enter (rs:=[.tmp 2]) 62 [(0,.string s)] Try.func97 rfl rfl (Nat.le_of_ble_eq_true rfl) rfl ⟨rfl,trivial⟩ ?_
 refine k_a (k_e rfl (k_a ?_))
 refine ARun.alloc (lit_lt rfl) zero257 ?_
 intro b3 f3
 have g3:=f3
 repeat ((with_reducible replace g3:=fresh_set g3);obtain ⟨g3,_⟩:=g3)
 refine k_n ?_
 rw [List.length_replicate]
 refine AWP.less (S.set b3 ⟨150,(tab (tf1 c 0)).map gI,257⟩) (by rw [f1_start,tab_zero];exact Mem.Less.refl _) ?_
 refine AWP.seq (k_a (k_m rfl ?_))
 refine rC (Calm.lenStr (strT_spec ty_str_9) rfl) ?_
 refine k_m rfl (k_n ?_)
 refine k_u [(0,_),(2,_),(3,_),(10,_),(11,_)] ?_
 refine AWP.block ?_
 refine AWP.loop (X:=Nat) (fun i=>[(0,.string s),(3,.pointer (some ⟨b3,0,none⟩)),(10,.int .i64 s.size),(11,.int .i64 i)]) (fun i=>S.set b3 ⟨150,(tab (tf1 c i)).map gI,257⟩) (fun i=>i≤s.size) (fun i=>s.size-i) (0) ⟨rfl,rfl,rfl,rfl,trivial⟩ (Mem.Less.refl _) (Nat.zero_le _) ?_
 rintro i hi
 (try dsimp only at *)
 have ho3:(S.set b3 ⟨150,(tab (tf1 c i)).map gI,257⟩).own b3=some ⟨150,(tab (tf1 c i)).map gI,257⟩:=Mem.own_set_same _ _ _
 by_cases hc1:i<s.size
 ·refine k_a ?_
  refine rC (Calm.bin rfl rfl b_lss) ?_
  refine k_n (AWP.seq ?_)
  refine k_T rfl ?_
  obtain ⟨x,hx⟩ : ∃ x,x=byT s i:=⟨_,rfl⟩
  have hx256:x<256:=by rw [hx];exact byT_lt s i
  have hfl:=f1_le c i (x+1)
  have htl:=tab_length (tf1 c i)
  have hst:=fun u=>f1_step c i (by omega) u
  rw [hci i (by omega),← hx] at hst
  refine k_k (AWP.seq ?_)
  refine AWP.block ?_
  refine k_a (k_m rfl (k_e rfl ?_))
  refine k_u [(0,_),(3,_),(10,_),(11,_),(12,_),(4,_)] ?_
  refine AWP.region ?_
  refine k_m rfl (k_m rfl ?_)
  refine rC (Calm.as ((byT_val s i).trans (by rw [← hx])) (Calm.indexStrN (strT_spec ty_str_9) rfl rfl hc1)) ?_
  refine rC (Calm.conv rfl (by first | exact conv_intW Try.underlying5 Try.underlying3 (IntWalk.i64_in _ (by omega)) | exact conv_intW Try.underlying5 Try.underlying3 (wrap_nb_i64 _) | exact conv_int Try.underlying5 Try.underlying3)) ?_
  refine rC (Calm.bin rfl rfl b_add_i64) ?_
  refine rC (Calm.indexP Try.underlying150 ty_size_3 rfl rfl (by omega) (by omega)) ?_
  refine rC (Calm.as (tab_val (tf1 c i) (x+1) (by omega)) (Calm.load ty_plain_3 rfl (rd_list (g:=gI) (x+1) (by omega) ho3 (by omega)))) ?_
  refine rC (Calm.bin rfl rfl b_add_i64) ?_
  refine rC (Calm.indexP Try.underlying150 ty_size_3 rfl rfl (by omega) (by omega)) ?_
  refine ARun.store1 rfl rfl ty_size_3 rfl own_ (by rw [List.length_map];omega) rfl ?_
  try simp only [k_ms,k_sz,k_ss,k_za,Nat.reduceAdd]
  refine arun_nil ?_
  refine ain_n ?_
  refine athen_n ?_
  refine k_u [(0,_),(3,_),(10,_),(11,_),(12,_),(4,_)] ?_
  simp only [Nat.zero_add,Nat.mul_one]
  refine AWP.region ?_
  refine rC (Calm.bin rfl rfl b_add_i64) ?_
  refine k_m rfl (k_n ?_)
  refine ⟨i+1,?_,?_,?_,?_⟩
  all_goals (try dsimp only)
  ·exact ⟨sq_,sq_,sq_,sq_,trivial⟩
  ·rw [← tab_set (tf1 c i) (tf1 c (i+1)) (x+1) (tf1 c i (x+1)+1) (fun u _=>hst u)];exact Mem.Less.refl _
  ·exact hc1
  ·omega
 ·obtain rfl:i=s.size:=by omega
  refine k_a ?_
  refine rC (Calm.bin rfl rfl b_lss) ?_
  refine k_n (AWP.seq ?_)
  refine k_F rfl ?_
  refine AWP.exit ?_
  refine athen_exit ?_
  refine athen_exit ?_
  refine ain_same ?_
  refine athen_n ?_
  refine AWP.seq (k_a (k_e rfl ?_))
  refine AWP.less (S.set b3 ⟨150,(tab (tf2 c 1)).map gI,257⟩) (by rw [tab_congr (fun u _=>f2_start c u),hcl];exact Mem.Less.refl _) ?_
  refine AWP.block ?_
  refine AWP.loop (X:=Nat) (fun i=>[(0,.string s),(3,.pointer (some ⟨b3,0,none⟩)),(5,.int .i64 i)]) (fun i=>S.set b3 ⟨150,(tab (tf2 c i)).map gI,257⟩) (fun i=>1≤i∧i≤257) (fun i=>257-i) (1) ⟨rfl,rfl,rfl,trivial⟩ (Mem.Less.refl _) (⟨Nat.le_refl _,by decide⟩) ?_
  rintro i ⟨hi1,hi2⟩
  (try dsimp only at *)
  by_cases hc2:i<257
  ·refine AWP.seq (k_a (k_m rfl ?_))
   refine rC (Calm.bin rfl rfl b_lss) ?_
   refine k_n ?_
   refine k_u [(0,_),(3,_),(5,_),(25,_)] ?_
   refine k_T rfl ?_
   obtain ⟨j,rfl⟩ : ∃ j,i=j+1:=⟨i-1,by omega⟩
   have ho3:(S.set b3 ⟨150,(tab (tf2 c (j+1))).map gI,257⟩).own b3=some ⟨150,(tab (tf2 c (j+1))).map gI,257⟩:=Mem.own_set_same _ _ _
   have hf1:=f2_le c (j+1) (j+1)
   have hf2:=f2_le c (j+1) j
   have htl:=tab_length (tf2 c (j+1))
   refine k_k (AWP.seq ?_)
   refine AWP.block ?_
   refine AWP.draw [(0,true),(1,true),(2,true),(3,true),(4,true),(5,true),(6,true),(7,true),(8,true),(9,false)] [9] mixed (by kernel_rfl) ?_
   refine dP (hc:=fun _=>Calm.move rfl) (h:=?_)
   refine dP (hc:=fun _=>Calm.indexP Try.underlying150 ty_size_3 rfl rfl (by omega) (by omega)) (h:=?_)
   refine dC (hc:=Calm.as (tab_val (tf2 c (j+1)) (j+1) (by omega)) (Calm.load ty_plain_3 rfl (rd_list (g:=gI) (j+1) (by omega) ho3 (by omega)))) (h:=?_)
   refine dP (hc:=fun _=>Calm.move rfl) (h:=?_)
   refine dP (hc:=fun _=>Calm.bin rfl rfl b_sub_i64) (h:=?_)
   refine dP (hc:=fun _=>Calm.indexP Try.underlying150 ty_size_3 rfl rfl (by omega) (by omega)) (h:=?_)
   refine dC (hc:=Calm.as (tab_val (tf2 c (j+1)) j (by omega)) (Calm.load ty_plain_3 rfl (rd_list (g:=gI) j (by omega) ho3 (by omega)))) (h:=?_)
   refine dP (hc:=fun _=>Calm.bin rfl rfl b_add_i64) (h:=?_)
   refine dP (hc:=fun _=>Calm.indexP Try.underlying150 ty_size_3 rfl rfl (by omega) (by omega)) (h:=?_)
   refine draw_only rfl ?_
   refine ARun.store1 rfl rfl ty_size_3 rfl own_ (by rw [List.length_map];omega) rfl ?_
   try simp only [k_ms,k_sz,k_ss,k_za,Nat.reduceAdd]
   refine arun_nil ⟨fun h=>absurd h (by decide),?_⟩
   refine draw_nil ?_
   refine ain_n ?_
   refine athen_n ?_
   refine k_u [(0,_),(3,_),(5,_),(25,_)] ?_
   simp only [Nat.zero_add,Nat.mul_one]
   refine AWP.region ?_
   refine k_m rfl ?_
   refine rC (Calm.bin rfl rfl b_add_i64) ?_
   refine k_e rfl ?_
   refine ⟨j+1+1,?_,?_,?_,?_⟩
   all_goals (try dsimp only)
   ·exact ⟨sq_,sq_,sq_,trivial⟩
   ·rw [← tab_set (tf2 c (j+1)) (tf2 c (j+1+1)) (j+1) (tf2 c (j+1) (j+1)+tf2 c (j+1) j) (fun u _=>f2_step c j u)];exact Mem.Less.refl _
   ·exact ⟨by omega,by omega⟩
   ·omega
  ·obtain rfl:i=257:=by omega
   refine AWP.seq (k_a (k_m rfl ?_))
   refine rC (Calm.bin rfl rfl b_lss) ?_
   refine k_n ?_
   refine k_u [(0,_),(3,_),(5,_),(25,_)] ?_
   refine k_F rfl ?_
   rw [← tab_congr (fun u hu=>f3_start c u hu)]
   refine AWP.exit ?_
   refine athen_exit ?_
   refine athen_exit ?_
   refine ain_same ?_
   refine athen_n ?_
   refine k_a (k_m rfl ?_)
   refine rC (Calm.lenStr (strT_spec ty_str_9) rfl) ?_
   refine ARun.makeSlice (lit_lt rfl) ty_sl_24 rfl rfl (by omega) (by omega) (by omega) (by omega) ?_
   intro b39 f39
   have g39:=f39
   repeat ((with_reducible replace g39:=fresh_set g39);obtain ⟨g39,_⟩:=g39)
   refine k_e rfl ?_
   refine k_u [(0,_),(3,_),(5,_),(25,_),(6,_)] ?_
   rw [show madeL [Value.int .i64 0] (((s.size:Nat):Int).toNat*1)=((List.range 0).map (Ord.toR c)).map gI ++ List.replicate (s.size-0) (gI 0) by rw [madeL_one,Nat.mul_one];rfl,Nat.mul_one,Int.toNat_natCast]
   refine AWP.seq (k_a (k_m rfl ?_))
   refine rC (Calm.lenStr (strT_spec ty_str_9) rfl) ?_
   refine k_m rfl (k_n ?_)
   refine k_u [(0,_),(3,_),(5,_),(25,_),(6,_),(41,_),(42,_)] ?_
   refine AWP.block ?_
   refine AWP.loop (X:=Nat) (fun i=>[(0,.string s),(3,.pointer (some ⟨b3,0,none⟩)),(6,.slice (some ⟨b39,0,none⟩) s.size s.size),(41,.int .i64 s.size),(42,.int .i64 i)]) (fun i=>(S.set b3 ⟨150,(tab (tf3 c i)).map gI,257⟩).set b39 ⟨3,((List.range i).map (Ord.toR c)).map gI ++ List.replicate (s.size-i) (gI 0),s.size⟩) (fun i=>i≤s.size) (fun i=>s.size-i) (0) ⟨rfl,rfl,rfl,rfl,rfl,trivial⟩ (Mem.Less.refl _) (Nat.zero_le _) ?_
   rintro i hi
   (try dsimp only at *)
   by_cases hc3:i<s.size
   ·refine k_a ?_
    refine rC (Calm.bin rfl rfl b_lss) ?_
    refine k_n (AWP.seq ?_)
    refine k_T rfl ?_
    have ho3:((S.set b3 ⟨150,(tab (tf3 c i)).map gI,257⟩).set b39 ⟨3,((List.range i).map (Ord.toR c)).map gI ++ List.replicate (s.size-i) (gI 0),s.size⟩).own b3=some ⟨150,(tab (tf3 c i)).map gI,257⟩:=own_
    obtain ⟨x,hx⟩ : ∃ x,x=byT s i:=⟨_,rfl⟩
    have hx256:x<256:=by rw [hx];exact byT_lt s i
    have hfl:=f3_le c i x
    have htl:=tab_length (tf3 c i)
    have hst:=fun u=>f3_step c i (by omega) u
    rw [hci i (by omega),← hx] at hst
    have hlr:(((List.range i).map (Ord.toR c)).map gI ++ List.replicate (s.size-i) (gI 0)).length=s.size:=by simp;omega
    have hto:Ord.toR c i=1+tf3 c i x:=by rw [toR_eq c i (by omega),getD_get c i 0 (by omega),hci i (by omega),← hx];rfl
    refine k_k (AWP.seq ?_)
    refine AWP.block ?_
    refine k_a (k_m rfl (k_e rfl ?_))
    refine k_u [(0,_),(3,_),(6,_),(41,_),(42,_),(43,_),(7,_)] ?_
    refine k_a (k_m rfl (k_m rfl ?_))
    refine rC (Calm.as ((byT_val s i).trans (by rw [← hx])) (Calm.indexStrN (strT_spec ty_str_9) rfl rfl hc3)) ?_
    refine k_e rfl ?_
    refine k_u [(0,_),(3,_),(6,_),(41,_),(42,_),(43,_),(7,_),(8,_)] ?_
    refine k_a (k_m rfl (k_m rfl (k_m rfl ?_)))
    refine rC (Calm.indexP Try.underlying150 ty_size_3 rfl rfl (by omega) (by omega)) ?_
    refine rC (Calm.as (tab_val (tf3 c i) x (by omega)) (Calm.load ty_plain_3 rfl (rd_list (g:=gI) x (by omega) ho3 (by omega)))) ?_
    refine rC (Calm.bin rfl rfl b_add_i64) ?_
    refine rC (Calm.indexS Try.underlying24 ty_size_3 rfl rfl (by omega) (by omega)) ?_
    refine ARun.store1 rfl rfl ty_size_3 rfl own_ (by show 0+(i:Int).toNat*1<(((List.range i).map (Ord.toR c)).map gI ++ List.replicate (s.size-i) (gI 0)).length;omega) rfl ?_
    try simp only [k_ms,k_sz,k_ss,k_za,Nat.reduceAdd]
    refine k_n ?_
    refine k_u [(0,_),(3,_),(6,_),(41,_),(42,_),(43,_),(7,_),(8,_)] ?_
    simp only [Nat.zero_add,Nat.mul_one,Int.toNat_natCast]
    have key:(((List.range i).map (Ord.toR c)).map gI ++ List.replicate (s.size-i) (gI 0)).set i (gI (Ord.toR c i))=((List.range (i+1)).map (Ord.toR c)).map gI ++ List.replicate (s.size-(i+1)) (gI 0):=by rw [fill_map gI ((List.range i).map (Ord.toR c)) 0 s.size i (Ord.toR c i) (by simp) hc3];simp only [List.range_succ,List.map_append,List.append_assoc];rfl
    refine AWP.less ((S.set b3 ⟨150,(tab (tf3 c i)).map gI,257⟩).set b39 ⟨3,((List.range (i+1)).map (Ord.toR c)).map gI ++ List.replicate (s.size-(i+1)) (gI 0),s.size⟩) (by rw [← key,hto];exact Mem.Less.refl _) ?_
    have ho4:((S.set b3 ⟨150,(tab (tf3 c i)).map gI,257⟩).set b39 ⟨3,((List.range (i+1)).map (Ord.toR c)).map gI ++ List.replicate (s.size-(i+1)) (gI 0),s.size⟩).own b3=some ⟨150,(tab (tf3 c i)).map gI,257⟩:=own_
    refine AWP.region ?_
    refine k_m rfl ?_
    refine rC (Calm.indexP Try.underlying150 ty_size_3 rfl rfl (by omega) (by omega)) ?_
    refine rC (Calm.as (tab_val (tf3 c i) x (by omega)) (Calm.load ty_plain_3 rfl (rd_list (g:=gI) x (by omega) ho4 (by omega)))) ?_
    refine rC (Calm.bin rfl rfl b_add_i64) ?_
    refine rC (Calm.indexP Try.underlying150 ty_size_3 rfl rfl (by omega) (by omega)) ?_
    refine ARun.store1 rfl rfl ty_size_3 rfl own_ (by rw [List.length_map];omega) rfl ?_
    try simp only [k_ms,k_sz,k_ss,k_za,Nat.reduceAdd]
    refine arun_nil ?_
    refine ain_n ?_
    refine athen_n ?_
    refine k_u [(0,_),(3,_),(6,_),(41,_),(42,_),(43,_),(7,_),(8,_)] ?_
    simp only [Nat.zero_add,Nat.mul_one,Int.toNat_natCast]
    refine AWP.region ?_
    refine rC (Calm.bin rfl rfl b_add_i64) ?_
    refine k_m rfl (k_n ?_)
    refine ⟨i+1,?_,?_,?_,?_⟩
    all_goals (try dsimp only)
    ·exact ⟨sq_,sq_,sq_,sq_,sq_,trivial⟩
    ·rw [← tab_set (tf3 c i) (tf3 c (i+1)) x (tf3 c i x+1) (fun u _=>hst u),Mem.set_comm (S.set b3 _) _ _ ne_,Mem.set_set];exact Mem.Less.refl _
    ·exact hc3
    ·omega
   ·obtain rfl:i=s.size:=by omega
    refine k_a ?_
    refine rC (Calm.bin rfl rfl b_lss) ?_
    refine k_n (AWP.seq ?_)
    refine k_F rfl ?_
    rw [Nat.sub_self,List.replicate_zero,List.append_nil]
    refine AWP.exit ?_
    refine athen_exit ?_
    refine athen_exit ?_
    refine ain_same ?_
    refine athen_n ?_
    refine k_a (k_m rfl (k_e rfl ?_))
    refine k_u [(0,_),(3,_),(6,_),(41,_),(42,_),(43,_),(2,_)] ?_
    refine AWP.ret ?_
    refine ⟨_,_,⟨_,_,rfl,rfl,rfl⟩,Mem.Less.refl _,?_⟩
    exact ⟨less_,by rw [toL,← hc];exact Sl.own1 (g:=gI) (l:=(List.range s.size).map (Ord.toR c)) (Mem.own_set_same _ _ _) List.prefix_rfl (by simp) (Nat.le_refl _) (by omega)⟩
/-! ### The text -/
def ofN (l : List Nat) : List UInt8 := l.map UInt8.ofNat
theorem ofN_nums (l : List Nat) (h : ∀ x ∈ l, x < 256) : (ofN l).map UInt8.toNat = l := by
 unfold ofN;rw [List.map_map]
 refine (List.map_congr_left fun x hx=>?_).trans (List.map_id' l)
 have:=h x hx
 rw [Function.comp_apply,UInt8.toNat_ofNat'];omega
theorem ofN_cells (l : List Nat) (h : ∀ x ∈ l, x < 256) : l.map encB = cellsB (ofN l) := by
 unfold ofN cellsB;rw [List.map_map]
 refine List.map_congr_left fun x hx=>?_
 have:=h x hx
 rw [Function.comp_apply];unfold nb encB
 rw [UInt8.toNat_ofNat'];congr 1;omega
/-- A column's text: the text and the error. -/
def textP (s : ByteArray) (p : Int) : ByteArray × Nat :=
  if 4096 < s.size then (bs [], 1) else if s.size = 0 ∧ p = 0 then (bs [], 0) else if p < 1 ∨ (s.size : Int) < p then (bs [], 7) else
    match Ord.walkT (numsT s) p.toNat s.size 0 [] with
    | some l => (bs (ofN l), 0)
    | none => (bs [], 7)
def TextR (s : ByteArray) (p : Int) (S : Mem) (r : Value) (S' : Mem) : Prop := r = .tuple #[.string (textP s p).1, .int .i64 ((textP s p).2 : Nat)] ∧ S' = S
theorem walk_end (c : List Nat) (p r : Nat) (acc : List Nat) : Ord.walkT c p 0 r acc = if r = p then some acc else none := rfl
theorem walk_step (c : List Nat) (p k r : Nat) (acc : List Nat) (h : r ≠ p) : Ord.walkT c p (k + 1) r acc = Ord.walkT c p k (Ord.toR c (Ord.atR p r)) (c.getD (Ord.atR p r) 0 :: acc) := by rw [Ord.walkT, if_neg h]
theorem walk_no (c : List Nat) (p k r : Nat) (acc : List Nat) (h : r = p) : Ord.walkT c p (k + 1) r acc = none := by rw [Ord.walkT, if_pos h]
/-- What is written from the end on. -/
def tail8 (K : Nat) (acc : List Nat) : List Value := (List.replicate K 0 ++ acc).map encB
theorem tail8_length (K : Nat) (acc : List Nat) : (tail8 K acc).length = K + acc.length := by simp [tail8]
theorem tail8_set (K x : Nat) (acc : List Nat) : (tail8 (K + 1) acc).set K (encB x) = tail8 K (x :: acc) := by
 unfold tail8
 rw [← List.map_set];congr 1
 rw [List.replicate_succ',List.append_assoc,List.set_append_right _ _ (by simp)]
 simp
theorem at_lt {p r : Nat} (h : r < p) : Ord.atR p r = r := by unfold Ord.atR; rw [if_neg (by omega)]
theorem at_gt {p r : Nat} (h : p < r) : Ord.atR p r = r - 1 := by unfold Ord.atR; rw [if_pos h]
theorem textP_big {s : ByteArray} {p : Int} (h : 4096 < s.size) : textP s p = (bs [], 1) := by unfold textP; rw [if_pos h]
theorem textP_nil {s : ByteArray} {p : Int} (h : ¬4096 < s.size) (h1 : s.size = 0 ∧ p = 0) : textP s p = (bs [], 0) := by unfold textP; rw [if_neg h, if_pos h1]
theorem textP_out {s : ByteArray} {p : Int} (h : ¬4096 < s.size) (h1 : ¬(s.size = 0 ∧ p = 0)) (h2 : p < 1 ∨ (s.size : Int) < p) : textP s p = (bs [], 7) := by unfold textP; rw [if_neg h, if_neg h1, if_pos h2]
theorem textP_some {s : ByteArray} {p : Nat} {l : List Nat} (h : ¬4096 < s.size) (h1 : 1 ≤ p) (h2 : p ≤ s.size) (hw : Ord.walkT (numsT s) p s.size 0 [] = some l) : textP s (p : Int) = (bs (ofN l), 0) := by
 unfold textP;rw [if_neg h,if_neg (by omega),if_neg (by omega),Int.toNat_natCast,hw]
theorem textP_none {s : ByteArray} {p : Nat} (h : ¬4096 < s.size) (h1 : 1 ≤ p) (h2 : p ≤ s.size) (hw : Ord.walkT (numsT s) p s.size 0 [] = none) : textP s (p : Int) = (bs [], 7) := by
 unfold textP;rw [if_neg h,if_neg (by omega),if_neg (by omega),Int.toNat_natCast,hw]
/-- The way back at work. -/
structure TxI (s : ByteArray) (p K r : Nat) (acc : List Nat) : Prop where
  le : K ≤ s.size
  row : r ≤ s.size
  len : K + acc.length = s.size
  byte : ∀ x ∈ acc, x < 256
  walk : Ord.walkT (numsT s) p K r acc = Ord.walkT (numsT s) p s.size 0 []
theorem txI_start (s : ByteArray) (p : Nat) : TxI s p s.size 0 [] := ⟨Nat.le_refl _, Nat.zero_le _, rfl, fun x hx => absurd hx (List.not_mem_nil), rfl⟩
theorem txI_step {s : ByteArray} {p K r : Nat} {acc : List Nat} (h : TxI s p (K + 1) r acc) (hp : p ≤ s.size) (hr : r ≠ p) : TxI s p K (Ord.toR (numsT s) (Ord.atR p r)) (byT s (Ord.atR p r) :: acc) := by
 have hl:=h.len
 refine ⟨by have:=h.le;omega,?_,by rw [List.length_cons];omega,fun x hx=>?_,by rw [← h.walk,walk_step _ _ _ _ _ hr,byT_getD]⟩
 ·rw [← numsT_length s]
  exact Ord.toR_le _ _ (by rw [numsT_length];exact Ord.atR_lt h.row hp hr)
 ·rcases List.mem_cons.1 hx with rfl | hx
  ·exact byT_lt _ _
  ·exact h.byte x hx
set_option maxHeartbeats 4000000 in
theorem od_Text (s : ByteArray) (p : Int) (S : Mem) :
  ACall Try.prog 57 #[.string s,.int .i64 p] S (TextR s p S):=by
 by_cases hbig:4096<s.size
 ·have hcp:=textP_big (p:=p) hbig
  refine ACall.enter (rs:=[.tmp 4,.tmp 5]) 68 [(0,.string s),(1,.int .i64 p)] Try.func57 rfl rfl (Nat.le_of_ble_eq_true rfl) rfl ⟨rfl,rfl,trivial⟩ ?_
  refine k_a (k_s rfl (k_e rfl (k_a (k_m rfl ?_))))
  refine rC (Calm.lenStr (strT_spec ty_str_9) rfl) ?_
  refine k_e rfl ?_
  refine k_u [(0,_),(1,_),(4,_),(5,_),(6,_)] ?_
  refine AWP.seq ?_
  refine AWP.block ?_
  refine k_a (k_m rfl ?_)
  refine rC (Calm.bin rfl rfl b_gtr) ?_
  refine k_e rfl ?_
  refine k_u [(0,_),(1,_),(4,_),(5,_),(6,_),(14,_)] ?_
  refine k_T rfl ?_
  refine k_a (k_s rfl (k_e rfl ?_))
  refine AWP.ret ?_
  refine ain_ret ?_
  refine athen_ret ?_
  refine ⟨_,S,⟨_,_,rfl,⟨_,_,rfl,rfl,rfl⟩,rfl⟩,less_,?_⟩
  exact ⟨by rw [hcp];rfl,rfl⟩
 by_cases hz:s.size=0∧p=0
 ·have hcp:=textP_nil hbig hz
  obtain ⟨hz1,rfl⟩:=hz
  refine ACall.enter (rs:=[.tmp 4,.tmp 5]) 68 [(0,.string s),(1,.int .i64 0)] Try.func57 rfl rfl (Nat.le_of_ble_eq_true rfl) rfl ⟨rfl,rfl,trivial⟩ ?_
  refine k_a (k_s rfl (k_e rfl (k_a (k_m rfl ?_))))
  refine rC (Calm.lenStr (strT_spec ty_str_9) rfl) ?_
  refine k_e rfl ?_
  refine k_u [(0,_),(1,_),(4,_),(5,_),(6,_)] ?_
  refine AWP.seq ?_
  refine AWP.block ?_
  refine k_a (k_m rfl ?_)
  refine rC (Calm.bin rfl rfl b_gtr) ?_
  refine k_e rfl ?_
  refine k_u [(0,_),(1,_),(4,_),(5,_),(6,_),(14,_)] ?_
  refine k_F rfl ?_
  refine k_a (k_m rfl ?_)
  refine rC (Calm.bin rfl rfl b_eql) ?_
  refine k_m rfl ?_
  first|refine k_q 20 ?_|refine rG 20 (Calm.move rfl) ?_
  first|refine k_q 20 ?_|refine rG 20 (Calm.bin rfl rfl b_eql) ?_
  first|refine k_t rfl rfl ?_|refine k_f rfl rfl ?_
  refine k_e rfl ?_
  refine k_u [(0,_),(1,_),(4,_),(5,_),(6,_),(14,_),(17,_)] ?_
  refine k_T rfl ?_
  refine k_a (k_s rfl (k_e rfl ?_))
  refine AWP.ret ?_
  refine ain_ret ?_
  refine athen_ret ?_
  refine ⟨_,S,⟨_,_,rfl,⟨_,_,rfl,rfl,rfl⟩,rfl⟩,less_,?_⟩
  exact ⟨by rw [hcp];rfl,rfl⟩
 by_cases ho:p<1∨(s.size:Int)<p
 ·have hcp:=textP_out hbig hz ho
  by_cases hz1:s.size=0
  ·by_cases ho1:p<1
   ·skip
    refine ACall.enter (rs:=[.tmp 4,.tmp 5]) 68 [(0,.string s),(1,.int .i64 p)] Try.func57 rfl rfl (Nat.le_of_ble_eq_true rfl) rfl ⟨rfl,rfl,trivial⟩ ?_
    refine k_a (k_s rfl (k_e rfl (k_a (k_m rfl ?_))))
    refine rC (Calm.lenStr (strT_spec ty_str_9) rfl) ?_
    refine k_e rfl ?_
    refine k_u [(0,_),(1,_),(4,_),(5,_),(6,_)] ?_
    refine AWP.seq ?_
    refine AWP.block ?_
    refine k_a (k_m rfl ?_)
    refine rC (Calm.bin rfl rfl b_gtr) ?_
    refine k_e rfl ?_
    refine k_u [(0,_),(1,_),(4,_),(5,_),(6,_),(14,_)] ?_
    refine k_F rfl ?_
    refine k_a (k_m rfl ?_)
    refine rC (Calm.bin rfl rfl b_eql) ?_
    refine k_m rfl ?_
    first|refine k_q 20 ?_|refine rG 20 (Calm.move rfl) ?_
    first|refine k_q 20 ?_|refine rG 20 (Calm.bin rfl rfl b_eql) ?_
    first|refine k_t rfl rfl ?_|refine k_f rfl rfl ?_
    refine k_e rfl ?_
    refine k_u [(0,_),(1,_),(4,_),(5,_),(6,_),(14,_),(17,_)] ?_
    refine k_F rfl ?_
    refine k_a (k_m rfl ?_)
    refine rC (Calm.bin rfl rfl b_lss) ?_
    refine k_m rfl ?_
    first|refine k_q 27 ?_|refine rG 27 (Calm.move rfl) ?_
    first|refine k_q 27 ?_|refine rG 27 (Calm.move rfl) ?_
    first|refine k_q 27 ?_|refine rG 27 (Calm.bin rfl rfl b_gtr) ?_
    first|refine k_t rfl rfl ?_|refine k_f rfl rfl ?_
    refine k_e rfl ?_
    refine k_u [(0,_),(1,_),(4,_),(5,_),(6,_),(14,_),(17,_),(24,_)] ?_
    refine k_T rfl ?_
    refine k_a (k_s rfl (k_e rfl ?_))
    refine AWP.ret ?_
    refine ain_ret ?_
    refine athen_ret ?_
    refine ⟨_,S,⟨_,_,rfl,⟨_,_,rfl,rfl,rfl⟩,rfl⟩,less_,?_⟩
    exact ⟨by rw [hcp];rfl,rfl⟩
   ·skip
    refine ACall.enter (rs:=[.tmp 4,.tmp 5]) 68 [(0,.string s),(1,.int .i64 p)] Try.func57 rfl rfl (Nat.le_of_ble_eq_true rfl) rfl ⟨rfl,rfl,trivial⟩ ?_
    refine k_a (k_s rfl (k_e rfl (k_a (k_m rfl ?_))))
    refine rC (Calm.lenStr (strT_spec ty_str_9) rfl) ?_
    refine k_e rfl ?_
    refine k_u [(0,_),(1,_),(4,_),(5,_),(6,_)] ?_
    refine AWP.seq ?_
    refine AWP.block ?_
    refine k_a (k_m rfl ?_)
    refine rC (Calm.bin rfl rfl b_gtr) ?_
    refine k_e rfl ?_
    refine k_u [(0,_),(1,_),(4,_),(5,_),(6,_),(14,_)] ?_
    refine k_F rfl ?_
    refine k_a (k_m rfl ?_)
    refine rC (Calm.bin rfl rfl b_eql) ?_
    refine k_m rfl ?_
    first|refine k_q 20 ?_|refine rG 20 (Calm.move rfl) ?_
    first|refine k_q 20 ?_|refine rG 20 (Calm.bin rfl rfl b_eql) ?_
    first|refine k_t rfl rfl ?_|refine k_f rfl rfl ?_
    refine k_e rfl ?_
    refine k_u [(0,_),(1,_),(4,_),(5,_),(6,_),(14,_),(17,_)] ?_
    refine k_F rfl ?_
    refine k_a (k_m rfl ?_)
    refine rC (Calm.bin rfl rfl b_lss) ?_
    refine k_m rfl ?_
    first|refine k_q 27 ?_|refine rG 27 (Calm.move rfl) ?_
    first|refine k_q 27 ?_|refine rG 27 (Calm.move rfl) ?_
    first|refine k_q 27 ?_|refine rG 27 (Calm.bin rfl rfl b_gtr) ?_
    first|refine k_t rfl rfl ?_|refine k_f rfl rfl ?_
    refine k_e rfl ?_
    refine k_u [(0,_),(1,_),(4,_),(5,_),(6,_),(14,_),(17,_),(24,_)] ?_
    refine k_T rfl ?_
    refine k_a (k_s rfl (k_e rfl ?_))
    refine AWP.ret ?_
    refine ain_ret ?_
    refine athen_ret ?_
    refine ⟨_,S,⟨_,_,rfl,⟨_,_,rfl,rfl,rfl⟩,rfl⟩,less_,?_⟩
    exact ⟨by rw [hcp];rfl,rfl⟩
  ·by_cases ho1:p<1
   ·skip
    refine ACall.enter (rs:=[.tmp 4,.tmp 5]) 68 [(0,.string s),(1,.int .i64 p)] Try.func57 rfl rfl (Nat.le_of_ble_eq_true rfl) rfl ⟨rfl,rfl,trivial⟩ ?_
    refine k_a (k_s rfl (k_e rfl (k_a (k_m rfl ?_))))
    refine rC (Calm.lenStr (strT_spec ty_str_9) rfl) ?_
    refine k_e rfl ?_
    refine k_u [(0,_),(1,_),(4,_),(5,_),(6,_)] ?_
    refine AWP.seq ?_
    refine AWP.block ?_
    refine k_a (k_m rfl ?_)
    refine rC (Calm.bin rfl rfl b_gtr) ?_
    refine k_e rfl ?_
    refine k_u [(0,_),(1,_),(4,_),(5,_),(6,_),(14,_)] ?_
    refine k_F rfl ?_
    refine k_a (k_m rfl ?_)
    refine rC (Calm.bin rfl rfl b_eql) ?_
    refine k_m rfl ?_
    first|refine k_q 20 ?_|refine rG 20 (Calm.move rfl) ?_
    first|refine k_q 20 ?_|refine rG 20 (Calm.bin rfl rfl b_eql) ?_
    first|refine k_t rfl rfl ?_|refine k_f rfl rfl ?_
    refine k_e rfl ?_
    refine k_u [(0,_),(1,_),(4,_),(5,_),(6,_),(14,_),(17,_)] ?_
    refine k_F rfl ?_
    refine k_a (k_m rfl ?_)
    refine rC (Calm.bin rfl rfl b_lss) ?_
    refine k_m rfl ?_
    first|refine k_q 27 ?_|refine rG 27 (Calm.move rfl) ?_
    first|refine k_q 27 ?_|refine rG 27 (Calm.move rfl) ?_
    first|refine k_q 27 ?_|refine rG 27 (Calm.bin rfl rfl b_gtr) ?_
    first|refine k_t rfl rfl ?_|refine k_f rfl rfl ?_
    refine k_e rfl ?_
    refine k_u [(0,_),(1,_),(4,_),(5,_),(6,_),(14,_),(17,_),(24,_)] ?_
    refine k_T rfl ?_
    refine k_a (k_s rfl (k_e rfl ?_))
    refine AWP.ret ?_
    refine ain_ret ?_
    refine athen_ret ?_
    refine ⟨_,S,⟨_,_,rfl,⟨_,_,rfl,rfl,rfl⟩,rfl⟩,less_,?_⟩
    exact ⟨by rw [hcp];rfl,rfl⟩
   ·skip
    refine ACall.enter (rs:=[.tmp 4,.tmp 5]) 68 [(0,.string s),(1,.int .i64 p)] Try.func57 rfl rfl (Nat.le_of_ble_eq_true rfl) rfl ⟨rfl,rfl,trivial⟩ ?_
    refine k_a (k_s rfl (k_e rfl (k_a (k_m rfl ?_))))
    refine rC (Calm.lenStr (strT_spec ty_str_9) rfl) ?_
    refine k_e rfl ?_
    refine k_u [(0,_),(1,_),(4,_),(5,_),(6,_)] ?_
    refine AWP.seq ?_
    refine AWP.block ?_
    refine k_a (k_m rfl ?_)
    refine rC (Calm.bin rfl rfl b_gtr) ?_
    refine k_e rfl ?_
    refine k_u [(0,_),(1,_),(4,_),(5,_),(6,_),(14,_)] ?_
    refine k_F rfl ?_
    refine k_a (k_m rfl ?_)
    refine rC (Calm.bin rfl rfl b_eql) ?_
    refine k_m rfl ?_
    first|refine k_q 20 ?_|refine rG 20 (Calm.move rfl) ?_
    first|refine k_q 20 ?_|refine rG 20 (Calm.bin rfl rfl b_eql) ?_
    first|refine k_t rfl rfl ?_|refine k_f rfl rfl ?_
    refine k_e rfl ?_
    refine k_u [(0,_),(1,_),(4,_),(5,_),(6,_),(14,_),(17,_)] ?_
    refine k_F rfl ?_
    refine k_a (k_m rfl ?_)
    refine rC (Calm.bin rfl rfl b_lss) ?_
    refine k_m rfl ?_
    first|refine k_q 27 ?_|refine rG 27 (Calm.move rfl) ?_
    first|refine k_q 27 ?_|refine rG 27 (Calm.move rfl) ?_
    first|refine k_q 27 ?_|refine rG 27 (Calm.bin rfl rfl b_gtr) ?_
    first|refine k_t rfl rfl ?_|refine k_f rfl rfl ?_
    refine k_e rfl ?_
    refine k_u [(0,_),(1,_),(4,_),(5,_),(6,_),(14,_),(17,_),(24,_)] ?_
    refine k_T rfl ?_
    refine k_a (k_s rfl (k_e rfl ?_))
    refine AWP.ret ?_
    refine ain_ret ?_
    refine athen_ret ?_
    refine ⟨_,S,⟨_,_,rfl,⟨_,_,rfl,rfl,rfl⟩,rfl⟩,less_,?_⟩
    exact ⟨by rw [hcp];rfl,rfl⟩
 obtain ⟨q,rfl⟩ : ∃ q:Nat,p=(q:Int):=⟨p.toNat,by omega⟩
 have hq1:1≤q:=by omega
 have hq2:q≤s.size:=by omega
 refine ACall.enter (rs:=[.tmp 4,.tmp 5]) 68 [(0,.string s),(1,.int .i64 q)] Try.func57 rfl rfl (Nat.le_of_ble_eq_true rfl) rfl ⟨rfl,rfl,trivial⟩ ?_
 refine k_a (k_s rfl (k_e rfl (k_a (k_m rfl ?_))))
 refine rC (Calm.lenStr (strT_spec ty_str_9) rfl) ?_
 refine k_e rfl ?_
 refine k_u [(0,_),(1,_),(4,_),(5,_),(6,_)] ?_
 refine AWP.seq ?_
 refine AWP.block ?_
 refine k_a (k_m rfl ?_)
 refine rC (Calm.bin rfl rfl b_gtr) ?_
 refine k_e rfl ?_
 refine k_u [(0,_),(1,_),(4,_),(5,_),(6,_),(14,_)] ?_
 refine k_F rfl ?_
 refine k_a (k_m rfl ?_)
 refine rC (Calm.bin rfl rfl b_eql) ?_
 refine k_m rfl ?_
 first|refine k_q 20 ?_|refine rG 20 (Calm.move rfl) ?_
 first|refine k_q 20 ?_|refine rG 20 (Calm.bin rfl rfl b_eql) ?_
 first|refine k_t rfl rfl ?_|refine k_f rfl rfl ?_
 refine k_e rfl ?_
 refine k_u [(0,_),(1,_),(4,_),(5,_),(6,_),(14,_),(17,_)] ?_
 refine k_F rfl ?_
 refine k_a (k_m rfl ?_)
 refine rC (Calm.bin rfl rfl b_lss) ?_
 refine k_m rfl ?_
 first|refine k_q 27 ?_|refine rG 27 (Calm.move rfl) ?_
 first|refine k_q 27 ?_|refine rG 27 (Calm.move rfl) ?_
 first|refine k_q 27 ?_|refine rG 27 (Calm.bin rfl rfl b_gtr) ?_
 first|refine k_t rfl rfl ?_|refine k_f rfl rfl ?_
 refine k_e rfl ?_
 refine k_u [(0,_),(1,_),(4,_),(5,_),(6,_),(14,_),(17,_),(24,_)] ?_
 refine k_F rfl ?_
 refine AWP.skip ?_
 refine ain_n ?_
 refine athen_n ?_
 refine k_a (k_m rfl ?_)
 refine ARun.call (lit_lt rfl) go_97 rfl (od_rows s _ (by omega)) ?_
 rintro u S1 ⟨hS1,hu⟩
 obtain ⟨ta,tc,rfl,t1,t2,t3⟩:=hu
 have htl:(toL s).length=s.size:=by simp [toL]
 rw [htl] at t1 t2 ⊢
 obtain ⟨tb,to_,rfl,htk⟩:=t3.resolve_left (fun h=>by rw [h] at htl;simp at htl;omega)
 refine k_e rfl ?_
 refine k_u [(0,_),(1,_),(4,_),(5,_),(6,_),(14,_),(17,_),(24,_),(7,_)] ?_
 refine k_a (k_m rfl ?_)
 refine ARun.makeSlice (lit_lt rfl) ty_sl_107 rfl rfl (by omega) (by omega) (by omega) (by omega) ?_
 intro b35 f35
 have g35:=f35
 repeat ((with_reducible replace g35:=fresh_set g35);obtain ⟨g35,_⟩:=g35)
 refine k_e rfl ?_
 refine k_u [(0,_),(1,_),(4,_),(5,_),(6,_),(14,_),(17,_),(24,_),(7,_),(8,_)] ?_
 rw [show madeL [Value.int .u8 0] (((s.size:Nat):Int).toNat*1)=tail8 s.size [] by rw [madeL_one,Nat.mul_one,tail8,List.append_nil,List.map_replicate];rfl,Nat.mul_one,Int.toNat_natCast]
 refine k_a (k_e rfl (AWP.seq (k_a (k_m rfl ?_))))
 refine rC (Calm.bin rfl rfl b_sub_i64) ?_
 refine k_e rfl ?_
 refine k_u [(0,_),(1,_),(4,_),(5,_),(6,_),(14,_),(17,_),(24,_),(7,_),(8,_),(9,_),(10,_)] ?_
 refine AWP.block ?_
 refine AWP.loop (X:=Nat × Nat × List Nat) (fun x=>[(0,.string s),(1,.int .i64 q),(7,.slice (some ⟨tb,to_,none⟩) s.size tc),(8,.slice (some ⟨b35,0,none⟩) s.size s.size),(9,.int .i64 x.2.1),(10,.int .i64 ((x.1:Int)-1))]) (fun x=>S1.set b35 ⟨5,tail8 x.1 x.2.2,s.size⟩) (fun x=>TxI s q x.1 x.2.1 x.2.2) (fun x=>x.1) ((s.size,0,[])) ⟨rfl,rfl,rfl,rfl,rfl,rfl,trivial⟩ (Mem.Less.refl _) (txI_start s q) ?_
 rintro ⟨K,r,acc⟩ hI
 (try dsimp only at *)
 have hKl:=hI.le
 have hrl:=hI.row
 have hlen:=hI.len
 by_cases hK:0<K
 ·refine AWP.seq (k_a (k_m rfl ?_))
  refine rC (Calm.bin rfl rfl b_geq) ?_
  refine k_n ?_
  refine k_u [(0,_),(1,_),(7,_),(8,_),(9,_),(10,_),(39,_)] ?_
  refine k_T rfl ?_
  obtain ⟨k,rfl⟩ : ∃ k,K=k+1:=⟨K-1,by omega⟩
  by_cases hrq:r=q
  ·have hcp:=textP_none hbig hq1 hq2 (by rw [← hI.walk];exact walk_no _ _ _ _ _ hrq)
   refine k_k (AWP.seq ?_)
   refine AWP.block ?_
   refine k_a (k_m rfl (k_e rfl ?_))
   refine k_u [(0,_),(1,_),(7,_),(8,_),(9,_),(10,_),(39,_),(11,_)] ?_
   refine AWP.seq ?_
   refine AWP.block ?_
   refine k_a (k_m rfl (k_m rfl ?_))
   refine rC (Calm.bin rfl rfl b_eql) ?_
   refine k_e rfl ?_
   refine k_u [(0,_),(1,_),(7,_),(8,_),(9,_),(10,_),(39,_),(11,_),(43,_)] ?_
   refine k_T rfl ?_
   refine k_a (k_s rfl (k_e rfl ?_))
   refine AWP.ret ?_
   refine ain_ret ?_
   refine athen_ret ?_
   refine ain_ret ?_
   refine athen_ret ?_
   refine athen_ret ?_
   refine ain_ret ?_
   refine athen_ret ?_
   refine ⟨_,S,⟨_,_,rfl,⟨_,_,rfl,rfl,rfl⟩,rfl⟩,hS1.trans (Mem.less_set _ _ _ f35.1),?_⟩
   exact ⟨by rw [hcp];rfl,rfl⟩
  ·have hnx:=txI_step hI hq2 hrq
   obtain ⟨a,ha⟩ : ∃ a,a=Ord.atR q r:=⟨_,rfl⟩
   rw [← ha] at hnx
   have hal:a<s.size:=by rw [ha];exact Ord.atR_lt hrl hq2 hrq
   refine k_k (AWP.seq ?_)
   refine AWP.block ?_
   refine k_a (k_m rfl (k_e rfl ?_))
   refine k_u [(0,_),(1,_),(7,_),(8,_),(9,_),(10,_),(39,_),(11,_)] ?_
   refine AWP.seq ?_
   refine AWP.block ?_
   refine k_a (k_m rfl (k_m rfl ?_))
   refine rC (Calm.bin rfl rfl b_eql) ?_
   refine k_e rfl ?_
   refine k_u [(0,_),(1,_),(7,_),(8,_),(9,_),(10,_),(39,_),(11,_),(43,_)] ?_
   refine k_F rfl ?_
   refine k_a (k_m rfl (k_m rfl ?_))
   refine rC (Calm.bin rfl rfl b_gtr) ?_
   refine k_e rfl ?_
   refine k_u [(0,_),(1,_),(7,_),(8,_),(9,_),(10,_),(39,_),(11,_),(43,_),(47,_)] ?_
   refine AWP.join (X:=Unit) (fun _=>[(0,.string s),(1,.int .i64 q),(7,.slice (some ⟨tb,to_,none⟩) s.size tc),(8,.slice (some ⟨b35,0,none⟩) s.size s.size),(10,.int .i64 (k:Int)),(11,.int .i64 (a:Int))]) (fun _=>S1.set b35 ⟨5,tail8 (k+1) acc,s.size⟩) (fun _=>a<s.size) ?_ ?_
   ·by_cases hlt:r<q
    ·rw [at_lt hlt] at ha
     refine k_F rfl ?_
     refine AWP.skip ?_
     refine ⟨(),?_,?_,?_⟩
     all_goals (try dsimp only)
     ·exact hal
     ·exact ⟨rfl,rfl,rfl,rfl,some_int (by omega),some_int (by omega),trivial⟩
     ·exact Mem.Less.refl _
    ·rw [at_gt (by omega)] at ha
     refine k_T rfl ?_
     refine AWP.region ?_
     refine k_m rfl ?_
     refine rC (Calm.bin rfl rfl b_sub_i64) ?_
     refine k_s rfl ?_
     refine arun_nil ?_
     refine ⟨(),?_,?_,?_⟩
     all_goals (try dsimp only)
     ·exact hal
     ·exact ⟨rfl,rfl,rfl,rfl,some_int (by omega),some_int (by omega),trivial⟩
     ·exact Mem.Less.refl _
   rintro _ _
   intro _ _ hs_ hl_
   (try dsimp only at *)
   refine ain_n ?_
   refine athen_n ?_
   refine AWP.sub _ hs_ (AWP.less _ hl_ ?_)
   clear hs_ hl_
   obtain ⟨x,hx⟩ : ∃ x,x=byT s a:=⟨_,rfl⟩
   have hx256:x<256:=by rw [hx];exact byT_lt s a
   have kt:Mem.Knows (S1.set b35 ⟨5,tail8 (k+1) acc,s.size⟩) ⟨tb,to_+a*1,none⟩ [.int .i64 (Ord.toR (numsT s) a:Nat)]:=by have:=(htk a (by rw [htl];exact hal)).less (Mem.less_set S1 b35 ⟨5,tail8 (k+1) acc,s.size⟩ f35.1);simp only [toL,List.getElem_map,List.getElem_range] at this;exact this
   refine AWP.draw [(0,true),(1,true),(2,true),(3,true),(4,true),(5,true),(6,true),(7,true),(8,true),(9,true),(10,false),(11,true)] [10] mixed (by kernel_rfl) ?_
   refine dP (hc:=fun _=>Calm.move rfl) (h:=?_)
   refine dP (hc:=fun _=>Calm.move rfl) (h:=?_)
   refine dP (hc:=fun _=>Calm.move rfl) (h:=?_)
   refine dP (hc:=fun _=>Calm.move rfl) (h:=?_)
   refine dC (hc:=Calm.as ((byT_val s a).trans (by rw [← hx])) (Calm.indexStrN (strT_spec ty_str_9) rfl rfl hal)) (h:=?_)
   refine dP (hc:=fun _=>Calm.move rfl) (h:=?_)
   refine dP (hc:=fun _=>Calm.move rfl) (h:=?_)
   refine dP (hc:=fun _=>Calm.indexS Try.underlying24 ty_size_3 rfl rfl (by omega) (by omega)) (h:=?_)
   refine dC (hc:=ld_ ty_plain_3 rfl) (h:=?_)
   refine dP (hc:=fun _=>Calm.indexS Try.underlying107 ty_size_5 rfl rfl (by omega) (by omega)) (h:=?_)
   refine draw_only rfl ?_
   refine ARun.store1 rfl rfl ty_size_5 rfl own_ (by show 0+(k:Int).toNat*1<(tail8 (k+1) acc).length;rw [tail8_length];omega) rfl ?_
   try simp only [k_ms,k_sz,k_ss,k_za,Nat.reduceAdd]
   refine arun_nil ⟨fun h=>absurd h (by decide),?_⟩
   refine dP (hc:=fun _=>Calm.assign rfl) (h:=?_)
   refine draw_nil ?_
   refine ain_n ?_
   refine athen_n ?_
   refine k_u [(0,_),(1,_),(7,_),(8,_),(10,_),(11,_),(9,_)] ?_
   simp only [Nat.zero_add,Nat.mul_one,Int.toNat_natCast]
   refine AWP.region ?_
   refine k_m rfl ?_
   refine rC (Calm.bin rfl rfl b_sub_i64) ?_
   refine k_e rfl ?_
   refine ⟨(k,Ord.toR (numsT s) a,x :: acc),?_,?_,?_,?_⟩
   all_goals (try dsimp only)
   ·exact ⟨sq_,sq_,sq_,sq_,sq_,sq_,trivial⟩
   ·rw [← tail8_set k x acc];exact Mem.Less.refl _
   ·rw [hx];exact hnx
   ·omega
 ·obtain rfl:K=0:=by omega
  refine AWP.seq (k_a (k_m rfl ?_))
  refine rC (Calm.bin rfl rfl b_geq) ?_
  refine k_n ?_
  refine k_u [(0,_),(1,_),(7,_),(8,_),(9,_),(10,_),(39,_)] ?_
  refine k_F rfl ?_
  have hw:=hI.walk
  rw [walk_end] at hw
  by_cases hrq:r=q
  ·rw [if_pos hrq] at hw
   have hcp:=textP_some hbig hq1 hq2 hw.symm
   refine AWP.exit ?_
   refine athen_exit ?_
   refine athen_exit ?_
   refine ain_same ?_
   refine athen_n ?_
   refine AWP.seq (k_a (k_m rfl (k_m rfl ?_)))
   refine rC (Calm.bin rfl rfl b_neq) ?_
   refine k_n ?_
   refine k_u [(0,_),(1,_),(7,_),(8,_),(9,_),(10,_),(39,_),(65,_)] ?_
   refine k_F rfl ?_
   refine k_k (k_a (k_m rfl ?_))
   refine rC (Calm.toStr (l:=ofN acc) ty_bytes_107 ty_str_9 rfl (by unfold ofN;rw [List.length_map];omega) (by rw [← ofN_cells acc hI.byte];exact rds_own (r:=⟨5,acc.map encB,s.size⟩) (Mem.own_set_same _ _ _))) ?_
   refine k_s rfl (k_e rfl ?_)
   refine k_u [(0,_),(1,_),(7,_),(8,_),(9,_),(10,_),(39,_),(65,_),(4,_),(5,_)] ?_
   refine AWP.ret ?_
   refine ⟨_,S,⟨_,_,rfl,⟨_,_,rfl,rfl,rfl⟩,rfl⟩,hS1.trans (Mem.less_set _ _ _ f35.1),?_⟩
   exact ⟨by rw [hcp];rfl,rfl⟩
  ·rw [if_neg hrq] at hw
   have hcp:=textP_none hbig hq1 hq2 hw.symm
   refine AWP.exit ?_
   refine athen_exit ?_
   refine athen_exit ?_
   refine ain_same ?_
   refine athen_n ?_
   refine AWP.seq (k_a (k_m rfl (k_m rfl ?_)))
   refine rC (Calm.bin rfl rfl b_neq) ?_
   refine k_n ?_
   refine k_u [(0,_),(1,_),(7,_),(8,_),(9,_),(10,_),(39,_),(65,_)] ?_
   refine k_T rfl ?_
   refine k_a (k_s rfl (k_e rfl ?_))
   refine k_r ?_
   refine ⟨_,S,⟨_,_,rfl,⟨_,_,rfl,rfl,rfl⟩,rfl⟩,hS1.trans (Mem.less_set _ _ _ f35.1),?_⟩
   exact ⟨by rw [hcp];rfl,rfl⟩
set_option maxHeartbeats 4000000 in
theorem rr_Text (s : ByteArray) (p : Int) (S : Mem) :
  ACall Try.prog 58 #[.string s,.int .i64 p] S (TextR s p S):=by
 by_cases hbig:4096<s.size
 ·have hcp:=textP_big (p:=p) hbig
  refine ACall.enter (rs:=[.tmp 4,.tmp 5]) 87 [(0,.string s),(1,.int .i64 p)] Try.func58 rfl rfl (Nat.le_of_ble_eq_true rfl) rfl ⟨rfl,rfl,trivial⟩ ?_
  refine k_a (k_s rfl (k_e rfl (k_a (k_m rfl ?_))))
  refine rC (Calm.lenStr (strT_spec ty_str_9) rfl) ?_
  refine k_e rfl ?_
  refine k_u [(0,_),(1,_),(4,_),(5,_),(6,_)] ?_
  refine AWP.seq (k_a (k_m rfl ?_))
  refine rC (Calm.bin rfl rfl b_gtr) ?_
  refine k_n ?_
  refine k_u [(0,_),(1,_),(4,_),(5,_),(6,_),(16,_)] ?_
  refine k_T rfl ?_
  refine k_a (k_s rfl (k_e rfl ?_))
  refine k_r ?_
  refine ⟨_,S,⟨_,_,rfl,⟨_,_,rfl,rfl,rfl⟩,rfl⟩,less_,?_⟩
  exact ⟨by rw [hcp];rfl,rfl⟩
 by_cases hz:s.size=0∧p=0
 ·have hcp:=textP_nil hbig hz
  obtain ⟨hz1,rfl⟩:=hz
  refine ACall.enter (rs:=[.tmp 4,.tmp 5]) 87 [(0,.string s),(1,.int .i64 0)] Try.func58 rfl rfl (Nat.le_of_ble_eq_true rfl) rfl ⟨rfl,rfl,trivial⟩ ?_
  refine k_a (k_s rfl (k_e rfl (k_a (k_m rfl ?_))))
  refine rC (Calm.lenStr (strT_spec ty_str_9) rfl) ?_
  refine k_e rfl ?_
  refine k_u [(0,_),(1,_),(4,_),(5,_),(6,_)] ?_
  refine AWP.seq (k_a (k_m rfl ?_))
  refine rC (Calm.bin rfl rfl b_gtr) ?_
  refine k_n ?_
  refine k_u [(0,_),(1,_),(4,_),(5,_),(6,_),(16,_)] ?_
  refine k_F rfl ?_
  refine k_k (AWP.seq (k_a (k_m rfl ?_)))
  refine rC (Calm.bin rfl rfl b_eql) ?_
  refine k_m rfl ?_
  first|refine k_q 19 ?_|refine rG 19 (Calm.move rfl) ?_
  first|refine k_q 19 ?_|refine rG 19 (Calm.bin rfl rfl b_eql) ?_
  first|refine k_t rfl rfl ?_|refine k_f rfl rfl ?_
  refine k_n ?_
  refine k_u [(0,_),(1,_),(4,_),(5,_),(6,_),(16,_),(22,_)] ?_
  refine k_T rfl ?_
  refine k_a (k_s rfl (k_e rfl ?_))
  refine k_r ?_
  refine ⟨_,S,⟨_,_,rfl,⟨_,_,rfl,rfl,rfl⟩,rfl⟩,less_,?_⟩
  exact ⟨by rw [hcp];rfl,rfl⟩
 by_cases ho:p<1∨(s.size:Int)<p
 ·have hcp:=textP_out hbig hz ho
  by_cases hz1:s.size=0
  ·by_cases ho1:p<1
   ·skip
    refine ACall.enter (rs:=[.tmp 4,.tmp 5]) 87 [(0,.string s),(1,.int .i64 p)] Try.func58 rfl rfl (Nat.le_of_ble_eq_true rfl) rfl ⟨rfl,rfl,trivial⟩ ?_
    refine k_a (k_s rfl (k_e rfl (k_a (k_m rfl ?_))))
    refine rC (Calm.lenStr (strT_spec ty_str_9) rfl) ?_
    refine k_e rfl ?_
    refine k_u [(0,_),(1,_),(4,_),(5,_),(6,_)] ?_
    refine AWP.seq (k_a (k_m rfl ?_))
    refine rC (Calm.bin rfl rfl b_gtr) ?_
    refine k_n ?_
    refine k_u [(0,_),(1,_),(4,_),(5,_),(6,_),(16,_)] ?_
    refine k_F rfl ?_
    refine k_k (AWP.seq (k_a (k_m rfl ?_)))
    refine rC (Calm.bin rfl rfl b_eql) ?_
    refine k_m rfl ?_
    first|refine k_q 19 ?_|refine rG 19 (Calm.move rfl) ?_
    first|refine k_q 19 ?_|refine rG 19 (Calm.bin rfl rfl b_eql) ?_
    first|refine k_t rfl rfl ?_|refine k_f rfl rfl ?_
    refine k_n ?_
    refine k_u [(0,_),(1,_),(4,_),(5,_),(6,_),(16,_),(22,_)] ?_
    refine k_F rfl ?_
    refine k_k (AWP.seq (k_a (k_m rfl ?_)))
    refine rC (Calm.bin rfl rfl b_lss) ?_
    refine k_m rfl ?_
    first|refine k_q 25 ?_|refine rG 25 (Calm.move rfl) ?_
    first|refine k_q 25 ?_|refine rG 25 (Calm.move rfl) ?_
    first|refine k_q 25 ?_|refine rG 25 (Calm.bin rfl rfl b_gtr) ?_
    first|refine k_t rfl rfl ?_|refine k_f rfl rfl ?_
    refine k_n ?_
    refine k_u [(0,_),(1,_),(4,_),(5,_),(6,_),(16,_),(22,_),(29,_)] ?_
    refine k_T rfl ?_
    refine k_a (k_s rfl (k_e rfl ?_))
    refine k_r ?_
    refine ⟨_,S,⟨_,_,rfl,⟨_,_,rfl,rfl,rfl⟩,rfl⟩,less_,?_⟩
    exact ⟨by rw [hcp];rfl,rfl⟩
   ·skip
    refine ACall.enter (rs:=[.tmp 4,.tmp 5]) 87 [(0,.string s),(1,.int .i64 p)] Try.func58 rfl rfl (Nat.le_of_ble_eq_true rfl) rfl ⟨rfl,rfl,trivial⟩ ?_
    refine k_a (k_s rfl (k_e rfl (k_a (k_m rfl ?_))))
    refine rC (Calm.lenStr (strT_spec ty_str_9) rfl) ?_
    refine k_e rfl ?_
    refine k_u [(0,_),(1,_),(4,_),(5,_),(6,_)] ?_
    refine AWP.seq (k_a (k_m rfl ?_))
    refine rC (Calm.bin rfl rfl b_gtr) ?_
    refine k_n ?_
    refine k_u [(0,_),(1,_),(4,_),(5,_),(6,_),(16,_)] ?_
    refine k_F rfl ?_
    refine k_k (AWP.seq (k_a (k_m rfl ?_)))
    refine rC (Calm.bin rfl rfl b_eql) ?_
    refine k_m rfl ?_
    first|refine k_q 19 ?_|refine rG 19 (Calm.move rfl) ?_
    first|refine k_q 19 ?_|refine rG 19 (Calm.bin rfl rfl b_eql) ?_
    first|refine k_t rfl rfl ?_|refine k_f rfl rfl ?_
    refine k_n ?_
    refine k_u [(0,_),(1,_),(4,_),(5,_),(6,_),(16,_),(22,_)] ?_
    refine k_F rfl ?_
    refine k_k (AWP.seq (k_a (k_m rfl ?_)))
    refine rC (Calm.bin rfl rfl b_lss) ?_
    refine k_m rfl ?_
    first|refine k_q 25 ?_|refine rG 25 (Calm.move rfl) ?_
    first|refine k_q 25 ?_|refine rG 25 (Calm.move rfl) ?_
    first|refine k_q 25 ?_|refine rG 25 (Calm.bin rfl rfl b_gtr) ?_
    first|refine k_t rfl rfl ?_|refine k_f rfl rfl ?_
    refine k_n ?_
    refine k_u [(0,_),(1,_),(4,_),(5,_),(6,_),(16,_),(22,_),(29,_)] ?_
    refine k_T rfl ?_
    refine k_a (k_s rfl (k_e rfl ?_))
    refine k_r ?_
    refine ⟨_,S,⟨_,_,rfl,⟨_,_,rfl,rfl,rfl⟩,rfl⟩,less_,?_⟩
    exact ⟨by rw [hcp];rfl,rfl⟩
  ·by_cases ho1:p<1
   ·skip
    refine ACall.enter (rs:=[.tmp 4,.tmp 5]) 87 [(0,.string s),(1,.int .i64 p)] Try.func58 rfl rfl (Nat.le_of_ble_eq_true rfl) rfl ⟨rfl,rfl,trivial⟩ ?_
    refine k_a (k_s rfl (k_e rfl (k_a (k_m rfl ?_))))
    refine rC (Calm.lenStr (strT_spec ty_str_9) rfl) ?_
    refine k_e rfl ?_
    refine k_u [(0,_),(1,_),(4,_),(5,_),(6,_)] ?_
    refine AWP.seq (k_a (k_m rfl ?_))
    refine rC (Calm.bin rfl rfl b_gtr) ?_
    refine k_n ?_
    refine k_u [(0,_),(1,_),(4,_),(5,_),(6,_),(16,_)] ?_
    refine k_F rfl ?_
    refine k_k (AWP.seq (k_a (k_m rfl ?_)))
    refine rC (Calm.bin rfl rfl b_eql) ?_
    refine k_m rfl ?_
    first|refine k_q 19 ?_|refine rG 19 (Calm.move rfl) ?_
    first|refine k_q 19 ?_|refine rG 19 (Calm.bin rfl rfl b_eql) ?_
    first|refine k_t rfl rfl ?_|refine k_f rfl rfl ?_
    refine k_n ?_
    refine k_u [(0,_),(1,_),(4,_),(5,_),(6,_),(16,_),(22,_)] ?_
    refine k_F rfl ?_
    refine k_k (AWP.seq (k_a (k_m rfl ?_)))
    refine rC (Calm.bin rfl rfl b_lss) ?_
    refine k_m rfl ?_
    first|refine k_q 25 ?_|refine rG 25 (Calm.move rfl) ?_
    first|refine k_q 25 ?_|refine rG 25 (Calm.move rfl) ?_
    first|refine k_q 25 ?_|refine rG 25 (Calm.bin rfl rfl b_gtr) ?_
    first|refine k_t rfl rfl ?_|refine k_f rfl rfl ?_
    refine k_n ?_
    refine k_u [(0,_),(1,_),(4,_),(5,_),(6,_),(16,_),(22,_),(29,_)] ?_
    refine k_T rfl ?_
    refine k_a (k_s rfl (k_e rfl ?_))
    refine k_r ?_
    refine ⟨_,S,⟨_,_,rfl,⟨_,_,rfl,rfl,rfl⟩,rfl⟩,less_,?_⟩
    exact ⟨by rw [hcp];rfl,rfl⟩
   ·skip
    refine ACall.enter (rs:=[.tmp 4,.tmp 5]) 87 [(0,.string s),(1,.int .i64 p)] Try.func58 rfl rfl (Nat.le_of_ble_eq_true rfl) rfl ⟨rfl,rfl,trivial⟩ ?_
    refine k_a (k_s rfl (k_e rfl (k_a (k_m rfl ?_))))
    refine rC (Calm.lenStr (strT_spec ty_str_9) rfl) ?_
    refine k_e rfl ?_
    refine k_u [(0,_),(1,_),(4,_),(5,_),(6,_)] ?_
    refine AWP.seq (k_a (k_m rfl ?_))
    refine rC (Calm.bin rfl rfl b_gtr) ?_
    refine k_n ?_
    refine k_u [(0,_),(1,_),(4,_),(5,_),(6,_),(16,_)] ?_
    refine k_F rfl ?_
    refine k_k (AWP.seq (k_a (k_m rfl ?_)))
    refine rC (Calm.bin rfl rfl b_eql) ?_
    refine k_m rfl ?_
    first|refine k_q 19 ?_|refine rG 19 (Calm.move rfl) ?_
    first|refine k_q 19 ?_|refine rG 19 (Calm.bin rfl rfl b_eql) ?_
    first|refine k_t rfl rfl ?_|refine k_f rfl rfl ?_
    refine k_n ?_
    refine k_u [(0,_),(1,_),(4,_),(5,_),(6,_),(16,_),(22,_)] ?_
    refine k_F rfl ?_
    refine k_k (AWP.seq (k_a (k_m rfl ?_)))
    refine rC (Calm.bin rfl rfl b_lss) ?_
    refine k_m rfl ?_
    first|refine k_q 25 ?_|refine rG 25 (Calm.move rfl) ?_
    first|refine k_q 25 ?_|refine rG 25 (Calm.move rfl) ?_
    first|refine k_q 25 ?_|refine rG 25 (Calm.bin rfl rfl b_gtr) ?_
    first|refine k_t rfl rfl ?_|refine k_f rfl rfl ?_
    refine k_n ?_
    refine k_u [(0,_),(1,_),(4,_),(5,_),(6,_),(16,_),(22,_),(29,_)] ?_
    refine k_T rfl ?_
    refine k_a (k_s rfl (k_e rfl ?_))
    refine k_r ?_
    refine ⟨_,S,⟨_,_,rfl,⟨_,_,rfl,rfl,rfl⟩,rfl⟩,less_,?_⟩
    exact ⟨by rw [hcp];rfl,rfl⟩
 obtain ⟨q,rfl⟩ : ∃ q:Nat,p=(q:Int):=⟨p.toNat,by omega⟩
 have hq1:1≤q:=by omega
 have hq2:q≤s.size:=by omega
 refine ACall.enter (rs:=[.tmp 4,.tmp 5]) 87 [(0,.string s),(1,.int .i64 q)] Try.func58 rfl rfl (Nat.le_of_ble_eq_true rfl) rfl ⟨rfl,rfl,trivial⟩ ?_
 refine k_a (k_s rfl (k_e rfl (k_a (k_m rfl ?_))))
 refine rC (Calm.lenStr (strT_spec ty_str_9) rfl) ?_
 refine k_e rfl ?_
 refine k_u [(0,_),(1,_),(4,_),(5,_),(6,_)] ?_
 refine AWP.seq (k_a (k_m rfl ?_))
 refine rC (Calm.bin rfl rfl b_gtr) ?_
 refine k_n ?_
 refine k_u [(0,_),(1,_),(4,_),(5,_),(6,_),(16,_)] ?_
 refine k_F rfl ?_
 refine k_k (AWP.seq (k_a (k_m rfl ?_)))
 refine rC (Calm.bin rfl rfl b_eql) ?_
 refine k_m rfl ?_
 first|refine k_q 19 ?_|refine rG 19 (Calm.move rfl) ?_
 first|refine k_q 19 ?_|refine rG 19 (Calm.bin rfl rfl b_eql) ?_
 first|refine k_t rfl rfl ?_|refine k_f rfl rfl ?_
 refine k_n ?_
 refine k_u [(0,_),(1,_),(4,_),(5,_),(6,_),(16,_),(22,_)] ?_
 refine k_F rfl ?_
 refine k_k (AWP.seq (k_a (k_m rfl ?_)))
 refine rC (Calm.bin rfl rfl b_lss) ?_
 refine k_m rfl ?_
 first|refine k_q 25 ?_|refine rG 25 (Calm.move rfl) ?_
 first|refine k_q 25 ?_|refine rG 25 (Calm.move rfl) ?_
 first|refine k_q 25 ?_|refine rG 25 (Calm.bin rfl rfl b_gtr) ?_
 first|refine k_t rfl rfl ?_|refine k_f rfl rfl ?_
 refine k_n ?_
 refine k_u [(0,_),(1,_),(4,_),(5,_),(6,_),(16,_),(22,_),(29,_)] ?_
 refine k_F rfl ?_
 refine k_k (k_a (k_m rfl ?_))
 refine ARun.makeSlice (lit_lt rfl) ty_sl_107 rfl rfl (by omega) (by omega) (by omega) (by omega) ?_
 intro b31 f31
 have g31:=f31
 repeat ((with_reducible replace g31:=fresh_set g31);obtain ⟨g31,_⟩:=g31)
 refine k_e rfl ?_
 refine k_u [(0,_),(1,_),(4,_),(5,_),(6,_),(16,_),(22,_),(29,_),(7,_)] ?_
 rw [show madeL [Value.int .u8 0] (((s.size:Nat):Int).toNat*1)=tail8 s.size [] by rw [madeL_one,Nat.mul_one,tail8,List.append_nil,List.map_replicate];rfl,Nat.mul_one,Int.toNat_natCast]
 refine k_a (k_e rfl (AWP.seq (k_a (k_m rfl ?_))))
 refine rC (Calm.bin rfl rfl b_sub_i64) ?_
 refine k_e rfl ?_
 refine k_u [(0,_),(1,_),(4,_),(5,_),(6,_),(16,_),(22,_),(29,_),(7,_),(8,_),(9,_)] ?_
 refine AWP.block ?_
 refine AWP.loop (X:=Nat × Nat × List Nat) (fun x=>[(0,.string s),(1,.int .i64 q),(6,.int .i64 s.size),(7,.slice (some ⟨b31,0,none⟩) s.size s.size),(8,.int .i64 x.2.1),(9,.int .i64 ((x.1:Int)-1))]) (fun x=>S.set b31 ⟨5,tail8 x.1 x.2.2,s.size⟩) (fun x=>TxI s q x.1 x.2.1 x.2.2) (fun x=>x.1) ((s.size,0,[])) ⟨rfl,rfl,rfl,rfl,rfl,rfl,trivial⟩ (Mem.Less.refl _) (txI_start s q) ?_
 rintro ⟨K,r,acc⟩ hI
 (try dsimp only at *)
 have hKl:=hI.le
 have hrl:=hI.row
 have hlen:=hI.len
 by_cases hK:0<K
 ·refine AWP.seq (k_a (k_m rfl ?_))
  refine rC (Calm.bin rfl rfl b_geq) ?_
  refine k_n ?_
  refine k_u [(0,_),(1,_),(6,_),(7,_),(8,_),(9,_),(35,_)] ?_
  refine k_T rfl ?_
  obtain ⟨k,rfl⟩ : ∃ k,K=k+1:=⟨K-1,by omega⟩
  by_cases hrq:r=q
  ·have hcp:=textP_none hbig hq1 hq2 (by rw [← hI.walk];exact walk_no _ _ _ _ _ hrq)
   refine k_k (AWP.seq ?_)
   refine AWP.block ?_
   refine AWP.seq (k_a (k_m rfl (k_m rfl ?_)))
   refine rC (Calm.bin rfl rfl b_eql) ?_
   refine k_n ?_
   refine k_u [(0,_),(1,_),(6,_),(7,_),(8,_),(9,_),(35,_),(40,_)] ?_
   refine k_T rfl ?_
   refine k_a (k_s rfl (k_e rfl ?_))
   refine k_r ?_
   refine ain_ret ?_
   refine athen_ret ?_
   refine athen_ret ?_
   refine ain_ret ?_
   refine athen_ret ?_
   refine ⟨_,S,⟨_,_,rfl,⟨_,_,rfl,rfl,rfl⟩,rfl⟩,less_,?_⟩
   exact ⟨by rw [hcp];rfl,rfl⟩
  ·refine k_k (AWP.seq ?_)
   refine AWP.block ?_
   refine AWP.seq (k_a (k_m rfl (k_m rfl ?_)))
   refine rC (Calm.bin rfl rfl b_eql) ?_
   refine k_n ?_
   refine k_u [(0,_),(1,_),(6,_),(7,_),(8,_),(9,_),(35,_),(40,_)] ?_
   refine k_F rfl ?_
   have hnx:=txI_step hI hq2 hrq
   obtain ⟨a,ha⟩ : ∃ a,a=Ord.atR q r:=⟨_,rfl⟩
   rw [← ha] at hnx
   have hal:a<s.size:=by rw [ha];exact Ord.atR_lt hrl hq2 hrq
   refine k_k (k_a (k_m rfl (k_e rfl ?_)))
   refine k_u [(0,_),(1,_),(6,_),(7,_),(8,_),(9,_),(35,_),(40,_),(10,_)] ?_
   refine AWP.seq (k_a (k_m rfl (k_m rfl ?_)))
   refine rC (Calm.bin rfl rfl b_gtr) ?_
   refine k_n ?_
   refine k_u [(0,_),(1,_),(6,_),(7,_),(8,_),(9,_),(35,_),(40,_),(10,_),(44,_)] ?_
   refine AWP.join (X:=Unit) (fun _=>[(0,.string s),(1,.int .i64 q),(6,.int .i64 s.size),(7,.slice (some ⟨b31,0,none⟩) s.size s.size),(9,.int .i64 (k:Int)),(10,.int .i64 (a:Int))]) (fun _=>S.set b31 ⟨5,tail8 (k+1) acc,s.size⟩) (fun _=>a<s.size) ?_ ?_
   ·by_cases hlt:r<q
    ·rw [at_lt hlt] at ha
     refine k_F rfl ?_
     refine AWP.skip ?_
     refine ⟨(),?_,?_,?_⟩
     all_goals (try dsimp only)
     ·exact hal
     ·exact ⟨rfl,rfl,rfl,rfl,some_int (by omega),some_int (by omega),trivial⟩
     ·exact Mem.Less.refl _
    ·rw [at_gt (by omega)] at ha
     refine k_T rfl ?_
     refine AWP.region ?_
     refine k_m rfl ?_
     refine rC (Calm.bin rfl rfl b_sub_i64) ?_
     refine k_s rfl ?_
     refine arun_nil ?_
     refine ⟨(),?_,?_,?_⟩
     all_goals (try dsimp only)
     ·exact hal
     ·exact ⟨rfl,rfl,rfl,rfl,some_int (by omega),some_int (by omega),trivial⟩
     ·exact Mem.Less.refl _
   rintro _ _
   intro _ _ hs_ hl_
   (try dsimp only at *)
   refine athen_n ?_
   refine AWP.sub _ hs_ (AWP.less _ hl_ ?_)
   clear hs_ hl_
   obtain ⟨x,hx⟩ : ∃ x,x=byT s a:=⟨_,rfl⟩
   have hx256:x<256:=by rw [hx];exact byT_lt s a
   refine k_a (k_m rfl (k_m rfl (k_m rfl (k_m rfl ?_))))
   refine rC (Calm.as ((byT_val s a).trans (by rw [← hx])) (Calm.indexStrN (strT_spec ty_str_9) rfl rfl hal)) ?_
   refine rC (Calm.indexS Try.underlying107 ty_size_5 rfl rfl (by omega) (by omega)) ?_
   refine ARun.store1 rfl rfl ty_size_5 rfl own_ (by show 0+(k:Int).toNat*1<(tail8 (k+1) acc).length;rw [tail8_length];omega) rfl ?_
   try simp only [k_ms,k_sz,k_ss,k_za,Nat.reduceAdd]
   refine k_n ?_
   refine k_u [(0,_),(1,_),(6,_),(7,_),(9,_),(10,_)] ?_
   simp only [Nat.zero_add,Nat.mul_one,Int.toNat_natCast]
   refine AWP.less (S.set b31 ⟨5,tail8 k (x :: acc),s.size⟩) (by rw [← tail8_set k x acc];exact Mem.Less.refl _) ?_
   refine k_a (k_e rfl (AWP.seq (k_a (k_e rfl ?_))))
   refine AWP.block ?_
   refine AWP.loop (X:=Nat) (fun j=>[(0,.string s),(1,.int .i64 q),(6,.int .i64 s.size),(7,.slice (some ⟨b31,0,none⟩) s.size s.size),(9,.int .i64 (k:Int)),(10,.int .i64 (a:Int)),(11,.int .i64 ((1+(List.range j).countP (fun i=>Ord.ltC (numsT s) i a):Nat):Int)),(12,.int .i64 j)]) (fun j=>S.set b31 ⟨5,tail8 k (x :: acc),s.size⟩) (fun j=>j≤s.size) (fun j=>s.size-j) (0) ⟨rfl,rfl,rfl,rfl,rfl,rfl,rfl,rfl,trivial⟩ (Mem.Less.refl _) (Nat.zero_le _) ?_
   rintro j hj
   (try dsimp only at *)
   have hcl:(List.range j).countP (fun i=>Ord.ltC (numsT s) i a)≤j:=by have:=List.countP_le_length (p:=fun i=>Ord.ltC (numsT s) i a) (l:=List.range j);rw [List.length_range] at this;exact this
   obtain ⟨m,hm⟩ : ∃ m,m=(List.range j).countP (fun i=>Ord.ltC (numsT s) i a):=⟨_,rfl⟩
   rw [← hm] at hcl ⊢
   by_cases hjn:j<s.size
   ·refine AWP.seq (k_a (k_m rfl (k_m rfl ?_)))
    refine rC (Calm.bin rfl rfl b_lss) ?_
    refine k_n ?_
    refine k_u [(0,_),(1,_),(6,_),(7,_),(9,_),(10,_),(11,_),(12,_),(55,_)] ?_
    refine k_T rfl ?_
    obtain ⟨y,hy⟩ : ∃ y,y=byT s j:=⟨_,rfl⟩
    have hy256:y<256:=by rw [hy];exact byT_lt s j
    have hlc:Ord.ltC (numsT s) j a=(decide (y<x) || (decide (y=x) && decide (j<a))):=by unfold Ord.ltC;rw [byT_getD,byT_getD,← hx,← hy]
    have hnx2:(List.range (j+1)).countP (fun i=>Ord.ltC (numsT s) i a)=m+(if Ord.ltC (numsT s) j a=true then 1 else 0):=by rw [List.range_succ,List.countP_append,List.countP_singleton,← hm]
    by_cases c1:y<x
    ·rw [hlc,decide_eq_true c1,Bool.true_or,if_pos rfl] at hnx2
     refine k_k (AWP.seq ?_)
     refine AWP.block ?_
     refine AWP.seq ?_
     refine AWP.draw [(0,true),(1,true),(2,true),(3,true),(4,true),(5,true),(6,true),(7,true),(8,true),(9,true),(10,true),(11,true),(12,true),(13,true),(14,true),(15,true),(16,true),(17,true),(18,true),(19,true),(20,true)] [] mixed (by kernel_rfl) ?_
     refine dP (hc:=fun _=>Calm.move rfl) (h:=?_)
     refine dP (hc:=fun _=>Calm.move rfl) (h:=?_)
     refine dC (hc:=Calm.as ((byT_val s j).trans (by rw [← hy])) (Calm.indexStrN (strT_spec ty_str_9) rfl rfl hjn)) (h:=?_)
     refine dP (hc:=fun _=>Calm.move rfl) (h:=?_)
     refine dP (hc:=fun _=>Calm.move rfl) (h:=?_)
     refine dC (hc:=Calm.as ((byT_val s a).trans (by rw [← hx])) (Calm.indexStrN (strT_spec ty_str_9) rfl rfl hal)) (h:=?_)
     refine dP (hc:=fun _=>Calm.bin rfl rfl b_lss) (h:=?_)
     refine dP (hc:=fun _=>Calm.move rfl) (h:=?_)
     first|refine k_d ?_|refine dG (hc:=fun _=>Calm.move rfl) (h:=?_)
     first|refine k_d ?_|refine dG (hc:=fun _=>Calm.move rfl) (h:=?_)
     first|refine k_d ?_|refine dL (hc:=(by first | exact Calm.indexStrN (strT_spec ty_str_9) rfl rfl (by omega) | exact Calm.indexStr (strT_spec ty_str_9) rfl rfl (by omega) (by omega))) (h:=?_)
     first|refine k_d ?_|refine dG (hc:=fun _=>Calm.move rfl) (h:=?_)
     first|refine k_d ?_|refine dG (hc:=fun _=>Calm.move rfl) (h:=?_)
     first|refine k_d ?_|refine dL (hc:=(by first | exact Calm.indexStrN (strT_spec ty_str_9) rfl rfl (by omega) | exact Calm.indexStr (strT_spec ty_str_9) rfl rfl (by omega) (by omega))) (h:=?_)
     first|refine k_d ?_|refine dG (hc:=fun _=>Calm.bin rfl rfl b_eql) (h:=?_)
     first|refine k_d ?_|refine dG (hc:=fun _=>Calm.move rfl) (h:=?_)
     first|refine k_d ?_|refine dG (hc:=fun _=>Calm.move rfl) (h:=?_)
     first|refine k_d ?_|refine dG (hc:=fun _=>Calm.move rfl) (h:=?_)
     first|refine k_d ?_|refine dG (hc:=fun _=>Calm.bin rfl rfl b_lss) (h:=?_)
     first|refine k_d ?_|refine dG (hc:=fun _=>(by first | exact Calm.pickT rfl rfl | exact Calm.pickF rfl rfl)) (h:=?_)
     refine dP (hc:=fun _=>(by first | exact Calm.pickT rfl rfl | exact Calm.pickF rfl rfl)) (h:=?_)
     refine draw_nil ?_
     refine athen_n ?_
     refine k_u [(0,_),(1,_),(6,_),(7,_),(9,_),(10,_),(11,_),(12,_),(55,_),(78,_)] ?_
     refine k_T rfl ?_
     refine AWP.region ?_
     refine k_m rfl ?_
     refine rC (Calm.bin rfl rfl b_add_i64) ?_
     refine k_s rfl ?_
     refine arun_nil ?_
     refine ain_n ?_
     refine athen_n ?_
     refine k_u [(0,_),(1,_),(6,_),(7,_),(9,_),(10,_),(11,_),(12,_),(55,_),(78,_)] ?_
     refine AWP.region ?_
     refine k_m rfl ?_
     refine rC (Calm.bin rfl rfl b_add_i64) ?_
     refine k_e rfl ?_
     refine ⟨j+1,?_,?_,?_,?_⟩
     all_goals (try dsimp only)
     ·exact ⟨sq_,sq_,sq_,sq_,sq_,sq_,by rw [hnx2];exact some_int (by omega),sq_,trivial⟩
     ·exact Mem.Less.refl _
     ·exact hjn
     ·omega
    ·by_cases c2:y=x
     ·by_cases c3:j<a
      ·rw [hlc,decide_eq_true c2,decide_eq_true c3,Bool.and_self,Bool.or_true,if_pos rfl] at hnx2
       refine k_k (AWP.seq ?_)
       refine AWP.block ?_
       refine AWP.seq ?_
       refine AWP.draw [(0,true),(1,true),(2,true),(3,true),(4,true),(5,true),(6,true),(7,true),(8,true),(9,true),(10,true),(11,true),(12,true),(13,true),(14,true),(15,true),(16,true),(17,true),(18,true),(19,true),(20,true)] [] mixed (by kernel_rfl) ?_
       refine dP (hc:=fun _=>Calm.move rfl) (h:=?_)
       refine dP (hc:=fun _=>Calm.move rfl) (h:=?_)
       refine dC (hc:=Calm.as ((byT_val s j).trans (by rw [← hy])) (Calm.indexStrN (strT_spec ty_str_9) rfl rfl hjn)) (h:=?_)
       refine dP (hc:=fun _=>Calm.move rfl) (h:=?_)
       refine dP (hc:=fun _=>Calm.move rfl) (h:=?_)
       refine dC (hc:=Calm.as ((byT_val s a).trans (by rw [← hx])) (Calm.indexStrN (strT_spec ty_str_9) rfl rfl hal)) (h:=?_)
       refine dP (hc:=fun _=>Calm.bin rfl rfl b_lss) (h:=?_)
       refine dP (hc:=fun _=>Calm.move rfl) (h:=?_)
       first|refine k_d ?_|refine dG (hc:=fun _=>Calm.move rfl) (h:=?_)
       first|refine k_d ?_|refine dG (hc:=fun _=>Calm.move rfl) (h:=?_)
       first|refine k_d ?_|refine dL (hc:=Calm.as ((byT_val s j).trans (by rw [← hy])) (Calm.indexStrN (strT_spec ty_str_9) rfl rfl hjn)) (h:=?_)
       first|refine k_d ?_|refine dG (hc:=fun _=>Calm.move rfl) (h:=?_)
       first|refine k_d ?_|refine dG (hc:=fun _=>Calm.move rfl) (h:=?_)
       first|refine k_d ?_|refine dL (hc:=Calm.as ((byT_val s a).trans (by rw [← hx])) (Calm.indexStrN (strT_spec ty_str_9) rfl rfl hal)) (h:=?_)
       first|refine k_d ?_|refine dG (hc:=fun _=>Calm.bin rfl rfl b_eql) (h:=?_)
       first|refine k_d ?_|refine dG (hc:=fun _=>Calm.move rfl) (h:=?_)
       first|refine k_d ?_|refine dG (hc:=fun _=>Calm.move rfl) (h:=?_)
       first|refine k_d ?_|refine dG (hc:=fun _=>Calm.move rfl) (h:=?_)
       first|refine k_d ?_|refine dG (hc:=fun _=>Calm.bin rfl rfl b_lss) (h:=?_)
       first|refine k_d ?_|refine dG (hc:=fun _=>(by first | exact Calm.pickT rfl rfl | exact Calm.pickF rfl rfl)) (h:=?_)
       refine dP (hc:=fun _=>(by first | exact Calm.pickT rfl rfl | exact Calm.pickF rfl rfl)) (h:=?_)
       refine draw_nil ?_
       refine athen_n ?_
       refine k_u [(0,_),(1,_),(6,_),(7,_),(9,_),(10,_),(11,_),(12,_),(55,_),(78,_)] ?_
       refine k_T rfl ?_
       refine AWP.region ?_
       refine k_m rfl ?_
       refine rC (Calm.bin rfl rfl b_add_i64) ?_
       refine k_s rfl ?_
       refine arun_nil ?_
       refine ain_n ?_
       refine athen_n ?_
       refine k_u [(0,_),(1,_),(6,_),(7,_),(9,_),(10,_),(11,_),(12,_),(55,_),(78,_)] ?_
       refine AWP.region ?_
       refine k_m rfl ?_
       refine rC (Calm.bin rfl rfl b_add_i64) ?_
       refine k_e rfl ?_
       refine ⟨j+1,?_,?_,?_,?_⟩
       all_goals (try dsimp only)
       ·exact ⟨sq_,sq_,sq_,sq_,sq_,sq_,by rw [hnx2];exact some_int (by omega),sq_,trivial⟩
       ·exact Mem.Less.refl _
       ·exact hjn
       ·omega
      ·rw [hlc,decide_eq_false c1,decide_eq_false c3,Bool.and_false,Bool.or_false,if_neg Bool.false_ne_true] at hnx2
       refine k_k (AWP.seq ?_)
       refine AWP.block ?_
       refine AWP.seq ?_
       refine AWP.draw [(0,true),(1,true),(2,true),(3,true),(4,true),(5,true),(6,true),(7,true),(8,true),(9,true),(10,true),(11,true),(12,true),(13,true),(14,true),(15,true),(16,true),(17,true),(18,true),(19,true),(20,true)] [] mixed (by kernel_rfl) ?_
       refine dP (hc:=fun _=>Calm.move rfl) (h:=?_)
       refine dP (hc:=fun _=>Calm.move rfl) (h:=?_)
       refine dC (hc:=Calm.as ((byT_val s j).trans (by rw [← hy])) (Calm.indexStrN (strT_spec ty_str_9) rfl rfl hjn)) (h:=?_)
       refine dP (hc:=fun _=>Calm.move rfl) (h:=?_)
       refine dP (hc:=fun _=>Calm.move rfl) (h:=?_)
       refine dC (hc:=Calm.as ((byT_val s a).trans (by rw [← hx])) (Calm.indexStrN (strT_spec ty_str_9) rfl rfl hal)) (h:=?_)
       refine dP (hc:=fun _=>Calm.bin rfl rfl b_lss) (h:=?_)
       refine dP (hc:=fun _=>Calm.move rfl) (h:=?_)
       first|refine k_d ?_|refine dG (hc:=fun _=>Calm.move rfl) (h:=?_)
       first|refine k_d ?_|refine dG (hc:=fun _=>Calm.move rfl) (h:=?_)
       first|refine k_d ?_|refine dL (hc:=Calm.as ((byT_val s j).trans (by rw [← hy])) (Calm.indexStrN (strT_spec ty_str_9) rfl rfl hjn)) (h:=?_)
       first|refine k_d ?_|refine dG (hc:=fun _=>Calm.move rfl) (h:=?_)
       first|refine k_d ?_|refine dG (hc:=fun _=>Calm.move rfl) (h:=?_)
       first|refine k_d ?_|refine dL (hc:=Calm.as ((byT_val s a).trans (by rw [← hx])) (Calm.indexStrN (strT_spec ty_str_9) rfl rfl hal)) (h:=?_)
       first|refine k_d ?_|refine dG (hc:=fun _=>Calm.bin rfl rfl b_eql) (h:=?_)
       first|refine k_d ?_|refine dG (hc:=fun _=>Calm.move rfl) (h:=?_)
       first|refine k_d ?_|refine dG (hc:=fun _=>Calm.move rfl) (h:=?_)
       first|refine k_d ?_|refine dG (hc:=fun _=>Calm.move rfl) (h:=?_)
       first|refine k_d ?_|refine dG (hc:=fun _=>Calm.bin rfl rfl b_lss) (h:=?_)
       first|refine k_d ?_|refine dG (hc:=fun _=>(by first | exact Calm.pickT rfl rfl | exact Calm.pickF rfl rfl)) (h:=?_)
       refine dP (hc:=fun _=>(by first | exact Calm.pickT rfl rfl | exact Calm.pickF rfl rfl)) (h:=?_)
       refine draw_nil ?_
       refine athen_n ?_
       refine k_u [(0,_),(1,_),(6,_),(7,_),(9,_),(10,_),(11,_),(12,_),(55,_),(78,_)] ?_
       refine k_F rfl ?_
       refine AWP.skip ?_
       refine ain_n ?_
       refine athen_n ?_
       refine AWP.region ?_
       refine k_m rfl ?_
       refine rC (Calm.bin rfl rfl b_add_i64) ?_
       refine k_e rfl ?_
       refine ⟨j+1,?_,?_,?_,?_⟩
       all_goals (try dsimp only)
       ·exact ⟨sq_,sq_,sq_,sq_,sq_,sq_,by rw [hnx2];exact some_int (by omega),sq_,trivial⟩
       ·exact Mem.Less.refl _
       ·exact hjn
       ·omega
     ·rw [hlc,decide_eq_false c1,decide_eq_false c2,Bool.false_and,Bool.or_false,if_neg Bool.false_ne_true] at hnx2
      refine k_k (AWP.seq ?_)
      refine AWP.block ?_
      refine AWP.seq ?_
      refine AWP.draw [(0,true),(1,true),(2,true),(3,true),(4,true),(5,true),(6,true),(7,true),(8,true),(9,true),(10,true),(11,true),(12,true),(13,true),(14,true),(15,true),(16,true),(17,true),(18,true),(19,true),(20,true)] [] mixed (by kernel_rfl) ?_
      refine dP (hc:=fun _=>Calm.move rfl) (h:=?_)
      refine dP (hc:=fun _=>Calm.move rfl) (h:=?_)
      refine dC (hc:=Calm.as ((byT_val s j).trans (by rw [← hy])) (Calm.indexStrN (strT_spec ty_str_9) rfl rfl hjn)) (h:=?_)
      refine dP (hc:=fun _=>Calm.move rfl) (h:=?_)
      refine dP (hc:=fun _=>Calm.move rfl) (h:=?_)
      refine dC (hc:=Calm.as ((byT_val s a).trans (by rw [← hx])) (Calm.indexStrN (strT_spec ty_str_9) rfl rfl hal)) (h:=?_)
      refine dP (hc:=fun _=>Calm.bin rfl rfl b_lss) (h:=?_)
      refine dP (hc:=fun _=>Calm.move rfl) (h:=?_)
      first|refine k_d ?_|refine dG (hc:=fun _=>Calm.move rfl) (h:=?_)
      first|refine k_d ?_|refine dG (hc:=fun _=>Calm.move rfl) (h:=?_)
      first|refine k_d ?_|refine dL (hc:=Calm.as ((byT_val s j).trans (by rw [← hy])) (Calm.indexStrN (strT_spec ty_str_9) rfl rfl hjn)) (h:=?_)
      first|refine k_d ?_|refine dG (hc:=fun _=>Calm.move rfl) (h:=?_)
      first|refine k_d ?_|refine dG (hc:=fun _=>Calm.move rfl) (h:=?_)
      first|refine k_d ?_|refine dL (hc:=Calm.as ((byT_val s a).trans (by rw [← hx])) (Calm.indexStrN (strT_spec ty_str_9) rfl rfl hal)) (h:=?_)
      first|refine k_d ?_|refine dG (hc:=fun _=>Calm.bin rfl rfl b_eql) (h:=?_)
      first|refine k_d ?_|refine dG (hc:=fun _=>Calm.move rfl) (h:=?_)
      first|refine k_d ?_|refine dG (hc:=fun _=>Calm.move rfl) (h:=?_)
      first|refine k_d ?_|refine dG (hc:=fun _=>Calm.move rfl) (h:=?_)
      first|refine k_d ?_|refine dG (hc:=fun _=>Calm.bin rfl rfl b_lss) (h:=?_)
      first|refine k_d ?_|refine dG (hc:=fun _=>(by first | exact Calm.pickT rfl rfl | exact Calm.pickF rfl rfl)) (h:=?_)
      refine dP (hc:=fun _=>(by first | exact Calm.pickT rfl rfl | exact Calm.pickF rfl rfl)) (h:=?_)
      refine draw_nil ?_
      refine athen_n ?_
      refine k_u [(0,_),(1,_),(6,_),(7,_),(9,_),(10,_),(11,_),(12,_),(55,_),(78,_)] ?_
      refine k_F rfl ?_
      refine AWP.skip ?_
      refine ain_n ?_
      refine athen_n ?_
      refine AWP.region ?_
      refine k_m rfl ?_
      refine rC (Calm.bin rfl rfl b_add_i64) ?_
      refine k_e rfl ?_
      refine ⟨j+1,?_,?_,?_,?_⟩
      all_goals (try dsimp only)
      ·exact ⟨sq_,sq_,sq_,sq_,sq_,sq_,by rw [hnx2];exact some_int (by omega),sq_,trivial⟩
      ·exact Mem.Less.refl _
      ·exact hjn
      ·omega
   ·obtain rfl:j=s.size:=by omega
    refine AWP.seq (k_a (k_m rfl (k_m rfl ?_)))
    refine rC (Calm.bin rfl rfl b_lss) ?_
    refine k_n ?_
    refine k_u [(0,_),(1,_),(6,_),(7,_),(9,_),(10,_),(11,_),(12,_),(55,_)] ?_
    refine k_F rfl ?_
    have hto:Ord.toR (numsT s) a=1+m:=by unfold Ord.toR;rw [numsT_length,hm]
    refine AWP.exit ?_
    refine athen_exit ?_
    refine athen_exit ?_
    refine ain_same ?_
    refine athen_n ?_
    refine AWP.region ?_
    refine k_m rfl (k_s rfl ?_)
    refine arun_nil ?_
    refine ain_n ?_
    refine athen_n ?_
    refine k_u [(0,_),(1,_),(6,_),(7,_),(9,_),(10,_),(11,_),(12,_),(55,_),(8,_)] ?_
    refine AWP.region ?_
    refine k_m rfl ?_
    refine rC (Calm.bin rfl rfl b_sub_i64) ?_
    refine k_e rfl ?_
    refine ⟨(k,Ord.toR (numsT s) a,x :: acc),?_,?_,?_,?_⟩
    all_goals (try dsimp only)
    ·exact ⟨rfl,rfl,rfl,rfl,by rw [hto];rfl,some_int (by omega),trivial⟩
    ·exact Mem.Less.refl _
    ·rw [hx];exact hnx
    ·omega
 ·obtain rfl:K=0:=by omega
  refine AWP.seq (k_a (k_m rfl ?_))
  refine rC (Calm.bin rfl rfl b_geq) ?_
  refine k_n ?_
  refine k_u [(0,_),(1,_),(6,_),(7,_),(8,_),(9,_),(35,_)] ?_
  refine k_F rfl ?_
  have hw:=hI.walk
  rw [walk_end] at hw
  by_cases hrq:r=q
  ·rw [if_pos hrq] at hw
   have hcp:=textP_some hbig hq1 hq2 hw.symm
   refine AWP.exit ?_
   refine athen_exit ?_
   refine athen_exit ?_
   refine ain_same ?_
   refine athen_n ?_
   refine AWP.seq (k_a (k_m rfl (k_m rfl ?_)))
   refine rC (Calm.bin rfl rfl b_neq) ?_
   refine k_n ?_
   refine k_u [(0,_),(1,_),(6,_),(7,_),(8,_),(9,_),(35,_),(84,_)] ?_
   refine k_F rfl ?_
   refine k_k (k_a (k_m rfl ?_))
   refine rC (Calm.toStr (l:=ofN acc) ty_bytes_107 ty_str_9 rfl (by unfold ofN;rw [List.length_map];omega) (by rw [← ofN_cells acc hI.byte];exact rds_own (r:=⟨5,acc.map encB,s.size⟩) (Mem.own_set_same _ _ _))) ?_
   refine k_s rfl (k_e rfl ?_)
   refine k_u [(0,_),(1,_),(6,_),(7,_),(8,_),(9,_),(35,_),(84,_),(4,_),(5,_)] ?_
   refine AWP.ret ?_
   refine ⟨_,S,⟨_,_,rfl,⟨_,_,rfl,rfl,rfl⟩,rfl⟩,less_,?_⟩
   exact ⟨by rw [hcp];rfl,rfl⟩
  ·rw [if_neg hrq] at hw
   have hcp:=textP_none hbig hq1 hq2 hw.symm
   refine AWP.exit ?_
   refine athen_exit ?_
   refine athen_exit ?_
   refine ain_same ?_
   refine athen_n ?_
   refine AWP.seq (k_a (k_m rfl (k_m rfl ?_)))
   refine rC (Calm.bin rfl rfl b_neq) ?_
   refine k_n ?_
   refine k_u [(0,_),(1,_),(6,_),(7,_),(8,_),(9,_),(35,_),(84,_)] ?_
   refine k_T rfl ?_
   refine k_a (k_s rfl (k_e rfl ?_))
   refine k_r ?_
   refine ⟨_,S,⟨_,_,rfl,⟨_,_,rfl,rfl,rfl⟩,rfl⟩,less_,?_⟩
   exact ⟨by rw [hcp];rfl,rfl⟩
end Go.Proofs.Ytgidjbpgkeemiaa
namespace Go.Proofs.Ytgidjbpgkeemiaa
open Go.RowKit
open Mv Num Loser
set_option maxRecDepth 4000
theorem Sl.know {α : Type} {f : α → List Value} {S : Mem} {b o n cap : Nat} {l : List α} (h : Sl 1 f S (.slice (some ⟨b, o, none⟩) n cap) l) (i : Nat) (hi : i < l.length) : S.Knows ⟨b, o + i * 1, none⟩ (f l[i]) := by
 obtain ⟨a,c,e,_,_,h3⟩:=h
 injection e with e1 e2 e3
 subst e1
 obtain ⟨b',o',e',hk⟩:=h3.resolve_left (fun h=>by rw [h] at hi;exact absurd hi (Nat.not_lt_zero _))
 injection e' with e'
 injection e' with e1 e2
 subst e1 e2
 exact hk i hi
theorem com_cell (L R : List Nat) (k i : Nat) (hL : L.length = i) (h : i < (L ++ k :: R).length) : (L ++ k :: R)[i] = k := by
 subst hL;simp
theorem com_set (L R : List Nat) (k m i : Nat) (hL : L.length = i) : ((L ++ k :: R).map gI).set i (gI m) = (L ++ m :: R).map gI := by
 subst hL;rw [← List.map_set];congr 1;simp
theorem com_start (L : List Nat) (n i : Nat) (hc : i < n) : L.map gI ++ List.replicate (n - i) (gI 0) = (L ++ 0 :: List.replicate (n - (i + 1)) 0).map gI := by
 rw [show n-i=n-(i+1)+1 by omega,List.replicate_succ];simp
theorem com_done (f : Nat → Nat) (n i k : Nat) (hk : k = f i) : ((List.range i).map f ++ k :: List.replicate (n - (i + 1)) 0).map gI = ((List.range (i + 1)).map f).map gI ++ List.replicate (n - (i + 1)) (gI 0) := by
 rw [List.range_succ,hk];simp
/-- What Common hands back. -/
def ComR (l : List Nat) (ends : List Int) (S : Mem) (r : Value) (S' : Mem) : Prop := (RightE l ends ∧ ∃ u, r = .tuple #[u, .int .i64 0] ∧ RdL gI (Ord.comR l (Ord.endsR l l.length)) S u S') ∨ (¬RightE l ends ∧ r = .tuple #[.slice none 0 0, .int .i64 2] ∧ S' = S)
theorem comR_len (l e : List Nat) : (Ord.comR l e).length = e.length := by simp [Ord.comR]
set_option maxHeartbeats 2000000 in
theorem rr_Common (v ve : Value) (l : List Nat) (ends : List Int) (S : Mem) (hv : RowR S v l) (hve : Sl 1 i64s S ve ends) (hl : ends.length ≤ 17592186043904) :
  ACall Try.prog 52 #[v,ve] S (ComR l ends S):=by
 have hR:=rr_Right _ _ l ends S hv hve hl
 obtain ⟨va,vc,rfl,v1,v2,v3⟩:=id hv
 obtain ⟨ea,ec,rfl,e1,e2,e3⟩:=id hve
 by_cases hr:RightE l ends
 ·obtain ⟨e,rfl,he⟩:=id hr
  have hlm:(e.map (fun k:Nat=>(k:Int))).length=e.length:=List.length_map ..
  obtain ⟨n,hn⟩ : ∃ n,n=e.length:=⟨_,rfl⟩
  have hln:l.length=n:=by rw [hn];exact he.len.symm
  have hke:∀ i (h:i<e.length),∃ b off,ea=some ⟨b,off,none⟩∧S.Knows ⟨b,off+i*1,none⟩ [.int .i64 (e[i] : Int)]:=fun i h=>by
   obtain ⟨b,off,rfl,hk⟩:=e3.resolve_left (fun h'=>by rw [List.map_eq_nil_iff] at h';subst h';exact absurd h (Nat.not_lt_zero _))
   have:=hk i (by rw [hlm];exact h)
   rw [List.getElem_map] at this
   exact ⟨b,off,rfl,this⟩
  rw [hlm,← hn] at e1 e2 hl hR ⊢
  have heR:Ord.endsR l l.length=e:=Ord.sortedE_one (Ord.endsR_ok l) he
  refine ACall.enter (rs:=[.tmp 4,.tmp 5]) 78 [(0,.slice va l.length vc),(1,.slice ea n ec)] Try.func52 rfl rfl (Nat.le_of_ble_eq_true rfl) rfl ⟨rfl,rfl,trivial⟩ ?_
  refine k_a (k_s rfl (k_e rfl (AWP.seq (k_a ?_))))
  refine k_m rfl (k_m rfl ?_)
  refine ARun.call (lit_lt rfl) go_54 rfl (hR) ?_
  rintro _ S1 ⟨⟨t,rfl,ht⟩,h1⟩
  rw [h1];clear h1 S1
  obtain rfl:t=true:=ht.2 hr
  refine rC (Calm.un rfl (una_not _)) ?_
  refine k_n ?_
  refine k_u [(0,_),(1,_),(4,_),(5,_),(13,_)] ?_
  refine k_F rfl ?_
  refine k_k (k_a (k_m rfl ?_))
  refine rC (Calm.lenSl Try.underlying24 rfl) ?_
  refine ARun.makeSlice (lit_lt rfl) ty_sl_24 rfl rfl (by omega) (by omega) (by omega) (by omega) ?_
  intro b16 f16
  have g16:=f16
  repeat ((with_reducible replace g16:=fresh_set g16);obtain ⟨g16,_⟩:=g16)
  refine k_e rfl ?_
  refine k_u [(0,_),(1,_),(4,_),(5,_),(13,_),(6,_)] ?_
  rw [show madeL [Value.int .i64 0] (((n:Nat):Int).toNat*1)=((List.range 0).map (Ord.comA l e)).map gI ++ List.replicate (n-0) (gI 0) by rw [madeL_one,Nat.mul_one];rfl,Nat.mul_one,Int.toNat_natCast]
  refine AWP.seq (k_a (k_m rfl ?_))
  refine rC (Calm.lenSl Try.underlying24 rfl) ?_
  refine k_m rfl (k_n ?_)
  refine k_u [(0,_),(1,_),(4,_),(5,_),(13,_),(6,_),(18,_),(19,_)] ?_
  refine AWP.block ?_
  refine AWP.loop (X:=Nat) (fun i=>[(0,.slice va l.length vc),(1,.slice ea n ec),(6,.slice (some ⟨b16,0,none⟩) n n),(18,.int .i64 n),(19,.int .i64 i)]) (fun i=>S.set b16 ⟨3,((List.range i).map (Ord.comA l e)).map gI ++ List.replicate (n-i) (gI 0),n⟩) (fun i=>i≤n) (fun i=>n-i) (0) ⟨rfl,rfl,rfl,rfl,rfl,trivial⟩ (Mem.Less.refl _) (Nat.zero_le _) ?_
  rintro i hi
  (try dsimp only at *)
  by_cases hc:i<n
  ·refine k_a ?_
   refine rC (Calm.bin rfl rfl b_lss) ?_
   refine k_n (AWP.seq ?_)
   refine k_T rfl ?_
   rw [com_start _ n i hc]
   by_cases h0:i=0
   ·subst h0
    refine k_k (AWP.seq ?_)
    refine AWP.block ?_
    refine k_a (k_m rfl (k_e rfl ?_))
    refine k_u [(0,_),(1,_),(6,_),(18,_),(19,_),(20,_),(7,_)] ?_
    refine AWP.seq (k_a (k_m rfl ?_))
    refine rC (Calm.bin rfl rfl b_eql) ?_
    refine k_n ?_
    refine k_u [(0,_),(1,_),(6,_),(18,_),(19,_),(20,_),(7,_),(23,_)] ?_
    refine k_T rfl ?_
    rw [com_done (Ord.comA l e) n 0 0 rfl]
    refine AWP.exit ?_
    refine athen_exit ?_
    refine ain_same ?_
    refine athen_n ?_
    refine AWP.region ?_
    refine rC (Calm.bin rfl rfl b_add_i64) ?_
    refine k_m rfl (k_n ?_)
    refine ⟨1,?_,?_,?_,?_⟩
    all_goals (try dsimp only)
    ·exact ⟨sq_,sq_,sq_,sq_,sq_,trivial⟩
    ·exact Mem.Less.refl _
    ·exact hc
    ·omega
   ·refine k_k (AWP.seq ?_)
    refine AWP.block ?_
    refine k_a (k_m rfl (k_e rfl ?_))
    refine k_u [(0,_),(1,_),(6,_),(18,_),(19,_),(20,_),(7,_)] ?_
    refine AWP.seq (k_a (k_m rfl ?_))
    refine rC (Calm.bin rfl rfl b_eql) ?_
    refine k_n ?_
    refine k_u [(0,_),(1,_),(6,_),(18,_),(19,_),(20,_),(7,_),(23,_)] ?_
    refine k_F rfl ?_
    obtain ⟨i,rfl⟩ : ∃ q,i=q+1:=⟨i-1,by omega⟩
    obtain ⟨eb,eo,rfl,ke1⟩:=hke (i+1) (by omega)
    obtain ⟨eb',eo',ee,ke0⟩:=hke i (by omega)
    cases ee
    obtain ⟨a,ha⟩ : ∃ a,a=e[i]'(by omega):=⟨_,rfl⟩
    obtain ⟨b,hb⟩ : ∃ b,b=e[i+1]'(by omega):=⟨_,rfl⟩
    have ha1:a<l.length:=by rw [ha];exact he.lt (List.getElem_mem _)
    have hb1:b<l.length:=by rw [hb];exact he.lt (List.getElem_mem _)
    have hcom:Ord.comA l e (i+1)=Ord.lcp (l.drop a) (l.drop b):=by unfold Ord.comA;rw [if_neg (by omega),Nat.add_sub_cancel,getD_get e i 0 (by omega),getD_get e (i+1) 0 (by omega),← ha,← hb]
    rw [← ha] at ke0
    rw [← hb] at ke1
    obtain ⟨L,hL⟩ : ∃ L,L=(List.range (i+1)).map (Ord.comA l e):=⟨_,rfl⟩
    have hLl:L.length=i+1:=by rw [hL];simp
    rw [← hL]
    have hSS:S.Less (S.set b16 ⟨3,(L ++ 0 :: List.replicate (n-(i+1+1)) 0).map gI,n⟩):=Mem.less_set _ _ _ f16.1
    replace ke0:Mem.Knows (S.set b16 ⟨3,(L ++ 0 :: List.replicate (n-(i+1+1)) 0).map gI,n⟩) ⟨eb,eo+(((i+1:Nat):Int)-1).toNat*1,none⟩ [.int .i64 (a:Int)]:=by rw [show (((i+1:Nat):Int)-1).toNat=i by omega];exact ke0.less hSS
    replace ke1:=ke1.less hSS
    obtain ⟨vb,vo,rfl,hkv⟩:=v3.resolve_left (fun h=>by rw [h] at ha1;exact absurd ha1 (Nat.not_lt_zero _))
    obtain ⟨oa,hoa⟩ : ∃ oa,oa=(if vc=a then vo else vo+a*1):=⟨_,rfl⟩
    obtain ⟨ob,hob⟩ : ∃ ob,ob=(if vc=b then vo else vo+b*1):=⟨_,rfl⟩
    have hda:=Sl.drop1 hv a (by omega)
    have hdb:=Sl.drop1 hv b (by omega)
    rw [← hoa] at hda
    rw [← hob] at hdb
    refine k_k (AWP.seq ?_)
    refine AWP.draw [(0,true),(1,true),(2,true),(3,true),(4,true),(5,true),(6,true),(7,true),(8,true),(9,true),(10,true),(11,true),(12,true),(13,true),(14,true)] [] mixed (by kernel_rfl) ?_
    refine dP (hc:=fun _=>Calm.move rfl) (h:=?_)
    refine dP (hc:=fun _=>Calm.move rfl) (h:=?_)
    refine dP (hc:=fun _=>Calm.move rfl) (h:=?_)
    refine dP (hc:=fun _=>Calm.bin rfl rfl b_sub_i64) (h:=?_)
    refine dP (hc:=fun _=>Calm.indexS Try.underlying24 ty_size_3 rfl rfl (by omega) (by omega)) (h:=?_)
    refine dC (hc:=ld_ ty_plain_3 rfl) (h:=?_)
    refine dP (hc:=fun _=>(by first | exact Calm.sliceSl Try.underlying22 ty_size_41 rfl (bnd_none _ _) (by simp) (bnd_none _ _) (bnd_some _ _ rfl (by omega) (by omega)) | exact Calm.sliceNil Try.underlying22 ty_size_41 rfl (bnd_none _ _) (by simp) (bnd_none _ _) (bnd_zero _ _ rfl))) (h:=?_)
    refine dP (hc:=fun _=>Calm.move rfl) (h:=?_)
    refine dP (hc:=fun _=>Calm.move rfl) (h:=?_)
    refine dP (hc:=fun _=>Calm.move rfl) (h:=?_)
    refine dP (hc:=fun _=>Calm.indexS Try.underlying24 ty_size_3 rfl rfl (by omega) (by omega)) (h:=?_)
    refine dC (hc:=ld_ ty_plain_3 rfl) (h:=?_)
    refine dP (hc:=fun _=>(by first | exact Calm.sliceSl Try.underlying22 ty_size_41 rfl (bnd_none _ _) (by simp) (bnd_none _ _) (bnd_some _ _ rfl (by omega) (by omega)) | exact Calm.sliceNil Try.underlying22 ty_size_41 rfl (bnd_none _ _) (by simp) (bnd_none _ _) (bnd_zero _ _ rfl))) (h:=?_)
    refine dP (hc:=fun _=>Calm.assign rfl) (h:=?_)
    refine dP (hc:=fun _=>Calm.assign rfl) (h:=?_)
    refine draw_nil ?_
    refine athen_n ?_
    refine k_u [(0,_),(1,_),(6,_),(18,_),(19,_),(20,_),(7,_),(23,_),(8,_),(9,_)] ?_
    refine AWP.sub [(0,.slice (some ⟨vb,vo,none⟩) l.length vc),(1,.slice (some ⟨eb,eo,none⟩) n ec),(6,.slice (some ⟨b16,0,none⟩) n n),(7,.int .i64 ((i+1:Nat):Int)),(8,.slice (some ⟨vb,oa,none⟩) (l.length-a) (vc-a)),(9,.slice (some ⟨vb,ob,none⟩) (l.length-b) (vc-b)),(18,.int .i64 n),(19,.int .i64 ((i+1:Nat):Int))] ⟨rfl,rfl,rfl,rfl,by rw [hoa];rfl,by rw [hob];rfl,rfl,rfl,trivial⟩ ?_
    refine AWP.block ?_
    refine AWP.loop (X:=Nat) (fun k=>[(0,.slice (some ⟨vb,vo,none⟩) l.length vc),(1,.slice (some ⟨eb,eo,none⟩) n ec),(6,.slice (some ⟨b16,0,none⟩) n n),(7,.int .i64 ((i+1:Nat):Int)),(8,.slice (some ⟨vb,oa,none⟩) (l.length-a) (vc-a)),(9,.slice (some ⟨vb,ob,none⟩) (l.length-b) (vc-b)),(18,.int .i64 n),(19,.int .i64 ((i+1:Nat):Int))]) (fun k=>S.set b16 ⟨3,(L ++ k :: List.replicate (n-(i+1+1)) 0).map gI,n⟩) (fun k=>k≤Ord.lcp (l.drop a) (l.drop b)) (fun k=>Ord.lcp (l.drop a) (l.drop b)-k) (0) ⟨rfl,rfl,rfl,rfl,rfl,rfl,rfl,rfl,trivial⟩ (Mem.Less.refl _) (Nat.zero_le _) ?_
    rintro k hk
    (try dsimp only at *)
    have hmore:=Ord.lcp_more (l.drop a) (l.drop b) k hk
    have hle:=Ord.lcp_le (l.drop a) (l.drop b)
    rw [List.length_drop,List.length_drop] at hmore hle
    have hcl:(L ++ k :: List.replicate (n-(i+1+1)) 0).length=n:=by simp [hLl];omega
    have hob16:(S.set b16 ⟨3,(L ++ k :: List.replicate (n-(i+1+1)) 0).map gI,n⟩).own b16=some ⟨3,(L ++ k :: List.replicate (n-(i+1+1)) 0).map gI,n⟩:=Mem.own_set_same _ _ _
    have hSk:S.Less (S.set b16 ⟨3,(L ++ k :: List.replicate (n-(i+1+1)) 0).map gI,n⟩):=Mem.less_set _ _ _ f16.1
    have hcv:gI ((L ++ k :: List.replicate (n-(i+1+1)) 0)[i+1]'(by omega)) = .int .i64 (k:Int):=by rw [com_cell _ _ _ _ hLl];rfl
    by_cases c1:k<l.length-a
    ·by_cases c2:k<l.length-b
     ·obtain ⟨x,hx⟩ : ∃ x,x=(l.drop a).getD k 0:=⟨_,rfl⟩
      obtain ⟨y,hy⟩ : ∃ y,y=(l.drop b).getD k 0:=⟨_,rfl⟩
      rw [← hx,← hy] at hmore
      have kx:Mem.Knows (S.set b16 ⟨3,(L ++ k :: List.replicate (n-(i+1+1)) 0).map gI,n⟩) ⟨vb,oa+k*1,none⟩ [.int .u64 (x:Int)]:=by rw [hx,getD_get (l.drop a) k 0 (by rw [List.length_drop];exact c1)];exact (Sl.know hda k (by rw [List.length_drop];exact c1)).less hSk
      have ky:Mem.Knows (S.set b16 ⟨3,(L ++ k :: List.replicate (n-(i+1+1)) 0).map gI,n⟩) ⟨vb,ob+k*1,none⟩ [.int .u64 (y:Int)]:=by rw [hy,getD_get (l.drop b) k 0 (by rw [List.length_drop];exact c2)];exact (Sl.know hdb k (by rw [List.length_drop];exact c2)).less hSk
      refine AWP.seq (AWP.seq ?_)
      refine AWP.draw [(0,true),(1,true),(2,true),(3,true),(4,true),(5,true),(6,true),(7,true),(8,true),(9,true),(10,true),(11,true),(12,true),(13,true),(14,true),(15,true),(16,true),(17,true),(18,true),(19,true),(20,true),(21,true),(22,true),(23,true),(24,true),(25,true),(26,true),(27,true),(28,true),(29,true),(30,true),(31,true),(32,true)] [] mixed (by kernel_rfl) ?_
      refine dP (hc:=fun _=>Calm.move rfl) (h:=?_)
      refine dP (hc:=fun _=>Calm.move rfl) (h:=?_)
      refine dP (hc:=fun _=>Calm.indexS Try.underlying24 ty_size_3 rfl rfl (by omega) (by omega)) (h:=?_)
      refine dC (hc:=Calm.as hcv (Calm.load ty_plain_3 rfl (rd_list (g:=gI) (i+1) (by omega) hob16 (by omega)))) (h:=?_)
      refine dP (hc:=fun _=>Calm.move rfl) (h:=?_)
      refine dC (hc:=Calm.lenSl Try.underlying22 rfl) (h:=?_)
      refine dP (hc:=fun _=>Calm.bin rfl rfl b_lss) (h:=?_)
      refine dP (hc:=fun _=>Calm.move rfl) (h:=?_)
      first|refine k_d ?_|refine dG (hc:=fun _=>Calm.move rfl) (h:=?_)
      first|refine k_d ?_|refine dG (hc:=fun _=>Calm.move rfl) (h:=?_)
      first|refine k_d ?_|refine dG (hc:=fun _=>Calm.indexS Try.underlying24 ty_size_3 rfl rfl (by omega) (by omega)) (h:=?_)
      first|refine k_d ?_|refine dL (hc:=Calm.as hcv (Calm.load ty_plain_3 rfl (rd_list (g:=gI) (i+1) (by omega) hob16 (by omega)))) (h:=?_)
      first|refine k_d ?_|refine dG (hc:=fun _=>Calm.move rfl) (h:=?_)
      first|refine k_d ?_|refine dL (hc:=Calm.lenSl Try.underlying22 rfl) (h:=?_)
      first|refine k_d ?_|refine dG (hc:=fun _=>Calm.bin rfl rfl b_lss) (h:=?_)
      refine dP (hc:=fun _=>(by first | exact Calm.pickT rfl rfl | exact Calm.pickF rfl rfl)) (h:=?_)
      refine dP (hc:=fun _=>Calm.move rfl) (h:=?_)
      first|refine k_d ?_|refine dG (hc:=fun _=>Calm.move rfl) (h:=?_)
      first|refine k_d ?_|refine dG (hc:=fun _=>Calm.move rfl) (h:=?_)
      first|refine k_d ?_|refine dG (hc:=fun _=>Calm.move rfl) (h:=?_)
      first|refine k_d ?_|refine dG (hc:=fun _=>Calm.indexS Try.underlying24 ty_size_3 rfl rfl (by omega) (by omega)) (h:=?_)
      first|refine k_d ?_|refine dL (hc:=Calm.as hcv (Calm.load ty_plain_3 rfl (rd_list (g:=gI) (i+1) (by omega) hob16 (by omega)))) (h:=?_)
      first|refine k_d ?_|refine dG (hc:=fun _=>Calm.indexS Try.underlying22 ty_size_41 rfl rfl (by omega) (by omega)) (h:=?_)
      first|refine k_d ?_|refine dL (hc:=ld_ ty_plain_41 rfl) (h:=?_)
      first|refine k_d ?_|refine dG (hc:=fun _=>Calm.move rfl) (h:=?_)
      first|refine k_d ?_|refine dG (hc:=fun _=>Calm.move rfl) (h:=?_)
      first|refine k_d ?_|refine dG (hc:=fun _=>Calm.move rfl) (h:=?_)
      first|refine k_d ?_|refine dG (hc:=fun _=>Calm.indexS Try.underlying24 ty_size_3 rfl rfl (by omega) (by omega)) (h:=?_)
      first|refine k_d ?_|refine dL (hc:=Calm.as hcv (Calm.load ty_plain_3 rfl (rd_list (g:=gI) (i+1) (by omega) hob16 (by omega)))) (h:=?_)
      first|refine k_d ?_|refine dG (hc:=fun _=>Calm.indexS Try.underlying22 ty_size_41 rfl rfl (by omega) (by omega)) (h:=?_)
      first|refine k_d ?_|refine dL (hc:=ld_ ty_plain_41 rfl) (h:=?_)
      first|refine k_d ?_|refine dG (hc:=fun _=>Calm.bin rfl rfl b_eql) (h:=?_)
      refine dP (hc:=fun _=>(by first | exact Calm.pickT rfl rfl | exact Calm.pickF rfl rfl)) (h:=?_)
      refine draw_nil ?_
      refine athen_n ?_
      refine k_u [(0,_),(1,_),(6,_),(7,_),(8,_),(9,_),(18,_),(19,_),(69,_)] ?_
      by_cases c3:x=y
      ·refine k_T rfl ?_
       refine k_k ?_
       refine AWP.block ?_
       refine AWP.region ?_
       refine k_m rfl (k_m rfl ?_)
       refine rC (Calm.indexS Try.underlying24 ty_size_3 rfl rfl (by omega) (by omega)) ?_
       refine rC (Calm.as hcv (Calm.load ty_plain_3 rfl (rd_list (g:=gI) (i+1) (by omega) hob16 (by omega)))) ?_
       refine rC (Calm.bin rfl rfl b_add_i64) ?_
       refine rC (Calm.indexS Try.underlying24 ty_size_3 rfl rfl (by omega) (by omega)) ?_
       refine ARun.store1 rfl rfl ty_size_3 rfl own_ lens_ rfl ?_
       try simp only [k_ms,k_sz,k_ss,k_za,Nat.reduceAdd]
       refine arun_nil ?_
       refine ain_n ?_
       refine athen_n ?_
       simp only [Nat.zero_add,Nat.mul_one]
       refine ⟨k+1,?_,?_,?_,?_⟩
       all_goals (try dsimp only)
       ·exact ⟨sq_,sq_,sq_,sq_,sq_,sq_,sq_,sq_,trivial⟩
       ·rw [← com_set L _ k (k+1) (i+1) hLl];exact Mem.Less.refl _
       ·exact hmore.2 ⟨c1,c2,c3⟩
       ·have:=hmore.2 ⟨c1,c2,c3⟩;omega
      ·refine k_F rfl ?_
       have hkl:k=Ord.comA l e (i+1):=by rw [hcom];have : ¬ k<Ord.lcp (l.drop a) (l.drop b):=fun h=>c3 (hmore.1 h).2.2;omega
       refine AWP.exit ?_
       refine athen_exit ?_
       refine athen_exit ?_
       refine ain_same ?_
       refine ain_n ?_
       refine athen_n ?_
       refine AWP.region ?_
       refine rC (Calm.bin rfl rfl b_add_i64) ?_
       refine k_m rfl (k_n ?_)
       refine ⟨i+1+1,?_,?_,?_,?_⟩
       all_goals (try dsimp only)
       ·exact ⟨sq_,sq_,sq_,sq_,sq_,trivial⟩
       ·rw [hL,com_done (Ord.comA l e) n (i+1) k hkl];exact Mem.Less.refl _
       ·exact hc
       ·omega
     ·refine AWP.seq (AWP.seq ?_)
      refine AWP.draw [(0,true),(1,true),(2,true),(3,true),(4,true),(5,true),(6,true),(7,true),(8,true),(9,true),(10,true),(11,true),(12,true),(13,true),(14,true),(15,true),(16,true),(17,true),(18,true),(19,true),(20,true),(21,true),(22,true),(23,true),(24,true),(25,true),(26,true),(27,true),(28,true),(29,true),(30,true),(31,true),(32,true)] [] mixed (by kernel_rfl) ?_
      refine dP (hc:=fun _=>Calm.move rfl) (h:=?_)
      refine dP (hc:=fun _=>Calm.move rfl) (h:=?_)
      refine dP (hc:=fun _=>Calm.indexS Try.underlying24 ty_size_3 rfl rfl (by omega) (by omega)) (h:=?_)
      refine dC (hc:=Calm.as hcv (Calm.load ty_plain_3 rfl (rd_list (g:=gI) (i+1) (by omega) hob16 (by omega)))) (h:=?_)
      refine dP (hc:=fun _=>Calm.move rfl) (h:=?_)
      refine dC (hc:=Calm.lenSl Try.underlying22 rfl) (h:=?_)
      refine dP (hc:=fun _=>Calm.bin rfl rfl b_lss) (h:=?_)
      refine dP (hc:=fun _=>Calm.move rfl) (h:=?_)
      first|refine k_d ?_|refine dG (hc:=fun _=>Calm.move rfl) (h:=?_)
      first|refine k_d ?_|refine dG (hc:=fun _=>Calm.move rfl) (h:=?_)
      first|refine k_d ?_|refine dG (hc:=fun _=>Calm.indexS Try.underlying24 ty_size_3 rfl rfl (by omega) (by omega)) (h:=?_)
      first|refine k_d ?_|refine dL (hc:=Calm.as hcv (Calm.load ty_plain_3 rfl (rd_list (g:=gI) (i+1) (by omega) hob16 (by omega)))) (h:=?_)
      first|refine k_d ?_|refine dG (hc:=fun _=>Calm.move rfl) (h:=?_)
      first|refine k_d ?_|refine dL (hc:=Calm.lenSl Try.underlying22 rfl) (h:=?_)
      first|refine k_d ?_|refine dG (hc:=fun _=>Calm.bin rfl rfl b_lss) (h:=?_)
      refine dP (hc:=fun _=>(by first | exact Calm.pickT rfl rfl | exact Calm.pickF rfl rfl)) (h:=?_)
      refine dP (hc:=fun _=>Calm.move rfl) (h:=?_)
      first|refine k_d ?_|refine dG (hc:=fun _=>Calm.move rfl) (h:=?_)
      first|refine k_d ?_|refine dG (hc:=fun _=>Calm.move rfl) (h:=?_)
      first|refine k_d ?_|refine dG (hc:=fun _=>Calm.move rfl) (h:=?_)
      first|refine k_d ?_|refine dG (hc:=fun _=>Calm.indexS Try.underlying24 ty_size_3 rfl rfl (by omega) (by omega)) (h:=?_)
      first|refine k_d ?_|refine dL (hc:=ld_ ty_plain_3 rfl) (h:=?_)
      first|refine k_d ?_|refine dG (hc:=fun _=>Calm.indexS Try.underlying22 ty_size_41 rfl rfl (by omega) (by omega)) (h:=?_)
      first|refine k_d ?_|refine dL (hc:=ld_ ty_plain_41 rfl) (h:=?_)
      first|refine k_d ?_|refine dG (hc:=fun _=>Calm.move rfl) (h:=?_)
      first|refine k_d ?_|refine dG (hc:=fun _=>Calm.move rfl) (h:=?_)
      first|refine k_d ?_|refine dG (hc:=fun _=>Calm.move rfl) (h:=?_)
      first|refine k_d ?_|refine dG (hc:=fun _=>Calm.indexS Try.underlying24 ty_size_3 rfl rfl (by omega) (by omega)) (h:=?_)
      first|refine k_d ?_|refine dL (hc:=ld_ ty_plain_3 rfl) (h:=?_)
      first|refine k_d ?_|refine dG (hc:=fun _=>Calm.indexS Try.underlying22 ty_size_41 rfl rfl (by omega) (by omega)) (h:=?_)
      first|refine k_d ?_|refine dL (hc:=ld_ ty_plain_41 rfl) (h:=?_)
      first|refine k_d ?_|refine dG (hc:=fun _=>Calm.bin rfl rfl b_eql) (h:=?_)
      refine dP (hc:=fun _=>(by first | exact Calm.pickT rfl rfl | exact Calm.pickF rfl rfl)) (h:=?_)
      refine draw_nil ?_
      refine athen_n ?_
      refine k_u [(0,_),(1,_),(6,_),(7,_),(8,_),(9,_),(18,_),(19,_),(69,_)] ?_
      refine k_F rfl ?_
      have hkl:k=Ord.comA l e (i+1):=by rw [hcom];omega
      refine AWP.exit ?_
      refine athen_exit ?_
      refine athen_exit ?_
      refine ain_same ?_
      refine ain_n ?_
      refine athen_n ?_
      refine AWP.region ?_
      refine rC (Calm.bin rfl rfl b_add_i64) ?_
      refine k_m rfl (k_n ?_)
      refine ⟨i+1+1,?_,?_,?_,?_⟩
      all_goals (try dsimp only)
      ·exact ⟨sq_,sq_,sq_,sq_,sq_,trivial⟩
      ·rw [hL,com_done (Ord.comA l e) n (i+1) k hkl];exact Mem.Less.refl _
      ·exact hc
      ·omega
    ·refine AWP.seq (AWP.seq ?_)
     refine AWP.draw [(0,true),(1,true),(2,true),(3,true),(4,true),(5,true),(6,true),(7,true),(8,true),(9,true),(10,true),(11,true),(12,true),(13,true),(14,true),(15,true),(16,true),(17,true),(18,true),(19,true),(20,true),(21,true),(22,true),(23,true),(24,true),(25,true),(26,true),(27,true),(28,true),(29,true),(30,true),(31,true),(32,true)] [] mixed (by kernel_rfl) ?_
     refine dP (hc:=fun _=>Calm.move rfl) (h:=?_)
     refine dP (hc:=fun _=>Calm.move rfl) (h:=?_)
     refine dP (hc:=fun _=>Calm.indexS Try.underlying24 ty_size_3 rfl rfl (by omega) (by omega)) (h:=?_)
     refine dC (hc:=Calm.as hcv (Calm.load ty_plain_3 rfl (rd_list (g:=gI) (i+1) (by omega) hob16 (by omega)))) (h:=?_)
     refine dP (hc:=fun _=>Calm.move rfl) (h:=?_)
     refine dC (hc:=Calm.lenSl Try.underlying22 rfl) (h:=?_)
     refine dP (hc:=fun _=>Calm.bin rfl rfl b_lss) (h:=?_)
     refine dP (hc:=fun _=>Calm.move rfl) (h:=?_)
     first|refine k_d ?_|refine dG (hc:=fun _=>Calm.move rfl) (h:=?_)
     first|refine k_d ?_|refine dG (hc:=fun _=>Calm.move rfl) (h:=?_)
     first|refine k_d ?_|refine dG (hc:=fun _=>Calm.indexS Try.underlying24 ty_size_3 rfl rfl (by omega) (by omega)) (h:=?_)
     first|refine k_d ?_|refine dL (hc:=ld_ ty_plain_3 rfl) (h:=?_)
     first|refine k_d ?_|refine dG (hc:=fun _=>Calm.move rfl) (h:=?_)
     first|refine k_d ?_|refine dL (hc:=Calm.lenSl Try.underlying22 rfl) (h:=?_)
     first|refine k_d ?_|refine dG (hc:=fun _=>Calm.bin rfl rfl b_lss) (h:=?_)
     refine dP (hc:=fun _=>(by first | exact Calm.pickT rfl rfl | exact Calm.pickF rfl rfl)) (h:=?_)
     refine dP (hc:=fun _=>Calm.move rfl) (h:=?_)
     first|refine k_d ?_|refine dG (hc:=fun _=>Calm.move rfl) (h:=?_)
     first|refine k_d ?_|refine dG (hc:=fun _=>Calm.move rfl) (h:=?_)
     first|refine k_d ?_|refine dG (hc:=fun _=>Calm.move rfl) (h:=?_)
     first|refine k_d ?_|refine dG (hc:=fun _=>Calm.indexS Try.underlying24 ty_size_3 rfl rfl (by omega) (by omega)) (h:=?_)
     first|refine k_d ?_|refine dL (hc:=ld_ ty_plain_3 rfl) (h:=?_)
     first|refine k_d ?_|refine dG (hc:=fun _=>Calm.indexS Try.underlying22 ty_size_41 rfl rfl (by omega) (by omega)) (h:=?_)
     first|refine k_d ?_|refine dL (hc:=ld_ ty_plain_41 rfl) (h:=?_)
     first|refine k_d ?_|refine dG (hc:=fun _=>Calm.move rfl) (h:=?_)
     first|refine k_d ?_|refine dG (hc:=fun _=>Calm.move rfl) (h:=?_)
     first|refine k_d ?_|refine dG (hc:=fun _=>Calm.move rfl) (h:=?_)
     first|refine k_d ?_|refine dG (hc:=fun _=>Calm.indexS Try.underlying24 ty_size_3 rfl rfl (by omega) (by omega)) (h:=?_)
     first|refine k_d ?_|refine dL (hc:=ld_ ty_plain_3 rfl) (h:=?_)
     first|refine k_d ?_|refine dG (hc:=fun _=>Calm.indexS Try.underlying22 ty_size_41 rfl rfl (by omega) (by omega)) (h:=?_)
     first|refine k_d ?_|refine dL (hc:=ld_ ty_plain_41 rfl) (h:=?_)
     first|refine k_d ?_|refine dG (hc:=fun _=>Calm.bin rfl rfl b_eql) (h:=?_)
     refine dP (hc:=fun _=>(by first | exact Calm.pickT rfl rfl | exact Calm.pickF rfl rfl)) (h:=?_)
     refine draw_nil ?_
     refine athen_n ?_
     refine k_u [(0,_),(1,_),(6,_),(7,_),(8,_),(9,_),(18,_),(19,_),(69,_)] ?_
     refine k_F rfl ?_
     have hkl:k=Ord.comA l e (i+1):=by rw [hcom];omega
     refine AWP.exit ?_
     refine athen_exit ?_
     refine athen_exit ?_
     refine ain_same ?_
     refine ain_n ?_
     refine athen_n ?_
     refine AWP.region ?_
     refine rC (Calm.bin rfl rfl b_add_i64) ?_
     refine k_m rfl (k_n ?_)
     refine ⟨i+1+1,?_,?_,?_,?_⟩
     all_goals (try dsimp only)
     ·exact ⟨sq_,sq_,sq_,sq_,sq_,trivial⟩
     ·rw [hL,com_done (Ord.comA l e) n (i+1) k hkl];exact Mem.Less.refl _
     ·exact hc
     ·omega
  ·obtain rfl:i=n:=by omega
   refine k_a ?_
   refine rC (Calm.bin rfl rfl b_lss) ?_
   refine k_n (AWP.seq ?_)
   refine k_F rfl ?_
   rw [Nat.sub_self,List.replicate_zero,List.append_nil]
   refine AWP.exit ?_
   refine athen_exit ?_
   refine athen_exit ?_
   refine ain_same ?_
   refine athen_n ?_
   refine k_a (k_m rfl (k_s rfl (k_e rfl ?_)))
   refine k_u [(0,_),(1,_),(6,_),(18,_),(19,_),(20,_),(4,_),(5,_)] ?_
   refine AWP.ret ?_
   refine ⟨_,_,⟨_,_,rfl,⟨_,_,rfl,rfl,rfl⟩,rfl⟩,Mem.Less.refl _,?_⟩
   exact .inl ⟨hr,_,rfl,Mem.less_set _ _ _ f16.1,by rw [heR];exact Sl.own1 (g:=gI) (l:=Ord.comR l e) (Mem.own_set_same _ _ _) (by rw [hn];exact List.prefix_rfl) (by rw [comR_len];exact hn.symm) (Nat.le_refl _) (by omega)⟩
 ·skip
  refine ACall.enter (rs:=[.tmp 4,.tmp 5]) 78 [(0,.slice va l.length vc),(1,.slice ea ends.length ec)] Try.func52 rfl rfl (Nat.le_of_ble_eq_true rfl) rfl ⟨rfl,rfl,trivial⟩ ?_
  refine k_a (k_s rfl (k_e rfl (AWP.seq (k_a ?_))))
  refine k_m rfl (k_m rfl ?_)
  refine ARun.call (lit_lt rfl) go_54 rfl (hR) ?_
  rintro _ S1 ⟨⟨t,rfl,ht⟩,h1⟩
  rw [h1];clear h1 S1
  obtain rfl:t=false:=by cases t with | false=>rfl | true=>exact absurd (ht.1 rfl) hr
  refine rC (Calm.un rfl (una_not _)) ?_
  refine k_n ?_
  refine k_u [(0,_),(1,_),(4,_),(5,_),(13,_)] ?_
  refine k_T rfl ?_
  refine k_a (k_s rfl (k_e rfl ?_))
  refine k_r ?_
  refine ⟨_,S,⟨_,_,rfl,⟨_,_,rfl,rfl,rfl⟩,rfl⟩,less_,?_⟩
  exact .inr ⟨hr,rfl,rfl⟩
end Go.Proofs.Ytgidjbpgkeemiaa
namespace Go.Proofs.Ytgidjbpgkeemiaa
open Go.RowKit
open Mv Num Loser
set_option maxRecDepth 4000
theorem comU_skip (l e : List Nat) (i : Nat) (h0 : 0 < e.length) (hn : e.Nodup) (h : e[0] = i) : Ord.comU l e (i + 1) = Ord.comU l e i := by
 have h1:=Ord.comU_step l e 0 h0 hn
 rw [getD_get e 0 0 h0,h] at h1
 have h2:(Ord.comU l e i)[0]?=some 0:=by
  unfold Ord.comU
  rw [List.getElem?_map,List.getElem?_range h0]
  show some (if e.getD 0 0<i then _ else _)=_
  rw [getD_get e 0 0 h0,h,if_neg (Nat.lt_irrefl _)]
 rw [h1]
 have hl:0<(Ord.comU l e i).length:=by simp [Ord.comU];exact h0
 rw [List.getElem?_eq_getElem hl] at h2
 injection h2 with h2
 show (Ord.comU l e i).set 0 0=_
 have h3:=List.set_getElem_self hl
 rw [h2] at h3
 exact h3
theorem comU_len (l e : List Nat) (i : Nat) : (Ord.comU l e i).length = e.length := by simp [Ord.comU]
set_option maxHeartbeats 4000000 in
theorem od_Common (v ve : Value) (l : List Nat) (ends : List Int) (S : Mem) (hv : RowR S v l) (hve : Sl 1 i64s S ve ends) (hl : ends.length ≤ 17592186043904) :
  ACall Try.prog 51 #[v,ve] S (ComR l ends S):=by
 have hR:=or_Right _ _ l ends S hv hve hl
 have hInv:=or_Inverse _ _ S hve hl
 obtain ⟨va,vc,rfl,v1,v2,v3⟩:=id hv
 obtain ⟨ea,ec,rfl,e1,e2,e3⟩:=id hve
 by_cases hr:RightE l ends
 ·have hg:=(right_good hr).1
  obtain ⟨e,rfl,he⟩:=id hr
  have hlm:(e.map (fun k:Nat=>(k:Int))).length=e.length:=List.length_map ..
  obtain ⟨n,hn⟩ : ∃ n,n=e.length:=⟨_,rfl⟩
  have hln:l.length=n:=by rw [hn];exact he.len.symm
  have hp:e.Perm (List.range e.length):=by rw [he.len];exact he.1
  have hnd:e.Nodup:=hp.nodup_iff.2 List.nodup_range
  have hke:∀ i (h:i<e.length),∃ b off,ea=some ⟨b,off,none⟩∧S.Knows ⟨b,off+i*1,none⟩ [.int .i64 (e[i] : Int)]:=fun i h=>by
   obtain ⟨b,off,rfl,hk⟩:=e3.resolve_left (fun h'=>by rw [List.map_eq_nil_iff] at h';subst h';exact absurd h (Nat.not_lt_zero _))
   have:=hk i (by rw [hlm];exact h)
   rw [List.getElem_map] at this
   exact ⟨b,off,rfl,this⟩
  rw [hlm,← hn] at e1 e2 hl hR hInv ⊢
  have heR:Ord.endsR l l.length=e:=Ord.sortedE_one (Ord.endsR_ok l) he
  refine ACall.enter (rs:=[.tmp 4,.tmp 5]) 85 [(0,.slice va l.length vc),(1,.slice ea n ec)] Try.func51 rfl rfl (Nat.le_of_ble_eq_true rfl) rfl ⟨rfl,rfl,trivial⟩ ?_
  refine k_a (k_s rfl (k_e rfl (AWP.seq (k_a ?_))))
  refine k_m rfl (k_m rfl ?_)
  refine ARun.call (lit_lt rfl) go_53 rfl (hR) ?_
  rintro _ S1 ⟨⟨t,rfl,ht⟩,h1⟩
  rw [h1];clear h1 S1
  obtain rfl:t=true:=ht.2 hr
  refine rC (Calm.un rfl (una_not _)) ?_
  refine k_n ?_
  refine k_u [(0,_),(1,_),(4,_),(5,_),(15,_)] ?_
  refine k_F rfl ?_
  refine k_k (k_a (k_m rfl ?_))
  refine ARun.call (lit_lt rfl) go_49 rfl (hInv) ?_
  rintro _ S1 hI
  obtain ⟨_,u,x,hx,rfl,hNew⟩:=hI.resolve_right (fun h=>h.1 hg)
  have hxl:x.length=n:=by rw [hx.1,hlm,hn]
  obtain ⟨hS1,hu⟩:=hNew.rd (by omega)
  clear hNew
  obtain ⟨ua,uc,rfl,u1,u2,u3⟩:=id hu
  rw [hxl] at u1 u2 ⊢
  obtain ⟨at_,hat_⟩ : ∃ at_:Nat→Nat,at_=fun a=>(x.getD a 0).toNat:=⟨_,rfl⟩
  have hat:∀ k (hk:k<e.length),at_ e[k]=k:=fun k hk=>by have:=hx.2 k (by rw [hlm];exact hk);rw [List.getElem_map,Int.toNat_natCast] at this;rw [hat_];show (x.getD e[k] 0).toNat=k;rw [this];omega
  refine k_m rfl ?_
  refine rC (Calm.extract rfl rfl) ?_
  refine rC (Calm.extract rfl rfl) ?_
  refine k_s rfl (k_e rfl ?_)
  refine k_u [(0,_),(1,_),(4,_),(5,_),(15,_),(6,_)] ?_
  refine k_a (k_m rfl ?_)
  refine rC (Calm.lenSl Try.underlying24 rfl) ?_
  refine ARun.makeSlice (lit_lt rfl) ty_sl_24 rfl rfl (by omega) (by omega) (by omega) (by omega) ?_
  intro b23 f23
  have g23:=f23
  repeat ((with_reducible replace g23:=fresh_set g23);obtain ⟨g23,_⟩:=g23)
  refine k_e rfl ?_
  refine k_u [(0,_),(1,_),(4,_),(5,_),(15,_),(6,_),(8,_)] ?_
  rw [show madeL [Value.int .i64 0] (((n:Nat):Int).toNat*1)=(Ord.comU l e 0).map gI by rw [madeL_one,Nat.mul_one,Ord.comU_zero,List.map_replicate,← hn];rfl,Nat.mul_one,Int.toNat_natCast]
  refine k_a (k_e rfl (AWP.seq (k_a (k_m rfl ?_))))
  refine rC (Calm.lenSl Try.underlying22 rfl) ?_
  refine k_m rfl (k_n ?_)
  refine k_u [(0,_),(1,_),(4,_),(5,_),(15,_),(6,_),(8,_),(9,_),(25,_),(26,_)] ?_
  refine AWP.block ?_
  refine AWP.loop (X:=Nat × Nat) (fun y=>[(0,.slice va l.length vc),(1,.slice ea n ec),(6,.slice ua n uc),(8,.slice (some ⟨b23,0,none⟩) n n),(9,.int .i64 y.2),(25,.int .i64 l.length),(26,.int .i64 y.1)]) (fun y=>S1.set b23 ⟨3,(Ord.comU l e y.1).map gI,n⟩) (fun y=>y.1≤n∧y.2≤n∧(y.1<n→at_ y.1≠0→y.2≤Ord.lcp (l.drop y.1) (l.drop (e.getD (at_ y.1-1) 0)))) (fun y=>n-y.1) ((0,0)) ⟨rfl,rfl,rfl,rfl,rfl,rfl,rfl,trivial⟩ (Mem.Less.refl _) (⟨Nat.zero_le _,Nat.zero_le _,fun _ _=>Nat.zero_le _⟩) ?_
  rintro ⟨i,k0⟩ ⟨q1,q2,q3⟩
  (try dsimp only at *)
  have hcl:(Ord.comU l e i).length=n:=by rw [comU_len,hn]
  have hSk:S1.Less (S1.set b23 ⟨3,(Ord.comU l e i).map gI,n⟩):=Mem.less_set _ _ _ f23.1
  by_cases hc:i<n
  ·refine k_a ?_
   refine rC (Calm.bin rfl rfl b_lss) ?_
   refine k_n (AWP.seq ?_)
   refine k_T rfl ?_
   obtain ⟨q,hq,heq,hxq⟩:=inv_nat hp hx i (by omega)
   obtain ⟨ub,uo,rfl,hku⟩:=u3.resolve_left (fun h=>by rw [h] at hxl;simp at hxl;omega)
   have ku:Mem.Knows (S1.set b23 ⟨3,(Ord.comU l e i).map gI,n⟩) ⟨ub,uo+i*1,none⟩ [.int .i64 (q:Int)]:=by have:=(hku i (by omega)).less hSk;rw [← getD_get x i 0 (by omega),hxq] at this;exact this
   have hati:at_ i=q:=by rw [hat_];show (x.getD i 0).toNat=q;rw [hxq];rfl
   by_cases h0:q=0
   ·subst h0
    refine k_k (AWP.seq ?_)
    refine AWP.block ?_
    refine k_a (k_m rfl (k_e rfl ?_))
    refine k_u [(0,_),(1,_),(6,_),(8,_),(9,_),(25,_),(26,_),(27,_),(10,_)] ?_
    refine AWP.seq (k_a (k_m rfl (k_m rfl ?_)))
    refine rC (Calm.indexS Try.underlying24 ty_size_3 rfl rfl (by omega) (by omega)) ?_
    refine rC (ld_ ty_plain_3 rfl) ?_
    refine rC (Calm.bin rfl rfl b_eql) ?_
    refine k_n ?_
    refine k_u [(0,_),(1,_),(6,_),(8,_),(9,_),(25,_),(26,_),(27,_),(10,_),(33,_)] ?_
    refine k_T rfl ?_
    have hsk:=comU_skip l e i hq hnd heq
    refine k_a (k_e rfl ?_)
    refine AWP.exit ?_
    refine athen_exit ?_
    refine ain_same ?_
    refine athen_n ?_
    refine AWP.region ?_
    refine rC (Calm.bin rfl rfl b_add_i64) ?_
    refine k_m rfl (k_n ?_)
    refine ⟨(i+1,0),?_,?_,?_,?_⟩
    all_goals (try dsimp only)
    ·exact ⟨sq_,sq_,sq_,sq_,sq_,sq_,sq_,trivial⟩
    ·rw [hsk];exact Mem.Less.refl _
    ·exact ⟨hc,Nat.zero_le _,fun _ _=>Nat.zero_le _⟩
    ·omega
   ·refine k_k (AWP.seq ?_)
    refine AWP.block ?_
    refine k_a (k_m rfl (k_e rfl ?_))
    refine k_u [(0,_),(1,_),(6,_),(8,_),(9,_),(25,_),(26,_),(27,_),(10,_)] ?_
    refine AWP.seq (k_a (k_m rfl (k_m rfl ?_)))
    refine rC (Calm.indexS Try.underlying24 ty_size_3 rfl rfl (by omega) (by omega)) ?_
    refine rC (ld_ ty_plain_3 rfl) ?_
    refine rC (Calm.bin rfl rfl b_eql) ?_
    refine k_n ?_
    refine k_u [(0,_),(1,_),(6,_),(8,_),(9,_),(25,_),(26,_),(27,_),(10,_),(33,_)] ?_
    refine k_F rfl ?_
    obtain ⟨p,rfl⟩ : ∃ p,q=p+1:=⟨q-1,by omega⟩
    obtain ⟨j,hj⟩ : ∃ j,j=e[p]'(by omega):=⟨_,rfl⟩
    have hjl:j<l.length:=by rw [hj];exact he.lt (List.getElem_mem _)
    obtain ⟨eb,eo,rfl,ke⟩:=hke p (by omega)
    rw [← hj] at ke
    replace ke:Mem.Knows (S1.set b23 ⟨3,(Ord.comU l e i).map gI,n⟩) ⟨eb,eo+(((p+1:Nat):Int)-1).toNat*1,none⟩ [.int .i64 (j:Int)]:=by rw [show (((p+1:Nat):Int)-1).toNat=p by omega];exact ke.less (hS1.trans hSk)
    have hjg:e.getD (at_ i-1) 0=j:=by rw [hati,Nat.add_sub_cancel,getD_get e p 0 (by omega),hj]
    have hk0:=q3 hc (by omega)
    rw [hjg] at hk0
    have hle:=Ord.lcp_le (l.drop i) (l.drop j)
    rw [List.length_drop,List.length_drop] at hle
    have hcom:Ord.comA l e (p+1)=Ord.lcp (l.drop i) (l.drop j):=by unfold Ord.comA;rw [if_neg (by omega),Nat.add_sub_cancel,getD_get e p 0 (by omega),getD_get e (p+1) 0 hq,heq,← hj,Ord.lcp_comm]
    have hkas:=fun h h1=>Ord.kasai l e at_ he hat i h (by omega) h1
    rw [hjg] at hkas
    obtain ⟨vb,vo,rfl,hkv⟩:=v3.resolve_left (fun h=>by rw [h] at hjl;exact absurd hjl (Nat.not_lt_zero _))
    obtain ⟨K,hK⟩ : ∃ K,K=Ord.lcp (l.drop i) (l.drop j):=⟨_,rfl⟩
    rw [← hK] at hk0 hle hcom hkas
    refine k_k (k_a (k_m rfl (k_m rfl (k_m rfl ?_))))
    refine rC (Calm.indexS Try.underlying24 ty_size_3 rfl rfl (by omega) (by omega)) ?_
    refine rC (ld_ ty_plain_3 rfl) ?_
    refine rC (Calm.bin rfl rfl b_sub_i64) ?_
    refine rC (Calm.indexS Try.underlying24 ty_size_3 rfl rfl (by omega) (by omega)) ?_
    refine rC (ld_ ty_plain_3 rfl) ?_
    refine k_e rfl ?_
    refine k_u [(0,_),(1,_),(6,_),(8,_),(9,_),(25,_),(26,_),(27,_),(10,_),(33,_),(11,_)] ?_
    refine AWP.seq ?_
    refine AWP.join (X:=Nat) (fun k=>[(0,.slice (some ⟨vb,vo,none⟩) l.length vc),(1,.slice (some ⟨eb,eo,none⟩) n ec),(6,.slice (some ⟨ub,uo,none⟩) n uc),(8,.slice (some ⟨b23,0,none⟩) n n),(9,.int .i64 k),(10,.int .i64 i),(25,.int .i64 l.length),(26,.int .i64 i)]) (fun k=>S1.set b23 ⟨3,(Ord.comU l e i).map gI,n⟩) (fun k=>k=K) ?_ ?_
    ·refine AWP.block ?_
     refine AWP.loop (X:=Nat) (fun k=>[(0,.slice (some ⟨vb,vo,none⟩) l.length vc),(1,.slice (some ⟨eb,eo,none⟩) n ec),(6,.slice (some ⟨ub,uo,none⟩) n uc),(8,.slice (some ⟨b23,0,none⟩) n n),(9,.int .i64 k),(10,.int .i64 i),(11,.int .i64 j),(25,.int .i64 l.length),(26,.int .i64 i)]) (fun k=>S1.set b23 ⟨3,(Ord.comU l e i).map gI,n⟩) (fun k=>k≤K) (fun k=>K-k) (k0) ⟨rfl,rfl,rfl,rfl,rfl,rfl,rfl,rfl,rfl,trivial⟩ (Mem.Less.refl _) (hk0) ?_
     rintro k hk
     (try dsimp only at *)
     have hmore:=Ord.lcp_more (l.drop i) (l.drop j) k (by omega)
     rw [List.length_drop,List.length_drop,← hK] at hmore
     by_cases c1:i+k<l.length
     ·by_cases c2:j+k<l.length
      ·obtain ⟨y,hy⟩ : ∃ y,y=l.getD (i+k) 0:=⟨_,rfl⟩
       obtain ⟨z,hz⟩ : ∃ z,z=l.getD (j+k) 0:=⟨_,rfl⟩
       rw [show (l.drop i).getD k 0=y by rw [hy,List.getD_eq_getElem?_getD,List.getElem?_drop,List.getD_eq_getElem?_getD],show (l.drop j).getD k 0=z by rw [hz,List.getD_eq_getElem?_getD,List.getElem?_drop,List.getD_eq_getElem?_getD]] at hmore
       have ky:Mem.Knows (S1.set b23 ⟨3,(Ord.comU l e i).map gI,n⟩) ⟨vb,vo+((i:Int)+(k:Int)).toNat*1,none⟩ [.int .u64 (y:Int)]:=by rw [show ((i:Int)+(k:Int)).toNat=i+k by omega,hy,getD_get l (i+k) 0 c1];exact (hkv _ c1).less (hS1.trans hSk)
       have kz:Mem.Knows (S1.set b23 ⟨3,(Ord.comU l e i).map gI,n⟩) ⟨vb,vo+((j:Int)+(k:Int)).toNat*1,none⟩ [.int .u64 (z:Int)]:=by rw [show ((j:Int)+(k:Int)).toNat=j+k by omega,hz,getD_get l (j+k) 0 c2];exact (hkv _ c2).less (hS1.trans hSk)
       by_cases c3:y=z
       ·refine AWP.seq (AWP.seq ?_)
        refine AWP.draw [(0,true),(1,true),(2,true),(3,true),(4,true),(5,true),(6,true),(7,true),(8,true),(9,true),(10,true),(11,true),(12,true),(13,true),(14,true),(15,true),(16,true),(17,true),(18,true),(19,true),(20,true),(21,true),(22,true),(23,true),(24,true),(25,true),(26,true),(27,true),(28,true)] [] mixed (by kernel_rfl) ?_
        refine dP (hc:=fun _=>Calm.move rfl) (h:=?_)
        refine dP (hc:=fun _=>Calm.move rfl) (h:=?_)
        refine dP (hc:=fun _=>Calm.bin rfl rfl b_add_i64) (h:=?_)
        refine dP (hc:=fun _=>Calm.move rfl) (h:=?_)
        refine dC (hc:=Calm.lenSl Try.underlying22 rfl) (h:=?_)
        refine dP (hc:=fun _=>Calm.bin rfl rfl b_lss) (h:=?_)
        refine dP (hc:=fun _=>Calm.move rfl) (h:=?_)
        first|refine k_d ?_|refine dG (hc:=fun _=>Calm.move rfl) (h:=?_)
        first|refine k_d ?_|refine dG (hc:=fun _=>Calm.move rfl) (h:=?_)
        first|refine k_d ?_|refine dG (hc:=fun _=>Calm.bin rfl rfl b_add_i64) (h:=?_)
        first|refine k_d ?_|refine dG (hc:=fun _=>Calm.move rfl) (h:=?_)
        first|refine k_d ?_|refine dL (hc:=Calm.lenSl Try.underlying22 rfl) (h:=?_)
        first|refine k_d ?_|refine dG (hc:=fun _=>Calm.bin rfl rfl b_lss) (h:=?_)
        refine dP (hc:=fun _=>(by first | exact Calm.pickT rfl rfl | exact Calm.pickF rfl rfl)) (h:=?_)
        refine dP (hc:=fun _=>Calm.move rfl) (h:=?_)
        first|refine k_d ?_|refine dG (hc:=fun _=>Calm.move rfl) (h:=?_)
        first|refine k_d ?_|refine dG (hc:=fun _=>Calm.move rfl) (h:=?_)
        first|refine k_d ?_|refine dG (hc:=fun _=>Calm.move rfl) (h:=?_)
        first|refine k_d ?_|refine dG (hc:=fun _=>Calm.bin rfl rfl b_add_i64) (h:=?_)
        first|refine k_d ?_|refine dG (hc:=fun _=>Calm.indexS Try.underlying22 ty_size_41 rfl rfl (by omega) (by omega)) (h:=?_)
        first|refine k_d ?_|refine dL (hc:=ld_ ty_plain_41 rfl) (h:=?_)
        first|refine k_d ?_|refine dG (hc:=fun _=>Calm.move rfl) (h:=?_)
        first|refine k_d ?_|refine dG (hc:=fun _=>Calm.move rfl) (h:=?_)
        first|refine k_d ?_|refine dG (hc:=fun _=>Calm.move rfl) (h:=?_)
        first|refine k_d ?_|refine dG (hc:=fun _=>Calm.bin rfl rfl b_add_i64) (h:=?_)
        first|refine k_d ?_|refine dG (hc:=fun _=>Calm.indexS Try.underlying22 ty_size_41 rfl rfl (by omega) (by omega)) (h:=?_)
        first|refine k_d ?_|refine dL (hc:=ld_ ty_plain_41 rfl) (h:=?_)
        first|refine k_d ?_|refine dG (hc:=fun _=>Calm.bin rfl rfl b_eql) (h:=?_)
        refine dP (hc:=fun _=>(by first | exact Calm.pickT rfl rfl | exact Calm.pickF rfl rfl)) (h:=?_)
        refine draw_nil ?_
        refine athen_n ?_
        refine k_u [(0,_),(1,_),(6,_),(8,_),(9,_),(10,_),(11,_),(25,_),(26,_),(70,_)] ?_
        refine k_T rfl ?_
        refine k_k ?_
        refine AWP.block ?_
        refine AWP.region ?_
        refine k_m rfl ?_
        refine rC (Calm.bin rfl rfl b_add_i64) ?_
        refine k_s rfl ?_
        refine arun_nil ?_
        refine ain_n ?_
        refine athen_n ?_
        refine ⟨k+1,?_,?_,?_,?_⟩
        all_goals (try dsimp only)
        ·exact ⟨sq_,sq_,sq_,sq_,sq_,sq_,sq_,sq_,sq_,trivial⟩
        ·exact Mem.Less.refl _
        ·exact hmore.2 ⟨by omega,by omega,c3⟩
        ·have:=hmore.2 ⟨by omega,by omega,c3⟩;omega
       ·refine AWP.seq (AWP.seq ?_)
        refine AWP.draw [(0,true),(1,true),(2,true),(3,true),(4,true),(5,true),(6,true),(7,true),(8,true),(9,true),(10,true),(11,true),(12,true),(13,true),(14,true),(15,true),(16,true),(17,true),(18,true),(19,true),(20,true),(21,true),(22,true),(23,true),(24,true),(25,true),(26,true),(27,true),(28,true)] [] mixed (by kernel_rfl) ?_
        refine dP (hc:=fun _=>Calm.move rfl) (h:=?_)
        refine dP (hc:=fun _=>Calm.move rfl) (h:=?_)
        refine dP (hc:=fun _=>Calm.bin rfl rfl b_add_i64) (h:=?_)
        refine dP (hc:=fun _=>Calm.move rfl) (h:=?_)
        refine dC (hc:=Calm.lenSl Try.underlying22 rfl) (h:=?_)
        refine dP (hc:=fun _=>Calm.bin rfl rfl b_lss) (h:=?_)
        refine dP (hc:=fun _=>Calm.move rfl) (h:=?_)
        first|refine k_d ?_|refine dG (hc:=fun _=>Calm.move rfl) (h:=?_)
        first|refine k_d ?_|refine dG (hc:=fun _=>Calm.move rfl) (h:=?_)
        first|refine k_d ?_|refine dG (hc:=fun _=>Calm.bin rfl rfl b_add_i64) (h:=?_)
        first|refine k_d ?_|refine dG (hc:=fun _=>Calm.move rfl) (h:=?_)
        first|refine k_d ?_|refine dL (hc:=Calm.lenSl Try.underlying22 rfl) (h:=?_)
        first|refine k_d ?_|refine dG (hc:=fun _=>Calm.bin rfl rfl b_lss) (h:=?_)
        refine dP (hc:=fun _=>(by first | exact Calm.pickT rfl rfl | exact Calm.pickF rfl rfl)) (h:=?_)
        refine dP (hc:=fun _=>Calm.move rfl) (h:=?_)
        first|refine k_d ?_|refine dG (hc:=fun _=>Calm.move rfl) (h:=?_)
        first|refine k_d ?_|refine dG (hc:=fun _=>Calm.move rfl) (h:=?_)
        first|refine k_d ?_|refine dG (hc:=fun _=>Calm.move rfl) (h:=?_)
        first|refine k_d ?_|refine dG (hc:=fun _=>Calm.bin rfl rfl b_add_i64) (h:=?_)
        first|refine k_d ?_|refine dG (hc:=fun _=>Calm.indexS Try.underlying22 ty_size_41 rfl rfl (by omega) (by omega)) (h:=?_)
        first|refine k_d ?_|refine dL (hc:=ld_ ty_plain_41 rfl) (h:=?_)
        first|refine k_d ?_|refine dG (hc:=fun _=>Calm.move rfl) (h:=?_)
        first|refine k_d ?_|refine dG (hc:=fun _=>Calm.move rfl) (h:=?_)
        first|refine k_d ?_|refine dG (hc:=fun _=>Calm.move rfl) (h:=?_)
        first|refine k_d ?_|refine dG (hc:=fun _=>Calm.bin rfl rfl b_add_i64) (h:=?_)
        first|refine k_d ?_|refine dG (hc:=fun _=>Calm.indexS Try.underlying22 ty_size_41 rfl rfl (by omega) (by omega)) (h:=?_)
        first|refine k_d ?_|refine dL (hc:=ld_ ty_plain_41 rfl) (h:=?_)
        first|refine k_d ?_|refine dG (hc:=fun _=>Calm.bin rfl rfl b_eql) (h:=?_)
        refine dP (hc:=fun _=>(by first | exact Calm.pickT rfl rfl | exact Calm.pickF rfl rfl)) (h:=?_)
        refine draw_nil ?_
        refine athen_n ?_
        refine k_u [(0,_),(1,_),(6,_),(8,_),(9,_),(10,_),(11,_),(25,_),(26,_),(70,_)] ?_
        refine k_F rfl ?_
        refine AWP.exit ?_
        refine athen_exit ?_
        refine athen_exit ?_
        refine ain_same ?_
        refine ⟨k,?_,?_,?_⟩
        all_goals (try dsimp only)
        ·have : ¬ k<K:=fun h=>c3 (hmore.1 h).2.2;omega
        ·exact ⟨sq_,sq_,sq_,sq_,sq_,sq_,sq_,sq_,trivial⟩
        ·exact Mem.Less.refl _
      ·refine AWP.seq (AWP.seq ?_)
       refine AWP.draw [(0,true),(1,true),(2,true),(3,true),(4,true),(5,true),(6,true),(7,true),(8,true),(9,true),(10,true),(11,true),(12,true),(13,true),(14,true),(15,true),(16,true),(17,true),(18,true),(19,true),(20,true),(21,true),(22,true),(23,true),(24,true),(25,true),(26,true),(27,true),(28,true)] [] mixed (by kernel_rfl) ?_
       refine dP (hc:=fun _=>Calm.move rfl) (h:=?_)
       refine dP (hc:=fun _=>Calm.move rfl) (h:=?_)
       refine dP (hc:=fun _=>Calm.bin rfl rfl b_add_i64) (h:=?_)
       refine dP (hc:=fun _=>Calm.move rfl) (h:=?_)
       refine dC (hc:=Calm.lenSl Try.underlying22 rfl) (h:=?_)
       refine dP (hc:=fun _=>Calm.bin rfl rfl b_lss) (h:=?_)
       refine dP (hc:=fun _=>Calm.move rfl) (h:=?_)
       first|refine k_d ?_|refine dG (hc:=fun _=>Calm.move rfl) (h:=?_)
       first|refine k_d ?_|refine dG (hc:=fun _=>Calm.move rfl) (h:=?_)
       first|refine k_d ?_|refine dG (hc:=fun _=>Calm.bin rfl rfl b_add_i64) (h:=?_)
       first|refine k_d ?_|refine dG (hc:=fun _=>Calm.move rfl) (h:=?_)
       first|refine k_d ?_|refine dL (hc:=Calm.lenSl Try.underlying22 rfl) (h:=?_)
       first|refine k_d ?_|refine dG (hc:=fun _=>Calm.bin rfl rfl b_lss) (h:=?_)
       refine dP (hc:=fun _=>(by first | exact Calm.pickT rfl rfl | exact Calm.pickF rfl rfl)) (h:=?_)
       refine dP (hc:=fun _=>Calm.move rfl) (h:=?_)
       first|refine k_d ?_|refine dG (hc:=fun _=>Calm.move rfl) (h:=?_)
       first|refine k_d ?_|refine dG (hc:=fun _=>Calm.move rfl) (h:=?_)
       first|refine k_d ?_|refine dG (hc:=fun _=>Calm.move rfl) (h:=?_)
       first|refine k_d ?_|refine dG (hc:=fun _=>Calm.bin rfl rfl b_add_i64) (h:=?_)
       first|refine k_d ?_|refine dG (hc:=fun _=>Calm.indexS Try.underlying22 ty_size_41 rfl rfl (by omega) (by omega)) (h:=?_)
       first|refine k_d ?_|refine dL (hc:=ld_ ty_plain_41 rfl) (h:=?_)
       first|refine k_d ?_|refine dG (hc:=fun _=>Calm.move rfl) (h:=?_)
       first|refine k_d ?_|refine dG (hc:=fun _=>Calm.move rfl) (h:=?_)
       first|refine k_d ?_|refine dG (hc:=fun _=>Calm.move rfl) (h:=?_)
       first|refine k_d ?_|refine dG (hc:=fun _=>Calm.bin rfl rfl b_add_i64) (h:=?_)
       first|refine k_d ?_|refine dG (hc:=fun _=>Calm.indexS Try.underlying22 ty_size_41 rfl rfl (by omega) (by omega)) (h:=?_)
       first|refine k_d ?_|refine dL (hc:=ld_ ty_plain_41 rfl) (h:=?_)
       first|refine k_d ?_|refine dG (hc:=fun _=>Calm.bin rfl rfl b_eql) (h:=?_)
       refine dP (hc:=fun _=>(by first | exact Calm.pickT rfl rfl | exact Calm.pickF rfl rfl)) (h:=?_)
       refine draw_nil ?_
       refine athen_n ?_
       refine k_u [(0,_),(1,_),(6,_),(8,_),(9,_),(10,_),(11,_),(25,_),(26,_),(70,_)] ?_
       refine k_F rfl ?_
       refine AWP.exit ?_
       refine athen_exit ?_
       refine athen_exit ?_
       refine ain_same ?_
       refine ⟨k,?_,?_,?_⟩
       all_goals (try dsimp only)
       ·omega
       ·exact ⟨sq_,sq_,sq_,sq_,sq_,sq_,sq_,sq_,trivial⟩
       ·exact Mem.Less.refl _
     ·refine AWP.seq (AWP.seq ?_)
      refine AWP.draw [(0,true),(1,true),(2,true),(3,true),(4,true),(5,true),(6,true),(7,true),(8,true),(9,true),(10,true),(11,true),(12,true),(13,true),(14,true),(15,true),(16,true),(17,true),(18,true),(19,true),(20,true),(21,true),(22,true),(23,true),(24,true),(25,true),(26,true),(27,true),(28,true)] [] mixed (by kernel_rfl) ?_
      refine dP (hc:=fun _=>Calm.move rfl) (h:=?_)
      refine dP (hc:=fun _=>Calm.move rfl) (h:=?_)
      refine dP (hc:=fun _=>Calm.bin rfl rfl b_add_i64) (h:=?_)
      refine dP (hc:=fun _=>Calm.move rfl) (h:=?_)
      refine dC (hc:=Calm.lenSl Try.underlying22 rfl) (h:=?_)
      refine dP (hc:=fun _=>Calm.bin rfl rfl b_lss) (h:=?_)
      refine dP (hc:=fun _=>Calm.move rfl) (h:=?_)
      first|refine k_d ?_|refine dG (hc:=fun _=>Calm.move rfl) (h:=?_)
      first|refine k_d ?_|refine dG (hc:=fun _=>Calm.move rfl) (h:=?_)
      first|refine k_d ?_|refine dG (hc:=fun _=>Calm.bin rfl rfl b_add_i64) (h:=?_)
      first|refine k_d ?_|refine dG (hc:=fun _=>Calm.move rfl) (h:=?_)
      first|refine k_d ?_|refine dL (hc:=Calm.lenSl Try.underlying22 rfl) (h:=?_)
      first|refine k_d ?_|refine dG (hc:=fun _=>Calm.bin rfl rfl b_lss) (h:=?_)
      refine dP (hc:=fun _=>(by first | exact Calm.pickT rfl rfl | exact Calm.pickF rfl rfl)) (h:=?_)
      refine dP (hc:=fun _=>Calm.move rfl) (h:=?_)
      first|refine k_d ?_|refine dG (hc:=fun _=>Calm.move rfl) (h:=?_)
      first|refine k_d ?_|refine dG (hc:=fun _=>Calm.move rfl) (h:=?_)
      first|refine k_d ?_|refine dG (hc:=fun _=>Calm.move rfl) (h:=?_)
      first|refine k_d ?_|refine dG (hc:=fun _=>Calm.bin rfl rfl b_add_i64) (h:=?_)
      first|refine k_d ?_|refine dG (hc:=fun _=>Calm.indexS Try.underlying22 ty_size_41 rfl rfl (by omega) (by omega)) (h:=?_)
      first|refine k_d ?_|refine dL (hc:=ld_ ty_plain_41 rfl) (h:=?_)
      first|refine k_d ?_|refine dG (hc:=fun _=>Calm.move rfl) (h:=?_)
      first|refine k_d ?_|refine dG (hc:=fun _=>Calm.move rfl) (h:=?_)
      first|refine k_d ?_|refine dG (hc:=fun _=>Calm.move rfl) (h:=?_)
      first|refine k_d ?_|refine dG (hc:=fun _=>Calm.bin rfl rfl b_add_i64) (h:=?_)
      first|refine k_d ?_|refine dG (hc:=fun _=>Calm.indexS Try.underlying22 ty_size_41 rfl rfl (by omega) (by omega)) (h:=?_)
      first|refine k_d ?_|refine dL (hc:=ld_ ty_plain_41 rfl) (h:=?_)
      first|refine k_d ?_|refine dG (hc:=fun _=>Calm.bin rfl rfl b_eql) (h:=?_)
      refine dP (hc:=fun _=>(by first | exact Calm.pickT rfl rfl | exact Calm.pickF rfl rfl)) (h:=?_)
      refine draw_nil ?_
      refine athen_n ?_
      refine k_u [(0,_),(1,_),(6,_),(8,_),(9,_),(10,_),(11,_),(25,_),(26,_),(70,_)] ?_
      refine k_F rfl ?_
      refine AWP.exit ?_
      refine athen_exit ?_
      refine athen_exit ?_
      refine ain_same ?_
      refine ⟨k,?_,?_,?_⟩
      all_goals (try dsimp only)
      ·omega
      ·exact ⟨sq_,sq_,sq_,sq_,sq_,sq_,sq_,sq_,trivial⟩
      ·exact Mem.Less.refl _
    rintro k hkK
    intro _ _ hs_ hl_
    (try dsimp only at *)
    refine athen_n ?_
    refine AWP.sub _ hs_ (AWP.less _ hl_ ?_)
    clear hs_ hl_
    subst hkK
    have hset:((Ord.comU l e i).map gI).set (p+1) (gI k)=(Ord.comU l e (i+1)).map gI:=by have h9:=Ord.comU_step l e (p+1) hq hnd;rw [getD_get e (p+1) 0 hq,heq,hcom] at h9;rw [h9,List.map_set]
    by_cases hk0:k=0
    ·refine k_a (k_m rfl (k_m rfl (k_m rfl ?_)))
     refine rC (Calm.indexS Try.underlying24 ty_size_3 rfl rfl (by omega) (by omega)) ?_
     refine rC (ld_ ty_plain_3 rfl) ?_
     refine k_m rfl ?_
     refine rC (Calm.indexS Try.underlying24 ty_size_3 rfl rfl (by omega) (by omega)) ?_
     refine ARun.store1 rfl rfl ty_size_3 rfl own_ (by show 0+((p+1:Nat):Int).toNat*1<_;rw [List.length_map];omega) rfl ?_
     try simp only [k_ms,k_sz,k_ss,k_za,Nat.reduceAdd]
     refine k_n ?_
     refine k_u [(0,_),(1,_),(6,_),(8,_),(9,_),(10,_),(25,_),(26,_)] ?_
     simp only [Nat.zero_add,Nat.mul_one,Int.toNat_natCast]
     refine AWP.region ?_
     refine k_m rfl ?_
     refine rC (Calm.bin rfl rfl b_sub_i64) ?_
     refine rC ((by first | exact Calm.maxL rfl rfl (by omega) | exact Calm.maxR rfl rfl (by omega))) ?_
     refine k_s rfl ?_
     refine arun_nil ?_
     refine ain_n ?_
     refine athen_n ?_
     refine k_u [(0,_),(1,_),(6,_),(8,_),(9,_),(10,_),(25,_),(26,_)] ?_
     refine AWP.region ?_
     refine rC (Calm.bin rfl rfl b_add_i64) ?_
     refine k_m rfl (k_n ?_)
     refine ⟨(i+1,0),?_,?_,?_,?_⟩
     all_goals (try dsimp only)
     ·exact ⟨sq_,sq_,sq_,sq_,sq_,sq_,sq_,trivial⟩
     ·rw [← hset];exact Mem.Less.refl _
     ·exact ⟨hc,Nat.zero_le _,fun _ _=>Nat.zero_le _⟩
     ·omega
    ·refine k_a (k_m rfl (k_m rfl (k_m rfl ?_)))
     refine rC (Calm.indexS Try.underlying24 ty_size_3 rfl rfl (by omega) (by omega)) ?_
     refine rC (ld_ ty_plain_3 rfl) ?_
     refine k_m rfl ?_
     refine rC (Calm.indexS Try.underlying24 ty_size_3 rfl rfl (by omega) (by omega)) ?_
     refine ARun.store1 rfl rfl ty_size_3 rfl own_ (by show 0+((p+1:Nat):Int).toNat*1<_;rw [List.length_map];omega) rfl ?_
     try simp only [k_ms,k_sz,k_ss,k_za,Nat.reduceAdd]
     refine k_n ?_
     refine k_u [(0,_),(1,_),(6,_),(8,_),(9,_),(10,_),(25,_),(26,_)] ?_
     simp only [Nat.zero_add,Nat.mul_one,Int.toNat_natCast]
     refine AWP.region ?_
     refine k_m rfl ?_
     refine rC (Calm.bin rfl rfl b_sub_i64) ?_
     refine rC ((by first | exact Calm.maxL rfl rfl (by omega) | exact Calm.maxR rfl rfl (by omega))) ?_
     refine k_s rfl ?_
     refine arun_nil ?_
     refine ain_n ?_
     refine athen_n ?_
     refine k_u [(0,_),(1,_),(6,_),(8,_),(9,_),(10,_),(25,_),(26,_)] ?_
     refine AWP.region ?_
     refine rC (Calm.bin rfl rfl b_add_i64) ?_
     refine k_m rfl (k_n ?_)
     refine ⟨(i+1,k-1),?_,?_,?_,?_⟩
     all_goals (try dsimp only)
     ·exact ⟨sq_,sq_,sq_,sq_,sq_,sq_,sq_,trivial⟩
     ·rw [← hset];exact Mem.Less.refl _
     ·exact ⟨hc,by omega,fun h h'=>hkas (by omega) h'⟩
     ·omega
  ·obtain rfl:i=n:=by omega
   refine k_a ?_
   refine rC (Calm.bin rfl rfl b_lss) ?_
   refine k_n (AWP.seq ?_)
   refine k_F rfl ?_
   rw [← hln,Ord.comU_all l e (fun x hx=>he.lt hx)]
   refine AWP.exit ?_
   refine athen_exit ?_
   refine athen_exit ?_
   refine ain_same ?_
   refine athen_n ?_
   refine k_a (k_m rfl (k_s rfl (k_e rfl ?_)))
   refine k_u [(0,_),(1,_),(6,_),(8,_),(9,_),(25,_),(26,_),(27,_),(4,_),(5,_)] ?_
   refine AWP.ret ?_
   refine ⟨_,_,⟨_,_,rfl,⟨_,_,rfl,rfl,rfl⟩,rfl⟩,Mem.Less.refl _,?_⟩
   exact .inl ⟨hr,_,rfl,hS1.trans (Mem.less_set _ _ _ f23.1),by rw [heR];exact Sl.own1 (g:=gI) (l:=Ord.comR l e) (Mem.own_set_same _ _ _) List.prefix_rfl (by rw [comR_len];omega) (Nat.le_refl _) (by omega)⟩
 ·skip
  refine ACall.enter (rs:=[.tmp 4,.tmp 5]) 85 [(0,.slice va l.length vc),(1,.slice ea ends.length ec)] Try.func51 rfl rfl (Nat.le_of_ble_eq_true rfl) rfl ⟨rfl,rfl,trivial⟩ ?_
  refine k_a (k_s rfl (k_e rfl (AWP.seq (k_a ?_))))
  refine k_m rfl (k_m rfl ?_)
  refine ARun.call (lit_lt rfl) go_53 rfl (hR) ?_
  rintro _ S1 ⟨⟨t,rfl,ht⟩,h1⟩
  rw [h1];clear h1 S1
  obtain rfl:t=false:=by cases t with | false=>rfl | true=>exact absurd (ht.1 rfl) hr
  refine rC (Calm.un rfl (una_not _)) ?_
  refine k_n ?_
  refine k_u [(0,_),(1,_),(4,_),(5,_),(15,_)] ?_
  refine k_T rfl ?_
  refine k_a (k_s rfl (k_e rfl ?_))
  refine k_r ?_
  refine ⟨_,S,⟨_,_,rfl,⟨_,_,rfl,rfl,rfl⟩,rfl⟩,less_,?_⟩
  exact .inr ⟨hr,rfl,rfl⟩
end Go.Proofs.Ytgidjbpgkeemiaa
namespace Go.Proofs.Ytgidjbpgkeemiaa
open Go.RowKit
open Mv Num Loser Srt
set_option maxRecDepth 8000
def exB : ByteArray := bs [98, 97, 110, 97, 110, 97]
def exC : ByteArray := bs [97, 110, 110, 98, 97, 97]
theorem ex_num : numsT exB = [98, 97, 110, 97, 110, 97] := by decide +kernel
theorem ex_ends : Ord.endsR [98, 97, 110, 97, 110, 97] 6 = [5, 3, 1, 0, 4, 2] := by decide +kernel
theorem ex_col : colP exB = (exC, 4, 0) := by decide +kernel
theorem ex_txt : textP exC 4 = (exB, 0) := by decide +kernel
theorem ex_no : textP exC 0 = (bs [], 7) := by decide +kernel
theorem ex_com : Ord.comR [98, 97, 110, 97, 110, 97] [5, 3, 1, 0, 4, 2] = [0, 1, 3, 0, 0, 2] := by decide +kernel
theorem ex_right : RightE [98, 97, 110, 97, 110, 97] [5, 3, 1, 0, 4, 2] := ⟨[5, 3, 1, 0, 4, 2], rfl, by rw [← ex_ends]; exact Ord.endsR_ok _⟩
theorem ex_wrong (x : List Int) (h : x.length = 3) : ¬RightE [98, 97, 110, 97, 110, 97] x := fun hr => by have := (right_good hr).2; rw [h] at this; cases this
theorem ex_good : GoodE [2, 0, 1] := ⟨[2, 0, 1], rfl, by decide⟩
theorem ex_bad : ¬GoodE [1, 1] := fun h => by have := good_inj h 0 1 (by decide) (by decide) rfl; cases this
theorem ex_inv : InvOf [2, 0, 1] [1, 2, 0] := ⟨rfl, by decide⟩
set_option maxHeartbeats 4000000 in
theorem od_lives (S : Mem) : ACall Try.prog 46 #[] S fun r S' => r = .bool true ∧ S' = S := by
 refine ACall.enter (rs:=[.tmp 0]) 116 [] Try.func46 rfl rfl (Nat.le_of_ble_eq_true rfl) rfl trivial ?_
 refine k_a (k_e rfl (k_a ?_))
 refine ARun.call (lit_lt rfl) go_88 rfl (rr_Numbers exB _ (by decide)) ?_
 rintro u1 S1 ⟨hS1,hu1⟩
 rw [ex_num] at hu1
 obtain ⟨a1,c1,rfl,_⟩:=id hu1
 refine k_e rfl ?_
 refine k_u [(0,_),(1,_)] ?_
 refine k_a (k_m rfl ?_)
 refine ARun.call (lit_lt rfl) go_47 rfl (od_Ends _ _ _ hu1) ?_
 rintro _ S2 hE
 obtain ⟨_,u2,rfl,hS2,hu2⟩:=hE.resolve_right (fun h=>absurd h.1 (by decide))
 rw [show Ord.endsR [98,97,110,97,110,97] ([98,97,110,97,110,97] : List Nat).length = [5,3,1,0,4,2] from ex_ends] at hu2
 obtain ⟨a2,c2,rfl,_⟩:=id hu2
 replace hu1:=hu1.less hS2
 refine k_m rfl ?_
 refine rC (Calm.extract rfl rfl) ?_
 refine rC (Calm.extract rfl rfl) ?_
 refine k_s rfl (k_e rfl ?_)
 refine k_u [(0,_),(1,_),(2,_),(3,_)] ?_
 refine k_a ?_
 refine ARun.call (lit_lt rfl) go_55 rfl (od_Column exB _ (by decide)) ?_
 rintro _ S3 ⟨rfl,e3⟩
 rw [e3,ex_col];clear e3 S3
 refine k_m rfl ?_
 refine rC (Calm.extract rfl rfl) ?_
 refine rC (Calm.extract rfl rfl) ?_
 refine rC (Calm.extract rfl rfl) ?_
 refine k_s rfl (k_s rfl (k_e rfl ?_))
 refine k_u [(0,_),(1,_),(2,_),(3,_),(4,_),(5,_),(6,_)] ?_
 refine k_a ?_
 refine ARun.call (lit_lt rfl) go_57 rfl (od_Text exC 4 _) ?_
 rintro _ S3 ⟨rfl,e3⟩
 rw [e3,ex_txt];clear e3 S3
 refine k_m rfl ?_
 refine rC (Calm.extract rfl rfl) ?_
 refine rC (Calm.extract rfl rfl) ?_
 refine k_s rfl (k_e rfl ?_)
 refine k_u [(0,_),(1,_),(2,_),(3,_),(4,_),(5,_),(6,_),(7,_),(8,_)] ?_
 refine k_a (k_m rfl (k_m rfl ?_))
 refine ARun.call (lit_lt rfl) go_51 rfl (od_Common _ _ _ _ _ hu1 (idx_ints hu2) (by decide)) ?_
 rintro _ S3 hC
 obtain ⟨_,u3,rfl,hS3,hu3⟩:=hC.resolve_right (fun h=>h.1 ex_right)
 rw [show Ord.endsR [98,97,110,97,110,97] ([98,97,110,97,110,97] : List Nat).length = [5,3,1,0,4,2] from ex_ends,ex_com] at hu3
 obtain ⟨a3,c3,rfl,_⟩:=id hu3
 replace hu1:=hu1.less hS3
 replace hu2:=hu2.less hS3
 have hS13:=hS1.trans (hS2.trans hS3)
 refine k_m rfl ?_
 refine rC (Calm.extract rfl rfl) ?_
 refine rC (Calm.extract rfl rfl) ?_
 refine k_s rfl (k_e rfl ?_)
 refine k_u [(0,_),(1,_),(2,_),(3,_),(4,_),(5,_),(6,_),(7,_),(8,_),(9,_),(10,_)] ?_
 refine k_a ?_
 refine ARun.buildN (cs:=[_,_,_]) (lit_lt rfl) ty_sl_24 rfl rfl rfl rfl ?_
 intro b39 f39
 have g39:=f39
 repeat ((with_reducible replace g39:=fresh_set g39);obtain ⟨g39,_⟩:=g39)
 refine ARun.call (lit_lt rfl) go_49 rfl (or_Inverse _ [2,0,1] _ (sl_own3 own_) (by decide)) ?_
 rintro _ S4 hI
 obtain ⟨_,u4,x,hx,rfl,hN⟩:=hI.resolve_right (fun h=>h.1 ex_good)
 obtain rfl:x = [1,2,0]:=invOf_one ex_good hx ex_inv
 obtain ⟨hS4,hu4⟩:=hN.rd (by decide)
 clear hN
 obtain ⟨a4,c4,rfl,_⟩:=id hu4
 replace hS4:=(Mem.less_set _ _ _ f39.1).trans hS4
 replace hu1:=hu1.less hS4
 replace hu2:=hu2.less hS4
 replace hu3:=hu3.less hS4
 refine k_m rfl ?_
 refine rC (Calm.extract rfl rfl) ?_
 refine rC (Calm.extract rfl rfl) ?_
 refine k_s rfl (k_e rfl ?_)
 refine k_u [(0,_),(1,_),(2,_),(3,_),(4,_),(5,_),(6,_),(7,_),(8,_),(9,_),(10,_),(11,_),(12,_)] ?_
 refine k_a ?_
 refine ARun.buildN (cs:=[_,_]) (lit_lt rfl) ty_sl_24 rfl rfl rfl rfl ?_
 intro b44 f44
 have g44:=f44
 repeat ((with_reducible replace g44:=fresh_set g44);obtain ⟨g44,_⟩:=g44)
 refine ARun.call (lit_lt rfl) go_49 rfl (or_Inverse _ [1,1] _ (sl_own2 own_) (by decide)) ?_
 rintro _ S5 hI
 obtain ⟨_,rfl,e5⟩:=hI.resolve_left (fun h=>ex_bad h.1)
 clear hI;rw [e5];clear e5 S5
 have hS44:S4.Less (S4.set b44 ⟨3,[.int .i64 1,.int .i64 1],2⟩):=Mem.less_set _ _ _ f44.1
 replace hu1:=hu1.less hS44
 replace hu2:=hu2.less hS44
 replace hu3:=hu3.less hS44
 replace hu4:=hu4.less hS44
 refine k_m rfl ?_
 refine rC (Calm.extract rfl rfl) ?_
 refine rC (Calm.extract rfl rfl) ?_
 refine k_s rfl (k_e rfl ?_)
 refine k_u [(0,_),(1,_),(2,_),(3,_),(4,_),(5,_),(6,_),(7,_),(8,_),(9,_),(10,_),(11,_),(12,_),(14,_)] ?_
 refine k_a ?_
 refine ARun.call (lit_lt rfl) go_57 rfl (od_Text exC 0 _) ?_
 rintro _ S5 ⟨rfl,e5⟩
 rw [e5,ex_no];clear e5 S5
 refine k_m rfl ?_
 refine rC (Calm.extract rfl rfl) ?_
 refine rC (Calm.extract rfl rfl) ?_
 refine k_s rfl (k_e rfl ?_)
 refine k_u [(0,_),(1,_),(2,_),(3,_),(4,_),(5,_),(6,_),(7,_),(8,_),(9,_),(10,_),(11,_),(12,_),(14,_),(16,_)] ?_
 refine k_a (k_m rfl ?_)
 refine ARun.buildN (cs:=[_,_,_,_,_,_]) (lit_lt rfl) ty_sl_24 rfl rfl rfl rfl ?_
 intro b53 f53
 have g53:=f53
 repeat ((with_reducible replace g53:=fresh_set g53);obtain ⟨g53,_⟩:=g53)
 refine ARun.call (lit_lt rfl) go_21 rfl (si_SameNumbers [5,3,1,0,4,2] [5,3,1,0,4,2] _ _ _ (idx_ints (hu2.less (Mem.less_set _ _ _ f53.1))) (Sl.own1 (g:=gZ) (l:=[5,3,1,0,4,2]) (Mem.own_set_same _ _ _) List.prefix_rfl rfl (Nat.le_refl _) (by decide))) ?_
 rintro _ S8 ⟨rfl,e1⟩
 rw [e1,decide_eq_true (Eq.refl _)];clear e1 S8
 refine k_m rfl ?_
 first|refine k_q 55 ?_|refine rG 55 (Calm.move rfl) ?_
 first|refine k_q 55 ?_|refine rG 55 (Calm.bin rfl rfl b_eql) ?_
 first|refine k_t rfl rfl ?_|refine k_f rfl rfl ?_
 refine k_m rfl ?_
 first|refine k_q 59 ?_|refine rG 59 (Calm.move rfl) ?_
 first|refine k_q 59 ?_|refine rG 59 (Calm.bin rfl rfl (bin_str_eql _ _)) ?_
 first|refine k_t rfl rfl ?_|refine k_f rfl rfl ?_
 refine k_m rfl ?_
 first|refine k_q 63 ?_|refine rG 63 (Calm.move rfl) ?_
 first|refine k_q 63 ?_|refine rG 63 (Calm.bin rfl rfl b_eql) ?_
 first|refine k_t rfl rfl ?_|refine k_f rfl rfl ?_
 refine k_m rfl ?_
 first|refine k_q 67 ?_|refine rG 67 (Calm.move rfl) ?_
 first|refine k_q 67 ?_|refine rG 67 (Calm.bin rfl rfl b_eql) ?_
 first|refine k_t rfl rfl ?_|refine k_f rfl rfl ?_
 refine k_m rfl ?_
 first|refine k_q 71 ?_|refine rG 71 (Calm.move rfl) ?_
 first|refine k_q 71 ?_|refine rG 71 (Calm.bin rfl rfl (bin_str_eql _ _)) ?_
 first|refine k_t rfl rfl ?_|refine k_f rfl rfl ?_
 refine k_m rfl ?_
 first|refine k_q 75 ?_|refine rG 75 (Calm.move rfl) ?_
 first|refine k_q 75 ?_|refine rG 75 (Calm.bin rfl rfl b_eql) ?_
 first|refine k_t rfl rfl ?_|refine k_f rfl rfl ?_
 refine k_m rfl ?_
 first|refine k_q 79 ?_|refine rG 79 (Calm.move rfl) ?_
 refine rUn 79 ?_
 refine ARun.buildN (cs:=[_,_,_,_,_,_]) (lit_lt rfl) ty_sl_24 rfl rfl rfl rfl ?_
 intro b81 f81
 have g81:=f81
 repeat ((with_reducible replace g81:=fresh_set g81);obtain ⟨g81,_⟩:=g81)
 refine ARun.callG 27 true 79 rfl (lit_lt rfl) rfl (lit_lt rfl) go_21 rfl (si_SameNumbers [0,1,3,0,0,2] [0,1,3,0,0,2] _ _ _ (idx_ints (hu3.less less_)) (Sl.own1 (g:=gZ) (l:=[0,1,3,0,0,2]) own_ List.prefix_rfl rfl (Nat.le_refl _) (by decide))) ?_
 rintro _ S8 ⟨rfl,e1⟩
 rw [e1,decide_eq_true (Eq.refl _)];clear e1 S8
 first|refine k_t rfl rfl ?_|refine k_f rfl rfl ?_
 refine k_m rfl ?_
 first|refine k_q 84 ?_|refine rG 84 (Calm.move rfl) ?_
 first|refine k_q 84 ?_|refine rG 84 (Calm.bin rfl rfl b_eql) ?_
 first|refine k_t rfl rfl ?_|refine k_f rfl rfl ?_
 refine k_m rfl ?_
 first|refine k_q 88 ?_|refine rG 88 (Calm.move rfl) ?_
 refine rUn 88 ?_
 refine ARun.buildN (cs:=[_,_,_]) (lit_lt rfl) ty_sl_24 rfl rfl rfl rfl ?_
 intro b90 f90
 have g90:=f90
 repeat ((with_reducible replace g90:=fresh_set g90);obtain ⟨g90,_⟩:=g90)
 refine ARun.callG 36 true 88 rfl (lit_lt rfl) rfl (lit_lt rfl) go_21 rfl (si_SameNumbers [1,2,0] [1,2,0] _ _ _ (hu4.less less_) (Sl.own1 (g:=gZ) (l:=[1,2,0]) own_ List.prefix_rfl rfl (Nat.le_refl _) (by decide))) ?_
 rintro _ S8 ⟨rfl,e1⟩
 rw [e1,decide_eq_true (Eq.refl _)];clear e1 S8
 first|refine k_t rfl rfl ?_|refine k_f rfl rfl ?_
 refine k_m rfl ?_
 first|refine k_q 93 ?_|refine rG 93 (Calm.move rfl) ?_
 first|refine k_q 93 ?_|refine rG 93 (Calm.bin rfl rfl b_eql) ?_
 first|refine k_t rfl rfl ?_|refine k_f rfl rfl ?_
 refine k_m rfl ?_
 first|refine k_q 97 ?_|refine rG 97 (Calm.move rfl) ?_
 first|refine k_q 97 ?_|refine rG 97 (Calm.bin rfl rfl b_eql) ?_
 first|refine k_t rfl rfl ?_|refine k_f rfl rfl ?_
 refine k_m rfl ?_
 first|refine k_q 101 ?_|refine rG 101 (Calm.move rfl) ?_
 first|refine k_q 101 ?_|refine rG 101 (Calm.bin rfl rfl b_eql) ?_
 first|refine k_t rfl rfl ?_|refine k_f rfl rfl ?_
 refine k_m rfl ?_
 first|refine k_q 105 ?_|refine rG 105 (Calm.move rfl) ?_
 first|refine k_q 105 ?_|refine rG 105 (Calm.move rfl) ?_
 refine ARun.callG 53 true 105 rfl (lit_lt rfl) rfl (lit_lt rfl) go_53 rfl (or_Right _ _ _ [5,3,1,0,4,2] _ (hu1.less less_) (idx_ints (hu2.less less_)) (by decide)) ?_
 rintro _ S8 ⟨⟨t,rfl,ht⟩,e1⟩
 rw [e1,ht.2 ex_right];clear e1 ht S8
 first|refine k_t rfl rfl ?_|refine k_f rfl rfl ?_
 refine k_m rfl ?_
 first|refine k_q 110 ?_|refine rG 110 (Calm.move rfl) ?_
 first|refine k_q 110 ?_|refine rG 110 (Calm.move rfl) ?_
 refine ARun.callG 58 true 110 rfl (lit_lt rfl) rfl (lit_lt rfl) go_53 rfl (or_Right _ _ _ [1,2,0] _ (hu1.less less_) (hu4.less less_) (by decide)) ?_
 rintro _ S8 ⟨⟨t2,rfl,ht⟩,e1⟩
 rw [e1];clear e1 S8;obtain rfl:t2=false:=by cases t2 with | false=>rfl | true=>exact absurd (ht.1 rfl) (ex_wrong _ rfl)
 first|refine k_q 110 ?_|refine rG 110 (Calm.un rfl (una_not _)) ?_
 first|refine k_t rfl rfl ?_|refine k_f rfl rfl ?_
 refine k_e rfl ?_
 refine k_u [(0,_),(1,_),(2,_),(3,_),(4,_),(5,_),(6,_),(7,_),(8,_),(9,_),(10,_),(11,_),(12,_),(14,_),(16,_)] ?_
 refine AWP.ret ?_
 refine ⟨_,S,⟨_,_,rfl,rfl,rfl⟩,hS13.trans (hS4.trans less_),?_⟩
 exact ⟨rfl,rfl⟩
end Go.Proofs.Ytgidjbpgkeemiaa
namespace Go.Proofs.Ytgidjbpgkeemiaa
open Go.RowKit
open Mv Num Loser Srt
set_option maxRecDepth 4000
/-! ### What is told, as one list and one error -/
def EndsAns (l : List Nat) (x : List Nat) (w : Int) : Prop := (l.length ≤ 4096 ∧ x = Ord.endsR l l.length ∧ w = 0) ∨ (4096 < l.length ∧ x = [] ∧ w = 1)
theorem ends_ans {l : List Nat} {S : Mem} {r : Value} {S' : Mem} (h : EndsR l S r S') : ∃ u x w, r = .tuple #[u, .int .i64 w] ∧ S.Less S' ∧ IdxR S' u x ∧ EndsAns l x w := by
 rcases h with ⟨h,u,rfl,h1,h2⟩ | ⟨h,rfl,rfl⟩
 ·exact ⟨u,_,0,rfl,h1,h2,.inl ⟨h,rfl,rfl⟩⟩
 ·exact ⟨_,[],1,rfl,Mem.Less.refl _,Sl.nil _ _ _,.inr ⟨h,rfl,rfl⟩⟩
theorem ends_one {l x y : List Nat} {w v : Int} (h : EndsAns l x w) (h' : EndsAns l y v) : y = x ∧ v = w := by
 rcases h with ⟨h,h1,h2⟩ | ⟨h,h1,h2⟩ <;> rcases h' with ⟨g,g1,g2⟩ | ⟨g,g1,g2⟩
 ·exact ⟨by rw [h1,g1],by rw [h2,g2]⟩
 ·omega
 ·omega
 ·exact ⟨by rw [h1,g1],by rw [h2,g2]⟩
def InvAns (l x : List Int) (w : Int) : Prop := (GoodE l ∧ InvOf l x ∧ w = 0) ∨ (¬GoodE l ∧ x = [] ∧ w = 2)
theorem inv_ans {l : List Int} {S : Mem} {r : Value} {S' : Mem} (h : InvR l S r S') (hm : l.length ≤ 9223372036854775807) : ∃ u x w, r = .tuple #[u, .int .i64 w] ∧ S.Less S' ∧ Sl 1 i64s S' u x ∧ InvAns l x w := by
 rcases h with ⟨h,u,x,hx,rfl,hN⟩ | ⟨h,rfl,rfl⟩
 ·obtain ⟨h1,h2⟩:=hN.rd (by have:=hx.1;omega)
  exact ⟨u,x,0,rfl,h1,h2,.inl ⟨h,hx,rfl⟩⟩
 ·exact ⟨_,[],2,rfl,Mem.Less.refl _,Sl.nil _ _ _,.inr ⟨h,rfl,rfl⟩⟩
theorem inv_one {l x y : List Int} {w v : Int} (h : InvAns l x w) (h' : InvAns l y v) : y = x ∧ v = w := by
 rcases h with ⟨h,h1,h2⟩ | ⟨h,h1,h2⟩ <;> rcases h' with ⟨g,g1,g2⟩ | ⟨g,g1,g2⟩
 ·exact ⟨invOf_one h g1 h1,by rw [h2,g2]⟩
 ·exact absurd h g
 ·exact absurd g h
 ·exact ⟨by rw [h1,g1],by rw [h2,g2]⟩
def ComAns (l : List Nat) (ends : List Int) (x : List Nat) (w : Int) : Prop := (RightE l ends ∧ x = Ord.comR l (Ord.endsR l l.length) ∧ w = 0) ∨ (¬RightE l ends ∧ x = [] ∧ w = 2)
theorem com_ans {l : List Nat} {ends : List Int} {S : Mem} {r : Value} {S' : Mem} (h : ComR l ends S r S') : ∃ u x w, r = .tuple #[u, .int .i64 w] ∧ S.Less S' ∧ IdxR S' u x ∧ ComAns l ends x w := by
 rcases h with ⟨h,u,rfl,h1,h2⟩ | ⟨h,rfl,rfl⟩
 ·exact ⟨u,_,0,rfl,h1,h2,.inl ⟨h,rfl,rfl⟩⟩
 ·exact ⟨_,[],2,rfl,Mem.Less.refl _,Sl.nil _ _ _,.inr ⟨h,rfl,rfl⟩⟩
theorem com_one {l : List Nat} {ends : List Int} {x y : List Nat} {w v : Int} (h : ComAns l ends x w) (h' : ComAns l ends y v) : y = x ∧ v = w := by
 rcases h with ⟨h,h1,h2⟩ | ⟨h,h1,h2⟩ <;> rcases h' with ⟨g,g1,g2⟩ | ⟨g,g1,g2⟩
 ·exact ⟨by rw [h1,g1],by rw [h2,g2]⟩
 ·exact absurd h g
 ·exact absurd g h
 ·exact ⟨by rw [h1,g1],by rw [h2,g2]⟩
set_option maxHeartbeats 4000000 in
theorem law_OrderEnds (v ve : Value) (l : List Nat) (ends : List Int) (S : Mem) (hv : RowR S v l) (hve : Sl 1 i64s S ve ends) (hel : ends.length ≤ 17592186043904) :
  ACall Try.prog 8 #[v,ve] S fun r S'=>r = .bool true:=by
 obtain ⟨a,cap,rfl,_⟩:=id hv
 obtain ⟨ea,ec,rfl,_⟩:=id hve
 rcases (by omega:l.length≤300∨300<l.length∧4096<l.length∨300<l.length∧l.length≤4096) with hb | hb | hb
 ·skip
  refine ACall.enter (rs:=[.tmp 4]) 98 [(0,.slice a l.length cap),(1,.slice ea ends.length ec)] Try.func8 rfl rfl (Nat.le_of_ble_eq_true rfl) rfl ⟨rfl,rfl,trivial⟩ ?_
  refine k_a (k_e rfl (AWP.seq (k_a (k_m rfl ?_))))
  refine rC (Calm.lenSl Try.underlying22 rfl) ?_
  refine rC (Calm.bin rfl rfl b_gtr) ?_
  refine k_m rfl ?_
  first|refine k_q 20 ?_|refine rG 20 (Calm.move rfl) ?_
  first|refine k_q 20 ?_|refine rG 20 (Calm.lenSl Try.underlying22 rfl) ?_
  first|refine k_q 20 ?_|refine rG 20 (Calm.bin rfl rfl b_leq) ?_
  first|refine k_t rfl rfl ?_|refine k_f rfl rfl ?_
  refine k_n ?_
  refine k_u [(0,_),(1,_),(4,_),(24,_)] ?_
  refine k_F rfl ?_
  refine k_k (k_a (k_m rfl ?_))
  refine ARun.call (lit_lt rfl) go_47 rfl (od_Ends _ l _ hv) ?_
  rintro _ S1 hE1
  obtain ⟨u1,x1,w1,rfl,hS1,hu1,A1⟩:=ends_ans hE1
  clear hE1
  obtain ⟨a1,c1,rfl,_⟩:=id hu1
  replace hv:=hv.less hS1
  replace hve:=hve.less hS1
  refine k_m rfl ?_
  refine rC (Calm.extract rfl rfl) ?_
  refine rC (Calm.extract rfl rfl) ?_
  refine k_s rfl (k_e rfl ?_)
  refine k_u [(0,_),(1,_),(4,_),(24,_),(5,_),(6,_)] ?_
  refine k_a (k_m rfl ?_)
  refine ARun.call (lit_lt rfl) go_48 rfl (rr_Ends _ l _ hv) ?_
  rintro _ S2 hE2
  obtain ⟨u2,x2,w2,rfl,hS2,hu2,A2⟩:=ends_ans hE2
  clear hE2
  obtain ⟨rfl,rfl⟩:=ends_one A1 A2
  obtain ⟨a2,c2,rfl,_⟩:=id hu2
  replace hv:=hv.less hS2
  replace hve:=hve.less hS2
  replace hu1:=hu1.less hS2
  refine k_m rfl ?_
  refine rC (Calm.extract rfl rfl) ?_
  refine rC (Calm.extract rfl rfl) ?_
  refine k_s rfl (k_e rfl ?_)
  refine k_u [(0,_),(1,_),(4,_),(24,_),(5,_),(6,_),(7,_),(8,_)] ?_
  refine k_a (k_m rfl ?_)
  refine ARun.call (lit_lt rfl) go_49 rfl (or_Inverse _ ends _ hve hel) ?_
  rintro _ S3 hI1
  obtain ⟨u3,x3,w3,rfl,hS3,hu3,A3⟩:=inv_ans hI1 (by omega)
  clear hI1
  obtain ⟨a3,c3,rfl,_⟩:=id hu3
  replace hv:=hv.less hS3
  replace hve:=hve.less hS3
  replace hu1:=hu1.less hS3
  replace hu2:=hu2.less hS3
  refine k_m rfl ?_
  refine rC (Calm.extract rfl rfl) ?_
  refine rC (Calm.extract rfl rfl) ?_
  refine k_s rfl (k_e rfl ?_)
  refine k_u [(0,_),(1,_),(4,_),(24,_),(5,_),(6,_),(7,_),(8,_),(9,_),(10,_)] ?_
  refine k_a (k_m rfl ?_)
  refine ARun.call (lit_lt rfl) go_50 rfl (rr_Inverse _ ends _ hve hel) ?_
  rintro _ S4 hI2
  obtain ⟨u4,x4,w4,rfl,hS4,hu4,A4⟩:=inv_ans hI2 (by omega)
  clear hI2
  obtain ⟨rfl,rfl⟩:=inv_one A3 A4
  obtain ⟨a4,c4,rfl,_⟩:=id hu4
  replace hv:=hv.less hS4
  replace hve:=hve.less hS4
  replace hu1:=hu1.less hS4
  replace hu2:=hu2.less hS4
  replace hu3:=hu3.less hS4
  refine k_m rfl ?_
  refine rC (Calm.extract rfl rfl) ?_
  refine rC (Calm.extract rfl rfl) ?_
  refine k_s rfl (k_e rfl ?_)
  refine k_u [(0,_),(1,_),(4,_),(24,_),(5,_),(6,_),(7,_),(8,_),(9,_),(10,_),(11,_),(12,_)] ?_
  refine k_a (k_m rfl (k_m rfl ?_))
  refine ARun.call (lit_lt rfl) go_51 rfl (od_Common _ _ l ends _ hv hve hel) ?_
  rintro _ S5 hC1
  obtain ⟨u5,x5,w5,rfl,hS5,hu5,A5⟩:=com_ans hC1
  clear hC1
  obtain ⟨a5,c5,rfl,_⟩:=id hu5
  replace hv:=hv.less hS5
  replace hve:=hve.less hS5
  replace hu1:=hu1.less hS5
  replace hu2:=hu2.less hS5
  replace hu3:=hu3.less hS5
  replace hu4:=hu4.less hS5
  refine k_m rfl ?_
  refine rC (Calm.extract rfl rfl) ?_
  refine rC (Calm.extract rfl rfl) ?_
  refine k_s rfl (k_e rfl ?_)
  refine k_u [(0,_),(1,_),(4,_),(24,_),(5,_),(6,_),(7,_),(8,_),(9,_),(10,_),(11,_),(12,_),(13,_),(14,_)] ?_
  refine k_a (k_m rfl (k_m rfl ?_))
  refine ARun.call (lit_lt rfl) go_52 rfl (rr_Common _ _ l ends _ hv hve hel) ?_
  rintro _ S6 hC2
  obtain ⟨u6,x6,w6,rfl,hS6,hu6,A6⟩:=com_ans hC2
  clear hC2
  obtain ⟨rfl,rfl⟩:=com_one A5 A6
  obtain ⟨a6,c6,rfl,_⟩:=id hu6
  replace hv:=hv.less hS6
  replace hve:=hve.less hS6
  replace hu1:=hu1.less hS6
  replace hu2:=hu2.less hS6
  replace hu3:=hu3.less hS6
  replace hu4:=hu4.less hS6
  replace hu5:=hu5.less hS6
  refine k_m rfl ?_
  refine rC (Calm.extract rfl rfl) ?_
  refine rC (Calm.extract rfl rfl) ?_
  refine k_s rfl (k_e rfl ?_)
  refine k_u [(0,_),(1,_),(4,_),(24,_),(5,_),(6,_),(7,_),(8,_),(9,_),(10,_),(11,_),(12,_),(13,_),(14,_),(15,_),(16,_)] ?_
  refine k_a ?_
  refine ARun.call (lit_lt rfl) go_46 rfl (od_lives _) ?_
  rintro _ S8 ⟨rfl,e1⟩
  rw [e1];clear e1 S8
  refine k_m rfl ?_
  first|refine k_q 59 ?_|refine rG 59 (Calm.move rfl) ?_
  first|refine k_q 59 ?_|refine rG 59 (Calm.move rfl) ?_
  refine ARun.callG 1 true 59 rfl (lit_lt rfl) rfl (lit_lt rfl) go_21 rfl (si_SameNumbers _ _ _ _ _ (idx_ints hu1) (idx_ints hu2)) ?_
  rintro _ S8 ⟨rfl,e1⟩
  rw [e1,decide_eq_true (Eq.refl _)];clear e1 S8
  first|refine k_t rfl rfl ?_|refine k_f rfl rfl ?_
  refine k_m rfl ?_
  first|refine k_q 64 ?_|refine rG 64 (Calm.move rfl) ?_
  first|refine k_q 64 ?_|refine rG 64 (Calm.move rfl) ?_
  first|refine k_q 64 ?_|refine rG 64 (Calm.bin rfl rfl b_eql) ?_
  first|refine k_t rfl rfl ?_|refine k_f rfl rfl ?_
  refine k_m rfl ?_
  first|refine k_q 69 ?_|refine rG 69 (Calm.move rfl) ?_
  first|refine k_q 69 ?_|refine rG 69 (Calm.move rfl) ?_
  refine ARun.callG 11 true 69 rfl (lit_lt rfl) rfl (lit_lt rfl) go_21 rfl (si_SameNumbers _ _ _ _ _ hu3 hu4) ?_
  rintro _ S8 ⟨rfl,e1⟩
  rw [e1,decide_eq_true (Eq.refl _)];clear e1 S8
  first|refine k_t rfl rfl ?_|refine k_f rfl rfl ?_
  refine k_m rfl ?_
  first|refine k_q 74 ?_|refine rG 74 (Calm.move rfl) ?_
  first|refine k_q 74 ?_|refine rG 74 (Calm.move rfl) ?_
  first|refine k_q 74 ?_|refine rG 74 (Calm.bin rfl rfl b_eql) ?_
  first|refine k_t rfl rfl ?_|refine k_f rfl rfl ?_
  refine k_m rfl ?_
  first|refine k_q 79 ?_|refine rG 79 (Calm.move rfl) ?_
  first|refine k_q 79 ?_|refine rG 79 (Calm.move rfl) ?_
  refine ARun.callG 21 true 79 rfl (lit_lt rfl) rfl (lit_lt rfl) go_21 rfl (si_SameNumbers _ _ _ _ _ (idx_ints hu5) (idx_ints hu6)) ?_
  rintro _ S8 ⟨rfl,e1⟩
  rw [e1,decide_eq_true (Eq.refl _)];clear e1 S8
  first|refine k_t rfl rfl ?_|refine k_f rfl rfl ?_
  refine k_m rfl ?_
  first|refine k_q 84 ?_|refine rG 84 (Calm.move rfl) ?_
  first|refine k_q 84 ?_|refine rG 84 (Calm.move rfl) ?_
  first|refine k_q 84 ?_|refine rG 84 (Calm.bin rfl rfl b_eql) ?_
  first|refine k_t rfl rfl ?_|refine k_f rfl rfl ?_
  refine k_m rfl ?_
  first|refine k_q 89 ?_|refine rG 89 (Calm.move rfl) ?_
  first|refine k_q 89 ?_|refine rG 89 (Calm.move rfl) ?_
  refine ARun.callG 31 true 89 rfl (lit_lt rfl) rfl (lit_lt rfl) go_53 rfl (or_Right _ _ l ends _ hv hve hel) ?_
  rintro _ S8 ⟨⟨t1,rfl,ht1⟩,e1⟩
  rw [e1];clear e1 S8
  first|refine k_q 89 ?_|refine rG 89 (Calm.move rfl) ?_
  first|refine k_q 89 ?_|refine rG 89 (Calm.move rfl) ?_
  refine ARun.callG 31 true 89 rfl (lit_lt rfl) rfl (lit_lt rfl) go_54 rfl (rr_Right _ _ l ends _ hv hve hel) ?_
  rintro _ S8 ⟨⟨t2,rfl,ht2⟩,e1⟩
  rw [e1];clear e1 S8
  obtain rfl:t1=t2:=by rw [Bool.eq_iff_iff,ht1,ht2]
  first|refine k_q 89 ?_|refine rG 89 (Calm.bin rfl rfl (bin_bool (bin_bool_eql _ _ Try.underlying4) (beq_self_eq_true _))) ?_
  first|refine k_t rfl rfl ?_|refine k_f rfl rfl ?_
  refine k_e rfl ?_
  refine k_u [(0,_),(1,_),(4,_),(24,_),(5,_),(6,_),(7,_),(8,_),(9,_),(10,_),(11,_),(12,_),(13,_),(14,_),(15,_),(16,_)] ?_
  refine AWP.ret ?_
  refine ⟨_,_,⟨_,_,rfl,rfl,rfl⟩,less_,?_⟩
  rfl
 ·skip
  refine ACall.enter (rs:=[.tmp 4]) 98 [(0,.slice a l.length cap),(1,.slice ea ends.length ec)] Try.func8 rfl rfl (Nat.le_of_ble_eq_true rfl) rfl ⟨rfl,rfl,trivial⟩ ?_
  refine k_a (k_e rfl (AWP.seq (k_a (k_m rfl ?_))))
  refine rC (Calm.lenSl Try.underlying22 rfl) ?_
  refine rC (Calm.bin rfl rfl b_gtr) ?_
  refine k_m rfl ?_
  first|refine k_q 20 ?_|refine rG 20 (Calm.move rfl) ?_
  first|refine k_q 20 ?_|refine rG 20 (Calm.lenSl Try.underlying22 rfl) ?_
  first|refine k_q 20 ?_|refine rG 20 (Calm.bin rfl rfl b_leq) ?_
  first|refine k_t rfl rfl ?_|refine k_f rfl rfl ?_
  refine k_n ?_
  refine k_u [(0,_),(1,_),(4,_),(24,_)] ?_
  refine k_F rfl ?_
  refine k_k (k_a (k_m rfl ?_))
  refine ARun.call (lit_lt rfl) go_47 rfl (od_Ends _ l _ hv) ?_
  rintro _ S1 hE1
  obtain ⟨u1,x1,w1,rfl,hS1,hu1,A1⟩:=ends_ans hE1
  clear hE1
  obtain ⟨a1,c1,rfl,_⟩:=id hu1
  replace hv:=hv.less hS1
  replace hve:=hve.less hS1
  refine k_m rfl ?_
  refine rC (Calm.extract rfl rfl) ?_
  refine rC (Calm.extract rfl rfl) ?_
  refine k_s rfl (k_e rfl ?_)
  refine k_u [(0,_),(1,_),(4,_),(24,_),(5,_),(6,_)] ?_
  refine k_a (k_m rfl ?_)
  refine ARun.call (lit_lt rfl) go_48 rfl (rr_Ends _ l _ hv) ?_
  rintro _ S2 hE2
  obtain ⟨u2,x2,w2,rfl,hS2,hu2,A2⟩:=ends_ans hE2
  clear hE2
  obtain ⟨rfl,rfl⟩:=ends_one A1 A2
  obtain ⟨a2,c2,rfl,_⟩:=id hu2
  replace hv:=hv.less hS2
  replace hve:=hve.less hS2
  replace hu1:=hu1.less hS2
  refine k_m rfl ?_
  refine rC (Calm.extract rfl rfl) ?_
  refine rC (Calm.extract rfl rfl) ?_
  refine k_s rfl (k_e rfl ?_)
  refine k_u [(0,_),(1,_),(4,_),(24,_),(5,_),(6,_),(7,_),(8,_)] ?_
  refine k_a (k_m rfl ?_)
  refine ARun.call (lit_lt rfl) go_49 rfl (or_Inverse _ ends _ hve hel) ?_
  rintro _ S3 hI1
  obtain ⟨u3,x3,w3,rfl,hS3,hu3,A3⟩:=inv_ans hI1 (by omega)
  clear hI1
  obtain ⟨a3,c3,rfl,_⟩:=id hu3
  replace hv:=hv.less hS3
  replace hve:=hve.less hS3
  replace hu1:=hu1.less hS3
  replace hu2:=hu2.less hS3
  refine k_m rfl ?_
  refine rC (Calm.extract rfl rfl) ?_
  refine rC (Calm.extract rfl rfl) ?_
  refine k_s rfl (k_e rfl ?_)
  refine k_u [(0,_),(1,_),(4,_),(24,_),(5,_),(6,_),(7,_),(8,_),(9,_),(10,_)] ?_
  refine k_a (k_m rfl ?_)
  refine ARun.call (lit_lt rfl) go_50 rfl (rr_Inverse _ ends _ hve hel) ?_
  rintro _ S4 hI2
  obtain ⟨u4,x4,w4,rfl,hS4,hu4,A4⟩:=inv_ans hI2 (by omega)
  clear hI2
  obtain ⟨rfl,rfl⟩:=inv_one A3 A4
  obtain ⟨a4,c4,rfl,_⟩:=id hu4
  replace hv:=hv.less hS4
  replace hve:=hve.less hS4
  replace hu1:=hu1.less hS4
  replace hu2:=hu2.less hS4
  replace hu3:=hu3.less hS4
  refine k_m rfl ?_
  refine rC (Calm.extract rfl rfl) ?_
  refine rC (Calm.extract rfl rfl) ?_
  refine k_s rfl (k_e rfl ?_)
  refine k_u [(0,_),(1,_),(4,_),(24,_),(5,_),(6,_),(7,_),(8,_),(9,_),(10,_),(11,_),(12,_)] ?_
  refine k_a (k_m rfl (k_m rfl ?_))
  refine ARun.call (lit_lt rfl) go_51 rfl (od_Common _ _ l ends _ hv hve hel) ?_
  rintro _ S5 hC1
  obtain ⟨u5,x5,w5,rfl,hS5,hu5,A5⟩:=com_ans hC1
  clear hC1
  obtain ⟨a5,c5,rfl,_⟩:=id hu5
  replace hv:=hv.less hS5
  replace hve:=hve.less hS5
  replace hu1:=hu1.less hS5
  replace hu2:=hu2.less hS5
  replace hu3:=hu3.less hS5
  replace hu4:=hu4.less hS5
  refine k_m rfl ?_
  refine rC (Calm.extract rfl rfl) ?_
  refine rC (Calm.extract rfl rfl) ?_
  refine k_s rfl (k_e rfl ?_)
  refine k_u [(0,_),(1,_),(4,_),(24,_),(5,_),(6,_),(7,_),(8,_),(9,_),(10,_),(11,_),(12,_),(13,_),(14,_)] ?_
  refine k_a (k_m rfl (k_m rfl ?_))
  refine ARun.call (lit_lt rfl) go_52 rfl (rr_Common _ _ l ends _ hv hve hel) ?_
  rintro _ S6 hC2
  obtain ⟨u6,x6,w6,rfl,hS6,hu6,A6⟩:=com_ans hC2
  clear hC2
  obtain ⟨rfl,rfl⟩:=com_one A5 A6
  obtain ⟨a6,c6,rfl,_⟩:=id hu6
  replace hv:=hv.less hS6
  replace hve:=hve.less hS6
  replace hu1:=hu1.less hS6
  replace hu2:=hu2.less hS6
  replace hu3:=hu3.less hS6
  replace hu4:=hu4.less hS6
  replace hu5:=hu5.less hS6
  refine k_m rfl ?_
  refine rC (Calm.extract rfl rfl) ?_
  refine rC (Calm.extract rfl rfl) ?_
  refine k_s rfl (k_e rfl ?_)
  refine k_u [(0,_),(1,_),(4,_),(24,_),(5,_),(6,_),(7,_),(8,_),(9,_),(10,_),(11,_),(12,_),(13,_),(14,_),(15,_),(16,_)] ?_
  refine k_a ?_
  refine ARun.call (lit_lt rfl) go_46 rfl (od_lives _) ?_
  rintro _ S8 ⟨rfl,e1⟩
  rw [e1];clear e1 S8
  refine k_m rfl ?_
  first|refine k_q 59 ?_|refine rG 59 (Calm.move rfl) ?_
  first|refine k_q 59 ?_|refine rG 59 (Calm.move rfl) ?_
  refine ARun.callG 1 true 59 rfl (lit_lt rfl) rfl (lit_lt rfl) go_21 rfl (si_SameNumbers _ _ _ _ _ (idx_ints hu1) (idx_ints hu2)) ?_
  rintro _ S8 ⟨rfl,e1⟩
  rw [e1,decide_eq_true (Eq.refl _)];clear e1 S8
  first|refine k_t rfl rfl ?_|refine k_f rfl rfl ?_
  refine k_m rfl ?_
  first|refine k_q 64 ?_|refine rG 64 (Calm.move rfl) ?_
  first|refine k_q 64 ?_|refine rG 64 (Calm.move rfl) ?_
  first|refine k_q 64 ?_|refine rG 64 (Calm.bin rfl rfl b_eql) ?_
  first|refine k_t rfl rfl ?_|refine k_f rfl rfl ?_
  refine k_m rfl ?_
  first|refine k_q 69 ?_|refine rG 69 (Calm.move rfl) ?_
  first|refine k_q 69 ?_|refine rG 69 (Calm.move rfl) ?_
  refine ARun.callG 11 true 69 rfl (lit_lt rfl) rfl (lit_lt rfl) go_21 rfl (si_SameNumbers _ _ _ _ _ hu3 hu4) ?_
  rintro _ S8 ⟨rfl,e1⟩
  rw [e1,decide_eq_true (Eq.refl _)];clear e1 S8
  first|refine k_t rfl rfl ?_|refine k_f rfl rfl ?_
  refine k_m rfl ?_
  first|refine k_q 74 ?_|refine rG 74 (Calm.move rfl) ?_
  first|refine k_q 74 ?_|refine rG 74 (Calm.move rfl) ?_
  first|refine k_q 74 ?_|refine rG 74 (Calm.bin rfl rfl b_eql) ?_
  first|refine k_t rfl rfl ?_|refine k_f rfl rfl ?_
  refine k_m rfl ?_
  first|refine k_q 79 ?_|refine rG 79 (Calm.move rfl) ?_
  first|refine k_q 79 ?_|refine rG 79 (Calm.move rfl) ?_
  refine ARun.callG 21 true 79 rfl (lit_lt rfl) rfl (lit_lt rfl) go_21 rfl (si_SameNumbers _ _ _ _ _ (idx_ints hu5) (idx_ints hu6)) ?_
  rintro _ S8 ⟨rfl,e1⟩
  rw [e1,decide_eq_true (Eq.refl _)];clear e1 S8
  first|refine k_t rfl rfl ?_|refine k_f rfl rfl ?_
  refine k_m rfl ?_
  first|refine k_q 84 ?_|refine rG 84 (Calm.move rfl) ?_
  first|refine k_q 84 ?_|refine rG 84 (Calm.move rfl) ?_
  first|refine k_q 84 ?_|refine rG 84 (Calm.bin rfl rfl b_eql) ?_
  first|refine k_t rfl rfl ?_|refine k_f rfl rfl ?_
  refine k_m rfl ?_
  first|refine k_q 89 ?_|refine rG 89 (Calm.move rfl) ?_
  first|refine k_q 89 ?_|refine rG 89 (Calm.move rfl) ?_
  refine ARun.callG 31 true 89 rfl (lit_lt rfl) rfl (lit_lt rfl) go_53 rfl (or_Right _ _ l ends _ hv hve hel) ?_
  rintro _ S8 ⟨⟨t1,rfl,ht1⟩,e1⟩
  rw [e1];clear e1 S8
  first|refine k_q 89 ?_|refine rG 89 (Calm.move rfl) ?_
  first|refine k_q 89 ?_|refine rG 89 (Calm.move rfl) ?_
  refine ARun.callG 31 true 89 rfl (lit_lt rfl) rfl (lit_lt rfl) go_54 rfl (rr_Right _ _ l ends _ hv hve hel) ?_
  rintro _ S8 ⟨⟨t2,rfl,ht2⟩,e1⟩
  rw [e1];clear e1 S8
  obtain rfl:t1=t2:=by rw [Bool.eq_iff_iff,ht1,ht2]
  first|refine k_q 89 ?_|refine rG 89 (Calm.bin rfl rfl (bin_bool (bin_bool_eql _ _ Try.underlying4) (beq_self_eq_true _))) ?_
  first|refine k_t rfl rfl ?_|refine k_f rfl rfl ?_
  refine k_e rfl ?_
  refine k_u [(0,_),(1,_),(4,_),(24,_),(5,_),(6,_),(7,_),(8,_),(9,_),(10,_),(11,_),(12,_),(13,_),(14,_),(15,_),(16,_)] ?_
  refine AWP.ret ?_
  refine ⟨_,_,⟨_,_,rfl,rfl,rfl⟩,less_,?_⟩
  rfl
 ·skip
  refine ACall.enter (rs:=[.tmp 4]) 98 [(0,.slice a l.length cap),(1,.slice ea ends.length ec)] Try.func8 rfl rfl (Nat.le_of_ble_eq_true rfl) rfl ⟨rfl,rfl,trivial⟩ ?_
  refine k_a (k_e rfl (AWP.seq (k_a (k_m rfl ?_))))
  refine rC (Calm.lenSl Try.underlying22 rfl) ?_
  refine rC (Calm.bin rfl rfl b_gtr) ?_
  refine k_m rfl ?_
  first|refine k_q 20 ?_|refine rG 20 (Calm.move rfl) ?_
  first|refine k_q 20 ?_|refine rG 20 (Calm.lenSl Try.underlying22 rfl) ?_
  first|refine k_q 20 ?_|refine rG 20 (Calm.bin rfl rfl b_leq) ?_
  first|refine k_t rfl rfl ?_|refine k_f rfl rfl ?_
  refine k_n ?_
  refine k_u [(0,_),(1,_),(4,_),(24,_)] ?_
  refine k_T rfl ?_
  refine k_a ?_
  refine ARun.call (lit_lt rfl) go_46 rfl (od_lives _) ?_
  rintro _ S8 ⟨rfl,e1⟩
  rw [e1];clear e1 S8
  refine k_e rfl ?_
  refine k_u [(0,_),(1,_),(4,_),(24,_)] ?_
  refine k_r ?_
  refine ⟨_,_,⟨_,_,rfl,rfl,rfl⟩,less_,?_⟩
  rfl
set_option maxHeartbeats 2000000 in
theorem law_OrderColumns (s c : ByteArray) (p : Int) (S : Mem) (hs : s.size ≤ 1048576) (hc : c.size ≤ 1048576) :
  ACall Try.prog 9 #[.string s,.string c,.int .i64 p] S fun r S'=>r = .bool true:=by
 by_cases h1:300<s.size∧s.size≤4096
 ·skip
  refine ACall.enter (rs:=[.tmp 6]) 86 [(0,.string s),(1,.string c),(2,.int .i64 p)] Try.func9 rfl rfl (Nat.le_of_ble_eq_true rfl) rfl ⟨rfl,rfl,rfl,trivial⟩ ?_
  refine k_a (k_e rfl (AWP.seq (k_a (k_m rfl ?_))))
  refine rC (Calm.lenStr (strT_spec ty_str_9) rfl) ?_
  refine rC (Calm.bin rfl rfl b_gtr) ?_
  refine k_m rfl ?_
  first|refine k_q 20 ?_|refine rG 20 (Calm.move rfl) ?_
  first|refine k_q 20 ?_|refine rG 20 (Calm.lenStr (strT_spec ty_str_9) rfl) ?_
  first|refine k_q 20 ?_|refine rG 20 (Calm.bin rfl rfl b_leq) ?_
  first|refine k_t rfl rfl ?_|refine k_f rfl rfl ?_
  refine k_m rfl ?_
  first|refine k_q 25 ?_|refine rG 25 (Calm.move rfl) ?_
  first|refine k_q 25 ?_|refine rG 25 (Calm.lenStr (strT_spec ty_str_9) rfl) ?_
  first|refine k_q 25 ?_|refine rG 25 (Calm.bin rfl rfl b_gtr) ?_
  first|refine k_q 25 ?_|refine rG 25 (Calm.move rfl) ?_
  first|refine k_q 29 ?_|refine rG 29 (Calm.move rfl) ?_
  first|refine k_q 29 ?_|refine rG 29 (Calm.lenStr (strT_spec ty_str_9) rfl) ?_
  first|refine k_q 29 ?_|refine rG 29 (Calm.bin rfl rfl b_leq) ?_
  first|refine k_q 25 ?_|refine rG 25 ((by first | exact Calm.pickT rfl rfl | exact Calm.pickF rfl rfl)) ?_
  first|refine k_t rfl rfl ?_|refine k_f rfl rfl ?_
  refine k_n ?_
  refine k_u [(0,_),(1,_),(2,_),(6,_),(34,_)] ?_
  refine k_T rfl ?_
  refine k_a ?_
  refine ARun.call (lit_lt rfl) go_46 rfl (od_lives _) ?_
  rintro _ S8 ⟨rfl,e1⟩
  rw [e1];clear e1 S8
  refine k_e rfl ?_
  refine k_u [(0,_),(1,_),(2,_),(6,_),(34,_)] ?_
  refine k_r ?_
  refine ⟨_,_,⟨_,_,rfl,rfl,rfl⟩,less_,?_⟩
  rfl
 have h1':s.size≤300∨300<s.size∧4096<s.size:=by omega
 by_cases h2:300<c.size∧c.size≤4096
 ·rcases h1' with h1 | h1
  ·skip
   refine ACall.enter (rs:=[.tmp 6]) 86 [(0,.string s),(1,.string c),(2,.int .i64 p)] Try.func9 rfl rfl (Nat.le_of_ble_eq_true rfl) rfl ⟨rfl,rfl,rfl,trivial⟩ ?_
   refine k_a (k_e rfl (AWP.seq (k_a (k_m rfl ?_))))
   refine rC (Calm.lenStr (strT_spec ty_str_9) rfl) ?_
   refine rC (Calm.bin rfl rfl b_gtr) ?_
   refine k_m rfl ?_
   first|refine k_q 20 ?_|refine rG 20 (Calm.move rfl) ?_
   first|refine k_q 20 ?_|refine rG 20 (Calm.lenStr (strT_spec ty_str_9) rfl) ?_
   first|refine k_q 20 ?_|refine rG 20 (Calm.bin rfl rfl b_leq) ?_
   first|refine k_t rfl rfl ?_|refine k_f rfl rfl ?_
   refine k_m rfl ?_
   first|refine k_q 25 ?_|refine rG 25 (Calm.move rfl) ?_
   first|refine k_q 25 ?_|refine rG 25 (Calm.lenStr (strT_spec ty_str_9) rfl) ?_
   first|refine k_q 25 ?_|refine rG 25 (Calm.bin rfl rfl b_gtr) ?_
   first|refine k_q 25 ?_|refine rG 25 (Calm.move rfl) ?_
   first|refine k_q 29 ?_|refine rG 29 (Calm.move rfl) ?_
   first|refine k_q 29 ?_|refine rG 29 (Calm.lenStr (strT_spec ty_str_9) rfl) ?_
   first|refine k_q 29 ?_|refine rG 29 (Calm.bin rfl rfl b_leq) ?_
   first|refine k_q 25 ?_|refine rG 25 ((by first | exact Calm.pickT rfl rfl | exact Calm.pickF rfl rfl)) ?_
   first|refine k_t rfl rfl ?_|refine k_f rfl rfl ?_
   refine k_n ?_
   refine k_u [(0,_),(1,_),(2,_),(6,_),(34,_)] ?_
   refine k_T rfl ?_
   refine k_a ?_
   refine ARun.call (lit_lt rfl) go_46 rfl (od_lives _) ?_
   rintro _ S8 ⟨rfl,e1⟩
   rw [e1];clear e1 S8
   refine k_e rfl ?_
   refine k_u [(0,_),(1,_),(2,_),(6,_),(34,_)] ?_
   refine k_r ?_
   refine ⟨_,_,⟨_,_,rfl,rfl,rfl⟩,less_,?_⟩
   rfl
  ·skip
   refine ACall.enter (rs:=[.tmp 6]) 86 [(0,.string s),(1,.string c),(2,.int .i64 p)] Try.func9 rfl rfl (Nat.le_of_ble_eq_true rfl) rfl ⟨rfl,rfl,rfl,trivial⟩ ?_
   refine k_a (k_e rfl (AWP.seq (k_a (k_m rfl ?_))))
   refine rC (Calm.lenStr (strT_spec ty_str_9) rfl) ?_
   refine rC (Calm.bin rfl rfl b_gtr) ?_
   refine k_m rfl ?_
   first|refine k_q 20 ?_|refine rG 20 (Calm.move rfl) ?_
   first|refine k_q 20 ?_|refine rG 20 (Calm.lenStr (strT_spec ty_str_9) rfl) ?_
   first|refine k_q 20 ?_|refine rG 20 (Calm.bin rfl rfl b_leq) ?_
   first|refine k_t rfl rfl ?_|refine k_f rfl rfl ?_
   refine k_m rfl ?_
   first|refine k_q 25 ?_|refine rG 25 (Calm.move rfl) ?_
   first|refine k_q 25 ?_|refine rG 25 (Calm.lenStr (strT_spec ty_str_9) rfl) ?_
   first|refine k_q 25 ?_|refine rG 25 (Calm.bin rfl rfl b_gtr) ?_
   first|refine k_q 25 ?_|refine rG 25 (Calm.move rfl) ?_
   first|refine k_q 29 ?_|refine rG 29 (Calm.move rfl) ?_
   first|refine k_q 29 ?_|refine rG 29 (Calm.lenStr (strT_spec ty_str_9) rfl) ?_
   first|refine k_q 29 ?_|refine rG 29 (Calm.bin rfl rfl b_leq) ?_
   first|refine k_q 25 ?_|refine rG 25 ((by first | exact Calm.pickT rfl rfl | exact Calm.pickF rfl rfl)) ?_
   first|refine k_t rfl rfl ?_|refine k_f rfl rfl ?_
   refine k_n ?_
   refine k_u [(0,_),(1,_),(2,_),(6,_),(34,_)] ?_
   refine k_T rfl ?_
   refine k_a ?_
   refine ARun.call (lit_lt rfl) go_46 rfl (od_lives _) ?_
   rintro _ S8 ⟨rfl,e1⟩
   rw [e1];clear e1 S8
   refine k_e rfl ?_
   refine k_u [(0,_),(1,_),(2,_),(6,_),(34,_)] ?_
   refine k_r ?_
   refine ⟨_,_,⟨_,_,rfl,rfl,rfl⟩,less_,?_⟩
   rfl
 have h2':c.size≤300∨300<c.size∧4096<c.size:=by omega
 rcases h1' with h1 | h1 <;> rcases h2' with h2 | h2
 ·skip
  refine ACall.enter (rs:=[.tmp 6]) 86 [(0,.string s),(1,.string c),(2,.int .i64 p)] Try.func9 rfl rfl (Nat.le_of_ble_eq_true rfl) rfl ⟨rfl,rfl,rfl,trivial⟩ ?_
  refine k_a (k_e rfl (AWP.seq (k_a (k_m rfl ?_))))
  refine rC (Calm.lenStr (strT_spec ty_str_9) rfl) ?_
  refine rC (Calm.bin rfl rfl b_gtr) ?_
  refine k_m rfl ?_
  first|refine k_q 20 ?_|refine rG 20 (Calm.move rfl) ?_
  first|refine k_q 20 ?_|refine rG 20 (Calm.lenStr (strT_spec ty_str_9) rfl) ?_
  first|refine k_q 20 ?_|refine rG 20 (Calm.bin rfl rfl b_leq) ?_
  first|refine k_t rfl rfl ?_|refine k_f rfl rfl ?_
  refine k_m rfl ?_
  first|refine k_q 25 ?_|refine rG 25 (Calm.move rfl) ?_
  first|refine k_q 25 ?_|refine rG 25 (Calm.lenStr (strT_spec ty_str_9) rfl) ?_
  first|refine k_q 25 ?_|refine rG 25 (Calm.bin rfl rfl b_gtr) ?_
  first|refine k_q 25 ?_|refine rG 25 (Calm.move rfl) ?_
  first|refine k_q 29 ?_|refine rG 29 (Calm.move rfl) ?_
  first|refine k_q 29 ?_|refine rG 29 (Calm.lenStr (strT_spec ty_str_9) rfl) ?_
  first|refine k_q 29 ?_|refine rG 29 (Calm.bin rfl rfl b_leq) ?_
  first|refine k_q 25 ?_|refine rG 25 ((by first | exact Calm.pickT rfl rfl | exact Calm.pickF rfl rfl)) ?_
  first|refine k_t rfl rfl ?_|refine k_f rfl rfl ?_
  refine k_n ?_
  refine k_u [(0,_),(1,_),(2,_),(6,_),(34,_)] ?_
  refine k_F rfl ?_
  refine k_k (k_a (k_m rfl ?_))
  refine ARun.call (lit_lt rfl) go_55 rfl (od_Column s _ (by omega)) ?_
  rintro _ S1 ⟨rfl,e1⟩
  rw [e1];clear e1 S1
  refine k_m rfl ?_
  refine rC (Calm.extract rfl rfl) ?_
  refine rC (Calm.extract rfl rfl) ?_
  refine rC (Calm.extract rfl rfl) ?_
  refine k_s rfl (k_s rfl (k_e rfl ?_))
  refine k_u [(0,_),(1,_),(2,_),(6,_),(34,_),(7,_),(8,_),(9,_)] ?_
  refine k_a (k_m rfl ?_)
  refine ARun.call (lit_lt rfl) go_56 rfl (rr_Column s _ hs) ?_
  rintro _ S1 ⟨rfl,e1⟩
  rw [e1];clear e1 S1
  refine k_m rfl ?_
  refine rC (Calm.extract rfl rfl) ?_
  refine rC (Calm.extract rfl rfl) ?_
  refine rC (Calm.extract rfl rfl) ?_
  refine k_s rfl (k_s rfl (k_e rfl ?_))
  refine k_u [(0,_),(1,_),(2,_),(6,_),(34,_),(7,_),(8,_),(9,_),(10,_),(11,_),(12,_)] ?_
  refine k_a (k_m rfl (k_m rfl ?_))
  refine ARun.call (lit_lt rfl) go_57 rfl (od_Text c p _) ?_
  rintro _ S1 ⟨rfl,e1⟩
  rw [e1];clear e1 S1
  refine k_m rfl ?_
  refine rC (Calm.extract rfl rfl) ?_
  refine rC (Calm.extract rfl rfl) ?_
  refine k_s rfl (k_e rfl ?_)
  refine k_u [(0,_),(1,_),(2,_),(6,_),(34,_),(7,_),(8,_),(9,_),(10,_),(11,_),(12,_),(13,_),(14,_)] ?_
  refine k_a (k_m rfl (k_m rfl ?_))
  refine ARun.call (lit_lt rfl) go_58 rfl (rr_Text c p _) ?_
  rintro _ S1 ⟨rfl,e1⟩
  rw [e1];clear e1 S1
  refine k_m rfl ?_
  refine rC (Calm.extract rfl rfl) ?_
  refine rC (Calm.extract rfl rfl) ?_
  refine k_s rfl (k_e rfl ?_)
  refine k_u [(0,_),(1,_),(2,_),(6,_),(34,_),(7,_),(8,_),(9,_),(10,_),(11,_),(12,_),(13,_),(14,_),(15,_),(16,_)] ?_
  refine k_a ?_
  refine ARun.call (lit_lt rfl) go_46 rfl (od_lives _) ?_
  rintro _ S8 ⟨rfl,e1⟩
  rw [e1];clear e1 S8
  refine k_m rfl ?_
  first|refine k_q 61 ?_|refine rG 61 (Calm.move rfl) ?_
  first|refine k_q 61 ?_|refine rG 61 (Calm.move rfl) ?_
  first|refine k_q 61 ?_|refine rG 61 (Calm.bin rfl rfl (bin_bool (bin_str_eql _ _) (decide_eq_true (Eq.refl _)))) ?_
  first|refine k_t rfl rfl ?_|refine k_f rfl rfl ?_
  refine k_m rfl ?_
  first|refine k_q 66 ?_|refine rG 66 (Calm.move rfl) ?_
  first|refine k_q 66 ?_|refine rG 66 (Calm.move rfl) ?_
  first|refine k_q 66 ?_|refine rG 66 (Calm.bin rfl rfl b_eql) ?_
  first|refine k_t rfl rfl ?_|refine k_f rfl rfl ?_
  refine k_m rfl ?_
  first|refine k_q 71 ?_|refine rG 71 (Calm.move rfl) ?_
  first|refine k_q 71 ?_|refine rG 71 (Calm.move rfl) ?_
  first|refine k_q 71 ?_|refine rG 71 (Calm.bin rfl rfl b_eql) ?_
  first|refine k_t rfl rfl ?_|refine k_f rfl rfl ?_
  refine k_m rfl ?_
  first|refine k_q 76 ?_|refine rG 76 (Calm.move rfl) ?_
  first|refine k_q 76 ?_|refine rG 76 (Calm.move rfl) ?_
  first|refine k_q 76 ?_|refine rG 76 (Calm.bin rfl rfl (bin_bool (bin_str_eql _ _) (decide_eq_true (Eq.refl _)))) ?_
  first|refine k_t rfl rfl ?_|refine k_f rfl rfl ?_
  refine k_m rfl ?_
  first|refine k_q 81 ?_|refine rG 81 (Calm.move rfl) ?_
  first|refine k_q 81 ?_|refine rG 81 (Calm.move rfl) ?_
  first|refine k_q 81 ?_|refine rG 81 (Calm.bin rfl rfl b_eql) ?_
  first|refine k_t rfl rfl ?_|refine k_f rfl rfl ?_
  refine k_e rfl ?_
  refine k_u [(0,_),(1,_),(2,_),(6,_),(34,_),(7,_),(8,_),(9,_),(10,_),(11,_),(12,_),(13,_),(14,_),(15,_),(16,_)] ?_
  refine AWP.ret ?_
  refine ⟨_,_,⟨_,_,rfl,rfl,rfl⟩,less_,?_⟩
  rfl
 ·skip
  refine ACall.enter (rs:=[.tmp 6]) 86 [(0,.string s),(1,.string c),(2,.int .i64 p)] Try.func9 rfl rfl (Nat.le_of_ble_eq_true rfl) rfl ⟨rfl,rfl,rfl,trivial⟩ ?_
  refine k_a (k_e rfl (AWP.seq (k_a (k_m rfl ?_))))
  refine rC (Calm.lenStr (strT_spec ty_str_9) rfl) ?_
  refine rC (Calm.bin rfl rfl b_gtr) ?_
  refine k_m rfl ?_
  first|refine k_q 20 ?_|refine rG 20 (Calm.move rfl) ?_
  first|refine k_q 20 ?_|refine rG 20 (Calm.lenStr (strT_spec ty_str_9) rfl) ?_
  first|refine k_q 20 ?_|refine rG 20 (Calm.bin rfl rfl b_leq) ?_
  first|refine k_t rfl rfl ?_|refine k_f rfl rfl ?_
  refine k_m rfl ?_
  first|refine k_q 25 ?_|refine rG 25 (Calm.move rfl) ?_
  first|refine k_q 25 ?_|refine rG 25 (Calm.lenStr (strT_spec ty_str_9) rfl) ?_
  first|refine k_q 25 ?_|refine rG 25 (Calm.bin rfl rfl b_gtr) ?_
  first|refine k_q 25 ?_|refine rG 25 (Calm.move rfl) ?_
  first|refine k_q 29 ?_|refine rG 29 (Calm.move rfl) ?_
  first|refine k_q 29 ?_|refine rG 29 (Calm.lenStr (strT_spec ty_str_9) rfl) ?_
  first|refine k_q 29 ?_|refine rG 29 (Calm.bin rfl rfl b_leq) ?_
  first|refine k_q 25 ?_|refine rG 25 ((by first | exact Calm.pickT rfl rfl | exact Calm.pickF rfl rfl)) ?_
  first|refine k_t rfl rfl ?_|refine k_f rfl rfl ?_
  refine k_n ?_
  refine k_u [(0,_),(1,_),(2,_),(6,_),(34,_)] ?_
  refine k_F rfl ?_
  refine k_k (k_a (k_m rfl ?_))
  refine ARun.call (lit_lt rfl) go_55 rfl (od_Column s _ (by omega)) ?_
  rintro _ S1 ⟨rfl,e1⟩
  rw [e1];clear e1 S1
  refine k_m rfl ?_
  refine rC (Calm.extract rfl rfl) ?_
  refine rC (Calm.extract rfl rfl) ?_
  refine rC (Calm.extract rfl rfl) ?_
  refine k_s rfl (k_s rfl (k_e rfl ?_))
  refine k_u [(0,_),(1,_),(2,_),(6,_),(34,_),(7,_),(8,_),(9,_)] ?_
  refine k_a (k_m rfl ?_)
  refine ARun.call (lit_lt rfl) go_56 rfl (rr_Column s _ hs) ?_
  rintro _ S1 ⟨rfl,e1⟩
  rw [e1];clear e1 S1
  refine k_m rfl ?_
  refine rC (Calm.extract rfl rfl) ?_
  refine rC (Calm.extract rfl rfl) ?_
  refine rC (Calm.extract rfl rfl) ?_
  refine k_s rfl (k_s rfl (k_e rfl ?_))
  refine k_u [(0,_),(1,_),(2,_),(6,_),(34,_),(7,_),(8,_),(9,_),(10,_),(11,_),(12,_)] ?_
  refine k_a (k_m rfl (k_m rfl ?_))
  refine ARun.call (lit_lt rfl) go_57 rfl (od_Text c p _) ?_
  rintro _ S1 ⟨rfl,e1⟩
  rw [e1];clear e1 S1
  refine k_m rfl ?_
  refine rC (Calm.extract rfl rfl) ?_
  refine rC (Calm.extract rfl rfl) ?_
  refine k_s rfl (k_e rfl ?_)
  refine k_u [(0,_),(1,_),(2,_),(6,_),(34,_),(7,_),(8,_),(9,_),(10,_),(11,_),(12,_),(13,_),(14,_)] ?_
  refine k_a (k_m rfl (k_m rfl ?_))
  refine ARun.call (lit_lt rfl) go_58 rfl (rr_Text c p _) ?_
  rintro _ S1 ⟨rfl,e1⟩
  rw [e1];clear e1 S1
  refine k_m rfl ?_
  refine rC (Calm.extract rfl rfl) ?_
  refine rC (Calm.extract rfl rfl) ?_
  refine k_s rfl (k_e rfl ?_)
  refine k_u [(0,_),(1,_),(2,_),(6,_),(34,_),(7,_),(8,_),(9,_),(10,_),(11,_),(12,_),(13,_),(14,_),(15,_),(16,_)] ?_
  refine k_a ?_
  refine ARun.call (lit_lt rfl) go_46 rfl (od_lives _) ?_
  rintro _ S8 ⟨rfl,e1⟩
  rw [e1];clear e1 S8
  refine k_m rfl ?_
  first|refine k_q 61 ?_|refine rG 61 (Calm.move rfl) ?_
  first|refine k_q 61 ?_|refine rG 61 (Calm.move rfl) ?_
  first|refine k_q 61 ?_|refine rG 61 (Calm.bin rfl rfl (bin_bool (bin_str_eql _ _) (decide_eq_true (Eq.refl _)))) ?_
  first|refine k_t rfl rfl ?_|refine k_f rfl rfl ?_
  refine k_m rfl ?_
  first|refine k_q 66 ?_|refine rG 66 (Calm.move rfl) ?_
  first|refine k_q 66 ?_|refine rG 66 (Calm.move rfl) ?_
  first|refine k_q 66 ?_|refine rG 66 (Calm.bin rfl rfl b_eql) ?_
  first|refine k_t rfl rfl ?_|refine k_f rfl rfl ?_
  refine k_m rfl ?_
  first|refine k_q 71 ?_|refine rG 71 (Calm.move rfl) ?_
  first|refine k_q 71 ?_|refine rG 71 (Calm.move rfl) ?_
  first|refine k_q 71 ?_|refine rG 71 (Calm.bin rfl rfl b_eql) ?_
  first|refine k_t rfl rfl ?_|refine k_f rfl rfl ?_
  refine k_m rfl ?_
  first|refine k_q 76 ?_|refine rG 76 (Calm.move rfl) ?_
  first|refine k_q 76 ?_|refine rG 76 (Calm.move rfl) ?_
  first|refine k_q 76 ?_|refine rG 76 (Calm.bin rfl rfl (bin_bool (bin_str_eql _ _) (decide_eq_true (Eq.refl _)))) ?_
  first|refine k_t rfl rfl ?_|refine k_f rfl rfl ?_
  refine k_m rfl ?_
  first|refine k_q 81 ?_|refine rG 81 (Calm.move rfl) ?_
  first|refine k_q 81 ?_|refine rG 81 (Calm.move rfl) ?_
  first|refine k_q 81 ?_|refine rG 81 (Calm.bin rfl rfl b_eql) ?_
  first|refine k_t rfl rfl ?_|refine k_f rfl rfl ?_
  refine k_e rfl ?_
  refine k_u [(0,_),(1,_),(2,_),(6,_),(34,_),(7,_),(8,_),(9,_),(10,_),(11,_),(12,_),(13,_),(14,_),(15,_),(16,_)] ?_
  refine AWP.ret ?_
  refine ⟨_,_,⟨_,_,rfl,rfl,rfl⟩,less_,?_⟩
  rfl
 ·skip
  refine ACall.enter (rs:=[.tmp 6]) 86 [(0,.string s),(1,.string c),(2,.int .i64 p)] Try.func9 rfl rfl (Nat.le_of_ble_eq_true rfl) rfl ⟨rfl,rfl,rfl,trivial⟩ ?_
  refine k_a (k_e rfl (AWP.seq (k_a (k_m rfl ?_))))
  refine rC (Calm.lenStr (strT_spec ty_str_9) rfl) ?_
  refine rC (Calm.bin rfl rfl b_gtr) ?_
  refine k_m rfl ?_
  first|refine k_q 20 ?_|refine rG 20 (Calm.move rfl) ?_
  first|refine k_q 20 ?_|refine rG 20 (Calm.lenStr (strT_spec ty_str_9) rfl) ?_
  first|refine k_q 20 ?_|refine rG 20 (Calm.bin rfl rfl b_leq) ?_
  first|refine k_t rfl rfl ?_|refine k_f rfl rfl ?_
  refine k_m rfl ?_
  first|refine k_q 25 ?_|refine rG 25 (Calm.move rfl) ?_
  first|refine k_q 25 ?_|refine rG 25 (Calm.lenStr (strT_spec ty_str_9) rfl) ?_
  first|refine k_q 25 ?_|refine rG 25 (Calm.bin rfl rfl b_gtr) ?_
  first|refine k_q 25 ?_|refine rG 25 (Calm.move rfl) ?_
  first|refine k_q 29 ?_|refine rG 29 (Calm.move rfl) ?_
  first|refine k_q 29 ?_|refine rG 29 (Calm.lenStr (strT_spec ty_str_9) rfl) ?_
  first|refine k_q 29 ?_|refine rG 29 (Calm.bin rfl rfl b_leq) ?_
  first|refine k_q 25 ?_|refine rG 25 ((by first | exact Calm.pickT rfl rfl | exact Calm.pickF rfl rfl)) ?_
  first|refine k_t rfl rfl ?_|refine k_f rfl rfl ?_
  refine k_n ?_
  refine k_u [(0,_),(1,_),(2,_),(6,_),(34,_)] ?_
  refine k_F rfl ?_
  refine k_k (k_a (k_m rfl ?_))
  refine ARun.call (lit_lt rfl) go_55 rfl (od_Column s _ (by omega)) ?_
  rintro _ S1 ⟨rfl,e1⟩
  rw [e1];clear e1 S1
  refine k_m rfl ?_
  refine rC (Calm.extract rfl rfl) ?_
  refine rC (Calm.extract rfl rfl) ?_
  refine rC (Calm.extract rfl rfl) ?_
  refine k_s rfl (k_s rfl (k_e rfl ?_))
  refine k_u [(0,_),(1,_),(2,_),(6,_),(34,_),(7,_),(8,_),(9,_)] ?_
  refine k_a (k_m rfl ?_)
  refine ARun.call (lit_lt rfl) go_56 rfl (rr_Column s _ hs) ?_
  rintro _ S1 ⟨rfl,e1⟩
  rw [e1];clear e1 S1
  refine k_m rfl ?_
  refine rC (Calm.extract rfl rfl) ?_
  refine rC (Calm.extract rfl rfl) ?_
  refine rC (Calm.extract rfl rfl) ?_
  refine k_s rfl (k_s rfl (k_e rfl ?_))
  refine k_u [(0,_),(1,_),(2,_),(6,_),(34,_),(7,_),(8,_),(9,_),(10,_),(11,_),(12,_)] ?_
  refine k_a (k_m rfl (k_m rfl ?_))
  refine ARun.call (lit_lt rfl) go_57 rfl (od_Text c p _) ?_
  rintro _ S1 ⟨rfl,e1⟩
  rw [e1];clear e1 S1
  refine k_m rfl ?_
  refine rC (Calm.extract rfl rfl) ?_
  refine rC (Calm.extract rfl rfl) ?_
  refine k_s rfl (k_e rfl ?_)
  refine k_u [(0,_),(1,_),(2,_),(6,_),(34,_),(7,_),(8,_),(9,_),(10,_),(11,_),(12,_),(13,_),(14,_)] ?_
  refine k_a (k_m rfl (k_m rfl ?_))
  refine ARun.call (lit_lt rfl) go_58 rfl (rr_Text c p _) ?_
  rintro _ S1 ⟨rfl,e1⟩
  rw [e1];clear e1 S1
  refine k_m rfl ?_
  refine rC (Calm.extract rfl rfl) ?_
  refine rC (Calm.extract rfl rfl) ?_
  refine k_s rfl (k_e rfl ?_)
  refine k_u [(0,_),(1,_),(2,_),(6,_),(34,_),(7,_),(8,_),(9,_),(10,_),(11,_),(12,_),(13,_),(14,_),(15,_),(16,_)] ?_
  refine k_a ?_
  refine ARun.call (lit_lt rfl) go_46 rfl (od_lives _) ?_
  rintro _ S8 ⟨rfl,e1⟩
  rw [e1];clear e1 S8
  refine k_m rfl ?_
  first|refine k_q 61 ?_|refine rG 61 (Calm.move rfl) ?_
  first|refine k_q 61 ?_|refine rG 61 (Calm.move rfl) ?_
  first|refine k_q 61 ?_|refine rG 61 (Calm.bin rfl rfl (bin_bool (bin_str_eql _ _) (decide_eq_true (Eq.refl _)))) ?_
  first|refine k_t rfl rfl ?_|refine k_f rfl rfl ?_
  refine k_m rfl ?_
  first|refine k_q 66 ?_|refine rG 66 (Calm.move rfl) ?_
  first|refine k_q 66 ?_|refine rG 66 (Calm.move rfl) ?_
  first|refine k_q 66 ?_|refine rG 66 (Calm.bin rfl rfl b_eql) ?_
  first|refine k_t rfl rfl ?_|refine k_f rfl rfl ?_
  refine k_m rfl ?_
  first|refine k_q 71 ?_|refine rG 71 (Calm.move rfl) ?_
  first|refine k_q 71 ?_|refine rG 71 (Calm.move rfl) ?_
  first|refine k_q 71 ?_|refine rG 71 (Calm.bin rfl rfl b_eql) ?_
  first|refine k_t rfl rfl ?_|refine k_f rfl rfl ?_
  refine k_m rfl ?_
  first|refine k_q 76 ?_|refine rG 76 (Calm.move rfl) ?_
  first|refine k_q 76 ?_|refine rG 76 (Calm.move rfl) ?_
  first|refine k_q 76 ?_|refine rG 76 (Calm.bin rfl rfl (bin_bool (bin_str_eql _ _) (decide_eq_true (Eq.refl _)))) ?_
  first|refine k_t rfl rfl ?_|refine k_f rfl rfl ?_
  refine k_m rfl ?_
  first|refine k_q 81 ?_|refine rG 81 (Calm.move rfl) ?_
  first|refine k_q 81 ?_|refine rG 81 (Calm.move rfl) ?_
  first|refine k_q 81 ?_|refine rG 81 (Calm.bin rfl rfl b_eql) ?_
  first|refine k_t rfl rfl ?_|refine k_f rfl rfl ?_
  refine k_e rfl ?_
  refine k_u [(0,_),(1,_),(2,_),(6,_),(34,_),(7,_),(8,_),(9,_),(10,_),(11,_),(12,_),(13,_),(14,_),(15,_),(16,_)] ?_
  refine AWP.ret ?_
  refine ⟨_,_,⟨_,_,rfl,rfl,rfl⟩,less_,?_⟩
  rfl
 ·skip
  refine ACall.enter (rs:=[.tmp 6]) 86 [(0,.string s),(1,.string c),(2,.int .i64 p)] Try.func9 rfl rfl (Nat.le_of_ble_eq_true rfl) rfl ⟨rfl,rfl,rfl,trivial⟩ ?_
  refine k_a (k_e rfl (AWP.seq (k_a (k_m rfl ?_))))
  refine rC (Calm.lenStr (strT_spec ty_str_9) rfl) ?_
  refine rC (Calm.bin rfl rfl b_gtr) ?_
  refine k_m rfl ?_
  first|refine k_q 20 ?_|refine rG 20 (Calm.move rfl) ?_
  first|refine k_q 20 ?_|refine rG 20 (Calm.lenStr (strT_spec ty_str_9) rfl) ?_
  first|refine k_q 20 ?_|refine rG 20 (Calm.bin rfl rfl b_leq) ?_
  first|refine k_t rfl rfl ?_|refine k_f rfl rfl ?_
  refine k_m rfl ?_
  first|refine k_q 25 ?_|refine rG 25 (Calm.move rfl) ?_
  first|refine k_q 25 ?_|refine rG 25 (Calm.lenStr (strT_spec ty_str_9) rfl) ?_
  first|refine k_q 25 ?_|refine rG 25 (Calm.bin rfl rfl b_gtr) ?_
  first|refine k_q 25 ?_|refine rG 25 (Calm.move rfl) ?_
  first|refine k_q 29 ?_|refine rG 29 (Calm.move rfl) ?_
  first|refine k_q 29 ?_|refine rG 29 (Calm.lenStr (strT_spec ty_str_9) rfl) ?_
  first|refine k_q 29 ?_|refine rG 29 (Calm.bin rfl rfl b_leq) ?_
  first|refine k_q 25 ?_|refine rG 25 ((by first | exact Calm.pickT rfl rfl | exact Calm.pickF rfl rfl)) ?_
  first|refine k_t rfl rfl ?_|refine k_f rfl rfl ?_
  refine k_n ?_
  refine k_u [(0,_),(1,_),(2,_),(6,_),(34,_)] ?_
  refine k_F rfl ?_
  refine k_k (k_a (k_m rfl ?_))
  refine ARun.call (lit_lt rfl) go_55 rfl (od_Column s _ (by omega)) ?_
  rintro _ S1 ⟨rfl,e1⟩
  rw [e1];clear e1 S1
  refine k_m rfl ?_
  refine rC (Calm.extract rfl rfl) ?_
  refine rC (Calm.extract rfl rfl) ?_
  refine rC (Calm.extract rfl rfl) ?_
  refine k_s rfl (k_s rfl (k_e rfl ?_))
  refine k_u [(0,_),(1,_),(2,_),(6,_),(34,_),(7,_),(8,_),(9,_)] ?_
  refine k_a (k_m rfl ?_)
  refine ARun.call (lit_lt rfl) go_56 rfl (rr_Column s _ hs) ?_
  rintro _ S1 ⟨rfl,e1⟩
  rw [e1];clear e1 S1
  refine k_m rfl ?_
  refine rC (Calm.extract rfl rfl) ?_
  refine rC (Calm.extract rfl rfl) ?_
  refine rC (Calm.extract rfl rfl) ?_
  refine k_s rfl (k_s rfl (k_e rfl ?_))
  refine k_u [(0,_),(1,_),(2,_),(6,_),(34,_),(7,_),(8,_),(9,_),(10,_),(11,_),(12,_)] ?_
  refine k_a (k_m rfl (k_m rfl ?_))
  refine ARun.call (lit_lt rfl) go_57 rfl (od_Text c p _) ?_
  rintro _ S1 ⟨rfl,e1⟩
  rw [e1];clear e1 S1
  refine k_m rfl ?_
  refine rC (Calm.extract rfl rfl) ?_
  refine rC (Calm.extract rfl rfl) ?_
  refine k_s rfl (k_e rfl ?_)
  refine k_u [(0,_),(1,_),(2,_),(6,_),(34,_),(7,_),(8,_),(9,_),(10,_),(11,_),(12,_),(13,_),(14,_)] ?_
  refine k_a (k_m rfl (k_m rfl ?_))
  refine ARun.call (lit_lt rfl) go_58 rfl (rr_Text c p _) ?_
  rintro _ S1 ⟨rfl,e1⟩
  rw [e1];clear e1 S1
  refine k_m rfl ?_
  refine rC (Calm.extract rfl rfl) ?_
  refine rC (Calm.extract rfl rfl) ?_
  refine k_s rfl (k_e rfl ?_)
  refine k_u [(0,_),(1,_),(2,_),(6,_),(34,_),(7,_),(8,_),(9,_),(10,_),(11,_),(12,_),(13,_),(14,_),(15,_),(16,_)] ?_
  refine k_a ?_
  refine ARun.call (lit_lt rfl) go_46 rfl (od_lives _) ?_
  rintro _ S8 ⟨rfl,e1⟩
  rw [e1];clear e1 S8
  refine k_m rfl ?_
  first|refine k_q 61 ?_|refine rG 61 (Calm.move rfl) ?_
  first|refine k_q 61 ?_|refine rG 61 (Calm.move rfl) ?_
  first|refine k_q 61 ?_|refine rG 61 (Calm.bin rfl rfl (bin_bool (bin_str_eql _ _) (decide_eq_true (Eq.refl _)))) ?_
  first|refine k_t rfl rfl ?_|refine k_f rfl rfl ?_
  refine k_m rfl ?_
  first|refine k_q 66 ?_|refine rG 66 (Calm.move rfl) ?_
  first|refine k_q 66 ?_|refine rG 66 (Calm.move rfl) ?_
  first|refine k_q 66 ?_|refine rG 66 (Calm.bin rfl rfl b_eql) ?_
  first|refine k_t rfl rfl ?_|refine k_f rfl rfl ?_
  refine k_m rfl ?_
  first|refine k_q 71 ?_|refine rG 71 (Calm.move rfl) ?_
  first|refine k_q 71 ?_|refine rG 71 (Calm.move rfl) ?_
  first|refine k_q 71 ?_|refine rG 71 (Calm.bin rfl rfl b_eql) ?_
  first|refine k_t rfl rfl ?_|refine k_f rfl rfl ?_
  refine k_m rfl ?_
  first|refine k_q 76 ?_|refine rG 76 (Calm.move rfl) ?_
  first|refine k_q 76 ?_|refine rG 76 (Calm.move rfl) ?_
  first|refine k_q 76 ?_|refine rG 76 (Calm.bin rfl rfl (bin_bool (bin_str_eql _ _) (decide_eq_true (Eq.refl _)))) ?_
  first|refine k_t rfl rfl ?_|refine k_f rfl rfl ?_
  refine k_m rfl ?_
  first|refine k_q 81 ?_|refine rG 81 (Calm.move rfl) ?_
  first|refine k_q 81 ?_|refine rG 81 (Calm.move rfl) ?_
  first|refine k_q 81 ?_|refine rG 81 (Calm.bin rfl rfl b_eql) ?_
  first|refine k_t rfl rfl ?_|refine k_f rfl rfl ?_
  refine k_e rfl ?_
  refine k_u [(0,_),(1,_),(2,_),(6,_),(34,_),(7,_),(8,_),(9,_),(10,_),(11,_),(12,_),(13,_),(14,_),(15,_),(16,_)] ?_
  refine AWP.ret ?_
  refine ⟨_,_,⟨_,_,rfl,rfl,rfl⟩,less_,?_⟩
  rfl
theorem walk_OrderEnds (p : Option Addr) (n c : Nat) (l : List Nat) (p1 : Option Addr) (n1 c1 : Nat) (ends : List Int) (w : World) (w0 : Sl 1 (fun x : Nat => [.int .u64 (x : Int)]) (roM w) (.slice p n c) l) (wb : ∀ x ∈ l, x < 18446744073709551616) (zl : l.length ≤ 17592186043904)
  (w1:Sl 1 (fun x:Int=>[.int .i64 x]) (roM w) (.slice p1 n1 c1) ends) (wb1:∀ x ∈ ends,(Lit.int .i64 x).wf=true) (zl1:ends.length≤17592186043904) :
  Calls Try.prog 8 #[.slice p n c,.slice p1 n1 c1] w fun e w'=>e = .returned (.bool true)∧Below w.heap.size w w' :=
 ACall.callsW (law_OrderEnds _ _ l ends _ w0 w1 zl1)
theorem walk_OrderColumns (s c : ByteArray) (p : Int) (w : World) (w0 : s.size ≤ maxLen) (z0 : s.size ≤ 1048576) (w1 : c.size ≤ maxLen) (z1 : c.size ≤ 1048576) (w2 : (Lit.int .i64 p).wf = true) :
  Calls Try.prog 9 #[.string s,.string c,.int .i64 p] w fun e w'=>e = .returned (.bool true)∧Below w.heap.size w w' :=
 ACall.callsW (law_OrderColumns s c p _ z0 z1)
end Go.Proofs.Ytgidjbpgkeemiaa
