/-
  Texts that belong together: DiskIter, DiskSee, Region, Disk21, Disk22, DR7, DR11, DR12, DR13, DR14, DR8, DiskLv0, DkP1, CrcMath, CrcWalk, CrcWalk2, CrcWalk3, NumMath, NumMath2, RecMath, NumMath3, CrcApart, CrcPlain, CrcOneWalk, RecMath2.
-/
import Derived.Test.YtceikpipmcadmaaGreatDoorBRc4
import Derived.RangeFuncNested
import Derived.RangeFuncBound
import Derived.RangeFuncCalls
import Derived.RangeFuncLeaves
import Derived.Shelf.Abstract
import Derived.Shelf.RegionOpen
import Derived.WalkKit
import Derived.OwnWalkIn
import Derived.TacticsInMore
import Derived.LoopNIn
import Derived.LoopIn
import Derived.Orders
import Derived.Laws.BitsLemmas
import Derived.Laws.BytesArg
import Derived.Lib.Strings
set_option linter.unusedVariables false
set_option linter.unusedSimpArgs false
set_option linter.unusedSectionVars false
namespace Go.Proofs.YtceikpipmcadmaaGreatDoor
open Go.RowKit Go.Shelf
open Mv Disk
attribute [local go_sem] Oper.semAt_some
def upto {α : Type} (f : Nat → α) (k : Nat) : List α := (List.range k).map f
theorem upto_succ' {α : Type} (f : Nat → α) (k : Nat) : upto f (k + 1) = upto f k ++ [f k] := by simp [upto, List.range_succ]
theorem upto_length' {α : Type} (f : Nat → α) (k : Nat) : (upto f k).length = k := by simp [upto]
def w0 : Wr := (ByteArray.empty, 0, ByteArray.empty)
/-- What is told in round j of so many: the index, the write. -/
def backF (l : List Wr) (j : Nat) : Nat × Wr := (l.length - 1 - j, l.getD (l.length - 1 - j) w0)
def wrV (w : Wr) : Value := .agg #[.string w.1, .int .i64 w.2.1, .string w.2.2]
set_option maxRecDepth 100000 in
set_option maxHeartbeats 2000000 in
theorem back1_in (F : Fence) (n : Nat) (h8 : F.fn 147) (hro : F.round = none) (hn : 1 ≤ n) (l Bs n₀ b off cap : Nat) (zs : List Wr) (hreach : zs.length ≤ 16384) (hb : b < n₀) (hBn : Bs < n₀) (J Jx : List (Nat × Wr) → World → Prop)
  (hY:∀ pre x W,J pre W→pre.length<zs.length→YieldAt F (n-1) Tryz.prog l #[.int .i64 (x.1:Int),wrV x.2] W fun e W' =>
   (e = .returned (.bool true)∧J (pre ++ [x]) W'∧Below n₀ W W')∨(e = .returned (.bool false)∧Jx (pre ++ [x]) W'))
  (W:World) (hBs:W.cell? ⟨Bs,0,none⟩=some (.slice (some ⟨b,off,none⟩) zs.length cap)) (hc:∀ j (h:j<zs.length) q v,(wrF zs[j])[q]?=some v→W.cell? ⟨b,off+j*3+q,none⟩=some v) (h0:J [] W) :
  CallsIn F n Tryz.prog 147 #[.func (.yield l) #[] #[],.pointer (some ⟨Bs,0,none⟩)] W fun e W'=>(∃ v,e = .returned v) ∧
   ((∃ ys,ys=upto (backF zs) zs.length∧J ys W')∨(∃ pre,(∃ k,k≤zs.length∧pre=upto (backF zs) k)∧Jx pre W')):=by
 refine callsIn_of_wp Tryz.func147 rfl h8 ?_ hro
 simp only [Tryz.ntmps147,List.size_toArray,List.length_cons,List.length_nil,Nat.reduceAdd,Nat.reduceSub,Array.replicate_succ,Array.replicate_zero,List.push_toArray,List.append_toArray,List.nil_append,List.cons_append]
 gi_wp2
 gi_loopw [3] (fun i wr=>∃ k:Nat,k≤zs.length∧i = .int .i64 ((zs.length:Int)-1-k)∧J (upto (backF zs) k) wr∧Below n₀ W wr)
  (fun i _=>(intOf i+1).toNat)
 case atStart=>exact ⟨0,Nat.zero_le _,by simp,h0,Below.refl _ _⟩
 case round =>
  obtain ⟨k,hk,rfl,hJs,hnx⟩:=hrel
  by_cases hlt:k<zs.length
  ·obtain ⟨m,hm⟩ : ∃ m,zs.length-1-k=m:=⟨_,rfl⟩
   have hml:m<zs.length:=by omega
   have hm':(zs.length:Int)-1-k=m:=by omega
   have hbk:backF zs k=(m,zs[m]):=by unfold backF;rw [hm];simp [List.getD,List.getElem?_eq_getElem hml]
   obtain ⟨fn,tmps,assign,body,hy,hR⟩:=hY _ (backF zs k) wr hJs (by rw [upto_length'];exact hlt)
   rw [hbk] at hy hR
   dsimp only [wrV] at hy
   rw [hm']
   have hcx:∀ q v,(wrF zs[m])[q]?=some v→wr.cell? ⟨b,off+m*3+q,none⟩=some v:=fun q v hq=>(hnx.cell (p:=⟨b,off+m*3+q,none⟩) hb).trans (hc m hml q v hq)
   have hc0:wr.cell? ⟨b,off+m*3,none⟩=some (.string zs[m].1):=hcx 0 _ rfl
   have hc1:wr.cell? ⟨b,off+m*3+1,none⟩=some (.int .i64 zs[m].2.1):=hcx 1 _ rfl
   have hc2:wr.cell? ⟨b,off+m*3+2,none⟩=some (.string zs[m].2.2):=hcx 2 _ rfl
   have hBs':=(hnx.cell (p:=⟨Bs,0,none⟩) hBn).trans hBs
   gi_wp2
   refine hR.mono ?_
   rintro e W3 (⟨rfl,hJ3,hk3⟩ | ⟨rfl,hJx3⟩)
   ·gi_wp2
    go_roundw
    case rel=>exact ⟨k+1,by omega,by simp;omega,by rw [upto_succ',hbk];exact hJ3,hnx.trans hk3⟩
    case measure=>simp [intOf]
   ·gi_wp2
    refine bodyPost_ret (results_none rfl _ _ _) rfl ?_
    exact ⟨⟨_,rfl⟩,.inr ⟨_,⟨k+1,by omega,by rw [upto_succ',hbk]⟩,hJx3⟩⟩
  ·obtain rfl:k=zs.length:=by omega
   have e1:(zs.length:Int)-1-zs.length = -1:=by omega
   rw [e1]
   gi_wp2
   go_end0
   exact ⟨⟨_,rfl⟩,.inl ⟨_,rfl,hJs⟩⟩
set_option maxRecDepth 100000 in
set_option maxHeartbeats 1000000 in
theorem back1_nil_in (F : Fence) (n : Nat) (h8 : F.fn 147) (hro : F.round = none) (l Bs : Nat) (A : Option Addr) (cap : Nat) (J : List (Nat × Wr) → World → Prop) (W : World) (hBs : W.cell? ⟨Bs, 0, none⟩ = some (.slice A 0 cap)) (h0 : J [] W) :
  CallsIn F n Tryz.prog 147 #[.func (.yield l) #[] #[],.pointer (some ⟨Bs,0,none⟩)] W fun e W'=>(∃ v,e = .returned v)∧J [] W':=by
 refine callsIn_of_wp Tryz.func147 rfl h8 ?_ hro
 simp only [Tryz.ntmps147,List.size_toArray,List.length_cons,List.length_nil,Nat.reduceAdd,Nat.reduceSub,Array.replicate_succ,Array.replicate_zero,List.push_toArray,List.append_toArray,List.nil_append,List.cons_append]
 gi_wp2
 gi_loopw [3] (fun i wr=>i = .int .i64 (-1)∧J [] wr) (fun _ _=>0)
 case atStart=>exact ⟨rfl,h0⟩
 case round =>
  obtain ⟨rfl,hJs⟩:=hrel
  gi_wp2
  go_end0
  exact ⟨⟨_,rfl⟩,hJs⟩
set_option maxHeartbeats 1000000 in
theorem back_in (F : Fence) (n : Nat) (h5 : F.fn 110) (hro : F.round = none) (a : Option Addr) (len cap : Nat) (w : World) :
  CallsIn F n Tryz.prog 110 #[.slice a len cap] w fun e w'=>e = .returned (.func (.func 147) #[] #[.pointer (some ⟨w.heap.size,0,none⟩)])∧w'=w.alloc (.cells #[.slice a len cap] 23):=by
 refine callsIn_of_wp Tryz.func110 rfl h5 ?_ hro
 simp only [Tryz.ntmps110,List.size_toArray,List.length_cons,List.length_nil,Nat.reduceAdd,Nat.reduceSub,Array.replicate_succ,Array.replicate_zero,List.push_toArray,List.append_toArray,List.nil_append,List.cons_append]
 gi_wp2
 go_ret
 exact ⟨rfl,rfl⟩
/-- Of what waits, in a block below n₀. -/
def Waits (n₀ : Nat) (W : World) (sv : Value) (zs : List Wr) : Prop :=
  ∃ A cap, sv = .slice A zs.length cap ∧ (zs = [] ∨ ∃ b off, A = some ⟨b, off, none⟩ ∧ b < n₀ ∧ ∀ j (h : j < zs.length) q v, (wrF zs[j])[q]? = some v → W.cell? ⟨b, off + j * 3 + q, none⟩ = some v)
theorem Waits.below {n₀ : Nat} {A B : World} (h : Below n₀ A B) {sv : Value} {zs : List Wr} (hw : Waits n₀ A sv zs) : Waits n₀ B sv zs := by
 obtain ⟨a,cap,e,h1⟩:=hw
 exact ⟨a,cap,e,h1.imp id fun ⟨b,off,e1,hb,hc⟩=>⟨b,off,e1,hb,fun j hj q v hq=>(h.cell (p:=⟨b,off+j*3+q,none⟩) hb).trans (hc j hj q v hq)⟩⟩
theorem back_stops (F : Fence) (n : Nat) (h8 : F.fn 147) (hro : F.round = none) (hn : 1 ≤ n) (Bs n₀ : Nat) (sv : Value) (zs : List Wr) (hreach : zs.length ≤ 16384) (w : World) (hBs : Bs < n₀) (hn₀ : n₀ ≤ w.heap.size)
  (hc:w.cell? ⟨Bs,0,none⟩=some sv) (hI:Waits n₀ w sv zs) :
  SeqStopsK F n Tryz.prog 147 #[.pointer (some ⟨Bs,0,none⟩)] (fun x:Nat × Wr=>#[Value.int .i64 (x.1:Int),wrV x.2]) (Below n₀) (fun ys=>ys=upto (backF zs) zs.length) (fun pre=>∃ k,k≤zs.length∧pre=upto (backF zs) k) zs.length w:=fun l J Jx W hW _ _ hY h0=>by
 have hWn:=hW.mono hn₀
 have hc':=(hWn.cell (p:=⟨Bs,0,none⟩) hBs).trans hc
 obtain ⟨A,cap,rfl,h1⟩:=hI.below hWn
 rcases h1 with rfl | ⟨b,off,rfl,hb,hcs⟩
 ·exact (back1_nil_in F n h8 hro l Bs A cap J W hc' h0).mono fun e W' ⟨he,hj⟩=>⟨he,.inl ⟨_,rfl,hj⟩⟩
 ·refine (back1_in F n h8 hro hn l Bs n₀ b off cap zs hreach hb hBs J Jx hY W hc' hcs h0).mono ?_
  rintro e W' ⟨he,⟨ys,rfl,hj⟩ | ⟨pre,⟨k,hk,rfl⟩,hj⟩⟩
  ·exact ⟨he,.inl ⟨_,rfl,hj⟩⟩
  ·exact ⟨he,.inr ⟨_,⟨k,hk,rfl⟩,hj⟩⟩
end Go.Proofs.YtceikpipmcadmaaGreatDoor
namespace Go.Proofs.YtceikpipmcadmaaGreatDoor
open Go.RowKit
open Mv Disk
def hit (s : ByteArray) (k : Int) (y : Nat × Wr) : Bool := y.2.2.1 == k && (y.2.1.toList == s.toList)
def lastW (l : List Wr) (s : ByteArray) (k : Int) : Option (Nat × Wr) := (upto (backF l) l.length).find? (hit s k)
def readD (d : D) (s : ByteArray) (k : Int) : ByteArray × Int :=
  if (placeD d s k).2 ≠ 0 then (ByteArray.empty, (placeD d s k).2) else match lastW d.waits s k with
    | some y => (y.2.2.2, 0)
    | none => ((exOf d.ext s).2.extract (64 * k.toNat) (64 * k.toNat + 64), 0)
/-- What is seen when so many of the writes (of these) have been met. -/
def seeW (kp : Nat → Bool) (l : List Wr) (s : ByteArray) (k : Int) (b : ByteArray) : Nat → ByteArray
  | 0 => b
  | n + 1 => match l[n]? with
    | some w => if w.1 = s ∧ w.2.1 = k ∧ kp n = true then w.2.2 else seeW kp l s k b n
    | none => seeW kp l s k b n
theorem seeW_succ (kp : Nat → Bool) (l : List Wr) (s : ByteArray) (k : Int) (b : ByteArray) {n : Nat} (h : n < l.length) : seeW kp l s k b (n + 1) = if l[n].1 = s ∧ l[n].2.1 = k ∧ kp n = true then l[n].2.2 else seeW kp l s k b n := by
 rw [seeW,List.getElem?_eq_getElem h]
def allK : Nat → Bool := fun _ => true
def revN (l : List Wr) (n : Nat) : List (Nat × Wr) := (List.range n).reverse.map fun i => (i, l.getD i w0)
theorem upto_rev (l : List Wr) : upto (backF l) l.length = revN l l.length := by
 unfold upto revN
 refine List.ext_getElem (by simp) fun i h1 h2=>?_
 simp only [List.length_map,List.length_range] at h1
 simp [backF,List.getElem_reverse]
theorem revN_succ (l : List Wr) (n : Nat) : revN l (n + 1) = (n, l.getD n w0) :: revN l n := by
 unfold revN;rw [List.range_succ,List.reverse_append];rfl
theorem toList_inj' {a b : ByteArray} : (a.toList == b.toList) = decide (a = b) := by
 rw [Bool.eq_iff_iff,beq_iff_eq,decide_eq_true_eq]
 exact ⟨fun h=>str_ext (by rw [← Lib.toList_data,← Lib.toList_data];exact h),fun h=>by rw [h]⟩
theorem find_see (l : List Wr) (s : ByteArray) (k : Int) (b : ByteArray) : ∀ n, n ≤ l.length → (match (revN l n).find? (hit s k) with | some y => y.2.2.2 | none => b) = seeW allK l s k b n
 | 0,_=>rfl
 | n+1,h=>by
  rw [revN_succ,seeW_succ _ _ _ _ _ (by omega),List.find?_cons]
  have e:l.getD n w0=l[n]:=by simp [List.getD,List.getElem?_eq_getElem (show n<l.length by omega)]
  have eh:hit s k (n,l.getD n w0)=decide (l[n].1=s∧l[n].2.1=k∧allK n=true):=by
   rw [e];unfold hit allK
   rw [toList_inj',Bool.eq_iff_iff];simp [and_comm]
  rw [eh]
  by_cases q:l[n].1=s∧l[n].2.1=k∧allK n=true
  ·rw [if_pos q,decide_eq_true q,e]
  ·rw [if_neg q,decide_eq_false q];exact find_see l s k b n (by omega)
/-- What is seen, in plain words. -/
def seen (d : D) (s : ByteArray) (k : Int) : ByteArray := seeW allK d.waits s k ((exOf d.ext s).2.extract (64 * k.toNat) (64 * k.toNat + 64)) d.waits.length
theorem readD_see (d : D) (s : ByteArray) (k : Int) : readD d s k = if (placeD d s k).2 ≠ 0 then (ByteArray.empty, (placeD d s k).2) else (seen d s k, 0) := by
 unfold readD seen
 by_cases q:(placeD d s k).2≠0
 ·rw [if_pos q,if_pos q]
 ·rw [if_neg q,if_neg q,← find_see _ _ _ _ _ (Nat.le_refl _)]
  unfold lastW
  rw [upto_rev]
  cases (revN d.waits d.waits.length).find? (hit s k) <;> rfl
/-! ### A sector of what was done -/
theorem ba_extract_bs (x : ByteArray) (i j : Nat) : x.extract i j = bs ((x.data.toList.take j).drop i) := by
 apply str_ext
 rw [bs_data,ByteArray.data_extract,Array.toList_extract,List.extract_eq_take_drop,List.drop_take]
theorem cut_other {α : Type} (X W : List α) (m k : Nat) (hW : W.length = 64) (hm : 64 * m + 64 ≤ X.length) (hk : 64 * k + 64 ≤ X.length) : ((X.take (64 * m) ++ W ++ X.drop (64 * m + 64)).take (64 * k + 64)).drop (64 * k) = if m = k then W else (X.take (64 * k + 64)).drop (64 * k) := by
 apply List.ext_getElem?
 intro i
 by_cases e:m=k
 ·subst e
  rw [if_pos rfl,List.getElem?_drop,List.getElem?_take]
  by_cases hi:i<64
  ·rw [if_pos (by omega),List.getElem?_append_left (by simp;omega),List.getElem?_append_right (by simp;omega)]
   congr 1;simp;omega
  ·rw [if_neg (by omega),List.getElem?_eq_none (by omega)]
 ·rw [if_neg e,List.getElem?_drop,List.getElem?_take,List.getElem?_drop,List.getElem?_take]
  by_cases hi:i<64
  ·rw [if_pos (by omega),if_pos (by omega)]
   rcases Nat.lt_or_ge k m with q | q
   ·rw [List.getElem?_append_left (by simp;omega),List.getElem?_append_left (by simp;omega),List.getElem?_take,if_pos (by omega)]
   ·rw [List.getElem?_append_right (by simp;omega),List.getElem?_drop]
    congr 1;simp;omega
  ·rw [if_neg (by omega),if_neg (by omega)]
theorem putS_see {x : ByteArray} {w : Wr} {k : Nat} (h1 : 64 * w.2.1.toNat + 64 ≤ x.size) (h2 : w.2.2.size = 64) (hk : 64 * k + 64 ≤ x.size) : (putS x w).extract (64 * k) (64 * k + 64) = if w.2.1.toNat = k then w.2.2 else x.extract (64 * k) (64 * k + 64) := by
 rw [ba_extract_bs,ba_extract_bs]
 have hx:x.data.toList.length=x.size:=size_data x
 have hw:w.2.2.data.toList.length=64:=by rw [size_data,h2]
 have hp:(putS x w).data.toList=x.data.toList.take (64*w.2.1.toNat) ++ w.2.2.data.toList ++ x.data.toList.drop (64*w.2.1.toNat+64):=by unfold putS;rw [bs_data]
 rw [hp,cut_other _ _ _ _ hw (by omega) (by omega)]
 split
 ·exact bs_of _
 ·rfl
theorem acc_see {kp : Nat → Bool} {x : Ext} {l : List Wr} {k : Nat} (hf : Fit x l) (hk : 64 * k + 64 ≤ x.2.size) : ∀ n, n ≤ l.length → ((accW kp x l n).getD x.2).extract (64 * k) (64 * k + 64) = seeW kp l x.1 (k : Int) (x.2.extract (64 * k) (64 * k + 64)) n
 | 0,_=>rfl
 | n+1,h=>by
  have ih:=acc_see (kp:=kp) hf hk n (by omega)
  have hs:=acc_size (kp:=kp) hf n (by omega)
  rw [accW_succ kp x l n (by omega),seeW_succ _ _ _ _ _ (by omega)]
  by_cases q:l[n].1=x.1∧kp n=true
  ·obtain ⟨h0,h1,h2⟩:=hf _ (List.getElem_mem (by omega:n<l.length)) q.1
   rw [if_pos q,Option.getD_some,putS_see (by rw [hs];exact h1) h2 (by rw [hs];exact hk)]
   by_cases e:l[n].2.1=(k:Int)
   ·rw [if_pos (by omega),if_pos ⟨q.1,e,q.2⟩]
   ·rw [if_neg (by omega),if_neg (fun z=>e z.2.1)];exact ih
  ·rw [if_neg q,if_neg (fun z=>q ⟨z.1,z.2.2⟩)];exact ih
theorem seeW_mem (kp : Nat → Bool) (l : List Wr) (s : ByteArray) (k : Int) (b : ByteArray) : ∀ n, seeW kp l s k b n = b ∨ ∃ w ∈ l, w.1 = s ∧ w.2.1 = k ∧ seeW kp l s k b n = w.2.2
 | 0=>.inl rfl
 | n+1=>by
  by_cases h:n<l.length
  ·rw [seeW_succ _ _ _ _ _ h]
   by_cases q:l[n].1=s∧l[n].2.1=k∧kp n=true
   ·rw [if_pos q];exact .inr ⟨_,List.getElem_mem h,q.1,q.2.1,rfl⟩
   ·rw [if_neg q];exact seeW_mem kp l s k b n
  ·rw [seeW,List.getElem?_eq_none (by omega)];exact seeW_mem kp l s k b n
theorem seeW_front (kp : Nat → Bool) (l m : List Wr) (s : ByteArray) (k : Int) (b : ByteArray) : ∀ n, n ≤ l.length → seeW kp (l ++ m) s k b n = seeW kp l s k b n
 | 0,_=>rfl
 | n+1,h=>by
  rw [seeW_succ _ _ _ _ _ (show n<(l ++ m).length by simp;omega),seeW_succ _ _ _ _ _ (show n<l.length by omega),List.getElem_append_left (by omega),seeW_front kp l m s k b n (by omega)]
theorem seeW_snoc (kp : Nat → Bool) (l : List Wr) (w : Wr) (s : ByteArray) (k : Int) (b : ByteArray) : seeW kp (l ++ [w]) s k b (l ++ [w]).length = if w.1 = s ∧ w.2.1 = k ∧ kp l.length = true then w.2.2 else seeW kp l s k b l.length := by
 rw [show (l ++ [w]).length=l.length+1 by simp,seeW_succ _ _ _ _ _ (by simp),seeW_front _ _ _ _ _ _ _ (Nat.le_refl _)]
 simp
/-! ### Behind what is done -/
theorem seen_add (d : D) (s' : ByteArray) (i : Int) (data s : ByteArray) (k : Int) : seen (addW d (s', i, data)) s k = if s' = s ∧ i = k then data else seen d s k := by
 unfold seen addW
 rw [seeW_snoc]
 simp only [allK,and_true]
theorem exOf_mem {l : List Ext} (ha : Asc l) {x : Ext} (hx : x ∈ l) : exOf l x.1 = x := by
 obtain ⟨i,hi,rfl⟩:=List.getElem_of_mem hx
 have e:=pos_mem ha hi
 rw [exOf_eq (by rw [e];exact hi)]
 simp only [e]
theorem exOf_has {l : List Ext} {s : ByteArray} (ha : Asc l) (h : has l s = true) : exOf l s ∈ l ∧ (exOf l s).1 = s := by
 obtain ⟨x,hx,rfl⟩:=has_iff.1 h
 rw [exOf_mem ha hx];exact ⟨hx,rfl⟩
theorem exOf_map {f : Ext → Ext} (hf : ∀ x, (f x).1 = x.1) {l : List Ext} {s : ByteArray} (ha : Asc l) (h : has l s = true) : exOf (l.map f) s = f (exOf l s) := by
 obtain ⟨x,hx,rfl⟩:=has_iff.1 h
 have:=exOf_mem (asc_map hf ha) (List.mem_map_of_mem hx)
 rw [hf] at this
 rw [this,exOf_mem ha hx]
theorem place0 {d : D} {s : ByteArray} {k : Int} (h : (placeD d s k).2 = 0) : has d.ext s = true ∧ 0 ≤ k ∧ k < sec (exOf d.ext s) := by
 unfold placeD at h
 by_cases q:has d.ext s=true
 ·rw [if_pos q] at h
  by_cases q1:k<0∨(sec (exOf d.ext s):Int)≤k
  ·rw [if_pos q1] at h;simp at h
  ·exact ⟨q,by omega,by omega⟩
 ·rw [if_neg q] at h;simp at h
theorem seen_settle {d : D} {s : ByteArray} {k : Int} (hR : Right d) (h : (placeD d s k).2 = 0) (kp : Nat → Bool) : seen (settleD d kp) s k = seeW kp d.waits s k ((exOf d.ext s).2.extract (64 * k.toNat) (64 * k.toNat + 64)) d.waits.length := by
 obtain ⟨hh,h0,h1⟩:=place0 h
 obtain ⟨hm,hn⟩:=exOf_has hR.ex.asc hh
 have hs:=(eok_sec (hR.ex.ok _ hm)).2
 obtain ⟨m,rfl⟩ : ∃ m:Nat,k=m:=⟨k.toNat,by omega⟩
 unfold seen settleD
 simp only [List.length_nil,seeW]
 rw [exOf_map (f:=doneX kp d.waits) (fun _=>rfl) hR.ex.asc hh]
 have:=acc_see (kp:=kp) (k:=m) (right_fit hR hm) (by omega) d.waits.length (Nat.le_refl _)
 rw [hn] at this
 exact this
end Go.Proofs.YtceikpipmcadmaaGreatDoor
namespace Go.Proofs.YtceikpipmcadmaaGreatDoor
open Go.RowKit
namespace Reg

/-- What one operation of a region comes to: a value, or a call that returns one. -/
def Yield (P : Program) (m : Sem Next) (w : World) (R : Value → World → Prop) : Prop :=
  match m.run P w with
  | .ok (.value v) w' => R v w'
  | .ok .skip w' => R undef w'
  | .ok (.enter f args) w' => Calls P f args w' fun e w'' => ∃ v, e = .returned v ∧ R v w''
  | _ => False

/-- The slot d is written by no operation that may have run ahead of operation i. -/
def before (ops : Array Oper) (i d : Nat) : Bool := ops.toList.all fun o => o.dst != some d || o.after.toList.any (fun e => Region.binds .any e && e.on == i)

/-- One done more. -/
def upd (s : Nat → Bool) (i : Nat) : Nat → Bool := fun k => k == i || s k
theorem upd_same (s : Nat → Bool) (i : Nat) : upd s i i = true := by simp [upd]
theorem upd_other (s : Nat → Bool) {i k : Nat} (h : k ≠ i) : upd s i k = s k := by simp [upd, h]
/-- Operation k waits for operation i. -/
def waits (ops : Array Oper) (i k : Nat) : Bool := ((ops[k]?).map fun o => o.after.toList.any fun e => Region.binds .any e && e.on == i).getD false

/-- One operation: what it needs, what it gives. 's': which are done. -/
def Step (P : Program) (ops : Array Oper) (T : Array Value) (D : Nat → Value → World → Prop) (I : (Nat → Bool) → World → Prop) (Ext : World → World → Prop) (i : Nat) (o : Oper) : Prop :=
  ∀ (a : Act) (w : World) (s : Nat → Bool), a.tmps.size = T.size → I s w →
    (∀ e ∈ o.after, Region.binds .any e = true → ∀ o' d, ops[e.on]? = some o' → o'.dst = some d → D e.on (a.eval (.tmp d)) w) →
    (∀ e ∈ o.after, Region.binds .any e = true → s e.on = true) → s i = false → (∀ k, waits ops i k = true → s k = false) →
    (∀ d, before ops i d = true → a.eval (.tmp d) = T.getD d undef) →
    match o.guard with
    | none => Yield P (execOp a.eval o) w fun v w' => D i v w' ∧ I (upd s i) w' ∧ Ext w w'
    | some (g, want) => ∃ b og dg, ops[g]? = some og ∧ og.dst = some dg ∧ a.eval (.tmp dg) = .bool b ∧
        if b = want then Yield P (execOp a.eval o) w fun v w' => D i v w' ∧ I (upd s i) w' ∧ Ext w w' else D i undef w ∧ I (upd s i) w ∧ Ext w w

/-- The region's text is in order: each slot written once, edges lead back. -/
def good (ops : Array Oper) (n : Nat) : Bool :=
  (ops.toList.filterMap (·.dst)).all (· < n) &&
  ((List.range ops.size).all fun i => (List.range ops.size).all fun j => i == j || ((ops[i]?).bind (·.dst)).isNone || ((ops[i]?).bind (·.dst)) != ((ops[j]?).bind (·.dst))) &&
  ((List.range ops.size).all fun i => ((ops[i]?).map fun o => o.after.all fun e => decide (e.on < i)).getD true)

structure Inv (ops : Array Oper) (T : Array Value) (df : List Deferred) (D : Nat → Value → World → Prop) (I : (Nat → Bool) → World → Prop) (listed : Array Bool) (a : Act) (w : World) : Prop where
  df : a.defers = df
  sz : a.tmps.size = T.size
  base : ∀ d, (∀ k o, ops[k]? = some o → o.dst = some d → listed.getD k false = false) → a.tmps.getD d undef = T.getD d undef
  done : ∀ k o d, ops[k]? = some o → o.dst = some d → listed.getD k false = true → D k (a.tmps.getD d undef) w
  closed : ∀ k o, ops[k]? = some o → listed.getD k false = true → ∀ e ∈ o.after, Region.binds .any e = true → listed.getD e.on false = true
  lsz : listed.size = ops.size
  inv : I (fun k => listed.getD k false) w

theorem good_dst {ops : Array Oper} {n : Nat} (h : good ops n = true) {i : Nat} {o : Oper} {d : Nat} (hi : ops[i]? = some o) (hd : o.dst = some d) : d < n := by
 simp only [good,Bool.and_eq_true,List.all_eq_true,decide_eq_true_eq] at h
 exact h.1.1 d (List.mem_filterMap.2 ⟨o,by simpa using Array.mem_of_getElem? hi,hd⟩)
theorem good_one {ops : Array Oper} {n : Nat} (h : good ops n = true) {i j : Nat} {o o' : Oper} {d : Nat} (hi : ops[i]? = some o) (hj : ops[j]? = some o') (hd : o.dst = some d) (hd' : o'.dst = some d) : i = j := by
 simp only [good,Bool.and_eq_true,List.all_eq_true] at h
 have hil:=(Array.getElem?_eq_some_iff.1 hi).1
 have hjl:=(Array.getElem?_eq_some_iff.1 hj).1
 have:=h.1.2 i (List.mem_range.2 hil) j (List.mem_range.2 hjl)
 simpa [hi,hj,hd,hd'] using this
theorem good_back {ops : Array Oper} {n : Nat} (h : good ops n = true) {i : Nat} {o : Oper} (hi : ops[i]? = some o) {e : Edge} (he : e ∈ o.after) : e.on < i := by
 simp only [good,Bool.and_eq_true,List.all_eq_true] at h
 have hil:=(Array.getElem?_eq_some_iff.1 hi).1
 have:=h.2 i (List.mem_range.2 hil)
 simp only [hi,Option.map_some,Option.getD_some,Array.all_eq_true_iff_forall_mem,decide_eq_true_eq] at this
 exact this e he

theorem getD_put (T : Array Value) (d : Nat) (v : Value) (h : d < T.size) (k : Nat) : (T.setIfInBounds d v).getD k undef = if k = d then v else T.getD k undef := by
 simp only [Array.getD_eq_getD_getElem?,Array.getElem?_setIfInBounds]
 by_cases e:d=k
 ·subst e;simp [h]
 ·simp [e,Ne.symm e]

theorem getD_flag {listed : Array Bool} {i : Nat} (h : i < listed.size) (b : Bool) : listed.getD i b = listed.getD i (!b) := by simp [h]

section
variable {P : Program} {ops : Array Oper} {Q : Exit → Act → World → Prop} {T : Array Value} {df : List Deferred} {D : Nat → Value → World → Prop} {I : (Nat → Bool) → World → Prop} {Ext : World → World → Prop}

theorem ready_empty (hg : good ops T.size = true) {listed : Array Bool} (hl : listed.size = ops.size) (h : Region.ready .any ops listed = []) : ∀ k, k < ops.size → listed.getD k false = true := by
 intro k
 induction k using Nat.strongRecOn with
 | _ k ih =>
  intro hk
  cases hv:listed.getD k false with
  | true=>rfl
  | false =>
   exfalso
   have hm:k ∈ Region.ready .any ops listed:=by
    rw [mem_ready]
    refine ⟨by rw [getD_flag (by omega)];exact hv,ops[k],Array.getElem?_eq_getElem hk,fun e he _=>?_⟩
    have hlt:=good_back hg (Array.getElem?_eq_getElem hk) he
    exact ih e.on hlt (by omega)
   rw [h] at hm
   cases hm

theorem inv_put (hg : good ops T.size = true) (mono : ∀ k v w w', Ext w w' → D k v w → D k v w')
  {listed:Array Bool} {a:Act} {w w':World} (h:Inv ops T df D I listed a w) {i:Nat} {o:Oper} (hi:ops[i]?=some o) (hr:i ∈ Region.ready .any ops listed)
  {v:Value} (hD:D i v w') (hI:I (upd (fun k=>listed.getD k false) i) w') (hb:Ext w w'):Inv ops T df D I (listed.setIfInBounds i true) (a.put o.dst v) w':=by
 have hil:=(Array.getElem?_eq_some_iff.1 hi).1
 obtain ⟨hr0,o',ho',hall⟩:=mem_ready.1 hr
 obtain rfl:o=o':=Option.some.inj (hi.symm.trans ho')
 have hnot:listed.getD i false=false:=by rw [getD_flag (by rw [h.lsz];exact hil)];exact hr0
 have hflag:∀ k,(listed.setIfInBounds i true).getD k false=if k=i then true else listed.getD k false:=fun k=>by
  by_cases e:k=i
  ·subst e;simp [h.lsz,hil]
  ·rw [if_neg e,getD_set_ne false (Ne.symm e)]
 have hput:∀ d,(a.put o.dst v).tmps.getD d undef=if o.dst=some d then v else a.tmps.getD d undef:=fun d=>by
  cases hd:o.dst with
  | none=>simp [Act.put]
  | some d' =>
   have:=good_dst hg hi hd
   simp only [Act.put]
   rw [getD_put _ _ _ (by rw [h.sz];exact this)]
   by_cases e:d=d'
   ·subst e;simp
   ·rw [if_neg e,if_neg (by simpa using fun x=>e x.symm)]
 constructor
 ·cases hd:o.dst <;> simp [Act.put,h.df]
 ·cases hd:o.dst <;> simp [Act.put,h.sz]
 ·intro d hd
  rw [hput]
  by_cases e:o.dst=some d
  ·have:=hd i o hi e
   rw [hflag,if_pos rfl] at this
   cases this
  ·rw [if_neg e]
   refine h.base d fun k ok hk hdk=>?_
   have:=hd k ok hk hdk
   rw [hflag] at this
   by_cases ek:k=i
   ·subst ek;exact hnot
   ·rwa [if_neg ek] at this
 ·intro k ok d hk hdk hlk
  rw [hput]
  rw [hflag] at hlk
  by_cases ek:k=i
  ·subst ek
   obtain rfl:o=ok:=Option.some.inj (hi.symm.trans hk)
   rw [if_pos hdk];exact hD
  ·rw [if_neg ek] at hlk
   rw [if_neg (fun e=>ek (good_one hg hk hi hdk e))]
   exact mono _ _ _ _ hb (h.done k ok d hk hdk hlk)
 ·intro k ok hk hlk e he hbe
  rw [hflag] at hlk
  rw [hflag]
  by_cases ee:e.on=i
  ·rw [if_pos ee]
  ·rw [if_neg ee]
   by_cases ek:k=i
   ·subst ek
    obtain rfl:o=ok:=Option.some.inj (hi.symm.trans hk)
    exact hall e he hbe
   ·rw [if_neg ek] at hlk
    exact h.closed k ok hk hlk e he hbe
 ·simp [h.lsz]
 ·have e:(fun k=>(listed.setIfInBounds i true).getD k false)=upd (fun k=>listed.getD k false) i:=by
   funext k
   rw [hflag]
   by_cases ek:k=i
   ·subst ek;rw [if_pos rfl,upd_same]
   ·rw [if_neg ek,upd_other _ ek]
  rw [e];exact hI

theorem wp_of_yield {o : Oper} {a : Act} {w : World} {K : Act → World → Prop} {R : Value → World → Prop} (h : Yield P (execOp a.eval o) w R) (hK : ∀ v w', R v w' → K (a.put o.dst v) w') : o.wp P a w K Q := by
 unfold Yield at h
 unfold Oper.wp
 generalize (execOp a.eval o).run P w=r at *
 cases r with
 | ok n w' =>
  cases n <;> simp only [Oper.upon] at h ⊢ <;> first
   | exact hK _ _ h
   | exact h.elim
   | (refine Calls.mono h ?_;rintro e w'' ⟨v,rfl,hR⟩;exact hK _ _ hR)
 | halt x w'=>exact h.elim

theorem any_of (hg : good ops T.size = true) (mono : ∀ k v w w', Ext w w' → D k v w → D k v w')
  (step:∀ i o,ops[i]?=some o→Step P ops T D I Ext i o)
  (fin:∀ tm w' s,tm.size=T.size→I s w'→(∀ k,k<ops.size→s k=true)→(∀ k o d,ops[k]?=some o→o.dst=some d→D k (tm.getD d undef) w') →
   (∀ d,(∀ (k:Nat) (o:Oper),ops[k]?=some o→o.dst≠some d)→tm.getD d undef=T.getD d undef)→Q .normal ⟨tm,df⟩ w') :
  ∀ (fuel:Nat) (listed:Array Bool) (a:Act) (w:World),((List.range ops.size).countP fun k=>!listed.getD k false)≤fuel→Inv ops T df D I listed a w→wpAny P .any ops Q fuel listed a w:=by
 have hend:∀ (listed:Array Bool) (a:Act) (w:World),Inv ops T df D I listed a w→(∀ k,k<ops.size→listed.getD k false=true)→Q .normal a w:=by
  intro listed a w h hall
  obtain ⟨tm,dfs⟩:=a
  obtain rfl:dfs=df:=h.df
  refine fin tm w _ h.sz h.inv hall (fun k o d hk hd=>h.done k o d hk hd (hall k (Array.getElem?_eq_some_iff.1 hk).1)) fun d hd=>h.base d fun k o hk hdk=>(hd k o hk hdk).elim
 intro fuel
 induction fuel with
 | zero =>
  intro listed a w hc h
  have hall:∀ k,k<ops.size→listed.getD k false=true:=by
   intro k hk
   have:=List.countP_eq_zero.1 (Nat.le_zero.1 hc) k (List.mem_range.2 hk)
   simpa using this
  have he:Region.ready .any ops listed = []:=by
   apply List.eq_nil_iff_forall_not_mem.2
   intro i hi
   obtain ⟨h0,o,ho,_⟩:=mem_ready.1 hi
   have hil:=(Array.getElem?_eq_some_iff.1 ho).1
   have:=hall i hil
   rw [getD_flag (by rw [h.lsz];exact hil)] at h0
   simp only [Bool.not_true] at h0
   rw [h0] at this;cases this
  exact ⟨he,hend _ _ _ h hall⟩
 | succ fuel ih =>
  intro listed a w hc h
  refine ⟨fun he=>hend _ _ _ h (ready_empty hg h.lsz he),fun i hi=>?_⟩
  obtain ⟨h0,o,ho,hall⟩:=mem_ready.1 hi
  have hil:=(Array.getElem?_eq_some_iff.1 ho).1
  have hnot:listed.getD i false=false:=by rw [getD_flag (by rw [h.lsz];exact hil)];exact h0
  have hcount:((List.range ops.size).countP fun k=>!(listed.setIfInBounds i true).getD k false)≤fuel:=by
   have hlt:((List.range ops.size).countP fun k=>!(listed.setIfInBounds i true).getD k false)<((List.range ops.size).countP fun k=>!listed.getD k false):=by
    have hsplit:∀ (l:List Nat),i ∈ l→(l.countP fun k=>!(listed.setIfInBounds i true).getD k false)<(l.countP fun k=>!listed.getD k false):=by
     have hle:∀ (l:List Nat),(l.countP fun k=>!(listed.setIfInBounds i true).getD k false)≤(l.countP fun k=>!listed.getD k false):=by
      intro l
      refine List.countP_mono_left fun k _ hk=>?_
      by_cases ek:k=i
      ·subst ek;simp [hnot]
      ·rwa [getD_set_ne false (Ne.symm ek)] at hk
     intro l
     induction l with
     | nil=>intro hm;cases hm
     | cons x l ihl =>
      intro hm
      by_cases ex:x=i
      ·subst ex
       have h1:(listed.setIfInBounds x true).getD x false=true:=by simp [h.lsz,hil]
       rw [List.countP_cons,List.countP_cons,h1,hnot]
       have:=hle l
       simp only [Bool.not_true,Bool.not_false,if_true,Bool.false_eq_true,if_false]
       omega
      ·have hm':i ∈ l:=(List.mem_cons.1 hm).resolve_left (Ne.symm ex)
       rw [List.countP_cons,List.countP_cons,getD_set_ne false (Ne.symm ex)]
       have:=ihl hm'
       omega
    exact hsplit _ (List.mem_range.2 hil)
   omega
  have hst:=step i o ho a w (fun k=>listed.getD k false) h.sz h.inv
   (fun e he hb o' d ho' hd=>h.done e.on o' d ho' hd (hall e he hb)) (fun e he hb=>hall e he hb) hnot
   (fun k hk=>by
    unfold waits at hk
    cases hok:ops[k]? with
    | none=>simp [hok] at hk
    | some ok =>
     simp only [hok,Option.map_some,Option.getD_some,List.any_eq_true,Bool.and_eq_true,beq_iff_eq] at hk
     obtain ⟨e,he,hbe,heq⟩:=hk
     cases hlk:listed.getD k false with
     | false=>rfl
     | true =>
      have:=h.closed k ok hok hlk e (Array.mem_toList_iff.1 he) hbe
      rw [heq,hnot] at this;cases this)
   (fun d hd=>h.base d fun k ok hk hdk=>by
    unfold before at hd
    rw [List.all_eq_true] at hd
    have:=hd ok (by simpa using Array.mem_of_getElem? hk)
    simp only [hdk,bne_self_eq_false,Bool.false_or,List.any_eq_true,Bool.and_eq_true,beq_iff_eq] at this
    obtain ⟨e,he,hbe,heq⟩:=this
    have he:=Array.mem_toList_iff.1 he
    cases hlk:listed.getD k false with
    | false=>rfl
    | true =>
     have:=h.closed k ok hk hlk e he hbe
     rw [heq,hnot] at this;cases this)
  have hput:∀ v w',D i v w'∧I (upd (fun k=>listed.getD k false) i) w'∧Ext w w'→wpAny P .any ops Q fuel (listed.setIfInBounds i true) (a.put o.dst v) w':=fun v w' ⟨hD,hI,hb⟩ =>
   ih _ _ _ hcount (inv_put hg mono h ho hi hD hI hb)
  unfold wpOp
  simp only [ho]
  cases hgd:o.guard with
  | none =>
   simp only [hgd] at hst
   rw [if_pos (by simp [Region.wanted,hgd])]
   exact .inl (wp_of_yield hst hput)
  | some gw =>
   obtain ⟨g,want⟩:=gw
   simp only [hgd] at hst
   obtain ⟨b,og,dg,hog,hdg,hρ,hst⟩:=hst
   have hdlt:=good_dst hg hog hdg
   have hy:yielded ops a.tmps g=some b:=by
    have:a.tmps[dg]?=some (.bool b):=by
     have h1:a.tmps.getD dg undef = .bool b:=hρ
     have h2:dg<a.tmps.size:=by rw [h.sz];exact hdlt
     simpa [h2] using h1
    simp [yielded,hog,hdg,this]
   by_cases hbw:b=want
   ·rw [if_pos hbw] at hst
    rw [if_pos (by simp [Region.wanted,hgd,hy,hbw])]
    exact .inl (wp_of_yield hst hput)
   ·rw [if_neg hbw] at hst
    rw [if_neg (by simp [Region.wanted,hgd,hy,hbw])]
    exact hput undef w hst

/-- THE REGION: each operation steps; at the end each slot holds what its operation gives. -/
theorem wp_steps {id : Nat} {w : World} (hm : P.follows .mixedOrders = true) (hg : good ops T.size = true)
  (D:Nat→Value→World→Prop) (I:(Nat→Bool)→World→Prop) (Ext:World→World→Prop) (h0:I (fun _=>false) w.drew) (mono:∀ k v w w',Ext w w'→D k v w→D k v w')
  (step:∀ i o,ops[i]?=some o→Step P ops T D I Ext i o)
  (fin:∀ tm w' s,tm.size=T.size→I s w'→(∀ k,k<ops.size→s k=true)→(∀ k o d,ops[k]?=some o→o.dst=some d→D k (tm.getD d undef) w') →
   (∀ d,(∀ (k:Nat) (o:Oper),ops[k]?=some o→o.dst≠some d)→tm.getD d undef=T.getD d undef)→Q .normal ⟨tm,df⟩ w') :
  (Code.region id ops true).wp P Q ⟨T,df⟩ w:=by
 refine wp_region_any hm (any_of (T:=T) (df:=df) hg mono step fin ops.size _ _ _ ?_ ?_)
 ·exact Nat.le_trans List.countP_le_length (by simp)
 ·have hf:∀ k,(Array.replicate ops.size false).getD k false=false:=fun k=>by
   simp only [Array.getD_eq_getD_getElem?,Array.getElem?_replicate];split <;> rfl
  exact ⟨rfl,rfl,fun _ _=>rfl,fun k o d _ _ h=>(by rw [hf] at h;exact absurd h (by decide)),fun k o _ h=>(by rw [hf] at h;exact absurd h (by decide)),by simp,(by simp only [hf];exact h0)⟩
end

/-- Of each operation of a list. -/
def AllFrom (X : Nat → Oper → Prop) : Nat → List Oper → Prop
  | _, [] => True
  | k, o :: l => X k o ∧ AllFrom X (k + 1) l
theorem allFrom_get {X : Nat → Oper → Prop} : ∀ (l : List Oper) (k : Nat), AllFrom X k l → ∀ i o, l[i]? = some o → X (k + i) o
 | [],_,_,i,o,h=>by simp at h
 | x :: l,k,⟨h1,h2⟩,i,o,h=>by
  cases i with
  | zero=>simp at h;subst h;exact h1
  | succ i =>
   have:=allFrom_get l (k+1) h2 i o (by simpa using h)
   rwa [show k+1+i=k+(i+1) from by omega] at this
theorem each {X : Nat → Oper → Prop} {l : List Oper} (h : AllFrom X 0 l) : ∀ i o, l.toArray[i]? = some o → X i o := fun i o hi => by
 have:=allFrom_get l 0 h i o (by simpa using hi)
 rwa [Nat.zero_add] at this
end Reg
end Go.Proofs.YtceikpipmcadmaaGreatDoor
namespace Go.Proofs.YtceikpipmcadmaaGreatDoor
open Go.RowKit Go.Shelf
open Mv Disk
set_option maxRecDepth 4000
/-- A disk at work of which we know the cells. -/
def RdK (M : Mem) (p : Nat) (d : D) (qe : Option Addr) (de : Nat) (sv : Value) : Prop := M.Knows ⟨p, 0, none⟩ [.int .i64 d.size, .slice qe d.ext.length de, sv, .int .i64 d.fuse, .bool d.down] ∧ Sl 2 extF M (.slice qe d.ext.length de) d.ext
set_option maxHeartbeats 1000000 in
theorem dev_placeK (p : Nat) (d : D) (s : ByteArray) (i : Int) (M : Mem) (qe : Option Addr) (de : Nat) (sv : Value) (h : RdK M p d qe de sv) (hR : Right d) : ACall Tryz.prog 109 #[.pointer (some ⟨p, 0, none⟩), .string s, .int .i64 i] M fun r S' => r = .tuple #[.int .i64 ((placeD d s i).1 : Nat), .int .i64 (placeD d s i).2] ∧ S' = M := by
 obtain ⟨hp,hME⟩:=h
 have hp1:=kn_at hp 1 rfl
 have hhp:=has_pos hR.ex.asc s
 unfold placeD
 by_cases q:has d.ext s=true
 ·obtain ⟨hlt,he⟩:=hhp.1 q
  have hsx:=right_sec hR (List.getElem_mem hlt)
  have hfind:=disk_find _ d.ext s M hME hR.ex.asc (Nat.le_trans (right_len hR).1 (by decide))
  rw [if_pos q,exOf_eq hlt]
  obtain ⟨_,_,ee1,ee2,ee3,hE3⟩:=id hME
  cases ee1
  obtain ⟨b,off,rfl,hk⟩:=hE3.resolve_left (fun e=>by rw [e] at hlt;simp at hlt)
  have hki:=hk _ hlt
  generalize hpp:pos d.ext s=k at *
  generalize d.ext[k]=x at *
  unfold extF at hki
  by_cases q1:i<0
  ·rw [if_pos (.inl q1)]
   refine ACall.enter (rs:=[.tmp 6,.tmp 7]) 40 [(0,.pointer (some ⟨p,0,none⟩)),(1,.string s),(2,.int .i64 i)] Tryz.func109 rfl rfl (Nat.le_of_ble_eq_true rfl) rfl ⟨rfl,rfl,rfl,trivial⟩ ?_
   iterate 14 refine s1_ ?_
   refine ca_ rfl (hfind) ?_
   rintro _ S1 ⟨rfl,h1⟩
   rw [h1,q];clear h1 S1
   iterate 7 refine s1_ ?_
   refine su_ [(0,_),(1,_),(2,_),(6,_),(7,_),(8,_),(9,_)] ?_
   iterate 9 refine s1_ ?_
   refine su_ [(0,_),(1,_),(2,_),(6,_),(7,_),(8,_),(9,_),(20,_)] ?_
   refine cF_ ?_
   iterate 20 refine s1_ ?_
   refine su_ [(0,_),(1,_),(2,_),(6,_),(7,_),(8,_),(9,_),(20,_),(23,_)] ?_
   refine cT_ ?_
   iterate 9 refine s1_ ?_
   refine ⟨_,M,⟨_,_,rfl,⟨_,_,rfl,rfl,rfl⟩,rfl⟩,less_,?_⟩
   exact ⟨rfl,rfl⟩
  ·by_cases q2:(sec x:Int)≤i
   ·rw [if_pos (.inr q2)]
    refine ACall.enter (rs:=[.tmp 6,.tmp 7]) 40 [(0,.pointer (some ⟨p,0,none⟩)),(1,.string s),(2,.int .i64 i)] Tryz.func109 rfl rfl (Nat.le_of_ble_eq_true rfl) rfl ⟨rfl,rfl,rfl,trivial⟩ ?_
    iterate 14 refine s1_ ?_
    refine ca_ rfl (hfind) ?_
    rintro _ S1 ⟨rfl,h1⟩
    rw [h1,q];clear h1 S1
    iterate 7 refine s1_ ?_
    refine su_ [(0,_),(1,_),(2,_),(6,_),(7,_),(8,_),(9,_)] ?_
    iterate 9 refine s1_ ?_
    refine su_ [(0,_),(1,_),(2,_),(6,_),(7,_),(8,_),(9,_),(20,_)] ?_
    refine cF_ ?_
    iterate 14 refine s1_ ?_
    refine ARun.callG 2 false 26 rfl (lit_lt rfl) rfl (lit_lt rfl) go_114 rfl (disk_sectors x _ (by omega)) ?_
    rintro _ S1 ⟨rfl,h1⟩
    rw [h1];clear h1 S1
    iterate 5 refine s1_ ?_
    refine su_ [(0,_),(1,_),(2,_),(6,_),(7,_),(8,_),(9,_),(20,_),(23,_)] ?_
    refine cT_ ?_
    iterate 9 refine s1_ ?_
    refine ⟨_,M,⟨_,_,rfl,⟨_,_,rfl,rfl,rfl⟩,rfl⟩,less_,?_⟩
    exact ⟨rfl,rfl⟩
   ·rw [if_neg (by omega)]
    refine ACall.enter (rs:=[.tmp 6,.tmp 7]) 40 [(0,.pointer (some ⟨p,0,none⟩)),(1,.string s),(2,.int .i64 i)] Tryz.func109 rfl rfl (Nat.le_of_ble_eq_true rfl) rfl ⟨rfl,rfl,rfl,trivial⟩ ?_
    iterate 14 refine s1_ ?_
    refine ca_ rfl (hfind) ?_
    rintro _ S1 ⟨rfl,h1⟩
    rw [h1,q];clear h1 S1
    iterate 7 refine s1_ ?_
    refine su_ [(0,_),(1,_),(2,_),(6,_),(7,_),(8,_),(9,_)] ?_
    iterate 9 refine s1_ ?_
    refine su_ [(0,_),(1,_),(2,_),(6,_),(7,_),(8,_),(9,_),(20,_)] ?_
    refine cF_ ?_
    iterate 14 refine s1_ ?_
    refine ARun.callG 2 false 26 rfl (lit_lt rfl) rfl (lit_lt rfl) go_114 rfl (disk_sectors x _ (by omega)) ?_
    rintro _ S1 ⟨rfl,h1⟩
    rw [h1];clear h1 S1
    iterate 5 refine s1_ ?_
    refine su_ [(0,_),(1,_),(2,_),(6,_),(7,_),(8,_),(9,_),(20,_),(23,_)] ?_
    refine cF_ ?_
    iterate 10 refine s1_ ?_
    refine su_ [(0,_),(1,_),(2,_),(6,_),(7,_),(8,_),(9,_),(20,_),(23,_)] ?_
    refine s1_ ?_
    refine ⟨_,M,⟨_,_,rfl,⟨_,_,rfl,rfl,rfl⟩,rfl⟩,less_,?_⟩
    exact ⟨rfl,rfl⟩
 ·rw [if_neg q]
  refine ACall.enter (rs:=[.tmp 6,.tmp 7]) 40 [(0,.pointer (some ⟨p,0,none⟩)),(1,.string s),(2,.int .i64 i)] Tryz.func109 rfl rfl (Nat.le_of_ble_eq_true rfl) rfl ⟨rfl,rfl,rfl,trivial⟩ ?_
  iterate 14 refine s1_ ?_
  refine ca_ rfl (disk_find _ d.ext s _ hME hR.ex.asc (Nat.le_trans (right_len hR).1 (by decide))) ?_
  rintro _ S1 ⟨rfl,h1⟩
  rw [h1,Bool.eq_false_iff.2 q];clear h1 S1
  iterate 7 refine s1_ ?_
  refine su_ [(0,_),(1,_),(2,_),(6,_),(7,_),(8,_),(9,_)] ?_
  iterate 9 refine s1_ ?_
  refine su_ [(0,_),(1,_),(2,_),(6,_),(7,_),(8,_),(9,_),(20,_)] ?_
  refine cT_ ?_
  iterate 9 refine s1_ ?_
  refine ⟨_,M,⟨_,_,rfl,⟨_,_,rfl,rfl,rfl⟩,rfl⟩,less_,?_⟩
  exact ⟨rfl,rfl⟩
/-- What stands in a world stands in a later one. -/
theorem view_later {w w1 : World} (h : Below w.heap.size w w1) : View (roM w) w1 :=
 ⟨fun _ _ h=>(by cases h),fun a v hv=>⟨by
  have hb:a.block<w.heap.size:=by
   rcases Nat.lt_or_ge a.block w.heap.size with q | q
   ·exact q
   ·have hv':w.cell? a=some v:=hv
    simp [World.cell?,Array.getElem?_eq_none q] at hv'
  exact (h.cell hb).trans hv,rfl⟩,fun _ _ h=>(by cases h)⟩
theorem place_calls (p : Nat) (d : D) (s : ByteArray) (i : Int) (w : World) (qe : Option Addr) (de : Nat) (sv : Value) (h : RdK (roM w) p d qe de sv) (hR : Right d) (w1 : World) (hb : Below w.heap.size w w1) :
  Calls Tryz.prog 109 #[.pointer (some ⟨p,0,none⟩),.string s,.int .i64 i] w1 fun e w2=>e = .returned (.tuple #[.int .i64 ((placeD d s i).1:Nat),.int .i64 (placeD d s i).2])∧Below w1.heap.size w1 w2 :=
 (dev_placeK p d s i (roM w) qe de sv h hR w1 (view_later hb)).mono fun _ _ ⟨v,S',he,⟨hr,_⟩,st⟩=>⟨by rw [he,hr],st.toBelow fun _=>rfl⟩
theorem boxes4 {w w2 : World} {t1 t2 t3 t4 : TypeId} {v1 v2 v3 v4 : Value} (h : Below ((((w.alloc (.cells #[v1] t1)).alloc (.cells #[v2] t2)).alloc (.cells #[v3] t3)).alloc (.cells #[v4] t4)).heap.size ((((w.alloc (.cells #[v1] t1)).alloc (.cells #[v2] t2)).alloc (.cells #[v3] t3)).alloc (.cells #[v4] t4)) w2) :
  Boxed w2 w.heap.size t1 v1∧Boxed w2 (w.heap.size+1) t2 v2∧Boxed w2 (w.heap.size+1+1) t3 v3∧Boxed w2 (w.heap.size+1+1+1) t4 v4∧Below w.heap.size w w2∧w.heap.size+4≤w2.heap.size:=by
 have b1:=(((Boxed.new w t1 v1).alloc (.cells #[v2] t2)).alloc (.cells #[v3] t3)).alloc (.cells #[v4] t4)
 have b2:=((Boxed.new (w.alloc (.cells #[v1] t1)) t2 v2).alloc (.cells #[v3] t3)).alloc (.cells #[v4] t4)
 have b3:=(Boxed.new ((w.alloc (.cells #[v1] t1)).alloc (.cells #[v2] t2)) t3 v3).alloc (.cells #[v4] t4)
 have b4:=Boxed.new (((w.alloc (.cells #[v1] t1)).alloc (.cells #[v2] t2)).alloc (.cells #[v3] t3)) t4 v4
 have hB0:Below w.heap.size w ((((w.alloc (.cells #[v1] t1)).alloc (.cells #[v2] t2)).alloc (.cells #[v3] t3)).alloc (.cells #[v4] t4)):=((((Below.refl _ w).alloc (Nat.le_refl _) _).alloc (by simp) _).alloc (by simp;omega) _).alloc (by simp;omega) _
 have hsz:((((w.alloc (.cells #[v1] t1)).alloc (.cells #[v2] t2)).alloc (.cells #[v3] t3)).alloc (.cells #[v4] t4)).heap.size=w.heap.size+4:=by simp
 simp only [World.size_alloc] at b2 b3 b4
 rw [hsz] at h
 exact ⟨(h.block _ (by omega)).trans b1,(h.block _ (by omega)).trans b2,(h.block _ (by omega)).trans b3,(h.block _ (by omega)).trans b4,hB0.trans (h.mono (by omega)),by rw [← hsz];exact h.size⟩
theorem cell_new3 (W : World) (cs : Array Value) (t : TypeId) (i : Nat) {v : Value} (h : cs[i]? = some v) : (W.alloc (.cells cs t)).cell? ⟨W.heap.size, i, none⟩ = some v := by
 have e:=World.alloc_heap_new W (.cells cs t)
 unfold World.cell?
 rw [e]
 exact h
theorem place_ok {d : D} {s : ByteArray} {k : Int} {j : Nat} (hR : Right d) (h : placeD d s k = (j, 0)) : ∃ hlt : j < d.ext.length, exOf d.ext s = d.ext[j] ∧ 0 ≤ k ∧ k < sec d.ext[j] := by
 unfold placeD at h
 by_cases q:has d.ext s=true
 ·obtain ⟨hlt,_⟩:=(has_pos hR.ex.asc s).1 q
  rw [if_pos q] at h
  by_cases q1:k<0∨(sec (exOf d.ext s):Int)≤k
  ·rw [if_pos q1] at h;simp at h
  ·rw [if_neg q1] at h
   obtain rfl:pos d.ext s=j:=by simpa using h
   rw [exOf_eq hlt] at q1 ⊢
   exact ⟨hlt,rfl,by omega,by omega⟩
 ·rw [if_neg q] at h;simp at h
attribute [local go_sem] Oper.semAt_some
theorem boxed_below {n B : Nat} {W W' : World} {t : TypeId} {v : Value} (h : Below n W W') (hb : B < n) (hx : Boxed W B t v) : Boxed W' B t v := (h.block _ hb).trans hx
theorem Waits.grow {n m : Nat} {W : World} {sv : Value} {zs : List Wr} (h : Waits n W sv zs) (hl : n ≤ m) : Waits m W sv zs := by
 obtain ⟨A,cap,e,h1⟩:=h
 exact ⟨A,cap,e,h1.imp id fun ⟨b,off,e1,hb,hc⟩=>⟨b,off,e1,by omega,hc⟩⟩
theorem wr_facts {m : Nat} {ex : Ext} (h1 : sec ex ≤ 16384 ∧ ex.2.size = 64 * sec ex ∧ 1 ≤ sec ex) (h2 : (m : Int) < (sec ex : Int)) : IntKind.i64.wrap (64 * (m : Int)) = ((64 * m : Nat) : Int) ∧ IntKind.i64.wrap ((m : Int) + 1) = ((m + 1 : Nat) : Int) ∧ IntKind.i64.wrap (64 * ((m + 1 : Nat) : Int)) = ((64 * (m + 1) : Nat) : Int) ∧ 64 * (m + 1) ≤ ex.2.size := by
 refine ⟨?_,?_,?_,by omega⟩
 ·rw [IntWalk.i64_in _ (by omega)];omega
 ·rw [IntWalk.i64_in _ (by omega)];omega
 ·rw [IntWalk.i64_in _ (by omega)];omega
/-! ### A region behind a deferred mark -/
def Lk (a : Act) : Env → Prop
  | [] => True
  | (k, v) :: E => a.tmps.getD k undef = v ∧ Lk a E
theorem Lk.at_ {a : Act} : ∀ {E : Env}, Lk a E → ∀ d v, lk E d = some v → a.tmps.getD d undef = v
 | [],_,d,v,h=>by cases h
 | (k,u) :: E,⟨h1,h2⟩,d,v,h=>by
  simp only [lk] at h
  split at h
  ·rename_i e;cases h;rw [← e];exact h1
  ·exact h2.at_ d v h
theorem yield_calm {P : Program} {N : Nat} {o : Oper} {E : Env} {v : Value} {R : Value → World → Prop} {a : Act} {w : World} (hsz : a.tmps.size = N) (hE : Lk a E) (hc : ACalm P N o E (roM w) v) (hR : R v w) : Reg.Yield P (execOp a.eval o) w R := by
 unfold Reg.Yield
 have:=hc ⟨a.tmps,[]⟩ w ⟨hsz,rfl,hE.at_⟩ (view_roM w)
 have e:(execOp a.eval o).run P w = .ok (.value v) w:=this
 rw [e];exact hR
theorem rd_roM {w : World} {a : Addr} {v : Value} (h : w.cell? a = some v) : (roM w).rd a = some v := h
theorem yield_store {P : Program} {T : TypeId} {x y : Operand} {a : Act} {w : World} {b : Nat} {t : TypeId} {v0 v : Value} {ty : TypeId} {pos : String} {aft : Array Edge} {gd : Option (Nat × Bool)} {R : Value → World → Prop} (hs : sizeT P T = some 1) (hc : v.cells = #[v]) (h1 : v.oneCell' = true) (hb : Boxed w b t v0) (hx : a.eval x = .pointer (some ⟨b, 0, none⟩)) (hy : a.eval y = v) (hR : R undef (w.setCell ⟨b, 0, none⟩ v)) : Reg.Yield P (execOp a.eval ⟨none, .store T x y, ty, pos, aft, gd⟩) w R := by
 have hv:View ⟨fun k=>if k=b then some ⟨t,[v0],1⟩ else none,⟨fun _=>none,fun _=>none⟩⟩ w:=⟨fun k r hk=>(by
  by_cases e:k=b
  ·subst e
   simp only [if_true] at hk
   cases hk
   exact ⟨#[v0],(0,0),hb,List.prefix_refl _,Nat.le_refl _,fun j _ h=>by omega⟩
  ·simp only [if_neg e] at hk;cases hk),fun _ _ h=>(by cases h),fun _ _ h=>(by cases h)⟩
 obtain ⟨h2,_⟩:=store_cells (P:=P) hv (b:=b) (o:=0) (r:=⟨t,[v0],1⟩) (vs:=[v]) (by simp) (Nat.zero_le _) (.inl (Nat.le_refl _)) (by simpa using h1)
 have e:(execOp a.eval ⟨none,.store T x y,ty,pos,aft,gd⟩).run P w = .ok .skip (w.setCell ⟨b,0,none⟩ v):=by
  have hs':sizeT P T=some v.cells.size:=by rw [hc];exact hs
  have h2':(storeCells ⟨b,0,none⟩ v.cells.toList).run P w = .ok () (w.setCell ⟨b,0,none⟩ v):=by rw [hc];exact h2
  simp [execOp,hx,hy,Instr.storeAt,Instr.sureAddr,storeVar,run_sizeT hs' w,h2']
 unfold Reg.Yield
 rw [e];exact hR
theorem no_dst {ops : Array Oper} {d : Nat} (h : (ops.toList.all fun o => o.dst != some d) = true) : ∀ (k : Nat) (o : Oper), ops[k]? = some o → o.dst ≠ some d := fun k o hk e => by
 have:=List.all_eq_true.1 h o (by simpa using Array.mem_of_getElem? hk)
 rw [e] at this;simp at this
/-- The two stores of the answer, as far as they are done. -/
def two (W : World) (B6 B7 : Nat) (v6 v7 : Value) : Bool → Bool → World
  | _, true => (W.setCell ⟨B6, 0, none⟩ v6).setCell ⟨B7, 0, none⟩ v7
  | true, false => W.setCell ⟨B6, 0, none⟩ v6
  | false, false => W
theorem keep_two {W : World} {B6 B7 : Nat} {v6 v7 : Value} {st : Nat → Bool} {w1 : World} {i : Nat} (h : w1 = two W B6 B7 v6 v7 (st 15) (st 16)) (h1 : 15 ≠ i) (h2 : 16 ≠ i) : w1 = two W B6 B7 v6 v7 (Reg.upd st i 15) (Reg.upd st i 16) := by
 rw [Reg.upd_other _ h1,Reg.upd_other _ h2];exact h
theorem two_none {W : World} {B6 B7 : Nat} {v6 v7 : Value} {st : Nat → Bool} {w1 : World} (h : w1 = two W B6 B7 v6 v7 (st 15) (st 16)) (h1 : st 15 = false) (h2 : st 16 = false) : w1 = W := by
 rw [h,h1,h2];rfl
set_option maxRecDepth 100000 in
set_option maxHeartbeats 4000000 in
theorem readW (p : Nat) (d : D) (s : ByteArray) (k : Int) (w : World) (qe : Option Addr) (de : Nat) (sv : Value) (h : RdK (roM w) p d qe de sv) (hR : Right d) (hpn : p < w.heap.size) (hWt : Waits w.heap.size w sv d.waits) (hlen : d.waits.length ≤ 16384) :
  Calls Tryz.prog 60 #[.pointer (some ⟨p,0,none⟩),.string s,.int .i64 k] w fun e w'=>e = .returned (.tuple #[.string (readD d s k).1,.int .i64 (readD d s k).2])∧Below w.heap.size w w':=by
 have hpl:=place_calls p d s k w qe de sv h hR
 generalize hrv:readD d s k=rv
 obtain ⟨rv1,rv2⟩:=rv
 unfold readD at hrv
 generalize hpd:placeD d s k=pl at *
 obtain ⟨j,er⟩:=pl
 have hc:∀ i v,[Value.int .i64 d.size,.slice qe d.ext.length de,sv,.int .i64 d.fuse,.bool d.down][i]?=some v → ∀ w2,Below w.heap.size w w2→w2.cell? ⟨p,i,none⟩=some v:=fun i v hi w2 hb=>by
  have:=h.1 w (view_roM w) i v hi
  have e:(⟨p,0,none⟩ : Addr).add i=⟨p,i,none⟩:=by unfold Addr.add;cases i <;> simp
  rw [e] at this
  exact (hb.cell (p:=⟨p,i,none⟩) hpn).trans this
 refine (callsIn_wide (n:=6)).1 ?_
 refine callsIn_of_wp_marks Tryz.func60 rfl trivial ?_ rfl
 simp only [Tryz.ntmps60,List.size_toArray,List.length_cons,List.length_nil,Nat.reduceAdd,Nat.reduceSub,Array.replicate_succ,Array.replicate_zero,List.push_toArray,List.append_toArray,List.nil_append,List.cons_append]
 have hB4:∀ (u1 u2 u3 u4:Value) (t1 t2 t3 t4:TypeId),Below w.heap.size w ((((w.alloc (.cells #[u1] t1)).alloc (.cells #[u2] t2)).alloc (.cells #[u3] t3)).alloc (.cells #[u4] t4)):=fun _ _ _ _ _ _ _ _=>((((Below.refl _ w).alloc (Nat.le_refl _) _).alloc (by simp) _).alloc (by simp;omega) _).alloc (by simp;omega) _
 by_cases q:er=0
 ·subst q
  rw [if_neg (by simp)] at hrv
  obtain ⟨A,cap,rfl,hW1⟩:=id hWt
  gi_wp2_with (first
   | (refine ⟨trivial,?_⟩;gi_at_call 109;refine (callsIn_wide.2 (hpl _ (hB4 _ _ _ _ _ _ _ _))).mono ?_;rintro e w2 ⟨rfl,hb2⟩;obtain ⟨b4,b5,b6,b7,hB2,hs2⟩:=boxes4 hb2;have cW:=hc 2 _ rfl w2 hB2)
   | (refine ⟨trivial,?_⟩;gi_at_call 110;refine (back_in Fence.wide _ trivial rfl _ _ _ _).mono ?_;rintro e w' ⟨rfl,rfl⟩))
  obtain ⟨W0,hW0⟩ : ∃ W0,w2.alloc (.cells #[.slice A d.waits.length cap] 23)=W0:=⟨_,rfl⟩
  have bL:Boxed W0 w2.heap.size 23 (.slice A d.waits.length cap):=by rw [← hW0];exact Boxed.new _ _ _
  have b4':Boxed W0 w.heap.size 9 (.string s):=by rw [← hW0];exact b4.alloc _
  have b5':Boxed W0 (w.heap.size+1) 3 (.int .i64 k):=by rw [← hW0];exact b5.alloc _
  have b6':Boxed W0 (w.heap.size+1+1) 9 (.string { data:=#[] }):=by rw [← hW0];exact b6.alloc _
  have b7':Boxed W0 (w.heap.size+1+1+1) 29 (.int .i64 0):=by rw [← hW0];exact b7.alloc _
  have hB0:Below w.heap.size w W0:=by rw [← hW0];exact hB2.alloc hB2.size _
  have hsz:W0.heap.size=w2.heap.size+1:=by rw [← hW0];simp
  rw [hW0]
  clear hW0 b4 b5 b6 b7 hb2
  have hWt0:Waits W0.heap.size W0 (.slice A d.waits.length cap) d.waits:=(hWt.below hB0).grow (by omega)
  refine wpIn_rangeFunc_ownH rfl (by omega) (gf:=147) (lb:=#[.pointer (some ⟨w2.heap.size,0,none⟩)]) rfl trivial (enters_of Tryz.func147 (by kernel_rfl) rfl)
   (back_stops Fence.wide (6-1) trivial rfl (by omega) w2.heap.size W0.heap.size _ d.waits hlen W0 (by omega) (Nat.le_refl _) bL.cell hWt0) belowK_t (belowK_b (Nat.le_refl _)) (Below.refl _ _) (fun _=>rfl)
   (fun pre W=>(∀ y ∈ pre,hit s k y=false)∧Below W0.heap.size W0 W)
   (fun c pre W=>(c = .ret ∧ ∃ pre' y,pre=pre' ++ [y]∧(∀ z ∈ pre',hit s k z=false)∧hit s k y=true∧Boxed W (w.heap.size+1+1) 9 (.string y.2.2.2)∧Boxed W (w.heap.size+1+1+1) 29 (.int .i64 0))∧Below w.heap.size w W)
   (OwnFrom.and (ownFrom_pure _ _) (ownFrom_below (Nat.le_refl _) (Nat.le_refl _)))
   (fun c=>OwnFrom.and (Own.from (fun st A B row hs hg hr=>by obtain ⟨e0,pre',y,e1,e2,e3,e4,e5⟩:=hs;exact ⟨e0,pre',y,e1,e2,e3,boxed_own _ _ (fun (_:Unit)=>Value.string y.2.2.2) () A B row e4 hg hr,boxed_own _ _ (fun (_:Unit)=>Value.int .i64 0) () A B row e5 hg hr⟩) _) (ownFrom_below (Nat.le_refl _) hB0.size))
   ⟨by simp,Below.refl _ _⟩
   (fun x a' W=>∃ Bx,(W.cell? ⟨Bx,0,none⟩=some (.string x.2.1)∧W.cell? ⟨Bx,1,none⟩=some (.int .i64 x.2.2.1)∧W.cell? ⟨Bx,2,none⟩=some (.string x.2.2.2))∧a' = { tmps:=#[.pointer (some ⟨p,0,none⟩),.string s,.int .i64 k,undef,.pointer (some ⟨w.heap.size,0,none⟩),.pointer (some ⟨w.heap.size+1,0,none⟩),.pointer (some ⟨w.heap.size+1+1,0,none⟩),.pointer (some ⟨w.heap.size+1+1+1,0,none⟩),.int .i64 j,.int .i64 0,undef,.pointer (some ⟨Bx,0,none⟩),.tuple #[.int .i64 j,.int .i64 0],.pointer (some ⟨p,0,none⟩),.string s,.int .i64 k,.tuple #[.int .i64 j,.int .i64 0],.int .i64 j,.int .i64 0,.int .i64 0,.bool false,undef,.pointer (some ⟨p,0,none⟩),.pointer (some ⟨p,0,none⟩),.pointer (some ⟨p,0,none⟩),.pointer (some ⟨p,2,none⟩),.slice A d.waits.length cap,.func (.func 147) #[] #[.pointer (some ⟨w2.heap.size,0,none⟩)],.int .i64 x.1,wrV x.2,undef,undef,undef,undef,undef,undef,undef,undef,undef,undef,undef,undef,undef,undef,undef,undef,undef,undef,undef,undef,undef,undef,undef,undef,undef,undef,undef],defers:=[] })
   (fun x a' st X Y row hs hg hr=>by obtain ⟨Bx,⟨h1,h2,h3⟩,h4⟩:=hs;exact ⟨Bx,⟨cell_kept h1 hg (fun r e=>(hr r e).2),cell_kept h2 hg (fun r e=>(hr r e).2),cell_kept h3 hg (fun r e=>(hr r e).2)⟩,h4⟩)
   ?assign ?body ?done ?stop
  case assign =>
   rintro l pre x W K ⟨hI1,hI2⟩ hK
   simp only [wrV] at hK ⊢
   gi_wp2
   exact hK _ _ ((KeepsOthers.alloc _ _).from _) ((Below.refl _ W).alloc hI2.size _) ⟨hI1,hI2.alloc hI2.size _⟩ ⟨W.heap.size,⟨cell_new3 W _ _ 0 rfl,cell_new3 W _ _ 1 rfl,cell_new3 W _ _ 2 rfl⟩,rfl⟩
  case body =>
   rintro l pre x a' W hl ⟨r,hr⟩ ⟨hI1,hI2⟩ ⟨Bx,⟨c0,c1,c2⟩,rfl⟩ hlt
   simp only [wrV]
   have cs:=(boxed_below hI2 (by omega) b4').cell
   have ck:=(boxed_below hI2 (by omega) b5').cell
   have bs:=boxed_below hI2 (by omega) b6'
   have be:=boxed_below hI2 (by omega) b7'
   have cs6:=bs.cell
   have fs6:=bs.frozen
   have cs7:=be.cell
   have fs7:=be.frozen
   have hBW:Below w.heap.size w W:=hB0.trans (hI2.mono hB0.size)
   gi_wp2
   ·rename_i hx1 hx2
    refine ⟨((KeepsOthers.setCell _ _ _).trans (KeepsOthers.setCell _ _ _)).from _,⟨rfl,pre,x,rfl,hI1,by unfold hit;rw [hx2,hx1];simp,(bs.set _).other (by omega) _,(be.other (by omega) _).set _⟩,(hBW.setCell (p:=⟨w.heap.size+1+1,0,none⟩) (by simp;omega) _).setCell (p:=⟨w.heap.size+1+1+1,0,none⟩) (by simp;omega) _⟩
   ·rename_i hx1 hx2
    exact ⟨KeepsFrom.refl _ _,Below.refl _ _,fun y hy=>(List.mem_append.1 hy).elim (hI1 y) (fun e=>by simp at e;subst e;unfold hit;rw [hx2];simp),hI2⟩
   ·rename_i hx1
    exact ⟨KeepsFrom.refl _ _,Below.refl _ _,fun y hy=>(List.mem_append.1 hy).elim (hI1 y) (fun e=>by simp at e;subst e;unfold hit;rw [beq_eq_false_iff_ne.2 hx1];rfl),hI2⟩
  case done =>
   rintro D ys W hD rfl ⟨hI1,hI2⟩ hK
   have hBW:Below w.heap.size w W:=hB0.trans (hI2.mono hB0.size)
   obtain ⟨hlt,hex,hk0,hk1⟩:=place_ok hR hpd
   obtain ⟨_,_,ee1,ee2,ee3,hE3⟩:=id h.2
   cases ee1
   obtain ⟨b,off,rfl,hkk⟩:=hE3.resolve_left (fun e=>by rw [e] at hlt;simp at hlt)
   have cE:=hc 1 _ rfl W hBW
   have ck:=(boxed_below hI2 (by omega) b5').cell
   have bs:=boxed_below hI2 (by omega) b6'
   have be:=boxed_below hI2 (by omega) b7'
   have cs6:=bs.cell
   have fs6:=bs.frozen
   have cs7:=be.cell
   have fs7:=be.frozen
   gi_wp2
   have cX:W.cell? ⟨b,off+j*2+1,none⟩=some (.string d.ext[j].2):=kn_at (hkk _ hlt) 1 rfl W (view_later hBW) 0 _ rfl
   have hsx:=right_sec hR (List.getElem_mem hlt)
   obtain ⟨m,rfl⟩ : ∃ m:Nat,k=m:=⟨k.toNat,by omega⟩
   have hnone:lastW d.waits s m=none:=by
    unfold lastW;rw [List.find?_eq_none];intro y hy;rw [hI1 y hy];simp
   rw [hnone,hex] at hrv
   clear hex hnone
   generalize d.ext[j]=ex at *
   obtain ⟨hm1,hm2,hm3,hm4⟩:=wr_facts hsx hk1
   clear hpl hc hW1 hWt0 hB4 hB2 cW bL b4' b5' b6' b7' hI1 hkk hE3 hk0
   refine wpIn_wide.2 ?_
   refine Reg.wp_steps rfl (by kernel_rfl) (fun k v _=>v=([.pointer (some ⟨p,0,none⟩),.pointer (some ⟨p,0,none⟩),.pointer (some ⟨p,0,none⟩),.pointer (some ⟨p,1,none⟩),.slice (some ⟨b,off,none⟩) d.ext.length de,.int .i64 (j:Int),.pointer (some ⟨b,off+j*2,none⟩),.pointer (some ⟨b,off+j*2+1,none⟩),.string ex.2,.int .i64 (m:Int),.int .i64 ((64*m:Nat):Int),.int .i64 (m:Int),.int .i64 ((m+1:Nat):Int),.int .i64 ((64*(m+1):Nat):Int),.string (ex.2.extract (64*m) (64*(m+1)))] : List Value).getD k undef) (fun st w'=>w'=two W.drew (w.heap.size+1+1) (w.heap.size+1+1+1) (.string (ex.2.extract (64*m) (64*(m+1)))) (.int .i64 0) (st 15) (st 16)) (fun _ _=>True) rfl (fun _ _ _ _ _ h=>h) (Reg.each ?_) ?fin
   case fin =>
    intro tm w' st hsz' hI hall hDf hbase
    have e15:st 15=true:=hall 15 (by decide)
    have e16:st 16=true:=hall 16 (by decide)
    have g6:tm[6]?.getD undef = .pointer (some ⟨w.heap.size+1+1,0,none⟩):=by rw [← Array.getD_eq_getD_getElem?];exact hbase 6 (no_dst (by kernel_rfl))
    have g7:tm[7]?.getD undef = .pointer (some ⟨w.heap.size+1+1+1,0,none⟩):=by rw [← Array.getD_eq_getD_getElem?];exact hbase 7 (no_dst (by kernel_rfl))
    have hw':w'=(W.drew.setCell ⟨w.heap.size+1+1,0,none⟩ (.string (ex.2.extract (64*m) (64*(m+1))))).setCell ⟨w.heap.size+1+1+1,0,none⟩ (.int .i64 0):=by have h:w'=two _ _ _ _ _ (st 15) (st 16):=hI;rw [h,e15,e16];rfl
    obtain ⟨rfl,rfl⟩ : ex.2.extract (64*m) (64*(m+1))=rv1∧(0:Int)=rv2:=by simpa [Int.toNat_natCast,Nat.mul_succ] using hrv
    have b6:=((bs.set (W:=W.drew) (.string (ex.2.extract (64*m) (64*(m+1))))).other (B':=w.heap.size+1+1+1) (by omega) (.int .i64 0))
    have b7:=((be.other (W:=W.drew) (B':=w.heap.size+1+1) (by omega) (.string (ex.2.extract (64*m) (64*(m+1))))).set (.int .i64 0))
    have hB':Below w.heap.size w w':=by rw [hw'];exact ((hBW.drew).setCell (p:=⟨w.heap.size+1+1,0,none⟩) (by simp;omega) _).setCell (p:=⟨w.heap.size+1+1+1,0,none⟩) (by simp;omega) _
    have hK':w'.heap[D]?=some (.deferred (some [])):=by rw [hw',Below.heap_setCell _ _ _ _ (by show D≠w.heap.size+1+1+1;omega),Below.heap_setCell _ _ _ _ (by show D≠w.heap.size+1+1;omega)];exact hK
    rw [← hw'] at b6 b7
    clear hDf hm1 hm2 hm3 hm4 hsz' hbase hall hI hw' e15 e16 hrv ck cE cX cs6 cs7 fs6 fs7 bs be
    rename_i K1 aK
    refine aK _ _ ?_
    gi_wp2
    refine ⟨by simp,.inl ⟨_,_,rfl,run_takeDeferred hK',?_⟩⟩
    have h6:=cell_kept b6.cell (grownBy_putObj' _ D (.deferred none)) (fun r e=>by cases e;exact ⟨_,hK',rfl⟩)
    have h7:=cell_kept b7.cell (grownBy_putObj' _ D (.deferred none)) (fun r e=>by cases e;exact ⟨_,hK',rfl⟩)
    refine ⟨.tuple #[.string (ex.2.extract (64*m) (64*(m+1))),.int .i64 0],?_,rfl,hB'.trans (belowK_b (w:=w) (Nat.le_refl _) _ D _ _ (by omega) hK' rfl rfl)⟩
    simp [results,Tryz.f60,go_sem,h6,h7,g6,g7]
   refine ⟨?_,?_,?_,?_,?_,?_,?_,?_,?_,?_,?_,?_,?_,?_,?_,?_,?_,trivial⟩
   all_goals (intro a w1 st ha hI hd hs hi hw hT;clear hK hBW hI2 hB0 hWt hpd hrv h)
   ·obtain rfl:=two_none hI (hw 15 (by kernel_rfl)) (hw 16 (by kernel_rfl))
    exact yield_calm ha (E:=[(0,.pointer (some ⟨p,0,none⟩))]) ⟨hT 0 (by kernel_rfl),trivial⟩ (Calm.move rfl) ⟨rfl,keep_two hI (by decide) (by decide),trivial⟩
   ·obtain rfl:=two_none hI (hw 15 (by kernel_rfl)) (hw 16 (by kernel_rfl))
    exact yield_calm ha (E:=[(42,.pointer (some ⟨p,0,none⟩))]) ⟨hd ⟨0,.data⟩ (by simp) rfl _ _ rfl rfl,trivial⟩ (Calm.nilCheck rfl) ⟨rfl,keep_two hI (by decide) (by decide),trivial⟩
   ·obtain rfl:=two_none hI (hw 15 (by kernel_rfl)) (hw 16 (by kernel_rfl))
    exact yield_calm ha (E:=[(43,.pointer (some ⟨p,0,none⟩))]) ⟨hd ⟨1,.data⟩ (by simp) rfl _ _ rfl rfl,trivial⟩ (Calm.fieldAddr (n:=4) (off:=0) (by kernel_rfl) rfl) ⟨rfl,keep_two hI (by decide) (by decide),trivial⟩
   ·obtain rfl:=two_none hI (hw 15 (by kernel_rfl)) (hw 16 (by kernel_rfl))
    exact yield_calm ha (E:=[(44,.pointer (some ⟨p,0,none⟩))]) ⟨hd ⟨2,.data⟩ (by simp) rfl _ _ rfl rfl,trivial⟩ (Calm.fieldAddr (n:=0) (off:=1) (by kernel_rfl) rfl) ⟨rfl,keep_two hI (by decide) (by decide),trivial⟩
   ·obtain rfl:=two_none hI (hw 15 (by kernel_rfl)) (hw 16 (by kernel_rfl))
    exact yield_calm ha (E:=[(45,.pointer (some ⟨p,1,none⟩))]) ⟨hd ⟨3,.data⟩ (by simp) rfl _ _ rfl rfl,trivial⟩ (Calm.load (by kernel_rfl) rfl (rd_roM cE)) ⟨rfl,keep_two hI (by decide) (by decide),trivial⟩
   ·obtain rfl:=two_none hI (hw 15 (by kernel_rfl)) (hw 16 (by kernel_rfl))
    exact yield_calm ha (E:=[(8,.int .i64 (j:Int))]) ⟨hT 8 (by kernel_rfl),trivial⟩ (Calm.move rfl) ⟨rfl,keep_two hI (by decide) (by decide),trivial⟩
   ·obtain rfl:=two_none hI (hw 15 (by kernel_rfl)) (hw 16 (by kernel_rfl))
    exact yield_calm ha (E:=[(46,.slice (some ⟨b,off,none⟩) d.ext.length de),(47,.int .i64 (j:Int))]) ⟨hd ⟨4,.data⟩ (by simp) rfl _ _ rfl rfl,hd ⟨5,.data⟩ (by simp) rfl _ _ rfl rfl,trivial⟩ (Calm.indexS (e:=81) (n:=2) (by kernel_rfl) (by kernel_rfl) rfl rfl (Int.natCast_nonneg _) (Int.ofNat_lt.2 hlt)) ⟨rfl,keep_two hI (by decide) (by decide),trivial⟩
   ·obtain rfl:=two_none hI (hw 15 (by kernel_rfl)) (hw 16 (by kernel_rfl))
    exact yield_calm ha (E:=[(48,.pointer (some ⟨b,off+j*2,none⟩))]) ⟨hd ⟨6,.data⟩ (by simp) rfl _ _ rfl rfl,trivial⟩ (Calm.fieldAddr (n:=0) (off:=1) (by kernel_rfl) rfl) ⟨rfl,keep_two hI (by decide) (by decide),trivial⟩
   ·obtain rfl:=two_none hI (hw 15 (by kernel_rfl)) (hw 16 (by kernel_rfl))
    exact yield_calm ha (E:=[(49,.pointer (some ⟨b,off+j*2+1,none⟩))]) ⟨hd ⟨7,.data⟩ (by simp) rfl _ _ rfl rfl,trivial⟩ (Calm.load (by kernel_rfl) rfl (rd_roM cX)) ⟨rfl,keep_two hI (by decide) (by decide),trivial⟩
   ·obtain rfl:=two_none hI (hw 15 (by kernel_rfl)) (hw 16 (by kernel_rfl))
    exact yield_calm ha (E:=[(5,.pointer (some ⟨w.heap.size+1,0,none⟩))]) ⟨hT 5 (by kernel_rfl),trivial⟩ (Calm.load (by kernel_rfl) rfl (rd_roM ck)) ⟨rfl,keep_two hI (by decide) (by decide),trivial⟩
   ·obtain rfl:=two_none hI (hw 15 (by kernel_rfl)) (hw 16 (by kernel_rfl))
    exact yield_calm ha (E:=[(51,.int .i64 (m:Int))]) ⟨hd ⟨9,.data⟩ (by simp) rfl _ _ rfl rfl,trivial⟩ (Calm.bin rfl rfl (bin_mulW hm1)) ⟨rfl,keep_two hI (by decide) (by decide),trivial⟩
   ·obtain rfl:=two_none hI (hw 15 (by kernel_rfl)) (hw 16 (by kernel_rfl))
    exact yield_calm ha (E:=[(5,.pointer (some ⟨w.heap.size+1,0,none⟩))]) ⟨hT 5 (by kernel_rfl),trivial⟩ (Calm.load (by kernel_rfl) rfl (rd_roM ck)) ⟨rfl,keep_two hI (by decide) (by decide),trivial⟩
   ·obtain rfl:=two_none hI (hw 15 (by kernel_rfl)) (hw 16 (by kernel_rfl))
    exact yield_calm ha (E:=[(53,.int .i64 (m:Int))]) ⟨hd ⟨11,.data⟩ (by simp) rfl _ _ rfl rfl,trivial⟩ (Calm.bin rfl rfl (bin_addW hm2)) ⟨rfl,keep_two hI (by decide) (by decide),trivial⟩
   ·obtain rfl:=two_none hI (hw 15 (by kernel_rfl)) (hw 16 (by kernel_rfl))
    exact yield_calm ha (E:=[(54,.int .i64 ((m+1:Nat):Int))]) ⟨hd ⟨12,.data⟩ (by simp) rfl _ _ rfl rfl,trivial⟩ (Calm.bin rfl rfl (bin_mulW hm3)) ⟨rfl,keep_two hI (by decide) (by decide),trivial⟩
   ·obtain rfl:=two_none hI (hw 15 (by kernel_rfl)) (hw 16 (by kernel_rfl))
    exact yield_calm ha (E:=[(50,.string ex.2),(52,.int .i64 ((64*m:Nat):Int)),(55,.int .i64 ((64*(m+1):Nat):Int))]) ⟨hd ⟨8,.data⟩ (by simp) rfl _ _ rfl rfl,hd ⟨10,.data⟩ (by simp) rfl _ _ rfl rfl,hd ⟨13,.data⟩ (by simp) rfl _ _ rfl rfl,trivial⟩ (Calm.sliceStr (l:=64*m) (h:=64*(m+1)) (by kernel_rfl) rfl ⟨_,_,rfl,Int.natCast_nonneg _,Int.ofNat_le.2 hm4,rfl⟩ ⟨_,_,rfl,Int.natCast_nonneg _,Int.ofNat_le.2 (Nat.mul_le_mul_left 64 (Nat.le_succ m)),rfl⟩) ⟨rfl,keep_two hI (by decide) (by decide),trivial⟩
   ·obtain rfl:=two_none hI hi (hw 16 (by kernel_rfl))
    refine yield_store (v:=.string (ex.2.extract (64*m) (64*(m+1)))) (by kernel_rfl) rfl rfl bs (hT 6 (by kernel_rfl)) (hd ⟨14,.data⟩ (by simp) rfl _ _ rfl rfl) ⟨rfl,?_,trivial⟩
    show _=two _ _ _ _ _ (Reg.upd st 15 15) (Reg.upd st 15 16)
    rw [Reg.upd_same,Reg.upd_other _ (by decide),show st 16=false from hw 16 (by kernel_rfl)];rfl
   ·have e15:st 15=true:=hs ⟨15,.chain⟩ (by simp) rfl
    have e16:st 16=false:=hi
    have hw1:w1=W.drew.setCell ⟨w.heap.size+1+1,0,none⟩ (.string (ex.2.extract (64*m) (64*(m+1)))):=by have h:w1=two _ _ _ _ _ (st 15) (st 16):=hI;rw [h,e15,e16];rfl
    subst hw1
    refine yield_store (v:=.int .i64 0) (by kernel_rfl) rfl rfl (be.other (W:=W.drew) (by omega) _) (hT 7 (by kernel_rfl)) rfl ⟨rfl,?_,trivial⟩
    show _=two _ _ _ _ _ (Reg.upd st 16 15) (Reg.upd st 16 16)
    rw [Reg.upd_same,Reg.upd_other _ (by decide),e15];rfl
  case stop =>
   rintro D c pre W hD ⟨n,hn,rfl⟩ ⟨⟨rfl,pre',y,e1,e2,e3,e4,e5⟩,hB⟩ hK
   have c6:=e4.cell
   have c7:=e5.cell
   have hsome:lastW d.waits s k=some y:=by
    unfold lastW
    obtain ⟨r,hr⟩ : ∃ r,upto (backF d.waits) d.waits.length=upto (backF d.waits) n ++ r:=by
     refine ⟨((List.range d.waits.length).drop n).map (backF d.waits),?_⟩
     unfold upto
     rw [← List.map_append]
     congr 1
     rw [show List.range n=(List.range d.waits.length).take n from by rw [List.take_range];congr 1;omega,List.take_append_drop]
    rw [hr,e1,List.append_assoc,List.find?_append,List.find?_eq_none.2 (fun z hz=>by rw [e2 z hz];simp)]
    simp [e3]
   rw [hsome] at hrv
   obtain ⟨rfl,rfl⟩ : y.2.2.2=rv1∧(0:Int)=rv2:=by simpa using hrv
   gi_wp2
   refine ⟨by simp,.inl ⟨_,_,rfl,run_takeDeferred hK,?_⟩⟩
   have h6:=cell_kept c6 (grownBy_putObj' _ D (.deferred none)) (fun r e=>by cases e;exact ⟨_,hK,rfl⟩)
   have h7:=cell_kept c7 (grownBy_putObj' _ D (.deferred none)) (fun r e=>by cases e;exact ⟨_,hK,rfl⟩)
   refine ⟨.tuple #[.string y.2.2.2,.int .i64 0],?_,rfl,hB.trans (belowK_b (w:=w) (Nat.le_refl _) W D _ _ (by omega) hK rfl rfl)⟩
   simp [results,Tryz.f60,go_sem,h6,h7]
 ·rw [if_pos q] at hrv
  obtain ⟨rfl,rfl⟩ : ByteArray.empty=rv1∧er=rv2:=by simpa using hrv
  gi_wp2_with (refine ⟨trivial,?_⟩;gi_at_call 109;refine (callsIn_wide.2 (hpl _ (hB4 _ _ _ _ _ _ _ _))).mono ?_;rintro e w2 ⟨rfl,hb2⟩;obtain ⟨b4,b5,b6,b7,hB2,hs2⟩:=boxes4 hb2;have c6:=b6.cell;have f6:=b6.frozen;have c7:=b7.cell;have f7:=b7.frozen)
  have c6':=((b6.set (.string ⟨#[]⟩)).other (B':=w.heap.size+1+1+1) (by omega) (.int .i64 er)).cell
  have c7':=((b7.other (B':=w.heap.size+1+1) (by omega) (.string ⟨#[]⟩)).set (.int .i64 er)).cell
  refine ⟨.tuple #[.string ⟨#[]⟩,.int .i64 er],?_,rfl,(hB2.setCell (p:=⟨w.heap.size+1+1,0,none⟩) (by simp;omega) _).setCell (p:=⟨w.heap.size+1+1+1,0,none⟩) (by simp;omega) _⟩
  simp [results,Tryz.f60,go_sem,c6',c7']
end Go.Proofs.YtceikpipmcadmaaGreatDoor
namespace Go.Proofs.YtceikpipmcadmaaGreatDoor
open Go.RowKit
open Mv Disk
set_option maxRecDepth 4000
theorem Mv.Sl.at_roM {α : Type} {n : Nat} {f : α → List Value} {M : Mem} {v : Value} {l : List α} (h : Sl n f M v l) {w : World} (hv : View M w) : Sl n f (roM w) v l := by
 obtain ⟨a,cap,rfl,h1,h2,h3⟩:=h
 exact ⟨a,cap,rfl,h1,h2,h3.imp id fun ⟨b,off,e,hk⟩=>⟨b,off,e,fun j hj=>roM_knows (hk j hj w hv)⟩⟩
theorem waits_of {M : Mem} {v : Value} {l : List Wr} (h : Sl 3 wrF M v l) {w : World} (hv : View M w) : Waits w.heap.size w v l := by
 obtain ⟨a,cap,rfl,h1,h2,h3⟩:=h
 refine ⟨a,cap,rfl,h3.elim .inl fun ⟨b,off,e,hk⟩=>?_⟩
 cases hl:l with
 | nil=>exact .inl rfl
 | cons x r =>
  right
  subst hl
  refine ⟨b,off,e,?_,fun j hj q v hq=>?_⟩
  ·have h0:=hk 0 (by simp) w hv 0 _ rfl
   rcases Nat.lt_or_ge b w.heap.size with q | q
   ·exact q
   ·simp [World.cell?,Addr.add,Array.getElem?_eq_none q] at h0
  ·have h0:=hk j hj w hv q v hq
   have e:(⟨b,off+j*3,none⟩ : Addr).add q=⟨b,off+j*3+q,none⟩:=by unfold Addr.add;cases q <;> simp
   rw [e] at h0;exact h0
theorem dev_Read (p : Nat) (d : D) (s : ByteArray) (k : Int) (M : Mem) (h : RdV M p d) (hR : Right d) :
  ACall Tryz.prog 60 #[.pointer (some ⟨p,0,none⟩),.string s,.int .i64 k] M fun r S'=>r = .tuple #[.string (readD d s k).1,.int .i64 (readD d s k).2]∧S'=M:=by
 obtain ⟨qe,de,qw,dw,hp,hE,hW⟩:=h
 intro w hv
 have hk:RdK (roM w) p d qe de (.slice qw d.waits.length dw):=⟨roM_knows fun j v hj=>by
  refine hv.rd ?_
  have e:(⟨p,0,none⟩ : Addr).add j=⟨p,j,none⟩:=by unfold Addr.add;cases j <;> simp
  rw [e];unfold Mem.rd;rw [hp];exact hj,hE.at_roM hv⟩
 exact (readW p d s k w qe de _ hk hR (hv.lt hp) (waits_of hW hv) hR.wl).mono fun _ _ ⟨he,hb⟩=>⟨_,_,he,⟨rfl,rfl⟩,Step.below hv hb⟩
noncomputable def readO (d : D) (s : ByteArray) (k : Int) : ByteArray × Int := if (openD d).2 ≠ 0 then (ByteArray.empty, (openD d).2) else readD d s k
set_option maxHeartbeats 1000000 in
theorem disk_Read (v : Value) (d : D) (s : ByteArray) (k : Int) (S : Mem) (hd : DkR S v d) (hz : Dz d) :
  ACall Tryz.prog 26 #[v,.string s,.int .i64 k] S fun r S'=>r = .tuple #[.string (readO d s k).1,.int .i64 (readO d s k).2]∧S'=S:=by
 have hopen:=disk_Open v d S hd hz
 obtain ⟨pe,ce,pw,cw,rfl,hE,hW⟩:=id hd
 unfold readO
 rcases openD_or d with ⟨ho,hR⟩ | ⟨ho,hR,hdn⟩ | ⟨ho,hR,hdn⟩ <;> rw [ho] at hopen ⊢
 ·skip
  refine ACall.enter (rs:=[.tmp 6,.tmp 7]) 24 [(0,.agg #[.int .i64 d.size,.slice pe d.ext.length ce,.slice pw d.waits.length cw,.int .i64 d.fuse,.bool d.down]),(1,.string s),(2,.int .i64 k)] Tryz.func26 rfl rfl (Nat.le_of_ble_eq_true rfl) rfl ⟨rfl,rfl,rfl,trivial⟩ ?_
  iterate 2 refine s1_ ?_
  refine k_b5 rfl ?_
  intro b3 f3
  have g3:=f3
  repeat ((with_reducible replace g3:=fresh_set g3);obtain ⟨g3,_⟩:=g3)
  refine nl_ ?_
  iterate 7 refine s1_ ?_
  refine ca_ rfl (hopen.frame f3) ?_
  rintro _ S1 ⟨M,⟨p,oE,oW,hok,rfl,hM⟩,f1',h1⟩
  rw [h1];clear h1 S1
  have hSM:S.Less M:=by rw [hM];exact hok.less
  iterate 7 refine s1_ ?_
  refine su_ [(0,_),(1,_),(2,_),(3,_),(6,_),(7,_),(8,_),(9,_)] ?_
  iterate 7 refine s1_ ?_
  refine su_ [(0,_),(1,_),(2,_),(3,_),(6,_),(7,_),(8,_),(9,_),(16,_)] ?_
  refine cT_ ?_
  iterate 7 refine s1_ ?_
  refine su_ [(0,_),(1,_),(2,_),(3,_),(6,_),(7,_),(8,_),(9,_),(16,_)] ?_
  iterate 2 refine s1_ ?_
  refine ⟨_,S,⟨_,_,rfl,⟨_,_,rfl,rfl,rfl⟩,rfl⟩,less_,?_⟩
  exact ⟨rfl,rfl⟩
 ·skip
  refine ACall.enter (rs:=[.tmp 6,.tmp 7]) 24 [(0,.agg #[.int .i64 d.size,.slice pe d.ext.length ce,.slice pw d.waits.length cw,.int .i64 d.fuse,.bool d.down]),(1,.string s),(2,.int .i64 k)] Tryz.func26 rfl rfl (Nat.le_of_ble_eq_true rfl) rfl ⟨rfl,rfl,rfl,trivial⟩ ?_
  iterate 2 refine s1_ ?_
  refine k_b5 rfl ?_
  intro b3 f3
  have g3:=f3
  repeat ((with_reducible replace g3:=fresh_set g3);obtain ⟨g3,_⟩:=g3)
  refine nl_ ?_
  iterate 7 refine s1_ ?_
  refine ca_ rfl (hopen.frame f3) ?_
  rintro _ S1 ⟨M,⟨p,oE,oW,hok,rfl,hM⟩,f1',h1⟩
  rw [h1];clear h1 S1
  have hSM:S.Less M:=by rw [hM];exact hok.less
  iterate 7 refine s1_ ?_
  refine su_ [(0,_),(1,_),(2,_),(3,_),(6,_),(7,_),(8,_),(9,_)] ?_
  iterate 7 refine s1_ ?_
  refine su_ [(0,_),(1,_),(2,_),(3,_),(6,_),(7,_),(8,_),(9,_),(16,_)] ?_
  refine cT_ ?_
  iterate 7 refine s1_ ?_
  refine su_ [(0,_),(1,_),(2,_),(3,_),(6,_),(7,_),(8,_),(9,_),(16,_)] ?_
  iterate 2 refine s1_ ?_
  refine ⟨_,S,⟨_,_,rfl,⟨_,_,rfl,rfl,rfl⟩,rfl⟩,less_,?_⟩
  exact ⟨rfl,rfl⟩
 ·skip
  refine ACall.enter (rs:=[.tmp 6,.tmp 7]) 24 [(0,.agg #[.int .i64 d.size,.slice pe d.ext.length ce,.slice pw d.waits.length cw,.int .i64 d.fuse,.bool d.down]),(1,.string s),(2,.int .i64 k)] Tryz.func26 rfl rfl (Nat.le_of_ble_eq_true rfl) rfl ⟨rfl,rfl,rfl,trivial⟩ ?_
  iterate 2 refine s1_ ?_
  refine k_b5 rfl ?_
  intro b3 f3
  have g3:=f3
  repeat ((with_reducible replace g3:=fresh_set g3);obtain ⟨g3,_⟩:=g3)
  refine nl_ ?_
  iterate 7 refine s1_ ?_
  refine ca_ rfl (hopen.frame f3) ?_
  rintro _ S1 ⟨M,⟨p,oE,oW,hok,rfl,hM⟩,f1',h1⟩
  rw [h1];clear h1 S1
  have hSM:S.Less M:=by rw [hM];exact hok.less
  have hrd:RdV M p d:=by rw [hM];exact hok.rd (Nat.le_trans (right_len hR).1 (by decide)) (Nat.le_trans hR.wl (by decide))
  iterate 7 refine s1_ ?_
  refine su_ [(0,_),(1,_),(2,_),(3,_),(6,_),(7,_),(8,_),(9,_)] ?_
  iterate 7 refine s1_ ?_
  refine su_ [(0,_),(1,_),(2,_),(3,_),(6,_),(7,_),(8,_),(9,_),(16,_)] ?_
  refine cF_ ?_
  iterate 7 refine s1_ ?_
  refine ca_ rfl (dev_Read p d s k _ (hrd.less less_) hR) ?_
  rintro _ S1 ⟨rfl,h1⟩
  rw [h1];clear h1 S1
  iterate 6 refine s1_ ?_
  refine su_ [(0,_),(1,_),(2,_),(3,_),(6,_),(7,_),(8,_),(9,_),(16,_)] ?_
  refine s1_ ?_
  refine ⟨_,S,⟨_,_,rfl,⟨_,_,rfl,rfl,rfl⟩,rfl⟩,less_,?_⟩
  exact ⟨rfl,rfl⟩
end Go.Proofs.YtceikpipmcadmaaGreatDoor
namespace Go.Proofs.YtceikpipmcadmaaGreatDoor
open Go.RowKit
open Mv Disk
set_option maxRecDepth 4000
set_option maxHeartbeats 1000000 in
theorem rd_Sectors (v : Value) (d : D) (s : ByteArray) (S : Mem) (hd : DkR S v d) (hz : Dz d) :
  ACall Tryz.prog 54 #[v,.string s] S fun r S'=>r = .tuple #[.int .i64 (sectorsD d s).1,.int .i64 (sectorsD d s).2]∧S'=S:=by
 have hpow:=fun M h=>rd_power v d M h hz
 obtain ⟨pe,ce,pw,cw,rfl,hE,hW⟩:=id hd
 unfold sectorsD
 rcases openD_or d with ⟨ho,hR⟩ | ⟨ho,hR,hdn⟩ | ⟨ho,hR,hdn⟩ <;> (simp only [ho] at hpow ⊢)
 ·skip
  refine ACall.enter (rs:=[.tmp 4,.tmp 5]) 27 [(0,.agg #[.int .i64 d.size,.slice pe d.ext.length ce,.slice pw d.waits.length cw,.int .i64 d.fuse,.bool d.down]),(1,.string s)] Tryz.func54 rfl rfl (Nat.le_of_ble_eq_true rfl) rfl ⟨rfl,rfl,trivial⟩ ?_
  iterate 2 refine s1_ ?_
  refine k_b5 rfl ?_
  intro b2 f2
  have g2:=f2
  repeat ((with_reducible replace g2:=fresh_set g2);obtain ⟨g2,_⟩:=g2)
  refine nl_ ?_
  iterate 7 refine s1_ ?_
  refine ca_ rfl (hpow _ (hd.less less_)) ?_
  rintro _ S1 ⟨rfl,h1⟩
  rw [h1];clear h1 S1
  iterate 3 refine s1_ ?_
  refine su_ [(0,_),(1,_),(2,_),(4,_),(5,_),(6,_)] ?_
  iterate 7 refine s1_ ?_
  refine su_ [(0,_),(1,_),(2,_),(4,_),(5,_),(6,_),(11,_)] ?_
  refine cT_ ?_
  iterate 7 refine s1_ ?_
  refine su_ [(0,_),(1,_),(2,_),(4,_),(5,_),(6,_),(11,_)] ?_
  iterate 2 refine s1_ ?_
  refine ⟨_,S,⟨_,_,rfl,⟨_,_,rfl,rfl,rfl⟩,rfl⟩,less_,?_⟩
  exact ⟨rfl,rfl⟩
 ·skip
  refine ACall.enter (rs:=[.tmp 4,.tmp 5]) 27 [(0,.agg #[.int .i64 d.size,.slice pe d.ext.length ce,.slice pw d.waits.length cw,.int .i64 d.fuse,.bool d.down]),(1,.string s)] Tryz.func54 rfl rfl (Nat.le_of_ble_eq_true rfl) rfl ⟨rfl,rfl,trivial⟩ ?_
  iterate 2 refine s1_ ?_
  refine k_b5 rfl ?_
  intro b2 f2
  have g2:=f2
  repeat ((with_reducible replace g2:=fresh_set g2);obtain ⟨g2,_⟩:=g2)
  refine nl_ ?_
  iterate 7 refine s1_ ?_
  refine ca_ rfl (hpow _ (hd.less less_)) ?_
  rintro _ S1 ⟨rfl,h1⟩
  rw [h1];clear h1 S1
  iterate 3 refine s1_ ?_
  refine su_ [(0,_),(1,_),(2,_),(4,_),(5,_),(6,_)] ?_
  iterate 7 refine s1_ ?_
  refine su_ [(0,_),(1,_),(2,_),(4,_),(5,_),(6,_),(11,_)] ?_
  refine cT_ ?_
  iterate 7 refine s1_ ?_
  refine su_ [(0,_),(1,_),(2,_),(4,_),(5,_),(6,_),(11,_)] ?_
  iterate 2 refine s1_ ?_
  refine ⟨_,S,⟨_,_,rfl,⟨_,_,rfl,rfl,rfl⟩,rfl⟩,less_,?_⟩
  exact ⟨rfl,rfl⟩
 ·by_cases q:has d.ext s=true
  ·have hf:fnd d.ext s=(pos d.ext s:Nat):=by unfold fnd;rw [if_pos q]
   obtain ⟨hlt,he⟩:=(has_pos hR.ex.asc s).1 q
   rw [if_neg (by simp),if_pos q,exOf_eq hlt]
   obtain ⟨_,_,ee1,ee2,ee3,hE3⟩:=id hE
   cases ee1
   obtain ⟨b,off,rfl,hk⟩:=hE3.resolve_left (fun e=>by rw [e] at hlt;simp at hlt)
   have hki:=hk _ hlt
   have hsx:=right_sec hR (List.getElem_mem hlt)
   generalize pos d.ext s=p at *
   generalize d.ext[p]=x at *
   unfold extF at hki
   have hki1:=kn_at hki 1 rfl
   refine ACall.enter (rs:=[.tmp 4,.tmp 5]) 27 [(0,.agg #[.int .i64 d.size,.slice (some ⟨b,off,none⟩) d.ext.length ce,.slice pw d.waits.length cw,.int .i64 d.fuse,.bool d.down]),(1,.string s)] Tryz.func54 rfl rfl (Nat.le_of_ble_eq_true rfl) rfl ⟨rfl,rfl,trivial⟩ ?_
   iterate 2 refine s1_ ?_
   refine k_b5 rfl ?_
   intro b2 f2
   have g2:=f2
   repeat ((with_reducible replace g2:=fresh_set g2);obtain ⟨g2,_⟩:=g2)
   refine nl_ ?_
   iterate 7 refine s1_ ?_
   refine ca_ rfl (hpow _ (hd.less less_)) ?_
   rintro _ S1 ⟨rfl,h1⟩
   rw [h1];clear h1 S1
   iterate 3 refine s1_ ?_
   refine su_ [(0,_),(1,_),(2,_),(4,_),(5,_),(6,_)] ?_
   iterate 7 refine s1_ ?_
   refine su_ [(0,_),(1,_),(2,_),(4,_),(5,_),(6,_),(11,_)] ?_
   refine cF_ ?_
   iterate 7 refine s1_ ?_
   refine ca_ rfl (rd_Find _ d.ext s _ (hE.less less_) hR.ex.asc) ?_
   rintro _ S1 ⟨rfl,h1⟩
   rw [h1,hf];clear h1 S1
   iterate 3 refine s1_ ?_
   refine su_ [(0,_),(1,_),(2,_),(4,_),(5,_),(6,_),(11,_),(7,_)] ?_
   iterate 7 refine s1_ ?_
   refine su_ [(0,_),(1,_),(2,_),(4,_),(5,_),(6,_),(11,_),(7,_),(18,_)] ?_
   refine cF_ ?_
   iterate 9 refine s1_ ?_
   refine rC (Calm.loadK ty_plain_9 rfl (hki1.less less_)) ?_
   iterate 6 refine s1_ ?_
   refine su_ [(0,_),(1,_),(2,_),(4,_),(5,_),(6,_),(11,_),(7,_),(18,_)] ?_
   refine s1_ ?_
   refine ⟨_,S,⟨_,_,rfl,⟨_,_,rfl,rfl,rfl⟩,rfl⟩,less_,?_⟩
   exact ⟨by unfold sec;rw [show ((x.2.size / 64:Nat):Int)=(x.2.size:Int) / 64 by omega];rfl,rfl⟩
  ·have hf:fnd d.ext s = -1:=by unfold fnd;rw [if_neg q]
   rw [if_neg (by simp),if_neg q]
   refine ACall.enter (rs:=[.tmp 4,.tmp 5]) 27 [(0,.agg #[.int .i64 d.size,.slice pe d.ext.length ce,.slice pw d.waits.length cw,.int .i64 d.fuse,.bool d.down]),(1,.string s)] Tryz.func54 rfl rfl (Nat.le_of_ble_eq_true rfl) rfl ⟨rfl,rfl,trivial⟩ ?_
   iterate 2 refine s1_ ?_
   refine k_b5 rfl ?_
   intro b2 f2
   have g2:=f2
   repeat ((with_reducible replace g2:=fresh_set g2);obtain ⟨g2,_⟩:=g2)
   refine nl_ ?_
   iterate 7 refine s1_ ?_
   refine ca_ rfl (hpow _ (hd.less less_)) ?_
   rintro _ S1 ⟨rfl,h1⟩
   rw [h1];clear h1 S1
   iterate 3 refine s1_ ?_
   refine su_ [(0,_),(1,_),(2,_),(4,_),(5,_),(6,_)] ?_
   iterate 7 refine s1_ ?_
   refine su_ [(0,_),(1,_),(2,_),(4,_),(5,_),(6,_),(11,_)] ?_
   refine cF_ ?_
   iterate 7 refine s1_ ?_
   refine ca_ rfl (rd_Find _ d.ext s _ (hE.less less_) hR.ex.asc) ?_
   rintro _ S1 ⟨rfl,h1⟩
   rw [h1,hf];clear h1 S1
   iterate 3 refine s1_ ?_
   refine su_ [(0,_),(1,_),(2,_),(4,_),(5,_),(6,_),(11,_),(7,_)] ?_
   iterate 7 refine s1_ ?_
   refine su_ [(0,_),(1,_),(2,_),(4,_),(5,_),(6,_),(11,_),(7,_),(18,_)] ?_
   refine cT_ ?_
   iterate 8 refine s1_ ?_
   refine ⟨_,S,⟨_,_,rfl,⟨_,_,rfl,rfl,rfl⟩,rfl⟩,less_,?_⟩
   exact ⟨rfl,rfl⟩
/-- Why there is no such sector. -/
noncomputable def placeO (d : D) (s : ByteArray) (k : Int) : Int := if (openD d).2 ≠ 0 then (openD d).2 else (placeD d s k).2
set_option maxHeartbeats 1000000 in
theorem rd_place (v : Value) (d : D) (s : ByteArray) (k : Int) (S : Mem) (hd : DkR S v d) (hz : Dz d) :
  ACall Tryz.prog 102 #[v,.string s,.int .i64 k] S fun r S'=>r = .int .i64 (placeO d s k)∧S'=S:=by
 have hpow:=fun M h=>rd_power v d M h hz
 obtain ⟨pe,ce,pw,cw,rfl,hE,hW⟩:=id hd
 unfold placeO
 rcases openD_or d with ⟨ho,hR⟩ | ⟨ho,hR,hdn⟩ | ⟨ho,hR,hdn⟩ <;> (simp only [ho] at hpow ⊢)
 ·skip
  refine ACall.enter (rs:=[.tmp 6]) 34 [(0,.agg #[.int .i64 d.size,.slice pe d.ext.length ce,.slice pw d.waits.length cw,.int .i64 d.fuse,.bool d.down]),(1,.string s),(2,.int .i64 k)] Tryz.func102 rfl rfl (Nat.le_of_ble_eq_true rfl) rfl ⟨rfl,rfl,rfl,trivial⟩ ?_
  iterate 2 refine s1_ ?_
  refine k_b5 rfl ?_
  intro b3 f3
  have g3:=f3
  repeat ((with_reducible replace g3:=fresh_set g3);obtain ⟨g3,_⟩:=g3)
  refine nl_ ?_
  iterate 6 refine s1_ ?_
  refine ca_ rfl (hpow _ (hd.less less_)) ?_
  rintro _ S1 ⟨rfl,h1⟩
  rw [h1];clear h1 S1
  iterate 3 refine s1_ ?_
  refine su_ [(0,_),(1,_),(2,_),(3,_),(6,_),(7,_)] ?_
  iterate 7 refine s1_ ?_
  refine su_ [(0,_),(1,_),(2,_),(3,_),(6,_),(7,_),(12,_)] ?_
  refine cT_ ?_
  iterate 6 refine s1_ ?_
  refine su_ [(0,_),(1,_),(2,_),(3,_),(6,_),(7,_),(12,_)] ?_
  iterate 2 refine s1_ ?_
  refine ⟨_,S,⟨_,_,rfl,rfl,rfl⟩,less_,?_⟩
  exact ⟨rfl,rfl⟩
 ·skip
  refine ACall.enter (rs:=[.tmp 6]) 34 [(0,.agg #[.int .i64 d.size,.slice pe d.ext.length ce,.slice pw d.waits.length cw,.int .i64 d.fuse,.bool d.down]),(1,.string s),(2,.int .i64 k)] Tryz.func102 rfl rfl (Nat.le_of_ble_eq_true rfl) rfl ⟨rfl,rfl,rfl,trivial⟩ ?_
  iterate 2 refine s1_ ?_
  refine k_b5 rfl ?_
  intro b3 f3
  have g3:=f3
  repeat ((with_reducible replace g3:=fresh_set g3);obtain ⟨g3,_⟩:=g3)
  refine nl_ ?_
  iterate 6 refine s1_ ?_
  refine ca_ rfl (hpow _ (hd.less less_)) ?_
  rintro _ S1 ⟨rfl,h1⟩
  rw [h1];clear h1 S1
  iterate 3 refine s1_ ?_
  refine su_ [(0,_),(1,_),(2,_),(3,_),(6,_),(7,_)] ?_
  iterate 7 refine s1_ ?_
  refine su_ [(0,_),(1,_),(2,_),(3,_),(6,_),(7,_),(12,_)] ?_
  refine cT_ ?_
  iterate 6 refine s1_ ?_
  refine su_ [(0,_),(1,_),(2,_),(3,_),(6,_),(7,_),(12,_)] ?_
  iterate 2 refine s1_ ?_
  refine ⟨_,S,⟨_,_,rfl,rfl,rfl⟩,less_,?_⟩
  exact ⟨rfl,rfl⟩
 ·rw [if_neg (by simp)]
  unfold placeD
  by_cases q:has d.ext s=true
  ·have hf:fnd d.ext s=(pos d.ext s:Nat):=by unfold fnd;rw [if_pos q]
   obtain ⟨hlt,he⟩:=(has_pos hR.ex.asc s).1 q
   rw [if_pos q,exOf_eq hlt]
   obtain ⟨_,_,ee1,ee2,ee3,hE3⟩:=id hE
   cases ee1
   obtain ⟨b,off,rfl,hk⟩:=hE3.resolve_left (fun e=>by rw [e] at hlt;simp at hlt)
   have hki:=hk _ hlt
   have hsx:=right_sec hR (List.getElem_mem hlt)
   generalize pos d.ext s=p at *
   generalize d.ext[p]=x at *
   unfold extF at hki
   have hki1:=kn_at hki 1 rfl
   have hsd:sec x=x.2.size / 64:=rfl
   by_cases q1:k<0
   ·rw [if_pos (.inl q1)]
    refine ACall.enter (rs:=[.tmp 6]) 34 [(0,.agg #[.int .i64 d.size,.slice (some ⟨b,off,none⟩) d.ext.length ce,.slice pw d.waits.length cw,.int .i64 d.fuse,.bool d.down]),(1,.string s),(2,.int .i64 k)] Tryz.func102 rfl rfl (Nat.le_of_ble_eq_true rfl) rfl ⟨rfl,rfl,rfl,trivial⟩ ?_
    iterate 2 refine s1_ ?_
    refine k_b5 rfl ?_
    intro b3 f3
    have g3:=f3
    repeat ((with_reducible replace g3:=fresh_set g3);obtain ⟨g3,_⟩:=g3)
    refine nl_ ?_
    iterate 6 refine s1_ ?_
    refine ca_ rfl (hpow _ (hd.less less_)) ?_
    rintro _ S1 ⟨rfl,h1⟩
    rw [h1];clear h1 S1
    iterate 3 refine s1_ ?_
    refine su_ [(0,_),(1,_),(2,_),(3,_),(6,_),(7,_)] ?_
    iterate 7 refine s1_ ?_
    refine su_ [(0,_),(1,_),(2,_),(3,_),(6,_),(7,_),(12,_)] ?_
    refine cF_ ?_
    iterate 7 refine s1_ ?_
    refine ca_ rfl (rd_Find _ d.ext s _ (hE.less less_) hR.ex.asc) ?_
    rintro _ S1 ⟨rfl,h1⟩
    rw [h1,hf];clear h1 S1
    iterate 3 refine s1_ ?_
    refine su_ [(0,_),(1,_),(2,_),(3,_),(6,_),(7,_),(12,_),(8,_)] ?_
    iterate 7 refine s1_ ?_
    refine su_ [(0,_),(1,_),(2,_),(3,_),(6,_),(7,_),(12,_),(8,_),(19,_)] ?_
    refine cF_ ?_
    iterate 21 refine s1_ ?_
    refine su_ [(0,_),(1,_),(2,_),(3,_),(6,_),(7,_),(12,_),(8,_),(19,_),(33,_)] ?_
    refine cT_ ?_
    iterate 7 refine s1_ ?_
    refine ⟨_,S,⟨_,_,rfl,rfl,rfl⟩,less_,?_⟩
    exact ⟨rfl,rfl⟩
   ·by_cases q2:(sec x:Int)≤k
    ·rw [if_pos (.inr q2)]
     refine ACall.enter (rs:=[.tmp 6]) 34 [(0,.agg #[.int .i64 d.size,.slice (some ⟨b,off,none⟩) d.ext.length ce,.slice pw d.waits.length cw,.int .i64 d.fuse,.bool d.down]),(1,.string s),(2,.int .i64 k)] Tryz.func102 rfl rfl (Nat.le_of_ble_eq_true rfl) rfl ⟨rfl,rfl,rfl,trivial⟩ ?_
     iterate 2 refine s1_ ?_
     refine k_b5 rfl ?_
     intro b3 f3
     have g3:=f3
     repeat ((with_reducible replace g3:=fresh_set g3);obtain ⟨g3,_⟩:=g3)
     refine nl_ ?_
     iterate 6 refine s1_ ?_
     refine ca_ rfl (hpow _ (hd.less less_)) ?_
     rintro _ S1 ⟨rfl,h1⟩
     rw [h1];clear h1 S1
     iterate 3 refine s1_ ?_
     refine su_ [(0,_),(1,_),(2,_),(3,_),(6,_),(7,_)] ?_
     iterate 7 refine s1_ ?_
     refine su_ [(0,_),(1,_),(2,_),(3,_),(6,_),(7,_),(12,_)] ?_
     refine cF_ ?_
     iterate 7 refine s1_ ?_
     refine ca_ rfl (rd_Find _ d.ext s _ (hE.less less_) hR.ex.asc) ?_
     rintro _ S1 ⟨rfl,h1⟩
     rw [h1,hf];clear h1 S1
     iterate 3 refine s1_ ?_
     refine su_ [(0,_),(1,_),(2,_),(3,_),(6,_),(7,_),(12,_),(8,_)] ?_
     iterate 7 refine s1_ ?_
     refine su_ [(0,_),(1,_),(2,_),(3,_),(6,_),(7,_),(12,_),(8,_),(19,_)] ?_
     refine cF_ ?_
     iterate 14 refine s1_ ?_
     first|refine k_q 22 ?_|refine rG 22 (Calm.loadK ty_plain_9 rfl (hki1.less less_)) ?_
     iterate 6 refine s1_ ?_
     refine su_ [(0,_),(1,_),(2,_),(3,_),(6,_),(7,_),(12,_),(8,_),(19,_),(33,_)] ?_
     refine cT_ ?_
     iterate 7 refine s1_ ?_
     refine ⟨_,S,⟨_,_,rfl,rfl,rfl⟩,less_,?_⟩
     exact ⟨rfl,rfl⟩
    ·rw [if_neg (by omega)]
     refine ACall.enter (rs:=[.tmp 6]) 34 [(0,.agg #[.int .i64 d.size,.slice (some ⟨b,off,none⟩) d.ext.length ce,.slice pw d.waits.length cw,.int .i64 d.fuse,.bool d.down]),(1,.string s),(2,.int .i64 k)] Tryz.func102 rfl rfl (Nat.le_of_ble_eq_true rfl) rfl ⟨rfl,rfl,rfl,trivial⟩ ?_
     iterate 2 refine s1_ ?_
     refine k_b5 rfl ?_
     intro b3 f3
     have g3:=f3
     repeat ((with_reducible replace g3:=fresh_set g3);obtain ⟨g3,_⟩:=g3)
     refine nl_ ?_
     iterate 6 refine s1_ ?_
     refine ca_ rfl (hpow _ (hd.less less_)) ?_
     rintro _ S1 ⟨rfl,h1⟩
     rw [h1];clear h1 S1
     iterate 3 refine s1_ ?_
     refine su_ [(0,_),(1,_),(2,_),(3,_),(6,_),(7,_)] ?_
     iterate 7 refine s1_ ?_
     refine su_ [(0,_),(1,_),(2,_),(3,_),(6,_),(7,_),(12,_)] ?_
     refine cF_ ?_
     iterate 7 refine s1_ ?_
     refine ca_ rfl (rd_Find _ d.ext s _ (hE.less less_) hR.ex.asc) ?_
     rintro _ S1 ⟨rfl,h1⟩
     rw [h1,hf];clear h1 S1
     iterate 3 refine s1_ ?_
     refine su_ [(0,_),(1,_),(2,_),(3,_),(6,_),(7,_),(12,_),(8,_)] ?_
     iterate 7 refine s1_ ?_
     refine su_ [(0,_),(1,_),(2,_),(3,_),(6,_),(7,_),(12,_),(8,_),(19,_)] ?_
     refine cF_ ?_
     iterate 14 refine s1_ ?_
     first|refine k_q 22 ?_|refine rG 22 (Calm.loadK ty_plain_9 rfl (hki1.less less_)) ?_
     iterate 6 refine s1_ ?_
     refine su_ [(0,_),(1,_),(2,_),(3,_),(6,_),(7,_),(12,_),(8,_),(19,_),(33,_)] ?_
     refine cF_ ?_
     iterate 8 refine s1_ ?_
     refine ⟨_,S,⟨_,_,rfl,rfl,rfl⟩,less_,?_⟩
     exact ⟨rfl,rfl⟩
  ·have hf:fnd d.ext s = -1:=by unfold fnd;rw [if_neg q]
   rw [if_neg q]
   refine ACall.enter (rs:=[.tmp 6]) 34 [(0,.agg #[.int .i64 d.size,.slice pe d.ext.length ce,.slice pw d.waits.length cw,.int .i64 d.fuse,.bool d.down]),(1,.string s),(2,.int .i64 k)] Tryz.func102 rfl rfl (Nat.le_of_ble_eq_true rfl) rfl ⟨rfl,rfl,rfl,trivial⟩ ?_
   iterate 2 refine s1_ ?_
   refine k_b5 rfl ?_
   intro b3 f3
   have g3:=f3
   repeat ((with_reducible replace g3:=fresh_set g3);obtain ⟨g3,_⟩:=g3)
   refine nl_ ?_
   iterate 6 refine s1_ ?_
   refine ca_ rfl (hpow _ (hd.less less_)) ?_
   rintro _ S1 ⟨rfl,h1⟩
   rw [h1];clear h1 S1
   iterate 3 refine s1_ ?_
   refine su_ [(0,_),(1,_),(2,_),(3,_),(6,_),(7,_)] ?_
   iterate 7 refine s1_ ?_
   refine su_ [(0,_),(1,_),(2,_),(3,_),(6,_),(7,_),(12,_)] ?_
   refine cF_ ?_
   iterate 7 refine s1_ ?_
   refine ca_ rfl (rd_Find _ d.ext s _ (hE.less less_) hR.ex.asc) ?_
   rintro _ S1 ⟨rfl,h1⟩
   rw [h1,hf];clear h1 S1
   iterate 3 refine s1_ ?_
   refine su_ [(0,_),(1,_),(2,_),(3,_),(6,_),(7,_),(12,_),(8,_)] ?_
   iterate 7 refine s1_ ?_
   refine su_ [(0,_),(1,_),(2,_),(3,_),(6,_),(7,_),(12,_),(8,_),(19,_)] ?_
   refine cT_ ?_
   iterate 7 refine s1_ ?_
   refine ⟨_,S,⟨_,_,rfl,rfl,rfl⟩,less_,?_⟩
   exact ⟨rfl,rfl⟩
end Go.Proofs.YtceikpipmcadmaaGreatDoor
namespace Go.Proofs.YtceikpipmcadmaaGreatDoor
open Go.RowKit
open Mv Disk
set_option maxRecDepth 4000

theorem place_as (d : D) (s : ByteArray) (k : Int) (h : placeO d s k ≠ 0) (f : D × Int) (hf : (placeD d s k).2 ≠ 0 → f = (d, (placeD d s k).2)) : opened d f = asD d (placeO d s k) := by
 unfold opened placeO at *
 rcases openD_or d with ⟨ho,hR⟩ | ⟨ho,hR,hdn⟩ | ⟨ho,hR,hdn⟩ <;> rw [ho] at h ⊢
 ·rw [if_neg (by simp),if_pos (by simp),asD_no hR]
 ·rw [if_neg (by simp),if_pos (by simp),asD_ok hR]
 ·rw [if_neg (by simp)] at h
  rw [if_pos rfl,if_neg (by simp),asD_ok hR,hf h]
theorem place_ok0 {d : D} {s : ByteArray} {k : Int} (h : placeO d s k = 0) : Right d ∧ openD d = (d, 0) ∧ (placeD d s k).2 = 0 := by
 unfold placeO at h
 rcases openD_or d with ⟨ho,hR⟩ | ⟨ho,hR,hdn⟩ | ⟨ho,hR,hdn⟩ <;> rw [ho] at h
 ·simp at h
 ·simp at h
 ·exact ⟨hR,ho,by simpa using h⟩
set_option maxHeartbeats 2000000 in
theorem rd_Write (v : Value) (d : D) (s : ByteArray) (k : Int) (data : ByteArray) (S : Mem) (hd : DkR S v d) (hz : Dz d) :
  ACall Tryz.prog 96 #[v,.string s,.int .i64 k,.string data] S (DkRes (opened d (writeD d s k data)) S):=by
 have hpl:=fun M h=>rd_place v d s k M h hz
 have hasw:=rd_as v d (placeO d s k) S hd hz
 have hcopy:=rd_Copy v d S hd hz.el hz.wl
 obtain ⟨pe,ce,pw,cw,rfl,hE,hW⟩:=id hd
 by_cases q0:placeO d s k≠0
 ·rw [place_as d s k q0 _ (fun h=>by unfold writeD;rw [if_pos h])]
  generalize placeO d s k=er at *
  refine ACall.enter (rs:=[.cell 8 25,.tmp 9]) 57 [(0,.agg #[.int .i64 d.size,.slice pe d.ext.length ce,.slice pw d.waits.length cw,.int .i64 d.fuse,.bool d.down]),(1,.string s),(2,.int .i64 k),(3,.string data)] Tryz.func96 rfl rfl (Nat.le_of_ble_eq_true rfl) rfl ⟨rfl,rfl,rfl,rfl,trivial⟩ ?_
  iterate 2 refine s1_ ?_
  refine k_b5 rfl ?_
  intro b4 f4
  have g4:=f4
  repeat ((with_reducible replace g4:=fresh_set g4);obtain ⟨g4,_⟩:=g4)
  refine nl_ ?_
  refine ARun.alloc (lit_lt rfl) ty_zero_25 ?_
  intro b8 f8
  have g8:=f8
  repeat ((with_reducible replace g8:=fresh_set g8);obtain ⟨g8,_⟩:=g8)
  refine nl_ ?_
  iterate 8 refine s1_ ?_
  refine ca_ rfl (hpl _ (hd.less less_)) ?_
  rintro _ S1 ⟨rfl,h1⟩
  rw [h1];clear h1 S1
  iterate 3 refine s1_ ?_
  refine su_ [(0,_),(1,_),(2,_),(3,_),(4,_),(8,_),(9,_),(10,_)] ?_
  iterate 4 refine s1_ ?_
  refine rC (Calm.bin rfl rfl (bin_bool (bin_neq _ _) (bnot_dec_true q0))) ?_
  iterate 2 refine s1_ ?_
  refine su_ [(0,_),(1,_),(2,_),(3,_),(4,_),(8,_),(9,_),(10,_),(16,_)] ?_
  refine cT_ ?_
  iterate 4 refine s1_ ?_
  refine ca_ rfl (((hasw).frame f4).frame f8) ?_
  rintro _ S1 ⟨Sa,⟨M,⟨v',rfl,hSM,hdk⟩,fa,hSa⟩,fb,h1⟩
  rw [h1,hSa];rw [hSa] at fb;clear h1 S1 hSa Sa
  obtain ⟨fbm,nba⟩:=fresh_set fb
  obtain ⟨qe,de,qw,dw,rfl,hE2,hW2⟩:=id hdk
  iterate 6 refine s1_ ?_
  refine su_ [(0,_),(1,_),(2,_),(3,_),(4,_),(8,_),(9,_),(10,_),(16,_)] ?_
  iterate 2 refine s1_ ?_
  refine ⟨_,M,⟨_,_,_,rfl,.inr ⟨ty_agg_25,[_,_,_,_,_],ty_size_25,rds_,rfl⟩,⟨_,_,rfl,rfl,rfl⟩,rfl⟩,less_,?_⟩
  exact ⟨_,rfl,hSM,hdk⟩
 ·have q0:placeO d s k=0:=by simpa using q0
  obtain ⟨hR,hop,hp0⟩:=place_ok0 q0
  simp only [q0] at hpl
  unfold opened writeD
  rw [hop,if_pos rfl,if_neg (by simpa using hp0)]
  have hlens:=right_lens hR;have hrl:=right_len hR;have hwl:=hR.wl
  by_cases q1:data.size≠64
  ·rw [if_pos q1]
   refine ACall.enter (rs:=[.cell 8 25,.tmp 9]) 57 [(0,.agg #[.int .i64 d.size,.slice pe d.ext.length ce,.slice pw d.waits.length cw,.int .i64 d.fuse,.bool d.down]),(1,.string s),(2,.int .i64 k),(3,.string data)] Tryz.func96 rfl rfl (Nat.le_of_ble_eq_true rfl) rfl ⟨rfl,rfl,rfl,rfl,trivial⟩ ?_
   iterate 2 refine s1_ ?_
   refine k_b5 rfl ?_
   intro b4 f4
   have g4:=f4
   repeat ((with_reducible replace g4:=fresh_set g4);obtain ⟨g4,_⟩:=g4)
   refine nl_ ?_
   refine ARun.alloc (lit_lt rfl) ty_zero_25 ?_
   intro b8 f8
   have g8:=f8
   repeat ((with_reducible replace g8:=fresh_set g8);obtain ⟨g8,_⟩:=g8)
   refine nl_ ?_
   iterate 8 refine s1_ ?_
   refine ca_ rfl (hpl _ (hd.less less_)) ?_
   rintro _ S1 ⟨rfl,h1⟩
   rw [h1];clear h1 S1
   iterate 3 refine s1_ ?_
   refine su_ [(0,_),(1,_),(2,_),(3,_),(4,_),(8,_),(9,_),(10,_)] ?_
   iterate 7 refine s1_ ?_
   refine su_ [(0,_),(1,_),(2,_),(3,_),(4,_),(8,_),(9,_),(10,_),(16,_)] ?_
   refine cF_ ?_
   iterate 7 refine s1_ ?_
   refine rC (Calm.bin rfl rfl (bin_bool (bin_neq _ _) (bnot_dec_true (by omega)))) ?_
   iterate 2 refine s1_ ?_
   refine su_ [(0,_),(1,_),(2,_),(3,_),(4,_),(8,_),(9,_),(10,_),(16,_),(24,_)] ?_
   refine cT_ ?_
   iterate 3 refine s1_ ?_
   refine ca_ rfl (((hcopy).frame f4).frame f8) ?_
   rintro _ S1 ⟨Sa,⟨M,⟨oE,oW,hok,rfl,hM⟩,fa,hSa⟩,fb,h1⟩
   rw [h1,hSa];rw [hSa] at fb;clear h1 S1 hSa Sa
   obtain ⟨fbm,nba⟩:=fresh_set fb
   have hSM:S.Less M:=by rw [hM];exact hok.less
   have hdk:DkR M (dkV d oE oW) d:=by rw [hM];exact hok.dk hlens.1 hlens.2
   unfold dkV at hdk ⊢
   obtain ⟨qe,de,hqe⟩:=outV_eq hok.e
   obtain ⟨qw,dw,hqw⟩:=outV_eq hok.w
   rw [hqe,hqw] at hdk ⊢
   iterate 4 refine s1_ ?_
   refine su_ [(0,_),(1,_),(2,_),(3,_),(4,_),(8,_),(9,_),(10,_),(16,_),(24,_)] ?_
   iterate 2 refine s1_ ?_
   refine ⟨_,M,⟨_,_,_,rfl,.inr ⟨ty_agg_25,[_,_,_,_,_],ty_size_25,rds_,rfl⟩,⟨_,_,rfl,rfl,rfl⟩,rfl⟩,less_,?_⟩
   exact ⟨_,rfl,hSM,hdk⟩
  ·rw [if_neg q1]
   by_cases q2:d.waits.length=16384
   ·rw [if_pos q2]
    refine ACall.enter (rs:=[.cell 8 25,.tmp 9]) 57 [(0,.agg #[.int .i64 d.size,.slice pe d.ext.length ce,.slice pw d.waits.length cw,.int .i64 d.fuse,.bool d.down]),(1,.string s),(2,.int .i64 k),(3,.string data)] Tryz.func96 rfl rfl (Nat.le_of_ble_eq_true rfl) rfl ⟨rfl,rfl,rfl,rfl,trivial⟩ ?_
    iterate 2 refine s1_ ?_
    refine k_b5 rfl ?_
    intro b4 f4
    have g4:=f4
    repeat ((with_reducible replace g4:=fresh_set g4);obtain ⟨g4,_⟩:=g4)
    refine nl_ ?_
    refine ARun.alloc (lit_lt rfl) ty_zero_25 ?_
    intro b8 f8
    have g8:=f8
    repeat ((with_reducible replace g8:=fresh_set g8);obtain ⟨g8,_⟩:=g8)
    refine nl_ ?_
    iterate 8 refine s1_ ?_
    refine ca_ rfl (hpl _ (hd.less less_)) ?_
    rintro _ S1 ⟨rfl,h1⟩
    rw [h1];clear h1 S1
    iterate 3 refine s1_ ?_
    refine su_ [(0,_),(1,_),(2,_),(3,_),(4,_),(8,_),(9,_),(10,_)] ?_
    iterate 7 refine s1_ ?_
    refine su_ [(0,_),(1,_),(2,_),(3,_),(4,_),(8,_),(9,_),(10,_),(16,_)] ?_
    refine cF_ ?_
    iterate 7 refine s1_ ?_
    refine rC (Calm.bin rfl rfl (bin_bool (bin_neq _ _) (bnot_dec_false (by omega)))) ?_
    iterate 2 refine s1_ ?_
    refine su_ [(0,_),(1,_),(2,_),(3,_),(4,_),(8,_),(9,_),(10,_),(16,_),(24,_)] ?_
    refine cF_ ?_
    iterate 11 refine s1_ ?_
    refine su_ [(0,_),(1,_),(2,_),(3,_),(4,_),(8,_),(9,_),(10,_),(16,_),(24,_),(30,_)] ?_
    refine cT_ ?_
    iterate 3 refine s1_ ?_
    refine ca_ rfl (((hcopy).frame f4).frame f8) ?_
    rintro _ S1 ⟨Sa,⟨M,⟨oE,oW,hok,rfl,hM⟩,fa,hSa⟩,fb,h1⟩
    rw [h1,hSa];rw [hSa] at fb;clear h1 S1 hSa Sa
    obtain ⟨fbm,nba⟩:=fresh_set fb
    have hSM:S.Less M:=by rw [hM];exact hok.less
    have hdk:DkR M (dkV d oE oW) d:=by rw [hM];exact hok.dk hlens.1 hlens.2
    unfold dkV at hdk ⊢
    obtain ⟨qe,de,hqe⟩:=outV_eq hok.e
    obtain ⟨qw,dw,hqw⟩:=outV_eq hok.w
    rw [hqe,hqw] at hdk ⊢
    iterate 4 refine s1_ ?_
    refine su_ [(0,_),(1,_),(2,_),(3,_),(4,_),(8,_),(9,_),(10,_),(16,_),(24,_),(30,_)] ?_
    iterate 2 refine s1_ ?_
    refine ⟨_,M,⟨_,_,_,rfl,.inr ⟨ty_agg_25,[_,_,_,_,_],ty_size_25,rds_,rfl⟩,⟨_,_,rfl,rfl,rfl⟩,rfl⟩,less_,?_⟩
    exact ⟨_,rfl,hSM,hdk⟩
   ·rw [if_neg q2]
    unfold fuseD
    refine ACall.enter (rs:=[.cell 8 25,.tmp 9]) 57 [(0,.agg #[.int .i64 d.size,.slice pe d.ext.length ce,.slice pw d.waits.length cw,.int .i64 d.fuse,.bool d.down]),(1,.string s),(2,.int .i64 k),(3,.string data)] Tryz.func96 rfl rfl (Nat.le_of_ble_eq_true rfl) rfl ⟨rfl,rfl,rfl,rfl,trivial⟩ ?_
    iterate 2 refine s1_ ?_
    refine k_b5 rfl ?_
    intro b4 f4
    have g4:=f4
    repeat ((with_reducible replace g4:=fresh_set g4);obtain ⟨g4,_⟩:=g4)
    refine nl_ ?_
    refine ARun.alloc (lit_lt rfl) ty_zero_25 ?_
    intro b8 f8
    have g8:=f8
    repeat ((with_reducible replace g8:=fresh_set g8);obtain ⟨g8,_⟩:=g8)
    refine nl_ ?_
    iterate 8 refine s1_ ?_
    refine ca_ rfl (hpl _ (hd.less less_)) ?_
    rintro _ S1 ⟨rfl,h1⟩
    rw [h1];clear h1 S1
    iterate 3 refine s1_ ?_
    refine su_ [(0,_),(1,_),(2,_),(3,_),(4,_),(8,_),(9,_),(10,_)] ?_
    iterate 7 refine s1_ ?_
    refine su_ [(0,_),(1,_),(2,_),(3,_),(4,_),(8,_),(9,_),(10,_),(16,_)] ?_
    refine cF_ ?_
    iterate 7 refine s1_ ?_
    refine rC (Calm.bin rfl rfl (bin_bool (bin_neq _ _) (bnot_dec_false (by omega)))) ?_
    iterate 2 refine s1_ ?_
    refine su_ [(0,_),(1,_),(2,_),(3,_),(4,_),(8,_),(9,_),(10,_),(16,_),(24,_)] ?_
    refine cF_ ?_
    iterate 11 refine s1_ ?_
    refine su_ [(0,_),(1,_),(2,_),(3,_),(4,_),(8,_),(9,_),(10,_),(16,_),(24,_),(30,_)] ?_
    refine cF_ ?_
    iterate 5 refine s1_ ?_
    refine ca_ rfl (((hcopy).frame f4).frame f8) ?_
    rintro _ S1 ⟨Sa,⟨M,⟨oE,oW,hok,rfl,hM⟩,fa,hSa⟩,fb,h1⟩
    rw [h1,hSa];rw [hSa] at fb;clear h1 S1 hSa Sa
    obtain ⟨fbm,nba⟩:=fresh_set fb
    have hSM:S.Less M:=by rw [hM];exact hok.less
    have hdk:DkR M (dkV d oE oW) d:=by rw [hM];exact hok.dk hlens.1 hlens.2
    unfold dkV at hdk ⊢
    obtain ⟨qe,de,hqe⟩:=outV_eq hok.e
    obtain ⟨qw,dw,hqw⟩:=outV_eq hok.w
    rw [hqe,hqw] at hdk ⊢
    iterate 3 refine s1_ ?_
    refine su_ [(0,_),(1,_),(2,_),(3,_),(4,_),(8,_),(9,_),(10,_),(16,_),(24,_),(30,_)] ?_
    rw [set_back M nba]
    have neE:=fun q c (h:oE=some (q,c))=>(hok.e.own q c h)
    have hne8:∀ q c,oE=some (q,c)→q≠b8∧q≠b4:=by rw [hM] at fa fbm;exact fun q c h=>⟨(fresh_outN (fresh_outN fbm).1).2 q c h |>.symm,(fresh_outN (fresh_outN fa).1).2 q c h |>.symm⟩
    have hnw8:∀ q c,oW=some (q,c)→q≠b8∧q≠b4:=by rw [hM] at fa fbm;exact fun q c h=>⟨(fresh_outN fbm).2 q c h |>.symm,(fresh_outN fa).2 q c h |>.symm⟩
    have hfold:(M.set b4 (boxD d (.slice qe d.ext.length de) (.slice qw d.waits.length dw))).set b8 (boxD D0 (.slice none 0 0) (.slice none 0 0))=outN 3 (((outN 2 S oE extT (d.ext.flatMap extF)).set b4 (boxD d (.slice qe d.ext.length de) (.slice qw d.waits.length dw))).set b8 (boxD D0 (.slice none 0 0) (.slice none 0 0))) oW wrT (d.waits.flatMap wrF):=by rw [outN_set (fun q c h=>(hnw8 q c h).1),outN_set (fun q c h=>(hnw8 q c h).2),hM];rfl
    have hokW:OkO (((outN 2 S oE extT (d.ext.flatMap extF)).set b4 (boxD d (.slice qe d.ext.length de) (.slice qw d.waits.length dw))).set b8 (boxD D0 (.slice none 0 0) (.slice none 0 0))) oW d.waits.length:=(hok.w.set (fun q c h=>Ne.symm (hnw8 q c h).2)).set (fun q c h=>Ne.symm (hnw8 q c h).1)
    have happ:AppN 3 ((M.set b4 (boxD d (.slice qe d.ext.length de) (.slice qw d.waits.length dw))).set b8 (boxD D0 (.slice none 0 0) (.slice none 0 0))) (((outN 2 S oE extT (d.ext.flatMap extF)).set b4 (boxD d (.slice qe d.ext.length de) (.slice qw d.waits.length dw))).set b8 (boxD D0 (.slice none 0 0) (.slice none 0 0))) oW wrT (d.waits.flatMap wrF):=by rw [hfold];exact appN_self hokW (flat_length wr_len _)
    unfold boxD at happ hokW
    iterate 8 refine s1_ ?_
    refine ARun.build1 (lit_lt rfl) ty_sl_23 rfl (by decide) (by decide) rfl rfl ?_
    intro b41 f41
    have g41:=f41
    repeat ((with_reducible replace g41:=fresh_set g41);obtain ⟨g41,_⟩:=g41)
    refine ARun.appendOK (n:=3) (o:=oW) (k:=d.waits.length) (m:=1) (cs:=d.waits.flatMap wrF) (news:=[.string s,.int .i64 k,.string data]) (lit_lt rfl) ty_sl_23 rfl (congrArg some hqw.symm) (flat_length wr_len _) hokW (happ.temp f41) rfl (src_own (Mem.own_set_same _ _ _) List.prefix_rfl) rfl (wr_one [(s,k,data)]) (by omega) (by omega) ?_
    intro o2 ho2
    have h28:∀ q c,o2=some (q,c)→b8≠q∧b4≠q:=fun q c h=>by obtain ⟨h1,h2⟩:=fresh_set (ho2.own q c h).1;exact ⟨Ne.symm h2,Ne.symm (fresh_set h1).2⟩
    have ho2':OkO (outN 2 S oE extT (d.ext.flatMap extF)) o2 (d.waits.length+1):=ho2.unset.unset
    obtain ⟨M3,hM3⟩ : ∃ M3,outN 3 (((outN 2 S oE extT (d.ext.flatMap extF)).set b4 (boxD d (.slice qe d.ext.length de) (.slice qw d.waits.length dw))).set b8 (boxD D0 (.slice none 0 0) (.slice none 0 0))) o2 wrT (d.waits.flatMap wrF ++ [.string s,.int .i64 k,.string data])=M3:=⟨_,rfl⟩
    have k34:M3.own b4=some (boxD d (.slice qe d.ext.length de) (.slice qw d.waits.length dw)):=by rw [← hM3];exact own_outN' ((Mem.own_set_other _ _ (Ne.symm nba)).trans (Mem.own_set_same _ _ _)) (fun q c e=>Ne.symm (h28 q c e).2)
    have k38:M3.own b8=some (boxD D0 (.slice none 0 0) (.slice none 0 0)):=by rw [← hM3];exact own_outN' (Mem.own_set_same _ _ _) (fun q c e=>Ne.symm (h28 q c e).1)
    have hok2:OkD S (addW d (s,k,data)) oE o2:=⟨hok.e,by rw [add_len];exact ho2'⟩
    have hdk2:DkR (dkM S (addW d (s,k,data)) oE o2) (dkV (addW d (s,k,data)) oE o2) (addW d (s,k,data)):=hok2.dk hlens.1 (by rw [add_len];omega)
    have hS2:=hok2.less
    have hM2eq:dkM S (addW d (s,k,data)) oE o2=outN 3 (outN 2 S oE extT (d.ext.flatMap extF)) o2 wrT (d.waits.flatMap wrF ++ [.string s,.int .i64 k,.string data]):=by unfold dkM;rw [add_flat];rfl
    have hle:(dkM S (addW d (s,k,data)) oE o2).Less M3:=by
     rw [hM2eq,← hM3]
     refine outN_lessM ?_
     exact less_of (LessB.skip (.inr (own_outN_none g8.1 (fun q c h=>Ne.symm (hne8 q c h).1))) (LessB.skip (.inr (own_outN_none g4.1 (fun q c h=>Ne.symm (hne8 q c h).2))) (LessB.refl _ _)))
    have n4:(dkM S (addW d (s,k,data)) oE o2).own b4=none:=by rw [hM2eq];exact own_outN_none (own_outN_none g4.1 (fun q c h=>Ne.symm (hne8 q c h).2)) (fun q c h=>(h28 q c h).2)
    have n8:(dkM S (addW d (s,k,data)) oE o2).own b8=none:=by rw [hM2eq];exact own_outN_none (own_outN_none g8.1 (fun q c h=>Ne.symm (hne8 q c h).1)) (fun q c h=>(h28 q c h).1)
    have hlf:∀ r r',(dkM S (addW d (s,k,data)) oE o2).Less ((M3.set b4 r).set b8 r'):=fun r r'=>less_of (LessB.skip (.inr n8) (LessB.skip (.inr n4) (LessB.of hle)))
    obtain ⟨q2,d2,hq2⟩:=outV_eq ho2
    unfold dkV at hdk2
    have hq2':outV o2 (addW d (s,k,data)).waits.length = .slice q2 (addW d (s,k,data)).waits.length d2:=by rw [add_len];exact hq2
    rw [hq2',show outV oE (addW d (s,k,data)).ext.length=_ from hqe] at hdk2
    obtain ⟨_,_,_,_,hx,hsE,hsW⟩:=id hdk2
    cases hx
    have hval:∀ (f:Int) (b:Bool),(Value.agg #[.int .i64 d.size,.slice qe d.ext.length de,.slice q2 (d.waits.length+1) d2,.int .i64 f,.bool b]) = .agg #[.int .i64 d.size,.slice qe d.ext.length de,.slice q2 (addW d (s,k,data)).waits.length d2,.int .i64 f,.bool b]:=fun f b=>by rw [add_len]
    unfold boxD at hM3 k34 k38
    rw [show _=M3 from hM3,hq2]
    iterate 4 refine s1_ ?_
    refine su_ [(0,_),(1,_),(2,_),(3,_),(4,_),(8,_),(9,_),(10,_),(16,_),(24,_),(30,_)] ?_
    iterate 8 refine s1_ ?_
    refine su_ [(0,_),(1,_),(2,_),(3,_),(4,_),(8,_),(9,_),(10,_),(16,_),(24,_),(30,_),(46,_)] ?_
    refine AWP.condB rfl (fun hb=>?_) (fun hb=>?_)
    ·have hb:=of_decide_eq_true hb
     rw [if_pos (show (addW d (s,k,data)).fuse=0 from hb)]
     iterate 6 refine s1_ ?_
     refine su_ [(0,_),(1,_),(2,_),(3,_),(4,_),(8,_),(9,_),(10,_),(16,_),(24,_),(30,_),(46,_)] ?_
     iterate 7 refine s1_ ?_
     refine su_ [(0,_),(1,_),(2,_),(3,_),(4,_),(8,_),(9,_),(10,_),(16,_),(24,_),(30,_),(46,_)] ?_
     iterate 2 refine s1_ ?_
     refine ⟨_,dkM S (addW d (s,k,data)) oE o2,⟨_,_,_,rfl,.inr ⟨ty_agg_25,[_,_,_,_,_],ty_size_25,rds_,rfl⟩,⟨_,_,rfl,rfl,rfl⟩,rfl⟩,hlf _ _,?_⟩
     exact ⟨_,rfl,hS2,⟨_,_,_,_,hval _ _,hsE,hsW⟩⟩
    ·have hb:=of_decide_eq_false hb
     rw [if_neg (show ¬ (addW d (s,k,data)).fuse=0 from hb)]
     iterate 10 refine s1_ ?_
     refine su_ [(0,_),(1,_),(2,_),(3,_),(4,_),(8,_),(9,_),(10,_),(16,_),(24,_),(30,_),(46,_),(51,_)] ?_
     refine AWP.condB rfl (fun hc=>?_) (fun hc=>?_)
     ·have hc:=of_decide_eq_true hc
      have hf1:=hz.f1
      rw [if_pos (show 0<(addW d (s,k,data)).fuse from hc)]
      iterate 8 refine s1_ ?_
      refine su_ [(0,_),(1,_),(2,_),(3,_),(4,_),(8,_),(9,_),(10,_),(16,_),(24,_),(30,_),(46,_),(51,_)] ?_
      iterate 7 refine s1_ ?_
      refine su_ [(0,_),(1,_),(2,_),(3,_),(4,_),(8,_),(9,_),(10,_),(16,_),(24,_),(30,_),(46,_),(51,_)] ?_
      refine s1_ ?_
      refine ⟨_,dkM S (addW d (s,k,data)) oE o2,⟨_,_,_,rfl,.inr ⟨ty_agg_25,[_,_,_,_,_],ty_size_25,rds_,rfl⟩,⟨_,_,rfl,rfl,rfl⟩,rfl⟩,hlf _ _,?_⟩
      exact ⟨_,rfl,hS2,⟨_,_,_,_,hval _ _,hsE,hsW⟩⟩
     ·have hc:=of_decide_eq_false hc
      rw [if_neg (show ¬ 0<(addW d (s,k,data)).fuse from hc)]
      iterate 9 refine s1_ ?_
      refine su_ [(0,_),(1,_),(2,_),(3,_),(4,_),(8,_),(9,_),(10,_),(16,_),(24,_),(30,_),(46,_),(51,_)] ?_
      refine s1_ ?_
      refine ⟨_,dkM S (addW d (s,k,data)) oE o2,⟨_,_,_,rfl,.inr ⟨ty_agg_25,[_,_,_,_,_],ty_size_25,rds_,rfl⟩,⟨_,_,rfl,rfl,rfl⟩,rfl⟩,hlf _ _,?_⟩
      exact ⟨_,rfl,hS2,⟨_,_,_,_,hval _ _,hsE,hsW⟩⟩
end Go.Proofs.YtceikpipmcadmaaGreatDoor
namespace Go.Proofs.YtceikpipmcadmaaGreatDoor
open Go.RowKit
open Mv Disk
set_option maxRecDepth 4000
theorem okD_as {S : Mem} {d d' : D} {oE oW : Option (Nat × Nat)} (h : OkD S d oE oW) (hl : d'.ext.length = d.ext.length) (hw : d'.waits.length = d.waits.length) : OkD S d' oE oW :=
 ⟨by rw [hl];exact h.e,⟨fun e=>by rw [hw];exact h.w.nil e,fun q c e=>by
  obtain ⟨h1,h2⟩:=h.w.own q c e
  rw [hw]
  refine ⟨?_,h2⟩
  obtain ⟨g,hn⟩:=fresh_outN h1
  cases oE with
  | none=>exact g
  | some z=>exact fresh_more g (hn _ _ rfl)⟩⟩
theorem dk_ownE {S : Mem} {d : D} {b c : Nat} {oW : Option (Nat × Nat)} (h : OkD S d (some (b, c)) oW) : (dkM S d (some (b, c)) oW).own b = some ⟨extT, d.ext.flatMap extF, c * 2⟩ :=
 own_outN' (Mem.own_set_same _ _ _) (fun q c' e=>by obtain ⟨g,hn⟩:=fresh_outN (h.w.own q c' e).1;exact hn _ _ rfl)
theorem dk_setE {S : Mem} {d d' : D} {b c : Nat} {oW : Option (Nat × Nat)} (h : OkD S d (some (b, c)) oW) (hw : d'.waits = d.waits) : (dkM S d (some (b, c)) oW).set b ⟨extT, d'.ext.flatMap extF, c * 2⟩ = dkM S d' (some (b, c)) oW := by
 have hne:∀ q c',oW=some (q,c')→b≠q:=fun q c' e=>by obtain ⟨g,hn⟩:=fresh_outN (h.w.own q c' e).1;exact Ne.symm (hn _ _ rfl)
 unfold dkM
 rw [hw]
 exact outN_box hne
/-- With a write done, at place p. -/
def putD (d : D) (w : Wr) (p : Nat) (x : Ext) : D := { d with ext := d.ext.set p (w.1, putS x.2 w) }
theorem cat_put {x : ByteArray} {w : Wr} : (x.extract 0 (64 * w.2.1.toNat) ++ w.2.2) ++ x.extract (64 * w.2.1.toNat + 64) x.size = putS x w := by
 apply str_ext
 rw [data_append,data_append,data_extract,data_extract]
 unfold putS
 rw [bs_data,List.drop_zero,List.take_of_length_le (Nat.le_of_eq (size_data x))]
set_option maxHeartbeats 2000000 in
theorem rd_done (d : D) (w : Wr) (S : Mem) (oE oW : Option (Nat × Nat)) (hok : OkD S d oE oW) (hel : d.ext.length ≤ 16384) (hwl : d.waits.length ≤ 16384) (ha : Asc d.ext) (p : Nat) (x : Ext) (hp : p < d.ext.length) (hx : d.ext[p] = x) (he : x.1 = w.1) (h0 : 0 ≤ w.2.1) (h1 : 64 * w.2.1.toNat + 64 ≤ x.2.size) (h2 : w.2.2.size = 64) (hz : x.2.size ≤ 140737488351232) :
  ACall Tryz.prog 145 #[dkV d oE oW,.agg #[.string w.1,.int .i64 w.2.1,.string w.2.2]] (dkM S d oE oW) fun r S'=>r=dkV (putD d w p x) oE oW∧S'=dkM S (putD d w p x) oE oW:=by
 obtain ⟨⟨bE,cE⟩,rfl⟩ : ∃ z,oE=some z:=by
  cases oE with
  | some z=>exact ⟨z,rfl⟩
  | none=>have:=hok.e.nil rfl;omega
 have hown:=dk_ownE hok
 have hset:=fun d' h=>dk_setE (d':=d') hok h
 have hdk:=hok.dk (by omega) (by omega)
 have hok':OkD S (putD d w p x) (some (bE,cE)) oW:=okD_as hok (by unfold putD;simp) rfl
 have hset:=hset (putD d w p x) rfl
 obtain ⟨qw,dw,hqw⟩:=outV_eq hok.w
 have hf:fnd d.ext w.1=(p:Int):=fnd_at ha hp (by rw [hx];exact he)
 have hv:dkV (putD d w p x) (some (bE,cE)) oW = .agg #[.int .i64 d.size,.slice (some ⟨bE,0,none⟩) d.ext.length cE,.slice qw d.waits.length dw,.int .i64 d.fuse,.bool d.down]:=by
  unfold dkV putD;simp only [List.length_set];rw [hqw];rfl
 rw [hv,← hset]
 unfold dkV at hdk ⊢
 rw [hqw] at hdk ⊢
 obtain ⟨_,_,_,_,hxx,hE,hW⟩:=id hdk
 cases hxx
 generalize dkM S d (some (bE,cE)) oW=T at *
 obtain ⟨m,hm⟩ : ∃ m:Nat,w.2.1=(m:Int):=⟨w.2.1.toNat,by omega⟩
 have hcat:=cat_put (x:=x.2) (w:=w)
 rw [hm,Int.toNat_natCast] at h1 hcat
 have hm1:IntKind.i64.wrap (64*(m:Int))=((64*m:Nat):Int):=by rw [IntWalk.i64_in _ (by omega)];omega
 have hm2:IntKind.i64.wrap ((m:Int)+1)=((m+1:Nat):Int):=by rw [IntWalk.i64_in _ (by omega)];omega
 have hm3:IntKind.i64.wrap (64*((m+1:Nat):Int))=((64*m+64:Nat):Int):=by rw [IntWalk.i64_in _ (by omega)];omega
 have hki:T.Knows ⟨bE,0+p*2,none⟩ [.string x.1,.string x.2]:=by
  obtain ⟨_,_,e,_,_,h3⟩:=id hE
  cases e
  obtain ⟨b,off,e,hk⟩:=h3.resolve_left (fun e=>by rw [e] at hp;simp at hp)
  cases e
  have:=hk p hp
  rw [hx] at this;exact this
 have hki1:=kn_at hki 1 rfl
 have hfl:=flat_length ext_len d.ext
 have hset2:(d.ext.flatMap extF).set (p*2+1) (.string (putS x.2 w))=(putD d w p x).ext.flatMap extF:=flat_set ext_len d.ext p (w.1,putS x.2 w) hp 1 _ (by omega) (by rw [hx];unfold extF;rw [he];rfl)
 rw [hm]
 refine ACall.enter (rs:=[.cell 4 25]) 39 [(0,.agg #[.int .i64 d.size,.slice (some ⟨bE,0,none⟩) d.ext.length cE,.slice qw d.waits.length dw,.int .i64 d.fuse,.bool d.down]),(1,.agg #[.string w.1,.int .i64 (m:Int),.string w.2.2])] Tryz.func145 rfl rfl (Nat.le_of_ble_eq_true rfl) rfl ⟨rfl,rfl,trivial⟩ ?_
 iterate 2 refine s1_ ?_
 refine k_b5 rfl ?_
 intro b2 f2
 have g2:=f2
 repeat ((with_reducible replace g2:=fresh_set g2);obtain ⟨g2,_⟩:=g2)
 refine nl_ ?_
 refine ARun.boxA (cs:=[_,_,_]) (lit_lt rfl) rfl ?_
 intro b3 f3
 have g3:=f3
 repeat ((with_reducible replace g3:=fresh_set g3);obtain ⟨g3,_⟩:=g3)
 refine nl_ ?_
 refine ARun.alloc (lit_lt rfl) ty_zero_25 ?_
 intro b4 f4
 have g4:=f4
 repeat ((with_reducible replace g4:=fresh_set g4);obtain ⟨g4,_⟩:=g4)
 refine nl_ ?_
 iterate 2 refine s1_ ?_
 have n2:=f2.ne hown
 have n3:=g3.ne hown
 have n4:=g4.ne hown
 iterate 6 refine s1_ ?_
 refine ca_ rfl (rd_Find _ d.ext w.1 _ (hE.less less_) ha) ?_
 rintro _ S1 ⟨rfl,h1⟩
 rw [h1,hf];clear h1 S1
 iterate 3 refine s1_ ?_
 refine su_ [(0,_),(1,_),(2,_),(3,_),(4,_),(5,_)] ?_
 iterate 7 refine s1_ ?_
 refine rC (Calm.loadK ty_plain_9 rfl (hki1.less less_)) ?_
 iterate 3 refine s1_ ?_
 refine su_ [(0,_),(1,_),(2,_),(3,_),(4,_),(5,_),(6,_)] ?_
 refine s1_ ?_
 refine AWP.draw [(0,true),(1,true),(2,true),(3,true),(4,true),(5,true),(6,true),(7,true),(8,true),(9,true),(10,true),(11,true),(12,true),(13,true),(14,true),(15,true),(16,true),(17,true),(18,true),(19,true),(20,false)] [20] mixed (by kernel_rfl) ?_
 iterate 6 refine s1_ ?_
 refine dP (hc:=fun _=>Calm.bin rfl rfl (bin_mulW hm1)) (h:=?_)
 refine draw_pure rfl rfl rfl rfl (lit_lt rfl) (fun _=>Calm.sliceStr (l:=0) (h:=64*m) (by kernel_rfl) rfl ⟨_,_,rfl,Int.natCast_nonneg _,Int.ofNat_le.2 (by omega),rfl⟩ rfl) ?_
 iterate 2 refine s1_ ?_
 refine dP (hc:=fun _=>Calm.bin rfl rfl (bin_str_add (by rw [ByteArray.size_extract];omega))) (h:=?_)
 iterate 3 refine s1_ ?_
 refine dP (hc:=fun _=>Calm.bin rfl rfl (bin_addW hm2)) (h:=?_)
 refine dP (hc:=fun _=>Calm.bin rfl rfl (bin_mulW hm3)) (h:=?_)
 refine draw_pure rfl rfl rfl rfl (lit_lt rfl) (fun _=>Calm.sliceStr (l:=64*m+64) (h:=x.2.size) (by kernel_rfl) rfl rfl ⟨_,_,rfl,Int.natCast_nonneg _,Int.ofNat_le.2 h1,rfl⟩) ?_
 refine dP (hc:=fun _=>Calm.as (congrArg Value.string hcat) (Calm.bin rfl rfl (bin_str_add (by rw [ByteArray.size_append,ByteArray.size_extract,ByteArray.size_extract];omega)))) (h:=?_)
 iterate 2 refine s1_ ?_
 refine draw_only rfl ?_
 refine ARun.store1 rfl rfl ty_size_9 rfl own_ (by show 0+(p:Int).toNat*2+1<_;rw [hfl];omega) rfl ?_
 try simp only [k_ms,k_sz,k_ss,k_za,Nat.reduceAdd]
 refine arun_nil ⟨fun h=>absurd h (by decide),?_⟩
 iterate 2 refine s1_ ?_
 refine su_ [(0,_),(1,_),(2,_),(3,_),(4,_),(5,_),(6,_)] ?_
 rw [Int.toNat_natCast,hset2]
 iterate 6 refine s1_ ?_
 refine su_ [(0,_),(1,_),(2,_),(3,_),(4,_),(5,_),(6,_)] ?_
 refine s1_ ?_
 refine ⟨_,T.set bE ⟨extT,(putD d w p x).ext.flatMap extF,cE*2⟩,⟨_,_,_,rfl,.inr ⟨ty_agg_25,[_,_,_,_,_],ty_size_25,rds_,rfl⟩,rfl,rfl⟩,less_,?_⟩
 exact ⟨rfl,rfl⟩
end Go.Proofs.YtceikpipmcadmaaGreatDoor
namespace Go.Proofs.YtceikpipmcadmaaGreatDoor
open Go.RowKit
open Mv Disk
set_option maxRecDepth 4000

def mixK (kp : Nat → Bool) (d : D) (n : Nat) : D := { d with ext := d.ext.map (doneN kp d.waits n) }
theorem mix0 (kp : Nat → Bool) (d : D) : mixK kp d 0 = d := by unfold mixK; rw [doneN_zero]
theorem mix_skip {kp : Nat → Bool} {d : D} {n : Nat} (hn : n < d.waits.length) (hk : kp n = false) : mixK kp d (n + 1) = mixK kp d n := by unfold mixK; rw [doneN_skip hn hk]
theorem mix_facts {d : D} (kp : Nat → Bool) {n : Nat} (hR : Right d) (hn : n < d.waits.length) : ∃ p x, ∃ hp : p < (mixK kp d n).ext.length, (mixK kp d n).ext[p] = x ∧ x.1 = d.waits[n].1 ∧ 0 ≤ d.waits[n].2.1 ∧ 64 * d.waits[n].2.1.toNat + 64 ≤ x.2.size ∧ d.waits[n].2.2.size = 64 ∧ x.2.size ≤ 1048576 ∧ (kp n = true → putD (mixK kp d n) d.waits[n] p x = mixK kp d (n + 1)) := by
 obtain ⟨y,hy,e,h0,h1,h2⟩:=hR.wr _ (List.getElem_mem hn)
 obtain ⟨hlt,he⟩:=(has_pos hR.ex.asc d.waits[n].1).1 (has_iff.2 ⟨y,hy,e⟩)
 have hxy:d.ext[pos d.ext d.waits[n].1]=y:=asc_inj hR.ex.asc (List.getElem_mem hlt) hy (by rw [he,e])
 have hsy:=right_sec hR hy
 have hsz:=acc_size (kp:=kp) (right_fit hR hy) n (by omega)
 refine ⟨pos d.ext d.waits[n].1,doneN kp d.waits n y,by unfold mixK;rw [List.length_map];exact hlt,?_,e,h0,?_,h2,?_,fun hk=>?_⟩
 ·unfold mixK;simp only [List.getElem_map];rw [hxy]
 ·show _≤((accW kp y d.waits n).getD y.2).size
  omega
 ·show ((accW kp y d.waits n).getD y.2).size≤_
  omega
 ·unfold putD mixK
  simp only
  rw [doneN_step hn hk hR.ex.asc hlt he,hxy]
theorem fresh_mix {S : Mem} {d d' : D} {oE oW : Option (Nat × Nat)} {b : Nat} (h : Fresh (dkM S d oE oW) b) : Fresh (dkM S d' oE oW) b := by
 obtain ⟨g,h1⟩:=fresh_outN h
 obtain ⟨g',h2⟩:=fresh_outN g
 exact fresh_outN_mk (fresh_outN_mk g' (fun q c e=>Ne.symm (h2 q c e))) (fun q c e=>Ne.symm (h1 q c e))
theorem mix_asc {d : D} (hR : Right d) (kp : Nat → Bool) (n : Nat) : Asc (mixK kp d n).ext := asc_map (f := doneN kp d.waits n) (fun _ => rfl) hR.ex.asc
set_option maxHeartbeats 2000000 in
theorem rd_Sync (v : Value) (d : D) (S : Mem) (hd : DkR S v d) (hz : Dz d) :
  ACall Tryz.prog 97 #[v] S (DkRes (opened d (syncD d)) S):=by
 have hpow:=fun M h=>rd_power v d M h hz
 have hasw:=fun why=>rd_as v d why S hd hz
 have hcopy:=rd_Copy v d S hd hz.el hz.wl
 obtain ⟨pe,ce,pw,cw,rfl,hE,hW⟩:=id hd
 unfold opened
 rcases openD_or d with ⟨ho,hR⟩ | ⟨ho,hR,hdn⟩ | ⟨ho,hR,hdn⟩ <;> (simp only [ho] at hpow ⊢)
 ·have hasw:=hasw 2;rw [asD_no hR] at hasw;rw [if_neg (by decide)]
  refine ACall.enter (rs:=[.cell 2 25,.tmp 3]) 31 [(0,.agg #[.int .i64 d.size,.slice pe d.ext.length ce,.slice pw d.waits.length cw,.int .i64 d.fuse,.bool d.down])] Tryz.func97 rfl rfl (Nat.le_of_ble_eq_true rfl) rfl ⟨rfl,trivial⟩ ?_
  iterate 2 refine s1_ ?_
  refine k_b5 rfl ?_
  intro b1 f1
  have g1:=f1
  repeat ((with_reducible replace g1:=fresh_set g1);obtain ⟨g1,_⟩:=g1)
  refine nl_ ?_
  refine ARun.alloc (lit_lt rfl) ty_zero_25 ?_
  intro b2 f2
  have g2:=f2
  repeat ((with_reducible replace g2:=fresh_set g2);obtain ⟨g2,_⟩:=g2)
  refine nl_ ?_
  iterate 6 refine s1_ ?_
  refine ca_ rfl (hpow _ (hd.less less_)) ?_
  rintro _ S1 ⟨rfl,h1⟩
  rw [h1];clear h1 S1
  iterate 3 refine s1_ ?_
  refine su_ [(0,_),(1,_),(2,_),(3,_),(4,_)] ?_
  iterate 7 refine s1_ ?_
  refine su_ [(0,_),(1,_),(2,_),(3,_),(4,_),(10,_)] ?_
  refine cT_ ?_
  iterate 4 refine s1_ ?_
  refine ca_ rfl (((hasw).frame f1).frame f2) ?_
  rintro _ S1 ⟨Sa,⟨M,⟨v',rfl,hSM,hdk⟩,fa,hSa⟩,fb,h1⟩
  rw [h1,hSa];rw [hSa] at fb;clear h1 S1 hSa Sa
  obtain ⟨fbm,nba⟩:=fresh_set fb
  obtain ⟨qe,de,qw,dw,rfl,hE2,hW2⟩:=id hdk
  iterate 6 refine s1_ ?_
  refine su_ [(0,_),(1,_),(2,_),(3,_),(4,_),(10,_)] ?_
  iterate 2 refine s1_ ?_
  refine ⟨_,M,⟨_,_,_,rfl,.inr ⟨ty_agg_25,[_,_,_,_,_],ty_size_25,rds_,rfl⟩,⟨_,_,rfl,rfl,rfl⟩,rfl⟩,less_,?_⟩
  exact ⟨_,rfl,hSM,hdk⟩
 ·have hasw:=hasw 10;rw [asD_ok hR] at hasw;rw [if_neg (by decide)]
  refine ACall.enter (rs:=[.cell 2 25,.tmp 3]) 31 [(0,.agg #[.int .i64 d.size,.slice pe d.ext.length ce,.slice pw d.waits.length cw,.int .i64 d.fuse,.bool d.down])] Tryz.func97 rfl rfl (Nat.le_of_ble_eq_true rfl) rfl ⟨rfl,trivial⟩ ?_
  iterate 2 refine s1_ ?_
  refine k_b5 rfl ?_
  intro b1 f1
  have g1:=f1
  repeat ((with_reducible replace g1:=fresh_set g1);obtain ⟨g1,_⟩:=g1)
  refine nl_ ?_
  refine ARun.alloc (lit_lt rfl) ty_zero_25 ?_
  intro b2 f2
  have g2:=f2
  repeat ((with_reducible replace g2:=fresh_set g2);obtain ⟨g2,_⟩:=g2)
  refine nl_ ?_
  iterate 6 refine s1_ ?_
  refine ca_ rfl (hpow _ (hd.less less_)) ?_
  rintro _ S1 ⟨rfl,h1⟩
  rw [h1];clear h1 S1
  iterate 3 refine s1_ ?_
  refine su_ [(0,_),(1,_),(2,_),(3,_),(4,_)] ?_
  iterate 7 refine s1_ ?_
  refine su_ [(0,_),(1,_),(2,_),(3,_),(4,_),(10,_)] ?_
  refine cT_ ?_
  iterate 4 refine s1_ ?_
  refine ca_ rfl (((hasw).frame f1).frame f2) ?_
  rintro _ S1 ⟨Sa,⟨M,⟨v',rfl,hSM,hdk⟩,fa,hSa⟩,fb,h1⟩
  rw [h1,hSa];rw [hSa] at fb;clear h1 S1 hSa Sa
  obtain ⟨fbm,nba⟩:=fresh_set fb
  obtain ⟨qe,de,qw,dw,rfl,hE2,hW2⟩:=id hdk
  iterate 6 refine s1_ ?_
  refine su_ [(0,_),(1,_),(2,_),(3,_),(4,_),(10,_)] ?_
  iterate 2 refine s1_ ?_
  refine ⟨_,M,⟨_,_,_,rfl,.inr ⟨ty_agg_25,[_,_,_,_,_],ty_size_25,rds_,rfl⟩,⟨_,_,rfl,rfl,rfl⟩,rfl⟩,less_,?_⟩
  exact ⟨_,rfl,hSM,hdk⟩
 ·rw [if_pos trivial]
  have hrl:=right_len hR;have hwl:=hR.wl
  refine ACall.enter (rs:=[.cell 2 25,.tmp 3]) 31 [(0,.agg #[.int .i64 d.size,.slice pe d.ext.length ce,.slice pw d.waits.length cw,.int .i64 d.fuse,.bool d.down])] Tryz.func97 rfl rfl (Nat.le_of_ble_eq_true rfl) rfl ⟨rfl,trivial⟩ ?_
  iterate 2 refine s1_ ?_
  refine k_b5 rfl ?_
  intro b1 f1
  have g1:=f1
  repeat ((with_reducible replace g1:=fresh_set g1);obtain ⟨g1,_⟩:=g1)
  refine nl_ ?_
  refine ARun.alloc (lit_lt rfl) ty_zero_25 ?_
  intro b2 f2
  have g2:=f2
  repeat ((with_reducible replace g2:=fresh_set g2);obtain ⟨g2,_⟩:=g2)
  refine nl_ ?_
  iterate 6 refine s1_ ?_
  refine ca_ rfl (hpow _ (hd.less less_)) ?_
  rintro _ S1 ⟨rfl,h1⟩
  rw [h1];clear h1 S1
  iterate 3 refine s1_ ?_
  refine su_ [(0,_),(1,_),(2,_),(3,_),(4,_)] ?_
  iterate 7 refine s1_ ?_
  refine su_ [(0,_),(1,_),(2,_),(3,_),(4,_),(10,_)] ?_
  refine cF_ ?_
  iterate 5 refine s1_ ?_
  refine ca_ rfl (((hcopy).frame f1).frame f2) ?_
  rintro _ S1 ⟨Sa,⟨M,⟨oE,oW,hok,rfl,hM⟩,fa,hSa⟩,fb,h1⟩
  rw [h1,hSa];rw [hSa] at fb;clear h1 S1 hSa Sa
  obtain ⟨fbm,nba⟩:=fresh_set fb
  unfold dkV
  obtain ⟨qe,de,hqe⟩:=outV_eq hok.e
  obtain ⟨qw,dw,hqw⟩:=outV_eq hok.w
  rw [hqe,hqw]
  iterate 3 refine s1_ ?_
  refine su_ [(0,_),(1,_),(2,_),(3,_),(4,_),(10,_)] ?_
  rw [set_back M nba]
  have hvi:∀ i,dkV (mixK allK d i) oE oW = .agg #[.int .i64 d.size,.slice qe d.ext.length de,.slice qw d.waits.length dw,.int .i64 d.fuse,.bool d.down]:=fun i=>by unfold dkV mixK;simp only [List.length_map];rw [hqe,hqw]
  have hoki:∀ i,OkD S (mixK allK d i) oE oW:=fun i=>okD_as hok (by unfold mixK;simp) rfl
  have hdki:∀ i,DkR (dkM S (mixK allK d i) oE oW) (.agg #[.int .i64 d.size,.slice qe d.ext.length de,.slice qw d.waits.length dw,.int .i64 d.fuse,.bool d.down]) (mixK allK d i):=fun i=>by rw [← hvi i];exact (hoki i).dk (by unfold mixK;simp;omega) (by show d.waits.length≤_;omega)
  have fBi:∀ i,Fresh (dkM S (mixK allK d i) oE oW) b1:=fun i=>by rw [hM] at fa;exact fresh_mix fa
  have hM0:M=dkM S (mixK allK d 0) oE oW:=by rw [mix0];exact hM
  iterate 9 refine s1_ ?_
  refine su_ [(0,_),(1,_),(2,_),(3,_),(4,_),(10,_),(19,_),(20,_),(21,_)] ?_
  refine s1_ ?_
  refine AWP.loop (X:=Nat) (fun x=>[(1,.pointer (some ⟨b1,0,none⟩)),(2,.pointer (some ⟨b2,0,none⟩)),(19,.slice qw d.waits.length dw),(20,.int .i64 d.waits.length),(21,.int .i64 x)]) (fun x=>((dkM S (mixK allK d x) oE oW).set b1 (boxD d (.slice qe d.ext.length de) (.slice qw d.waits.length dw))).set b2 (boxD D0 (.slice none 0 0) (.slice none 0 0))) (fun x=>x≤d.waits.length) (fun x=>d.waits.length-x) (0) ⟨rfl,rfl,rfl,rfl,rfl,trivial⟩ ((by rw [← hM0];exact Mem.Less.refl _)) (Nat.zero_le _) ?_
  rintro i hi
  (try dsimp only at *)
  have fb1:=fBi i
  have fb2:Fresh ((dkM S (mixK allK d i) oE oW).set b1 (boxD d (.slice qe d.ext.length de) (.slice qw d.waits.length dw))) b2:=fresh_more (by rw [hM] at fbm;exact fresh_mix fbm) nba
  obtain ⟨_,_,_,_,hxx,hEi,hWi⟩:=id (hdki i)
  rw [show (mixK allK d i).ext.length=d.ext.length from List.length_map _] at hxx hEi
  cases hxx
  have hWi':Sl 3 wrF (dkM S (mixK allK d i) oE oW) (.slice qw d.waits.length dw) d.waits:=hWi
  obtain ⟨_,_,ee,_,_,hW3⟩:=id hWi'
  cases ee
  obtain ⟨fb2m,nb2⟩:=fresh_set fb2
  unfold boxD at fb2 ⊢
  iterate 6 refine s1_ ?_
  refine AWP.condB rfl (fun hc=>?_) (fun hc=>?_)
  ·have hc:i<d.waits.length:=by have:=of_decide_eq_true hc;omega
   obtain ⟨bw,ow,hqq,hkw⟩:=hW3.resolve_left (fun e=>by rw [e] at hc;simp at hc)
   have hkwi:=hkw i hc
   obtain ⟨p,x,hp,hx,hx1,h0,h1,h2,h3,hput⟩:=mix_facts allK hR hc
   have hdone:=rd_done (mixK allK d i) d.waits[i] S oE oW (hoki i) (by unfold mixK;simp;omega) (by show d.waits.length≤_;omega) (mix_asc hR allK i) p x hp hx hx1 h0 h1 h2 (by omega)
   rw [hvi i] at hdone
   have hvp:dkV (putD (mixK allK d i) d.waits[i] p x) oE oW = .agg #[.int .i64 d.size,.slice qe d.ext.length de,.slice qw d.waits.length dw,.int .i64 d.fuse,.bool d.down]:=by rw [← hvi i];unfold dkV putD;simp only [List.length_set]
   rw [hvp] at hdone
   have hsk:=mix_skip (kp:=allK) hc
   clear hx1 h0 h1 h2 h3 hvp
   subst hqq
   generalize d.waits[i]=w at *
   unfold wrF at hkwi
   have hput:=hput (rfl)
   rw [hput] at hdone
   iterate 8 refine s1_ ?_
   refine ARun.alloc (lit_lt rfl) ty_zero_83 ?_
   intro b6 f6
   have g6:=f6
   repeat ((with_reducible replace g6:=fresh_set g6);obtain ⟨g6,_⟩:=g6)
   refine nl_ ?_
   iterate 3 refine s1_ ?_
   refine su_ [(1,_),(2,_),(19,_),(20,_),(21,_),(22,_),(6,_)] ?_
   iterate 3 refine s1_ ?_
   refine ca_ rfl ((((hdone).frame fb1).frame fb2).frame f6) ?_
   rintro _ S1 ⟨Sa,⟨Sb,⟨M2,⟨rfl,hM2⟩,ga,hSb⟩,gb,hSa⟩,gc,h1⟩
   rw [h1,hSa,hSb];rw [hSa,hSb] at gc;rw [hSb] at gb;clear h1 S1 hSa Sa hSb Sb
   obtain ⟨gbm,nba⟩:=fresh_set gb
   obtain ⟨gc1,ncb⟩:=fresh_set gc
   obtain ⟨gcm,nca⟩:=fresh_set gc1
   rw [hM2] at ga gb gc gbm gc1 gcm ⊢
   iterate 4 refine s1_ ?_
   refine su_ [(1,_),(2,_),(19,_),(20,_),(21,_),(22,_),(6,_)] ?_
   iterate 5 refine s1_ ?_
   refine ⟨i+1,?_,?_,?_,?_⟩
   all_goals (try dsimp only)
   ·exact ⟨rfl,rfl,rfl,rfl,rfl,trivial⟩
   ·exact less_
   ·exact hc
   ·omega
  ·have hc:i=d.waits.length:=by have:=of_decide_eq_false hc;omega
   subst hc
   have hs:Sl 2 extF (dkM S (mixK allK d d.waits.length) oE oW) (.slice qe (d.ext.map (doneX allK d.waits)).length de) (d.ext.map (doneX allK d.waits)):=by rw [List.length_map];exact hEi
   have hval:∀ (f:Int) (b:Bool),(Value.agg #[.int .i64 d.size,.slice qe d.ext.length de,.slice none 0 0,.int .i64 f,.bool b]) = .agg #[.int .i64 d.size,.slice qe (d.ext.map (doneX allK d.waits)).length de,.slice none 0 0,.int .i64 f,.bool b]:=fun f b=>by rw [List.length_map]
   iterate 11 refine s1_ ?_
   refine su_ [(1,_),(2,_),(19,_),(20,_),(21,_),(22,_)] ?_
   iterate 7 refine s1_ ?_
   refine su_ [(1,_),(2,_),(19,_),(20,_),(21,_),(22,_),(3,_)] ?_
   refine s1_ ?_
   refine ⟨_,dkM S (mixK allK d d.waits.length) oE oW,⟨_,_,_,rfl,.inr ⟨ty_agg_25,[_,_,_,_,_],ty_size_25,rds_,rfl⟩,⟨_,_,rfl,rfl,rfl⟩,rfl⟩,less_,?_⟩
   exact ⟨_,rfl,(hoki _).less,⟨_,_,_,_,hval _ _,hs,Sl.nil _ _ _⟩⟩
end Go.Proofs.YtceikpipmcadmaaGreatDoor
namespace Go.Proofs.YtceikpipmcadmaaGreatDoor
open Go.RowKit
open Mv Disk
set_option maxRecDepth 20000
theorem neq_ext (a b : ByteArray) (w : World) : (binOp .neq 81 (.agg #[.string a, .string b]) (.agg #[.string a, .string b])).run Tryz.prog w = .ok (.bool false) w := by
 go_simp
theorem neq_wr (a : ByteArray) (n : Int) (b : ByteArray) (w : World) : (binOp .neq 83 (.agg #[.string a, .int .i64 n, .string b]) (.agg #[.string a, .int .i64 n, .string b])).run Tryz.prog w = .ok (.bool false) w := by
 go_simp
theorem bin_neq_ext {x y : Operand} (a b : ByteArray) : Bin Tryz.prog .neq 81 x y (.agg #[.string a, .string b]) (.agg #[.string a, .string b]) (.bool false) := fun w => by
 rw [Sem.run_bind,run_eqGuard_agg w .neq 81 x y _ _ (by kernel_rfl)]
 exact neq_ext a b w
theorem bin_neq_wr {x y : Operand} (a : ByteArray) (n : Int) (b : ByteArray) : Bin Tryz.prog .neq 83 x y (.agg #[.string a, .int .i64 n, .string b]) (.agg #[.string a, .int .i64 n, .string b]) (.bool false) := fun w => by
 rw [Sem.run_bind,run_eqGuard_agg w .neq 83 x y _ _ (by kernel_rfl)]
 exact neq_wr a n b w
set_option maxHeartbeats 2000000 in
theorem rd_Same (v v' : Value) (d : D) (S : Mem) (hd : DkR S v d) (hd' : DkR S v' d) :
  ACall Tryz.prog 18 #[v,v'] S fun r S'=>r = .bool true∧S'=S:=by
 obtain ⟨pe,ce,pw,cw,rfl,hE,hW⟩:=hd
 obtain ⟨pe',ce',pw',cw',rfl,hE',hW'⟩:=hd'
 obtain ⟨_,_,ee1,ee2,ee3,hE3⟩:=id hE
 obtain ⟨_,_,ew1,ew2,ew3,hW3⟩:=id hW
 cases ee1;cases ew1
 obtain ⟨_,_,ee1,_,_,hE3'⟩:=id hE'
 obtain ⟨_,_,ew1,_,_,hW3'⟩:=id hW'
 cases ee1;cases ew1
 refine ACall.enter (rs:=[.tmp 4]) 80 [(0,.agg #[.int .i64 d.size,.slice pe d.ext.length ce,.slice pw d.waits.length cw,.int .i64 d.fuse,.bool d.down]),(1,.agg #[.int .i64 d.size,.slice pe' d.ext.length ce',.slice pw' d.waits.length cw',.int .i64 d.fuse,.bool d.down])] Tryz.func18 rfl rfl (Nat.le_of_ble_eq_true rfl) rfl ⟨rfl,rfl,trivial⟩ ?_
 iterate 2 refine s1_ ?_
 refine k_b5 rfl ?_
 intro b2 f2
 have g2:=f2
 repeat ((with_reducible replace g2:=fresh_set g2);obtain ⟨g2,_⟩:=g2)
 refine nl_ ?_
 refine k_b5 rfl ?_
 intro b3 f3
 have g3:=f3
 repeat ((with_reducible replace g3:=fresh_set g3);obtain ⟨g3,_⟩:=g3)
 refine nl_ ?_
 iterate 3 refine s1_ ?_
 refine named2 (S:=S) (b:=b2) (b':=b3) f2.1 f3.1 ?_
 intro T3 hT3 kb2 kb3
 iterate 7 refine s1_ ?_
 refine rC (Calm.bin rfl rfl (bin_bool (bin_neq _ _) (bnot_dec_false rfl))) ?_
 iterate 5 refine s1_ ?_
 first|refine k_q 12 ?_|refine rG 12 (Calm.bin rfl rfl (bin_bool (bin_neq _ _) (bnot_dec_false rfl))) ?_
 iterate 6 refine s1_ ?_
 first|refine k_q 19 ?_|refine rG 19 (Calm.bin rfl rfl (bin_bool (bin_bool_neq _ _ Tryz.underlying4) (by simp:(!(d.down == d.down))=false))) ?_
 iterate 8 refine s1_ ?_
 first|refine k_q 26 ?_|refine rG 26 (Calm.bin rfl rfl (bin_bool (bin_neq _ _) (bnot_dec_false rfl))) ?_
 iterate 8 refine s1_ ?_
 first|refine k_q 35 ?_|refine rG 35 (Calm.bin rfl rfl (bin_bool (bin_neq _ _) (bnot_dec_false rfl))) ?_
 iterate 3 refine s1_ ?_
 refine su_ [(0,_),(1,_),(2,_),(3,_),(4,_),(43,_)] ?_
 refine cF_ ?_
 iterate 11 refine s1_ ?_
 refine su_ [(0,_),(1,_),(2,_),(3,_),(4,_),(43,_),(46,_),(47,_)] ?_
 refine s1_ ?_
 refine AWP.loop (X:=Nat) (fun x=>[(2,.pointer (some ⟨b2,0,none⟩)),(3,.pointer (some ⟨b3,0,none⟩)),(46,.int .i64 d.ext.length),(47,.int .i64 x)]) (fun x=>T3) (fun x=>x≤d.ext.length) (fun x=>d.ext.length-x) (0) ⟨rfl,rfl,rfl,rfl,trivial⟩ (Mem.Less.refl _) (Nat.zero_le _) ?_
 rintro i hi
 (try dsimp only at *)
 iterate 6 refine s1_ ?_
 refine AWP.condB rfl (fun hc=>?_) (fun hc=>?_)
 ·have hc:i<d.ext.length:=by have:=of_decide_eq_true hc;omega
  obtain ⟨b,off,rfl,hk⟩:=hE3.resolve_left (fun e=>by rw [e] at hc;simp at hc)
  obtain ⟨b',off',rfl,hk'⟩:=hE3'.resolve_left (fun e=>by rw [e] at hc;simp at hc)
  have hki:=(hk i hc).less hT3
  have hki':=(hk' i hc).less hT3
  generalize d.ext[i]=x at *
  unfold extF at hki hki'
  iterate 10 refine s1_ ?_
  refine su_ [(2,_),(3,_),(46,_),(47,_),(48,_),(5,_)] ?_
  refine s1_ ?_
  refine AWP.draw [(0,true),(1,true),(2,true),(3,true),(4,true),(5,true),(6,true),(7,true),(8,true),(9,true),(10,true)] [] mixed (by kernel_rfl) ?_
  iterate 10 refine s1_ ?_
  refine dP (hc:=fun _=>Calm.bin rfl rfl (bin_neq_ext _ _)) (h:=?_)
  iterate 2 refine s1_ ?_
  refine su_ [(2,_),(3,_),(46,_),(47,_),(48,_),(5,_),(60,_)] ?_
  refine cF_ ?_
  iterate 8 refine s1_ ?_
  refine ⟨i+1,?_,?_,?_,?_⟩
  all_goals (try dsimp only)
  ·exact ⟨rfl,rfl,rfl,rfl,trivial⟩
  ·exact less_
  ·exact hc
  ·omega
 ·have hc:i=d.ext.length:=by have:=of_decide_eq_false hc;omega
  subst hc
  iterate 14 refine s1_ ?_
  refine su_ [(2,_),(3,_),(46,_),(47,_),(48,_),(64,_),(65,_)] ?_
  refine s1_ ?_
  refine AWP.loop (X:=Nat) (fun x=>[(2,.pointer (some ⟨b2,0,none⟩)),(3,.pointer (some ⟨b3,0,none⟩)),(64,.int .i64 d.waits.length),(65,.int .i64 x)]) (fun x=>T3) (fun x=>x≤d.waits.length) (fun x=>d.waits.length-x) (0) ⟨rfl,rfl,rfl,rfl,trivial⟩ (Mem.Less.refl _) (Nat.zero_le _) ?_
  rintro i hi
  (try dsimp only at *)
  iterate 6 refine s1_ ?_
  refine AWP.condB rfl (fun hc=>?_) (fun hc=>?_)
  ·have hc:i<d.waits.length:=by have:=of_decide_eq_true hc;omega
   obtain ⟨b,off,rfl,hk⟩:=hW3.resolve_left (fun e=>by rw [e] at hc;simp at hc)
   obtain ⟨b',off',rfl,hk'⟩:=hW3'.resolve_left (fun e=>by rw [e] at hc;simp at hc)
   have hki:=(hk i hc).less hT3
   have hki':=(hk' i hc).less hT3
   generalize d.waits[i]=x at *
   unfold wrF at hki hki'
   iterate 10 refine s1_ ?_
   refine su_ [(2,_),(3,_),(64,_),(65,_),(66,_),(6,_)] ?_
   refine s1_ ?_
   refine AWP.draw [(0,true),(1,true),(2,true),(3,true),(4,true),(5,true),(6,true),(7,true),(8,true),(9,true),(10,true)] [] mixed (by kernel_rfl) ?_
   iterate 10 refine s1_ ?_
   refine dP (hc:=fun _=>Calm.bin rfl rfl (bin_neq_wr _ _ _)) (h:=?_)
   iterate 2 refine s1_ ?_
   refine su_ [(2,_),(3,_),(64,_),(65,_),(66,_),(6,_),(78,_)] ?_
   refine cF_ ?_
   iterate 8 refine s1_ ?_
   refine ⟨i+1,?_,?_,?_,?_⟩
   all_goals (try dsimp only)
   ·exact ⟨rfl,rfl,rfl,rfl,trivial⟩
   ·exact less_
   ·exact hc
   ·omega
  ·iterate 11 refine s1_ ?_
   refine ⟨_,S,⟨_,_,rfl,rfl,rfl⟩,hT3.trans less_,?_⟩
   exact ⟨rfl,rfl⟩
end Go.Proofs.YtceikpipmcadmaaGreatDoor
namespace Go.Proofs.YtceikpipmcadmaaGreatDoor
open Go.RowKit
open Mv Disk
set_option maxRecDepth 4000
theorem readO_see (d : D) (s : ByteArray) (k : Int) : readO d s k = if placeO d s k ≠ 0 then (ByteArray.empty, placeO d s k) else (seen d s k, 0) := by
 unfold readO placeO
 by_cases q:(openD d).2=0
 ·have h1 : ¬ ((openD d).2≠0):=by simpa using q
  simp only [if_neg h1];exact readD_see d s k
 ·rw [if_pos q,if_pos q,if_pos q]
set_option maxHeartbeats 2000000 in
theorem rd_Read (v : Value) (d : D) (s : ByteArray) (k : Int) (S : Mem) (hd : DkR S v d) (hz : Dz d) :
  ACall Tryz.prog 51 #[v,.string s,.int .i64 k] S fun r S'=>r = .tuple #[.string (readO d s k).1,.int .i64 (readO d s k).2]∧S'=S:=by
 have hpl:=fun M h=>rd_place v d s k M h hz
 obtain ⟨pe,ce,pw,cw,rfl,hE,hW⟩:=id hd
 rw [readO_see]
 by_cases q0:placeO d s k≠0
 ·rw [if_pos q0]
  generalize placeO d s k=er at *
  refine ACall.enter (rs:=[.tmp 6,.tmp 7]) 55 [(0,.agg #[.int .i64 d.size,.slice pe d.ext.length ce,.slice pw d.waits.length cw,.int .i64 d.fuse,.bool d.down]),(1,.string s),(2,.int .i64 k)] Tryz.func51 rfl rfl (Nat.le_of_ble_eq_true rfl) rfl ⟨rfl,rfl,rfl,trivial⟩ ?_
  iterate 2 refine s1_ ?_
  refine k_b5 rfl ?_
  intro b3 f3
  have g3:=f3
  repeat ((with_reducible replace g3:=fresh_set g3);obtain ⟨g3,_⟩:=g3)
  refine nl_ ?_
  iterate 9 refine s1_ ?_
  refine ca_ rfl (hpl _ (hd.less less_)) ?_
  rintro _ S1 ⟨rfl,h1⟩
  rw [h1];clear h1 S1
  iterate 3 refine s1_ ?_
  refine su_ [(0,_),(1,_),(2,_),(3,_),(6,_),(7,_),(8,_)] ?_
  iterate 4 refine s1_ ?_
  refine rC (Calm.bin rfl rfl (bin_bool (bin_neq _ _) (bnot_dec_true q0))) ?_
  iterate 2 refine s1_ ?_
  refine su_ [(0,_),(1,_),(2,_),(3,_),(6,_),(7,_),(8,_),(17,_)] ?_
  refine cT_ ?_
  iterate 7 refine s1_ ?_
  refine su_ [(0,_),(1,_),(2,_),(3,_),(6,_),(7,_),(8,_),(17,_)] ?_
  iterate 2 refine s1_ ?_
  refine ⟨_,S,⟨_,_,rfl,⟨_,_,rfl,rfl,rfl⟩,rfl⟩,less_,?_⟩
  exact ⟨rfl,rfl⟩
 ·rw [if_neg q0]
  have q0:placeO d s k=0:=by simpa using q0
  have hop:(openD d).2=0:=by
   rcases openD_or d with ⟨ho,hR⟩ | ⟨ho,hR,hdn⟩ | ⟨ho,hR,hdn⟩
   ·unfold placeO at q0;rw [ho] at q0;simp at q0
   ·unfold placeO at q0;rw [ho] at q0;simp at q0
   ·rw [ho]
  have hR:Right d:=by
   rcases openD_or d with ⟨ho,hR⟩ | ⟨ho,hR,hdn⟩ | ⟨ho,hR,hdn⟩
   ·rw [ho] at hop;simp at hop
   ·exact hR
   ·exact hR
  have hp0:(placeD d s k).2=0:=by unfold placeO at q0;rw [if_neg (by simpa using hop)] at q0;exact q0
  obtain ⟨q,hk0,hk1⟩:=place0 hp0
  simp only [q0] at hpl
  have hf:fnd d.ext s=(pos d.ext s:Nat):=by unfold fnd;rw [if_pos q]
  obtain ⟨hlt,he⟩:=(has_pos hR.ex.asc s).1 q
  unfold seen
  rw [exOf_eq hlt] at hk1 ⊢
  obtain ⟨_,_,ee1,ee2,ee3,hE3⟩:=id hE
  obtain ⟨_,_,ew1,ew2,ew3,hW3⟩:=id hW
  cases ee1;cases ew1
  obtain ⟨b,off,rfl,hk⟩:=hE3.resolve_left (fun e=>by rw [e] at hlt;simp at hlt)
  have hki:=hk _ hlt
  have hsx:=right_sec hR (List.getElem_mem hlt)
  generalize pos d.ext s=p at *
  generalize d.ext[p]=x at *
  unfold extF at hki
  have hki1:=kn_at hki 1 rfl
  obtain ⟨m,rfl⟩ : ∃ m:Nat,k=m:=⟨k.toNat,by omega⟩
  rw [Int.toNat_natCast]
  obtain ⟨hm1,hm2,hm3,hm4⟩:=wr_facts hsx hk1
  generalize hB:x.2.extract (64*m) (64*m+64)=base
  have hB':x.2.extract (64*m) (64*(m+1))=base:=by rw [← hB,Nat.mul_succ]
  refine ACall.enter (rs:=[.tmp 6,.tmp 7]) 55 [(0,.agg #[.int .i64 d.size,.slice (some ⟨b,off,none⟩) d.ext.length ce,.slice pw d.waits.length cw,.int .i64 d.fuse,.bool d.down]),(1,.string s),(2,.int .i64 (m:Int))] Tryz.func51 rfl rfl (Nat.le_of_ble_eq_true rfl) rfl ⟨rfl,rfl,rfl,trivial⟩ ?_
  iterate 2 refine s1_ ?_
  refine k_b5 rfl ?_
  intro b3 f3
  have g3:=f3
  repeat ((with_reducible replace g3:=fresh_set g3);obtain ⟨g3,_⟩:=g3)
  refine nl_ ?_
  iterate 9 refine s1_ ?_
  refine ca_ rfl (hpl _ (hd.less less_)) ?_
  rintro _ S1 ⟨rfl,h1⟩
  rw [h1];clear h1 S1
  iterate 3 refine s1_ ?_
  refine su_ [(0,_),(1,_),(2,_),(3,_),(6,_),(7,_),(8,_)] ?_
  iterate 7 refine s1_ ?_
  refine su_ [(0,_),(1,_),(2,_),(3,_),(6,_),(7,_),(8,_),(17,_)] ?_
  refine cF_ ?_
  iterate 3 refine s1_ ?_
  refine AWP.draw [(0,true),(1,true),(2,true),(3,true),(4,true),(9,true),(10,true),(11,true),(12,true),(13,true),(5,false),(6,true),(7,true),(8,true),(14,true),(15,true)] [] mixed (by kernel_rfl) ?_
  iterate 6 refine s1_ ?_
  refine dP (hc:=fun _=>Calm.bin rfl rfl (bin_mulW hm1)) (h:=?_)
  refine s1_ ?_
  refine dP (hc:=fun _=>Calm.bin rfl rfl (bin_addW hm2)) (h:=?_)
  refine dP (hc:=fun _=>Calm.bin rfl rfl (bin_mulW hm3)) (h:=?_)
  refine draw_only rfl ?_
  refine ca_ rfl (rd_Find _ d.ext s _ (hE.less less_) hR.ex.asc) ?_
  rintro _ S1 ⟨rfl,h1⟩
  rw [h1,hf];clear h1 S1
  refine arun_nil ⟨fun _=>less_,?_⟩
  iterate 2 refine s1_ ?_
  refine dC (hc:=Calm.loadK ty_plain_9 rfl (hki1.less less_)) (h:=?_)
  refine draw_pure rfl rfl rfl rfl (lit_lt rfl) (fun _=>Calm.sliceStr (l:=64*m) (h:=64*(m+1)) (by kernel_rfl) rfl ⟨_,_,rfl,Int.natCast_nonneg _,Int.ofNat_le.2 hm4,rfl⟩ ⟨_,_,rfl,Int.natCast_nonneg _,Int.ofNat_le.2 (Nat.mul_le_mul_left 64 (Nat.le_succ m)),rfl⟩) ?_
  rw [hB']
  iterate 3 refine s1_ ?_
  refine su_ [(0,_),(1,_),(2,_),(3,_),(6,_),(7,_),(8,_),(17,_),(9,_)] ?_
  iterate 9 refine s1_ ?_
  refine su_ [(0,_),(1,_),(2,_),(3,_),(6,_),(7,_),(8,_),(17,_),(9,_),(35,_),(36,_),(37,_)] ?_
  refine s1_ ?_
  refine AWP.loop (X:=Nat) (fun x=>[(1,.string s),(2,.int .i64 (m:Int)),(9,.string (seeW allK d.waits s (m:Int) base x)),(35,.slice pw d.waits.length cw),(36,.int .i64 d.waits.length),(37,.int .i64 x)]) (fun x=>S) (fun x=>x≤d.waits.length) (fun x=>d.waits.length-x) (0) ⟨rfl,rfl,rfl,rfl,rfl,rfl,trivial⟩ (less_) (Nat.zero_le _) ?_
  rintro i hi
  (try dsimp only at *)
  iterate 6 refine s1_ ?_
  refine AWP.condB rfl (fun hc=>?_) (fun hc=>?_)
  ·have hc:i<d.waits.length:=by have:=of_decide_eq_true hc;omega
   obtain ⟨bw,ow,rfl,hkw⟩:=hW3.resolve_left (fun e=>by rw [e] at hc;simp at hc)
   have hkwi:=hkw i hc
   have hst:=seeW_succ allK d.waits s (m:Int) base hc
   generalize d.waits[i]=w at *
   unfold wrF at hkwi
   by_cases q1:w.1=s
   ·iterate 8 refine s1_ ?_
    refine ARun.alloc (lit_lt rfl) ty_zero_83 ?_
    intro b11 f11
    have g11:=f11
    repeat ((with_reducible replace g11:=fresh_set g11);obtain ⟨g11,_⟩:=g11)
    refine nl_ ?_
    iterate 3 refine s1_ ?_
    refine su_ [(1,_),(2,_),(9,_),(35,_),(36,_),(37,_),(38,_),(11,_)] ?_
    iterate 5 refine s1_ ?_
    refine rC (Calm.bin rfl rfl (bin_bool (bin_str_eql _ _) (decide_eq_true q1))) ?_
    iterate 8 refine s1_ ?_
    refine su_ [(1,_),(2,_),(9,_),(35,_),(36,_),(37,_),(38,_),(11,_),(50,_)] ?_
    refine AWP.condB rfl (fun q2=>?_) (fun q2=>?_)
    ·have q2:=of_decide_eq_true q2
     iterate 7 refine s1_ ?_
     refine su_ [(1,_),(2,_),(9,_),(35,_),(36,_),(37,_),(38,_),(11,_),(50,_)] ?_
     iterate 5 refine s1_ ?_
     refine ⟨i+1,?_,?_,?_,?_⟩
     all_goals (try dsimp only)
     ·exact ⟨rfl,rfl,some_str (by rw [hst,if_pos ⟨q1,q2,rfl⟩]),rfl,rfl,rfl,trivial⟩
     ·exact less_
     ·exact hc
     ·omega
    ·have q2:=of_decide_eq_false q2
     iterate 8 refine s1_ ?_
     refine ⟨i+1,?_,?_,?_,?_⟩
     all_goals (try dsimp only)
     ·exact ⟨rfl,rfl,some_str (by rw [hst,if_neg (fun z=>q2 z.2.1)]),rfl,rfl,rfl,trivial⟩
     ·exact less_
     ·exact hc
     ·omega
   ·iterate 8 refine s1_ ?_
    refine ARun.alloc (lit_lt rfl) ty_zero_83 ?_
    intro b11 f11
    have g11:=f11
    repeat ((with_reducible replace g11:=fresh_set g11);obtain ⟨g11,_⟩:=g11)
    refine nl_ ?_
    iterate 3 refine s1_ ?_
    refine su_ [(1,_),(2,_),(9,_),(35,_),(36,_),(37,_),(38,_),(11,_)] ?_
    iterate 5 refine s1_ ?_
    refine rC (Calm.bin rfl rfl (bin_bool (bin_str_eql _ _) (decide_eq_false q1))) ?_
    iterate 8 refine s1_ ?_
    refine su_ [(1,_),(2,_),(9,_),(35,_),(36,_),(37,_),(38,_),(11,_),(50,_)] ?_
    refine cF_ ?_
    iterate 8 refine s1_ ?_
    refine ⟨i+1,?_,?_,?_,?_⟩
    all_goals (try dsimp only)
    ·exact ⟨rfl,rfl,some_str (by rw [hst,if_neg (fun z=>q1 z.1)]),rfl,rfl,rfl,trivial⟩
    ·exact less_
    ·exact hc
    ·omega
  ·have hc:i=d.waits.length:=by have:=of_decide_eq_false hc;omega
   subst hc
   iterate 12 refine s1_ ?_
   refine su_ [(1,_),(2,_),(9,_),(35,_),(36,_),(37,_),(38,_),(6,_),(7,_)] ?_
   refine s1_ ?_
   refine ⟨_,S,⟨_,_,rfl,⟨_,_,rfl,rfl,rfl⟩,rfl⟩,less_,?_⟩
   exact ⟨rfl,rfl⟩
end Go.Proofs.YtceikpipmcadmaaGreatDoor
namespace Go.Proofs.YtceikpipmcadmaaGreatDoor
open Go.RowKit
open Mv Disk
set_option maxRecDepth 4000
def nA : ByteArray := ⟨#[97]⟩
def nB : ByteArray := ⟨#[98]⟩
def nC : ByteArray := ⟨#[99]⟩
def oneS : ByteArray := bs (List.replicate 63 0) ++ ⟨#[49]⟩
def twoS : ByteArray := bs (List.replicate 63 0) ++ ⟨#[50]⟩
theorem one_size : oneS.size = 64 := by unfold oneS; rw [ByteArray.size_append, size_bs, List.length_replicate]; rfl
theorem two_size : twoS.size = 64 := by unfold twoS; rw [ByteArray.size_append, size_bs, List.length_replicate]; rfl
def L0 : D := ⟨4, [], [], -1, false⟩
/-- One extent of two sectors. -/
def L1 (s x : ByteArray) (w : List Wr) : D := ⟨4, [(s, x)], w, -1, false⟩
theorem right_L0 : Right L0 := ⟨by decide, by decide, by decide, by decide, ⟨fun x h => (by cases h), List.Pairwise.nil, by decide⟩, fun w h => (by cases h)⟩
theorem sec2 {s x : ByteArray} (hx : x.size = 128) : sec (s, x) = 2 := by unfold sec; simp only; rw [hx]
theorem right_L1 {s x : ByteArray} {w : List Wr} (hs : nm s) (hx : x.size = 128) (hw : ∀ y ∈ w, y.1 = s ∧ 0 ≤ y.2.1 ∧ y.2.1 < 2 ∧ y.2.2.size = 64) (hl : w.length ≤ 16384) : Right (L1 s x w) := by
 refine ⟨by show (0:Int)≤4;decide,by show (4:Int)≤16384;decide,hl,by show (-1:Int) ≤ -1;decide,⟨fun y hy=>?_,List.pairwise_singleton _ _,?_⟩,fun y hy=>?_⟩
 ·obtain rfl:y=(s,x):=by unfold L1 at hy;simpa using hy
  exact ⟨hs,by simp only;omega,by simp only;omega⟩
 ·show ((used [(s,x)] : Nat):Int)≤4
  simp only [used,sec2 hx];omega
 ·obtain ⟨h1,h2,h3,h4⟩:=hw y hy
  exact ⟨(s,x),by unfold L1;simp,h1.symm,h2,by rw [sec2 hx];exact h3,h4⟩
theorem open_ok {d : D} (h : Right d) (hd : d.down = false) : openD d = (d, 0) := by
 rcases openD_or d with ⟨ho,hR⟩ | ⟨ho,hR,hdn⟩ | ⟨ho,hR,hdn⟩
 ·exact absurd h hR
 ·rw [hd] at hdn;cases hdn
 ·exact ho
theorem opened_ok {d : D} (h : Right d) (hd : d.down = false) (f : D × Int) : opened d f = f := by unfold opened; rw [open_ok h hd, if_pos rfl]
theorem pos_one (s x : ByteArray) : pos [(s, x)] s = 0 := pos_no (lt_irrefl _)
theorem has_one (s x : ByteArray) : has [(s, x)] s = true := by simp [has]
theorem exOf_one (s x : ByteArray) : exOf [(s, x)] s = (s, x) := by unfold exOf; rw [pos_one]; rfl
theorem place_one {s x : ByteArray} {w : List Wr} (hx : x.size = 128) {k : Int} (h0 : 0 ≤ k) (h1 : k < 2) : placeD (L1 s x w) s k = (0, 0) := by
 unfold placeD L1
 simp only [has_one,exOf_one,sec2 hx,pos_one,if_true]
 rw [if_neg (by omega)]
theorem nmA : nm nA := ⟨by decide, by decide⟩
theorem zeros2 : (zeros 2).size = 128 := zeros_size 2
theorem l1 : opened L0 (newD L0 nA 2) = (L1 nA (zeros 2) [], 0) := by
 rw [opened_ok right_L0 rfl]
 unfold newD
 rw [if_neg (by rintro (h | h);exact h nmA;omega),if_neg (by simp [L0,has]),if_neg (by simp [L0,used])]
 rfl
def W1 : List Wr := [(nA, 0, oneS)]
def W2 : List Wr := [(nA, 0, oneS), (nA, 1, twoS)]
theorem right_1 (x : ByteArray) (hx : x.size = 128) : Right (L1 nA x []) := right_L1 nmA hx (fun y h => by cases h) (by decide)
theorem w2_ok : ∀ y ∈ W2, y.1 = nA ∧ 0 ≤ y.2.1 ∧ y.2.1 < 2 ∧ y.2.2.size = 64 := fun y h => by
 unfold W2 at h
 simp only [List.mem_cons,List.not_mem_nil,or_false] at h
 rcases h with rfl | rfl
 ·exact ⟨rfl,by decide,by decide,one_size⟩
 ·exact ⟨rfl,by decide,by decide,two_size⟩
theorem right_W2 : Right (L1 nA (zeros 2) W2) := right_L1 nmA zeros2 w2_ok (by decide)
theorem write_one {s x : ByteArray} {w : List Wr} (hx : x.size = 128) {k : Int} (h0 : 0 ≤ k) (h1 : k < 2) {y : ByteArray} (hy : y.size = 64) (hw : w.length < 16384) : writeD (L1 s x w) s k y = (L1 s x (w ++ [(s, k, y)]), 0) := by
 unfold writeD
 rw [place_one hx h0 h1,if_neg (by simp),if_neg (by omega),if_neg (by unfold L1;simp only;omega)]
 unfold fuseD addW L1
 rw [if_neg (by show ¬ (-1:Int)=0;decide),if_neg (by show ¬ (0:Int) < -1;decide)]
theorem l2 : opened (L1 nA (zeros 2) []) (writeD (L1 nA (zeros 2) []) nA 0 oneS) = (L1 nA (zeros 2) W1, 0) := by
 rw [opened_ok (right_1 _ zeros2) rfl,write_one zeros2 (by decide) (by decide) one_size (by decide)];rfl
def x4 : ByteArray := (doneX (keepK [false, true]) W2 (nA, zeros 2)).2
theorem l5 : crashD (L1 nA (zeros 2) W2) [false, true] = (L1 nA x4 [], 0) := by
 unfold crashD
 rw [chkD_yes right_W2,if_pos rfl];rfl
/-- Bounds of what comes in, of a disk that is right. -/
theorem dz_right {d : D} (h : Right d) (hf : d.fuse ≤ 9223372036854775807) : Dz d := by
 have hl:=right_len h
 refine ⟨by have:=h.s0;omega,by have:=h.s1;omega,by have:=h.fu;omega,hf,by omega,by have:=h.wl;omega,fun x hx=>?_,fun w hw=>?_⟩
 ·have h1:=right_sec h hx
  have h2:=(h.ex.ok x hx).1.2
  omega
 ·obtain ⟨x,hx,e,h0,h1,h2⟩:=h.wr w hw
  have h3:=right_sec h hx
  have h4:=(h.ex.ok x hx).1.2
  rw [e] at h4
  omega
end Go.Proofs.YtceikpipmcadmaaGreatDoor
namespace Go.Proofs.YtceikpipmcadmaaGreatDoor
open Go.RowKit
open Mv Disk
theorem used_map {f : Ext → Ext} {l : List Ext} (hf : ∀ x ∈ l, sec (f x) = sec x) : used (l.map f) = used l := by
 induction l with
 | nil=>rfl
 | cons x l ih=>simp only [List.map_cons,used];rw [hf x (by simp),ih (fun y hy=>hf y (by simp [hy]))]
theorem done_size {d : D} (hR : Right d) (kp : Nat → Bool) {x : Ext} (hx : x ∈ d.ext) : (doneX kp d.waits x).2.size = x.2.size := acc_size (kp := kp) (right_fit hR hx) d.waits.length (Nat.le_refl _)
theorem right_settle {d : D} (hR : Right d) (kp : Nat → Bool) : Right (settleD d kp) := by
 refine ⟨hR.s0,hR.s1,by unfold settleD;simp,hR.fu,⟨fun x hx=>?_,asc_map (f:=doneX kp d.waits) (fun _=>rfl) hR.ex.asc,?_⟩,fun w hw=>by unfold settleD at hw;cases hw⟩
 ·obtain ⟨y,hy,rfl⟩:=List.mem_map.1 hx
  have h:=hR.ex.ok y hy
  exact ⟨h.1,by rw [done_size hR kp hy];exact h.2.1,by rw [done_size hR kp hy];exact h.2.2⟩
 ·show ((used (d.ext.map (doneX kp d.waits)):Nat):Int)≤d.size
  rw [used_map (fun x hx=>by unfold sec;rw [done_size hR kp hx])]
  exact hR.ex.us
theorem right_fuse {d : D} (hR : Right d) {f : Int} (hf : -1 ≤ f) (b : Bool) : Right { d with fuse := f, down := b } := ⟨hR.s0, hR.s1, hR.wl, hf, hR.ex, hR.wr⟩
theorem right_add {d : D} {s data : ByteArray} {k : Int} (hR : Right d) (hp : (placeD d s k).2 = 0) (hs : data.size = 64) (hl : d.waits.length < 16384) : Right (addW d (s, k, data)) := by
 obtain ⟨hh,h0,h1⟩:=place0 hp
 obtain ⟨hm,hn⟩:=exOf_has hR.ex.asc hh
 refine ⟨hR.s0,hR.s1,by rw [add_len];omega,hR.fu,hR.ex,fun w hw=>?_⟩
 unfold addW at hw
 rcases List.mem_append.1 hw with h | h
 ·exact hR.wr w h
 ·obtain rfl:w=(s,k,data):=by simpa using h
  exact ⟨_,hm,hn,h0,h1,hs⟩
/-- A write that has no error. -/
theorem write_ok {d : D} {s data : ByteArray} {k : Int} (hf1 : d.fuse ≤ 9223372036854775807) (h : (opened d (writeD d s k data)).2 = 0) :
  Right d∧d.down=false∧(placeD d s k).2=0∧data.size=64∧d.waits.length<16384 ∧ ∃ f:Int,-1≤f∧f≤9223372036854775807∧opened d (writeD d s k data)=({ addW d (s,k,data) with fuse:=f },0):=by
 unfold opened at h ⊢
 rcases openD_or d with ⟨ho,hR⟩ | ⟨ho,hR,hdn⟩ | ⟨ho,hR,hdn⟩ <;> rw [ho] at h ⊢
 ·simp at h
 ·simp at h
 ·rw [if_pos rfl] at h ⊢
  unfold writeD at h ⊢
  by_cases q0:(placeD d s k).2≠0
  ·rw [if_pos q0] at h;exact absurd h q0
  ·rw [if_neg q0] at h ⊢
   by_cases q1:data.size≠64
   ·rw [if_pos q1] at h;simp at h
   ·rw [if_neg q1] at h ⊢
    by_cases q2:d.waits.length=16384
    ·rw [if_pos q2] at h;simp at h
    ·rw [if_neg q2] at h ⊢
     have hwl:=hR.wl
     have hfu:=hR.fu
     refine ⟨hR,hdn,by simpa using q0,by simpa using q1,by omega,?_⟩
     unfold fuseD at h ⊢
     by_cases q3:(addW d (s,k,data)).fuse=0
     ·rw [if_pos q3] at h;simp at h
     ·rw [if_neg q3] at h ⊢
      by_cases q4:0<(addW d (s,k,data)).fuse
      ·rw [if_pos q4];exact ⟨_,by have:0<d.fuse:=q4;show -1≤d.fuse-1;omega,by show d.fuse-1≤_;omega,rfl⟩
      ·rw [if_neg q4];exact ⟨d.fuse,hfu,hf1,rfl⟩
theorem place_settle {d : D} (hR : Right d) (kp : Nat → Bool) (s : ByteArray) (k : Int) : (placeD (settleD d kp) s k).2 = (placeD d s k).2 := by
 unfold placeD
 have e1:(settleD d kp).ext=d.ext.map (doneX kp d.waits):=rfl
 rw [e1,has_map (f:=doneX kp d.waits) (fun _=>rfl)]
 by_cases q:has d.ext s=true
 ·rw [if_pos q,if_pos q,exOf_map (f:=doneX kp d.waits) (fun _=>rfl) hR.ex.asc q]
  have hs:sec (doneX kp d.waits (exOf d.ext s))=sec (exOf d.ext s):=by unfold sec;rw [done_size hR kp (exOf_has hR.ex.asc q).1]
  rw [hs]
  split <;> rfl
 ·rw [if_neg q,if_neg q]
/-- What a disk that may be asked answers. -/
theorem read_ok {d : D} (hR : Right d) (hd : d.down = false) (s : ByteArray) (k : Int) : readO d s k = if (placeD d s k).2 ≠ 0 then (ByteArray.empty, (placeD d s k).2) else (seen d s k, 0) := by
 rw [readO_see]
 have e:placeO d s k=(placeD d s k).2:=by unfold placeO;rw [open_ok hR hd,if_neg (by simp)]
 rw [e]
theorem mem_ins {l : List Ext} {i : Nat} {x y : Ext} : y ∈ insAt l i x ↔ y = x ∨ y ∈ l := by
 unfold insAt
 rw [List.mem_append,List.mem_cons]
 constructor
 ·rintro (h | h | h)
  ·exact .inr (List.mem_of_mem_take h)
  ·exact .inl h
  ·exact .inr (List.mem_of_mem_drop h)
 ·rintro (h | h)
  ·exact .inr (.inl h)
  ·rw [← List.take_append_drop i l] at h
   rcases List.mem_append.1 h with h | h
   ·exact .inl h
   ·exact .inr (.inr h)
theorem used_ins (l : List Ext) (i : Nat) (x : Ext) : used (insAt l i x) = used l + sec x := by
 unfold insAt
 rw [used_append,used]
 have:used l=used (l.take i)+used (l.drop i):=by rw [← used_append,List.take_append_drop]
 omega
theorem asc_ins {l : List Ext} {s data : ByteArray} (ha : Asc l) (hn : has l s = false) : Asc (insAt l (pos l s) (s, data)) := by
 unfold Asc insAt
 rw [List.pairwise_append]
 have hlt:∀ a ∈ l.take (pos l s),lt a.1 s=true:=fun a h=>by
  obtain ⟨i,hi,rfl⟩:=List.getElem_of_mem h
  rw [List.getElem_take]
  simp only [List.length_take] at hi
  exact pos_lt (by omega) (by omega)
 have hgt:∀ b ∈ l.drop (pos l s),lt s b.1=true:=fun b h=>by
  obtain ⟨i,hi,rfl⟩:=List.getElem_of_mem h
  simp only [List.length_drop] at hi
  rw [List.getElem_drop]
  have h0:=pos_at (l:=l) (s:=s) (by omega)
  have h1:lt l[pos l s+i].1 s=false:=by
   rcases Nat.eq_zero_or_pos i with rfl | hp
   ·exact h0
   ·cases h2:lt l[pos l s+i].1 s with
    | false=>rfl
    | true=>have:=lt_trans (asc_get ha (i:=pos l s) (j:=pos l s+i) (by omega) (by omega)) h2;rw [h0] at this;cases this
  exact lt_tri (has_no.1 hn _ (List.getElem_mem _)) h1
 refine ⟨List.Pairwise.sublist (List.take_sublist _ _) ha,List.pairwise_cons.2 ⟨fun b h=>hgt b h,List.Pairwise.sublist (List.drop_sublist _ _) ha⟩,fun a h b h'=>?_⟩
 rcases List.mem_cons.1 h' with rfl | h'
 ·exact hlt a h
 ·exact lt_trans (hlt a h) (hgt b h')
theorem eright_ins {l : List Ext} {s data : ByteArray} {size : Int} (h : ERight l size) (hn : has l s = false) (hs : nm s) (h0 : data.size ≠ 0) (h1 : data.size % 64 = 0) {size' : Int} (hu : (used l : Int) + sec (s, data) ≤ size') : ERight (insAt l (pos l s) (s, data)) size' :=
 ⟨fun x hx=>by rcases mem_ins.1 hx with rfl | hx;exact ⟨hs,h0,h1⟩;exact h.ok x hx,asc_ins h.asc hn,by rw [used_ins];omega⟩
theorem drop_ins {l : List Ext} {s data : ByteArray} (ha : Asc l) (hn : has l s = false) : dropE (insAt l (pos l s) (s, data)) s = l := by
 unfold insAt
 have:∀ (a b:List Ext),dropE (a ++ b) s=dropE a s ++ dropE b s:=fun a b=>List.filter_append ..
 rw [this,dropE_cons_eq rfl,← this,List.take_append_drop,dropE_none hn]
/-- A disk that is made one more extent of. -/
theorem new_law {d : D} {s : ByteArray} {n : Int} (hR : Right d) (hdn : d.down = false) : ((newD d s n).2 ≠ 0 → (newD d s n).1 = d) ∧ ((newD d s n).2 = 0 → Right (newD d s n).1 ∧ (newD d s n).1.down = false ∧ (newD d s n).1.fuse = d.fuse ∧ (roomD (newD d s n).1) = (d.size - used d.ext - n, 0) ∧ opened (newD d s n).1 (freesD (newD d s n).1 (newD d s n).1 [s]) = (d, 0)) := by
 unfold newD
 by_cases q1 : ¬ nm s∨n<1
 ·rw [if_pos q1];exact ⟨fun _=>rfl,fun h=>by simp at h⟩
 ·rw [if_neg q1]
  have hs:nm s:=by
   by_cases h:nm s
   ·exact h
   ·exact absurd (.inl h) q1
  have hn1:1≤n:=by omega
  by_cases q2:has d.ext s=true
  ·rw [if_pos q2];exact ⟨fun _=>rfl,fun h=>by simp at h⟩
  ·rw [if_neg q2]
   by_cases q3:d.size-used d.ext<n
   ·rw [if_pos q3];exact ⟨fun _=>rfl,fun h=>by simp at h⟩
   ·rw [if_neg q3]
    refine ⟨fun h=>absurd rfl h,fun _=>?_⟩
    have hnn:has d.ext s=false:=by simpa using q2
    obtain ⟨m,rfl⟩ : ∃ m:Nat,n=m:=⟨n.toNat,by omega⟩
    simp only [Int.toNat_natCast]
    have hz:=zeros_size m
    have hsec:sec (s,zeros m)=m:=by unfold sec;simp only;rw [hz];omega
    have hRn:Right { d with ext:=insAt d.ext (pos d.ext s) (s,zeros m) }:=⟨hR.s0,hR.s1,hR.wl,hR.fu,eright_ins (size':=d.size) hR.ex hnn hs (by rw [hz];omega) (by rw [hz];omega) (by rw [hsec];omega),fun w hw=>by
     obtain ⟨x,hx,h⟩:=hR.wr w hw
     exact ⟨x,mem_ins.2 (.inr hx),h⟩⟩
    refine ⟨hRn,hdn,by trivial,?_,?_⟩
    ·unfold roomD
     rw [open_ok hRn hdn,if_neg (by simp)]
     simp only [used_ins,hsec]
     refine Prod.ext ?_ rfl
     show d.size-((used d.ext+m:Nat):Int)=d.size-(used d.ext:Int)-(m:Int)
     omega
    ·have hh:has (insAt d.ext (pos d.ext s) (s,zeros m)) s=true:=has_iff.2 ⟨(s,zeros m),mem_ins.2 (.inl rfl),rfl⟩
     rw [opened_ok hRn hdn,frees_cons,if_pos hh,free_less hRn hh]
     unfold lessD
     simp only [drop_ins hR.ex.asc hnn,filt_wait hR hnn]
     rfl
/-! ### Moved -/
end Go.Proofs.YtceikpipmcadmaaGreatDoor
namespace Go.Proofs.YtceikpipmcadmaaGreatDoor
namespace Crc

/-- A 32-bit word as the number that a slot holds. -/
def un (b : BitVec 32) : Int := (b.toNat : Int)
def v32 (x : Int) : BitVec 32 := BitVec.ofInt 32 x
theorem un_nonneg (b : BitVec 32) : 0 ≤ un b := Int.natCast_nonneg _
theorem un_le (b : BitVec 32) : un b ≤ 4294967295 := by have := b.isLt; unfold un; omega
theorem v32_un (b : BitVec 32) : v32 (un b) = b := by simp [v32, un]
theorem un_v32 {x : Int} (h0 : 0 ≤ x) (h1 : x ≤ 4294967295) : un (v32 x) = x := by
 obtain ⟨n,rfl⟩:=Int.eq_ofNat_of_zero_le h0
 simp only [v32,un,BitVec.ofInt_natCast,BitVec.toNat_ofNat];omega
theorem bits_xor (x y : Int) : bits .xor .u32 x y = un (v32 x ^^^ v32 y) := by
 show IntKind.u32.wrap ((v32 x ^^^ v32 y).toNat:Int)=un (v32 x ^^^ v32 y)
 generalize v32 x ^^^ v32 y=b
 have:=b.isLt
 rw [IntKind.wrap_u32];unfold un;omega
theorem bits_and (x y : Int) : bits .and .u32 x y = un (v32 x &&& v32 y) := by
 show IntKind.u32.wrap ((v32 x &&& v32 y).toNat:Int)=un (v32 x &&& v32 y)
 generalize v32 x &&& v32 y=b
 have:=b.isLt
 rw [IntKind.wrap_u32];unfold un;omega
theorem bits_or (x y : Int) : bits .or .u32 x y = un (v32 x ||| v32 y) := by
 show IntKind.u32.wrap ((v32 x ||| v32 y).toNat:Int)=un (v32 x ||| v32 y)
 generalize v32 x ||| v32 y=b
 have:=b.isLt
 rw [IntKind.wrap_u32];unfold un;omega
theorem un_half (a : BitVec 32) : un a / (2 : Int) = un (a >>> 1) := by
 simp only [un,BitVec.toNat_ushiftRight,Nat.shiftRight_eq_div_pow];omega
theorem un_256 (a : BitVec 32) : un a / (256 : Int) = un (a >>> 8) := by
 simp only [un,BitVec.toNat_ushiftRight,Nat.shiftRight_eq_div_pow];omega
theorem v32_mod (x : Int) : v32 (x % 4294967296) = v32 x := by
 apply BitVec.eq_of_toInt_eq
 simp only [v32,BitVec.toInt_ofInt]
 rw [show ((4294967296:Int))=((2 ^ 32:Nat):Int) from by decide]
 exact Int.emod_bmod _ _
theorem un_mod2 (a : BitVec 32) : un a % (2 : Int) = if a.getLsbD 0 then 1 else 0 := by
 simp only [un,BitVec.getLsbD,Nat.testBit_zero]
 split <;> rename_i h <;> simp at h <;> omega
theorem v32_neg (x : Int) : v32 (-x) = - v32 x := by simp [v32, BitVec.ofInt_neg]
theorem un_compl (a : BitVec 32) : 4294967295 - un a = un (~~~a) := by
 have:=a.isLt
 simp only [un,BitVec.toNat_not];omega

/-! ### One bit, n bits -/
def poly : BitVec 32 := 0xedb88320#32
def T (r : BitVec 32) : BitVec 32 := (r >>> 1) ^^^ (if r.getLsbD 0 then poly else 0#32)
def Tn : Nat → BitVec 32 → BitVec 32
  | 0, r => r
  | n + 1, r => T (Tn n r)

theorem T_xor (a b : BitVec 32) : T (a ^^^ b) = T a ^^^ T b := by
 unfold T
 rw [BitVec.ushiftRight_xor_distrib,BitVec.getLsbD_xor]
 have e:poly ^^^ poly=0#32:=by decide
 cases a.getLsbD 0 <;> cases b.getLsbD 0 <;> simp
 ·ac_rfl
 ·ac_rfl
 ·rw [show a >>> 1 ^^^ poly ^^^ (b >>> 1 ^^^ poly)=a >>> 1 ^^^ b >>> 1 ^^^ (poly ^^^ poly) from by ac_rfl,e,BitVec.xor_zero]
theorem Tn_xor (n : Nat) (a b : BitVec 32) : Tn n (a ^^^ b) = Tn n a ^^^ Tn n b := by
 induction n with
 | zero=>rfl
 | succ n ih=>simp only [Tn,ih,T_xor]
/-- Where the low bits are 0 nothing is added. -/
theorem Tn_low (n : Nat) (a : BitVec 32) (h : ∀ i, i < n → a.getLsbD i = false) : Tn n a = a >>> n := by
 induction n with
 | zero=>simp [Tn]
 | succ n ih =>
  rw [Tn,ih (fun i hi=>h i (by omega))]
  unfold T
  rw [BitVec.getLsbD_ushiftRight,h (n+0) (by omega)]
  simp only [Bool.false_eq_true,if_false,BitVec.xor_zero]
  rw [← BitVec.shiftRight_add]

/-! ### A byte -/
def b32 (b : UInt8) : BitVec 32 := BitVec.ofNat 32 b.toNat
theorem v32_byte (b : UInt8) : v32 (b.toNat : Int) = b32 b := by simp [v32, b32]
theorem b32_high (b : UInt8) (i : Nat) (hi : 8 ≤ i) : (b32 b).getLsbD i = false := by
 have:=b.toNat_lt
 simp only [b32,BitVec.getLsbD_ofNat]
 rw [Nat.testBit_lt_two_pow (Nat.lt_of_lt_of_le this (Nat.pow_le_pow_right (by decide) hi))]
 simp
theorem b32_shr8 (b : UInt8) : b32 b >>> 8 = 0#32 := by
 apply BitVec.eq_of_getLsbD_eq
 intro i _
 rw [BitVec.getLsbD_ushiftRight,b32_high b _ (by omega)];simp
def feed (r : BitVec 32) (b : UInt8) : BitVec 32 := Tn 8 (r ^^^ b32 b)
/-- The program's way: the low byte through the steps, the rest moved. -/
theorem feed_eq (r : BitVec 32) (b : UInt8) : (r >>> 8) ^^^ Tn 8 ((r ^^^ b32 b) &&& 255#32) = feed r b := by
 have hs:r ^^^ b32 b=((r ^^^ b32 b) &&& 255#32) ^^^ ((r ^^^ b32 b) &&& ~~~255#32):=by
  apply BitVec.eq_of_getLsbD_eq
  intro i hi
  simp only [BitVec.getLsbD_xor,BitVec.getLsbD_and,BitVec.getLsbD_not,hi,decide_true,Bool.true_and]
  cases (r.getLsbD i ^^ (b32 b).getLsbD i) <;> cases (255#32).getLsbD i <;> rfl
 unfold feed
 conv=>rhs;rw [hs,Tn_xor]
 rw [Tn_low 8 ((r ^^^ b32 b) &&& ~~~255#32)]
 ·have:((r ^^^ b32 b) &&& ~~~255#32) >>> 8=r >>> 8:=by
   apply BitVec.eq_of_getLsbD_eq
   intro i hi
   simp only [BitVec.getLsbD_ushiftRight,BitVec.getLsbD_and,BitVec.getLsbD_xor,BitVec.getLsbD_not,b32_high b (8+i) (by omega)]
   by_cases h:8+i<32
   ·have e:(255#32).getLsbD (8+i)=false:=by
     rw [BitVec.getLsbD_ofNat,show (255:Nat)=2 ^ 8-1 from rfl,Nat.testBit_two_pow_sub_one];simp
    rw [e];simp [h]
   ·have:r.getLsbD (8+i)=false:=BitVec.getLsbD_of_ge _ _ (by omega)
    simp [this]
  rw [this,BitVec.xor_comm]
 ·intro i hi
  simp only [BitVec.getLsbD_and,BitVec.getLsbD_not]
  have e:(255#32).getLsbD i=true:=by
   rw [BitVec.getLsbD_ofNat,show (255:Nat)=2 ^ 8-1 from rfl,Nat.testBit_two_pow_sub_one];simp;omega
  simp [e]
/-- The document's way: bit by bit, the byte's bits on the side. -/
def refBit (r : BitVec 32) (b : UInt8) (k : Nat) : BitVec 32 := Tn k (r ^^^ b32 b) ^^^ (b32 b >>> k)
theorem refBit_zero (r : BitVec 32) (b : UInt8) : refBit r b 0 = r := by simp [refBit, Tn, BitVec.xor_assoc]
theorem refBit_eight (r : BitVec 32) (b : UInt8) : refBit r b 8 = feed r b := by simp [refBit, feed, b32_shr8]
theorem refBit_succ (r : BitVec 32) (b : UInt8) (k : Nat) :
  (refBit r b k >>> 1) ^^^ (if (refBit r b k ^^^ (b32 b >>> k)).getLsbD 0 then poly else 0#32)=refBit r b (k+1):=by
 have e:refBit r b k ^^^ (b32 b >>> k)=Tn k (r ^^^ b32 b):=by simp [refBit,BitVec.xor_assoc]
 rw [e]
 unfold refBit
 rw [BitVec.ushiftRight_xor_distrib,Tn,T,BitVec.shiftRight_add]
 ac_rfl
/-! ### A text -/
def feeds (r : BitVec 32) (l : List UInt8) : BitVec 32 := l.foldl feed r
def more (sum : BitVec 32) (l : List UInt8) : BitVec 32 := ~~~ (feeds (~~~ sum) l)
def sums (l : List (List UInt8)) : BitVec 32 := l.foldl more 0#32
theorem feeds_append (r : BitVec 32) (a b : List UInt8) : feeds r (a ++ b) = feeds (feeds r a) b := List.foldl_append ..
theorem feeds_snoc (r : BitVec 32) (a : List UInt8) (b : UInt8) : feeds r (a ++ [b]) = feed (feeds r a) b := by rw [feeds_append]; rfl
theorem sums_snoc (l : List (List UInt8)) (x : List UInt8) : sums (l ++ [x]) = more (sums l) x := by simp [sums]
/-! ### A sum's bytes -/
def rev (x : BitVec 32) : BitVec 32 :=
  let y := ((x >>> 8) &&& 0xff00ff#32) ||| ((x &&& 0xff00ff#32) <<< 8)
  (y >>> 16) ||| (y <<< 16)
theorem un_shl (a : BitVec 32) (k : Nat) : un a * 2 ^ k % (4294967296 : Int) = un (a <<< k) := by
 simp only [un,BitVec.toNat_shiftLeft,Nat.shiftLeft_eq]
 rw [Int.natCast_emod,Int.natCast_mul]
 simp
theorem un_shr (a : BitVec 32) (k : Nat) : un a / 2 ^ k = un (a >>> k) := by
 simp only [un,BitVec.toNat_ushiftRight,Nat.shiftRight_eq_div_pow]
 simp
theorem un_low (a : BitVec 32) : un a % (256 : Int) = ((a.setWidth 8).toNat : Int) := by
 simp only [un,BitVec.toNat_setWidth];omega
theorem rev0 (x : BitVec 32) : (rev x >>> 24).setWidth 8 = x.setWidth 8 := by
 apply BitVec.eq_of_getLsbD_eq
 intro i hi
 unfold rev
 match i,hi with
 | 0,_ | 1,_ | 2,_ | 3,_ | 4,_ | 5,_ | 6,_ | 7,_=>simp
theorem rev1 (x : BitVec 32) : (rev x >>> 16).setWidth 8 = (x >>> 8).setWidth 8 := by
 apply BitVec.eq_of_getLsbD_eq
 intro i hi
 unfold rev
 match i,hi with
 | 0,_ | 1,_ | 2,_ | 3,_ | 4,_ | 5,_ | 6,_ | 7,_=>simp
theorem rev2 (x : BitVec 32) : (rev x >>> 8).setWidth 8 = (x >>> 16).setWidth 8 := by
 apply BitVec.eq_of_getLsbD_eq
 intro i hi
 unfold rev
 match i,hi with
 | 0,_ | 1,_ | 2,_ | 3,_ | 4,_ | 5,_ | 6,_ | 7,_=>simp
theorem rev3 (x : BitVec 32) : (rev x).setWidth 8 = (x >>> 24).setWidth 8 := by
 apply BitVec.eq_of_getLsbD_eq
 intro i hi
 unfold rev
 match i,hi with
 | 0,_ | 1,_ | 2,_ | 3,_ | 4,_ | 5,_ | 6,_ | 7,_=>simp
def tailS (b : BitVec 32) : ByteArray := strOfNums [un b % 256, un b / 256 % 256, un b / 65536 % 256, un b / 16777216]
theorem tailS_rev (b : BitVec 32) : strOfNums [un (rev b) / 16777216, un (rev b) / 65536 % 256, un (rev b) / 256 % 256, un (rev b) % 256] = tailS b := by
 have hr:=un_nonneg (rev b);have hb:=un_nonneg b;have hr':=un_le (rev b);have hb':=un_le b
 have e0:=congrArg (fun x:BitVec 8=>(x.toNat:Int)) (rev0 b)
 have e1:=congrArg (fun x:BitVec 8=>(x.toNat:Int)) (rev1 b)
 have e2:=congrArg (fun x:BitVec 8=>(x.toNat:Int)) (rev2 b)
 have e3:=congrArg (fun x:BitVec 8=>(x.toNat:Int)) (rev3 b)
 simp only [← un_low,← un_shr] at e0 e1 e2 e3
 unfold tailS
 congr 1
 simp only [List.cons.injEq,and_true]
 omega
theorem tailS_size (b : BitVec 32) : (tailS b).size = 4 := rfl
end Crc
end Go.Proofs.YtceikpipmcadmaaGreatDoor
namespace Go.Proofs.YtceikpipmcadmaaGreatDoor
open Go.RowKit
open Crc (un v32 Tn)


namespace Crc
theorem step_num (r : BitVec 32) : bits .xor .u32 (un r / 2) (bits .and .u32 3988292384 (-bits .and .u32 (un r) 1 % 4294967296)) = un (T r) := by
 rw [un_half,bits_and (un r) 1,v32_un,bits_and,v32_mod,v32_neg,v32_un,bits_xor,v32_un,v32_un]
 congr 1
 unfold T
 congr 1
 have e1:v32 1=1#32:=rfl
 have e2:v32 3988292384=poly:=rfl
 rw [e1,e2]
 have h:r &&& 1#32=if r.getLsbD 0 then 1#32 else 0#32:=by
  apply BitVec.eq_of_getLsbD_eq
  intro i hi
  rw [BitVec.getLsbD_and]
  cases i with
  | zero=>cases r.getLsbD 0 <;> simp
  | succ i =>
   have:(1#32).getLsbD (i+1)=false:=by simp [BitVec.getLsbD_one]
   rw [this]
   cases r.getLsbD 0 <;> simp
 rw [h]
 cases r.getLsbD 0 <;> decide
end Crc

set_option maxHeartbeats 400000 in
theorem crc_step (r : Int) (h0 : 0 ≤ r) (h1 : r ≤ 4294967295) (w : World) :
  Calls Tryz.prog 154 #[.int .u32 r] w fun e w'=>e = .returned (.int .u32 (un (Tn 8 (v32 r))))∧w=w':=by
 go_enter Tryz.func154,Tryz.ntmps154
 go_wp2
 go_loop [0,3] (fun v0 v3=>∃ (k:Int) (j:Nat),0≤k∧k≤4294967295∧j≤8∧v0 = .int .u32 k∧v3 = .int .i64 j∧Hid (k=un (Tn j (v32 r)))) (fun _ v3=>8-(intOf v3).toNat)
 case atStart=>exact ⟨r,0,h0,h1,by omega,rfl,rfl,(Crc.un_v32 h0 h1).symm⟩
 case round =>
  obtain ⟨k,j,hk0,hk1,hj,rfl,rfl,hk⟩:=hrel
  by_cases hlt:j<8
  ·go_wp2
   go_round
   case rel =>
    have hk':=hk.out
    refine ⟨un (Tn (j+1) (v32 r)),j+1,Crc.un_nonneg _,Crc.un_le _,by omega,?_,by go_num,rfl⟩
    rw [hk']
    exact val_int (Crc.step_num _)
   case measure=>simp [intOf];omega
  ·go_wp2
   go_ret
   have e:j=8:=by omega
   subst e
   exact ⟨ret_int hk.out,rfl⟩

namespace Crc
theorem feeds_take (r : BitVec 32) (s : ByteArray) (k : Nat) (h : k < s.size) : feeds r (s.data.toList.take (k + 1)) = feed (feeds r (s.data.toList.take k)) s[k] := by
 rw [take_snoc s k h,feeds_snoc]
theorem more_num (r : BitVec 32) (b : UInt8) : bits .xor .u32 (un r / 256) (un (Tn 8 (v32 (bits .and .u32 (bits .xor .u32 (un r) ((b.toNat : Int) % 4294967296)) 255)))) = un (feed r b) := by
 rw [un_256,bits_xor (un r),v32_un,v32_mod,v32_byte,bits_and,v32_un,v32_un,bits_xor,v32_un,v32_un]
 congr 1
 exact feed_eq r b
theorem not_num (r : Int) : bits .xor .u32 IntKind.u32.max r = un (~~~ v32 r) := by
 rw [bits_xor,show v32 IntKind.u32.max=BitVec.allOnes 32 from by decide,BitVec.allOnes_xor]
end Crc

set_option maxHeartbeats 400000 in
theorem crc_More (r : Int) (s : ByteArray) (hs : s.size ≤ maxLen) (h0 : 0 ≤ r) (h1 : r ≤ 4294967295) (w : World) :
  Calls Tryz.prog 119 #[.int .u32 r,.string s] w fun e w'=>e = .returned (.int .u32 (un (Crc.more (v32 r) s.data.toList)))∧w=w':=by
 unfold maxLen at hs
 go_enter Tryz.func119,Tryz.ntmps119
 go_wp2
 go_loop [5,11] (fun v5 v11=>∃ (k:Int) (j:Nat),0≤k∧k≤4294967295∧j≤s.size∧v5 = .int .u32 k∧v11 = .int .i64 j∧Hid (k=un (Crc.feeds (~~~ v32 r) (s.data.toList.take j)))) (fun _ v11=>s.size-(intOf v11).toNat)
 case atStart=>exact ⟨_,0,Crc.un_nonneg _,Crc.un_le _,by omega,val_int (Crc.not_num r),rfl,rfl⟩
 case round =>
  obtain ⟨k,j,hk0,hk1,hj,rfl,rfl,hk⟩:=hrel
  by_cases hlt:j<s.size
  ·go_wp2_with (go_at_call 154;refine (crc_step _ (by rw [Crc.bits_and];exact Crc.un_nonneg _) (by rw [Crc.bits_and];exact Crc.un_le _) _).mono ?_;rintro e w' ⟨rfl,rfl⟩)
   go_round
   case rel =>
    have hk':=hk.out
    refine ⟨_,j+1,Crc.un_nonneg _,Crc.un_le _,by omega,?_,by go_num,Lib.hid (by rw [Crc.feeds_take _ s j hlt])⟩
    rw [hk']
    exact val_int (Crc.more_num _ _)
   case measure=>simp [intOf];omega
  ·go_wp2
   go_ret
   have e:j=s.size:=by omega
   subst e
   refine ⟨ret_int ?_,rfl⟩
   rw [hk.out,take_all,Crc.not_num,Crc.v32_un];rfl

namespace Crc
theorem ref_bit (r : BitVec 32) (b : UInt8) (k : Nat) : bits .xor .u32 (un r) ((b.toNat : Int) / 2 ^ k) % 2 = if (r ^^^ (b32 b >>> k)).getLsbD 0 then 1 else 0 := by
 have e:((b.toNat:Int) / 2 ^ k)=un (b32 b >>> k):=by
  have:=b.toNat_lt
  simp only [un,b32,BitVec.toNat_ushiftRight,Nat.shiftRight_eq_div_pow,BitVec.toNat_ofNat]
  rw [Nat.mod_eq_of_lt (by omega)]
  simp
 rw [e,bits_xor,v32_un,v32_un,un_mod2]
end Crc

namespace Crc
theorem ref_bit' (r : BitVec 32) (b : UInt8) (k : Nat) : (bits .xor .u32 (un r) ((b.toNat : Int) / 2 ^ k % 4294967296)).tmod 2 = if (r ^^^ (b32 b >>> k)).getLsbD 0 then 1 else 0 := by
 have e:((b.toNat:Int) / 2 ^ k % 4294967296)=((b.toNat:Int) / 2 ^ k):=by
  have h:=b.toNat_lt
  have h2:b.toNat / 2 ^ k≤b.toNat:=Nat.div_le_self _ _
  rw [show (b.toNat:Int) / 2 ^ k=((b.toNat / 2 ^ k:Nat):Int) from by simp]
  generalize b.toNat / 2 ^ k=m at h2
  omega
 rw [e,Int.tmod_eq_emod_of_nonneg (by rw [bits_xor];exact un_nonneg _),ref_bit]
theorem ref_odd (r : BitVec 32) (b : UInt8) (k : Nat) (h : ((bits .xor .u32 (un (refBit r b k)) ((b.toNat : Int) / 2 ^ k % 4294967296)).tmod 2 == 1) = true) :
  bits .xor .u32 (un (refBit r b k) / 2) 3988292384=un (refBit r b (k+1)):=by
 rw [ref_bit'] at h
 rw [un_half,bits_xor,v32_un,show v32 3988292384=poly from rfl,← refBit_succ]
 split at h <;> rename_i hb
 ·rw [if_pos hb]
 ·simp at h
theorem ref_even (r : BitVec 32) (b : UInt8) (k : Nat) (h : ((bits .xor .u32 (un (refBit r b k)) ((b.toNat : Int) / 2 ^ k % 4294967296)).tmod 2 == 1) = false) :
  un (refBit r b k) / (2:Int)=un (refBit r b (k+1)):=by
 rw [ref_bit'] at h
 rw [un_half,← refBit_succ]
 split at h <;> rename_i hb
 ·simp at h
 ·rw [if_neg hb,BitVec.xor_zero]
theorem ref_start (r : Int) (h0 : 0 ≤ r) (h1 : r ≤ 4294967295) : 4294967295 - r = un (~~~ v32 r) := by
 rw [← un_compl,un_v32 h0 h1]
end Crc

set_option maxHeartbeats 400000 in
theorem ref_More (r : Int) (s : ByteArray) (hs : s.size ≤ maxLen) (h0 : 0 ≤ r) (h1 : r ≤ 4294967295) (w : World) :
  Calls Tryz.prog 120 #[.int .u32 r,.string s] w fun e w'=>e = .returned (.int .u32 (un (Crc.more (v32 r) s.data.toList)))∧w=w':=by
 unfold maxLen at hs
 go_enter Tryz.func120,Tryz.ntmps120
 go_wp2
 go_loop [5,6] (fun v5 v6=>∃ (k:Int) (j:Nat),0≤k∧k≤4294967295∧j≤s.size∧v5 = .int .u32 k∧v6 = .int .i64 j∧Hid (k=un (Crc.feeds (~~~ v32 r) (s.data.toList.take j)))) (fun _ v6=>s.size-(intOf v6).toNat)
 case atStart=>exact ⟨4294967295-r,0,by omega,by omega,by omega,rfl,rfl,Crc.ref_start r h0 h1⟩
 case round =>
  obtain ⟨k,j,hk0,hk1,hj,rfl,rfl,hk⟩:=hrel
  by_cases hlt:j<s.size
  ·go_wp2
   go_loop [5,7] (fun v5 v7=>∃ (q:Int) (i:Nat),0≤q∧q≤4294967295∧i≤8∧v5 = .int .u32 q∧v7 = .int .i64 i∧Hid (q=un (Crc.refBit (v32 k) s[j] i))) (fun _ v7=>8-(intOf v7).toNat)
   case atStart=>exact ⟨k,0,hk0,hk1,by omega,rfl,rfl,by rw [Crc.refBit_zero,Crc.un_v32 hk0 hk1];exact rfl⟩
   case round =>
    obtain ⟨q,i,hq0,hq1,hi,rfl,rfl,hq⟩:=hrel
    by_cases hl:i<8
    ·go_wp2
     all_goals
      go_round
      case rel =>
       have hq':=hq.out
       refine ⟨un (Crc.refBit (v32 k) s[j] (i+1)),i+1,Crc.un_nonneg _,Crc.un_le _,by omega,?_,by go_num,rfl⟩
       subst hq'
       first | exact val_int (Crc.ref_odd _ _ _ ‹_›) | exact val_int (Crc.ref_even _ _ _ ‹_›)
      case measure=>simp [intOf];omega
    ·go_wp2
     go_round
     case rel =>
      have e:i=8:=by omega
      have hq':=hq.out
      have hk':=hk.out
      subst e
      refine ⟨q,j+1,hq0,hq1,by omega,rfl,by go_num,Lib.hid ?_⟩
      rw [hq',hk',Crc.refBit_eight,Crc.feeds_take _ s j hlt,Crc.v32_un]
     case measure=>simp [intOf];omega
  ·go_wp2
   go_ret
   have e:j=s.size:=by omega
   subst e
   refine ⟨ret_int ?_,rfl⟩
   rw [hk.out,take_all,Crc.un_compl];rfl

end Go.Proofs.YtceikpipmcadmaaGreatDoor
namespace Go.Proofs.YtceikpipmcadmaaGreatDoor
open Go.RowKit
open Crc (un v32 Tn)

/-! ### Texts in a row -/
def lists (ss : List ByteArray) : List (List UInt8) := ss.map fun s => s.data.toList
theorem lists_snoc (ss : List ByteArray) (j : Nat) (h : j < ss.length) : lists (ss.take (j + 1)) = lists (ss.take j) ++ [(strAt ss j).data.toList] := by
 unfold lists
 rw [List.take_succ_eq_append_getElem h,List.map_append]
 simp [strAt,List.getD,List.getElem?_eq_getElem h]
set_option maxHeartbeats 400000 in
theorem crc_Sum (a : Option Addr) (n m : Nat) (ss : List ByteArray) (w : World) (h : IsStrs w a n ss) :
  Calls Tryz.prog 73 #[.slice a n m] w fun e w'=>e = .returned (.int .u32 (un (Crc.sums (lists ss))))∧w=w':=by
 obtain ⟨hl,hm,hc,hs⟩:=h
 unfold maxLen at hm
 go_enter Tryz.func73,Tryz.ntmps73
 go_wp2
 go_loop [3,8] (fun v3 v8=>∃ (k:Int) (j:Nat),0≤k∧k≤4294967295∧j≤n∧v3 = .int .u32 k∧v8 = .int .i64 j∧Hid (k=un (Crc.sums (lists (ss.take j))))) (fun _ v8=>n-(intOf v8).toNat)
 case atStart=>exact ⟨0,0,by omega,by omega,by omega,rfl,rfl,Lib.hid rfl⟩
 case round =>
  obtain ⟨k,j,hk0,hk1,hj,rfl,rfl,hk⟩:=hrel
  by_cases hlt:j<n
  ·rcases hc with hc | ⟨b,off,rfl,hc⟩
   ·omega
   have hcell:=hc j hlt
   have hsz:=strAt_size ss j (by omega) hs
   have HL:=Lib.hid hl
   clear hl hc
   go_wp2_with (go_at_call 119;refine (crc_More _ _ hsz hk0 hk1 _).mono ?_;rintro e w' ⟨rfl,rfl⟩)
   go_round
   case rel =>
    have hk':=hk.out
    refine ⟨_,j+1,Crc.un_nonneg _,Crc.un_le _,by omega,rfl,by go_num,Lib.hid ?_⟩
    rw [lists_snoc ss j (by rw [HL.out];exact hlt),Crc.sums_snoc,hk',Crc.v32_un]
   case measure=>simp [intOf];omega
  ·have HL:=Lib.hid hl
   clear hl hc
   go_wp2
   go_ret
   have e:j=n:=by omega
   subst e
   refine ⟨ret_int ?_,rfl⟩
   rw [hk.out,List.take_of_length_le (by rw [HL.out];exact Nat.le_refl _)]

set_option maxHeartbeats 400000 in
theorem ref_Sum (a : Option Addr) (n m : Nat) (ss : List ByteArray) (w : World) (h : IsStrs w a n ss) :
  Calls Tryz.prog 77 #[.slice a n m] w fun e w'=>e = .returned (.int .u32 (un (Crc.sums (lists ss))))∧w=w':=by
 obtain ⟨hl,hm,hc,hs⟩:=h
 unfold maxLen at hm
 go_enter Tryz.func77,Tryz.ntmps77
 go_wp2
 go_loop [3,8] (fun v3 v8=>∃ (k:Int) (j:Nat),0≤k∧k≤4294967295∧j≤n∧v3 = .int .u32 k∧v8 = .int .i64 j∧Hid (k=un (Crc.sums (lists (ss.take j))))) (fun _ v8=>n-(intOf v8).toNat)
 case atStart=>exact ⟨0,0,by omega,by omega,by omega,rfl,rfl,Lib.hid rfl⟩
 case round =>
  obtain ⟨k,j,hk0,hk1,hj,rfl,rfl,hk⟩:=hrel
  by_cases hlt:j<n
  ·rcases hc with hc | ⟨b,off,rfl,hc⟩
   ·omega
   have hcell:=hc j hlt
   have hsz:=strAt_size ss j (by omega) hs
   have HL:=Lib.hid hl
   clear hl hc
   go_wp2_with (go_at_call 120;refine (ref_More _ _ hsz hk0 hk1 _).mono ?_;rintro e w' ⟨rfl,rfl⟩)
   go_round
   case rel =>
    have hk':=hk.out
    refine ⟨_,j+1,Crc.un_nonneg _,Crc.un_le _,by omega,rfl,by go_num,Lib.hid ?_⟩
    rw [lists_snoc ss j (by rw [HL.out];exact hlt),Crc.sums_snoc,hk',Crc.v32_un]
   case measure=>simp [intOf];omega
  ·have HL:=Lib.hid hl
   clear hl hc
   go_wp2
   go_ret
   have e:j=n:=by omega
   subst e
   refine ⟨ret_int ?_,rfl⟩
   rw [hk.out,List.take_of_length_le (by rw [HL.out];exact Nat.le_refl _)]


/-! ### A sum's bytes -/
theorem bits_Rev (r : Int) (h0 : 0 ≤ r) (h1 : r ≤ 4294967295) (w : World) :
  Calls Tryz.prog 117 #[.int .u32 r] w fun e w'=>e = .returned (.int .u32 (un (Crc.rev (v32 r))))∧w=w':=by
 go_enter Tryz.func117,Tryz.ntmps117
 go_wp2_with fail
 go_ret
 refine ⟨ret_int ?_,rfl⟩
 obtain ⟨b,rfl⟩ : ∃ b,r=un b:=⟨v32 r,(Crc.un_v32 h0 h1).symm⟩
 have e1:=fun b=>Crc.un_shl b 8
 have e2:=fun b=>Crc.un_shl b 16
 have e3:=fun b=>Crc.un_shr b 16
 simp only [Int.reducePow] at e1 e2 e3
 simp only [Crc.un_256,Crc.bits_and,e1,e2,e3,Crc.bits_or,Crc.v32_un]
 rfl


theorem conv4 (w : World) (x0 x1 x2 x3 : Int) :
  (convert 61 9 (.slice (some ⟨w.heap.size,0,none⟩) 4 4)).run Tryz.prog (w.alloc (.cells #[.int .u8 x0,.int .u8 x1,.int .u8 x2,.int .u8 x3] 5)) =
   .ok (.string (strOfNums [x0,x1,x2,x3])) (w.alloc (.cells #[.int .u8 x0,.int .u8 x1,.int .u8 x2,.int .u8 x3] 5)):=by
 refine run_convert_bytes_arg _ 61 5 Tryz.underlying61 Tryz.underlying5 w.heap.size 0 4 4 [x0,x1,x2,x3] rfl (fun i hi=>?_) 9 Tryz.underlying9
 match i,hi with
 | 0,_ | 1,_ | 2,_ | 3,_=>simp [go_sem]
set_option maxHeartbeats 400000 in
theorem ref_tail (r : Int) (h0 : 0 ≤ r) (h1 : r ≤ 4294967295) (w : World) :
  Calls Tryz.prog 104 #[.int .u32 r] w fun e w'=>e = .returned (.string (Crc.tailS (v32 r)))∧Below w.heap.size w w':=by
 have kc:=fun w x0 x1 x2 x3=>conv4 w x0 x1 x2 x3
 go_enter Tryz.func104,Tryz.ntmps104
 go_wp2_with fail
 go_ret
 exact ⟨by rw [← Crc.un_v32 h0 h1];simp only [Crc.v32_un];rfl,(Below.refl _ _).alloc (Nat.le_refl _) _⟩
set_option maxHeartbeats 400000 in
theorem crc_Tail (r : Int) (h0 : 0 ≤ r) (h1 : r ≤ 4294967295) (w : World) :
  Calls Tryz.prog 71 #[.int .u32 r] w fun e w'=>e = .returned (.string (Crc.tailS (v32 r)))∧Below w.heap.size w w':=by
 have kc:=fun w x0 x1 x2 x3=>conv4 w x0 x1 x2 x3
 go_enter Tryz.func71,Tryz.ntmps71
 have b0:=Crc.un_nonneg (Crc.rev (v32 r))
 have b1:=Crc.un_le (Crc.rev (v32 r))
 go_wp2_with (go_at_call 117;refine (bits_Rev r h0 h1 _).mono ?_;rintro e w' ⟨rfl,rfl⟩)
 go_ret
 exact ⟨by rw [← Crc.tailS_rev];rfl,(Below.refl _ _).alloc (Nat.le_refl _) _⟩

theorem ref_tail' (b : BitVec 32) (w : World) : Calls Tryz.prog 104 #[.int .u32 (un b)] w fun e w' => e = .returned (.string (Crc.tailS b)) ∧ Below w.heap.size w w' := by
 have h:=ref_tail (un b) (Crc.un_nonneg _) (Crc.un_le _) w
 rwa [Crc.v32_un] at h
theorem crc_Tail' (b : BitVec 32) (w : World) : Calls Tryz.prog 71 #[.int .u32 (un b)] w fun e w' => e = .returned (.string (Crc.tailS b)) ∧ Below w.heap.size w w' := by
 have h:=crc_Tail (un b) (Crc.un_nonneg _) (Crc.un_le _) w
 rwa [Crc.v32_un] at h
/-- A text's sum. -/
def sumOf (s : ByteArray) : BitVec 32 := Crc.more 0#32 s.data.toList
theorem crc_Sum1 (b off n m : Nat) (s : ByteArray) (W : World) (hn : n = 1) (hs : s.size ≤ maxLen) (h : W.cell? ⟨b, off, none⟩ = some (.string s)) :
  Calls Tryz.prog 73 #[.slice (some ⟨b,off,none⟩) n m] W fun e w'=>e = .returned (.int .u32 (un (sumOf s)))∧W=w':=by
 subst hn;exact crc_Sum _ _ _ [s] _ (isStrs_one _ _ _ _ hs h)
theorem ref_Sum1 (b off n m : Nat) (s : ByteArray) (W : World) (hn : n = 1) (hs : s.size ≤ maxLen) (h : W.cell? ⟨b, off, none⟩ = some (.string s)) :
  Calls Tryz.prog 77 #[.slice (some ⟨b,off,none⟩) n m] W fun e w'=>e = .returned (.int .u32 (un (sumOf s)))∧W=w':=by
 subst hn;exact ref_Sum _ _ _ [s] _ (isStrs_one _ _ _ _ hs h)
/-- A frame, and its opening. -/
def frameS (s : ByteArray) : ByteArray × Int := if 65536 < s.size then (ByteArray.empty, 1) else (s ++ Crc.tailS (sumOf s), 0)
def body (f : ByteArray) : ByteArray := f.extract 0 (f.size - 4)
def tailOf (f : ByteArray) : ByteArray := f.extract (f.size - 4) f.size
def fits (f : ByteArray) : Bool := (Crc.tailS (sumOf (body f))).toList == (tailOf f).toList
def openS (f : ByteArray) : ByteArray × Int :=
  if f.size < 4 then (ByteArray.empty, 5) else if 65540 < f.size then (ByteArray.empty, 1) else if fits f then (body f, 0) else (ByteArray.empty, 6)

set_option maxHeartbeats 400000 in
theorem crc_Frame (s : ByteArray) (hs : s.size ≤ maxLen) (w : World) :
  Calls Tryz.prog 139 #[.string s] w fun e w'=>e = .returned (.tuple #[.string (frameS s).1,.int .i64 (frameS s).2])∧Below w.heap.size w w':=by
 have hs':=hs
 unfold maxLen at hs'
 by_cases hk:65536<s.size
 ·go_enter Tryz.func139,Tryz.ntmps139
  go_wp2_with fail
  go_ret2
  exact ⟨by simp only [frameS,if_pos hk];rfl,Below.refl _ _⟩
 ·have q:=Nat.le_of_eq (Crc.tailS_size (sumOf s))
  go_enter Tryz.func139,Tryz.ntmps139
  go_wp2_with (first | (go_at_call 73;refine (crc_Sum1 _ _ _ _ _ _ rfl hs (by simp [go_sem])).mono ?_;rintro e w' ⟨rfl,rfl⟩) | (go_at_call 71;refine (crc_Tail' _ _).mono ?_;rintro e w' ⟨rfl,hb⟩))
  go_ret2
  exact ⟨by simp only [frameS,if_neg hk];rfl,below_call ((Below.refl _ _).alloc (Nat.le_refl _) _) hb (by simp)⟩

set_option maxHeartbeats 400000 in
theorem ref_Frame (s : ByteArray) (hs : s.size ≤ maxLen) (w : World) :
  Calls Tryz.prog 146 #[.string s] w fun e w'=>e = .returned (.tuple #[.string (frameS s).1,.int .i64 (frameS s).2])∧Below w.heap.size w w':=by
 have hs':=hs
 unfold maxLen at hs'
 by_cases hk:65536<s.size
 ·go_enter Tryz.func146,Tryz.ntmps146
  go_wp2_with fail
  go_ret2
  exact ⟨by simp only [frameS,if_pos hk];rfl,Below.refl _ _⟩
 ·have q:=Nat.le_of_eq (Crc.tailS_size (sumOf s))
  go_enter Tryz.func146,Tryz.ntmps146
  go_wp2_with (first | (go_at_call 77;refine (ref_Sum1 _ _ _ _ _ _ rfl hs (by simp [go_sem])).mono ?_;rintro e w' ⟨rfl,rfl⟩) | (go_at_call 104;refine (ref_tail' _ _).mono ?_;rintro e w' ⟨rfl,hb⟩))
  go_ret2
  exact ⟨by simp only [frameS,if_neg hk];rfl,below_call ((Below.refl _ _).alloc (Nat.le_refl _) _) hb (by simp)⟩

end Go.Proofs.YtceikpipmcadmaaGreatDoor
namespace Go.Proofs.YtceikpipmcadmaaGreatDoor
open Go.RowKit
open Crc (un v32 Tn)

set_option maxHeartbeats 1000000 in
theorem crc_Open (s : ByteArray) (hs : s.size ≤ maxLen) (w : World) :
  Calls Tryz.prog 123 #[.string s] w fun e w'=>e = .returned (.tuple #[.string (openS s).1,.int .i64 (openS s).2])∧Below w.heap.size w w':=by
 have hs':=hs
 unfold maxLen at hs'
 by_cases hk:s.size<4
 ·go_enter Tryz.func123,Tryz.ntmps123
  go_wp2_with fail
  go_ret2
  exact ⟨by simp only [openS,if_pos hk];rfl,Below.refl _ _⟩
 by_cases hk2:65540<s.size
 ·go_enter Tryz.func123,Tryz.ntmps123
  go_wp2_with fail
  go_ret2
  exact ⟨by simp only [openS,if_neg hk,if_pos hk2];rfl,Below.refl _ _⟩
 have q1:(0:Int)≤(s.size:Int)-4:=by omega
 have q2:(s.size:Int)-4≤(s.size:Int):=by omega
 have q3:((s.size:Int)-4).toNat=s.size-4:=by omega
 have q4:(4:Int)≤(s.size:Int):=by omega
 have q5:(s.extract 0 (s.size-4)).size≤maxLen:=by rw [ByteArray.size_extract];unfold maxLen;omega
 have q6:IntKind.i64.wrap ((s.size:Int)-4)=(s.size:Int)-4:=IntWalk.i64_in _ (by omega)
 by_cases hf:fits s=true
 all_goals
  have hf':=hf
  simp only [fits,body,tailOf,Bool.not_eq_true] at hf'
  go_enter Tryz.func123,Tryz.ntmps123
  go_wp2_with fail
  go_region_held3 (fun _=>True) (trivial) (first | (go_at_call 73;go_must (refine (crc_Sum1 _ _ _ _ _ _ rfl q5 (by simp [go_sem])).mono ?_);rintro e w' ⟨rfl,rfl⟩) | (go_at_call 71;refine (crc_Tail' _ _).mono ?_;rintro e w' ⟨rfl,hb⟩))
  go_wp2_with fail
  go_ret2
  exact ⟨by simp only [openS,if_neg hk,if_neg hk2,hf];rfl,below_call (((Below.refl _ _).alloc (Nat.le_refl _) _).drew) hb (by simp)⟩

set_option maxHeartbeats 1000000 in
theorem ref_Open (s : ByteArray) (hs : s.size ≤ maxLen) (w : World) :
  Calls Tryz.prog 52 #[.string s] w fun e w'=>e = .returned (.tuple #[.string (openS s).1,.int .i64 (openS s).2])∧Below w.heap.size w w':=by
 have hs':=hs
 unfold maxLen at hs'
 by_cases hk:s.size<4
 ·go_enter Tryz.func52,Tryz.ntmps52
  go_wp2_with fail
  go_ret2
  exact ⟨by simp only [openS,if_pos hk];rfl,Below.refl _ _⟩
 by_cases hk2:65540<s.size
 ·go_enter Tryz.func52,Tryz.ntmps52
  go_wp2_with fail
  go_ret2
  exact ⟨by simp only [openS,if_neg hk,if_pos hk2];rfl,Below.refl _ _⟩
 have q1:(0:Int)≤(s.size:Int)-4:=by omega
 have q2:(s.size:Int)-4≤(s.size:Int):=by omega
 have q3:((s.size:Int)-4).toNat=s.size-4:=by omega
 have q4:(4:Int)≤(s.size:Int):=by omega
 have q5:(s.extract 0 (s.size-4)).size≤maxLen:=by rw [ByteArray.size_extract];unfold maxLen;omega
 have q6:IntKind.i64.wrap ((s.size:Int)-4)=(s.size:Int)-4:=IntWalk.i64_in _ (by omega)
 by_cases hf:fits s=true
 all_goals
  have hf':=hf
  simp only [fits,body,tailOf,Bool.not_eq_true] at hf'
  go_enter Tryz.func52,Tryz.ntmps52
  go_wp2_with fail
  go_region_held3 (fun _=>True) (trivial) (first | (go_at_call 77;go_must (refine (ref_Sum1 _ _ _ _ _ _ rfl q5 (by simp [go_sem])).mono ?_);rintro e w' ⟨rfl,rfl⟩) | (go_at_call 104;refine (ref_tail' _ _).mono ?_;rintro e w' ⟨rfl,hb⟩))
  go_wp2_with fail
  go_ret2
  exact ⟨by simp only [openS,if_neg hk,if_neg hk2,hf];rfl,below_call (((Below.refl _ _).alloc (Nat.le_refl _) _).drew) hb (by simp)⟩

end Go.Proofs.YtceikpipmcadmaaGreatDoor
namespace Go.Proofs.YtceikpipmcadmaaGreatDoor
/-! ### Operators on natural numbers -/
theorem or_nat64 (a b : Nat) (ha : a < 18446744073709551616) (hb : b < 18446744073709551616) : bits .or .u64 (a : Int) (b : Int) = ((a ||| b : Nat) : Int) := by
 have h:a ||| b<2 ^ 64:=Nat.or_lt_two_pow (by omega) (by omega)
 show IntKind.u64.wrap (((BitVec.ofInt 64 (a:Int)) ||| (BitVec.ofInt 64 (b:Int))).toNat:Int)=_
 rw [BitVec.ofInt_natCast,BitVec.ofInt_natCast,BitVec.toNat_or,BitVec.toNat_ofNat,BitVec.toNat_ofNat,Nat.mod_eq_of_lt (by omega),Nat.mod_eq_of_lt (by omega)]
 exact IntWalk.u64_in _ (by omega)
theorem or_join_nat (q y k : Nat) (hy : y < 2 ^ k) : y ||| q * 2 ^ k = q * 2 ^ k + y := by
 rw [Nat.or_comm,Nat.mul_comm q,Nat.two_pow_add_eq_or_of_lt hy]
theorem size_list (s : ByteArray) : s.size = s.data.toList.length := (Array.length_toList (xs := s.data)).symm
theorem u8_nat (x : Nat) : IntKind.u8.wrap (x : Int) = nb (UInt8.ofNat x) := by
 rw [IntKind.wrap_u8];unfold nb;rw [UInt8.toNat_ofNat'];omega
namespace Num
abbrev top : Nat := 1099511627776
/-- A number's five bytes. -/
def five (n : Nat) : List UInt8 := [UInt8.ofNat (n / 4294967296), UInt8.ofNat (n / 16777216), UInt8.ofNat (n / 65536), UInt8.ofNat (n / 256), UInt8.ofNat n]
theorem five_length (n : Nat) : (five n).length = 5 := rfl
/-- Bytes read as a number, the big end first. -/
def ofB (l : List UInt8) : Nat := l.foldl (fun a b => 256 * a + b.toNat) 0
theorem ofB_snoc (l : List UInt8) (c : UInt8) : ofB (l ++ [c]) = 256 * ofB l + c.toNat := by simp [ofB]
theorem ofB_take (l : List UInt8) (k : Nat) (h : k < l.length) : ofB (l.take (k + 1)) = 256 * ofB (l.take k) + (at8 l k).toNat := by
 rw [List.take_succ_eq_append_getElem h,ofB_snoc,at8_get _ _ h]
theorem ofB_lt' (l : List UInt8) (a : Nat) : l.foldl (fun a b => 256 * a + b.toNat) a < (a + 1) * 256 ^ l.length := by
 induction l generalizing a with
 | nil=>simp
 | cons c l ih =>
  have:=ih (256*a+c.toNat)
  have hc:=c.toNat_lt
  rw [List.foldl_cons,List.length_cons,Nat.pow_succ,Nat.mul_comm (256 ^ l.length) 256,← Nat.mul_assoc]
  exact Nat.lt_of_lt_of_le this (Nat.mul_le_mul_right _ (by omega))
theorem ofB_lt (l : List UInt8) : ofB l < 256 ^ l.length := by have := ofB_lt' l 0; simpa [ofB] using this
theorem ofB_le4 (l : List UInt8) (h : l.length ≤ 4) : ofB l < 4294967296 := by
 have h1:=ofB_lt l
 have h2:256 ^ l.length≤256 ^ 4:=Nat.pow_le_pow_right (by decide) h
 omega
theorem ofB_small (l : List UInt8) (k : Nat) (h : k ≤ 4) : ofB (l.take k) < 4294967296 := ofB_le4 _ (by rw [List.length_take]; omega)
theorem ofB_five (n : Nat) (h : n < top) : ofB (five n) = n := by
 simp only [ofB,five,List.foldl_cons,List.foldl_nil,UInt8.toNat_ofNat']
 unfold top at h;omega
def two (s : ByteArray) (e : Int) : Value := .tuple #[.string s, .int .i64 e]
/-- A record of numbers. -/
def recB (l : List Nat) : List UInt8 := l.flatMap five
theorem recB_length (l : List Nat) : (recB l).length = 5 * l.length := by
 induction l with
 | nil=>rfl
 | cons x l ih=>simp only [recB,List.flatMap_cons,List.length_append,five_length,List.length_cons] at ih ⊢;omega
theorem recB_snoc (l : List Nat) (x : Nat) : recB (l ++ [x]) = recB l ++ five x := by simp [recB]
def recOK (l : List Nat) : Bool := 1 ≤ l.length && l.length ≤ 8 && l.all (· < top)
def recP (l : List Nat) : ByteArray × Int := if recOK l then (bs (recB l), 0) else (ByteArray.empty, 1)
def pairV (p : ByteArray × Int) : Value := two p.1 p.2
/-- Short bytes. -/
def shortL : Nat → Nat → List UInt8
  | 0, n => [UInt8.ofNat n]
  | f + 1, n => if n < 128 then [UInt8.ofNat n] else UInt8.ofNat (n % 128 + 128) :: shortL f (n / 128)
/-- Records read. -/
def nrow (l : List UInt8) (w p : Nat) : List Nat := (List.range w).map fun k => ofB ((l.drop (p + 5 * k)).take 5)
def rowsTo (l : List UInt8) (w n : Nat) : List (List Nat) := (List.range n).map fun i => nrow l w (i * (5 * w))
def rowsOf (l : List UInt8) (w : Nat) : List (List Nat) := rowsTo l w (l.length / (5 * w))
theorem rowsTo_succ (l : List UInt8) (w n : Nat) : rowsTo l w (n + 1) = rowsTo l w n ++ [nrow l w (n * (5 * w))] := by simp [rowsTo, List.range_succ]
def splitE (s : ByteArray) (w : Int) : Int := if w < 1 ∨ 8 < w then 1 else if s.size % (5 * w.toNat) ≠ 0 then 5 else 0
def splitL (s : ByteArray) (w : Int) : List (List Nat) := if splitE s w = 0 then rowsOf s.data.toList w.toNat else []
/-- The order of numbers one behind the other. -/
def lessB : List Nat → List Nat → Bool
  | _, [] => false
  | [], _ :: _ => true
  | x :: a, y :: b => decide (x < y) || (decide (x = y) && lessB a b)
theorem lessB_irrefl (a : List Nat) : lessB a a = false := by
 induction a with
 | nil=>rfl
 | cons x a ih=>simp [lessB,ih]
theorem lessB_total (a b : List Nat) (h1 : lessB a b = false) (h2 : lessB b a = false) : a = b := by
 induction a generalizing b with
 | nil=>cases b with
  | nil=>rfl
  | cons y b=>simp [lessB] at h1
 | cons x a ih =>
  cases b with
  | nil=>simp [lessB] at h2
  | cons y b =>
   simp only [lessB,Bool.or_eq_false_iff,decide_eq_false_iff_not,Bool.and_eq_false_iff] at h1 h2
   obtain rfl:x=y:=by omega
   rw [ih b (h1.2.resolve_left (by simp)) (h2.2.resolve_left (by simp))]
end Num
end Go.Proofs.YtceikpipmcadmaaGreatDoor
namespace Go.Proofs.YtceikpipmcadmaaGreatDoor
namespace Num
/-- Where the writer of short bytes is: these are written, n is to be written. -/
structure ShJ (N n : Nat) (pre : List UInt8) : Prop where
  few : pre.length ≤ 5
  lt : n < 2 ^ (40 - 7 * pre.length)
  eq : pre ++ shortL (5 - pre.length) n = shortL 5 N
theorem ShJ.start {N : Nat} (h : N < top) : ShJ N N [] := ⟨by simp, by unfold top at h; simp; omega, rfl⟩
theorem sh_lt {k n : Nat} (hk : k ≤ 5) (h : n < 2 ^ (40 - 7 * k)) (h1 : 128 ≤ n) : k < 5 ∧ n / 128 < 2 ^ (40 - 7 * (k + 1)) := by
 have:k=0∨k=1∨k=2∨k=3∨k=4∨k=5:=by omega
 rcases this with rfl | rfl | rfl | rfl | rfl | rfl <;> simp at h ⊢ <;> omega
theorem ShJ.step {N n : Nat} {pre : List UInt8} (h : ShJ N n pre) (h1 : 128 ≤ n) : pre.length < 5 ∧ ShJ N (n / 128) (pre ++ [UInt8.ofNat (n % 128 + 128)]) := by
 obtain ⟨q1,q2⟩:=sh_lt h.few h.lt h1
 refine ⟨q1,by simp;omega,by simpa using q2,?_⟩
 rw [← h.eq]
 obtain ⟨f,hf⟩ : ∃ f,5-pre.length=f+1:=⟨4-pre.length,by omega⟩
 rw [hf,shortL,if_neg (by omega),List.append_assoc]
 congr 1
 simp;congr 1;omega
theorem ShJ.last {N n : Nat} {pre : List UInt8} (h : ShJ N n pre) (h1 : n < 128) : pre ++ [UInt8.ofNat n] = shortL 5 N := by
 rw [← h.eq]
 congr 1
 cases 5-pre.length with
 | zero=>rfl
 | succ f=>rw [shortL,if_pos h1]
end Num
end Go.Proofs.YtceikpipmcadmaaGreatDoor
namespace Go.Proofs.YtceikpipmcadmaaGreatDoor
open Go.RowKit
open Mv Disk Num
namespace Rec
def eachN (w : Nat) : Nat := if w = 0 then 1 else 5 * w
def needN (w c : Nat) : Nat := 1 + (eachN w * c + 63) / 64
def needP (w : Int) (c : Nat) : Int × Int := if w < 0 ∨ 8 < w ∨ 65536 < c then (0, 1) else ((needN w.toNat c : Nat), 0)
/-- Bytes, and 0 behind them, up to a sector's end. -/
def padS (s : ByteArray) : ByteArray := bs (s.data.toList ++ List.replicate ((64 - s.size % 64) % 64) 0)
def preS (w c : Nat) : ByteArray := bs ([87, 82, UInt8.ofNat w] ++ five c)
/-- A head's sector. -/
def headS (w c : Nat) : ByteArray := padS (preS w c ++ Crc.tailS (sumOf (preS w c)))
def secAt (s : ByteArray) (i : Nat) : ByteArray := s.extract (64 * i) (64 * i + 64)
/-- A disk as it was, beside an error of what is to be put on it. -/
noncomputable def refD (d : D) : D × Int := ((openD d).1, 1)
/-- The first k sectors of a body are written, one by one, while it goes well. -/
noncomputable def putTo (d : D) (s all : ByteArray) : Nat → D × Int
  | 0 => (d, 0)
  | k + 1 => if (putTo d s all k).2 = 0 then writeD (putTo d s all k).1 s ((k + 1 : Nat) : Int) (secAt all k) else putTo d s all k
/-- The end of it: synced, the head written, and synced. -/
noncomputable def sealD (d : D) (s h : ByteArray) : D × Int :=
  if (writeD (settleD d fun _ => true) s 0 h).2 = 0 then (settleD (writeD (settleD d fun _ => true) s 0 h).1 fun _ => true, 0) else writeD (settleD d fun _ => true) s 0 h
/-- A file of a width, and a body, on a disk that may be asked. -/
noncomputable def putP (d : D) (s : ByteArray) (w c : Nat) (body : ByteArray) : D × Int :=
  if (newD d s (needN w c : Nat)).2 ≠ 0 then newD d s (needN w c : Nat) else
  if (putTo (newD d s (needN w c : Nat)).1 s (padS body) (needN w c - 1)).2 ≠ 0 then putTo (newD d s (needN w c : Nat)).1 s (padS body) (needN w c - 1) else
  sealD (putTo (newD d s (needN w c : Nat)).1 s (padS body) (needN w c - 1)).1 s (headS w c)
def rowOK (w : Nat) (x : List Nat) : Bool := recOK x && decide (x.length = w)
noncomputable def writeP (d : D) (s : ByteArray) (w : Int) (l : List (List Nat)) : D × Int :=
  if w < 1 ∨ 8 < w ∨ 65536 < l.length then refD d else
  if l.all (rowOK w.toNat) = true then opened d (putP d s w.toNat l.length (bs (l.flatMap recB))) else refD d
noncomputable def writeTextP (d : D) (s text : ByteArray) : D × Int :=
  if 65536 < text.size then refD d else opened d (putP d s 0 text.size text)
def zeroL (l : List UInt8) : Bool := l.all fun b => b == 0
/-- A head's width and count. -/
def formP (s : ByteArray) : Nat × Nat × Int :=
  if s.data.toList.take 2 ≠ [87, 82] ∨ 8 < (s.data.toList.getD 2 0).toNat ∨ zeroL (s.data.toList.drop 12) = false then (0, 0, 2) else
  if (openS (s.extract 0 12)).2 ≠ 0 then (0, 0, (openS (s.extract 0 12)).2) else ((s.data.toList.getD 2 0).toNat, ofB ((s.data.toList.drop 3).take 5), 0)
noncomputable def headP (d : D) (s : ByteArray) : Nat × Nat × Int :=
  if (readO d s 0).2 ≠ 0 then (0, 0, (readO d s 0).2) else
  if (formP (readO d s 0).1).2.2 ≠ 0 then (0, 0, (formP (readO d s 0).1).2.2) else
  if (needP (formP (readO d s 0).1).1 (formP (readO d s 0).1).2.1).2 ≠ 0 ∨ (sectorsD d s).1 ≠ (needN (formP (readO d s 0).1).1 (formP (readO d s 0).1).2.1 : Nat) then (0, 0, 2) else
  formP (readO d s 0).1
/-- The first k sectors of a body. -/
noncomputable def bodyL (d : D) (s : ByteArray) : Nat → List UInt8
  | 0 => []
  | k + 1 => bodyL d s k ++ (readO d s ((k + 1 : Nat) : Int)).1.data.toList
/-- A file's body, of a width that is asked for, or not. -/
noncomputable def bodyP (d : D) (s : ByteArray) (text : Bool) : Nat × ByteArray × Int :=
  if (headP d s).2.2 ≠ 0 then (0, ByteArray.empty, (headP d s).2.2) else
  if text ≠ decide ((headP d s).1 = 0) then (0, ByteArray.empty, 7) else
  if zeroL ((bodyL d s (needN (headP d s).1 (headP d s).2.1 - 1)).drop (eachN (headP d s).1 * (headP d s).2.1)) = false then (0, ByteArray.empty, 7) else
  ((headP d s).1, bs ((bodyL d s (needN (headP d s).1 (headP d s).2.1 - 1)).take (eachN (headP d s).1 * (headP d s).2.1)), 0)
/-! ### What stays -/
theorem write_keep {d : D} (hR : Right d) (hdn : d.down = false) (hf : d.fuse ≤ 9223372036854775807) (s y : ByteArray) (k : Int) :
  Right (writeD d s k y).1∧(writeD d s k y).1.fuse≤9223372036854775807∧((writeD d s k y).2=0→(writeD d s k y).1.down=false):=by
 unfold writeD
 by_cases q0:(placeD d s k).2≠0
 ·rw [if_pos q0];exact ⟨hR,hf,fun _=>hdn⟩
 rw [if_neg q0]
 by_cases q1:y.size≠64
 ·rw [if_pos q1];exact ⟨hR,hf,fun _=>hdn⟩
 rw [if_neg q1]
 by_cases q2:d.waits.length=16384
 ·rw [if_pos q2];exact ⟨hR,hf,fun _=>hdn⟩
 rw [if_neg q2]
 have hwl:=hR.wl
 have hfu:=hR.fu
 have hA:=right_add (data:=y) hR (by simpa using q0) (by simpa using q1) (by omega)
 unfold fuseD
 by_cases q3:(addW d (s,k,y)).fuse=0
 ·rw [if_pos q3];exact ⟨right_fuse hA (by show -1≤d.fuse;omega) true,hf,fun h=>by simp at h⟩
 rw [if_neg q3]
 by_cases q4:0<(addW d (s,k,y)).fuse
 ·rw [if_pos q4];exact ⟨right_fuse hA (by have:0<d.fuse:=q4;show -1≤d.fuse-1;omega) _,by show d.fuse-1≤_;omega,fun _=>hdn⟩
 ·rw [if_neg q4];exact ⟨hA,hf,fun _=>hdn⟩
theorem putTo_keep {d : D} (hR : Right d) (hdn : d.down = false) (hf : d.fuse ≤ 9223372036854775807) (s all : ByteArray) (k : Nat) :
  Right (putTo d s all k).1∧(putTo d s all k).1.fuse≤9223372036854775807∧((putTo d s all k).2=0→(putTo d s all k).1.down=false):=by
 induction k with
 | zero=>exact ⟨hR,hf,fun _=>hdn⟩
 | succ k ih =>
  unfold putTo
  by_cases h:(putTo d s all k).2=0
  ·rw [if_pos h];exact write_keep ih.1 (ih.2.2 h) ih.2.1 _ _ _
  ·rw [if_neg h];exact ih
theorem putTo_stuck {d : D} {s all : ByteArray} {k : Nat} (h : (putTo d s all k).2 ≠ 0) : ∀ n, k ≤ n → putTo d s all n = putTo d s all k := by
 intro n hn
 induction n with
 | zero=>(obtain rfl:k=0:=by omega);rfl
 | succ n ih =>
  rcases Nat.lt_or_ge k (n+1) with h' | h'
  ·have:=ih (by omega)
   rw [putTo,this,if_neg h]
  ·rw [show k=n+1 by omega]
theorem padS_size (s : ByteArray) : (padS s).size = 64 * ((s.size + 63) / 64) := by
 unfold padS
 rw [size_bs,List.length_append,List.length_replicate,size_list]
 omega
theorem needN_pos (w c : Nat) : 1 ≤ needN w c := by unfold needN; omega
theorem eachN_le {w : Nat} (h : w ≤ 8) : eachN w ≤ 40 := by unfold eachN; split <;> omega
theorem needN_le {w c : Nat} (h : w ≤ 8) (hc : c ≤ 65536) : needN w c ≤ 40961 := by
 have h1:=Nat.mul_le_mul (eachN_le h) hc
 unfold needN;omega
end Rec
end Go.Proofs.YtceikpipmcadmaaGreatDoor
namespace Go.Proofs.YtceikpipmcadmaaGreatDoor
namespace Num
theorem recOK_all {l : List Nat} (h : recOK l = true) : 1 ≤ l.length ∧ l.length ≤ 8 ∧ ∀ x ∈ l, x < top := by
 unfold recOK at h
 simp only [Bool.and_eq_true,decide_eq_true_eq,List.all_eq_true] at h
 exact ⟨h.1.1,h.1.2,h.2⟩
/-- A row of a record's bytes is the record. -/
theorem nrow_rec (p : List UInt8) (x : List Nat) (q : List UInt8) (hx : ∀ n ∈ x, n < top) : nrow (p ++ recB x ++ q) x.length p.length = x := by
 apply List.ext_getElem
 ·simp [nrow]
 ·intro i h1 h2
  simp only [nrow,List.getElem_map,List.getElem_range]
  have:(p ++ recB x ++ q).drop (p.length+5*i)=five x[i] ++ ((recB x).drop (5*i+5) ++ q):=by
   rw [List.append_assoc,List.drop_append,List.drop_of_length_le (by omega),List.nil_append,show p.length+5*i-p.length=5*i from by omega]
   have hd:∀ (x:List Nat) (i:Nat) (h:i<x.length),(recB x).drop (5*i)=five x[i] ++ (recB x).drop (5*i+5):=by
    intro x
    induction x with
    | nil=>intro i h;simp at h
    | cons a x ih =>
     intro i h
     cases i with
     | zero=>simp [recB,five]
     | succ i =>
      have hi:=ih i (by simpa using h)
      simp only [recB,List.flatMap_cons] at hi ⊢
      rw [show 5*(i+1)=5+5*i from by omega,← List.drop_drop,show 5+5*i+5=5+(5*i+5) from by omega,← List.drop_drop (i:=5*i+5) (j:=5)]
      simp only [List.getElem_cons_succ]
      have h5:(five a ++ List.flatMap five x).drop 5=List.flatMap five x:=by rw [List.drop_append_of_le_length (by simp [five])];simp [five]
      rw [h5];exact hi
   rw [List.drop_append_of_le_length (by rw [recB_length];omega),hd x i h2,List.append_assoc]
  rw [this,List.take_append_of_le_length (by simp [five]),List.take_of_length_le (by simp [five]),ofB_five _ (hx _ (List.getElem_mem _))]
/-- Records one behind the other. -/
def recsB (l : List (List Nat)) : List UInt8 := l.flatMap recB
theorem recsB_length (l : List (List Nat)) (w : Nat) (h : ∀ x ∈ l, x.length = w) : (recsB l).length = l.length * (5 * w) := by
 induction l with
 | nil=>simp [recsB]
 | cons x l ih =>
  have hx:=h x (by simp)
  simp only [recsB,List.flatMap_cons,List.length_append,recB_length,List.length_cons] at ih ⊢
  rw [ih (fun y hy=>h y (by simp [hy])),hx,Nat.add_mul l.length 1];omega
theorem rows_recs (l : List (List Nat)) (w : Nat) (hw : ∀ x ∈ l, x.length = w) (hx : ∀ x ∈ l, ∀ n ∈ x, n < top) : rowsTo (recsB l) w l.length = l := by
 apply List.ext_getElem
 ·simp [rowsTo]
 ·intro i h1 h2
  simp only [rowsTo,List.getElem_map,List.getElem_range]
  have hs:recsB l=recsB (l.take i) ++ recB l[i] ++ recsB (l.drop (i+1)):=by
   simp only [recsB]
   rw [List.append_assoc,← List.flatMap_cons,← List.drop_eq_getElem_cons h2,← List.flatMap_append,List.take_append_drop]
  have hp:(recsB (l.take i)).length=i*(5*w):=by
   rw [recsB_length _ w (fun x hx=>hw x (List.mem_of_mem_take hx)),List.length_take,Nat.min_eq_left (by omega)]
  have:=nrow_rec (recsB (l.take i)) l[i] (recsB (l.drop (i+1))) (hx _ (List.getElem_mem _))
  rw [hw _ (List.getElem_mem _),hp,← hs] at this
  exact this
end Num
end Go.Proofs.YtceikpipmcadmaaGreatDoor
namespace Go.Proofs.YtceikpipmcadmaaGreatDoor
open Go.RowKit
namespace Crc
def fd : List UInt8 → List UInt8 → Nat
  | x :: a, y :: b => if x = y then 1 + fd a b else 0
  | _, _ => 0
end Crc

end Go.Proofs.YtceikpipmcadmaaGreatDoor
namespace Go.Proofs.YtceikpipmcadmaaGreatDoor
open Go.RowKit
open Crc (un v32 Tn)

theorem ba_ext {a b : ByteArray} (h : a.data.toList = b.data.toList) : a = b := by rw [← bs_of a, ← bs_of b, h]
theorem ba_beq (a b : ByteArray) : (a.toList == b.toList) = decide (a = b) := by
 rw [ByteArray.toList_eq,ByteArray.toList_eq,Bool.eq_iff_iff]
 simp only [beq_iff_eq,decide_eq_true_eq]
 exact ⟨ba_ext,fun h=>by rw [h]⟩
theorem size_len (s : ByteArray) : s.data.toList.length = s.size := by simp
theorem extract_head (s : ByteArray) (k : Nat) : (s.extract 0 k).data.toList = s.data.toList.take k := by rw [Lib.extract_data]; simp
theorem extract_tail (s : ByteArray) (k : Nat) : (s.extract k s.size).data.toList = s.data.toList.drop k := by
 rw [Lib.extract_data];exact List.take_of_length_le (by simp)
theorem append_data (a b : ByteArray) : (a ++ b).data.toList = a.data.toList ++ b.data.toList := by simp

namespace Crc
/-! ### Cut -/
/-! ### Byte by byte -/
/-! ### Four bytes side by side -/
/-! ### Three texts -/
end Crc
end Go.Proofs.YtceikpipmcadmaaGreatDoor
namespace Go.Proofs.YtceikpipmcadmaaGreatDoor
open Go.RowKit
open Crc (un v32 Tn)
namespace Crc
def frameB (s : ByteArray) : ByteArray := s ++ tailS (sumOf s)
theorem frameB_data (s : ByteArray) : (frameB s).data.toList = s.data.toList ++ (tailS (sumOf s)).data.toList := append_data _ _
theorem frameB_size (s : ByteArray) : (frameB s).size = s.size + 4 := by simp [frameB, tailS_size]
theorem body_data (f : ByteArray) : (body f).data.toList = f.data.toList.take (f.size - 4) := extract_head _ _
theorem tailOf_data (f : ByteArray) : (tailOf f).data.toList = f.data.toList.drop (f.size - 4) := extract_tail _ _
theorem body_frame (s : ByteArray) : body (frameB s) = s := by
 apply ba_ext
 rw [body_data,frameB_data,frameB_size,Nat.add_sub_cancel,← size_len s,List.take_left]
theorem tailOf_frame (s : ByteArray) : tailOf (frameB s) = tailS (sumOf s) := by
 apply ba_ext
 rw [tailOf_data,frameB_data,frameB_size,Nat.add_sub_cancel,← size_len s,List.drop_left]
theorem fits_iff (f : ByteArray) : fits f = true ↔ tailS (sumOf (body f)) = tailOf f := by
 unfold fits;rw [ba_beq];simp
theorem open_ok (s : ByteArray) (h : s.size ≤ 65536) : openS (frameB s) = (s, 0) := by
 unfold openS
 rw [frameB_size,if_neg (by omega),if_neg (by omega),if_pos ((fits_iff _).2 (by rw [body_frame,tailOf_frame])),body_frame]
end Crc
end Go.Proofs.YtceikpipmcadmaaGreatDoor
namespace Go.Proofs.YtceikpipmcadmaaGreatDoor
open Go.RowKit
open Mv Disk Num
namespace Rec
theorem new_yes {d : D} {s : ByteArray} {n : Int} (h : (newD d s n).2 = 0) : nm s ∧ 1 ≤ n ∧ has d.ext s = false ∧ (used d.ext : Int) + n ≤ d.size ∧ (newD d s n).1 = { d with ext := insAt d.ext (pos d.ext s) (s, zeros n.toNat) } := by
 unfold newD at h ⊢
 by_cases q1 : ¬ nm s∨n<1
 ·rw [if_pos q1] at h;simp at h
 rw [if_neg q1] at h ⊢
 by_cases q2:has d.ext s=true
 ·rw [if_pos q2] at h;simp at h
 rw [if_neg q2] at h ⊢
 by_cases q3:d.size-used d.ext<n
 ·rw [if_pos q3] at h;simp at h
 rw [if_neg q3]
 refine ⟨by by_cases h:nm s;exact h;exact absurd (.inl h) q1,by omega,by simpa using q2,by omega,rfl⟩
theorem new_no {d : D} {s : ByteArray} {n : Int} (h : (newD d s n).2 ≠ 0) : (newD d s n).1 = d := by
 unfold newD at h ⊢
 by_cases q1 : ¬ nm s∨n<1
 ·rw [if_pos q1]
 rw [if_neg q1] at h ⊢
 by_cases q2:has d.ext s=true
 ·rw [if_pos q2]
 rw [if_neg q2] at h ⊢
 by_cases q3:d.size-used d.ext<n
 ·rw [if_pos q3]
 rw [if_neg q3] at h;exact absurd rfl h
theorem has_ins {l : List Ext} {i : Nat} {x : Ext} {o : ByteArray} (h : o ≠ x.1) : has (insAt l i x) o = has l o := by
 rw [Bool.eq_iff_iff,has_iff,has_iff]
 constructor
 ·rintro ⟨y,hy,e⟩
  rcases mem_ins.1 hy with rfl | hy
  ·exact absurd e.symm h
  ·exact ⟨y,hy,e⟩
 ·rintro ⟨y,hy,e⟩;exact ⟨y,mem_ins.2 (.inr hy),e⟩
section
variable {d : D} {s all : ByteArray} {n : Int}
theorem exOf_new (hR : Right d) (h : (newD d s n).2 = 0) : exOf (newD d s n).1.ext s = (s, zeros n.toNat) ∧ has (newD d s n).1.ext s = true := by
 obtain ⟨h1,h2,h3,h4,h5⟩:=new_yes h
 rw [h5]
 have hm:(s,zeros n.toNat) ∈ insAt d.ext (pos d.ext s) (s,zeros n.toNat):=mem_ins.2 (.inl rfl)
 exact ⟨exOf_mem (asc_ins hR.ex.asc h3) hm,has_iff.2 ⟨_,hm,rfl⟩⟩
theorem exOf_other (hR : Right d) (h : (newD d s n).2 = 0) {o : ByteArray} (ho : o ≠ s) : has (newD d s n).1.ext o = has d.ext o ∧ (has d.ext o = true → exOf (newD d s n).1.ext o = exOf d.ext o) := by
 obtain ⟨h1,h2,h3,h4,h5⟩:=new_yes h
 rw [h5]
 refine ⟨has_ins ho,fun hh=>?_⟩
 obtain ⟨x,hx,rfl⟩:=has_iff.1 hh
 rw [exOf_mem hR.ex.asc hx]
 exact exOf_mem (asc_ins hR.ex.asc h3) (mem_ins.2 (.inr hx))
theorem place_other (hR : Right d) (h : (newD d s n).2 = 0) {o : ByteArray} (ho : o ≠ s) (k : Int) : (placeD (newD d s n).1 o k).2 = (placeD d o k).2 := by
 obtain ⟨e1,e2⟩:=exOf_other hR h ho
 unfold placeD
 rw [e1]
 by_cases q:has d.ext o=true
 ·rw [if_pos q,if_pos q,e2 q];split <;> rfl
 ·rw [if_neg q,if_neg q]
theorem seen_other (hR : Right d) (h : (newD d s n).2 = 0) {o : ByteArray} (ho : o ≠ s) {k : Int} (hp : (placeD d o k).2 = 0) : seen (newD d s n).1 o k = seen d o k := by
 obtain ⟨h1,h2,h3,h4,h5⟩:=new_yes h
 have e:=(exOf_other hR h ho).2 (place0 hp).1
 unfold seen
 rw [e,h5]
theorem seeW_none (kp : Nat → Bool) (l : List Wr) (s : ByteArray) (k : Int) (b : ByteArray) (h : ∀ w ∈ l, w.1 = s → w.2.1 ≠ k) (m : Nat) : seeW kp l s k b m = b := by
 rcases seeW_mem kp l s k b m with e | ⟨w,hw,e1,e2,_⟩
 ·exact e
 ·exact absurd e2 (h w hw e1)
/-- The writes of a body's first k sectors. -/
def secsW (s all : ByteArray) (k : Nat) : List Wr := (List.range k).map fun i => (s, ((i + 1 : Nat) : Int), secAt all i)
theorem secsW_succ (s all : ByteArray) (k : Nat) : secsW s all (k + 1) = secsW s all k ++ [(s, ((k + 1 : Nat) : Int), secAt all k)] := by
 unfold secsW
 rw [List.range_succ,List.map_append];rfl
theorem secsW_zero {w : Wr} {k : Nat} (h : w ∈ secsW s all k) : w.1 = s ∧ w.2.1 ≠ 0 := by
 obtain ⟨i,_,rfl⟩:=List.mem_map.1 h
 exact ⟨rfl,by show ((i+1:Nat):Int)≠0;omega⟩
/-- A disk with a new extent of which k sectors wait. -/
noncomputable def putE' (d : D) (s all : ByteArray) (n : Int) (k : Nat) (f : Int) : D := { (newD d s n).1 with waits := d.waits ++ secsW s all k, fuse := f }
theorem putTo_yes (hR : Right d) (hdn : d.down = false) (hf : d.fuse ≤ 9223372036854775807) (hn : (newD d s n).2 = 0) : ∀ k, (putTo (newD d s n).1 s all k).2 = 0 →
  ∃ f,-1≤f∧f≤9223372036854775807∧putTo (newD d s n).1 s all k=(putE' d s all n k f,0):=by
 obtain ⟨hR1,hd1,hf1,_⟩:=(new_law (s:=s) (n:=n) hR hdn).2 hn
 obtain ⟨_,_,_,_,h5⟩:=new_yes hn
 intro k
 induction k with
 | zero =>
  intro _
  refine ⟨d.fuse,hR.fu,hf,?_⟩
  show ((newD d s n).1,(0:Int))=_
  unfold putE' secsW
  rw [h5]
  simp
 | succ k ih =>
  intro h
  by_cases q:(putTo (newD d s n).1 s all k).2=0
  ·obtain ⟨kR,kf,kd⟩:=putTo_keep hR1 hd1 (by rw [hf1];exact hf) s all k
   have kd:=kd q
   rw [putTo,if_pos q] at h ⊢
   obtain ⟨f,f0,f1,e⟩:=ih q
   rw [e] at h kR kd kf ⊢
   have ho:=opened_ok kR kd (writeD (putE' d s all n k f) s ((k+1:Nat):Int) (secAt all k))
   obtain ⟨_,_,_,_,_,g,g0,g1,e2⟩:=write_ok (d:=putE' d s all n k f) (s:=s) (data:=secAt all k) (k:=((k+1:Nat):Int)) kf (by rw [ho];exact h)
   rw [ho] at e2
   refine ⟨g,g0,g1,e2.trans ?_⟩
   unfold putE' addW
   simp only [secsW_succ,List.append_assoc]
  ·rw [putTo,if_neg q] at h;exact absurd h q
theorem putTo_no (e : D) (s all : ByteArray) : ∀ k, (putTo e s all k).2 ≠ 0 → ∃ j, j < k ∧ (putTo e s all j).2 = 0 ∧ putTo e s all k = writeD (putTo e s all j).1 s ((j + 1 : Nat) : Int) (secAt all j) := by
 intro k
 induction k with
 | zero=>intro h;exact absurd rfl h
 | succ k ih =>
  intro h
  by_cases q:(putTo e s all k).2=0
  ·exact ⟨k,by omega,q,by rw [putTo,if_pos q]⟩
  ·obtain ⟨j,h1,h2,h3⟩:=ih q
   exact ⟨j,by omega,h2,by rw [putTo,if_neg q];exact h3⟩
theorem seen_put (hR : Right d) (hn : (newD d s n).2 = 0) (o : ByteArray) (a : Int) : ∀ k f, seen (putE' d s all n k f) o a = if o = s ∧ 1 ≤ a ∧ a ≤ k then secAt all (a.toNat - 1) else seen (newD d s n).1 o a := by
 obtain ⟨_,_,_,_,h5⟩:=new_yes hn
 intro k
 induction k with
 | zero =>
  intro f
  rw [if_neg (by omega)]
  unfold putE' secsW
  rw [h5]
  simp only [List.range_zero,List.map_nil,List.append_nil]
  rfl
 | succ k ih =>
  intro f
  have e:putE' d s all n (k+1) f=addW (putE' d s all n k f) (s,((k+1:Nat):Int),secAt all k):=by
   unfold putE' addW
   simp only [secsW_succ,List.append_assoc]
  rw [e,seen_add,ih f]
  by_cases q:s=o∧((k+1:Nat):Int)=a
  ·rw [if_pos q,if_pos ⟨q.1.symm,by omega,by omega⟩]
   rw [show a.toNat-1=k by omega]
  ·rw [if_neg q]
   by_cases q2:o=s∧1≤a∧a≤k
   ·rw [if_pos q2,if_pos ⟨q2.1,q2.2.1,by omega⟩]
   ·rw [if_neg q2,if_neg (fun ⟨h1,h2,h3⟩=>q2 ⟨h1,h2,by
     rcases Int.lt_or_le a (k+1) with h | h
     ·omega
     ·exact absurd ⟨h1.symm,by omega⟩ q⟩)]
end
/-- A disk has the file. -/
structure FileR (z : D) (s : ByteArray) (w c : Nat) (body : ByteArray) : Prop where
  head : readO z s 0 = (headS w c, 0)
  secs : ∀ i, i < needN w c - 1 → readO z s ((i + 1 : Nat) : Int) = (secAt (padS body) i, 0)
  size : sectorsD z s = (((needN w c : Nat) : Int), 0)
theorem sectors_sec {z : D} {s : ByteArray} (hR : Right z) (hdn : z.down = false) (h : has z.ext s = true) : sectorsD z s = (((sec (exOf z.ext s) : Nat) : Int), 0) := by
 unfold sectorsD
 rw [open_ok hR hdn,if_neg (by simp),if_pos h]
/-- Behind the body and the head, synced: the file is there, and what was there. -/
theorem sealed {e : D} {s : ByteArray} {w c : Nat} {body : ByteArray} (hR : Right e) (hdn : e.down = false) (hf : e.fuse ≤ 9223372036854775807) (hh : has e.ext s = true) (hs : sec (exOf e.ext s) = needN w c)
  (hb:∀ i,i<needN w c-1→seen e s ((i+1:Nat):Int)=secAt (padS body) i) (h:(sealD e s (headS w c)).2=0) :
  ∃ z,sealD e s (headS w c)=(z,0)∧Right z∧z.down=false∧z.fuse≤9223372036854775807∧z.waits = []∧FileR z s w c body ∧ ∀ o k,o≠s→readO z o k=readO e o k:=by
 have h1:=needN_pos w c
 have hR1:=right_settle hR (fun _=>true)
 unfold sealD at h ⊢
 by_cases q:(writeD (settleD e fun _=>true) s 0 (headS w c)).2=0
 ·rw [if_pos q]
  have ho:=opened_ok hR1 hdn (writeD (settleD e fun _=>true) s 0 (headS w c))
  obtain ⟨_,_,q1,q2,q3,f,f0,f1,e2⟩:=write_ok (d:=settleD e fun _=>true) (s:=s) (data:=headS w c) (k:=0) hf (by rw [ho];exact q)
  rw [ho] at e2
  rw [e2]
  have hR2:Right { addW (settleD e fun _=>true) (s,0,headS w c) with fuse:=f }:=right_fuse (right_add hR1 q1 q2 q3) f0 (addW (settleD e fun _=>true) (s,0,headS w c)).down
  have hR3:=right_settle hR2 (fun _=>true)
  have hpl:∀ o k,(placeD { addW (settleD e fun _=>true) (s,0,headS w c) with fuse:=f } o k).2=(placeD e o k).2:=fun o k=>by
   show (placeD (settleD e fun _=>true) o k).2=_
   exact place_settle hR _ o k
  have hrd:∀ o k,(placeD e o k).2=0→readO (settleD { addW (settleD e fun _=>true) (s,0,headS w c) with fuse:=f } fun _=>true) o k=(if s=o∧0=k then headS w c else seen e o k,0):=fun o k hp=>by
   refine (read_ok hR3 hdn o k).trans ?_
   rw [place_settle hR2,hpl,hp,if_neg (by simp),seen_settle hR2 (by rw [hpl];exact hp)]
   have e3:seen { addW (settleD e fun _=>true) (s,0,headS w c) with fuse:=f } o k=if s=o∧0=k then headS w c else seen (settleD e fun _=>true) o k:=seen_add _ s 0 (headS w c) o k
   have e4:=seen_settle hR hp (fun _=>true)
   refine Prod.ext ?_ rfl
   show seen { addW (settleD e fun _=>true) (s,0,headS w c) with fuse:=f } o k=_
   rw [e3,e4];rfl
  have hps:∀ k:Nat,k<needN w c→(placeD e s (k:Int)).2=0:=fun k hk=>by
   unfold placeD
   rw [if_pos hh,if_neg (by rw [hs];omega)]
  refine ⟨_,rfl,hR3,hdn,f1,rfl,⟨?_,fun i hi=>?_,?_⟩,fun o k hok=>?_⟩
  ·refine (hrd s 0 (hps 0 (by omega))).trans ?_
   rw [if_pos ⟨rfl,rfl⟩]
  ·refine (hrd s _ (hps (i+1) (by omega))).trans ?_
   rw [if_neg (by omega),hb i hi]
  ·have hh2:has (settleD { addW (settleD e fun _=>true) (s,0,headS w c) with fuse:=f } fun _=>true).ext s=true∧exOf (settleD { addW (settleD e fun _=>true) (s,0,headS w c) with fuse:=f } fun _=>true).ext s=doneX (fun _=>true) (addW (settleD e fun _=>true) (s,0,headS w c)).waits (doneX (fun _=>true) e.waits (exOf e.ext s)):=by
    have a1:has (settleD e fun _=>true).ext s=true:=(has_map (f:=doneX (fun _=>true) e.waits) (fun _=>rfl) e.ext s).trans hh
    refine ⟨(has_map (f:=doneX (fun _=>true) (addW (settleD e fun _=>true) (s,0,headS w c)).waits) (fun _=>rfl) (settleD e fun _=>true).ext s).trans a1,?_⟩
    have b1:exOf (settleD e fun _=>true).ext s=doneX (fun _=>true) e.waits (exOf e.ext s):=exOf_map (f:=doneX (fun _=>true) e.waits) (fun _=>rfl) hR.ex.asc hh
    exact (exOf_map (f:=doneX (fun _=>true) (addW (settleD e fun _=>true) (s,0,headS w c)).waits) (fun _=>rfl) hR1.ex.asc a1).trans (by rw [b1])
   rw [sectors_sec hR3 hdn hh2.1,hh2.2]
   have c1:(doneX (fun _=>true) e.waits (exOf e.ext s)) ∈ (settleD e fun _=>true).ext:=List.mem_map_of_mem (exOf_has hR.ex.asc hh).1
   have c2:sec (doneX (fun _=>true) (addW (settleD e fun _=>true) (s,0,headS w c)).waits (doneX (fun _=>true) e.waits (exOf e.ext s)))=sec (doneX (fun _=>true) e.waits (exOf e.ext s)):=by
    unfold sec
    rw [done_size hR2 (fun _=>true) c1]
   have c3:sec (doneX (fun _=>true) e.waits (exOf e.ext s))=sec (exOf e.ext s):=by
    unfold sec
    rw [done_size hR (fun _=>true) (exOf_has hR.ex.asc hh).1]
   rw [c2,c3,hs]
  ·by_cases hp:(placeD e o k).2=0
   ·refine (hrd o k hp).trans ?_
    rw [if_neg (fun h=>hok h.1.symm),read_ok hR hdn,hp,if_neg (by simp)]
   ·refine (read_ok hR3 hdn o k).trans ?_
    rw [place_settle hR2,hpl,read_ok hR hdn,if_pos hp,if_pos hp]
 ·rw [if_neg q] at h;exact absurd h q
end Rec
end Go.Proofs.YtceikpipmcadmaaGreatDoor
