/-
  Texts that belong together: SgMath2, NumBase, VNum5, Ints, Seq, MemN, Shelf, LoserMath, OrdMath, Ord1, Draw, Ord2, Ord3, Sort0, SortX, SortB, SortCI, SortY.
-/
import Derived.Test.YtckloanlkpchoaaGreatDoorBTb3
import Derived.Laws.BitsLemmas
import Derived.Lib.Overlaps
import Derived.Shelf.Small.Bits
import Derived.Test.YtckloanlkpchoaaGreatDoorProg
import Derived.Sort.AssemblyPlain
import Derived.Sort.LotD5
set_option linter.unusedVariables false
set_option linter.unusedSimpArgs false
set_option linter.unusedSectionVars false
namespace Go.Proofs.YtckloanlkpchoaaGreatDoor
open Bits
namespace Sg
theorem code_ok {l ls : List Nat} (h : Good l ls) {x : Nat} (hx : x ∈ l) : x < ls.length ∧ ls.getD x 0 ≠ 0 ∧ ls.getD x 0 ≤ 15 ∧ Cn.code ls x < 2 ^ ls.getD x 0 := by
 obtain ⟨h1,h2⟩:=h.pos x hx
 have h3:=h.le x h1
 refine ⟨by rw [h.len];exact h1,by omega,h3,Cn.code_lt (m:=15) (by rw [h.len];exact h1) (by omega) h3 ?_⟩
 rw [Cn.used_nxt,h.used];exact Nat.le_refl _
/-- Two symbols that begin the same bits are one. -/
theorem same_first {ls : List Nat} {x y : Nat} {U V : List Bool} (hx : x < ls.length ∧ ls.getD x 0 ≠ 0 ∧ Cn.code ls x < 2 ^ ls.getD x 0) (hy : y < ls.length ∧ ls.getD y 0 ≠ 0 ∧ Cn.code ls y < 2 ^ ls.getD y 0) (h : Cn.bitsOf ls x ++ U = Cn.bitsOf ls y ++ V) : x = y := by
 have lx:=Cn.bitsOf_length ls x
 have ly:=Cn.bitsOf_length ls y
 have key:∀ (a b:Nat) (U V:List Bool),(a<ls.length∧ls.getD a 0≠0∧Cn.code ls a<2 ^ ls.getD a 0)→(b<ls.length∧ls.getD b 0≠0∧Cn.code ls b<2 ^ ls.getD b 0)→Cn.bitsOf ls a ++ U=Cn.bitsOf ls b ++ V→ls.getD a 0≤ls.getD b 0→a=b:=by
  intro a b U V ha hb h hle
  have la:=Cn.bitsOf_length ls a
  have lb:=Cn.bitsOf_length ls b
  have e:Cn.bitsOf ls a=(Cn.bitsOf ls b).take (ls.getD a 0):=by
   have:=congrArg (List.take (ls.getD a 0)) h
   rw [List.take_left' la,List.take_append_of_le_length (by omega)] at this
   exact this
  have fa:=Cn.find_yes ha.1 ha.2.2 ha.2.1
  rw [List.take_of_length_le (by omega)] at fa
  rcases Nat.lt_or_ge (ls.getD a 0) (ls.getD b 0) with q | q
  ·exfalso
   have fb:=Cn.find_no (ls:=ls) (i:=b) (l:=ls.getD a 0) hb.2.2 (by omega) q
   rw [← e,fa.1] at fb
   have:=fa.2
   omega
  ·have eq:ls.getD a 0=ls.getD b 0:=by omega
   have fb:=Cn.find_yes hb.1 hb.2.2 hb.2.1
   rw [← eq,← e,fa.1] at fb
   have hr:Cn.rank ls a=Cn.rank ls b:=by omega
   have ra:=Cn.idx_rank ha.1
   have rb:=Cn.idx_rank hb.1
   rw [eq,hr] at ra
   rw [ra] at rb
   exact Option.some.inj rb
 rcases Nat.le_total (ls.getD x 0) (ls.getD y 0) with q | q
 ·exact key x y U V hx hy h q
 ·exact (key y x V U hy hx h.symm q).symm
theorem flat_inj {ls : List Nat} : ∀ (l m : List Nat), (∀ x ∈ l, x < ls.length ∧ ls.getD x 0 ≠ 0 ∧ Cn.code ls x < 2 ^ ls.getD x 0) → (∀ x ∈ m, x < ls.length ∧ ls.getD x 0 ≠ 0 ∧ Cn.code ls x < 2 ^ ls.getD x 0) → l.flatMap (Cn.bitsOf ls) = m.flatMap (Cn.bitsOf ls) → l = m
 | [],[],_,_,_=>rfl
 | [],y :: m,_,hm,h=>by
  exfalso
  have hy:=hm y (List.mem_cons_self ..)
  have:=congrArg List.length h
  simp only [List.flatMap_cons,List.length_append,Cn.bitsOf_length,List.flatMap_nil,List.length_nil] at this
  omega
 | x :: l,[],hl,_,h=>by
  exfalso
  have hx:=hl x (List.mem_cons_self ..)
  have:=congrArg List.length h
  simp only [List.flatMap_cons,List.length_append,Cn.bitsOf_length,List.flatMap_nil,List.length_nil] at this
  omega
 | x :: l,y :: m,hl,hm,h=>by
  rw [List.flatMap_cons,List.flatMap_cons] at h
  have e:=same_first (hl x (List.mem_cons_self ..)) (hm y (List.mem_cons_self ..)) h
  subst e
  rw [flat_inj l m (fun z hz=>hl z (List.mem_cons_of_mem _ hz)) (fun z hz=>hm z (List.mem_cons_of_mem _ hz)) (List.append_cancel_left h)]
theorem step_inj : ∀ (a b a' b' : Nat) (U V : List Bool), (a = 0 ∨ b = 0) → (a' = 0 ∨ b' = 0) → Tb.up a ++ Tb.dn b ++ [false] ++ U = Tb.up a' ++ Tb.dn b' ++ [false] ++ V → a = a' ∧ b = b' ∧ U = V
 | 0,0,0,0,U,V,_,_,h=>⟨rfl,rfl,by simpa [Tb.up,Tb.dn] using h⟩
 | a+1,b,0,0,U,V,h1,_,h=>by
  obtain rfl:b=0:=by omega
  rw [Tb.up_succ] at h;simp [Tb.up,Tb.dn] at h
 | 0,b+1,0,0,U,V,_,_,h=>by rw [Tb.dn_succ] at h;simp [Tb.up,Tb.dn] at h
 | 0,0,a'+1,b',U,V,_,h2,h=>by
  obtain rfl:b'=0:=by omega
  rw [Tb.up_succ] at h;simp [Tb.up,Tb.dn] at h
 | 0,0,0,b'+1,U,V,_,_,h=>by rw [Tb.dn_succ] at h;simp [Tb.up,Tb.dn] at h
 | a+1,b,a'+1,b',U,V,h1,h2,h=>by
  obtain rfl:b=0:=by omega
  obtain rfl:b'=0:=by omega
  rw [Tb.up_succ,Tb.up_succ] at h
  obtain ⟨e1,e2,e3⟩:=step_inj a 0 a' 0 U V (.inr rfl) (.inr rfl) (by simpa using h)
  exact ⟨by rw [e1],rfl,e3⟩
 | a+1,b,0,b'+1,U,V,h1,h2,h=>by
  obtain rfl:b=0:=by omega
  rw [Tb.up_succ,Tb.dn_succ] at h;simp [Tb.up] at h
 | 0,b+1,a'+1,b',U,V,h1,h2,h=>by
  obtain rfl:b'=0:=by omega
  rw [Tb.up_succ,Tb.dn_succ] at h;simp [Tb.up] at h
 | 0,b+1,0,b'+1,U,V,h1,h2,h=>by
  rw [Tb.dn_succ,Tb.dn_succ] at h
  obtain ⟨e1,e2,e3⟩:=step_inj 0 b 0 b' U V (.inl rfl) (.inl rfl) (by simpa [Tb.up] using h)
  exact ⟨rfl,by rw [e2],e3⟩
theorem go_inj : ∀ (ls ms : List Nat) (now : Nat) (U V : List Bool), ls.length = ms.length → Tb.go now ls ++ U = Tb.go now ms ++ V → ls = ms ∧ U = V
 | [],[],now,U,V,_,h=>⟨rfl,h⟩
 | [],m :: ms,now,U,V,hl,h=>by simp at hl
 | l :: ls,[],now,U,V,hl,h=>by simp at hl
 | l :: ls,m :: ms,now,U,V,hl,h=>by
  unfold Tb.go at h
  rw [List.append_assoc,List.append_assoc (Tb.up (m-now) ++ Tb.dn (now-m) ++ [false])] at h
  obtain ⟨h1,h2,h3⟩:=step_inj _ _ _ _ _ _ (by omega) (by omega) h
  obtain rfl:l=m:=by omega
  obtain ⟨h4,h5⟩:=go_inj ls ms l U V (by simpa using hl) h3
  exact ⟨by rw [h4],h5⟩
theorem tbl_inj {ls ms : List Nat} {U V : List Bool} (hl : ls.length = ms.length) (h1 : ls.headD 0 ≤ 15) (h2 : ms.headD 0 ≤ 15) (h : Tb.tbl ls ++ U = Tb.tbl ms ++ V) : ls = ms ∧ U = V := by
 unfold Tb.tbl at h
 rw [List.append_assoc,List.append_assoc] at h
 obtain ⟨e1,e2⟩:=List.append_inj h (by rw [numB_length,numB_length])
 have e3:=congrArg num e1
 rw [num_numB,num_numB,Nat.mod_eq_of_lt (by omega),Nat.mod_eq_of_lt (by omega)] at e3
 rw [e3] at e2
 exact go_inj ls ms _ U V hl e2
theorem good_head {l ls : List Nat} (h : Good l ls) : ls.headD 0 ≤ 15 := by
 have:=h.le 0 (by decide)
 cases ls with
 | nil=>decide
 | cons a t=>exact this
/-- A segment's bits are of its symbols alone. -/
theorem bitsS_inj {l m : List Nat} (hl : Syms l) (hm : Syms m) (h : bitsS l = bitsS m) : l = m := by
 have gl:=lensS_good hl
 have gm:=lensS_good hm
 unfold bitsS at h
 obtain ⟨e1,e2⟩:=tbl_inj (by rw [gl.len,gm.len]) (good_head gl) (good_head gm) h
 rw [e1] at e2 gl
 exact flat_inj l m (fun x hx=>by obtain ⟨a,b,c,d⟩:=code_ok gl hx;exact ⟨a,b,d⟩) (fun x hx=>by obtain ⟨a,b,c,d⟩:=code_ok gm hx;exact ⟨a,b,d⟩) e2
/-- The bits of a text's segment: none of no text. -/
def segB (t : List UInt8) : List Bool := if t = [] then [] else bitsS (Zr.enc (Mt.far Mt.row0 t) 0)
theorem far_ne {t : List UInt8} (h : t ≠ []) : Mt.far Mt.row0 t ≠ [] := fun e => by
 have:=Mt.far_length t Mt.row0
 rw [e] at this
 exact h (List.eq_nil_of_length_eq_zero this.symm)
theorem segB_inj {t u : List UInt8} (h0 : t = [] ↔ u = []) (h : segB t = segB u) : t = u := by
 by_cases q:t = []
 ·rw [q,h0.1 q]
 ·have q2:u ≠ []:=fun e=>q (h0.2 e)
  unfold segB at h
  rw [if_neg q,if_neg q2] at h
  have e:=bitsS_inj (enc_syms (far_ne q)) (enc_syms (far_ne q2)) h
  have e2:=congrArg (fun l=>(l.foldl Zr.add ⟨[],0,0⟩).out) e
  simp only [Zr.dec_enc] at e2
  have e3:Mt.far Mt.row0 t=Mt.far Mt.row0 u:=by simpa using e2
  rw [← Mt.near_far t Mt.row0 Mt.row_row0,← Mt.near_far u Mt.row0 Mt.row_row0,e3]
end Sg
end Go.Proofs.YtckloanlkpchoaaGreatDoor
namespace Go.Proofs.YtckloanlkpchoaaGreatDoor
open Go.RowKit
open Mv
namespace Num
def u64s (n : Nat) : List Value := [.int .u64 (n : Int)]
end Num
open Num
abbrev RowR (S : Mem) (v : Value) (l : List Nat) : Prop := Sl 1 u64s S v l
theorem rowR_less (S S' : Mem) (v : Value) (l : List Nat) (h : RowR S v l) (hl : S.Less S') : RowR S' v l := h.less hl
/-- The place of the first element that a test takes; -1: there is none. -/
def idx {α : Type} (p : α → Bool) (l : List α) : Int := match l.findIdx? p with
  | some i => (i : Nat)
  | none => -1
theorem cellsB_one (l : List UInt8) : ∀ v ∈ cellsB l, v.oneCell' = true := fun v hv => by obtain ⟨c, _, rfl⟩ := List.mem_map.1 hv; rfl
end Go.Proofs.YtckloanlkpchoaaGreatDoor
namespace Go.Proofs.YtckloanlkpchoaaGreatDoor
open Go.RowKit
open Mv Num
set_option maxRecDepth 4000
theorem numV_isNaN (x : Nat) (S : Mem) : ACall Tryz.prog 140 #[.int .u64 x] S fun r S' => r = .bool false ∧ S' = S := by
 refine ACall.enter (rs:=[.tmp 2]) 6 [(0,.int .u64 x)] Tryz.func140 rfl rfl (Nat.le_of_ble_eq_true rfl) rfl ⟨rfl,trivial⟩ ?_
 iterate 13 refine s1_ ?_
 refine su_ [(0,_),(2,_)] ?_
 refine s1_ ?_
 refine ⟨_,S,⟨_,_,rfl,rfl,rfl⟩,less_,?_⟩
 exact ⟨rfl,rfl⟩
theorem numV_cmp (x y : Nat) (S : Mem) : ACall Tryz.prog 120 #[.int .u64 x, .int .u64 y] S fun r S' => r = .int .i64 (if x < y then -1 else if y < x then 1 else 0) ∧ S' = S := by
 refine ACall.enter (rs:=[.tmp 4]) 20 [(0,.int .u64 x),(1,.int .u64 y)] Tryz.func120 rfl rfl (Nat.le_of_ble_eq_true rfl) rfl ⟨rfl,rfl,trivial⟩ ?_
 iterate 8 refine s1_ ?_
 refine ca_ rfl (numV_isNaN x S) ?_
 rintro _ S1 ⟨rfl,h1⟩
 rw [h1];clear h1 S1
 iterate 3 refine s1_ ?_
 refine su_ [(0,_),(1,_),(4,_),(5,_)] ?_
 iterate 3 refine s1_ ?_
 refine ca_ rfl (numV_isNaN y S) ?_
 rintro _ S1 ⟨rfl,h1⟩
 rw [h1];clear h1 S1
 iterate 3 refine s1_ ?_
 refine su_ [(0,_),(1,_),(4,_),(5,_),(6,_)] ?_
 iterate 6 refine s1_ ?_
 refine cF_ ?_
 iterate 8 refine s1_ ?_
 refine cF_ ?_
 by_cases c1:x<y
 ·iterate 10 refine s1_ ?_
  refine su_ [(0,_),(1,_),(4,_),(5,_),(6,_),(11,_),(13,_),(16,_)] ?_
  refine cT_ ?_
  iterate 7 refine s1_ ?_
  refine ⟨_,S,⟨_,_,rfl,rfl,rfl⟩,less_,?_⟩
  exact ⟨by rw [if_pos c1];rfl,rfl⟩
 ·iterate 10 refine s1_ ?_
  refine su_ [(0,_),(1,_),(4,_),(5,_),(6,_),(11,_),(13,_),(16,_)] ?_
  refine cF_ ?_
  by_cases c2:y<x
  ·iterate 10 refine s1_ ?_
   refine su_ [(0,_),(1,_),(4,_),(5,_),(6,_),(11,_),(13,_),(16,_),(19,_)] ?_
   refine cT_ ?_
   iterate 7 refine s1_ ?_
   refine ⟨_,S,⟨_,_,rfl,rfl,rfl⟩,less_,?_⟩
   exact ⟨by rw [if_neg c1,if_pos c2];rfl,rfl⟩
  ·iterate 10 refine s1_ ?_
   refine su_ [(0,_),(1,_),(4,_),(5,_),(6,_),(11,_),(13,_),(16,_),(19,_)] ?_
   refine cF_ ?_
   iterate 8 refine s1_ ?_
   refine ⟨_,S,⟨_,_,rfl,rfl,rfl⟩,less_,?_⟩
   exact ⟨by rw [if_neg c1,if_neg c2];rfl,rfl⟩
end Go.Proofs.YtckloanlkpchoaaGreatDoor
namespace Go.Proofs.YtckloanlkpchoaaGreatDoor
open Go.RowKit
open Mv Num
set_option maxRecDepth 4000
/-- Numbers from 0 on, as ints. -/
def i64n (k : Nat) : List Value := [.int .i64 (k : Int)]
abbrev IdxR (S : Mem) (v : Value) (l : List Nat) : Prop := Sl 1 i64n S v l
theorem numV_cmp2 (x y : Nat) (S : Mem) : ACall Tryz.prog 120 #[.int .u64 x, .int .u64 y] S fun r S' => r = .int .i64 (if x < y then -1 else if y < x then 1 else 0) ∧ S' = S := numV_cmp x y S
theorem si_nan (x : Int) (S : Mem) : ACall Tryz.prog 97 #[.int .i64 x] S fun r S' => r = .bool false ∧ S' = S := by
 refine ACall.enter (rs:=[.tmp 2]) 6 [(0,.int .i64 x)] Tryz.func97 rfl rfl (Nat.le_of_ble_eq_true rfl) rfl ⟨rfl,trivial⟩ ?_
 iterate 13 refine s1_ ?_
 refine su_ [(0,_),(2,_)] ?_
 refine s1_ ?_
 refine ⟨_,S,⟨_,_,rfl,rfl,rfl⟩,less_,?_⟩
 exact ⟨rfl,rfl⟩
def cmpZ (x y : Int) : Int := if x < y then -1 else if y < x then 1 else 0
theorem cmpZ_neg (x y : Int) : cmpZ x y < 0 ↔ x < y := by unfold cmpZ; split <;> (try split) <;> omega
theorem cmpZ_zero (x y : Int) : cmpZ x y = 0 ↔ x = y := by unfold cmpZ; split <;> (try split) <;> omega
theorem si_cmp (x y : Int) (S : Mem) : ACall Tryz.prog 71 #[.int .i64 x, .int .i64 y] S fun r S' => r = .int .i64 (cmpZ x y) ∧ S' = S := by
 unfold cmpZ
 refine ACall.enter (rs:=[.tmp 4]) 20 [(0,.int .i64 x),(1,.int .i64 y)] Tryz.func71 rfl rfl (Nat.le_of_ble_eq_true rfl) rfl ⟨rfl,rfl,trivial⟩ ?_
 iterate 8 refine s1_ ?_
 refine ca_ rfl (si_nan x S) ?_
 rintro _ S1 ⟨rfl,h1⟩
 rw [h1];clear h1 S1
 iterate 3 refine s1_ ?_
 refine su_ [(0,_),(1,_),(4,_),(5,_)] ?_
 iterate 3 refine s1_ ?_
 refine ca_ rfl (si_nan y S) ?_
 rintro _ S1 ⟨rfl,h1⟩
 rw [h1];clear h1 S1
 iterate 3 refine s1_ ?_
 refine su_ [(0,_),(1,_),(4,_),(5,_),(6,_)] ?_
 iterate 6 refine s1_ ?_
 refine cF_ ?_
 iterate 8 refine s1_ ?_
 refine cF_ ?_
 by_cases c1:x<y
 ·iterate 10 refine s1_ ?_
  refine su_ [(0,_),(1,_),(4,_),(5,_),(6,_),(11,_),(13,_),(16,_)] ?_
  refine cT_ ?_
  iterate 7 refine s1_ ?_
  refine ⟨_,S,⟨_,_,rfl,rfl,rfl⟩,less_,?_⟩
  exact ⟨by rw [if_pos c1];rfl,rfl⟩
 ·iterate 10 refine s1_ ?_
  refine su_ [(0,_),(1,_),(4,_),(5,_),(6,_),(11,_),(13,_),(16,_)] ?_
  refine cF_ ?_
  by_cases c2:y<x
  ·iterate 10 refine s1_ ?_
   refine su_ [(0,_),(1,_),(4,_),(5,_),(6,_),(11,_),(13,_),(16,_),(19,_)] ?_
   refine cT_ ?_
   iterate 7 refine s1_ ?_
   refine ⟨_,S,⟨_,_,rfl,rfl,rfl⟩,less_,?_⟩
   exact ⟨by rw [if_neg c1,if_pos c2];rfl,rfl⟩
  ·iterate 10 refine s1_ ?_
   refine su_ [(0,_),(1,_),(4,_),(5,_),(6,_),(11,_),(13,_),(16,_),(19,_)] ?_
   refine cF_ ?_
   iterate 8 refine s1_ ?_
   refine ⟨_,S,⟨_,_,rfl,rfl,rfl⟩,less_,?_⟩
   exact ⟨by rw [if_neg c1,if_neg c2];rfl,rfl⟩
def orL : List Int → Int
  | [] => 0
  | x :: l => if x = 0 then orL l else x
theorem si_Or (v : Value) (l : List Int) (S : Mem) (h : Sl 1 i64s S v l) : ACall Tryz.prog 70 #[v] S fun r S' => r = .int .i64 (orL l) ∧ S' = S := by
 obtain ⟨a,cap,rfl,h1,h2,h3⟩:=id h
 refine ACall.enter (rs:=[.tmp 2]) 18 [(0,.slice a l.length cap)] Tryz.func70 rfl rfl (Nat.le_of_ble_eq_true rfl) rfl ⟨rfl,trivial⟩ ?_
 iterate 19 refine s1_ ?_
 refine AWP.loop (X:=Nat) (fun x=>[(0,.slice a l.length cap),(3,.int .i64 0),(6,.slice a l.length cap),(7,.int .i64 l.length),(8,.int .i64 x)]) (fun x=>S) (fun x=>x≤l.length∧orL (l.drop x)=orL l) (fun x=>l.length-x) (0) ⟨rfl,rfl,rfl,rfl,rfl,trivial⟩ (Mem.Less.refl _) (⟨Nat.zero_le _,rfl⟩) ?_
 rintro i ⟨hi,hq⟩
 (try dsimp only at *)
 iterate 6 refine s1_ ?_
 refine AWP.condB rfl (fun hc=>?_) (fun hc=>?_)
 ·have hc:i<l.length:=by have:=of_decide_eq_true hc;omega
  obtain ⟨b,off,rfl,hk⟩:=h3.resolve_left (fun e=>by subst e;simp at hc)
  have hki:=hk i hc
  rw [List.drop_eq_getElem_cons hc,orL] at hq
  by_cases c1:l[i]=0
  ·iterate 11 refine s1_ ?_
   refine su_ [(0,_),(3,_),(6,_),(7,_),(8,_),(9,_),(5,_)] ?_
   iterate 7 refine s1_ ?_
   refine su_ [(0,_),(3,_),(6,_),(7,_),(8,_),(9,_),(5,_),(14,_)] ?_
   refine cF_ ?_
   iterate 8 refine s1_ ?_
   refine ⟨i+1,?_,?_,?_,?_⟩
   all_goals (try dsimp only)
   ·exact ⟨rfl,rfl,rfl,rfl,rfl,trivial⟩
   ·exact less_
   ·exact ⟨hc,by rw [if_pos c1] at hq;exact hq⟩
   ·omega
  ·iterate 11 refine s1_ ?_
   refine su_ [(0,_),(3,_),(6,_),(7,_),(8,_),(9,_),(5,_)] ?_
   iterate 7 refine s1_ ?_
   refine su_ [(0,_),(3,_),(6,_),(7,_),(8,_),(9,_),(5,_),(14,_)] ?_
   refine cT_ ?_
   iterate 6 refine s1_ ?_
   refine su_ [(0,_),(3,_),(6,_),(7,_),(8,_),(9,_),(5,_),(14,_),(2,_)] ?_
   iterate 6 refine s1_ ?_
   refine ⟨_,S,⟨_,_,rfl,rfl,rfl⟩,less_,?_⟩
   exact ⟨by rw [← hq,if_neg c1];rfl,rfl⟩
 ·have hc:i=l.length:=by have:=of_decide_eq_false hc;omega
  iterate 11 refine s1_ ?_
  refine su_ [(0,_),(3,_),(6,_),(7,_),(8,_),(9,_),(2,_)] ?_
  refine s1_ ?_
  refine ⟨_,S,⟨_,_,rfl,rfl,rfl⟩,less_,?_⟩
  exact ⟨by rw [← hq,List.drop_eq_nil_of_le (by omega)];rfl,rfl⟩
end Go.Proofs.YtckloanlkpchoaaGreatDoor
namespace Go.Proofs.YtckloanlkpchoaaGreatDoor
open Go.RowKit
open Mv
theorem push_sub {α : Type} {b c n : Nat} {L : List α} {x : α} (h : n = L.length + 1) : some (outV (some (b, c)) n) = some (outV (some (b, c)) (L ++ [x]).length) := by
 rw [h,List.length_append];rfl
theorem push_map {α : Type} {g : α → Value} {L : List α} {x : α} : L.map g ++ [g x] = (L ++ [x]).map g := by rw [List.map_append]; rfl
theorem push_less {α : Type} {S : Mem} {o : Option (Nat × Nat)} {e : TypeId} {g : α → Value} {L : List α} {x : α} {v : Value} (h : v = g x) : (outM S o e ((L ++ [x]).map g)).Less (outM S o e (L.map g ++ [v])) := by
 rw [h,push_map];exact Mem.Less.refl _
theorem push_ok {α : Type} {S : Mem} {b c n : Nat} {L : List α} {x : α} (h : OkO S (some (b, c)) n) (hn : n = L.length + 1) : OkO S (some (b, c)) (L ++ [x]).length := by
 rw [List.length_append];subst hn;exact h
/-- Slots that are as told. -/
theorem sq_ {p : Prop} (h : p := by first | rfl | (refine some_int ?_; first | omega | (dsimp only; omega)) | exact push_sub (by first | rfl | omega)) : p := h
theorem map_len {α β : Type} {g : α → β} {L : List α} : (L.map g).length = L.length := List.length_map ..
/-- A value that is read: what was known stays, and it is this list. -/
def RdL {α : Type} (g : α → Value) (l : List α) (S : Mem) (r : Value) (S' : Mem) : Prop := S.Less S' ∧ Sl 1 (fun x => [g x]) S' r l
theorem RdL.of_out {α : Type} {g : α → Value} {S : Mem} {o : Option (Nat × Nat)} {e : TypeId} {l : List α} {n : Nat} (h : OkO S o n) (hn : l.length = n) (hm : n ≤ 9223372036854775807) : RdL g l S (outV o n) (outM S o e (l.map g)) :=
 ⟨outM_over h,sl_outV h hn hm⟩
/-- A new slice that is the call's own. -/
def NewL {α : Type} (g : α → Value) (e : TypeId) (l : List α) (S : Mem) (r : Value) (S' : Mem) : Prop := ∃ o, OkO S o l.length ∧ r = outV o l.length ∧ S' = outM S o e (l.map g)
theorem NewL.rd {α : Type} {g : α → Value} {e : TypeId} {l : List α} {S : Mem} {r : Value} {S' : Mem} (h : NewL g e l S r S') (hm : l.length ≤ 9223372036854775807) : RdL g l S r S' := by
 obtain ⟨o,ho,rfl,rfl⟩:=h
 exact RdL.of_out ho rfl hm
theorem Sl.len_eq {α : Type} {n : Nat} {f : α → List Value} {S : Mem} {v : Value} {l : List α} (h : Sl n f S v l) : ∃ a cap, v = .slice a l.length cap ∧ l.length ≤ 9223372036854775807 := by
 obtain ⟨a,cap,e,_,h2,_⟩:=h;exact ⟨a,cap,e,h2⟩
/-- A call where a slice of one's own lies over the memory. -/
theorem frameM {P : Program} {f : FuncId} {args : Array Value} {S : Mem} {R : Value → Mem → Prop} (h : ACall P f args S R) {m : Nat} {o : Option (Nat × Nat)} {e : TypeId} {cs : List Value} (ho : OkO S o m) :
  ACall P f args (outM S o e cs) fun r S'=>∃ M,R r M∧OkO M o m∧S'=outM M o e cs:=by
 cases o with
 | none=>exact h.mono fun r S' hr=>⟨S',hr,⟨ho.nil,fun b c e=>(by cases e)⟩,rfl⟩
 | some q=>exact (h.frame (ho.own q.1 q.2 rfl).1).mono fun r S' ⟨M,hr,hf,he⟩=>⟨M,hr,⟨fun x=>(by cases x),fun b c e=>(by cases e;exact ⟨hf,(ho.own _ _ rfl).2⟩)⟩,he⟩
/-- A list that is filled from its beginning on. -/
theorem fill_set {α : Type} (hs : List α) (z v : α) (m i : Nat) (h : hs.length = i) (hi : i < m) : (hs ++ List.replicate (m - i) z).set i v = (hs ++ [v]) ++ List.replicate (m - (i + 1)) z := by
 subst h
 rw [List.set_append_right _ _ (Nat.le_refl _),Nat.sub_self,show m-hs.length=(m-(hs.length+1))+1 by omega,List.replicate_succ,List.set_cons_zero,List.append_assoc];rfl
theorem fill_map {α β : Type} (g : α → β) (L : List α) (z : α) (m i : Nat) (x : α) (h : L.length = i) (hi : i < m) : (L.map g ++ List.replicate (m - i) (g z)).set i (g x) = (L ++ [x]).map g ++ List.replicate (m - (i + 1)) (g z) := by
 rw [fill_set _ _ _ _ _ (by rw [List.length_map];exact h) hi,List.map_append];rfl
theorem rd_list {α : Type} {S : Mem} {b : Nat} {T : TypeId} {g : α → Value} {L : List α} {room o : Nat} (k : Nat) (hk : k < L.length) (h : S.own b = some ⟨T, L.map g, room⟩) (ho : o = k) : S.rd ⟨b, o, none⟩ = some (g L[k]) := by
 rw [rd_own h,ho];simp [hk]
end Go.Proofs.YtckloanlkpchoaaGreatDoor
namespace Go.Proofs.YtckloanlkpchoaaGreatDoor
open Go.RowKit
namespace Mv
/-! ### Less is known of blocks -/
def Mem.Shr (S' S : Mem) : Prop := (∀ b r', S'.own b = some r' → ∃ r, S.own b = some r ∧ r.elem = r'.elem ∧ r'.cells <+: r.cells ∧ r'.room ≤ r.room) ∧ S'.ro = S.ro
theorem View.shr {S S' : Mem} {w : World} (h : View S w) (hl : S'.Shr S) : View S' w :=
 ⟨fun b r' hb=>by
  obtain ⟨r,h1,h2,h3,h4⟩:=hl.1 b r' hb
  obtain ⟨cur,fz,e1,e2,e3,e4⟩:=h.own b r h1
  exact ⟨cur,fz,by rw [← h2];exact e1,h3.trans e2,Nat.le_trans h4 e3,by rw [← h2];exact e4⟩,fun a v ha=>by
  rw [hl.2] at ha
  refine ⟨(h.ro a v ha).1,?_⟩
  cases e:S'.own a.block with
  | none=>rfl
  | some r =>
   obtain ⟨r0,h1,_⟩:=hl.1 _ _ e
   (rw [(h.ro a v ha).2] at h1;cases h1),h.fzOf hl.2 (fun k hk _=>by
  cases e:S'.own k with
  | none=>rfl
  | some r =>
   obtain ⟨r0,h1,_⟩:=hl.1 _ _ e
   rw [hk] at h1;cases h1) fun _ _ _=>rfl⟩
theorem Step.shrL {S S0 S' : Mem} {w w' : World} (h : Step S0 w S' w') (hl : S0.Shr S) (hs : ∀ k, S.own k ≠ none → S0.own k ≠ none) : Step S w S' w' :=
 ⟨h.view,h.os,h.tape,h.output,h.size,fun k hk hn=>h.block k hk (by
  cases e:S0.own k with
  | none=>rfl
  | some r=>obtain ⟨r0,h1,_⟩:=hl.1 _ _ e;rw [hn] at h1;cases h1),fun k hk=>by
  rcases h.dom k hk with x | x
  ·left
   intro e
   cases e0:S0.own k with
   | none=>exact x e0
   | some r=>obtain ⟨r0,h1,_⟩:=hl.1 _ _ e0;rw [e] at h1;cases h1
  ·exact .inr x,fun a v hv=>by
  rcases h.ro a v hv with x | x | x
  ·exact .inl (by rw [← hl.2];exact x)
  ·refine .inr (.inl fun e=>?_)
   cases e0:S0.own a.block with
   | none=>exact x e0
   | some r=>obtain ⟨r0,h1,_⟩:=hl.1 _ _ e0;rw [e] at h1;cases h1
  ·exact .inr (.inr x)⟩
theorem shr_set {S : Mem} {b : Nat} {e : TypeId} {cs cs' : List Value} {m m' : Nat} (h : cs' <+: cs) (hm : m' ≤ m) : (S.set b ⟨e, cs', m'⟩).Shr (S.set b ⟨e, cs, m⟩) :=
 ⟨fun k r' hk=>by
  by_cases x:k=b
  ·subst x
   rw [Mem.own_set_same] at hk ⊢
   cases hk
   exact ⟨_,rfl,rfl,h,hm⟩
  ·rw [Mem.own_set_other _ _ x] at hk ⊢
   exact ⟨r',hk,rfl,List.prefix_rfl,Nat.le_refl _⟩,rfl⟩
theorem dom_set {S : Mem} {b : Nat} {r r' : Blk} : ∀ k, (S.set b r).own k ≠ none → (S.set b r').own k ≠ none := fun k hk => by
 by_cases x:k=b
 ·subst x;rw [Mem.own_set_same];simp
 ·rw [Mem.own_set_other _ _ x] at hk ⊢;exact hk
theorem AWP.cut {P : Program} {N : Nat} {c : Code} {Q : Exit → Env → Mem → Prop} {E : Env} {S : Mem} {b : Nat} {e : TypeId} {cs cs' : List Value} {m m' : Nat} (h : cs' <+: cs) (hm : m' ≤ m) (hA : AWP P N c Q E (S.set b ⟨e, cs', m'⟩)) : AWP P N c Q E (S.set b ⟨e, cs, m⟩) := fun a w hg hv =>
 wp_mono (hA a w hg (hv.shr (shr_set h hm))) fun _ _ _ ⟨E',S',hq,hg',hs⟩=>⟨E',S',hq,hg',hs.shrL (shr_set h hm) dom_set⟩
/-- The own memory of a slice of things of n cells. -/
def outN (n : Nat) (S : Mem) (o : Option (Nat × Nat)) (e : TypeId) (cs : List Value) : Mem := match o with
  | none => S
  | some (b, c) => S.set b ⟨e, cs, c * n⟩
theorem outN_over {n : Nat} {S : Mem} {o : Option (Nat × Nat)} {k : Nat} {e : TypeId} {cs : List Value} (h : OkO S o k) : S.Less (outN n S o e cs) := by
 cases o with
 | none=>exact Mem.Less.refl _
 | some q=>exact Mem.less_set _ _ _ (h.own q.1 q.2 rfl).1.1
section
variable {P : Program} {N : Nat} {ops : Array Oper} {E : Env} {S : Mem} {K : Env → Mem → Prop}
variable {ty : TypeId} {pos : String} {aft : Array Edge} {gd : Option (Nat × Bool)}
/-- append to a block of one's own, of what is known. -/
theorem ARun.appendRunK {os : List Oper} {T e : TypeId} {n y : Nat} {z : List Value} {x1 x2 : Operand} {b k c : Nat} {xs news : List Value} {a2 : Addr} {m c2 d : Nat} (hn : d < N) (hT : slT P T = some (e, n, y, z)) (hz : z.length = n)
  (hx:ev E x1=some (.slice (some ⟨b,0,none⟩) k c)) (hb:S.own b=some ⟨e,xs,c*n⟩) (hxs:xs.length=k*n)
  (hy:ev E x2=some (.slice (some a2) m c2)) (hnews:S.Knows a2 news) (hnl:news.length=m*n) (h1:∀ v ∈ news,v.oneCell'=true) (hfit:(k+m)*y≤140737488355328) (h63:k+m≤9223372036854775807)
  (h:∀ b' c',Fresh (S.del b) b'→k+m≤c'→ARun P N ops os K ((d,.slice (some ⟨b',0,none⟩) (k+m) c') :: E) ((S.del b).set b' ⟨e,xs ++ news,c'*n⟩)) :
  ARun P N ops (⟨some d,.call ⟨.builtin .append,#[x1,x2],#[T,T]⟩,ty,pos,aft,none⟩ :: os) K E S:=fun a w g hv=>by
 rw [if_pos (by simp [Region.wanted])]
 obtain ⟨hu,i,v,e1,e2,rfl,rfl,rfl⟩:=slT_spec hT
 have hz':v.cells.size=i.size:=by simpa using hz
 have hex:(execOp a.eval ⟨some d,.call ⟨.builtin .append,#[x1,x2],#[T,T]⟩,ty,pos,aft,none⟩).run P w=((Builtin.append_ #[T,T] ty #[.slice (some ⟨b,0,none⟩) k c,.slice (some a2) m c2]).run P w).andThen fun v w'=>.ok (.value v) w':=by
  simp [execOp,resolve,invoke,builtin,g.ev hx,g.ev hy]
 unfold Oper.wp
 rw [hex]
 by_cases hroom:k+m≤c
 ·obtain ⟨q1,q2⟩:=store_cells (P:=P) hv hb (vs:=news) (o:=k*i.size) (by simp [hxs]) (.inr (by simp only [hnl];rw [← Nat.add_mul];exact Nat.mul_le_mul_right _ hroom)) h1
  have hf:=run_firstCells_some (P:=P) w i.size m a2 m c2 news hnl (fun j u hj=>hnews w hv j u hj)
  have hr:(Builtin.append_ #[T,T] ty #[.slice (some ⟨b,0,none⟩) k c,.slice (some a2) m c2]).run P w = .ok (.slice (some ⟨b,0,none⟩) (k+m) c) (w.setCells b (k*i.size) news):=by
   simp [Builtin.append_,run_underlying hu,sizeOf,typeInfo,e1,Builtin.lenOf,hroom,hf,addr_add,q1]
  rw [hr]
  have hsp:spl xs (k*i.size) news=xs ++ news:=by
   unfold spl
   rw [List.take_of_length_le (by omega),List.drop_of_length_le (by omega),List.append_nil]
  simp only [hsp] at q2
  refine ⟨_,_,h b c (fresh_del (fun a v ha=>(hv.ro a v ha).2) hb) hroom,g.put hn _,?_⟩
  rw [del_set];exact q2
 ·have hfit':Builtin.nextslicecap (k+m) c*i.bytes≤281474976710656:=growslice_fits (by omega) hfit
  have hr:=run_append_grow (P:=P) w T ty e i v hu e1 e2 ⟨b,0,none⟩ k c xs hxs (fun j u hj=>hv.rd (by rw [addr_add,Nat.zero_add,rd_own hb];exact hj)) a2 m c2 news hnl (fun j u hj=>hnews w hv j u hj) (by omega) (by omega) hfit'
  rw [hr]
  have hge:=grownCap_ge w (k+m) c e
  have hvd:View S w.drew:=hv.drawn _
  have hst:=Step.allocP hvd e (xs.toArray ++ news.toArray ++ Builtin.zeroCells v.cells (grownCap w (k+m) c e-(k+m))) (xs ++ news) (grownCap w (k+m) c e*i.size) (by simp [List.append_assoc]) (by
   simp only [Array.size_append,List.size_toArray,size_zeroCells,hz',hxs,hnl,← Nat.add_mul]
   exact Nat.mul_le_mul_right _ (by omega))
  refine ⟨_,_,h w.heap.size (grownCap w (k+m) c e) (hv.freshAt.less (Less.del S b)) hge,g.put hn _,?_⟩
  exact ((Step.drawn hv _).trans hst).less (less_del S b _ _)
theorem ARun.appendNilK {os : List Oper} {T e : TypeId} {n y : Nat} {z : List Value} {x1 x2 : Operand} {news : List Value} {a2 : Addr} {m c2 d : Nat} (hn : d < N) (hT : slT P T = some (e, n, y, z)) (hz : z.length = n)
  (hx:ev E x1=some (.slice none 0 0)) (hy:ev E x2=some (.slice (some a2) m c2)) (hnews:S.Knows a2 news) (hnl:news.length=m*n) (hm:0<m) (hfit:m*y≤140737488355328) (h63:m≤9223372036854775807)
  (h:∀ b' c',Fresh S b'→m≤c'→ARun P N ops os K ((d,.slice (some ⟨b',0,none⟩) m c') :: E) (S.set b' ⟨e,news,c'*n⟩)) :
  ARun P N ops (⟨some d,.call ⟨.builtin .append,#[x1,x2],#[T,T]⟩,ty,pos,aft,none⟩ :: os) K E S:=fun a w g hv=>by
 rw [if_pos (by simp [Region.wanted])]
 obtain ⟨hu,i,v,e1,e2,rfl,rfl,rfl⟩:=slT_spec hT
 have hz':v.cells.size=i.size:=by simpa using hz
 have hex:(execOp a.eval ⟨some d,.call ⟨.builtin .append,#[x1,x2],#[T,T]⟩,ty,pos,aft,none⟩).run P w=((Builtin.append_ #[T,T] ty #[.slice none 0 0,.slice (some a2) m c2]).run P w).andThen fun v w'=>.ok (.value v) w':=by
  simp [execOp,resolve,invoke,builtin,g.ev hx,g.ev hy]
 unfold Oper.wp
 rw [hex,run_append_nil (P:=P) w T ty e i v hu e1 e2 a2 m c2 news hnl (fun j u hj=>hnews w hv j u hj) hm (by omega) (by omega)]
 have hge:=grownCap_ge w m 0 e
 have hvd:View S w.drew:=hv.drawn _
 have hst:=Step.allocP hvd e (news.toArray ++ Builtin.zeroCells v.cells (grownCap w m 0 e-m)) news (grownCap w m 0 e*i.size) (by simp) (by
  simp only [Array.size_append,List.size_toArray,size_zeroCells,hz',hnl,← Nat.add_mul]
  exact Nat.mul_le_mul_right _ (by omega))
 exact ⟨_,_,h w.heap.size (grownCap w m 0 e) hv.freshAt hge,g.put hn _,(Step.drawn hv _).trans hst⟩
/-- copy into a block of one's own. -/
theorem ARun.copyK {os : List Oper} {T T2 e : TypeId} {n y : Nat} {z : List Value} {x1 x2 : Operand} {b o k c : Nat} {r : Blk} {news : List Value} {a2 : Addr} {m c2 q d : Nat} (hn : d < N) (hT : slT P T = some (e, n, y, z))
  (hx:ev E x1=some (.slice (some ⟨b,o,none⟩) k c)) (hb:S.own b=some r) (ho:o≤r.cells.length)
  (hy:ev E x2=some (.slice (some a2) m c2)) (hq:q=min m k) (hnews:S.Knows a2 news) (hnl:news.length=q*n) (h1:∀ v ∈ news,v.oneCell'=true) (hfit:o+news.length≤r.cells.length∨o+news.length≤r.room)
  (h:ARun P N ops os K ((d,.int .i64 (q:Int)) :: E) (S.set b ⟨r.elem,spl r.cells o news,r.room⟩)) :
  ARun P N ops (⟨some d,.call ⟨.builtin .copy,#[x1,x2],#[T,T2]⟩,ty,pos,aft,none⟩ :: os) K E S:=fun a w g hv=>by
 rw [if_pos (by simp [Region.wanted])]
 obtain ⟨hu,i,v,e1,e2,rfl,rfl,rfl⟩:=slT_spec hT
 have hex:(execOp a.eval ⟨some d,.call ⟨.builtin .copy,#[x1,x2],#[T,T2]⟩,ty,pos,aft,none⟩).run P w=((Builtin.copy_ #[T,T2] ty #[.slice (some ⟨b,o,none⟩) k c,.slice (some a2) m c2]).run P w).andThen fun v w'=>.ok (.value v) w':=by
  simp [execOp,resolve,invoke,builtin,g.ev hx,g.ev hy]
 unfold Oper.wp
 rw [hex]
 obtain ⟨q1,q2⟩:=store_cells (P:=P) hv hb (vs:=news) (o:=o) ho hfit h1
 have hf:=run_firstCells_some (P:=P) w i.size q a2 m c2 news hnl (fun j u hj=>hnews w hv j u hj)
 have hq':Nat.min m k=q:=hq.symm
 have hr:(Builtin.copy_ #[T,T2] ty #[.slice (some ⟨b,o,none⟩) k c,.slice (some a2) m c2]).run P w = .ok (.int .i64 (q:Int)) (w.setCells b o news):=by
  simp [Builtin.copy_,run_underlying hu,sizeOf,typeInfo,e1,Builtin.lenOf,hq',hf,q1,goInt]
 rw [hr]
 exact ⟨_,_,h,g.put hn _,q2⟩
/-- clear of a part of a block of one's own. -/
theorem ARun.clearK {os : List Oper} {T e : TypeId} {n y : Nat} {z : List Value} {x1 : Operand} {b o k c : Nat} {r : Blk} (hT : slT P T = some (e, n, y, z)) (hz : z.length = n) (hz1 : ∀ v ∈ z, v.oneCell' = true)
  (hx:ev E x1=some (.slice (some ⟨b,o,none⟩) k c)) (hb:S.own b=some r) (ho:o≤r.cells.length) (hfit:o+k*n≤r.cells.length∨o+k*n≤r.room)
  (h:∀ zs:List Value,zs.length=k*n→ARun P N ops os K E (S.set b ⟨r.elem,spl r.cells o zs,r.room⟩)) :
  ARun P N ops (⟨none,.call ⟨.builtin .clear,#[x1],#[T]⟩,ty,pos,aft,none⟩ :: os) K E S:=fun a w g hv=>by
 rw [if_pos (by simp [Region.wanted])]
 obtain ⟨hu,i,v,e1,e2,rfl,rfl,rfl⟩:=slT_spec hT
 have hz':v.cells.size=i.size:=by simpa using hz
 have hex:(execOp a.eval ⟨none,.call ⟨.builtin .clear,#[x1],#[T]⟩,ty,pos,aft,none⟩).run P w=((Builtin.clear_ #[T] ty #[.slice (some ⟨b,o,none⟩) k c]).run P w).andThen fun v w'=>.ok (.value v) w':=by
  simp [execOp,resolve,invoke,builtin,g.ev hx]
 unfold Oper.wp
 rw [hex]
 have hzl:(Builtin.zeroCells v.cells k).toList.length=k*i.size:=by rw [Array.length_toList,size_zeroCells,hz']
 have h1:∀ u ∈ (Builtin.zeroCells v.cells k).toList,u.oneCell'=true:=fun u hu=>by
  simp only [Builtin.zeroCells,Array.toList_map,List.mem_map,Array.toList_range,List.mem_range] at hu
  obtain ⟨j,hj,rfl⟩:=hu
  have hp:0<v.cells.size:=by
   rcases Nat.eq_zero_or_pos v.cells.size with h0 | h0
   ·rw [h0] at hj;omega
   ·exact h0
  have hlt:j % v.cells.size<v.cells.size:=Nat.mod_lt _ hp
  have e0:v.cells[j % v.cells.size]! = v.cells[j % v.cells.size]:=getElem!_pos v.cells _ hlt
  rw [e0]
  exact hz1 _ (by simp)
 obtain ⟨q1,q2⟩:=store_cells (P:=P) hv hb (vs:=(Builtin.zeroCells v.cells k).toList) (o:=o) ho (by rw [hzl];exact hfit) h1
 have hr:(Builtin.clear_ #[T] ty #[.slice (some ⟨b,o,none⟩) k c]).run P w = .ok (.tuple #[]) (w.setCells b o (Builtin.zeroCells v.cells k).toList):=by
  by_cases hk:k=0
  ·subst hk
   have:(Builtin.zeroCells v.cells 0).toList = []:=by apply List.eq_nil_of_length_eq_zero;rw [hzl];simp
   rw [this]
   simp [Builtin.clear_,run_underlying hu,World.setCells]
  ·obtain ⟨k',rfl⟩ : ∃ k',k=k'+1:=⟨k-1,by omega⟩
   have hzv:(zeroValue e).run P w = .ok v w:=by simp [zeroValue,typeInfo,e1,e2]
   simp [Builtin.clear_,run_underlying hu,hzv,q1]
 rw [hr]
 exact ⟨_,_,h _ hzl,g.put0 _,q2⟩
theorem Calm.cap {T e : TypeId} {x : Operand} {a : Option Addr} {k c : Nat} {dst : Option Nat} (hT : P.underlying T = some (.slice e)) (hx : ev E x = some (.slice a k c)) : ACalm P N ⟨dst, .call ⟨.builtin .cap, #[x], #[T]⟩, ty, pos, aft, gd⟩ E S (.int .i64 (c : Int)) := fun ac w g hv => by
 simp [execOp,resolve,invoke,builtin,g.ev hx,Builtin.cap_,run_underlying hT,goInt]
end
/-! ### Appending to a slice of one's own -/
/-- The first m things of a slice that is known. -/
def Src (M : Mem) (v : Value) (m : Nat) (news : List Value) : Prop := ∃ A c, v = .slice A m c ∧ (m = 0 ∨ ∃ a, A = some a ∧ M.Knows a news)
theorem Src.less {M M' : Mem} {v : Value} {m : Nat} {news : List Value} (h : Src M v m news) (hl : M.Less M') : Src M' v m news := by
 obtain ⟨A,c,e,h⟩:=h
 exact ⟨A,c,e,h.imp id fun ⟨a,e2,k⟩=>⟨a,e2,k.less hl⟩⟩
theorem flat_length {α : Type} {n : Nat} {f : α → List Value} (hn : ∀ x, (f x).length = n) (l : List α) : (l.flatMap f).length = l.length * n := by
 induction l with
 | nil=>simp
 | cons x l ih=>rw [List.flatMap_cons,List.length_append,hn,ih,List.length_cons,Nat.succ_mul,Nat.add_comm]
theorem flat_split {α : Type} {n : Nat} {f : α → List Value} (hn : ∀ x, (f x).length = n) : ∀ (l : List α) (j : Nat) (v : Value), (l.flatMap f)[j]? = some v → ∃ (i q : Nat) (h : i < l.length), j = i * n + q ∧ q < n ∧ (f l[i])[q]? = some v
 | [],j,v,h=>by simp at h
 | x :: l,j,v,h=>by
  rw [List.flatMap_cons] at h
  by_cases hj:j<(f x).length
  ·rw [List.getElem?_append_left hj] at h
   rw [hn] at hj
   exact ⟨0,j,by simp,by omega,hj,h⟩
  ·rw [List.getElem?_append_right (by omega)] at h
   rw [hn] at hj h
   obtain ⟨i,q,hi,e,hq,hv⟩:=flat_split hn l (j-n) v h
   exact ⟨i+1,q,by simpa using hi,by rw [Nat.succ_mul];omega,hq,by simpa using hv⟩
theorem Sl.allN {α : Type} {n : Nat} {f : α → List Value} (hn : ∀ x, (f x).length = n) {S : Mem} {b off : Nat} {len cap : Nat} {l : List α} (h : Sl n f S (.slice (some ⟨b, off, none⟩) len cap) l) : S.Knows ⟨b, off, none⟩ (l.flatMap f) := fun w hv j v hj => by
 obtain ⟨i,q,hi,rfl,hq,hx⟩:=flat_split hn l j v hj
 have:=h.at1 i hi w hv q v hx
 rw [addr_add] at this ⊢
 rw [← this];congr 2;omega
theorem Sl.src {α : Type} {n : Nat} {f : α → List Value} (hn : ∀ x, (f x).length = n) {S : Mem} {v : Value} {l : List α} (h : Sl n f S v l) : Src S v l.length (l.flatMap f) := by
 obtain ⟨a,c,rfl,_,_,h4⟩:=id h
 refine ⟨a,c,rfl,?_⟩
 rcases h4 with rfl | ⟨b,off,rfl,_⟩
 ·left;rfl
 ·right;exact ⟨_,rfl,Sl.allN hn h⟩
theorem src_own {S : Mem} {b c : Nat} {r : Blk} {news : List Value} {m : Nat} (h : S.own b = some r) (hc : news <+: r.cells) : Src S (.slice (some ⟨b, 0, none⟩) m c) m news := ⟨_, c, rfl, .inr ⟨_, rfl, (rds_prefix h hc).knows⟩⟩
structure AppN (n : Nat) (M S : Mem) (o : Option (Nat × Nat)) (e : TypeId) (cs : List Value) : Prop where
  nil : o = none → cs = [] ∧ S.Less M
  own : ∀ b c, o = some (b, c) → M.own b = some ⟨e, cs, c * n⟩ ∧ S.Less (M.del b)
theorem appN_self {n : Nat} {S : Mem} {o : Option (Nat × Nat)} {k : Nat} {e : TypeId} {cs : List Value} (h : OkO S o k) (hn : cs.length = k * n) : AppN n (outN n S o e cs) S o e cs := by
 refine ⟨fun ho=>?_,fun b c ho=>?_⟩
 ·subst ho
  exact ⟨List.eq_nil_of_length_eq_zero (by rw [hn,h.nil rfl,Nat.zero_mul]),Mem.Less.refl _⟩
 ·subst ho
  refine ⟨Mem.own_set_same _ _ _,?_⟩
  rw [show (outN n S (some (b,c)) e cs).del b=S from set_del_same' (del_base (h.own b c rfl).1)]
  exact Mem.Less.refl _
theorem AppN.temp {n : Nat} {M S : Mem} {o : Option (Nat × Nat)} {e : TypeId} {cs : List Value} {t : Nat} {r : Blk} (h : AppN n M S o e cs) (ht : Fresh M t) : AppN n (M.set t r) S o e cs := by
 refine ⟨fun ho=>⟨(h.nil ho).1,(h.nil ho).2.trans (Mem.less_set _ _ _ ht.1)⟩,fun b c ho=>?_⟩
 obtain ⟨h1,h2⟩:=h.own b c ho
 have hne:=ht.ne h1
 refine ⟨(Mem.own_set_other _ _ hne).trans h1,h2.trans ⟨fun k r' hk=>?_,rfl⟩⟩
 have hkb:k≠b:=fun e=>by subst e;simp [Mem.del] at hk
 rw [Mem.own_del_other _ hkb] at hk ⊢
 exact (Mem.own_set_other _ _ (Ne.symm (ht.ne' hk))).trans hk
section
variable {P : Program} {N : Nat} {ops : Array Oper} {E : Env} {S M : Mem} {K : Env → Mem → Prop}
variable {ty : TypeId} {pos : String} {aft : Array Edge} {gd : Option (Nat × Bool)}
theorem ARun.appendOK {os : List Oper} {T e : TypeId} {n y : Nat} {z : List Value} {x1 x2 : Operand} {o : Option (Nat × Nat)} {k m d : Nat} {cs news : List Value} {v : Value} (hn : d < N) (hT : slT P T = some (e, n, y, z)) (hz : z.length = n)
  (hx:ev E x1=some (outV o k)) (hcs:cs.length=k*n) (hok:OkO S o k) (happ:AppN n M S o e cs) (hy:ev E x2=some v) (hv:Src M v m news) (hnl:news.length=m*n) (h1:∀ v ∈ news,v.oneCell'=true) (hfit:(k+m)*y≤140737488355328) (h63:k+m≤9223372036854775807)
  (h:∀ o',OkO S o' (k+m)→ARun P N ops os K ((d,outV o' (k+m)) :: E) (outN n S o' e (cs ++ news))) :
  ARun P N ops (⟨some d,.call ⟨.builtin .append,#[x1,x2],#[T,T]⟩,ty,pos,aft,none⟩ :: os) K E M:=by
 obtain ⟨A,c2,rfl,hv⟩:=hv
 by_cases hm:m=0
 ·subst hm
  obtain rfl:news = []:=List.eq_nil_of_length_eq_zero (by rw [hnl,Nat.zero_mul])
  have h2:=h o hok
  rw [Nat.add_zero,List.append_nil] at h2
  refine AOp.toLess (K:=fun E' S'=>ARun P N ops os K E' S') ?_
  cases o with
  | none =>
   have h0:=hok.nil rfl;subst h0
   exact ARun.appendNone (os:=[]) hn hT (Nat.le_refl 0) hx hy ⟨S,(happ.nil rfl).2,h2⟩
  | some q =>
   obtain ⟨b,c⟩:=q
   obtain ⟨p1,p2⟩:=happ.own b c rfl
   refine ARun.appendNone (os:=[]) hn hT (hok.own b c rfl).2 hx hy ⟨_,?_,h2⟩
   refine ⟨fun k' r hk=>?_,p2.2⟩
   by_cases ek:k'=b
   ·subst ek;rw [show (outN n S (some (k',c)) e cs).own k'=_ from Mem.own_set_same _ _ _] at hk;rw [p1];exact hk
   ·rw [show (outN n S (some (b,c)) e cs).own k'=_ from Mem.own_set_other _ _ ek] at hk
    have:=p2.1 _ _ hk
    rwa [Mem.own_del_other _ ek] at this
 ·obtain ⟨a2,rfl,hk⟩:=hv.resolve_left hm
  cases o with
  | none =>
   have h0:=hok.nil rfl;subst h0
   obtain ⟨q1,q2⟩:=happ.nil rfl
   subst q1
   refine AOp.toLess (K:=fun E' S'=>ARun P N ops os K E' S') ?_
   refine ARun.appendNilK (os:=[]) hn hT hz hx hy hk hnl (by omega) (by simpa using hfit) (by omega) fun b c hb hc=>?_
   refine ⟨S.set b ⟨e,news,c*n⟩,Less.set q2 _ _,?_⟩
   have:=h (some (b,c)) ⟨(fun x=>by cases x),fun b' c' x=>by cases x;exact ⟨hb.less q2,by omega⟩⟩
   simpa [outN,outV] using this
  | some q =>
   obtain ⟨b0,c0⟩:=q
   obtain ⟨q1,q2⟩:=happ.own b0 c0 rfl
   refine AOp.toLess (K:=fun E' S'=>ARun P N ops os K E' S') ?_
   refine ARun.appendRunK (os:=[]) hn hT hz hx q1 hcs hy hk hnl h1 hfit h63 fun b c hb hc=>?_
   refine ⟨S.set b ⟨e,cs ++ news,c*n⟩,Less.set q2 _ _,?_⟩
   exact h (some (b,c)) ⟨(fun x=>by cases x),fun b' c' x=>by cases x;exact ⟨hb.less q2,hc⟩⟩
end
/-- A slice of one's own, as what is known. -/
theorem sl_outN {α : Type} {n : Nat} {f : α → List Value} (hn : ∀ x, (f x).length = n) {S : Mem} {o : Option (Nat × Nat)} {e : TypeId} {l : List α} {k : Nat} (h : OkO S o k) (hl : l.length = k) (hm : k ≤ 9223372036854775807) : Sl n f (outN n S o e (l.flatMap f)) (outV o k) l := by
 subst hl
 cases o with
 | none=>obtain rfl:l = []:=List.eq_nil_of_length_eq_zero (h.nil rfl);exact Sl.nil _ _ _
 | some q=>exact Sl.own (r:=⟨e,l.flatMap f,q.2*n⟩) (Mem.own_set_same _ _ _) hn List.prefix_rfl rfl (h.own _ _ rfl).2 hm
section
variable {P : Program} {N : Nat} {ops : Array Oper} {E : Env} {S : Mem} {K : Env → Mem → Prop}
variable {ty : TypeId} {pos : String} {aft : Array Edge} {gd : Option (Nat × Bool)}
end
section
variable {P : Program} {N : Nat} {E : Env} {S : Mem} {dst : Option Nat} {ty : TypeId} {pos : String} {aft : Array Edge} {gd : Option (Nat × Bool)}
theorem Calm.sliceHi {T e : TypeId} {x hi : Operand} {kd : IntKind} {j : Int} {b o len cap n : Nat} (h : Nat) (hT : P.underlying T = some (.slice e)) (he : sizeT P e = some n) (hx : ev E x = some (.slice (some ⟨b, o, none⟩) len cap)) (hhi : ev E hi = some (.int kd j)) (hj : j = (h : Int)) (h1 : h ≤ cap) :
  ACalm P N ⟨dst,.slice T x none (some hi) none,ty,pos,aft,gd⟩ E S (.slice (some ⟨b,o,none⟩) h cap):=by
 subst hj
 have:=Calm.sliceHead (S:=S) (N:=N) (dst:=dst) (ty:=ty) (pos:=pos) (aft:=aft) (gd:=gd) hT he hx (bnd_none cap cap) (by simp) (bnd_some len cap hhi (by omega) (by omega))
 rw [Int.toNat_natCast] at this
 exact this
end
end Mv
end Go.Proofs.YtckloanlkpchoaaGreatDoor
namespace Go.Proofs
open Go.Shelf
def Tryz.lays125_ren : Go.Shelf.Ren := ⟨fun | 125 => 74 | 128 => 107 | 129 => 25 | n => n, fun | 46 => 117 | 3 => 3 | 51 => 27 | 53 => 26 | 4 => 4 | 5 => 5 | 9 => 9 | n => n, fun | n => n⟩
theorem Tryz.lays125 : Go.Proofs.Lays.n125 Tryz.prog Tryz.lays125_ren := {
 mixed:=by kernel_rfl
 f125:=Tryz.func74.trans (congrArg some (by kernel_rfl))
 f128:=Tryz.func107.trans (congrArg some (by kernel_rfl))
 f129:=Tryz.func25.trans (congrArg some (by kernel_rfl))
 t3:=Tryz.underlying3
 a3:=Tryz.isAgg3
 z3:=Tryz.sizeOf3
 v3:=Tryz.zeroValue3
 t4:=Tryz.underlying4
 a4:=Tryz.isAgg4
 z4:=Tryz.sizeOf4
 v4:=Tryz.zeroValue4
 t5:=Tryz.underlying5
 a5:=Tryz.isAgg5
 z5:=Tryz.sizeOf5
 v5:=Tryz.zeroValue5
 t9:=Tryz.underlying9
 a9:=Tryz.isAgg9
 z9:=Tryz.sizeOf9
 v9:=Tryz.zeroValue9
 t46:=Tryz.underlying117
 a46:=Tryz.isAgg117
 z46:=Tryz.sizeOf117
 v46:=Tryz.zeroValue117
 t51:=Tryz.underlying27
 a51:=Tryz.isAgg27
 z51:=Tryz.sizeOf27
 v51:=Tryz.zeroValue27
 t53:=Tryz.underlying26
 a53:=Tryz.isAgg26
 z53:=Tryz.sizeOf26
 v53:=Tryz.zeroValue26 }
/-- bits.Len: "Len returns the minimum number of bits required to represent x; the result is 0 for x == 0.": IT RETURNS 'Lib.bitLen x'; the world is as it was. (A uint has 64 bits in the model.) ITS CALLEE bits.Len64 IS MET BY ITS OWN CONTRACT OFF THE SHELF (lay that first). (LAID: no walk: one application.) -/
theorem Tryz.bits_Len (x : Int) (w : World) (h0 : 0 ≤ x) (h1 : x ≤ 18446744073709551615) :
  Calls Tryz.prog 74 #[.int .u64 x] w fun e w'=>e = .returned (.int .i64 (Lib.bitLen x.toNat))∧w'=w:=Any.bits_Len Tryz.lays125 x w h0 h1
end Go.Proofs
namespace Go.Proofs.YtckloanlkpchoaaGreatDoor
namespace Loser
open Num
theorem lessB_trans (a b c : List Nat) (h1 : lessB a b = true) (h2 : lessB b c = true) : lessB a c = true := by
 induction a generalizing b c with
 | nil=>cases b with
  | nil=>simp [lessB] at h1
  | cons y b=>cases c with
   | nil=>simp [lessB] at h2
   | cons z c=>rfl
 | cons x a ih =>
  cases b with
  | nil=>simp [lessB] at h1
  | cons y b =>
   cases c with
   | nil=>simp [lessB] at h2
   | cons z c =>
    simp only [lessB,Bool.or_eq_true,decide_eq_true_eq,Bool.and_eq_true] at h1 h2 ⊢
    rcases h1 with h1 | ⟨h1,h1'⟩ <;> rcases h2 with h2 | ⟨h2,h2'⟩
    ·left;omega
    ·left;omega
    ·left;omega
    ·right;exact ⟨by omega,ih b c h1' h2'⟩
def key (ks : List (List Nat)) (a : Nat) : List Nat := ks.getD a []
/-- Leaf i is under node n, in a tree of k leaves. -/
def under (k n i : Nat) : Prop := ∃ j, (k + i) / 2 ^ j = n
end Loser
end Go.Proofs.YtckloanlkpchoaaGreatDoor
namespace Go.Proofs.YtckloanlkpchoaaGreatDoor
open Num Loser
namespace Ord
/-! ### A list's ends -/
/-- The end at a is less than that at b. -/
def sl (l : List Nat) (a b : Nat) : Bool := lessB (l.drop a) (l.drop b)
theorem sl_irrefl (l : List Nat) (a : Nat) : sl l a a = false := lessB_irrefl _
theorem sl_asymm (l : List Nat) (a b : Nat) (h : sl l a b = true) : sl l b a = false := lessB_asymm _ _ h
theorem sl_trans (l : List Nat) (a b c : Nat) (h1 : sl l a b = true) (h2 : sl l b c = true) : sl l a c = true := lessB_trans _ _ _ h1 h2
theorem sl_total (l : List Nat) (a b : Nat) (ha : a < l.length) (hb : b < l.length) (h1 : sl l a b = false) (h2 : sl l b a = false) : a = b := by
 have h:=congrArg List.length (lessB_total _ _ h1 h2)
 simp only [List.length_drop] at h;omega
/-- Step by step: first the number, then what is behind it. -/
theorem sl_step (l : List Nat) (a b : Nat) (ha : a < l.length) (hb : b < l.length) : sl l a b = (decide (l[a] < l[b]) || (decide (l[a] = l[b]) && sl l (a + 1) (b + 1))) := by
 unfold sl
 rw [List.drop_eq_getElem_cons ha,List.drop_eq_getElem_cons hb,lessB]
theorem sl_end (l : List Nat) (a b : Nat) (ha : l.length ≤ a) : sl l a b = decide (b < l.length) := by
 unfold sl
 rw [List.drop_eq_nil_of_le ha]
 by_cases hb:b<l.length
 ·rw [List.drop_eq_getElem_cons hb];simp [lessB,hb]
 ·rw [List.drop_eq_nil_of_le (by omega)];simp [lessB,hb]
theorem sl_no (l : List Nat) (a b : Nat) (hb : l.length ≤ b) : sl l a b = false := by
 unfold sl
 rw [List.drop_eq_nil_of_le hb]
 cases l.drop a <;> rfl

/-! ### Sorted: there is one -/
/-- Two lists of the same things, each in order by a strict order, are one. -/
theorem sorted_one (R : Nat → Nat → Prop) (hi : ∀ a, ¬R a a) (ht : ∀ a b c, R a b → R b c → R a c) : ∀ (x y : List Nat), x.Perm y → x.Pairwise R → y.Pairwise R → x = y := by
 intro x
 induction x with
 | nil=>intro y h _ _;exact (List.nil_perm.1 h).symm
 | cons a x ih =>
  intro y h hx hy
  cases y with
  | nil=>exact absurd h.symm (List.not_perm_nil_cons _ _)
  | cons b y =>
   obtain ⟨hx1,hx2⟩:=List.pairwise_cons.1 hx
   obtain ⟨hy1,hy2⟩:=List.pairwise_cons.1 hy
   have e:a=b:=by
    rcases List.mem_cons.1 (h.mem_iff.1 (List.mem_cons_self (a:=a) (l:=x))) with e | e
    ·exact e
    ·rcases List.mem_cons.1 (h.mem_iff.2 (List.mem_cons_self (a:=b) (l:=y))) with e' | e'
     ·exact e'.symm
     ·exact absurd (ht _ _ _ (hx1 b e') (hy1 a e)) (hi a)
   subst e
   rw [ih y ((List.perm_cons a).1 h) hx2 hy2]
/-- Ends in order. -/
def SortedE (l e : List Nat) : Prop := e.Perm (List.range l.length) ∧ e.Pairwise (fun a b => sl l a b = true)
theorem sortedE_one {l e e' : List Nat} (h : SortedE l e) (h' : SortedE l e') : e = e' :=
 sorted_one (fun a b=>sl l a b=true) (fun a h=>by rw [sl_irrefl] at h;cases h) (fun a b c=>sl_trans l a b c) _ _ (h.1.trans h'.1.symm) h.2 h'.2
theorem SortedE.len {l e : List Nat} (h : SortedE l e) : e.length = l.length := by rw [h.1.length_eq, List.length_range]
theorem SortedE.lt {l e : List Nat} (h : SortedE l e) {a : Nat} (ha : a ∈ e) : a < l.length := List.mem_range.1 (h.1.mem_iff.1 ha)

/-! ### The document's: each end is put where it belongs -/
/-- The place that is reached from at on downwards. -/
def insAt (l out : List Nat) (i : Nat) : Nat → Nat
  | 0 => 0
  | at' + 1 => if sl l i (out.getD at' 0) then insAt l out i at' else at' + 1
def insE (l out : List Nat) (i : Nat) : List Nat := out.take (insAt l out i out.length) ++ i :: out.drop (insAt l out i out.length)
def endsR (l : List Nat) : Nat → List Nat
  | 0 => []
  | i + 1 => insE l (endsR l i) i
theorem insAt_le (l out : List Nat) (i : Nat) : ∀ n, insAt l out i n ≤ n
 | 0=>Nat.le_refl _
 | n+1=>by
  rw [insAt];split
  ·exact Nat.le_succ_of_le (insAt_le l out i n)
  ·exact Nat.le_refl _
theorem insAt_hi (l out : List Nat) (i : Nat) : ∀ n k, insAt l out i n ≤ k → k < n → sl l i (out.getD k 0) = true
 | 0,k,_,h=>absurd h (Nat.not_lt_zero _)
 | n+1,k,h1,h2=>by
  rw [insAt] at h1;split at h1
  ·rename_i hs
   rcases Nat.lt_or_ge k n with h | h
   ·exact insAt_hi l out i n k h1 h
   ·obtain rfl:k=n:=by omega
    exact hs
  ·omega
theorem insAt_lo (l out : List Nat) (i : Nat) : ∀ n, 0 < insAt l out i n → sl l i (out.getD (insAt l out i n - 1) 0) = false
 | 0,h=>absurd h (Nat.not_lt_zero _)
 | n+1,h=>by
  rw [insAt] at h ⊢;split at h
  ·rename_i hs;rw [if_pos hs];exact insAt_lo l out i n h
  ·rename_i hs;rw [if_neg hs];simpa using hs
theorem endsR_perm (l : List Nat) : ∀ i, (endsR l i).Perm (List.range i)
 | 0=>List.Perm.refl _
 | i+1=>by
  rw [endsR,insE,List.range_succ]
  refine List.perm_middle.trans ?_
  rw [List.take_append_drop]
  exact ((endsR_perm l i).cons i).trans (List.perm_append_singleton i _).symm
theorem endsR_sorted (l : List Nat) : ∀ i, i ≤ l.length → (endsR l i).Pairwise (fun a b => sl l a b = true)
 | 0,_=>List.Pairwise.nil
 | i+1,hi=>by
  have ih:=endsR_sorted l i (by omega)
  have hp:=endsR_perm l i
  have hmem:∀ a ∈ endsR l i,a<i:=fun a ha=>List.mem_range.1 (hp.mem_iff.1 ha)
  rw [endsR,insE]
  generalize endsR l i=out at *
  have hat:=insAt_le l out i out.length
  have hhi:=insAt_hi l out i out.length
  have hlo:=insAt_lo l out i out.length
  generalize insAt l out i out.length=k at *
  have e:=List.take_append_drop k out
  have hpw:(out.take k ++ out.drop k).Pairwise (fun a b=>sl l a b=true):=by rw [e];exact ih
  obtain ⟨p1,p2,p3⟩:=List.pairwise_append.1 hpw
  have hlow:∀ a ∈ out.take k,sl l a i=true:=by
   intro a ha
   have hm:a ∈ out:=List.mem_of_mem_take ha
   obtain ⟨j,hj,rfl⟩:=List.getElem_of_mem ha
   have hk:j<k∧j<out.length:=by rw [List.length_take] at hj;omega
   have h0:=hlo (by omega)
   have hlast:sl l out[k-1] i=true:=by
    have hn:out[k-1]≠i:=fun h=>by have:=hmem out[k-1] (List.getElem_mem _);omega
    rw [List.getD_eq_getElem?_getD,List.getElem?_eq_getElem (by omega),Option.getD_some] at h0
    cases hc:sl l out[k-1] i with
    | true=>rfl
    | false=>exact absurd (sl_total l _ _ (by have:=hmem out[k-1] (List.getElem_mem _);omega) (by omega) hc h0) hn
   simp only [List.getElem_take]
   rcases Nat.lt_or_ge j (k-1) with h | h
   ·exact sl_trans l _ _ _ (List.pairwise_iff_getElem.1 ih j (k-1) hk.2 (by omega) h) hlast
   ·obtain rfl:j=k-1:=by omega
    exact hlast
  have hhigh:∀ a ∈ out.drop k,sl l i a=true:=by
   intro a ha
   obtain ⟨j,hj,rfl⟩:=List.getElem_of_mem ha
   have hk:j+k<out.length:=by simp at hj;omega
   have:=hhi (k+j) (by omega) (by omega)
   rw [List.getD_eq_getElem?_getD,List.getElem?_eq_getElem (by omega),Option.getD_some] at this
   simpa only [List.getElem_drop] using this
  refine List.pairwise_append.2 ⟨p1,List.pairwise_cons.2 ⟨hhigh,p2⟩,fun a ha b hb=>?_⟩
  rcases List.mem_cons.1 hb with rfl | hb
  ·exact hlow a ha
  ·exact p3 a ha b hb
theorem endsR_ok (l : List Nat) : SortedE l (endsR l l.length) := ⟨endsR_perm l _, endsR_sorted l _ (Nat.le_refl _)⟩

/-! ### Right: each is less than the next one by its first number, or by the place of what is behind that -/
/-- The place of what is behind, and one; 0: nothing is behind. -/
def behind (n : Nat) (at_ : Nat → Nat) (a : Nat) : Nat := if a + 1 < n then at_ (a + 1) + 1 else 0
def stepR (l : List Nat) (at_ : Nat → Nat) (a b : Nat) : Prop := l.getD a 0 < l.getD b 0 ∨ l.getD a 0 = l.getD b 0 ∧ behind l.length at_ a < behind l.length at_ b
theorem stepR_trans (l : List Nat) (at_ : Nat → Nat) (a b c : Nat) (h1 : stepR l at_ a b) (h2 : stepR l at_ b c) : stepR l at_ a c := by
 unfold stepR at *;omega
theorem chain_lt {R : Nat → Nat → Prop} (ht : ∀ a b c, R a b → R b c → R a c) (e : List Nat) (h : ∀ k (hk : k + 1 < e.length), R (e[k]'(by omega)) e[k + 1]) : ∀ (i j : Nat) (hj : j < e.length) (hij : i < j), R (e[i]'(by omega)) e[j] := by
 intro i j
 induction j with
 | zero=>intro _ h;omega
 | succ j ih =>
  intro hj hij
  rcases Nat.lt_or_ge i j with h' | h'
  ·exact ht _ _ _ (ih (by omega) h') (h j hj)
  ·obtain rfl:i=j:=by omega
   exact h i hj
/-- All steps hold: the ends are in order. -/
theorem right_sorted (l e : List Nat) (at_ : Nat → Nat) (hp : e.Perm (List.range l.length)) (hat : ∀ k (hk : k < e.length), at_ e[k] = k) (h : ∀ k (hk : k + 1 < e.length), stepR l at_ (e[k]'(by omega)) e[k + 1]) : SortedE l e := by
 have hlen:e.length=l.length:=by rw [hp.length_eq,List.length_range]
 have hch:=chain_lt (stepR_trans l at_) e h
 have hlt:∀ k (hk:k<e.length),e[k]<l.length:=fun k hk=>List.mem_range.1 (hp.mem_iff.1 (List.getElem_mem hk))
 have hall:∀ a,a<l.length→at_ a<e.length∧e.getD (at_ a) 0=a:=by
  intro a ha
  obtain ⟨k,hk,rfl⟩:=List.getElem_of_mem (hp.mem_iff.2 (List.mem_range.2 ha))
  rw [hat k hk];exact ⟨hk,by rw [List.getD_eq_getElem?_getD,List.getElem?_eq_getElem hk];rfl⟩
 have key:∀ m a b,a<l.length→b<l.length→l.length-a≤m→at_ a<at_ b→sl l a b=true:=by
  intro m
  induction m with
  | zero=>intro a b ha _ hm;omega
  | succ m ih =>
   intro a b ha hb hm hab
   obtain ⟨ha1,ha2⟩:=hall a ha
   obtain ⟨hb1,hb2⟩:=hall b hb
   have hs:=hch (at_ a) (at_ b) hb1 hab
   rw [List.getD_eq_getElem?_getD,List.getElem?_eq_getElem ha1,Option.getD_some] at ha2
   rw [List.getD_eq_getElem?_getD,List.getElem?_eq_getElem hb1,Option.getD_some] at hb2
   rw [ha2,hb2] at hs
   rw [sl_step l a b ha hb]
   unfold stepR at hs
   rw [List.getD_eq_getElem?_getD,List.getElem?_eq_getElem ha,Option.getD_some,List.getD_eq_getElem?_getD,List.getElem?_eq_getElem hb,Option.getD_some] at hs
   rcases hs with hs | ⟨hs,hs2⟩
   ·simp [hs]
   ·have:sl l (a+1) (b+1)=true:=by
     unfold behind at hs2
     by_cases h1:a+1<l.length
     ·rw [if_pos h1] at hs2
      by_cases h2:b+1<l.length
      ·rw [if_pos h2] at hs2
       exact ih (a+1) (b+1) h1 h2 (by omega) (by omega)
      ·rw [if_neg h2] at hs2;omega
     ·rw [if_neg h1] at hs2
      rw [sl_end l _ _ (by omega)]
      by_cases h2:b+1<l.length
      ·simpa using h2
      ·rw [if_neg h2] at hs2;omega
    simp [hs,this]
 refine ⟨hp,List.pairwise_iff_getElem.2 fun i j hi hj hij=>?_⟩
 exact key _ _ _ (hlt i hi) (hlt j hj) (Nat.le_refl _) (by rw [hat i hi,hat j hj];exact hij)
/-- In order: all steps hold. -/
theorem sorted_right (l e : List Nat) (at_ : Nat → Nat) (hs : SortedE l e) (hat : ∀ k (hk : k < e.length), at_ e[k] = k) (k : Nat) (hk : k + 1 < e.length) : stepR l at_ (e[k]'(by omega)) e[k + 1] := by
 have hlt:∀ k (hk:k<e.length),e[k]<l.length:=fun k hk=>hs.lt (List.getElem_mem hk)
 have hall:∀ a,a<l.length → ∃ k,∃ hk:k<e.length,e[k]=a∧at_ a=k:=by
  intro a ha
  obtain ⟨k,hk,rfl⟩:=List.getElem_of_mem (hs.1.mem_iff.2 (List.mem_range.2 ha))
  exact ⟨k,hk,rfl,hat k hk⟩
 have hsl:=List.pairwise_iff_getElem.1 hs.2 k (k+1) (by omega) hk (by omega)
 have ha:=hlt k (by omega)
 have hb:=hlt (k+1) hk
 generalize e[k]=a at *
 generalize e[k+1]=b at *
 rw [sl_step l a b ha hb] at hsl
 unfold stepR
 rw [List.getD_eq_getElem?_getD,List.getElem?_eq_getElem ha,Option.getD_some,List.getD_eq_getElem?_getD,List.getElem?_eq_getElem hb,Option.getD_some]
 simp only [Bool.or_eq_true,decide_eq_true_eq,Bool.and_eq_true] at hsl
 rcases hsl with h | ⟨h,h2⟩
 ·exact .inl h
 ·refine .inr ⟨h,?_⟩
  unfold behind
  by_cases h1:b+1<l.length
  ·rw [if_pos h1]
   by_cases h3:a+1<l.length
   ·rw [if_pos h3]
    obtain ⟨i,hi,ei,e1⟩:=hall (a+1) h3
    obtain ⟨j,hj,ej,e2⟩:=hall (b+1) h1
    rw [e1,e2]
    rcases Nat.lt_trichotomy i j with h4 | h4 | h4
    ·omega
    ·subst h4;rw [← ei,← ej,sl_irrefl] at h2;cases h2
    ·have:=sl_asymm l _ _ (List.pairwise_iff_getElem.1 hs.2 j i hj hi h4)
     rw [ei,ej] at this;rw [this] at h2;cases h2
   ·rw [if_neg h3];omega
  ·rw [sl_no l _ _ (by omega)] at h2;cases h2

/-! ### Doubling -/
/-- By the first k numbers. -/
def pl (l : List Nat) (k a b : Nat) : Bool := lessB ((l.drop a).take k) ((l.drop b).take k)
theorem lessB_append : ∀ (x y u v : List Nat), (x.length < y.length → u = []) → (y.length < x.length → v = []) → lessB (x ++ u) (y ++ v) = (lessB x y || (decide (x = y) && lessB u v))
 | [],[],u,v,_,_=>by simp [lessB]
 | [],y :: ys,u,v,h,_=>by rw [h (by simp)];simp [lessB]
 | x :: xs,[],u,v,_,h=>by rw [h (by simp)];simp [lessB]
 | x :: xs,y :: ys,u,v,h1,h2=>by
  have ih:=lessB_append xs ys u v (fun h=>h1 (by simpa using h)) (fun h=>h2 (by simpa using h))
  simp only [List.cons_append,lessB,ih,List.cons.injEq,Bool.decide_and]
  by_cases h:x=y <;> by_cases h':x<y <;> simp [h,h'] <;> omega
def RK (l : List Nat) (k : Nat) (r : Nat → Nat) : Prop := ∀ a b, a < l.length → b < l.length → (r a < r b ↔ pl l k a b = true)
def beh (n : Nat) (r : Nat → Nat) (k a : Nat) : Nat := if a + k < n then r (a + k) + 1 else 0
theorem RK.eq {l : List Nat} {k : Nat} {r : Nat → Nat} (h : RK l k r) {a b : Nat} (ha : a < l.length) (hb : b < l.length) : r a = r b ↔ (l.drop a).take k = (l.drop b).take k := by
 have h1:=h a b ha hb
 have h2:=h b a hb ha
 unfold pl at h1 h2
 constructor
 ·intro e
  refine lessB_total _ _ ?_ ?_
  ·cases hc:lessB ((l.drop a).take k) ((l.drop b).take k) with
   | false=>rfl
   | true=>have:=h1.2 hc;omega
  ·cases hc:lessB ((l.drop b).take k) ((l.drop a).take k) with
   | false=>rfl
   | true=>have:=h2.2 hc;omega
 ·intro e
  rw [e,lessB_irrefl] at h1
  rw [e,lessB_irrefl] at h2
  have h3 : ¬ r a<r b:=fun h=>Bool.noConfusion (h1.1 h)
  have h4 : ¬ r b<r a:=fun h=>Bool.noConfusion (h2.1 h)
  omega
theorem pl_double (l : List Nat) (k : Nat) (hk : 0 < k) (r : Nat → Nat) (h : RK l k r) (a b : Nat) (ha : a < l.length) (hb : b < l.length) :
  pl l (k+k) a b=true ↔ r a<r b∨r a=r b∧beh l.length r k a<beh l.length r k b:=by
 have e:∀ c,(l.drop c).take (k+k)=(l.drop c).take k ++ (l.drop (c+k)).take k:=fun c=>by rw [List.take_add,List.drop_drop]
 have hu:∀ c d,((l.drop c).take k).length<((l.drop d).take k).length→(l.drop (c+k)).take k = []:=fun c d hlt=>by
  rw [List.drop_eq_nil_of_le (by simp only [List.length_take,List.length_drop] at hlt;omega),List.take_nil]
 have hpl:pl l (k+k) a b=(pl l k a b || (decide ((l.drop a).take k=(l.drop b).take k) && pl l k (a+k) (b+k))):=by
  unfold pl;rw [e,e,lessB_append _ _ _ _ (hu a b) (hu b a)]
 rw [hpl]
 simp only [Bool.or_eq_true,Bool.and_eq_true,decide_eq_true_eq]
 rw [← h a b ha hb,← h.eq ha hb]
 have hbeh:pl l k (a+k) (b+k)=true ↔ beh l.length r k a<beh l.length r k b:=by
  unfold beh
  by_cases h2:b+k<l.length
  ·rw [if_pos h2]
   by_cases h1:a+k<l.length
   ·rw [if_pos h1,← h _ _ h1 h2];omega
   ·rw [if_neg h1]
    unfold pl
    obtain ⟨k',rfl⟩ : ∃ k',k=k'+1:=⟨k-1,by omega⟩
    rw [List.drop_eq_nil_of_le (by omega),List.take_nil,List.drop_eq_getElem_cons h2,List.take_succ_cons]
    simp [lessB]
  ·rw [if_neg h2]
   unfold pl
   rw [(show l.drop (b+k) = [] from List.drop_eq_nil_of_le (by omega)),List.take_nil]
   constructor
   ·intro h';cases hc:((l.drop (a+k)).take k) <;> rw [hc] at h' <;> cases h'
   ·intro h';omega
 rw [hbeh]
/-- Beyond the list's end: the order of ends. -/
theorem pl_all (l : List Nat) (k a b : Nat) (hk : l.length ≤ k) : pl l k a b = sl l a b := by
 unfold pl sl
 rw [List.take_of_length_le (by simp;omega),List.take_of_length_le (by simp;omega)]

/-! ### The ranks that a sorted list gives -/
/-- How many steps up there are among the first i steps. -/
def ups (R : Nat → Nat → Bool) (e : List Nat) : Nat → Nat
  | 0 => 0
  | i + 1 => ups R e i + (if R (e.getD i 0) (e.getD (i + 1) 0) then 1 else 0)
theorem ups_mono (R : Nat → Nat → Bool) (e : List Nat) (i : Nat) : ∀ j, i ≤ j → ups R e i ≤ ups R e j
 | 0,h=>by
  obtain rfl:i=0:=by omega
  exact Nat.le_refl _
 | j+1,h=>by
  rcases Nat.lt_or_ge i (j+1) with h' | h'
  ·exact Nat.le_trans (ups_mono R e i j (by omega)) (Nat.le_add_right _ _)
  ·obtain rfl:i=j+1:=by omega
   exact Nat.le_refl _
/-- R: a weak order; e: in order by it. -/
theorem ups_lt (R : Nat → Nat → Bool) (hi : ∀ a, R a a = false) (ht : ∀ a b c, R a b = true → R b c = true → R a c = true) (hn : ∀ a b c, R a b = false → R b c = false → R a c = false)
  (e:List Nat) (hs:∀ i j,i<j→j<e.length→R (e.getD j 0) (e.getD i 0)=false):∀ i j,i≤j→j<e.length→(ups R e i<ups R e j ↔ R (e.getD i 0) (e.getD j 0)=true):=by
 intro i j
 induction j with
 | zero =>
  intro h _;obtain rfl:i=0:=by omega
  rw [hi];simp
 | succ j ih =>
  intro h hj
  rcases Nat.lt_or_ge i (j+1) with h' | h'
  ·have ih':=ih (by omega) (by omega)
   have hm:=ups_mono R e i j (by omega)
   have s1:R (e.getD j 0) (e.getD i 0)=false:=by
    rcases Nat.lt_or_ge i j with h2 | h2
    ·exact hs i j h2 (by omega)
    ·obtain rfl:i=j:=by omega
     exact hi _
   have s2:=hs j (j+1) (by omega) hj
   rw [ups]
   cases hc:R (e.getD j 0) (e.getD (j+1) 0) with
   | true =>
    refine ⟨fun _=>?_,fun _=>by simp;omega⟩
    cases hd:R (e.getD i 0) (e.getD (j+1) 0) with
    | true=>rfl
    | false=>rw [hn _ _ _ s1 hd] at hc;cases hc
   | false =>
    simp only [Bool.false_eq_true,if_false,Nat.add_zero]
    rw [ih']
    constructor
    ·intro hx
     cases hd:R (e.getD i 0) (e.getD (j+1) 0) with
     | true=>rfl
     | false=>rw [hn _ _ _ hd s2] at hx;cases hx
    ·intro hx
     cases hd:R (e.getD i 0) (e.getD j 0) with
     | true=>rfl
     | false=>rw [hn _ _ _ hd hc] at hx;cases hx
  ·obtain rfl:i=j+1:=by omega
   rw [hi];simp

theorem lessB_neg (a b c : List Nat) (h1 : lessB a b = false) (h2 : lessB b c = false) : lessB a c = false := by
 cases h:lessB a c with
 | false=>rfl
 | true =>
  cases h3:lessB b a with
  | true=>rw [lessB_trans _ _ _ h3 h] at h2;cases h2
  | false=>rw [← lessB_total _ _ h1 h3,h] at h2;cases h2
theorem rk_new (l : List Nat) (k : Nat) (e : List Nat) (hp : e.Perm (List.range l.length)) (hs : ∀ i j, i < j → j < e.length → pl l k (e.getD j 0) (e.getD i 0) = false) (r : Nat → Nat)
  (hr:∀ i,i<e.length→r (e.getD i 0)=ups (pl l k) e i):RK l k r:=by
 have hall:∀ a,a<l.length → ∃ i,i<e.length∧e.getD i 0=a:=by
  intro a ha
  obtain ⟨i,hi,rfl⟩:=List.getElem_of_mem (hp.mem_iff.2 (List.mem_range.2 ha))
  exact ⟨i,hi,by rw [List.getD_eq_getElem?_getD,List.getElem?_eq_getElem hi];rfl⟩
 have hlt:=ups_lt (pl l k) (fun _=>lessB_irrefl _) (fun _ _ _=>lessB_trans _ _ _) (fun _ _ _=>lessB_neg _ _ _) e hs
 intro a b ha hb
 obtain ⟨i,hi,rfl⟩:=hall a ha
 obtain ⟨j,hj,rfl⟩:=hall b hb
 rw [hr i hi,hr j hj]
 rcases Nat.lt_or_ge j i with h | h
 ·rw [hs j i h hi]
  have:=ups_mono (pl l k) e j i (by omega)
  constructor
  ·intro h';omega
  ·intro h';cases h'
 ·exact hlt i j h hj
theorem pl_sorted (l : List Nat) (k : Nat) (hk : l.length ≤ k) (e : List Nat) (hp : e.Perm (List.range l.length)) (hs : ∀ i j, i < j → j < e.length → pl l k (e.getD j 0) (e.getD i 0) = false) : SortedE l e := by
 refine ⟨hp,List.pairwise_iff_getElem.2 fun i j hi hj hij=>?_⟩
 have h:=hs i j hij hj
 rw [pl_all l k _ _ hk,List.getD_eq_getElem?_getD,List.getElem?_eq_getElem hj,List.getD_eq_getElem?_getD,List.getElem?_eq_getElem hi,Option.getD_some,Option.getD_some] at h
 have hlt:∀ k (hk:k<e.length),e[k]<l.length:=fun k hk=>List.mem_range.1 (hp.mem_iff.1 (List.getElem_mem hk))
 cases hc:sl l e[i] e[j] with
 | true=>rfl
 | false =>
  have he:=sl_total l _ _ (hlt j hj) (hlt i hi) h hc
  have hnd:e.Nodup:=hp.nodup_iff.2 List.nodup_range
  exact absurd he.symm (List.pairwise_iff_getElem.1 hnd i j hi hj hij)
/-- Ranks by the number itself are ranks by the first one. -/
theorem rk_one (l : List Nat) (r : Nat → Nat) (h : ∀ a b (ha : a < l.length) (hb : b < l.length), r a < r b ↔ l[a] < l[b]) : RK l 1 r := by
 intro a b ha hb
 rw [h a b ha hb]
 unfold pl
 rw [List.drop_eq_getElem_cons ha,List.drop_eq_getElem_cons hb]
 show _ ↔ lessB [l[a]] [l[b]]=true
 simp [lessB]

/-! ### What two ends have in common -/
end Ord
end Go.Proofs.YtckloanlkpchoaaGreatDoor
namespace Go.Proofs.YtckloanlkpchoaaGreatDoor
open Go.RowKit
open Mv Num
set_option maxRecDepth 4000
def gI (k : Nat) : Value := .int .i64 (k : Int)
def gU (k : Nat) : Value := .int .u64 (k : Int)
def gZ (x : Int) : Value := .int .i64 x
theorem getD_get {α : Type} (l : List α) (i : Nat) (z : α) (h : i < l.length) : l.getD i z = l[i] := by rw [List.getD_eq_getElem?_getD, List.getElem?_eq_getElem h]; rfl
def cmpU (x y : Nat) : Int := if x < y then -1 else if y < x then 1 else 0
theorem cmpU_neg (x y : Nat) : cmpU x y < 0 ↔ x < y := by unfold cmpU; split <;> (try split) <;> omega
theorem cmpU_zero (x y : Nat) : cmpU x y = 0 ↔ x = y := by unfold cmpU; split <;> (try split) <;> omega
theorem sl_own2 {S : Mem} {b : Nat} {T : TypeId} {x y : Int} (h : S.own b = some ⟨T, [.int .i64 x, .int .i64 y], 2⟩) : Sl 1 i64s S (.slice (some ⟨b, 0, none⟩) 2 2) [x, y] := Sl.own1 (g := gZ) (l := [x, y]) h List.prefix_rfl rfl (Nat.le_refl _) (by decide)
/-! ### Where each number is -/
theorem pig_le : ∀ (n : Nat) (l : List Nat), l.Nodup → (∀ x ∈ l, x < n) → l.length ≤ n
 | 0,l,_,h=>by
  cases l with
  | nil=>exact Nat.le_refl _
  | cons x l=>exact absurd (h x (List.mem_cons_self ..)) (Nat.not_lt_zero _)
 | n+1,l,hn,h=>by
  by_cases hm:n ∈ l
  ·have:=pig_le n (l.erase n) (hn.erase n) fun x hx=>by
    have h1:=h x (List.mem_of_mem_erase hx)
    have h2:x≠n:=fun e=>by subst e;exact absurd hx (List.Nodup.not_mem_erase hn)
    omega
   rw [List.length_erase_of_mem hm] at this
   omega
  ·have:=pig_le n l hn fun x hx=>by
    have h1:=h x hx
    have h2:x≠n:=fun e=>by subst e;exact hm hx
    omega
   omega
theorem pig : ∀ (n : Nat) (l : List Nat), l.Nodup → (∀ x ∈ l, x < n) → l.length = n → l.Perm (List.range n)
 | 0,l,_,_,hl=>by rw [List.length_eq_zero_iff.1 hl];exact List.Perm.refl _
 | n+1,l,hn,h,hl=>by
  by_cases hm:n ∈ l
  ·have:=pig n (l.erase n) (hn.erase n) (fun x hx=>by
    have h1:=h x (List.mem_of_mem_erase hx)
    have h2:x≠n:=fun e=>by subst e;exact absurd hx (List.Nodup.not_mem_erase hn)
    omega) (by rw [List.length_erase_of_mem hm];omega)
   refine (List.perm_cons_erase hm).trans ?_
   rw [List.range_succ]
   exact (this.cons n).trans (List.perm_append_singleton n _).symm
  ·have:=pig_le n l hn fun x hx=>by
    have h1:=h x hx
    have h2:x≠n:=fun e=>by subst e;exact hm hx
    omega
   omega
def InvOf (l : List Int) (x : List Int) : Prop := x.length = l.length ∧ ∀ j (h : j < l.length), x.getD (l[j]).toNat 0 = (j : Int)
/-- The first i of a list, told. -/
structure InvI (l : List Int) (i : Nat) (x : List Int) : Prop where
  len : x.length = l.length
  rng : ∀ j (h : j < l.length), j < i → 0 ≤ l[j] ∧ l[j] < l.length
  at_ : ∀ j (h : j < l.length), j < i → x.getD (l[j]).toNat 0 = (j : Int)
end Go.Proofs.YtckloanlkpchoaaGreatDoor
namespace Go.Proofs.YtckloanlkpchoaaGreatDoor
open Go.RowKit
namespace Mv
section
variable {P : Program} {N : Nat} {l : List Oper} {W : List Nat} {S0 : Mem} {K : Env → Mem → Prop}
/-- From here on, whatever comes up. -/
def DG (P : Program) (N : Nat) (l : List Oper) (W : List Nat) (S0 : Mem) (K : Env → Mem → Prop) (n : Nat) (listed : Array Bool) (E : Env) (S : Mem) : Prop :=
  ∀ w0 a w, Closed l.toArray listed → Good N E a → View S w → Step S0 w0 S w → wpAnyG P l.toArray (Q0 N K S0 w0) (fun i => W.contains i) (View S0) n listed a w
theorem DG.nil {listed : Array Bool} {E : Env} {S : Mem} (hr : Region.ready .any l.toArray listed = []) (h : K E S) : DG P N l W S0 K 0 listed E S :=
 fun w0 a w _ g hv hs=>⟨hr,E,S,h,g,hs⟩
/-- Each of those that may come up. -/
theorem DG.fork {n : Nat} {listed : Array Bool} {E : Env} {S : Mem} (is : List Nat) (hr : (Region.ready .any l.toArray listed == is) = true) (hne : is ≠ [])
  (h:∀ i ∈ is,∃ o,l[i]?=some o∧AOp P N l.toArray o (fun E' S'=>(W.contains i=false→S0.Less S')∧DG P N l W S0 K n (listed.setIfInBounds i true) E' S') E S):DG P N l W S0 K (n+1) listed E S:=fun w0 a w hcl g hv hs=>by
 have hr:=beq_iff_eq.1 hr
 refine ⟨fun h0=>absurd (hr.symm.trans h0) hne,fun j hj=>?_⟩
 have hj':=hj
 rw [hr] at hj
 obtain ⟨o,ho,hop⟩:=h j hj
 have h1:=hop a w g hv
 unfold wpOp
 have ho':l.toArray[j]?=some o:=by simpa using ho
 simp only [ho']
 have next:∀ a1 w1,Post N (fun E' S'=>(W.contains j=false→S0.Less S')∧DG P N l W S0 K n (listed.setIfInBounds j true) E' S') S w a1 w1→(W.contains j=false→View S0 w→View S0 w1)∧wpAnyG P l.toArray (Q0 N K S0 w0) (fun i=>W.contains i) (View S0) n (listed.setIfInBounds j true) a1 w1:=fun a1 w1 ⟨E1,S1,⟨k1,k2⟩,g1,s1⟩ =>
  ⟨fun hw _=>s1.view.less (k1 hw),k2 w0 a1 w1 (closed_put hcl hj') g1 s1.view (hs.trans s1)⟩
 split
 ·rename_i hw;rw [if_pos hw] at h1
  exact .inl (upon_noQ (Oper.wp_mono next h1))
 ·rename_i hw;rw [if_neg hw] at h1
  exact next _ _ h1
theorem DG.fork1 {n : Nat} {listed : Array Bool} {E : Env} {S : Mem} (i : Nat) (hr : (Region.ready .any l.toArray listed == [i]) = true)
  (h:∃ o,l[i]?=some o∧AOp P N l.toArray o (fun E' S'=>(W.contains i=false→S0.Less S')∧DG P N l W S0 K n (listed.setIfInBounds i true) E' S') E S):DG P N l W S0 K (n+1) listed E S :=
 DG.fork [i] hr (by simp) fun j hj=>by
  have e:j=i:=by simpa using hj
  rw [e];exact h
theorem DG.fork2 {n : Nat} {listed : Array Bool} {E : Env} {S : Mem} (i j : Nat) (hr : (Region.ready .any l.toArray listed == [i, j]) = true)
  (h:∃ o,l[i]?=some o∧AOp P N l.toArray o (fun E' S'=>(W.contains i=false→S0.Less S')∧DG P N l W S0 K n (listed.setIfInBounds i true) E' S') E S)
  (k:∃ o,l[j]?=some o∧AOp P N l.toArray o (fun E' S'=>(W.contains j=false→S0.Less S')∧DG P N l W S0 K n (listed.setIfInBounds j true) E' S') E S):DG P N l W S0 K (n+1) listed E S :=
 DG.fork [i,j] hr (by simp) fun q hq=>by
  rcases List.mem_cons.1 hq with rfl | hq
  ·exact h
  ·obtain rfl:q=j:=by simpa using hq
   exact k
/-- One that only looks is taken first. -/
theorem DG.first {n : Nat} {listed : Array Bool} {E : Env} {S : Mem} (i : Nat) (hsel : Region.noSelect l.toArray = true) (hc1 : mayFirst l W listed i = true)
  (h:∃ o d v,l[i]?=some o∧o.dst=some d∧d<N∧(pureOp o=true∨S0.Less S)∧ACalmG P N l.toArray o E (if pureOp o then noMem else S0) v∧DG P N l W S0 K n (listed.setIfInBounds i true) ((d,v) :: E) S):DG P N l W S0 K (n+1) listed E S:=fun w0 a w hcl g hv hs=>by
 obtain ⟨o,d,v,ho,hd,hn,hless,hcalm,hrest⟩:=h
 simp only [mayFirst,Bool.and_eq_true,Bool.or_eq_true] at hc1
 obtain ⟨⟨hr,hf⟩,hp⟩:=hc1
 have ho':l.toArray[i]?=some o:=by simpa using ho
 have hri:i ∈ Region.ready .any l.toArray listed:=by simpa using hr
 let D:World→Prop:=fun w'=>if pureOp o=true then True else View S0 w'
 have hDw:D w:=by
  simp only [D]
  split
  ·trivial
  ·rename_i hx
   exact hv.less (hless.resolve_left hx)
 have hmem:∀ w',D w'→View (if pureOp o then noMem else S0) w':=fun w' h=>by
  simp only [D] at h
  split
  ·exact view_noMem _
  ·rename_i hx;rw [if_neg hx] at h;exact h
 refine wpAnyG_first (D:=D) (v:=v) ho' (Region.noSelect_spec hsel) (fun c a w h=>h) ?_ n listed a w hcl (Region.free_spec ho' hf) hri ?_ hDw ?_
 ·intro j w1 w2 listed' hcl' hun hj hD1 hpres
  simp only [D] at hD1 ⊢
  split
  ·trivial
  ·rename_i hx
   rw [if_neg hx] at hD1
   refine hpres ?_ hD1
   rcases hp with hp | hp
   ·rw [ho] at hp;exact absurd (by simpa using hp) hx
   ·cases hwc:W.contains j with
    | false=>rfl
    | true =>
     have h1:=List.all_eq_true.1 hp j (by simpa using hwc)
     obtain ⟨hju,oj,hoj,hall⟩:=mem_ready.1 hj
     have h2:=waitsFor_spec h1 listed' hcl' fun o2 ho2 e he hb=>by
      obtain rfl:oj=o2:=Option.some.inj (hoj.symm.trans ho2)
      exact hall e he hb
     rcases Nat.lt_or_ge i listed'.size with hlt | hge
     ·simp [hlt] at hun h2;rw [hun] at h2;cases h2
     ·simp [Array.getElem?_eq_none hge] at h2
 ·by_cases hw:Region.wanted o (yielded l.toArray a.tmps)=true
  ·refine .inl ⟨hw,fun w' hD'=>?_⟩
   rcases hcalm a w' g (hmem w' hD') with h1 | h1
   ·exact h1.2
   ·rw [hw] at h1;cases h1.1
  ·rcases hcalm a w g (hmem w hDw) with h1 | h1
   ·exact absurd h1.1 hw
   ·exact .inr h1
 ·rw [hd]
  exact hrest w0 _ w (closed_put hcl hri) (g.put hn v) hv hs
theorem DG.pure {n : Nat} {listed : Array Bool} {E : Env} {S : Mem} {o : Oper} {d : Nat} {v : Value} (i : Nat) (hsel : Region.noSelect l.toArray = true) (hc1 : mayFirst l W listed i = true) (ho : l[i]? = some o) (hp : pureOp o = true) (hg : o.guard = none) (hd : o.dst = some d) (hn : d < N)
  (hc:∀ S',ACalm P N o E S' v) (h:DG P N l W S0 K n (listed.setIfInBounds i true) ((d,v) :: E) S):DG P N l W S0 K (n+1) listed E S :=
 DG.first i hsel hc1 ⟨o,d,v,ho,hd,hn,.inl hp,fun a w g hv=>.inl ⟨by simp [Region.wanted,hg],hc _ a w g hv⟩,h⟩
theorem DG.look {n : Nat} {listed : Array Bool} {E : Env} {S : Mem} {o : Oper} {d : Nat} {v : Value} (i : Nat) (hsel : Region.noSelect l.toArray = true) (hc1 : mayFirst l W listed i = true) (ho : l[i]? = some o) (hp : pureOp o = false) (hg : o.guard = none) (hd : o.dst = some d) (hn : d < N) (hl : S0.Less S)
  (hc:ACalm P N o E S0 v) (h:DG P N l W S0 K n (listed.setIfInBounds i true) ((d,v) :: E) S):DG P N l W S0 K (n+1) listed E S :=
 DG.first i hsel hc1 ⟨o,d,v,ho,hd,hn,.inr hl,fun a w g hv=>.inl ⟨by simp [Region.wanted,hg],by rw [hp] at hv;exact hc a w g hv⟩,h⟩
theorem DG.only {n : Nat} {listed : Array Bool} {E : Env} {S : Mem} {o : Oper} (i : Nat) (hr : (Region.ready .any l.toArray listed == [i]) = true) (ho : l[i]? = some o)
  (h:ARun P N l.toArray [o] (fun E' S'=>(W.contains i=false→S0.Less S')∧DG P N l W S0 K n (listed.setIfInBounds i true) E' S') E S):DG P N l W S0 K (n+1) listed E S:=DG.fork1 i hr ⟨o,ho,h⟩
theorem DG.two {n : Nat} {listed : Array Bool} {E : Env} {S : Mem} {o o' : Oper} (i j : Nat) (hr : (Region.ready .any l.toArray listed == [i, j]) = true) (ho : l[i]? = some o)
  (h:ARun P N l.toArray [o] (fun E' S'=>(W.contains i=false→S0.Less S')∧DG P N l W S0 K n (listed.setIfInBounds i true) E' S') E S) (ho':l[j]?=some o')
  (h':ARun P N l.toArray [o'] (fun E' S'=>(W.contains j=false→S0.Less S')∧DG P N l W S0 K n (listed.setIfInBounds j true) E' S') E S):DG P N l W S0 K (n+1) listed E S:=DG.fork2 i j hr ⟨o,ho,h⟩ ⟨o',ho',h'⟩
theorem DG.end_ {listed : Array Bool} {E : Env} {S : Mem} (hr : (Region.ready .any l.toArray listed).isEmpty = true) (h : K E S) : DG P N l W S0 K 0 listed E S := DG.nil (by simpa using hr) h
theorem AWP.drawG {id : Nat} {Q : Exit → Env → Mem → Prop} {E : Env} {S : Mem} (W : List Nat) (hm : P.follows .mixedOrders = true)
  (h:DG P N l W S (Q .normal) l.length (Array.replicate l.length false) E S):AWP P N (.region id l.toArray true) Q E S:=fun a w g hv=>by
 refine wp_mono (Q:=Q0 N (Q .normal) S w) ?_ (fun e a' w' x=>by cases e <;> first | exact x | exact x.elim)
 refine wp_region_any hm ?_
 refine wpAny_of_G (W:=fun i=>W.contains i) (C:=View S) _ _ _ _ ?_
 have hst:Step S w S { w with drawn:=w.drawn+1 }:=Step.drawn hv _
 have:=h w a _ (closed_start _ _) g hst.view hst
 simpa using this
end
end Mv
end Go.Proofs.YtckloanlkpchoaaGreatDoor
namespace Go.Proofs.YtckloanlkpchoaaGreatDoor
open Go.RowKit
open Mv Num
set_option maxRecDepth 4000
/-- Ends that are in order. -/
def RightE (l : List Nat) (ends : List Int) : Prop := ∃ e : List Nat, ends = e.map (fun k : Nat => (k : Int)) ∧ Ord.SortedE l e
/-- What is behind a place, or -1. -/
def behZ (n : Nat) (x : List Int) (a : Nat) : Int := if a + 1 < n then x.getD (a + 1) 0 else -1
def cfR (l : List Nat) (x : List Int) (a b : Nat) : Int := orL [cmpU (l.getD a 0) (l.getD b 0), cmpZ (behZ l.length x a) (behZ l.length x b)]
theorem inv_nat {e : List Nat} {x : List Int} (hp : e.Perm (List.range e.length)) (hx : InvOf (e.map (fun k : Nat => (k : Int))) x) (q : Nat) (hq : q < e.length) : ∃ k, ∃ h : k < e.length, e[k] = q ∧ x.getD q 0 = (k : Int) := by
 obtain ⟨j,hj,ej⟩:=List.getElem_of_mem (hp.mem_iff.2 (List.mem_range.2 hq))
 have:=hx.2 j (by rw [List.length_map];exact hj)
 rw [List.getElem_map,Int.toNat_natCast,ej] at this
 exact ⟨j,hj,ej,this⟩
theorem cfR_neg {l e : List Nat} {x : List Int} (hp : e.Perm (List.range e.length)) (hx : InvOf (e.map (fun k : Nat => (k : Int))) x) (hl : e.length = l.length) (a b : Nat) : cfR l x a b < 0 ↔ Ord.stepR l (fun q => (x.getD q 0).toNat) a b := by
 unfold cfR orL orL orL Ord.stepR
 have h1:=cmpU_neg (l.getD a 0) (l.getD b 0)
 have h2:=cmpU_zero (l.getD a 0) (l.getD b 0)
 have h3:=cmpZ_neg (behZ l.length x a) (behZ l.length x b)
 have hb:∀ a,behZ l.length x a=((Ord.behind l.length (fun q=>(x.getD q 0).toNat) a:Nat):Int)-1:=fun a=>by
  unfold behZ Ord.behind
  split
  ·obtain ⟨k,hk,_,e1⟩:=inv_nat hp hx (a+1) (by omega)
   dsimp only;rw [e1];omega
  ·rfl
 have ha:=hb a
 have hb':=hb b
 split
 ·split <;> omega
 ·omega
theorem right_iff {l e : List Nat} {x : List Int} (hp : e.Perm (List.range e.length)) (hx : InvOf (e.map (fun k : Nat => (k : Int))) x) (hl : e.length = l.length) :
  RightE l (e.map (fun k:Nat=>(k:Int))) ↔ ∀ k (hk:k+1<e.length),cfR l x (e[k]'(by omega)) e[k+1]<0:=by
 have hat:∀ k (hk:k<e.length),(x.getD e[k] 0).toNat=k:=fun k hk=>by
  have:=hx.2 k (by rw [List.length_map];exact hk)
  rw [List.getElem_map,Int.toNat_natCast] at this
  rw [this];omega
 constructor
 ·rintro ⟨e',h1,h2⟩ k hk
  have he:e=e':=by
   have:=congrArg (List.map Int.toNat) h1
   simpa [List.map_map,Function.comp_def] using this
  subst he
  rw [cfR_neg hp hx hl]
  exact Ord.sorted_right l e _ h2 hat k hk
 ·intro h
  exact ⟨e,rfl,Ord.right_sorted l e _ (by rw [hl] at hp;exact hp) hat fun k hk=>(cfR_neg hp hx hl _ _).1 (h k hk)⟩
end Go.Proofs.YtckloanlkpchoaaGreatDoor
namespace Go.Proofs.YtckloanlkpchoaaGreatDoor
open Go.RowKit
open Mv Num
set_option maxRecDepth 4000
theorem outN_one (S : Mem) (o : Option (Nat × Nat)) (e : TypeId) (cs : List Value) : outN 1 S o e cs = outM S o e cs := by
 cases o with
 | none=>rfl
 | some q=>show S.set q.1 ⟨e,cs,q.2*1⟩=S.set q.1 ⟨e,cs,q.2⟩;rw [Nat.mul_one]
theorem appN1 {S : Mem} {o : Option (Nat × Nat)} {k : Nat} {e : TypeId} {cs : List Value} (h : OkO S o k) (hn : cs.length = k) : AppN 1 (outM S o e cs) S o e cs := by
 rw [← outN_one];exact appN_self h (by rw [hn,Nat.mul_one])
theorem flat_one {α : Type} (g : α → Value) (L : List α) : L.flatMap (fun x => [g x]) = L.map g := by
 induction L with
 | nil=>rfl
 | cons x l ih=>rw [List.flatMap_cons,List.map_cons,ih];rfl
theorem src_sl {α : Type} {g : α → Value} {S : Mem} {v : Value} {L : List α} (h : Sl 1 (fun x => [g x]) S v L) : Src S v L.length (L.map g) := by
 have:=Sl.src (n:=1) (fun _=>rfl) h
 rw [flat_one] at this;exact this
theorem one_cells {α : Type} {g : α → Value} (hg : ∀ x, (g x).oneCell' = true) (L : List α) : ∀ v ∈ L.map g, v.oneCell' = true := fun v hv => by obtain ⟨x, _, rfl⟩ := List.mem_map.1 hv; exact hg x
end Go.Proofs.YtckloanlkpchoaaGreatDoor
namespace Go.Proofs.YtckloanlkpchoaaGreatDoor
open Go.RowKit
open Mv
namespace Srt
theorem rw_ {p : Prop} (h : p := by first | omega | (simp only [Array.size_setIfInBounds]; omega)) : p := h
theorem sb_ {p : Prop} (h : p := by first | rfl | (refine some_int ?_; first | omega | (dsimp only; omega))) : p := h
section
variable {P : Program} {N : Nat} {ops : Array Oper} {E : Env} {S : Mem} {K : Env → Mem → Prop} {ty : TypeId} {pos : String} {aft : Array Edge}
theorem ARun.storeRow {α : Type} {os : List Oper} {T e : TypeId} {x y : Operand} {b o room : Nat} (enc : α → Value) {d : Array α} {v : α} (k : Nat) (hx : ev E x = some (.pointer (some ⟨b, o, none⟩))) (hy : ev E y = some (enc v)) (hs : sizeT P T = some 1)
  (h1:(enc v).cells = #[enc v]∧(enc v).oneCell'=true) (hb:S.own b=some ⟨e,d.toList.map enc,room⟩) (hk:k<d.size) (ho:o=k) (h:ARun P N ops os K E (S.set b ⟨e,(d.setIfInBounds k v).toList.map enc,room⟩)) :
  ARun P N ops (⟨none,.store T x y,ty,pos,aft,none⟩ :: os) K E S:=by
 subst ho
 refine ARun.store1 hx hy hs h1.1 hb (by simpa using hk) h1.2 ?_
 have:(d.toList.map enc).set o (enc v)=(d.setIfInBounds o v).toList.map enc:=by simp
 rw [this];exact h
end
/-- A function that tells what is less, as a value. -/
structure CmpC {α : Type} (P : Program) (enc : α → Value) (cf : α → α → Int) (okP : α → Prop) (g : Nat) (cb : List Value) (S : Mem) : Prop where
  one : ∀ x, (enc x).cells = #[enc x] ∧ (enc x).oneCell' = true
  go : goFn P g = true
  cmp : ∀ x y, okP x → okP y → ACall P g ([] ++ [enc x, enc y] ++ cb).toArray S fun r S' => r = .int .i64 (cf x y) ∧ S' = S
theorem CmpC.call {α : Type} {P : Program} {enc : α → Value} {cf : α → α → Int} {okP : α → Prop} {g : Nat} {cb : List Value} {S S' : Mem} (C : CmpC P enc cf okP g cb S) (hl : S.Less S') {x y : α} (hx : okP x) (hy : okP y) :
  ACall P g ([] ++ [enc x,enc y] ++ cb).toArray S' fun r S''=>r = .int .i64 (cf x y)∧S''=S':=ACall.pure_more hl (C.cmp x y hx hy)
def lq {α : Type} (cf : α → α → Int) (x y : α) : Bool := decide (cf x y < 0)

variable {α : Type} [Inhabited α]
theorem rd_row {S : Mem} {b : Nat} {T : TypeId} {enc : α → Value} {d : Array α} {room o k : Nat} (h : S.own b = some ⟨T, d.toList.map enc, room⟩) (hk : k < d.size) (ho : o = k) : S.rd ⟨b, o, none⟩ = some (enc d[k]!) := by
 rw [rd_own h,ho,getElem!_pos d k hk];simp [hk]
/-- A row at work: its length, and what holds of each thing in it. -/
structure Rw (okP : α → Prop) (n : Nat) (d : Array α) : Prop where
  size : d.size = n
  ok : ∀ i, i < n → okP d[i]!
theorem Rw.swp {okP : α → Prop} {n : Nat} {d : Array α} (h : Rw okP n d) (i j : Nat) (hi : i < n) (hj : j < n) : Rw okP n (Go.Sort.swp d i j) := by
 refine ⟨by rw [Go.Sort.size_swp,h.size],fun k hk=>?_⟩
 have hs:=h.size
 by_cases h1:k=j
 ·subst h1;rw [Go.Sort.swp_right d i k (by omega)];exact h.ok i hi
 ·by_cases h2:k=i
  ·subst h2;rw [Go.Sort.swp_left d k j (by omega) h1];exact h.ok j hj
  ·rw [Go.Sort.swp_other d i j k h2 h1];exact h.ok k hk
/-! ### The plain sort's steps -/
section
variable (lt : α → α → Bool)
theorem ins_go {a j : Nat} {d : Array α} (h1 : a < j + 1) (h2 : lt d[j + 1]! d[j]! = true) : Go.Sort.insInner lt a j (Go.Sort.swp d (j + 1) j) = Go.Sort.insInner lt a (j + 1) d := by
 rw [Go.Sort.insInner.eq_def lt a (j+1) d];simp only [];rw [if_pos (by simp [h1,h2])]
theorem ins_no {a j : Nat} {d : Array α} (h2 : lt d[j + 1]! d[j]! = false) : d = Go.Sort.insInner lt a (j + 1) d := by
 rw [Go.Sort.insInner];rw [if_neg (by simp [h2])]
theorem ins_end {a j : Nat} {d : Array α} (h1 : ¬ a < j) : d = Go.Sort.insInner lt a j d := by
 cases j with
 | zero=>rfl
 | succ j=>rw [Go.Sort.insInner];rw [if_neg (by simp;omega)]
theorem outer_go {a b i : Nat} {d : Array α} (h : i < b) : Go.Sort.insOuter lt a b (i + 1) (Go.Sort.insInner lt a i d) = Go.Sort.insOuter lt a b i d := by
 rw [Go.Sort.insOuter.eq_def lt a b i d,if_pos h]
theorem outer_end {a b i : Nat} {d : Array α} (h : ¬ i < b) : d = Go.Sort.insOuter lt a b i d := by
 rw [Go.Sort.insOuter,if_neg h]
/-- The child that is looked at. -/
def child (hi first root : Nat) (d : Array α) : Nat := if 2 * root + 2 < hi ∧ lt d[first + (2 * root + 1)]! d[first + (2 * root + 2)]! = true then 2 * root + 2 else 2 * root + 1
theorem sift_leaf {hi first root : Nat} {d : Array α} (h : hi ≤ 2 * root + 1) : d = Go.Sort.siftDown lt hi first root d := by
 rw [Go.Sort.siftDown,dif_pos h]
theorem sift_stop {hi first root : Nat} {d : Array α} (h : ¬ hi ≤ 2 * root + 1) (h2 : lt d[first + root]! d[first + child lt hi first root d]! = false) : d = Go.Sort.siftDown lt hi first root d := by
 rw [Go.Sort.siftDown,dif_neg h]
 unfold child at h2
 by_cases hc:2*root+2<hi∧lt d[first+(2*root+1)]! d[first+(2*root+2)]! = true
 ·rw [if_pos hc] at h2
  rw [if_pos (by simp;exact hc),if_pos (by simp [h2])]
 ·rw [if_neg hc] at h2
  rw [if_neg (fun h=>hc (by simp only [Bool.and_eq_true,decide_eq_true_eq] at h;exact h)),if_pos (by simp [h2])]
theorem sift_go {hi first root : Nat} {d : Array α} (h : ¬ hi ≤ 2 * root + 1) (h2 : lt d[first + root]! d[first + child lt hi first root d]! = true) :
  Go.Sort.siftDown lt hi first (child lt hi first root d) (Go.Sort.swp d (first+root) (first+child lt hi first root d))=Go.Sort.siftDown lt hi first root d:=by
 rw [Go.Sort.siftDown.eq_def lt hi first root d,dif_neg h]
 unfold child at *
 by_cases hc:2*root+2<hi∧lt d[first+(2*root+1)]! d[first+(2*root+2)]! = true
 ·rw [if_pos hc] at h2 ⊢
  rw [if_pos (by simp;exact hc),if_neg (by simp [h2]),dif_pos hc.1]
 ·rw [if_neg hc] at h2 ⊢
  rw [if_neg (fun h=>hc (by simp only [Bool.and_eq_true,decide_eq_true_eq] at h;exact h)),if_neg (by simp [h2])]
theorem up_go {p : α → Bool} {d : Array α} {i j : Nat} (h : i ≤ j) (h2 : p d[i]! = true) : Go.Sort.scanUp p d j (i + 1) = Go.Sort.scanUp p d j i := by
 rw [Go.Sort.scanUp.eq_def p d j i,if_pos (by simp [h,h2])]
theorem up_end {p : α → Bool} {d : Array α} {i j : Nat} (h : ¬ i ≤ j) : i = Go.Sort.scanUp p d j i := by
 rw [Go.Sort.scanUp,if_neg (by simp;omega)]
theorem up_no {p : α → Bool} {d : Array α} {i j : Nat} (h : p d[i]! = false) : i = Go.Sort.scanUp p d j i := by
 rw [Go.Sort.scanUp,if_neg (by simp [h])]
theorem down_go {p : α → Bool} {d : Array α} {i j : Nat} (h : i ≤ j + 1) (h2 : p d[j + 1]! = true) : Go.Sort.scanDown p d i j = Go.Sort.scanDown p d i (j + 1) := by
 rw [Go.Sort.scanDown.eq_def p d i (j+1)];simp only [];rw [if_pos (by simp [h,h2])]
theorem down_end {p : α → Bool} {d : Array α} {i j : Nat} (h : ¬ i ≤ j) : j = Go.Sort.scanDown p d i j := by
 cases j with
 | zero=>rfl
 | succ j=>rw [Go.Sort.scanDown];rw [if_neg (by simp;omega)]
theorem down_no {p : α → Bool} {d : Array α} {i j : Nat} (h0 : 0 < j) (h : p d[j]! = false) : j = Go.Sort.scanDown p d i j := by
 cases j with
 | zero=>omega
 | succ j=>rw [Go.Sort.scanDown];rw [if_neg (by simp [h])]
theorem part_stop {a i j i2 j2 : Nat} {d : Array α} (h1 : i2 = Go.Sort.scanUp (fun x => lt x d[a]!) d j i) (h2 : j2 = Go.Sort.scanDown (fun x => !lt x d[a]!) d i2 j) (h : j2 < i2) : (j2, d) = Go.Sort.partLoop lt a i j d := by
 rw [Go.Sort.partLoop_eq,← h1,← h2,if_pos h]
theorem part_go {a i j i2 j2 : Nat} {d : Array α} (h1 : i2 = Go.Sort.scanUp (fun x => lt x d[a]!) d j i) (h2 : j2 = Go.Sort.scanDown (fun x => !lt x d[a]!) d i2 j) (h : ¬ j2 < i2) : Go.Sort.partLoop lt a (i2 + 1) (j2 - 1) (Go.Sort.swp d i2 j2) = Go.Sort.partLoop lt a i j d := by
 rw [Go.Sort.partLoop_eq lt a i j d,← h1,← h2,if_neg h]
theorem parteq_stop {a i j i2 j2 : Nat} {d : Array α} (h1 : i2 = Go.Sort.scanUp (fun x => !lt d[a]! x) d j i) (h2 : j2 = Go.Sort.scanDown (fun x => lt d[a]! x) d i2 j) (h : j2 < i2) : (i2, d) = Go.Sort.partEqLoop lt a i j d := by
 rw [Go.Sort.partEqLoop_eq,← h1,← h2,if_pos h]
theorem parteq_go {a i j i2 j2 : Nat} {d : Array α} (h1 : i2 = Go.Sort.scanUp (fun x => !lt d[a]! x) d j i) (h2 : j2 = Go.Sort.scanDown (fun x => lt d[a]! x) d i2 j) (h : ¬ j2 < i2) : Go.Sort.partEqLoop lt a (i2 + 1) (j2 - 1) (Go.Sort.swp d i2 j2) = Go.Sort.partEqLoop lt a i j d := by
 rw [Go.Sort.partEqLoop_eq lt a i j d,← h1,← h2,if_neg h]
theorem ss_go {d : Array α} {b i : Nat} (h : i < b) (h2 : lt d[i]! d[i - 1]! = false) : Go.Sort.scanSorted lt d b (i + 1) = Go.Sort.scanSorted lt d b i := by
 rw [Go.Sort.scanSorted.eq_def lt d b i,if_pos (by simp [h,h2])]
theorem ss_end {d : Array α} {b i : Nat} (h : ¬ i < b) : i = Go.Sort.scanSorted lt d b i := by
 rw [Go.Sort.scanSorted,if_neg (by simp;omega)]
theorem ss_no {d : Array α} {b i : Nat} (h2 : lt d[i]! d[i - 1]! = true) : i = Go.Sort.scanSorted lt d b i := by
 rw [Go.Sort.scanSorted,if_neg (by simp [h2])]
theorem sd_go {j : Nat} {d : Array α} (h2 : lt d[j + 1]! d[j]! = true) : Go.Sort.shiftDown lt j (Go.Sort.swp d (j + 1) j) = Go.Sort.shiftDown lt (j + 1) d := by
 rw [Go.Sort.shiftDown.eq_def lt (j+1) d];simp only [];rw [if_neg (by simp [h2])]
theorem sd_no {j : Nat} {d : Array α} (h2 : lt d[j + 1]! d[j]! = false) : d = Go.Sort.shiftDown lt (j + 1) d := by
 rw [Go.Sort.shiftDown];rw [if_pos (by simp [h2])]
theorem su_go {b j : Nat} {d : Array α} (h : j < b) (h2 : lt d[j]! d[j - 1]! = true) : Go.Sort.shiftUp lt b (j + 1) (Go.Sort.swp d j (j - 1)) = Go.Sort.shiftUp lt b j d := by
 rw [Go.Sort.shiftUp.eq_def lt b j d,if_pos h,if_neg (by simp [h2])]
theorem su_no {b j : Nat} {d : Array α} (h2 : lt d[j]! d[j - 1]! = false) : d = Go.Sort.shiftUp lt b j d := by
 rw [Go.Sort.shiftUp];split
 ·rw [if_pos (by simp [h2])]
 ·rfl
theorem su_end {b j : Nat} {d : Array α} (h : ¬ j < b) : d = Go.Sort.shiftUp lt b j d := by
 rw [Go.Sort.shiftUp,if_neg h]
theorem rev_go {i j : Nat} {d : Array α} (h : i < j) : Go.Sort.reverseLoop (i + 1) (j - 1) (Go.Sort.swp d i j) = Go.Sort.reverseLoop i j d := by
 rw [Go.Sort.reverseLoop.eq_def i j d,if_pos h]
theorem rev_end {i j : Nat} {d : Array α} (h : ¬ i < j) : d = Go.Sort.reverseLoop i j d := by
 rw [Go.Sort.reverseLoop,if_neg h]
end
end Srt
end Go.Proofs.YtckloanlkpchoaaGreatDoor
namespace Go.Proofs.YtckloanlkpchoaaGreatDoor
open Go.RowKit
open Mv
namespace Srt
open Go.Sort (swp scanUp scanDown partLoop partition partEqLoop partitionEqual)
theorem nt_ {p : Bool} (h : (!p) = true) : p = false := by cases p <;> simp_all
theorem nf_ {p : Bool} (h : (!p) = false) : p = true := by cases p <;> simp_all
def ltN (x y : Nat) : Bool := decide (x < y)
theorem lq_ {α : Type} {cf : α → α → Int} {x y : α} : lq cf x y = decide (cf x y < 0) := rfl
def PartR (α : Type) [Inhabited α] (M : Array α → Mem) (okP : α → Prop) (n : Nat) (q : Nat × Bool × Array α) (a e : Nat) (r : Value) (S' : Mem) : Prop :=
  r = .tuple #[.int .i64 (q.1 : Int), .bool q.2.1] ∧ S' = M q.2.2 ∧ Rw okP n q.2.2 ∧ a ≤ q.1 ∧ q.1 < e
def PartEqR (α : Type) [Inhabited α] (M : Array α → Mem) (okP : α → Prop) (n : Nat) (q : Nat × Array α) (a e : Nat) (r : Value) (S' : Mem) : Prop :=
  r = .int .i64 (q.1 : Int) ∧ S' = M q.2 ∧ Rw okP n q.2 ∧ a < q.1 ∧ q.1 ≤ e
section
variable {α : Type} [Inhabited α] (lt : α → α → Bool)
theorem part_res1 {M : Array α → Mem} {okP : α → Prop} {n a p J i j : Nat} {d d0 : Array α} (hd : d0 = swp d a p) (hU : i = scanUp (fun x => lt x d0[a]!) d0 J (a + 1)) (hD : j = scanDown (fun x => !lt x d0[a]!) d0 i J) (hx : j < i)
  (R:Rw okP n (swp d0 j a)) (h1:a≤j) (h2:j≤J):PartR α M okP n (partition lt d a (J+1) p) a (J+1) (.tuple #[.int .i64 (j:Int),.bool true]) (M (swp d0 j a)):=by
 have e:partition lt d a (J+1) p=(j,true,swp d0 j a):=by
  unfold partition
  simp only [Nat.add_sub_cancel,← hd,← hU,← hD]
  rw [if_pos hx]
 rw [e];exact ⟨rfl,rfl,R,h1,by show j<J+1;omega⟩
theorem part_res2 {M : Array α → Mem} {okP : α → Prop} {n a p J i j j3 : Nat} {d d0 d3 : Array α} (hd : d0 = swp d a p) (hU : i = scanUp (fun x => lt x d0[a]!) d0 J (a + 1)) (hD : j = scanDown (fun x => !lt x d0[a]!) d0 i J) (hx : ¬ j < i)
  (h3:(j3,d3)=partLoop lt a (i+1) (j-1) (swp d0 i j)) (R:Rw okP n (swp d3 j3 a)) (h1:a≤j3) (h2:j3≤J):PartR α M okP n (partition lt d a (J+1) p) a (J+1) (.tuple #[.int .i64 (j3:Int),.bool false]) (M (swp d3 j3 a)):=by
 have e:partition lt d a (J+1) p=(j3,false,swp d3 j3 a):=by
  unfold partition
  simp only [Nat.add_sub_cancel,← hd,← hU,← hD]
  rw [if_neg hx,← h3]
 rw [e];exact ⟨rfl,rfl,R,h1,by show j3<J+1;omega⟩
theorem parteq_res {M : Array α → Mem} {okP : α → Prop} {n a p J i : Nat} {d d0 d3 : Array α} (hd : d0 = swp d a p) (h3 : (i, d3) = partEqLoop lt a (a + 1) J d0) (R : Rw okP n d3) (h1 : a + 1 ≤ i) (h2 : i ≤ J + 1) :
  PartEqR α M okP n (partitionEqual lt d a (J+1) p) a (J+1) (.int .i64 (i:Int)) (M d3):=by
 have e:partitionEqual lt d a (J+1) p=(i,d3):=by
  unfold partitionEqual
  rw [Nat.add_sub_cancel,← hd,← h3]
 rw [e];exact ⟨rfl,rfl,R,h1,h2⟩
end
end Srt
end Go.Proofs.YtckloanlkpchoaaGreatDoor
namespace Go.Proofs.YtckloanlkpchoaaGreatDoor
open Go.RowKit
open Mv Srt
set_option maxRecDepth 4000
theorem bitLen_bits (x : Nat) (h : x < 2 ^ 64) : Lib.bitLen x = Go.Sort.bitsLen x := by
 induction x using Nat.strongRecOn with
 | _ x ih =>
  by_cases h0:x=0
  ·subst h0;rfl
  ·rw [Lib.bitLen_half x h0 h,ih (x / 2) (by omega) (by omega)]
   unfold Go.Sort.bitsLen
   rw [if_neg h0,Nat.log2_def x]
   by_cases h2:2≤x
   ·rw [if_pos h2,if_neg (by omega)];omega
   ·obtain rfl:x=1:=by omega
    simp
theorem so_Len (x : Nat) (hx : x < 9223372036854775808) (S : Mem) : ACall Tryz.prog 74 #[.int .u64 (x : Int)] S fun r S' => r = .int .i64 (Go.Sort.bitsLen x : Nat) ∧ S' = S := by
 refine ACall.of_same fun w=>?_
 have h:=Tryz.bits_Len (x:Int) w (by omega) (by omega)
 rw [Int.toNat_natCast,bitLen_bits x (by omega)] at h
 exact h
theorem bitsLen_small (L : Nat) (h : L ≤ 1048576) : Go.Sort.bitsLen L ≤ 21 := (Go.Sort.bitsLen_le_iff L 21).2 (by omega)
set_option maxHeartbeats 1000000 in
theorem so_pow (iL : Int) (L : Nat) (eL : iL = L) (hL : L ≤ 1048576) (S : Mem) : ACall Tryz.prog 132 #[.int .i64 iL] S fun r S' => r = .int .u64 ((1 <<< Go.Sort.bitsLen L : Nat) : Int) ∧ S' = S := by
 subst eL
 have hb:=bitsLen_small L hL
 have hp:IntKind.u64.wrap (1*2 ^ ((Go.Sort.bitsLen L:Nat):Int).toNat)=((1 <<< Go.Sort.bitsLen L:Nat):Int):=by
  rw [Int.toNat_natCast,Nat.one_shiftLeft,Int.one_mul]
  have h1:(2:Nat) ^ Go.Sort.bitsLen L≤2 ^ 21:=Nat.pow_le_pow_right (by omega) hb
  have h2:((2:Int) ^ Go.Sort.bitsLen L)=((2 ^ Go.Sort.bitsLen L:Nat):Int):=by simp
  rw [h2]
  generalize 2 ^ Go.Sort.bitsLen L=M at *
  exact IntWalk.u64_in _ (by omega)
 generalize hK:Go.Sort.bitsLen L=K at *
 refine ACall.enter (rs:=[.tmp 2]) 7 [(0,.int .i64 L)] Tryz.func132 rfl rfl (Nat.le_of_ble_eq_true rfl) rfl ⟨rfl,trivial⟩ ?_
 iterate 9 refine s1_ ?_
 refine ca_ rfl ((hK ▸ so_Len L (by omega) S)) ?_
 rintro _ S1 ⟨rfl,h1⟩
 rw [h1];clear h1 S1
 refine rC (Calm.as (congrArg (Value.int .u64) hp) (Calm.bin rfl rfl (bin_shl (by omega) (by show ((K:Nat):Int)≤64;omega)))) ?_
 iterate 3 refine s1_ ?_
 refine su_ [(0,_),(2,_)] ?_
 refine s1_ ?_
 refine ⟨_,S,⟨_,_,rfl,rfl,rfl⟩,less_,?_⟩
 exact ⟨rfl,rfl⟩
theorem xor_nat64 (a b : Nat) (ha : a < 18446744073709551616) (hb : b < 18446744073709551616) : bits .xor .u64 (a : Int) (b : Int) = ((a ^^^ b : Nat) : Int) := by
 have h:a ^^^ b<2 ^ 64:=Nat.xor_lt_two_pow (by omega) (by omega)
 show IntKind.u64.wrap (((BitVec.ofInt 64 (a:Int)) ^^^ (BitVec.ofInt 64 (b:Int))).toNat:Int)=_
 rw [BitVec.ofInt_natCast,BitVec.ofInt_natCast,BitVec.toNat_xor,BitVec.toNat_ofNat,BitVec.toNat_ofNat,Nat.mod_eq_of_lt (by omega),Nat.mod_eq_of_lt (by omega)]
 exact IntWalk.u64_in _ (by omega)
theorem wrap_u64 (n : Nat) : IntKind.u64.wrap (n : Int) = ((n % 18446744073709551616 : Nat) : Int) := by
 simp [IntKind.wrap,IntKind.bits,IntKind.signed]
def xorB (x : Nat) : Blk := ⟨224, [.int .u64 (x : Int)], 1⟩
set_option maxHeartbeats 1000000 in
theorem so_next (c : Nat) (r : UInt64) (S : Mem) (hc : Fresh S c) :
  ACall Tryz.prog 133 #[.pointer (some ⟨c,0,none⟩)] (S.set c (xorB r.toNat)) fun v S'=>v = .int .u64 (((Go.Sort.xorNext r).toNat:Nat):Int)∧S'=S.set c (xorB (Go.Sort.xorNext r).toNat):=by
 have hx:r.toNat<18446744073709551616:=r.toNat_lt
 rw [Go.Sort.xorNext_toNat]
 unfold Go.Sort.xorNextN
 generalize r.toNat=x at *
 have p:(18446744073709551616:Nat)=2 ^ 64:=by decide
 obtain ⟨y,hy⟩ : ∃ y,y=x ^^^ (x*8192 % 18446744073709551616):=⟨_,rfl⟩
 have y1:y<18446744073709551616:=by rw [hy,p];exact Nat.xor_lt_two_pow (by omega) (by omega)
 obtain ⟨z,hz⟩ : ∃ z,z=y ^^^ (y / 128):=⟨_,rfl⟩
 have z1:z<18446744073709551616:=by rw [hz,p];exact Nat.xor_lt_two_pow (by omega) (by omega)
 have e1:∀ (t:TypeId) (a b:Operand),Bin Tryz.prog .shl t a b (.int .u64 (x:Int)) (.int .u64 13) (.int .u64 ((x*8192 % 18446744073709551616:Nat):Int)):=fun t a b=>by
  have h:=bin_shl (P:=Tryz.prog) (t:=t) (x:=a) (y:=b) (k:=.u64) (k':=.u64) (a:=(x:Int)) (b:=13) (by decide) (by decide)
  have e:IntKind.u64.wrap ((x:Int)*2 ^ (13:Int).toNat)=((x*8192 % 18446744073709551616:Nat):Int):=wrap_u64 (x*8192)
  rw [e] at h;exact h
 have e2:∀ (t:TypeId) (a b:Operand),Bin Tryz.prog .shr t a b (.int .u64 (y:Int)) (.int .u64 7) (.int .u64 ((y / 128:Nat):Int)):=fun t a b =>
  bin_shr (P:=Tryz.prog) (t:=t) (x:=a) (y:=b) (k:=.u64) (k':=.u64) (a:=(y:Int)) (b:=7) (by decide) (by decide)
 have e3:∀ (t:TypeId) (a b:Operand),Bin Tryz.prog .shl t a b (.int .u64 (z:Int)) (.int .u64 17) (.int .u64 ((z*131072 % 18446744073709551616:Nat):Int)):=fun t a b=>by
  have h:=bin_shl (P:=Tryz.prog) (t:=t) (x:=a) (y:=b) (k:=.u64) (k':=.u64) (a:=(z:Int)) (b:=17) (by decide) (by decide)
  have e:IntKind.u64.wrap ((z:Int)*2 ^ (17:Int).toNat)=((z*131072 % 18446744073709551616:Nat):Int):=wrap_u64 (z*131072)
  rw [e] at h;exact h
 have x1:=xor_nat64 x (x*8192 % 18446744073709551616) hx (Nat.mod_lt _ (by decide))
 have x2:=xor_nat64 y (y / 128) y1 (by omega)
 have x3:=xor_nat64 z (z*131072 % 18446744073709551616) z1 (Nat.mod_lt _ (by decide))
 rw [← hy] at x1
 rw [← hz] at x2
 simp only [← hy,← hz]
 clear hy hz
 unfold xorB
 refine ACall.enter (rs:=[.tmp 2]) 33 [(0,.pointer (some ⟨c,0,none⟩))] Tryz.func133 rfl rfl (Nat.le_of_ble_eq_true rfl) rfl ⟨rfl,trivial⟩ ?_
 iterate 6 refine s1_ ?_
 refine AWP.draw [(0,true),(1,true),(2,true),(3,true),(4,true),(5,true),(6,true),(7,true),(8,true),(9,false)] [9] mixed (by kernel_rfl) ?_
 iterate 6 refine s1_ ?_
 refine dP (hc:=fun _=>Calm.bin rfl rfl (e1 _ _ _)) (h:=?_)
 refine dP (hc:=fun _=>Calm.bin rfl rfl (bin_xorE x1)) (h:=?_)
 refine s1_ ?_
 refine draw_only rfl ?_
 refine s1_ ?_
 refine arun_nil ⟨fun h=>absurd h (by decide),?_⟩
 iterate 2 refine s1_ ?_
 refine su_ [(0,_),(2,_)] ?_
 refine s1_ ?_
 refine AWP.draw [(0,true),(1,true),(2,true),(3,true),(4,true),(5,true),(6,true),(7,true),(8,true),(9,false)] [9] mixed (by kernel_rfl) ?_
 iterate 6 refine s1_ ?_
 refine dP (hc:=fun _=>Calm.bin rfl rfl (e2 _ _ _)) (h:=?_)
 refine dP (hc:=fun _=>Calm.bin rfl rfl (bin_xorE x2)) (h:=?_)
 refine s1_ ?_
 refine draw_only rfl ?_
 refine s1_ ?_
 refine arun_nil ⟨fun h=>absurd h (by decide),?_⟩
 iterate 2 refine s1_ ?_
 refine su_ [(0,_),(2,_)] ?_
 refine s1_ ?_
 refine AWP.draw [(0,true),(1,true),(2,true),(3,true),(4,true),(5,true),(6,true),(7,true),(8,true),(9,false)] [9] mixed (by kernel_rfl) ?_
 iterate 6 refine s1_ ?_
 refine dP (hc:=fun _=>Calm.bin rfl rfl (e3 _ _ _)) (h:=?_)
 refine dP (hc:=fun _=>Calm.bin rfl rfl (bin_xorE x3)) (h:=?_)
 refine s1_ ?_
 refine draw_only rfl ?_
 refine s1_ ?_
 refine arun_nil ⟨fun h=>absurd h (by decide),?_⟩
 iterate 2 refine s1_ ?_
 refine su_ [(0,_),(2,_)] ?_
 iterate 8 refine s1_ ?_
 refine su_ [(0,_),(2,_)] ?_
 refine s1_ ?_
 refine ⟨_,_,⟨_,_,rfl,rfl,rfl⟩,Mem.Less.refl _,?_⟩
 exact ⟨rfl,rfl⟩
end Go.Proofs.YtckloanlkpchoaaGreatDoor
namespace Go.Proofs.YtckloanlkpchoaaGreatDoor
open Go.RowKit
open Mv Srt
open Go.Sort (swp insInner insOuter insertionSort siftDown heapBuild heapPop heapSort scanUp scanDown partLoop partition partEqLoop partitionEqual scanSorted shiftDown shiftUp partialIns partialInsertionSort order2 median medianAdjacent choosePivot reverseLoop reverseRange breakStep breakPatterns pdq bitsLen xorNext Hint)
set_option maxRecDepth 4000
set_option maxHeartbeats 4000000 in
theorem soC_ins {α : Type} [Inhabited α] {enc : α → Value} {cf : α → α → Int} {okP : α → Prop} {g : Nat} {cb : List Value} {S : Mem} (C : CmpC Tryz.prog enc cf okP g cb S) (b room n cap : Nat) (hb : Fresh S b) (hn : n ≤ 1048576) (d : Array α) (R : Rw okP n d) (ia ie : Int) (a e : Nat) (ha : ia = a) (he : ie = e) (han : a ≤ n) (hen : e ≤ n) :
  ACall Tryz.prog 123 #[.slice (some ⟨b,0,none⟩) n cap,.int .i64 ia,.int .i64 ie,.func (.func g) #[] cb.toArray] (S.set b ⟨3,(d).toList.map enc,room⟩) fun r S'=>S'=S.set b ⟨3,(insertionSort (lq cf) d a e).toList.map enc,room⟩∧Rw okP n (insertionSort (lq cf) d a e):=by
 subst ha he
 refine ACall.enter (rs:=[]) 53 [(0,.slice (some ⟨b,0,none⟩) n cap),(1,.int .i64 a),(2,.int .i64 e),(3,.func (.func g) #[] cb.toArray)] Tryz.func123 rfl rfl (Nat.le_of_ble_eq_true rfl) rfl ⟨rfl,rfl,rfl,rfl,trivial⟩ ?_
 iterate 7 refine s1_ ?_
 refine su_ [(0,_),(1,_),(2,_),(3,_),(8,_)] ?_
 refine s1_ ?_
 refine AWP.loop (X:=Nat × Array α) (fun x=>[(0,.slice (some ⟨b,0,none⟩) n cap),(1,.int .i64 a),(2,.int .i64 e),(3,.func (.func g) #[] cb.toArray),(8,.int .i64 x.1)]) (fun x=>S.set b ⟨3,(x.2).toList.map enc,room⟩) (fun x=>a<x.1∧(x.1≤n∨e≤x.1)∧Rw okP n x.2∧insOuter (lq cf) a e x.1 x.2=insertionSort (lq cf) d a e) (fun x=>e-x.1) ((a+1,d)) ⟨sb_,sb_,sb_,sb_,sb_,trivial⟩ (Mem.Less.refl _) (⟨by omega,by omega,R,rfl⟩) ?_
 rintro ⟨i,d1⟩ ⟨h1,h2,R1,h3⟩
 (try dsimp only at *)
 have z1:=R1.size
 by_cases hi:i<e
 ·iterate 8 refine s1_ ?_
  refine su_ [(0,_),(1,_),(2,_),(3,_),(8,_),(14,_)] ?_
  refine cT_ ?_
  iterate 10 refine s1_ ?_
  refine su_ [(0,_),(1,_),(2,_),(3,_),(8,_),(14,_),(9,_)] ?_
  refine s1_ ?_
  refine AWP.loop (X:=Nat × Array α) (fun x=>[(0,.slice (some ⟨b,0,none⟩) n cap),(1,.int .i64 a),(2,.int .i64 e),(3,.func (.func g) #[] cb.toArray),(8,.int .i64 i),(9,.int .i64 x.1)]) (fun x=>S.set b ⟨3,(x.2).toList.map enc,room⟩) (fun x=>x.1≤i∧Rw okP n x.2∧insInner (lq cf) a x.1 x.2=insInner (lq cf) a i d1) (fun x=>x.1) ((i,d1)) ⟨rfl,rfl,rfl,rfl,rfl,rfl,trivial⟩ (Mem.Less.refl _) (⟨Nat.le_refl _,R1,rfl⟩) ?_
  rintro ⟨j,d2⟩ ⟨k1,R2,k3⟩
  (try dsimp only at *)
  have z2:=R2.size
  have q0:=outer_go (lq cf) (a:=a) (d:=d1) hi
  by_cases ha:a<j
  ·obtain ⟨j,rfl⟩ : ∃ q,j=q+1:=⟨j-1,by omega⟩
   iterate 2 refine s1_ ?_
   refine AWP.draw [(0,true),(1,true),(2,true),(3,true),(4,true),(5,true),(6,true),(7,true),(8,true),(9,true),(10,true),(11,true),(12,true),(13,true),(14,false),(15,true),(16,true)] [] mixed (by kernel_rfl) ?_
   iterate 8 refine s1_ ?_
   first|refine k_d ?_|refine dL (hc:=Calm.load ty_plain_3 rfl (rd_row (k:=j+1) own_ rw_ rw_)) (h:=?_)
   iterate 4 refine s1_ ?_
   first|refine k_d ?_|refine dL (hc:=Calm.load ty_plain_3 rfl (rd_row (k:=j) own_ rw_ rw_)) (h:=?_)
   refine draw_only rfl ?_
   refine rUn 21 ?_
   refine ARun.callV (first:=[]) (cap:=cb) (lit_lt rfl) C.go rfl rfl (C.call less_ (R2.ok (j+1) rw_) (R2.ok (j) rw_)) ?_
   rintro _ _ ⟨rfl,rfl⟩
   refine arun_nil ⟨fun _=>less_,?_⟩
   iterate 4 refine s1_ ?_
   refine su_ [(0,_),(1,_),(2,_),(3,_),(8,_),(9,_),(34,_)] ?_
   refine AWP.condB rfl (fun hl=>?_) (fun hl=>?_)
   ·iterate 4 refine s1_ ?_
    refine AWP.draw [(0,true),(1,true),(2,true),(3,true),(4,true),(5,true),(6,true),(7,true),(8,true),(9,true),(10,true),(11,true),(12,true),(13,true),(14,true),(15,false),(16,true),(17,false)] [15,17] mixed (by kernel_rfl) ?_
    iterate 9 refine s1_ ?_
    refine dC (hc:=Calm.load ty_plain_3 rfl (rd_row (k:=j) own_ rw_ rw_)) (h:=?_)
    iterate 3 refine s1_ ?_
    refine dC (hc:=Calm.load ty_plain_3 rfl (rd_row (k:=j+1) own_ rw_ rw_)) (h:=?_)
    refine s1_ ?_
    refine draw_only rfl ?_
    refine ARun.storeRow enc (j+1) rfl rfl ty_size_3 (C.one _) own_ rw_ rw_ ?_
    try simp only [k_ms,k_sz,k_ss,k_za,Nat.reduceAdd]
    refine arun_nil ⟨fun h=>absurd h (by decide),?_⟩
    refine s1_ ?_
    refine draw_only rfl ?_
    refine ARun.storeRow enc (j) rfl rfl ty_size_3 (C.one _) own_ rw_ rw_ ?_
    try simp only [k_ms,k_sz,k_ss,k_za,Nat.reduceAdd]
    refine arun_nil ⟨fun h=>absurd h (by decide),?_⟩
    iterate 3 refine s1_ ?_
    refine su_ [(0,_),(1,_),(2,_),(3,_),(8,_),(9,_),(34,_)] ?_
    iterate 6 refine s1_ ?_
    refine ⟨(j,swp d2 (j+1) j),?_,?_,?_,?_⟩
    all_goals (try dsimp only)
    ·exact ⟨sb_,sb_,sb_,sb_,sb_,sb_,trivial⟩
    ·exact Mem.Less.refl _
    ·exact ⟨by omega,R2.swp _ _ (by omega) (by omega),(ins_go (lq cf) ha hl).trans k3⟩
    ·omega
   ·iterate 12 refine s1_ ?_
    refine ⟨(i+1,d2),?_,?_,?_,?_⟩
    all_goals (try dsimp only)
    ·exact ⟨sb_,sb_,sb_,sb_,sb_,trivial⟩
    ·exact Mem.Less.refl _
    ·exact ⟨by omega,by omega,R2,by rw [← k3,← ins_no (lq cf) hl] at q0;exact q0.trans h3⟩
    ·omega
  ·iterate 2 refine s1_ ?_
   refine AWP.draw [(0,true),(1,true),(2,true),(3,true),(4,true),(5,true),(6,true),(7,true),(8,true),(9,true),(10,true),(11,true),(12,true),(13,true),(14,false),(15,true),(16,true)] [] mixed (by kernel_rfl) ?_
   iterate 8 refine s1_ ?_
   first|refine k_d ?_|refine dL (hc:=Calm.load ty_plain_3 rfl (rd_row (k:=j+1) own_ rw_ rw_)) (h:=?_)
   iterate 4 refine s1_ ?_
   first|refine k_d ?_|refine dL (hc:=Calm.load ty_plain_3 rfl (rd_row (k:=j) own_ rw_ rw_)) (h:=?_)
   refine draw_only rfl ?_
   refine s1_ ?_
   refine arun_nil ⟨fun _=>less_,?_⟩
   iterate 4 refine s1_ ?_
   refine su_ [(0,_),(1,_),(2,_),(3,_),(8,_),(9,_),(34,_)] ?_
   refine cF_ ?_
   iterate 12 refine s1_ ?_
   refine ⟨(i+1,d2),?_,?_,?_,?_⟩
   all_goals (try dsimp only)
   ·exact ⟨sb_,sb_,sb_,sb_,sb_,trivial⟩
   ·exact Mem.Less.refl _
   ·exact ⟨by omega,by omega,R2,by rw [← k3,← ins_end (lq cf) ha] at q0;exact q0.trans h3⟩
   ·omega
 ·iterate 8 refine s1_ ?_
  refine su_ [(0,_),(1,_),(2,_),(3,_),(8,_),(14,_)] ?_
  refine cF_ ?_
  iterate 4 refine s1_ ?_
  refine ⟨_,_,rfl,Mem.Less.refl _,?_⟩
  rw [← h3,← outer_end (lq cf) hi];exact ⟨rfl,R1⟩
set_option maxHeartbeats 4000000 in
theorem soC_sift {α : Type} [Inhabited α] {enc : α → Value} {cf : α → α → Int} {okP : α → Prop} {g : Nat} {cb : List Value} {S : Mem} (C : CmpC Tryz.prog enc cf okP g cb S) (b room n cap : Nat) (hb : Fresh S b) (hn : n ≤ 1048576) (d : Array α) (R : Rw okP n d) (il ih iF : Int) (lo hi first : Nat) (el : il = lo) (eh : ih = hi) (ef : iF = first) (hlo : lo ≤ n) (hfn : first + hi ≤ n) :
  ACall Tryz.prog 143 #[.slice (some ⟨b,0,none⟩) n cap,.int .i64 il,.int .i64 ih,.int .i64 iF,.func (.func g) #[] cb.toArray] (S.set b ⟨3,(d).toList.map enc,room⟩) fun r S'=>S'=S.set b ⟨3,(siftDown (lq cf) hi first lo d).toList.map enc,room⟩∧Rw okP n (siftDown (lq cf) hi first lo d):=by
 subst el eh ef
 refine ACall.enter (rs:=[]) 82 [(0,.slice (some ⟨b,0,none⟩) n cap),(1,.int .i64 lo),(2,.int .i64 hi),(3,.int .i64 first),(4,.func (.func g) #[] cb.toArray)] Tryz.func143 rfl rfl (Nat.le_of_ble_eq_true rfl) rfl ⟨rfl,rfl,rfl,rfl,rfl,trivial⟩ ?_
 iterate 6 refine s1_ ?_
 refine su_ [(0,_),(1,_),(2,_),(3,_),(4,_),(10,_)] ?_
 refine s1_ ?_
 refine AWP.loop (X:=Nat × Array α) (fun x=>[(0,.slice (some ⟨b,0,none⟩) n cap),(2,.int .i64 hi),(3,.int .i64 first),(4,.func (.func g) #[] cb.toArray),(10,.int .i64 x.1)]) (fun x=>S.set b ⟨3,(x.2).toList.map enc,room⟩) (fun x=>x.1≤n∧Rw okP n x.2∧siftDown (lq cf) hi first x.1 x.2=siftDown (lq cf) hi first lo d) (fun x=>n+1-x.1) ((lo,d)) ⟨rfl,rfl,rfl,rfl,rfl,trivial⟩ (Mem.Less.refl _) (⟨hlo,R,rfl⟩) ?_
 rintro ⟨r,d1⟩ ⟨h1,R1,h3⟩
 (try dsimp only at *)
 have z1:=R1.size
 by_cases hc:hi≤2*r+1
 ·iterate 9 refine s1_ ?_
  refine su_ [(0,_),(2,_),(3,_),(4,_),(10,_),(11,_)] ?_
  iterate 8 refine s1_ ?_
  refine su_ [(0,_),(2,_),(3,_),(4,_),(10,_),(11,_),(18,_)] ?_
  refine cT_ ?_
  iterate 5 refine s1_ ?_
  refine ⟨_,_,rfl,Mem.Less.refl _,?_⟩
  rw [← h3,← sift_leaf (lq cf) hc];exact ⟨rfl,R1⟩
 ·iterate 9 refine s1_ ?_
  refine su_ [(0,_),(2,_),(3,_),(4,_),(10,_),(11,_)] ?_
  iterate 8 refine s1_ ?_
  refine su_ [(0,_),(2,_),(3,_),(4,_),(10,_),(11,_),(18,_)] ?_
  refine cF_ ?_
  by_cases h2:2*r+2<hi
  ·iterate 4 refine s1_ ?_
   refine AWP.draw [(0,true),(1,true),(2,true),(3,true),(4,true),(5,true),(6,true),(7,true),(8,true),(9,true),(10,true),(11,true),(12,true),(13,true),(14,true),(15,true),(16,true),(17,true),(18,true),(19,false),(20,true),(21,true)] [] mixed (by kernel_rfl) ?_
   iterate 11 refine s1_ ?_
   first|refine k_d ?_|refine dL (hc:=Calm.load ty_plain_3 rfl (rd_row (k:=first+(2*r+1)) own_ rw_ rw_)) (h:=?_)
   iterate 6 refine s1_ ?_
   first|refine k_d ?_|refine dL (hc:=Calm.load ty_plain_3 rfl (rd_row (k:=first+(2*r+2)) own_ rw_ rw_)) (h:=?_)
   refine draw_only rfl ?_
   refine rUn 23 ?_
   refine ARun.callV (first:=[]) (cap:=cb) (lit_lt rfl) C.go rfl rfl (C.call less_ (R1.ok (first+(2*r+1)) rw_) (R1.ok (first+(2*r+2)) rw_)) ?_
   rintro _ _ ⟨rfl,rfl⟩
   refine arun_nil ⟨fun _=>less_,?_⟩
   iterate 4 refine s1_ ?_
   refine su_ [(0,_),(2,_),(3,_),(4,_),(10,_),(11,_),(18,_),(40,_)] ?_
   refine AWP.condB rfl (fun hl=>?_) (fun hl=>?_)
   ·have ch:child (lq cf) hi first r d1=2*r+2:=if_pos ⟨h2,hl⟩
    iterate 6 refine s1_ ?_
    refine su_ [(0,_),(2,_),(3,_),(4,_),(10,_),(11,_),(18,_),(40,_)] ?_
    iterate 2 refine s1_ ?_
    refine AWP.draw [(0,true),(1,true),(2,true),(3,true),(4,true),(5,true),(6,true),(7,true),(8,true),(9,true),(10,true),(11,true),(12,true),(13,false),(14,true),(15,true)] [] mixed (by kernel_rfl) ?_
    iterate 6 refine s1_ ?_
    refine dC (hc:=Calm.load ty_plain_3 rfl (rd_row (k:=first+r) own_ rw_ rw_)) (h:=?_)
    iterate 5 refine s1_ ?_
    refine dC (hc:=Calm.load ty_plain_3 rfl (rd_row (k:=first+(2*r+2)) own_ rw_ rw_)) (h:=?_)
    refine draw_only rfl ?_
    refine ARun.callV (first:=[]) (cap:=cb) (lit_lt rfl) C.go rfl rfl (C.call less_ (R1.ok (first+r) rw_) (R1.ok (first+(2*r+2)) rw_)) ?_
    rintro _ _ ⟨rfl,rfl⟩
    refine arun_nil ⟨fun _=>less_,?_⟩
    iterate 4 refine s1_ ?_
    refine su_ [(0,_),(2,_),(3,_),(4,_),(10,_),(11,_),(18,_),(40,_),(58,_)] ?_
    refine AWP.condB rfl (fun hl2=>?_) (fun hl2=>?_)
    ·have hl2:=nt_ hl2
     iterate 5 refine s1_ ?_
     refine ⟨_,_,rfl,Mem.Less.refl _,?_⟩
     rw [← h3,← sift_stop (lq cf) hc (by rw [ch];exact hl2)];exact ⟨rfl,R1⟩
    ·have hl2:=nf_ hl2
     iterate 3 refine s1_ ?_
     refine AWP.draw [(0,true),(1,true),(2,true),(3,true),(4,true),(5,true),(6,true),(7,true),(8,true),(9,true),(10,true),(11,true),(12,true),(13,true),(14,true),(15,true),(16,true),(17,true),(18,true),(19,true),(20,true),(21,false),(22,true),(23,false)] [21,23] mixed (by kernel_rfl) ?_
     iterate 13 refine s1_ ?_
     refine dC (hc:=Calm.load ty_plain_3 rfl (rd_row (k:=first+(2*r+2)) own_ rw_ rw_)) (h:=?_)
     iterate 5 refine s1_ ?_
     refine dC (hc:=Calm.load ty_plain_3 rfl (rd_row (k:=first+r) own_ rw_ rw_)) (h:=?_)
     refine s1_ ?_
     refine draw_only rfl ?_
     refine ARun.storeRow enc (first+r) rfl rfl ty_size_3 (C.one _) own_ rw_ rw_ ?_
     try simp only [k_ms,k_sz,k_ss,k_za,Nat.reduceAdd]
     refine arun_nil ⟨fun h=>absurd h (by decide),?_⟩
     refine s1_ ?_
     refine draw_only rfl ?_
     refine ARun.storeRow enc (first+(2*r+2)) rfl rfl ty_size_3 (C.one _) own_ rw_ rw_ ?_
     try simp only [k_ms,k_sz,k_ss,k_za,Nat.reduceAdd]
     refine arun_nil ⟨fun h=>absurd h (by decide),?_⟩
     iterate 2 refine s1_ ?_
     refine su_ [(0,_),(2,_),(3,_),(4,_),(10,_),(11,_),(18,_),(40,_),(58,_)] ?_
     iterate 6 refine s1_ ?_
     refine ⟨(2*r+2,swp d1 (first+r) (first+(2*r+2))),?_,?_,?_,?_⟩
     all_goals (try dsimp only)
     ·exact ⟨sb_,sb_,sb_,sb_,sb_,trivial⟩
     ·exact Mem.Less.refl _
     ·exact ⟨by omega,R1.swp _ _ (by omega) (by omega),by have q0:=sift_go (lq cf) hc (by rw [ch];exact hl2);rw [ch] at q0;exact q0.trans h3⟩
     ·omega
   ·have ch:child (lq cf) hi first r d1=2*r+1:=if_neg (fun h=>Bool.noConfusion (hl.symm.trans h.2))
    iterate 4 refine s1_ ?_
    refine AWP.draw [(0,true),(1,true),(2,true),(3,true),(4,true),(5,true),(6,true),(7,true),(8,true),(9,true),(10,true),(11,true),(12,true),(13,false),(14,true),(15,true)] [] mixed (by kernel_rfl) ?_
    iterate 6 refine s1_ ?_
    refine dC (hc:=Calm.load ty_plain_3 rfl (rd_row (k:=first+r) own_ rw_ rw_)) (h:=?_)
    iterate 5 refine s1_ ?_
    refine dC (hc:=Calm.load ty_plain_3 rfl (rd_row (k:=first+(2*r+1)) own_ rw_ rw_)) (h:=?_)
    refine draw_only rfl ?_
    refine ARun.callV (first:=[]) (cap:=cb) (lit_lt rfl) C.go rfl rfl (C.call less_ (R1.ok (first+r) rw_) (R1.ok (first+(2*r+1)) rw_)) ?_
    rintro _ _ ⟨rfl,rfl⟩
    refine arun_nil ⟨fun _=>less_,?_⟩
    iterate 4 refine s1_ ?_
    refine su_ [(0,_),(2,_),(3,_),(4,_),(10,_),(11,_),(18,_),(40,_),(58,_)] ?_
    refine AWP.condB rfl (fun hl2=>?_) (fun hl2=>?_)
    ·have hl2:=nt_ hl2
     iterate 5 refine s1_ ?_
     refine ⟨_,_,rfl,Mem.Less.refl _,?_⟩
     rw [← h3,← sift_stop (lq cf) hc (by rw [ch];exact hl2)];exact ⟨rfl,R1⟩
    ·have hl2:=nf_ hl2
     iterate 3 refine s1_ ?_
     refine AWP.draw [(0,true),(1,true),(2,true),(3,true),(4,true),(5,true),(6,true),(7,true),(8,true),(9,true),(10,true),(11,true),(12,true),(13,true),(14,true),(15,true),(16,true),(17,true),(18,true),(19,true),(20,true),(21,false),(22,true),(23,false)] [21,23] mixed (by kernel_rfl) ?_
     iterate 13 refine s1_ ?_
     refine dC (hc:=Calm.load ty_plain_3 rfl (rd_row (k:=first+(2*r+1)) own_ rw_ rw_)) (h:=?_)
     iterate 5 refine s1_ ?_
     refine dC (hc:=Calm.load ty_plain_3 rfl (rd_row (k:=first+r) own_ rw_ rw_)) (h:=?_)
     refine s1_ ?_
     refine draw_only rfl ?_
     refine ARun.storeRow enc (first+r) rfl rfl ty_size_3 (C.one _) own_ rw_ rw_ ?_
     try simp only [k_ms,k_sz,k_ss,k_za,Nat.reduceAdd]
     refine arun_nil ⟨fun h=>absurd h (by decide),?_⟩
     refine s1_ ?_
     refine draw_only rfl ?_
     refine ARun.storeRow enc (first+(2*r+1)) rfl rfl ty_size_3 (C.one _) own_ rw_ rw_ ?_
     try simp only [k_ms,k_sz,k_ss,k_za,Nat.reduceAdd]
     refine arun_nil ⟨fun h=>absurd h (by decide),?_⟩
     iterate 2 refine s1_ ?_
     refine su_ [(0,_),(2,_),(3,_),(4,_),(10,_),(11,_),(18,_),(40,_),(58,_)] ?_
     iterate 6 refine s1_ ?_
     refine ⟨(2*r+1,swp d1 (first+r) (first+(2*r+1))),?_,?_,?_,?_⟩
     all_goals (try dsimp only)
     ·exact ⟨sb_,sb_,sb_,sb_,sb_,trivial⟩
     ·exact Mem.Less.refl _
     ·exact ⟨by omega,R1.swp _ _ (by omega) (by omega),by have q0:=sift_go (lq cf) hc (by rw [ch];exact hl2);rw [ch] at q0;exact q0.trans h3⟩
     ·omega
  ·iterate 4 refine s1_ ?_
   refine AWP.draw [(0,true),(1,true),(2,true),(3,true),(4,true),(5,true),(6,true),(7,true),(8,true),(9,true),(10,true),(11,true),(12,true),(13,true),(14,true),(15,true),(16,true),(17,true),(18,true),(19,false),(20,true),(21,true)] [] mixed (by kernel_rfl) ?_
   iterate 11 refine s1_ ?_
   first|refine k_d ?_|refine dL (hc:=Calm.load ty_plain_3 rfl (rd_row (k:=first+(2*r+1)) own_ rw_ rw_)) (h:=?_)
   iterate 6 refine s1_ ?_
   first|refine k_d ?_|refine dL (hc:=Calm.load ty_plain_3 rfl (rd_row (k:=first+(2*r+2)) own_ rw_ rw_)) (h:=?_)
   refine draw_only rfl ?_
   refine s1_ ?_
   refine arun_nil ⟨fun _=>less_,?_⟩
   iterate 4 refine s1_ ?_
   refine su_ [(0,_),(2,_),(3,_),(4,_),(10,_),(11,_),(18,_),(40,_)] ?_
   refine cF_ ?_
   have ch:child (lq cf) hi first r d1=2*r+1:=if_neg (fun h=>h2 h.1)
   iterate 4 refine s1_ ?_
   refine AWP.draw [(0,true),(1,true),(2,true),(3,true),(4,true),(5,true),(6,true),(7,true),(8,true),(9,true),(10,true),(11,true),(12,true),(13,false),(14,true),(15,true)] [] mixed (by kernel_rfl) ?_
   iterate 6 refine s1_ ?_
   refine dC (hc:=Calm.load ty_plain_3 rfl (rd_row (k:=first+r) own_ rw_ rw_)) (h:=?_)
   iterate 5 refine s1_ ?_
   refine dC (hc:=Calm.load ty_plain_3 rfl (rd_row (k:=first+(2*r+1)) own_ rw_ rw_)) (h:=?_)
   refine draw_only rfl ?_
   refine ARun.callV (first:=[]) (cap:=cb) (lit_lt rfl) C.go rfl rfl (C.call less_ (R1.ok (first+r) rw_) (R1.ok (first+(2*r+1)) rw_)) ?_
   rintro _ _ ⟨rfl,rfl⟩
   refine arun_nil ⟨fun _=>less_,?_⟩
   iterate 4 refine s1_ ?_
   refine su_ [(0,_),(2,_),(3,_),(4,_),(10,_),(11,_),(18,_),(40,_),(58,_)] ?_
   refine AWP.condB rfl (fun hl2=>?_) (fun hl2=>?_)
   ·have hl2:=nt_ hl2
    iterate 5 refine s1_ ?_
    refine ⟨_,_,rfl,Mem.Less.refl _,?_⟩
    rw [← h3,← sift_stop (lq cf) hc (by rw [ch];exact hl2)];exact ⟨rfl,R1⟩
   ·have hl2:=nf_ hl2
    iterate 3 refine s1_ ?_
    refine AWP.draw [(0,true),(1,true),(2,true),(3,true),(4,true),(5,true),(6,true),(7,true),(8,true),(9,true),(10,true),(11,true),(12,true),(13,true),(14,true),(15,true),(16,true),(17,true),(18,true),(19,true),(20,true),(21,false),(22,true),(23,false)] [21,23] mixed (by kernel_rfl) ?_
    iterate 13 refine s1_ ?_
    refine dC (hc:=Calm.load ty_plain_3 rfl (rd_row (k:=first+(2*r+1)) own_ rw_ rw_)) (h:=?_)
    iterate 5 refine s1_ ?_
    refine dC (hc:=Calm.load ty_plain_3 rfl (rd_row (k:=first+r) own_ rw_ rw_)) (h:=?_)
    refine s1_ ?_
    refine draw_only rfl ?_
    refine ARun.storeRow enc (first+r) rfl rfl ty_size_3 (C.one _) own_ rw_ rw_ ?_
    try simp only [k_ms,k_sz,k_ss,k_za,Nat.reduceAdd]
    refine arun_nil ⟨fun h=>absurd h (by decide),?_⟩
    refine s1_ ?_
    refine draw_only rfl ?_
    refine ARun.storeRow enc (first+(2*r+1)) rfl rfl ty_size_3 (C.one _) own_ rw_ rw_ ?_
    try simp only [k_ms,k_sz,k_ss,k_za,Nat.reduceAdd]
    refine arun_nil ⟨fun h=>absurd h (by decide),?_⟩
    iterate 2 refine s1_ ?_
    refine su_ [(0,_),(2,_),(3,_),(4,_),(10,_),(11,_),(18,_),(40,_),(58,_)] ?_
    iterate 6 refine s1_ ?_
    refine ⟨(2*r+1,swp d1 (first+r) (first+(2*r+1))),?_,?_,?_,?_⟩
    all_goals (try dsimp only)
    ·exact ⟨sb_,sb_,sb_,sb_,sb_,trivial⟩
    ·exact Mem.Less.refl _
    ·exact ⟨by omega,R1.swp _ _ (by omega) (by omega),by have q0:=sift_go (lq cf) hc (by rw [ch];exact hl2);rw [ch] at q0;exact q0.trans h3⟩
    ·omega
set_option maxHeartbeats 4000000 in
theorem soC_heap {α : Type} [Inhabited α] {enc : α → Value} {cf : α → α → Int} {okP : α → Prop} {g : Nat} {cb : List Value} {S : Mem} (C : CmpC Tryz.prog enc cf okP g cb S) (b room n cap : Nat) (hb : Fresh S b) (hn : n ≤ 1048576) (d : Array α) (R : Rw okP n d) (ia ie : Int) (a e : Nat) (ha : ia = a) (he : ie = e) (hae : a < e) (hen : e ≤ n) :
  ACall Tryz.prog 124 #[.slice (some ⟨b,0,none⟩) n cap,.int .i64 ia,.int .i64 ie,.func (.func g) #[] cb.toArray] (S.set b ⟨3,(d).toList.map enc,room⟩) fun r S'=>S'=S.set b ⟨3,(heapSort (lq cf) d a e).toList.map enc,room⟩∧Rw okP n (heapSort (lq cf) d a e):=by
 subst ha he
 obtain ⟨L,rfl⟩ : ∃ L,e=a+L:=⟨e-a,by omega⟩
 have hH:heapPop (lq cf) a L (heapBuild (lq cf) L a ((L-1) / 2+1) d)=heapSort (lq cf) d a (a+L):=by unfold heapSort;rw [Nat.add_sub_cancel_left]
 refine ACall.enter (rs:=[]) 60 [(0,.slice (some ⟨b,0,none⟩) n cap),(1,.int .i64 a),(2,.int .i64 ((a+L:Nat):Int)),(3,.func (.func g) #[] cb.toArray)] Tryz.func124 rfl rfl (Nat.le_of_ble_eq_true rfl) rfl ⟨rfl,rfl,rfl,rfl,trivial⟩ ?_
 iterate 6 refine s1_ ?_
 refine su_ [(0,_),(1,_),(2,_),(3,_),(8,_)] ?_
 iterate 13 refine s1_ ?_
 refine su_ [(0,_),(1,_),(2,_),(3,_),(8,_),(9,_),(10,_)] ?_
 iterate 9 refine s1_ ?_
 refine su_ [(0,_),(1,_),(2,_),(3,_),(8,_),(9,_),(10,_),(11,_)] ?_
 refine s1_ ?_
 refine AWP.loop (X:=Nat × Array α) (fun x=>[(0,.slice (some ⟨b,0,none⟩) n cap),(3,.func (.func g) #[] cb.toArray),(8,.int .i64 a),(9,.int .i64 0),(10,.int .i64 L),(11,.int .i64 ((x.1:Int)-1))]) (fun x=>S.set b ⟨3,(x.2).toList.map enc,room⟩) (fun x=>x.1≤L∧Rw okP n x.2∧heapPop (lq cf) a L (heapBuild (lq cf) L a x.1 x.2)=heapSort (lq cf) d a (a+L)) (fun x=>x.1) (((L-1) / 2+1,d)) ⟨sb_,sb_,sb_,sb_,sb_,sb_,trivial⟩ (Mem.Less.refl _) (⟨by omega,R,hH⟩) ?_
 rintro ⟨k,d1⟩ ⟨h1,R1,h3⟩
 (try dsimp only at *)
 by_cases hk:0<k
 ·obtain ⟨k,rfl⟩ : ∃ q,k=q+1:=⟨k-1,by omega⟩
  iterate 7 refine s1_ ?_
  refine su_ [(0,_),(3,_),(8,_),(9,_),(10,_),(11,_),(21,_)] ?_
  refine cT_ ?_
  iterate 10 refine s1_ ?_
  refine ca_ rfl (soC_sift C b room n cap hb hn d1 R1 _ _ _ k L a rw_ rw_ rfl (by omega) (by omega)) ?_
  rintro _ _ ⟨rfl,R2⟩
  iterate 3 refine s1_ ?_
  refine su_ [(0,_),(3,_),(8,_),(9,_),(10,_),(11,_),(21,_)] ?_
  iterate 6 refine s1_ ?_
  refine ⟨(k,siftDown (lq cf) L a k d1),?_,?_,?_,?_⟩
  all_goals (try dsimp only)
  ·exact ⟨sb_,sb_,sb_,sb_,sb_,sb_,trivial⟩
  ·exact Mem.Less.refl _
  ·exact ⟨by omega,R2,h3⟩
  ·omega
 ·obtain rfl:k=0:=by omega
  iterate 7 refine s1_ ?_
  refine su_ [(0,_),(3,_),(8,_),(9,_),(10,_),(11,_),(21,_)] ?_
  refine cF_ ?_
  iterate 12 refine s1_ ?_
  refine su_ [(0,_),(3,_),(8,_),(9,_),(10,_),(11,_),(21,_),(12,_)] ?_
  refine s1_ ?_
  refine AWP.loop (X:=Nat × Array α) (fun x=>[(0,.slice (some ⟨b,0,none⟩) n cap),(3,.func (.func g) #[] cb.toArray),(8,.int .i64 a),(9,.int .i64 0),(12,.int .i64 ((x.1:Int)-1))]) (fun x=>S.set b ⟨3,(x.2).toList.map enc,room⟩) (fun x=>x.1≤L∧Rw okP n x.2∧heapPop (lq cf) a x.1 x.2=heapSort (lq cf) d a (a+L)) (fun x=>x.1) ((L,d1)) ⟨sb_,sb_,sb_,sb_,sb_,trivial⟩ (Mem.Less.refl _) (⟨Nat.le_refl _,R1,h3⟩) ?_
  rintro ⟨k,d2⟩ ⟨k1,R2,k3⟩
  (try dsimp only at *)
  have z2:=R2.size
  by_cases hk:0<k
  ·obtain ⟨k,rfl⟩ : ∃ q,k=q+1:=⟨k-1,by omega⟩
   iterate 7 refine s1_ ?_
   refine su_ [(0,_),(3,_),(8,_),(9,_),(12,_),(33,_)] ?_
   refine cT_ ?_
   iterate 5 refine s1_ ?_
   refine AWP.draw [(0,true),(1,true),(2,true),(3,true),(4,true),(5,true),(6,true),(7,true),(8,true),(9,true),(10,true),(11,true),(12,true),(13,true),(14,true),(15,true),(16,true),(17,false),(18,true),(19,false)] [17,19] mixed (by kernel_rfl) ?_
   iterate 11 refine s1_ ?_
   refine dC (hc:=Calm.load ty_plain_3 rfl (rd_row (k:=a+k) own_ rw_ rw_)) (h:=?_)
   iterate 3 refine s1_ ?_
   refine dC (hc:=Calm.load ty_plain_3 rfl (rd_row (k:=a) own_ rw_ rw_)) (h:=?_)
   refine s1_ ?_
   refine draw_only rfl ?_
   refine ARun.storeRow enc (a) rfl rfl ty_size_3 (C.one _) own_ rw_ rw_ ?_
   try simp only [k_ms,k_sz,k_ss,k_za,Nat.reduceAdd]
   refine arun_nil ⟨fun h=>absurd h (by decide),?_⟩
   refine s1_ ?_
   refine draw_only rfl ?_
   refine ARun.storeRow enc (a+k) rfl rfl ty_size_3 (C.one _) own_ rw_ rw_ ?_
   try simp only [k_ms,k_sz,k_ss,k_za,Nat.reduceAdd]
   refine arun_nil ⟨fun h=>absurd h (by decide),?_⟩
   iterate 2 refine s1_ ?_
   refine su_ [(0,_),(3,_),(8,_),(9,_),(12,_),(33,_)] ?_
   iterate 6 refine s1_ ?_
   refine ca_ rfl (soC_sift C b room n cap hb hn (swp d2 a (a+k)) (R2.swp _ _ (by omega) (by omega)) _ _ _ 0 k a rfl rw_ rfl (by omega) (by omega)) ?_
   rintro _ _ ⟨rfl,R3⟩
   iterate 3 refine s1_ ?_
   refine su_ [(0,_),(3,_),(8,_),(9,_),(12,_),(33,_)] ?_
   iterate 6 refine s1_ ?_
   refine ⟨(k,siftDown (lq cf) k a 0 (swp d2 a (a+k))),?_,?_,?_,?_⟩
   all_goals (try dsimp only)
   ·exact ⟨sb_,sb_,sb_,sb_,sb_,trivial⟩
   ·exact Mem.Less.refl _
   ·exact ⟨by omega,R3,k3⟩
   ·omega
  ·obtain rfl:k=0:=by omega
   iterate 7 refine s1_ ?_
   refine su_ [(0,_),(3,_),(8,_),(9,_),(12,_),(33,_)] ?_
   refine cF_ ?_
   iterate 4 refine s1_ ?_
   refine ⟨_,_,rfl,Mem.Less.refl _,?_⟩
   rw [← k3];exact ⟨rfl,R2⟩
set_option maxHeartbeats 4000000 in
theorem soC_part {α : Type} [Inhabited α] {enc : α → Value} {cf : α → α → Int} {okP : α → Prop} {g : Nat} {cb : List Value} {S : Mem} (C : CmpC Tryz.prog enc cf okP g cb S) (b room n cap : Nat) (hb : Fresh S b) (hn : n ≤ 1048576) (d : Array α) (R : Rw okP n d) (ia ie ip : Int) (a e p : Nat) (ha : ia = a) (he : ie = e) (hpp : ip = p) (hap : a ≤ p) (hpe : p < e) (hen : e ≤ n) :
  ACall Tryz.prog 130 #[.slice (some ⟨b,0,none⟩) n cap,.int .i64 ia,.int .i64 ie,.int .i64 ip,.func (.func g) #[] cb.toArray] (S.set b ⟨3,(d).toList.map enc,room⟩) fun r S'=>PartR α (fun x:Array α=>S.set b ⟨3,(x).toList.map enc,room⟩) okP n (partition (lq cf) d a e p) a e r S':=by
 subst ha he hpp
 obtain ⟨J,rfl⟩ : ∃ J,e=J+1:=⟨e-1,by omega⟩
 have R0:=R.swp a p (by omega) (by omega)
 have z:=R.size
 obtain ⟨d0,hd0⟩ : ∃ d0,d0=swp d a p:=⟨_,rfl⟩
 rw [← hd0] at R0
 have z0:=R0.size
 refine ACall.enter (rs:=[.tmp 10,.tmp 11]) 178 [(0,.slice (some ⟨b,0,none⟩) n cap),(1,.int .i64 a),(2,.int .i64 ((J+1:Nat):Int)),(3,.int .i64 p),(4,.func (.func g) #[] cb.toArray)] Tryz.func130 rfl rfl (Nat.le_of_ble_eq_true rfl) rfl ⟨rfl,rfl,rfl,rfl,rfl,trivial⟩ ?_
 iterate 7 refine s1_ ?_
 refine AWP.draw [(0,true),(1,true),(2,true),(3,true),(4,true),(5,true),(6,true),(7,true),(8,true),(9,true),(10,true),(11,true),(12,true),(13,false),(14,true),(15,false)] [13,15] mixed (by kernel_rfl) ?_
 iterate 7 refine s1_ ?_
 refine dC (hc:=Calm.load ty_plain_3 rfl (rd_row (k:=p) own_ rw_ rw_)) (h:=?_)
 iterate 3 refine s1_ ?_
 refine dC (hc:=Calm.load ty_plain_3 rfl (rd_row (k:=a) own_ rw_ rw_)) (h:=?_)
 refine s1_ ?_
 refine draw_only rfl ?_
 refine ARun.storeRow enc (a) rfl rfl ty_size_3 (C.one _) own_ rw_ rw_ ?_
 try simp only [k_ms,k_sz,k_ss,k_za,Nat.reduceAdd]
 refine arun_nil ⟨fun h=>absurd h (by decide),?_⟩
 refine s1_ ?_
 refine draw_only rfl ?_
 refine ARun.storeRow enc (p) rfl rfl ty_size_3 (C.one _) own_ rw_ rw_ ?_
 try simp only [k_ms,k_sz,k_ss,k_za,Nat.reduceAdd]
 refine arun_nil ⟨fun h=>absurd h (by decide),?_⟩
 iterate 2 refine s1_ ?_
 refine su_ [(0,_),(1,_),(2,_),(3,_),(4,_),(10,_),(11,_)] ?_
 refine AWP.less (S.set b ⟨3,(d0).toList.map enc,room⟩) (by rw [hd0];exact Mem.Less.refl _) ?_
 iterate 10 refine s1_ ?_
 refine su_ [(0,_),(1,_),(2,_),(3,_),(4,_),(10,_),(11,_),(12,_),(13,_)] ?_
 refine s1_ ?_
 refine AWP.join (X:=Nat) (fun x=>[(0,.slice (some ⟨b,0,none⟩) n cap),(1,.int .i64 a),(4,.func (.func g) #[] cb.toArray),(12,.int .i64 x),(13,.int .i64 J)]) (fun _=>S.set b ⟨3,(d0).toList.map enc,room⟩) (fun x=>a+1≤x∧x≤J+1∧x=scanUp (fun x=>(lq cf) x d0[a]!) d0 (J) (a+1)) ?_ ?_
 ·refine s1_ ?_
  refine AWP.loop (X:=Nat) (fun x=>[(0,.slice (some ⟨b,0,none⟩) n cap),(1,.int .i64 a),(4,.func (.func g) #[] cb.toArray),(12,.int .i64 x),(13,.int .i64 J)]) (fun _=>S.set b ⟨3,(d0).toList.map enc,room⟩) (fun x=>a+1≤x∧x≤J+1∧scanUp (fun x=>(lq cf) x d0[a]!) d0 (J) x=scanUp (fun x=>(lq cf) x d0[a]!) d0 (J) (a+1)) (fun x=>J+1-x) ((a+1)) ⟨sb_,sb_,sb_,sb_,sb_,trivial⟩ (Mem.Less.refl _) (⟨by omega,by omega,rfl⟩) ?_
  rintro i ⟨q1,q2,q3⟩
  (try dsimp only at *)
  by_cases hij:i≤J
  ·iterate 2 refine s1_ ?_
   refine AWP.draw [(0,true),(1,true),(2,true),(3,true),(4,true),(5,true),(6,true),(7,true),(8,true),(9,true),(10,true),(11,true),(12,true),(13,false),(14,true),(15,true)] [] mixed (by kernel_rfl) ?_
   iterate 8 refine s1_ ?_
   first|refine k_d ?_|refine dL (hc:=Calm.load ty_plain_3 rfl (rd_row (k:=i) own_ rw_ rw_)) (h:=?_)
   iterate 3 refine s1_ ?_
   first|refine k_d ?_|refine dL (hc:=Calm.load ty_plain_3 rfl (rd_row (k:=a) own_ rw_ rw_)) (h:=?_)
   refine draw_only rfl ?_
   refine rUn 35 ?_
   refine ARun.callV (first:=[]) (cap:=cb) (lit_lt rfl) C.go rfl rfl (C.call less_ (R0.ok (i) rw_) (R0.ok (a) rw_)) ?_
   rintro _ _ ⟨rfl,rfl⟩
   refine arun_nil ⟨fun _=>less_,?_⟩
   iterate 4 refine s1_ ?_
   refine su_ [(0,_),(1,_),(4,_),(12,_),(13,_),(47,_)] ?_
   refine AWP.condB rfl (fun hl=>?_) (fun hl=>?_)
   ·iterate 10 refine s1_ ?_
    refine ⟨i+1,?_,?_,?_,?_⟩
    all_goals (try dsimp only)
    ·exact ⟨sb_,sb_,sb_,sb_,sb_,trivial⟩
    ·exact Mem.Less.refl _
    ·exact ⟨by omega,by omega,(up_go (p:=(fun x=>(lq cf) x d0[a]!)) hij (by simp only [lq_,hl,Bool.not_true,Bool.not_false])).trans q3⟩
    ·omega
   ·iterate 4 refine s1_ ?_
    refine ⟨i,?_,?_,?_⟩
    all_goals (try dsimp only)
    ·exact ⟨by omega,by omega,(up_no (p:=(fun x=>(lq cf) x d0[a]!)) (by simp only [lq_,hl,Bool.not_true,Bool.not_false])).trans q3⟩
    ·exact ⟨sb_,sb_,sb_,sb_,sb_,trivial⟩
    ·exact Mem.Less.refl _
  ·iterate 2 refine s1_ ?_
   refine AWP.draw [(0,true),(1,true),(2,true),(3,true),(4,true),(5,true),(6,true),(7,true),(8,true),(9,true),(10,true),(11,true),(12,true),(13,false),(14,true),(15,true)] [] mixed (by kernel_rfl) ?_
   iterate 8 refine s1_ ?_
   first|refine k_d ?_|refine dL (hc:=Calm.load ty_plain_3 rfl (rd_row (k:=i) own_ rw_ rw_)) (h:=?_)
   iterate 3 refine s1_ ?_
   first|refine k_d ?_|refine dL (hc:=Calm.load ty_plain_3 rfl (rd_row (k:=a) own_ rw_ rw_)) (h:=?_)
   refine draw_only rfl ?_
   refine s1_ ?_
   refine arun_nil ⟨fun _=>less_,?_⟩
   iterate 4 refine s1_ ?_
   refine su_ [(0,_),(1,_),(4,_),(12,_),(13,_),(47,_)] ?_
   refine cF_ ?_
   iterate 4 refine s1_ ?_
   refine ⟨i,?_,?_,?_⟩
   all_goals (try dsimp only)
   ·exact ⟨by omega,by omega,(up_end (p:=(fun x=>(lq cf) x d0[a]!)) hij).trans q3⟩
   ·exact ⟨sb_,sb_,sb_,sb_,sb_,trivial⟩
   ·exact Mem.Less.refl _
 rintro i2 ⟨b1,b2,hU⟩
 intro _ _ hs_ hl_
 (try dsimp only at *)
 refine athen_n ?_
 refine AWP.sub _ hs_ (AWP.less _ hl_ ?_)
 clear hs_ hl_
 refine s1_ ?_
 refine AWP.join (X:=Nat) (fun x=>[(0,.slice (some ⟨b,0,none⟩) n cap),(1,.int .i64 a),(4,.func (.func g) #[] cb.toArray),(12,.int .i64 i2),(13,.int .i64 x)]) (fun _=>S.set b ⟨3,(d0).toList.map enc,room⟩) (fun x=>a≤x∧x≤J∧x=scanDown (fun x=>!(lq cf) x d0[a]!) d0 i2 J) ?_ ?_
 ·refine s1_ ?_
  refine AWP.loop (X:=Nat) (fun x=>[(0,.slice (some ⟨b,0,none⟩) n cap),(1,.int .i64 a),(4,.func (.func g) #[] cb.toArray),(12,.int .i64 i2),(13,.int .i64 x)]) (fun _=>S.set b ⟨3,(d0).toList.map enc,room⟩) (fun x=>a≤x∧x≤J∧scanDown (fun x=>!(lq cf) x d0[a]!) d0 i2 x=scanDown (fun x=>!(lq cf) x d0[a]!) d0 i2 J) (fun x=>x) (J) ⟨sb_,sb_,sb_,sb_,sb_,trivial⟩ (Mem.Less.refl _) (⟨by omega,by omega,rfl⟩) ?_
  rintro j ⟨q1,q2,q3⟩
  (try dsimp only at *)
  by_cases hij:i2≤j
  ·obtain ⟨j,rfl⟩ : ∃ q,j=q+1:=⟨j-1,by omega⟩
   iterate 2 refine s1_ ?_
   refine AWP.draw [(0,true),(1,true),(2,true),(3,true),(4,true),(5,true),(6,true),(7,true),(8,true),(9,true),(10,true),(11,true),(12,true),(13,false),(14,true),(15,true),(16,true)] [] mixed (by kernel_rfl) ?_
   iterate 8 refine s1_ ?_
   first|refine k_d ?_|refine dL (hc:=Calm.load ty_plain_3 rfl (rd_row (k:=j+1) own_ rw_ rw_)) (h:=?_)
   iterate 3 refine s1_ ?_
   first|refine k_d ?_|refine dL (hc:=Calm.load ty_plain_3 rfl (rd_row (k:=a) own_ rw_ rw_)) (h:=?_)
   refine draw_only rfl ?_
   refine rUn 53 ?_
   refine ARun.callV (first:=[]) (cap:=cb) (lit_lt rfl) C.go rfl rfl (C.call less_ (R0.ok (j+1) rw_) (R0.ok (a) rw_)) ?_
   rintro _ _ ⟨rfl,rfl⟩
   refine arun_nil ⟨fun _=>less_,?_⟩
   iterate 5 refine s1_ ?_
   refine su_ [(0,_),(1,_),(4,_),(12,_),(13,_),(66,_)] ?_
   refine AWP.condB rfl (fun hl=>?_) (fun hl=>?_)
   ·have hl:=nt_ hl
    iterate 10 refine s1_ ?_
    refine ⟨j,?_,?_,?_,?_⟩
    all_goals (try dsimp only)
    ·exact ⟨sb_,sb_,sb_,sb_,sb_,trivial⟩
    ·exact Mem.Less.refl _
    ·exact ⟨by omega,by omega,(down_go (p:=(fun x=>!(lq cf) x d0[a]!)) hij (by simp only [lq_,hl,Bool.not_true,Bool.not_false])).trans q3⟩
    ·omega
   ·have hl:=nf_ hl
    iterate 4 refine s1_ ?_
    refine ⟨(j+1),?_,?_,?_⟩
    all_goals (try dsimp only)
    ·exact ⟨by omega,by omega,(down_no (p:=(fun x=>!(lq cf) x d0[a]!)) (by omega) (by simp only [lq_,hl,Bool.not_true,Bool.not_false])).trans q3⟩
    ·exact ⟨sb_,sb_,sb_,sb_,sb_,trivial⟩
    ·exact Mem.Less.refl _
  ·iterate 2 refine s1_ ?_
   refine AWP.draw [(0,true),(1,true),(2,true),(3,true),(4,true),(5,true),(6,true),(7,true),(8,true),(9,true),(10,true),(11,true),(12,true),(13,false),(14,true),(15,true),(16,true)] [] mixed (by kernel_rfl) ?_
   iterate 8 refine s1_ ?_
   first|refine k_d ?_|refine dL (hc:=Calm.load ty_plain_3 rfl (rd_row (k:=j+1) own_ rw_ rw_)) (h:=?_)
   iterate 3 refine s1_ ?_
   first|refine k_d ?_|refine dL (hc:=Calm.load ty_plain_3 rfl (rd_row (k:=a) own_ rw_ rw_)) (h:=?_)
   refine draw_only rfl ?_
   refine s1_ ?_
   refine arun_nil ⟨fun _=>less_,?_⟩
   iterate 5 refine s1_ ?_
   refine su_ [(0,_),(1,_),(4,_),(12,_),(13,_),(66,_)] ?_
   refine cF_ ?_
   iterate 4 refine s1_ ?_
   refine ⟨j,?_,?_,?_⟩
   all_goals (try dsimp only)
   ·exact ⟨by omega,by omega,(down_end (p:=(fun x=>!(lq cf) x d0[a]!)) hij).trans q3⟩
   ·exact ⟨sb_,sb_,sb_,sb_,sb_,trivial⟩
   ·exact Mem.Less.refl _
 rintro j2 ⟨b3,b4,hD⟩
 intro _ _ hs_ hl_
 (try dsimp only at *)
 refine athen_n ?_
 refine AWP.sub _ hs_ (AWP.less _ hl_ ?_)
 clear hs_ hl_
 by_cases hx:j2<i2
 ·iterate 8 refine s1_ ?_
  refine su_ [(0,_),(1,_),(4,_),(12,_),(13,_),(71,_)] ?_
  refine cT_ ?_
  refine s1_ ?_
  refine AWP.draw [(0,true),(1,true),(2,true),(3,true),(4,true),(5,true),(6,true),(7,true),(8,true),(9,true),(10,true),(11,true),(12,true),(13,false),(14,true),(15,false)] [13,15] mixed (by kernel_rfl) ?_
  iterate 7 refine s1_ ?_
  refine dC (hc:=Calm.load ty_plain_3 rfl (rd_row (k:=a) own_ rw_ rw_)) (h:=?_)
  iterate 3 refine s1_ ?_
  refine dC (hc:=Calm.load ty_plain_3 rfl (rd_row (k:=j2) own_ rw_ rw_)) (h:=?_)
  refine s1_ ?_
  refine draw_only rfl ?_
  refine ARun.storeRow enc (j2) rfl rfl ty_size_3 (C.one _) own_ rw_ rw_ ?_
  try simp only [k_ms,k_sz,k_ss,k_za,Nat.reduceAdd]
  refine arun_nil ⟨fun h=>absurd h (by decide),?_⟩
  refine s1_ ?_
  refine draw_only rfl ?_
  refine ARun.storeRow enc (a) rfl rfl ty_size_3 (C.one _) own_ rw_ rw_ ?_
  try simp only [k_ms,k_sz,k_ss,k_za,Nat.reduceAdd]
  refine arun_nil ⟨fun h=>absurd h (by decide),?_⟩
  iterate 2 refine s1_ ?_
  refine su_ [(0,_),(1,_),(4,_),(12,_),(13,_),(71,_)] ?_
  iterate 7 refine s1_ ?_
  refine su_ [(0,_),(1,_),(4,_),(12,_),(13,_),(71,_),(10,_),(11,_)] ?_
  iterate 2 refine s1_ ?_
  refine ⟨_,_,⟨_,_,rfl,⟨_,_,rfl,rfl,rfl⟩,rfl⟩,Mem.Less.refl _,?_⟩
  exact part_res1 (lq cf) hd0 hU hD hx (R0.swp _ _ (by omega) (by omega)) (by omega) (by omega)
 ·iterate 8 refine s1_ ?_
  refine su_ [(0,_),(1,_),(4,_),(12,_),(13,_),(71,_)] ?_
  refine cF_ ?_
  iterate 3 refine s1_ ?_
  refine AWP.draw [(0,true),(1,true),(2,true),(3,true),(4,true),(5,true),(6,true),(7,true),(8,true),(9,true),(10,true),(11,true),(12,true),(13,false),(14,true),(15,false)] [13,15] mixed (by kernel_rfl) ?_
  have R1:=R0.swp i2 j2 (by omega) (by omega)
  have hst:partLoop (lq cf) a (i2+1) (j2-1) (swp d0 i2 j2)=partLoop (lq cf) a (i2+1) (j2-1) (swp d0 i2 j2):=rfl
  iterate 7 refine s1_ ?_
  refine dC (hc:=Calm.load ty_plain_3 rfl (rd_row (k:=j2) own_ rw_ rw_)) (h:=?_)
  iterate 3 refine s1_ ?_
  refine dC (hc:=Calm.load ty_plain_3 rfl (rd_row (k:=i2) own_ rw_ rw_)) (h:=?_)
  refine s1_ ?_
  refine draw_only rfl ?_
  refine ARun.storeRow enc (i2) rfl rfl ty_size_3 (C.one _) own_ rw_ rw_ ?_
  try simp only [k_ms,k_sz,k_ss,k_za,Nat.reduceAdd]
  refine arun_nil ⟨fun h=>absurd h (by decide),?_⟩
  refine s1_ ?_
  refine draw_only rfl ?_
  refine ARun.storeRow enc (j2) rfl rfl ty_size_3 (C.one _) own_ rw_ rw_ ?_
  try simp only [k_ms,k_sz,k_ss,k_za,Nat.reduceAdd]
  refine arun_nil ⟨fun h=>absurd h (by decide),?_⟩
  iterate 2 refine s1_ ?_
  refine su_ [(0,_),(1,_),(4,_),(12,_),(13,_),(71,_)] ?_
  iterate 7 refine s1_ ?_
  refine su_ [(0,_),(1,_),(4,_),(12,_),(13,_),(71,_)] ?_
  iterate 7 refine s1_ ?_
  refine su_ [(0,_),(1,_),(4,_),(12,_),(13,_),(71,_)] ?_
  refine s1_ ?_
  refine AWP.join (X:=Nat × Array α) (fun x=>[(0,.slice (some ⟨b,0,none⟩) n cap),(1,.int .i64 a),(13,.int .i64 x.1)]) (fun x=>S.set b ⟨3,(x.2).toList.map enc,room⟩) (fun x=>a≤x.1∧x.1≤J∧Rw okP n x.2∧(x.1,x.2)=partLoop (lq cf) a (i2+1) (j2-1) (swp d0 i2 j2)) ?_ ?_
  ·refine s1_ ?_
   refine AWP.loop (X:=Nat × Nat × Array α) (fun x=>[(0,.slice (some ⟨b,0,none⟩) n cap),(1,.int .i64 a),(4,.func (.func g) #[] cb.toArray),(12,.int .i64 x.1),(13,.int .i64 x.2.1)]) (fun x=>S.set b ⟨3,(x.2.2).toList.map enc,room⟩) (fun x=>a+1≤x.1∧x.1≤J+1∧a≤x.2.1∧x.2.1≤J∧Rw okP n x.2.2∧partLoop (lq cf) a x.1 x.2.1 x.2.2=partLoop (lq cf) a (i2+1) (j2-1) (swp d0 i2 j2)) (fun x=>J+1-x.1) ((i2+1,j2-1,swp d0 i2 j2)) ⟨sb_,sb_,sb_,sb_,sb_,trivial⟩ (Mem.Less.refl _) (⟨by dsimp only;omega,by dsimp only;omega,by dsimp only;omega,by dsimp only;omega,R1,rfl⟩) ?_
   rintro ⟨I2,J2,d2⟩ ⟨m1,m2,m4,m5,R2,m3⟩
   (try dsimp only at *)
   have z2:=R2.size
   iterate 2 refine s1_ ?_
   refine AWP.join (X:=Nat) (fun x=>[(0,.slice (some ⟨b,0,none⟩) n cap),(1,.int .i64 a),(4,.func (.func g) #[] cb.toArray),(12,.int .i64 x),(13,.int .i64 J2)]) (fun _=>S.set b ⟨3,(d2).toList.map enc,room⟩) (fun x=>a+1≤x∧x≤J+1∧x=scanUp (fun x=>(lq cf) x d2[a]!) d2 (J2) I2) ?_ ?_
   ·refine s1_ ?_
    refine AWP.loop (X:=Nat) (fun x=>[(0,.slice (some ⟨b,0,none⟩) n cap),(1,.int .i64 a),(4,.func (.func g) #[] cb.toArray),(12,.int .i64 x),(13,.int .i64 J2)]) (fun _=>S.set b ⟨3,(d2).toList.map enc,room⟩) (fun x=>a+1≤x∧x≤J+1∧scanUp (fun x=>(lq cf) x d2[a]!) d2 (J2) x=scanUp (fun x=>(lq cf) x d2[a]!) d2 (J2) I2) (fun x=>J+1-x) (I2) ⟨sb_,sb_,sb_,sb_,sb_,trivial⟩ (Mem.Less.refl _) (⟨by omega,by omega,rfl⟩) ?_
    rintro i ⟨q1,q2,q3⟩
    (try dsimp only at *)
    by_cases hij:i≤J2
    ·iterate 2 refine s1_ ?_
     refine AWP.draw [(0,true),(1,true),(2,true),(3,true),(4,true),(5,true),(6,true),(7,true),(8,true),(9,true),(10,true),(11,true),(12,true),(13,false),(14,true),(15,true)] [] mixed (by kernel_rfl) ?_
     iterate 8 refine s1_ ?_
     first|refine k_d ?_|refine dL (hc:=Calm.load ty_plain_3 rfl (rd_row (k:=i) own_ rw_ rw_)) (h:=?_)
     iterate 3 refine s1_ ?_
     first|refine k_d ?_|refine dL (hc:=Calm.load ty_plain_3 rfl (rd_row (k:=a) own_ rw_ rw_)) (h:=?_)
     refine draw_only rfl ?_
     refine rUn 108 ?_
     refine ARun.callV (first:=[]) (cap:=cb) (lit_lt rfl) C.go rfl rfl (C.call less_ (R2.ok (i) rw_) (R2.ok (a) rw_)) ?_
     rintro _ _ ⟨rfl,rfl⟩
     refine arun_nil ⟨fun _=>less_,?_⟩
     iterate 4 refine s1_ ?_
     refine su_ [(0,_),(1,_),(4,_),(12,_),(13,_),(120,_)] ?_
     refine AWP.condB rfl (fun hl=>?_) (fun hl=>?_)
     ·iterate 10 refine s1_ ?_
      refine ⟨i+1,?_,?_,?_,?_⟩
      all_goals (try dsimp only)
      ·exact ⟨sb_,sb_,sb_,sb_,sb_,trivial⟩
      ·exact Mem.Less.refl _
      ·exact ⟨by omega,by omega,(up_go (p:=(fun x=>(lq cf) x d2[a]!)) hij (by simp only [lq_,hl,Bool.not_true,Bool.not_false])).trans q3⟩
      ·omega
     ·iterate 4 refine s1_ ?_
      refine ⟨i,?_,?_,?_⟩
      all_goals (try dsimp only)
      ·exact ⟨by omega,by omega,(up_no (p:=(fun x=>(lq cf) x d2[a]!)) (by simp only [lq_,hl,Bool.not_true,Bool.not_false])).trans q3⟩
      ·exact ⟨sb_,sb_,sb_,sb_,sb_,trivial⟩
      ·exact Mem.Less.refl _
    ·iterate 2 refine s1_ ?_
     refine AWP.draw [(0,true),(1,true),(2,true),(3,true),(4,true),(5,true),(6,true),(7,true),(8,true),(9,true),(10,true),(11,true),(12,true),(13,false),(14,true),(15,true)] [] mixed (by kernel_rfl) ?_
     iterate 8 refine s1_ ?_
     first|refine k_d ?_|refine dL (hc:=Calm.load ty_plain_3 rfl (rd_row (k:=i) own_ rw_ rw_)) (h:=?_)
     iterate 3 refine s1_ ?_
     first|refine k_d ?_|refine dL (hc:=Calm.load ty_plain_3 rfl (rd_row (k:=a) own_ rw_ rw_)) (h:=?_)
     refine draw_only rfl ?_
     refine s1_ ?_
     refine arun_nil ⟨fun _=>less_,?_⟩
     iterate 4 refine s1_ ?_
     refine su_ [(0,_),(1,_),(4,_),(12,_),(13,_),(120,_)] ?_
     refine cF_ ?_
     iterate 4 refine s1_ ?_
     refine ⟨i,?_,?_,?_⟩
     all_goals (try dsimp only)
     ·exact ⟨by omega,by omega,(up_end (p:=(fun x=>(lq cf) x d2[a]!)) hij).trans q3⟩
     ·exact ⟨sb_,sb_,sb_,sb_,sb_,trivial⟩
     ·exact Mem.Less.refl _
   rintro i2 ⟨b1,b2,hU⟩
   intro _ _ hs_ hl_
   (try dsimp only at *)
   refine athen_n ?_
   refine AWP.sub _ hs_ (AWP.less _ hl_ ?_)
   clear hs_ hl_
   refine s1_ ?_
   refine AWP.join (X:=Nat) (fun x=>[(0,.slice (some ⟨b,0,none⟩) n cap),(1,.int .i64 a),(4,.func (.func g) #[] cb.toArray),(12,.int .i64 i2),(13,.int .i64 x)]) (fun _=>S.set b ⟨3,(d2).toList.map enc,room⟩) (fun x=>a≤x∧x≤J∧x=scanDown (fun x=>!(lq cf) x d2[a]!) d2 i2 J2) ?_ ?_
   ·refine s1_ ?_
    refine AWP.loop (X:=Nat) (fun x=>[(0,.slice (some ⟨b,0,none⟩) n cap),(1,.int .i64 a),(4,.func (.func g) #[] cb.toArray),(12,.int .i64 i2),(13,.int .i64 x)]) (fun _=>S.set b ⟨3,(d2).toList.map enc,room⟩) (fun x=>a≤x∧x≤J∧scanDown (fun x=>!(lq cf) x d2[a]!) d2 i2 x=scanDown (fun x=>!(lq cf) x d2[a]!) d2 i2 J2) (fun x=>x) (J2) ⟨sb_,sb_,sb_,sb_,sb_,trivial⟩ (Mem.Less.refl _) (⟨by omega,by omega,rfl⟩) ?_
    rintro j ⟨q1,q2,q3⟩
    (try dsimp only at *)
    by_cases hij:i2≤j
    ·obtain ⟨j,rfl⟩ : ∃ q,j=q+1:=⟨j-1,by omega⟩
     iterate 2 refine s1_ ?_
     refine AWP.draw [(0,true),(1,true),(2,true),(3,true),(4,true),(5,true),(6,true),(7,true),(8,true),(9,true),(10,true),(11,true),(12,true),(13,false),(14,true),(15,true),(16,true)] [] mixed (by kernel_rfl) ?_
     iterate 8 refine s1_ ?_
     first|refine k_d ?_|refine dL (hc:=Calm.load ty_plain_3 rfl (rd_row (k:=j+1) own_ rw_ rw_)) (h:=?_)
     iterate 3 refine s1_ ?_
     first|refine k_d ?_|refine dL (hc:=Calm.load ty_plain_3 rfl (rd_row (k:=a) own_ rw_ rw_)) (h:=?_)
     refine draw_only rfl ?_
     refine rUn 126 ?_
     refine ARun.callV (first:=[]) (cap:=cb) (lit_lt rfl) C.go rfl rfl (C.call less_ (R2.ok (j+1) rw_) (R2.ok (a) rw_)) ?_
     rintro _ _ ⟨rfl,rfl⟩
     refine arun_nil ⟨fun _=>less_,?_⟩
     iterate 5 refine s1_ ?_
     refine su_ [(0,_),(1,_),(4,_),(12,_),(13,_),(139,_)] ?_
     refine AWP.condB rfl (fun hl=>?_) (fun hl=>?_)
     ·have hl:=nt_ hl
      iterate 10 refine s1_ ?_
      refine ⟨j,?_,?_,?_,?_⟩
      all_goals (try dsimp only)
      ·exact ⟨sb_,sb_,sb_,sb_,sb_,trivial⟩
      ·exact Mem.Less.refl _
      ·exact ⟨by omega,by omega,(down_go (p:=(fun x=>!(lq cf) x d2[a]!)) hij (by simp only [lq_,hl,Bool.not_true,Bool.not_false])).trans q3⟩
      ·omega
     ·have hl:=nf_ hl
      iterate 4 refine s1_ ?_
      refine ⟨(j+1),?_,?_,?_⟩
      all_goals (try dsimp only)
      ·exact ⟨by omega,by omega,(down_no (p:=(fun x=>!(lq cf) x d2[a]!)) (by omega) (by simp only [lq_,hl,Bool.not_true,Bool.not_false])).trans q3⟩
      ·exact ⟨sb_,sb_,sb_,sb_,sb_,trivial⟩
      ·exact Mem.Less.refl _
    ·iterate 2 refine s1_ ?_
     refine AWP.draw [(0,true),(1,true),(2,true),(3,true),(4,true),(5,true),(6,true),(7,true),(8,true),(9,true),(10,true),(11,true),(12,true),(13,false),(14,true),(15,true),(16,true)] [] mixed (by kernel_rfl) ?_
     iterate 8 refine s1_ ?_
     first|refine k_d ?_|refine dL (hc:=Calm.load ty_plain_3 rfl (rd_row (k:=j+1) own_ rw_ rw_)) (h:=?_)
     iterate 3 refine s1_ ?_
     first|refine k_d ?_|refine dL (hc:=Calm.load ty_plain_3 rfl (rd_row (k:=a) own_ rw_ rw_)) (h:=?_)
     refine draw_only rfl ?_
     refine s1_ ?_
     refine arun_nil ⟨fun _=>less_,?_⟩
     iterate 5 refine s1_ ?_
     refine su_ [(0,_),(1,_),(4,_),(12,_),(13,_),(139,_)] ?_
     refine cF_ ?_
     iterate 4 refine s1_ ?_
     refine ⟨j,?_,?_,?_⟩
     all_goals (try dsimp only)
     ·exact ⟨by omega,by omega,(down_end (p:=(fun x=>!(lq cf) x d2[a]!)) hij).trans q3⟩
     ·exact ⟨sb_,sb_,sb_,sb_,sb_,trivial⟩
     ·exact Mem.Less.refl _
   rintro j2 ⟨b3,b4,hD⟩
   intro _ _ hs_ hl_
   (try dsimp only at *)
   refine athen_n ?_
   refine AWP.sub _ hs_ (AWP.less _ hl_ ?_)
   clear hs_ hl_
   by_cases hx:j2<i2
   ·iterate 8 refine s1_ ?_
    refine su_ [(0,_),(1,_),(4,_),(12,_),(13,_),(144,_)] ?_
    refine cT_ ?_
    iterate 5 refine s1_ ?_
    refine ⟨(j2,d2),?_,?_,?_⟩
    all_goals (try dsimp only)
    ·exact ⟨by omega,by omega,R2,(part_stop (lq cf) hU hD hx).trans m3⟩
    ·exact ⟨sb_,sb_,sb_,trivial⟩
    ·exact Mem.Less.refl _
   ·iterate 8 refine s1_ ?_
    refine su_ [(0,_),(1,_),(4,_),(12,_),(13,_),(144,_)] ?_
    refine cF_ ?_
    iterate 3 refine s1_ ?_
    refine AWP.draw [(0,true),(1,true),(2,true),(3,true),(4,true),(5,true),(6,true),(7,true),(8,true),(9,true),(10,true),(11,true),(12,true),(13,false),(14,true),(15,false)] [13,15] mixed (by kernel_rfl) ?_
    iterate 7 refine s1_ ?_
    refine dC (hc:=Calm.load ty_plain_3 rfl (rd_row (k:=j2) own_ rw_ rw_)) (h:=?_)
    iterate 3 refine s1_ ?_
    refine dC (hc:=Calm.load ty_plain_3 rfl (rd_row (k:=i2) own_ rw_ rw_)) (h:=?_)
    refine s1_ ?_
    refine draw_only rfl ?_
    refine ARun.storeRow enc (i2) rfl rfl ty_size_3 (C.one _) own_ rw_ rw_ ?_
    try simp only [k_ms,k_sz,k_ss,k_za,Nat.reduceAdd]
    refine arun_nil ⟨fun h=>absurd h (by decide),?_⟩
    refine s1_ ?_
    refine draw_only rfl ?_
    refine ARun.storeRow enc (j2) rfl rfl ty_size_3 (C.one _) own_ rw_ rw_ ?_
    try simp only [k_ms,k_sz,k_ss,k_za,Nat.reduceAdd]
    refine arun_nil ⟨fun h=>absurd h (by decide),?_⟩
    iterate 2 refine s1_ ?_
    refine su_ [(0,_),(1,_),(4,_),(12,_),(13,_),(144,_)] ?_
    iterate 7 refine s1_ ?_
    refine su_ [(0,_),(1,_),(4,_),(12,_),(13,_),(144,_)] ?_
    iterate 7 refine s1_ ?_
    refine ⟨(i2+1,j2-1,swp d2 i2 j2),?_,?_,?_,?_⟩
    all_goals (try dsimp only)
    ·exact ⟨sb_,sb_,sb_,sb_,sb_,trivial⟩
    ·exact Mem.Less.refl _
    ·exact ⟨by omega,by omega,by omega,by omega,R2.swp _ _ (by omega) (by omega),(part_go (lq cf) hU hD hx).trans m3⟩
    ·(have:I2≤i2:=by rw [hU];exact Go.Sort.scanUp_ge _ _ _ _);omega
  rintro ⟨j3,d3⟩ ⟨t1,t2,R3,t3⟩
  intro _ _ hs_ hl_
  (try dsimp only at *)
  refine athen_n ?_
  refine AWP.sub _ hs_ (AWP.less _ hl_ ?_)
  clear hs_ hl_
  have z3:=R3.size
  refine s1_ ?_
  refine AWP.draw [(0,true),(1,true),(2,true),(3,true),(4,true),(5,true),(6,true),(7,true),(8,true),(9,true),(10,true),(11,true),(12,true),(13,false),(14,true),(15,false)] [13,15] mixed (by kernel_rfl) ?_
  iterate 7 refine s1_ ?_
  refine dC (hc:=Calm.load ty_plain_3 rfl (rd_row (k:=a) own_ rw_ rw_)) (h:=?_)
  iterate 3 refine s1_ ?_
  refine dC (hc:=Calm.load ty_plain_3 rfl (rd_row (k:=j3) own_ rw_ rw_)) (h:=?_)
  refine s1_ ?_
  refine draw_only rfl ?_
  refine ARun.storeRow enc (j3) rfl rfl ty_size_3 (C.one _) own_ rw_ rw_ ?_
  try simp only [k_ms,k_sz,k_ss,k_za,Nat.reduceAdd]
  refine arun_nil ⟨fun h=>absurd h (by decide),?_⟩
  refine s1_ ?_
  refine draw_only rfl ?_
  refine ARun.storeRow enc (a) rfl rfl ty_size_3 (C.one _) own_ rw_ rw_ ?_
  try simp only [k_ms,k_sz,k_ss,k_za,Nat.reduceAdd]
  refine arun_nil ⟨fun h=>absurd h (by decide),?_⟩
  iterate 2 refine s1_ ?_
  refine su_ [(0,_),(1,_),(13,_)] ?_
  iterate 7 refine s1_ ?_
  refine su_ [(0,_),(1,_),(13,_),(10,_),(11,_)] ?_
  refine s1_ ?_
  refine ⟨_,_,⟨_,_,rfl,⟨_,_,rfl,rfl,rfl⟩,rfl⟩,Mem.Less.refl _,?_⟩
  exact part_res2 (lq cf) hd0 hU hD hx t3 (R3.swp _ _ (by omega) (by omega)) (by omega) (by omega)
set_option maxHeartbeats 4000000 in
theorem soC_parteq {α : Type} [Inhabited α] {enc : α → Value} {cf : α → α → Int} {okP : α → Prop} {g : Nat} {cb : List Value} {S : Mem} (C : CmpC Tryz.prog enc cf okP g cb S) (b room n cap : Nat) (hb : Fresh S b) (hn : n ≤ 1048576) (d : Array α) (R : Rw okP n d) (ia ie ip : Int) (a e p : Nat) (ha : ia = a) (he : ie = e) (hpp : ip = p) (hap : a ≤ p) (hpe : p < e) (hen : e ≤ n) :
  ACall Tryz.prog 129 #[.slice (some ⟨b,0,none⟩) n cap,.int .i64 ia,.int .i64 ie,.int .i64 ip,.func (.func g) #[] cb.toArray] (S.set b ⟨3,(d).toList.map enc,room⟩) fun r S'=>PartEqR α (fun x:Array α=>S.set b ⟨3,(x).toList.map enc,room⟩) okP n (partitionEqual (lq cf) d a e p) a e r S':=by
 subst ha he hpp
 obtain ⟨J,rfl⟩ : ∃ J,e=J+1:=⟨e-1,by omega⟩
 have R0:=R.swp a p (by omega) (by omega)
 have z:=R.size
 obtain ⟨d0,hd0⟩ : ∃ d0,d0=swp d a p:=⟨_,rfl⟩
 rw [← hd0] at R0
 have z0:=R0.size
 refine ACall.enter (rs:=[.tmp 10]) 90 [(0,.slice (some ⟨b,0,none⟩) n cap),(1,.int .i64 a),(2,.int .i64 ((J+1:Nat):Int)),(3,.int .i64 p),(4,.func (.func g) #[] cb.toArray)] Tryz.func129 rfl rfl (Nat.le_of_ble_eq_true rfl) rfl ⟨rfl,rfl,rfl,rfl,rfl,trivial⟩ ?_
 iterate 6 refine s1_ ?_
 refine AWP.draw [(0,true),(1,true),(2,true),(3,true),(4,true),(5,true),(6,true),(7,true),(8,true),(9,true),(10,true),(11,true),(12,true),(13,false),(14,true),(15,false)] [13,15] mixed (by kernel_rfl) ?_
 iterate 7 refine s1_ ?_
 refine dC (hc:=Calm.load ty_plain_3 rfl (rd_row (k:=p) own_ rw_ rw_)) (h:=?_)
 iterate 3 refine s1_ ?_
 refine dC (hc:=Calm.load ty_plain_3 rfl (rd_row (k:=a) own_ rw_ rw_)) (h:=?_)
 refine s1_ ?_
 refine draw_only rfl ?_
 refine ARun.storeRow enc (a) rfl rfl ty_size_3 (C.one _) own_ rw_ rw_ ?_
 try simp only [k_ms,k_sz,k_ss,k_za,Nat.reduceAdd]
 refine arun_nil ⟨fun h=>absurd h (by decide),?_⟩
 refine s1_ ?_
 refine draw_only rfl ?_
 refine ARun.storeRow enc (p) rfl rfl ty_size_3 (C.one _) own_ rw_ rw_ ?_
 try simp only [k_ms,k_sz,k_ss,k_za,Nat.reduceAdd]
 refine arun_nil ⟨fun h=>absurd h (by decide),?_⟩
 iterate 2 refine s1_ ?_
 refine su_ [(0,_),(1,_),(2,_),(3,_),(4,_),(10,_)] ?_
 refine AWP.less (S.set b ⟨3,(d0).toList.map enc,room⟩) (by rw [hd0];exact Mem.Less.refl _) ?_
 iterate 10 refine s1_ ?_
 refine su_ [(0,_),(1,_),(2,_),(3,_),(4,_),(10,_),(11,_),(12,_)] ?_
 iterate 2 refine s1_ ?_
 refine AWP.loop (X:=Nat × Nat × Array α) (fun x=>[(0,.slice (some ⟨b,0,none⟩) n cap),(1,.int .i64 a),(4,.func (.func g) #[] cb.toArray),(11,.int .i64 x.1),(12,.int .i64 x.2.1)]) (fun x=>S.set b ⟨3,(x.2.2).toList.map enc,room⟩) (fun x=>a+1≤x.1∧x.1≤J+1∧a≤x.2.1∧x.2.1≤J∧Rw okP n x.2.2∧partEqLoop (lq cf) a x.1 x.2.1 x.2.2=partEqLoop (lq cf) a (a+1) J d0) (fun x=>J+1-x.1) ((a+1,J,d0)) ⟨sb_,sb_,sb_,sb_,sb_,trivial⟩ (Mem.Less.refl _) (⟨by dsimp only;omega,by dsimp only;omega,by dsimp only;omega,by dsimp only;omega,R0,rfl⟩) ?_
 rintro ⟨I2,J2,d2⟩ ⟨m1,m2,m4,m5,R2,m3⟩
 (try dsimp only at *)
 have z2:=R2.size
 iterate 2 refine s1_ ?_
 refine AWP.join (X:=Nat) (fun x=>[(0,.slice (some ⟨b,0,none⟩) n cap),(1,.int .i64 a),(4,.func (.func g) #[] cb.toArray),(11,.int .i64 x),(12,.int .i64 J2)]) (fun _=>S.set b ⟨3,(d2).toList.map enc,room⟩) (fun x=>a+1≤x∧x≤J+1∧x=scanUp (fun x=>!(lq cf) d2[a]! x) d2 (J2) I2) ?_ ?_
 ·refine s1_ ?_
  refine AWP.loop (X:=Nat) (fun x=>[(0,.slice (some ⟨b,0,none⟩) n cap),(1,.int .i64 a),(4,.func (.func g) #[] cb.toArray),(11,.int .i64 x),(12,.int .i64 J2)]) (fun _=>S.set b ⟨3,(d2).toList.map enc,room⟩) (fun x=>a+1≤x∧x≤J+1∧scanUp (fun x=>!(lq cf) d2[a]! x) d2 (J2) x=scanUp (fun x=>!(lq cf) d2[a]! x) d2 (J2) I2) (fun x=>J+1-x) (I2) ⟨sb_,sb_,sb_,sb_,sb_,trivial⟩ (Mem.Less.refl _) (⟨by omega,by omega,rfl⟩) ?_
  rintro i ⟨q1,q2,q3⟩
  (try dsimp only at *)
  by_cases hij:i≤J2
  ·iterate 2 refine s1_ ?_
   refine AWP.draw [(0,true),(1,true),(2,true),(3,true),(4,true),(5,true),(6,true),(7,true),(8,true),(9,true),(10,true),(11,true),(12,true),(13,false),(14,true),(15,true),(16,true)] [] mixed (by kernel_rfl) ?_
   iterate 8 refine s1_ ?_
   first|refine k_d ?_|refine dL (hc:=Calm.load ty_plain_3 rfl (rd_row (k:=a) own_ rw_ rw_)) (h:=?_)
   iterate 3 refine s1_ ?_
   first|refine k_d ?_|refine dL (hc:=Calm.load ty_plain_3 rfl (rd_row (k:=i) own_ rw_ rw_)) (h:=?_)
   refine draw_only rfl ?_
   refine rUn 34 ?_
   refine ARun.callV (first:=[]) (cap:=cb) (lit_lt rfl) C.go rfl rfl (C.call less_ (R2.ok (a) rw_) (R2.ok (i) rw_)) ?_
   rintro _ _ ⟨rfl,rfl⟩
   refine arun_nil ⟨fun _=>less_,?_⟩
   iterate 5 refine s1_ ?_
   refine su_ [(0,_),(1,_),(4,_),(11,_),(12,_),(47,_)] ?_
   refine AWP.condB rfl (fun hl=>?_) (fun hl=>?_)
   ·have hl:=nt_ hl
    iterate 10 refine s1_ ?_
    refine ⟨i+1,?_,?_,?_,?_⟩
    all_goals (try dsimp only)
    ·exact ⟨sb_,sb_,sb_,sb_,sb_,trivial⟩
    ·exact Mem.Less.refl _
    ·exact ⟨by omega,by omega,(up_go (p:=(fun x=>!(lq cf) d2[a]! x)) hij (by simp only [lq_,hl,Bool.not_true,Bool.not_false])).trans q3⟩
    ·omega
   ·have hl:=nf_ hl
    iterate 4 refine s1_ ?_
    refine ⟨i,?_,?_,?_⟩
    all_goals (try dsimp only)
    ·exact ⟨by omega,by omega,(up_no (p:=(fun x=>!(lq cf) d2[a]! x)) (by simp only [lq_,hl,Bool.not_true,Bool.not_false])).trans q3⟩
    ·exact ⟨sb_,sb_,sb_,sb_,sb_,trivial⟩
    ·exact Mem.Less.refl _
  ·iterate 2 refine s1_ ?_
   refine AWP.draw [(0,true),(1,true),(2,true),(3,true),(4,true),(5,true),(6,true),(7,true),(8,true),(9,true),(10,true),(11,true),(12,true),(13,false),(14,true),(15,true),(16,true)] [] mixed (by kernel_rfl) ?_
   iterate 8 refine s1_ ?_
   first|refine k_d ?_|refine dL (hc:=Calm.load ty_plain_3 rfl (rd_row (k:=a) own_ rw_ rw_)) (h:=?_)
   iterate 3 refine s1_ ?_
   first|refine k_d ?_|refine dL (hc:=Calm.load ty_plain_3 rfl (rd_row (k:=i) own_ rw_ rw_)) (h:=?_)
   refine draw_only rfl ?_
   refine s1_ ?_
   refine arun_nil ⟨fun _=>less_,?_⟩
   iterate 5 refine s1_ ?_
   refine su_ [(0,_),(1,_),(4,_),(11,_),(12,_),(47,_)] ?_
   refine cF_ ?_
   iterate 4 refine s1_ ?_
   refine ⟨i,?_,?_,?_⟩
   all_goals (try dsimp only)
   ·exact ⟨by omega,by omega,(up_end (p:=(fun x=>!(lq cf) d2[a]! x)) hij).trans q3⟩
   ·exact ⟨sb_,sb_,sb_,sb_,sb_,trivial⟩
   ·exact Mem.Less.refl _
 rintro i2 ⟨b1,b2,hU⟩
 intro _ _ hs_ hl_
 (try dsimp only at *)
 refine athen_n ?_
 refine AWP.sub _ hs_ (AWP.less _ hl_ ?_)
 clear hs_ hl_
 refine s1_ ?_
 refine AWP.join (X:=Nat) (fun x=>[(0,.slice (some ⟨b,0,none⟩) n cap),(1,.int .i64 a),(4,.func (.func g) #[] cb.toArray),(11,.int .i64 i2),(12,.int .i64 x)]) (fun _=>S.set b ⟨3,(d2).toList.map enc,room⟩) (fun x=>a≤x∧x≤J∧x=scanDown (fun x=>(lq cf) d2[a]! x) d2 i2 J2) ?_ ?_
 ·refine s1_ ?_
  refine AWP.loop (X:=Nat) (fun x=>[(0,.slice (some ⟨b,0,none⟩) n cap),(1,.int .i64 a),(4,.func (.func g) #[] cb.toArray),(11,.int .i64 i2),(12,.int .i64 x)]) (fun _=>S.set b ⟨3,(d2).toList.map enc,room⟩) (fun x=>a≤x∧x≤J∧scanDown (fun x=>(lq cf) d2[a]! x) d2 i2 x=scanDown (fun x=>(lq cf) d2[a]! x) d2 i2 J2) (fun x=>x) (J2) ⟨sb_,sb_,sb_,sb_,sb_,trivial⟩ (Mem.Less.refl _) (⟨by omega,by omega,rfl⟩) ?_
  rintro j ⟨q1,q2,q3⟩
  (try dsimp only at *)
  by_cases hij:i2≤j
  ·obtain ⟨j,rfl⟩ : ∃ q,j=q+1:=⟨j-1,by omega⟩
   iterate 2 refine s1_ ?_
   refine AWP.draw [(0,true),(1,true),(2,true),(3,true),(4,true),(5,true),(6,true),(7,true),(8,true),(9,true),(10,true),(11,true),(12,true),(13,false),(14,true),(15,true)] [] mixed (by kernel_rfl) ?_
   iterate 8 refine s1_ ?_
   first|refine k_d ?_|refine dL (hc:=Calm.load ty_plain_3 rfl (rd_row (k:=a) own_ rw_ rw_)) (h:=?_)
   iterate 3 refine s1_ ?_
   first|refine k_d ?_|refine dL (hc:=Calm.load ty_plain_3 rfl (rd_row (k:=j+1) own_ rw_ rw_)) (h:=?_)
   refine draw_only rfl ?_
   refine rUn 53 ?_
   refine ARun.callV (first:=[]) (cap:=cb) (lit_lt rfl) C.go rfl rfl (C.call less_ (R2.ok (a) rw_) (R2.ok (j+1) rw_)) ?_
   rintro _ _ ⟨rfl,rfl⟩
   refine arun_nil ⟨fun _=>less_,?_⟩
   iterate 4 refine s1_ ?_
   refine su_ [(0,_),(1,_),(4,_),(11,_),(12,_),(65,_)] ?_
   refine AWP.condB rfl (fun hl=>?_) (fun hl=>?_)
   ·iterate 10 refine s1_ ?_
    refine ⟨j,?_,?_,?_,?_⟩
    all_goals (try dsimp only)
    ·exact ⟨sb_,sb_,sb_,sb_,sb_,trivial⟩
    ·exact Mem.Less.refl _
    ·exact ⟨by omega,by omega,(down_go (p:=(fun x=>(lq cf) d2[a]! x)) hij (by simp only [lq_,hl,Bool.not_true,Bool.not_false])).trans q3⟩
    ·omega
   ·iterate 4 refine s1_ ?_
    refine ⟨(j+1),?_,?_,?_⟩
    all_goals (try dsimp only)
    ·exact ⟨by omega,by omega,(down_no (p:=(fun x=>(lq cf) d2[a]! x)) (by omega) (by simp only [lq_,hl,Bool.not_true,Bool.not_false])).trans q3⟩
    ·exact ⟨sb_,sb_,sb_,sb_,sb_,trivial⟩
    ·exact Mem.Less.refl _
  ·iterate 2 refine s1_ ?_
   refine AWP.draw [(0,true),(1,true),(2,true),(3,true),(4,true),(5,true),(6,true),(7,true),(8,true),(9,true),(10,true),(11,true),(12,true),(13,false),(14,true),(15,true)] [] mixed (by kernel_rfl) ?_
   iterate 8 refine s1_ ?_
   first|refine k_d ?_|refine dL (hc:=Calm.load ty_plain_3 rfl (rd_row (k:=a) own_ rw_ rw_)) (h:=?_)
   iterate 3 refine s1_ ?_
   first|refine k_d ?_|refine dL (hc:=Calm.load ty_plain_3 rfl (rd_row (k:=j+1) own_ rw_ rw_)) (h:=?_)
   refine draw_only rfl ?_
   refine s1_ ?_
   refine arun_nil ⟨fun _=>less_,?_⟩
   iterate 4 refine s1_ ?_
   refine su_ [(0,_),(1,_),(4,_),(11,_),(12,_),(65,_)] ?_
   refine cF_ ?_
   iterate 4 refine s1_ ?_
   refine ⟨j,?_,?_,?_⟩
   all_goals (try dsimp only)
   ·exact ⟨by omega,by omega,(down_end (p:=(fun x=>(lq cf) d2[a]! x)) hij).trans q3⟩
   ·exact ⟨sb_,sb_,sb_,sb_,sb_,trivial⟩
   ·exact Mem.Less.refl _
 rintro j2 ⟨b3,b4,hD⟩
 intro _ _ hs_ hl_
 (try dsimp only at *)
 refine athen_n ?_
 refine AWP.sub _ hs_ (AWP.less _ hl_ ?_)
 clear hs_ hl_
 by_cases hx:j2<i2
 ·iterate 8 refine s1_ ?_
  refine su_ [(0,_),(1,_),(4,_),(11,_),(12,_),(70,_)] ?_
  refine cT_ ?_
  iterate 12 refine s1_ ?_
  refine su_ [(0,_),(1,_),(4,_),(11,_),(12,_),(70,_),(10,_)] ?_
  refine s1_ ?_
  refine ⟨_,_,⟨_,_,rfl,rfl,rfl⟩,Mem.Less.refl _,?_⟩
  exact parteq_res (lq cf) hd0 ((parteq_stop (lq cf) hU hD hx).trans m3) R2 (by omega) (by omega)
 ·iterate 8 refine s1_ ?_
  refine su_ [(0,_),(1,_),(4,_),(11,_),(12,_),(70,_)] ?_
  refine cF_ ?_
  iterate 3 refine s1_ ?_
  refine AWP.draw [(0,true),(1,true),(2,true),(3,true),(4,true),(5,true),(6,true),(7,true),(8,true),(9,true),(10,true),(11,true),(12,true),(13,false),(14,true),(15,false)] [13,15] mixed (by kernel_rfl) ?_
  iterate 7 refine s1_ ?_
  refine dC (hc:=Calm.load ty_plain_3 rfl (rd_row (k:=j2) own_ rw_ rw_)) (h:=?_)
  iterate 3 refine s1_ ?_
  refine dC (hc:=Calm.load ty_plain_3 rfl (rd_row (k:=i2) own_ rw_ rw_)) (h:=?_)
  refine s1_ ?_
  refine draw_only rfl ?_
  refine ARun.storeRow enc (i2) rfl rfl ty_size_3 (C.one _) own_ rw_ rw_ ?_
  try simp only [k_ms,k_sz,k_ss,k_za,Nat.reduceAdd]
  refine arun_nil ⟨fun h=>absurd h (by decide),?_⟩
  refine s1_ ?_
  refine draw_only rfl ?_
  refine ARun.storeRow enc (j2) rfl rfl ty_size_3 (C.one _) own_ rw_ rw_ ?_
  try simp only [k_ms,k_sz,k_ss,k_za,Nat.reduceAdd]
  refine arun_nil ⟨fun h=>absurd h (by decide),?_⟩
  iterate 2 refine s1_ ?_
  refine su_ [(0,_),(1,_),(4,_),(11,_),(12,_),(70,_)] ?_
  iterate 7 refine s1_ ?_
  refine su_ [(0,_),(1,_),(4,_),(11,_),(12,_),(70,_)] ?_
  iterate 7 refine s1_ ?_
  refine ⟨(i2+1,j2-1,swp d2 i2 j2),?_,?_,?_,?_⟩
  all_goals (try dsimp only)
  ·exact ⟨sb_,sb_,sb_,sb_,sb_,trivial⟩
  ·exact Mem.Less.refl _
  ·exact ⟨by omega,by omega,by omega,by omega,R2.swp _ _ (by omega) (by omega),(parteq_go (lq cf) hU hD hx).trans m3⟩
  ·(have:I2≤i2:=by rw [hU];exact Go.Sort.scanUp_ge _ _ _ _);omega
end Go.Proofs.YtckloanlkpchoaaGreatDoor
namespace Go.Proofs.YtckloanlkpchoaaGreatDoor
open Go.RowKit
open Mv
namespace Srt
open Go.Sort (swp order2 median medianAdjacent choosePivot breakStep breakPatterns scanSorted shiftDown shiftUp partialIns partialInsertionSort bitsLen xorNext Hint)
theorem set_over (S : Mem) {b c : Nat} (r r' x : Blk) (h : b ≠ c) : ((S.set b r).set c x).set b r' = (S.set b r').set c x := by
 rw [Mem.set_comm _ _ _ (Ne.symm h),Mem.set_set]
def hintI : Hint → Int
  | .unknown => 0
  | .increasing => 1
  | .decreasing => 2
section
variable {α : Type} [Inhabited α] (lt : α → α → Bool)
theorem ord2_lt {d : Array α} {a e k n x y k' : Nat} (h : (x, y, k') = order2 lt d a e k) (ha : a < n) (he : e < n) : x < n ∧ y < n ∧ k' ≤ k + 1 := by
 unfold order2 at h
 split at h <;> (simp only [Prod.mk.injEq] at h;omega)
theorem median_lt {d : Array α} {a e o k p k' lo hi : Nat} (h : (p, k') = median lt d a e o k) (ha : lo ≤ a ∧ a < hi) (he : lo ≤ e ∧ e < hi) (ho : lo ≤ o ∧ o < hi) : (lo ≤ p ∧ p < hi) ∧ k' ≤ k + 3 := by
 have hm:=Go.Sort.median_mem lt d a e o k
 rw [← h] at hm
 have hk:k'≤k+3:=by
  unfold median at h
  simp only [Prod.mk.injEq] at h
  rw [h.2]
  have h1:∀ x y z,(order2 lt d x y z).2.2≤z+1:=fun x y z=>by unfold order2;split <;> simp
  have:=h1 (order2 lt d a e k).1 (order2 lt d (order2 lt d a e k).2.1 o (order2 lt d a e k).2.2).1 (order2 lt d (order2 lt d a e k).2.1 o (order2 lt d a e k).2.2).2.2
  have:=h1 (order2 lt d a e k).2.1 o (order2 lt d a e k).2.2
  have:=h1 a e k
  omega
 refine ⟨?_,hk⟩
 simp only at hm
 omega
theorem medadj_lt {d : Array α} {a k p k' lo hi : Nat} (h : (p, k') = medianAdjacent lt d a k) (ha : lo < a) (he : a + 1 < hi) : (lo ≤ p ∧ p < hi) ∧ k' ≤ k + 3 :=
 median_lt lt (h.trans rfl) (by omega) (by omega) (by omega)
end
theorem piv_hint {k : Nat} (h0 : ¬ k = 0) (h1 : ¬ k = 12) : (if k = 0 then Hint.increasing else if k = 12 then Hint.decreasing else Hint.unknown) = .unknown := by rw [if_neg h0, if_neg h1]
theorem piv_val {i j h : Int} (e : i = j) : one [.int .i64 i, .int .i64 h] = .tuple #[.int .i64 j, .int .i64 h] := by rw [e]; rfl
theorem and_n64 (a b : Nat) (ha : a < 18446744073709551616) (hb : b < 18446744073709551616) : bits .and .u64 (a : Int) (b : Int) = ((a &&& b : Nat) : Int) := by
 have h:a &&& b<2 ^ 64:=Nat.and_lt_two_pow _ (by omega)
 show IntKind.u64.wrap (((BitVec.ofInt 64 (a:Int)) &&& (BitVec.ofInt 64 (b:Int))).toNat:Int)=_
 rw [BitVec.ofInt_natCast,BitVec.ofInt_natCast,BitVec.toNat_and,BitVec.toNat_ofNat,BitVec.toNat_ofNat,Nat.mod_eq_of_lt (by omega),Nat.mod_eq_of_lt (by omega)]
 exact IntWalk.u64_in _ (by omega)
theorem sub_u64 (m : Nat) (h0 : 1 ≤ m) (h1 : m < 18446744073709551616) : IntKind.u64.wrap ((m : Int) - 1) = ((m - 1 : Nat) : Int) := by
 rw [show ((m:Int)-1)=((m-1:Nat):Int) by omega];exact IntWalk.u64_in _ (by omega)
section
variable {α : Type} [Inhabited α]
/-- So many rounds of breaking patterns are left. -/
def bpR (a L mo ba : Nat) : Nat → UInt64 × Array α → UInt64 × Array α
  | 0, st => st
  | k + 1, st => bpR a L mo ba k (breakStep a L mo st (ba + (2 - k)))
theorem bpR_succ (a L mo ba k : Nat) (r : UInt64) (d : Array α) : bpR a L mo ba (k + 1) (r, d) = bpR a L mo ba k (xorNext r, swp d (ba + (2 - k)) (a + (if L ≤ (xorNext r).toNat &&& (mo - 1) then ((xorNext r).toNat &&& (mo - 1)) - L else (xorNext r).toNat &&& (mo - 1)))) := rfl
theorem bp_eq {d : Array α} {a L : Nat} (h8 : 8 ≤ L) : breakPatterns d a (a + L) = (bpR a L (1 <<< bitsLen L) (a + L / 4 * 2 - 1) 3 (UInt64.ofNat L, d)).2 := by
 unfold breakPatterns
 simp only [Nat.add_sub_cancel_left]
 rw [if_pos h8]
 rfl
end
theorem bp_mod (L : Nat) (h0 : 0 < L) (h : L ≤ 1048576) : 1 ≤ 1 <<< bitsLen L ∧ 1 <<< bitsLen L ≤ 2 * L := by
 rw [Nat.one_shiftLeft]
 exact ⟨Nat.one_le_two_pow,Go.Sort.two_pow_bitsLen_le h0⟩
section
variable {α : Type} [Inhabited α] (lt : α → α → Bool)
theorem pis_res {okP : α → Prop} {n a e s i : Nat} {d d1 : Array α} {M : Array α → Mem} {r : Value} {S' : Mem} (h3 : partialIns lt a e (s + 1) i d1 = partialInsertionSort lt d a e)
  (h:(scanSorted lt d1 e i=e∧r = .bool true∧S'=M d1)∨(¬ scanSorted lt d1 e i=e∧e-a<50∧r = .bool false∧S'=M d1)) (R:Rw okP n d1) :
  r = .bool (partialInsertionSort lt d a e).2∧S'=M (partialInsertionSort lt d a e).1∧Rw okP n (partialInsertionSort lt d a e).1:=by
 rw [← h3]
 unfold partialIns
 rcases h with ⟨h,rfl,rfl⟩ | ⟨h,h5,rfl,rfl⟩
 ·simp only [if_pos h];exact ⟨trivial,trivial,R⟩
 ·simp only [if_neg h,if_pos h5];exact ⟨trivial,trivial,R⟩
theorem pi_step {a e s i w : Nat} {d1 d2 d3 d4 : Array α} (hS : w + 1 = scanSorted lt d1 e i) (hne : ¬ w + 1 = e) (h50 : ¬ e - a < 50) (hd2 : d2 = swp d1 (w + 1) w) (hd3 : d3 = if w + 1 - a ≥ 2 then shiftDown lt w d2 else d2)
  (hd4:d4=if e-(w+1) ≥ 2 then shiftUp lt e (w+1+1) d3 else d3):partialIns lt a e s (w+1) d4=partialIns lt a e (s+1) i d1:=by
 rw [partialIns.eq_def lt a e (s+1) i d1]
 simp only [← hS,if_neg hne,if_neg h50,Nat.add_sub_cancel,← hd2,← hd3,← hd4]
end
/-! ### The recursion, stage by stage -/
section
open Go.Sort (pdq insertionSort heapSort reverseRange partition partitionEqual)
variable {α : Type} [Inhabited α] (lt : α → α → Bool)
def pdq3 (d3 : Array α) (a b l : Nat) (w1 w2 : Bool) (pv : Nat) : Array α :=
  if (decide (a > 0) && !lt d3[a - 1]! d3[pv]!) = true then
    (if a < (partitionEqual lt d3 a b pv).1 ∧ (partitionEqual lt d3 a b pv).1 ≤ b then pdq lt (partitionEqual lt d3 a b pv).2 (partitionEqual lt d3 a b pv).1 b l w1 w2 else (partitionEqual lt d3 a b pv).2)
  else
    (if a ≤ (partition lt d3 a b pv).1 ∧ (partition lt d3 a b pv).1 < b then
      (if (partition lt d3 a b pv).1 - a < b - (partition lt d3 a b pv).1 then
        pdq lt (pdq lt (partition lt d3 a b pv).2.2 a (partition lt d3 a b pv).1 l true true) ((partition lt d3 a b pv).1 + 1) b l (decide ((partition lt d3 a b pv).1 - a ≥ (b - a) / 8)) (partition lt d3 a b pv).2.1
      else
        pdq lt (pdq lt (partition lt d3 a b pv).2.2 ((partition lt d3 a b pv).1 + 1) b l true true) a (partition lt d3 a b pv).1 l (decide (b - (partition lt d3 a b pv).1 ≥ (b - a) / 8)) (partition lt d3 a b pv).2.1)
    else (partition lt d3 a b pv).2.2)
def pdq2 (d2 : Array α) (a b l : Nat) (w1 w2 : Bool) (pv : Nat) (hi : Hint) : Array α :=
  if (w1 && w2 && decide (hi = .increasing)) = true then (if (partialInsertionSort lt d2 a b).2 = true then (partialInsertionSort lt d2 a b).1 else pdq3 lt (partialInsertionSort lt d2 a b).1 a b l w1 w2 pv)
  else pdq3 lt d2 a b l w1 w2 pv
def pdq1 (d1 : Array α) (a b l : Nat) (w1 w2 : Bool) : Array α :=
  if (choosePivot lt d1 a b).2 = .decreasing then pdq2 lt (reverseRange d1 a b) a b l w1 w2 (b - 1 - ((choosePivot lt d1 a b).1 - a)) .increasing
  else pdq2 lt d1 a b l w1 w2 (choosePivot lt d1 a b).1 (choosePivot lt d1 a b).2
theorem pdq_ins {d : Array α} {a b l : Nat} {w1 w2 : Bool} (h : b - a ≤ 12) : pdq lt d a b l w1 w2 = insertionSort lt d a b := by rw [pdq, if_pos h]
theorem pdq_heap {d : Array α} {a b l : Nat} {w1 w2 : Bool} (h : ¬ b - a ≤ 12) (h0 : l = 0) : pdq lt d a b l w1 w2 = heapSort lt d a b := by rw [pdq, if_neg h, if_pos h0]
theorem pdq_1 {d : Array α} {a b l : Nat} {w1 w2 : Bool} (h : ¬ b - a ≤ 12) (h0 : ¬ l = 0) : pdq lt d a b l w1 w2 = pdq1 lt (if !w1 then breakPatterns d a b else d) a b (if !w1 then l - 1 else l) w1 w2 := by
 rw [pdq,if_neg h,if_neg h0]
 dsimp only
 unfold pdq1 pdq2 pdq3
 generalize (if (!w1)=true then breakPatterns d a b else d)=d1
 generalize (if (!w1)=true then l-1 else l)=l2
 generalize choosePivot lt d1 a b=c
 obtain ⟨p0,hn⟩:=c
 dsimp only
 by_cases hd:hn = .decreasing
 ·subst hd
  simp only [if_true]
  generalize partialInsertionSort lt (reverseRange d1 a b) a b=q
  obtain ⟨d3,pb⟩:=q
  cases w1 <;> cases w2 <;> cases pb <;> simp
 ·simp only [if_neg hd]
  by_cases hx:(w1 && w2 && decide (hn=Hint.increasing))=true
  ·simp only [if_pos hx]
   generalize partialInsertionSort lt d1 a b=q
   obtain ⟨d3,pb⟩:=q
   cases pb <;> simp
  ·simp only [if_neg hx];simp
end
theorem hint_ne {h : Hint} (hd : ¬ h = .decreasing) : hintI h < 2 ∧ 0 ≤ hintI h := by cases h <;> simp_all [hintI]
theorem hint_1 (h : Hint) : decide (hintI h = 1) = decide (h = .increasing) := by cases h <;> rfl
theorem wbv_ {p q : Prop} [Decidable p] [Decidable q] (h : p ↔ q) : some (Value.bool (decide p)) = some (Value.bool (decide q)) := by
 congr 2;rw [decide_eq_decide];exact h
end Srt
end Go.Proofs.YtckloanlkpchoaaGreatDoor
