/-
  Texts that belong together: LoserMath2, VLos1, VLos2, VLos3, VLos4, VLos5, VLos6, VLos8, VLos10, Mg1, Mg2, Mg3, Mg4, Mg5, Mg6, Mg7, Mg8, MgL0, VLos11, TlMath2, VBitsAdd, SBW, SB1, SB2, TlB, Seq, Tl1, MgL1, LaidM.
-/
import Derived.Test.YtcpiknecmjbknaaGreatDoorBMg6
import Derived.Test.YtcpiknecmjbknaaGreatDoorBitsWrite
import Derived.Test.YtcpiknecmjbknaaGreatDoorBitsCheck
import Derived.Test.YtcpiknecmjbknaaGreatDoorSBLib
import Derived.Test.YtcpiknecmjbknaaGreatDoorBitsGet
import Derived.Test.YtcpiknecmjbknaaGreatDoorRows
import Derived.LaidLaws
import Derived.LaidMore
import Derived.LaidHandle
import Derived.MakeChecks
import Derived.LaidByTextLater
import Derived.Stop.Joined
import Derived.ProofKit
set_option linter.unusedVariables false
set_option linter.unusedSimpArgs false
set_option linter.unusedSectionVars false
namespace Go.Proofs.YtcpiknecmjbknaaGreatDoor
section
namespace Loser
open Num
theorem key_set_other (ks:List (List Nat)) (w i:Nat) (x:List Nat) (h:i≠w):key (ks.set w x) i=key ks i:=by simp [key,List.getD,Ne.symm h]
theorem key_set_same (ks:List (List Nat)) (w:Nat) (x:List Nat) (h:w<ks.length):key (ks.set w x) w=x:=by simp [key,List.getD,h]
theorem key_get (ks:List (List Nat)) (i:Nat) (h:i<ks.length):key ks i=ks[i]:=by simp [key,List.getD,h]
theorem beats_set (ks:List (List Nat)) (w a b:Nat) (x:List Nat) (ha:a≠w) (hb:b≠w):beatsP (ks.set w x) a b=beatsP ks a b:=by
 unfold beatsP;rw [key_set_other _ _ _ _ ha,key_set_other _ _ _ _ hb]
theorem win_off (ks:List (List Nat)) (w n:Nat) (x:List Nat) (hn:1≤n) (h:n<2*ks.length) (hu : ¬ under ks.length n w):win (ks.set w x) n=win ks n:=by
 have hl:(ks.set w x).length=ks.length:=List.length_set
 have hne:∀ i,under ks.length n i→i≠w:=fun i hi e=>hu (e ▸ hi)
 refine win_only hn (by rw [hl];exact h) (by rw [hl];exact win_lt hn h) (by rw [hl];exact win_under hn h) fun i hi hui hni=>?_
 rw [hl] at hi hui
 rw [beats_set _ _ _ _ _ (hne _ (win_under hn h)) (hne i hui)]
 exact win_beats hn h hi hui hni
theorem los_off (ks:List (List Nat)) (w n:Nat) (x:List Nat) (hn:1≤n) (h:n<ks.length) (hu : ¬ under ks.length n w):los (ks.set w x) n=los ks n:=by
 have h1 : ¬ under ks.length (2*n) w:=fun e=>hu ((under_node h).2 (.inl e))
 have h2 : ¬ under ks.length (2*n+1) w:=fun e=>hu ((under_node h).2 (.inr e))
 unfold los
 rw [win_off ks w (2*n) x (by omega) (by omega) h1,win_off ks w (2*n+1) x (by omega) (by omega) h2]
 have ha:=win_under (ks:=ks) (n:=2*n) (by omega) (by omega)
 have hb:=win_under (ks:=ks) (n:=2*n+1) (by omega) (by omega)
 have hb':win ks (2*n+1)≠w:=fun e=>by rw [e] at hb;exact h2 hb
 have ha':win ks (2*n)≠w:=fun e=>by rw [e] at ha;exact h1 ha
 rw [beats_set _ _ _ _ _ hb' ha']
theorem win_path (ks:List (List Nat)) (n:Nat) (hn:1≤n) (h:n<2*ks.length) (hu:under ks.length n (win ks 1)):win ks n=win ks 1:=by
 have h1:1<2*ks.length:=by omega
 exact win_only hn h (win_lt (by decide) h1) hu fun i hi _ hne=>win_beats (by decide) h1 hi (under_top hi) hne
theorem los_on (ks:List (List Nat)) (n c s:Nat) (x:List Nat) (hn:1≤n) (h:n<ks.length) (hc:(c=2*n∧s=2*n+1)∨(c=2*n+1∧s=2*n)) (hu:under ks.length c (win ks 1)):los ks n=win (ks.set (win ks 1) x) s:=by
 have hs : ¬ under ks.length s (win ks 1):=fun e=>by
  rcases hc with ⟨rfl,rfl⟩ | ⟨rfl,rfl⟩
  ·exact under_apart hn hu e
  ·exact under_apart hn e hu
 rw [win_off ks _ s x (by omega) (by omega) hs]
 have hcw:=win_path ks c (by omega) (by omega) hu
 have hsu:=win_under (ks:=ks) (n:=s) (by omega) (by omega)
 have hne:win ks s≠win ks 1:=fun e=>hs (e ▸ hsu)
 have hb:beatsP ks (win ks 1) (win ks s)=true:=win_beats (by decide) (by omega) (win_lt (by omega) (by omega)) (under_top (win_lt (by omega) (by omega))) hne
 unfold los
 rcases hc with ⟨rfl,rfl⟩ | ⟨rfl,rfl⟩
 ·rw [hcw,beats_asymm _ _ _ hb];simp
 ·rw [hcw,hb];simp
theorem game (ks:List (List Nat)) (n c s:Nat) (hn:1≤n) (h:n<ks.length) (hc:(c=2*n∧s=2*n+1)∨(c=2*n+1∧s=2*n)) :
  (beatsP ks (win ks s) (win ks c)=true→win ks n=win ks s∧los ks n=win ks c)∧(beatsP ks (win ks s) (win ks c)=false→win ks n=win ks c∧los ks n=win ks s):=by
 have hne:=win_ne hn h
 rw [win_node ks n hn h];unfold los
 rcases hc with ⟨rfl,rfl⟩ | ⟨rfl,rfl⟩
 ·constructor <;> intro hb <;> rw [hb] <;> simp
 ·rw [beats_not ks _ _ (Ne.symm hne)]
  constructor <;> intro hb
  ·have:beatsP ks (win ks (2*n+1)) (win ks (2*n))=false:=by simpa using hb
   rw [this];simp
  ·have:beatsP ks (win ks (2*n+1)) (win ks (2*n))=true:=by simpa using hb
   rw [this];simp
structure RepI (ks:List (List Nat)) (x:List Nat) (c:Nat) (tr:List Int):Prop where
  len:tr.length=ks.length
  old:∀ m,1≤m→m<ks.length→under ks.length m (win ks 1)→m<c→tr[m]?=some (los ks m:Int)
  new:∀ m,1≤m→m<ks.length → ¬ (under ks.length m (win ks 1)∧m<c)→tr[m]?=some (los (ks.set (win ks 1) x) m:Int)
  at_:1≤c∧c<2*ks.length∧under ks.length c (win ks 1)
theorem treeOf_get (ks:List (List Nat)) (m:Nat) (h1:1≤m) (h:m<ks.length):(treeOf ks)[m]?=some (los ks m:Int):=by
 simp [treeOf,h];omega
theorem treeOf_zero (ks:List (List Nat)) (h:1≤ks.length):(treeOf ks)[0]?=some (win ks 1:Int):=by
 have:0<ks.length:=by omega
 simp [treeOf,this]
theorem RepI.start (ks:List (List Nat)) (x:List Nat) (h:1≤ks.length):RepI ks x (ks.length+win ks 1) (treeOf ks):=by
 have hw:=win_lt (ks:=ks) (n:=1) (by decide) (by omega)
 refine ⟨treeOf_length ks,fun m h1 h2 _ _=>treeOf_get ks m h1 h2,fun m h1 h2 hn=>?_,by omega,by omega,⟨0,by simp⟩⟩
 rw [treeOf_get ks m h1 h2,los_off ks _ m x h1 h2 (fun e=>hn ⟨e,by omega⟩)]
theorem RepI.sib {ks:List (List Nat)} {x:List Nat} {c:Nat} {tr:List Int} (h:RepI ks x c tr) (hn:1≤c / 2) :
  ∃ s,((c=2*(c / 2)∧s=2*(c / 2)+1)∨(c=2*(c / 2)+1∧s=2*(c / 2)))∧tr[c / 2]?=some (win (ks.set (win ks 1) x) s:Int)∧c / 2<ks.length∧s<2*ks.length∧1≤s:=by
 obtain ⟨h1,h2,h3⟩:=h.at_
 have hk:c / 2<ks.length:=by omega
 have hu:under ks.length (c / 2) (win ks 1):=by obtain ⟨j,hj⟩:=h3;exact ⟨j+1,by rw [div_pow_succ,hj]⟩
 have hs:∃ s,(c=2*(c / 2)∧s=2*(c / 2)+1)∨(c=2*(c / 2)+1∧s=2*(c / 2)):=by
  rcases Nat.mod_two_eq_zero_or_one c with e | e
  ·exact ⟨_,.inl ⟨by omega,rfl⟩⟩
  ·exact ⟨_,.inr ⟨by omega,rfl⟩⟩
 obtain ⟨s,hs⟩:=hs
 refine ⟨s,hs,?_,hk,by omega,by omega⟩
 rw [h.old (c / 2) hn hk hu (by omega),los_on ks (c / 2) c s x hn hk hs h3]
theorem RepI.step {ks:List (List Nat)} {x:List Nat} {c:Nat} {tr:List Int} (h:RepI ks x c tr) (hn:1≤c / 2):RepI ks x (c / 2) (tr.set (c / 2) (los (ks.set (win ks 1) x) (c / 2):Int)):=by
 obtain ⟨h1,h2,h3⟩:=h.at_
 have hk:c / 2<ks.length:=by omega
 have hu:under ks.length (c / 2) (win ks 1):=by obtain ⟨j,hj⟩:=h3;exact ⟨j+1,by rw [div_pow_succ,hj]⟩
 refine ⟨by rw [List.length_set];exact h.len,fun m q1 q2 q3 q4=>?_,fun m q1 q2 q3=>?_,hn,by omega,hu⟩
 ·rw [List.getElem?_set_ne (by omega)];exact h.old m q1 q2 q3 (by omega)
 ·by_cases e:c / 2=m
  ·subst e;rw [List.getElem?_set_self (by rw [h.len];exact hk)]
  ·rw [List.getElem?_set_ne e]
   refine h.new m q1 q2 fun ⟨r1,r2⟩=>?_
   have:=under_order h3 r1 r2
   exact q3 ⟨r1,by omega⟩
theorem RepI.done {ks:List (List Nat)} {x:List Nat} {tr:List Int} (h:RepI ks x 1 tr) (hk:1≤ks.length):tr.set 0 (win (ks.set (win ks 1) x) 1:Int)=treeOf (ks.set (win ks 1) x):=by
 have hl:(ks.set (win ks 1) x).length=ks.length:=List.length_set
 apply List.ext_getElem?
 intro m
 by_cases hm:m<ks.length
 ·cases m with
  | zero=>rw [List.getElem?_set_self (by rw [h.len];omega),treeOf_zero _ (by rw [hl];exact hk)]
  | succ m=>rw [List.getElem?_set_ne (by omega),h.new (m+1) (by omega) hm (fun e=>by omega),treeOf_get _ _ (by omega) (by rw [hl];exact hm)]
 ·rw [List.getElem?_eq_none (by rw [List.length_set,h.len];omega),List.getElem?_eq_none (by rw [treeOf_length,hl];omega)]
structure GroI (ks:List (List Nat)) (n:Nat) (ws tr:List Int):Prop where
  wl:ws.length=2*ks.length
  tl:tr.length=ks.length
  win_:∀ m,n<m→m<2*ks.length→ws[m]?=some (win ks m:Int)
  los_:∀ m,n<m→1≤m→m<ks.length→tr[m]?=some (los ks m:Int)
  zero:tr[0]?=some 0∨ks.length=0
theorem GroI.step {ks:List (List Nat)} {n:Nat} {ws tr:List Int} (h:GroI ks n ws tr) (hn:1≤n) (hk:n<ks.length):GroI ks (n-1) (ws.set n (win ks n:Int)) (tr.set n (los ks n:Int)):=by
 refine ⟨by simp [h.wl],by simp [h.tl],fun m q1 q2=>?_,fun m q1 q2 q3=>?_,?_⟩
 ·by_cases e:n=m
  ·subst e;rw [List.getElem?_set_self (by rw [h.wl];omega)]
  ·rw [List.getElem?_set_ne e];exact h.win_ m (by omega) q2
 ·by_cases e:n=m
  ·subst e;rw [List.getElem?_set_self (by rw [h.tl];omega)]
  ·rw [List.getElem?_set_ne e];exact h.los_ m (by omega) q2 q3
 ·rw [List.getElem?_set_ne (by omega)];exact h.zero
theorem GroI.done {ks:List (List Nat)} {ws tr:List Int} (h:GroI ks 0 ws tr) (hk:1<ks.length):tr.set 0 (win ks 1:Int)=treeOf ks:=by
 apply List.ext_getElem?
 intro m
 by_cases hm:m<ks.length
 ·cases m with
  | zero=>rw [List.getElem?_set_self (by rw [h.tl];omega),treeOf_zero _ (by omega)]
  | succ m=>rw [List.getElem?_set_ne (by omega),h.los_ (m+1) (by omega) (by omega) hm,treeOf_get _ _ (by omega) hm]
 ·rw [List.getElem?_eq_none (by rw [List.length_set,h.tl];omega),List.getElem?_eq_none (by rw [treeOf_length];omega)]
theorem GroI.done1 {ks:List (List Nat)} {ws tr:List Int} (h:GroI ks 0 ws tr) (hk:ks.length≤1):tr=treeOf ks:=by
 apply List.ext_getElem?
 intro m
 by_cases hm:m<ks.length
 ·obtain rfl:m=0:=by omega
  rw [treeOf_zero _ (by omega),win_leaf _ _ (by omega),show 1-ks.length=0 from by omega]
  rcases h.zero with q | q
  ·exact q
  ·omega
 ·rw [List.getElem?_eq_none (by rw [h.tl];omega),List.getElem?_eq_none (by rw [treeOf_length];omega)]
end Loser
end
section
open Go.RowKit
open Mv Num Loser
set_option maxRecDepth 4000
def treeB (hk ht:Value):Blk:=⟨198,[hk,ht],2⟩
def intB (l:List Int) (c:Nat):Blk:=⟨3,l.map (fun x=>Value.int .i64 x),c⟩
theorem beats_cmp (ks:List (List Nat)) (a b:Nat) (hx:key ks a ≠ []) (hy:key ks b ≠ []):beatsP ks a b=(decide (cmpB (key ks a) (key ks b)<0) || (decide (cmpB (key ks a) (key ks b)=0) && decide (a<b))):=by
 unfold beatsP
 rw [cmpB_lt]
 have h1:kLess (key ks a) (key ks b)=lessB (key ks a) (key ks b):=by
  generalize key ks a=x at *;generalize key ks b=y at *
  cases x with
  | nil=>exact absurd rfl hx
  | cons _ _=>cases y with
   | nil=>exact absurd rfl hy
   | cons _ _=>rfl
 have h2:∀ x y:List Nat,cmpB x y=0 ↔ x=y:=by
  intro x
  induction x with
  | nil=>intro y;cases y <;> simp [cmpB]
  | cons a x ih =>
   intro y
   cases y with
   | nil=>simp [cmpB]
   | cons b y =>
    simp only [cmpB]
    split
    ·simp;omega
    ·split
     ·simp;omega
     ·rw [ih];simp;omega
 rw [h1]
 congr 1;congr 1;rw [Bool.eq_iff_iff];simp [h2]
set_option maxHeartbeats 1000000 in
theorem losV_beats (p:Nat) (hk ht:Value) (ks:List (List Nat)) (a b:Nat) (S:Mem) (hp:S.own p=some (treeB hk ht)) (hks:SlOf RowR S hk ks) (ha:a<ks.length) (hb:b<ks.length) :
  ACall Tryz.prog 138 #[.pointer (some ⟨p,0,none⟩),.int .i64 a,.int .i64 b] S fun r S'=>r = .bool (beatsP ks a b)∧S'=S:=by
 unfold treeB at hp
 obtain ⟨hs,hsl,⟨pa,ca,rfl,h1,h2,h3⟩,hse⟩:=hks
 obtain ⟨b0,off,rfl,hkn⟩:=h3.resolve_left (by intro h;rw [h] at hsl;simp at hsl;omega)
 have hka:=hkn a (by omega)
 have hkb:=hkn b (by omega)
 have hra:=hse a ha (by omega)
 have hrb:=hse b hb (by omega)
 rw [← key_get ks a ha] at hra
 rw [← key_get ks b hb] at hrb
 have hcmp:=beats_cmp ks a b
 have hb1:key ks a = []→key ks b = []→beatsP ks a b=decide (a<b):=fun h1 h2=>by unfold beatsP;rw [h1,h2];simp [kLess]
 have hb2:key ks a = []→key ks b ≠ []→beatsP ks a b=false:=fun h1 h2=>by
  unfold beatsP;rw [h1]
  have:decide ([]=key ks b)=false:=decide_eq_false (Ne.symm h2)
  rw [this];simp [kLess]
 have hb3:key ks a ≠ []→key ks b = []→beatsP ks a b=true:=fun h1 h2=>by
  unfold beatsP;rw [h2]
  cases h:key ks a with
  | nil=>exact absurd h h1
  | cons _ _=>rfl
 have hlt:decide ((a:Int)<(b:Int))=decide (a<b):=by rw [Bool.eq_iff_iff];simp
 have lz:∀ l:List Nat,l.length=0 ↔ l = []:=fun l=>List.length_eq_zero_iff
 generalize key ks a=x at *
 generalize key ks b=y at *
 obtain ⟨ga,hga⟩ : ∃ g,g=hs[a]:=⟨_,rfl⟩
 obtain ⟨gb,hgb⟩ : ∃ g,g=hs[b]:=⟨_,rfl⟩
 rw [← hga] at hka hra
 rw [← hgb] at hkb hrb
 obtain ⟨qa,da,rfl,xa1,xa2,_⟩:=id hra
 obtain ⟨qb,db,rfl,xb1,xb2,_⟩:=id hrb
 by_cases hx:x.length=0
 ·by_cases hy:y.length=0
  ·rw [hb1 ((lz x).1 hx) ((lz y).1 hy)]
   refine k_E3 (rs:=[.tmp 6]) 60 Tryz.func138 rfl rfl rfl ?_
   iterate 6 refine s1_ ?_
   refine AWP.draw [(0,true),(1,true),(2,true),(3,true),(4,true),(5,true),(6,true),(7,true),(8,true),(9,true),(10,true),(11,true),(12,true),(13,true),(14,true),(15,true),(16,true),(17,true)] [] mixed (by kernel_rfl) ?_
   iterate 35 refine s1_ ?_
   refine cT_ ?_
   iterate 4 refine s1_ ?_
   refine rC (Calm.bin rfl rfl (bin_bool (bin_lss _ _) hlt)) ?_
   iterate 6 refine s1_ ?_
   refine ⟨_,S,⟨_,_,rfl,rfl,rfl⟩,less_,?_⟩
   exact ⟨rfl,rfl⟩
  ·rw [hb2 ((lz x).1 hx) (fun e=>hy ((lz y).2 e))]
   refine k_E3 (rs:=[.tmp 6]) 60 Tryz.func138 rfl rfl rfl ?_
   iterate 6 refine s1_ ?_
   refine AWP.draw [(0,true),(1,true),(2,true),(3,true),(4,true),(5,true),(6,true),(7,true),(8,true),(9,true),(10,true),(11,true),(12,true),(13,true),(14,true),(15,true),(16,true),(17,true)] [] mixed (by kernel_rfl) ?_
   iterate 35 refine s1_ ?_
   refine k_v7 0 1 2 6 7 8 26 ?_
   refine cF_ ?_
   iterate 13 refine s1_ ?_
   refine cT_ ?_
   iterate 11 refine s1_ ?_
   refine ⟨_,S,⟨_,_,rfl,rfl,rfl⟩,less_,?_⟩
   exact ⟨rfl,rfl⟩
 ·by_cases hy:y.length=0
  ·rw [hb3 (fun e=>hx ((lz x).2 e)) ((lz y).1 hy)]
   refine k_E3 (rs:=[.tmp 6]) 60 Tryz.func138 rfl rfl rfl ?_
   iterate 6 refine s1_ ?_
   refine AWP.draw [(0,true),(1,true),(2,true),(3,true),(4,true),(5,true),(6,true),(7,true),(8,true),(9,true),(10,true),(11,true),(12,true),(13,true),(14,true),(15,true),(16,true),(17,true)] [] mixed (by kernel_rfl) ?_
   iterate 35 refine s1_ ?_
   refine cF_ ?_
   iterate 13 refine s1_ ?_
   refine k_v8 0 1 2 6 7 8 26 38 ?_
   refine cT_ ?_
   iterate 11 refine s1_ ?_
   refine ⟨_,S,⟨_,_,rfl,rfl,rfl⟩,less_,?_⟩
   exact ⟨rfl,rfl⟩
  ·rw [hcmp (fun e=>hx ((lz x).2 e)) (fun e=>hy ((lz y).2 e))]
   by_cases hc:cmpB x y=0
   ·have hc0:=hc
    refine k_E3 (rs:=[.tmp 6]) 60 Tryz.func138 rfl rfl rfl ?_
    iterate 6 refine s1_ ?_
    refine AWP.draw [(0,true),(1,true),(2,true),(3,true),(4,true),(5,true),(6,true),(7,true),(8,true),(9,true),(10,true),(11,true),(12,true),(13,true),(14,true),(15,true),(16,true),(17,true)] [] mixed (by kernel_rfl) ?_
    iterate 35 refine s1_ ?_
    refine cF_ ?_
    iterate 13 refine s1_ ?_
    refine cF_ ?_
    iterate 8 refine s1_ ?_
    refine ca_ rfl (numV_Compare x y _ _ S hra hrb) ?_
    rintro _ S1 ⟨rfl,h1⟩
    rw [h1];clear h1 S1
    iterate 3 refine s1_ ?_
    refine k_v9 0 1 2 6 7 8 26 38 9 ?_
    iterate 6 refine s1_ ?_
    refine cF_ ?_
    iterate 6 refine s1_ ?_
    refine rC (Calm.bin rfl rfl (bin_bool (bin_lss _ _) hlt)) ?_
    iterate 4 refine s1_ ?_
    refine ⟨_,S,⟨_,_,rfl,rfl,rfl⟩,less_,?_⟩
    exact ⟨by rw [hc];simp [one],rfl⟩
   ·have hc0:=hc
    refine k_E3 (rs:=[.tmp 6]) 60 Tryz.func138 rfl rfl rfl ?_
    iterate 6 refine s1_ ?_
    refine AWP.draw [(0,true),(1,true),(2,true),(3,true),(4,true),(5,true),(6,true),(7,true),(8,true),(9,true),(10,true),(11,true),(12,true),(13,true),(14,true),(15,true),(16,true),(17,true)] [] mixed (by kernel_rfl) ?_
    iterate 35 refine s1_ ?_
    refine cF_ ?_
    iterate 13 refine s1_ ?_
    refine k_v8 0 1 2 6 7 8 26 38 ?_
    refine cF_ ?_
    iterate 8 refine s1_ ?_
    refine ca_ rfl (numV_Compare x y _ _ S hra hrb) ?_
    rintro _ S1 ⟨rfl,h1⟩
    rw [h1];clear h1 S1
    iterate 9 refine s1_ ?_
    refine cT_ ?_
    iterate 9 refine s1_ ?_
    refine ⟨_,S,⟨_,_,rfl,rfl,rfl⟩,less_,?_⟩
    exact ⟨by simp [one,hc],rfl⟩
theorem zeros_get (n m:Nat) (h:m<n):(List.replicate n (0:Int))[m]?=some 0:=by simp [h]
set_option maxRecDepth 10000 in
set_option maxHeartbeats 4000000 in
theorem losV_grow (p:Nat) (hk ht:Value) (ks:List (List Nat)) (S:Mem) (hf:Fresh S p) (hks:SlOf RowR S hk ks) (hl1:1≤ks.length) (hl2:ks.length≤256) :
  ACall Tryz.prog 137 #[.pointer (some ⟨p,0,none⟩)] (S.set p (treeB hk ht)) fun r S'=>∃ q,Fresh S q∧q≠p∧S'=(S.set q (intB (treeOf ks) ks.length)).set p (treeB hk (.slice (some ⟨q,0,none⟩) ks.length ks.length)):=by
 unfold treeB intB
 obtain ⟨pa,ca,rfl⟩ : ∃ pa ca,hk = .slice pa ks.length ca:=by
  obtain ⟨hs,hsl,⟨pa,ca,e,_⟩,_⟩:=id hks
  exact ⟨pa,ca,by rw [e,hsl]⟩
 refine k_E1 (rs:=[]) 80 Tryz.func137 rfl rfl rfl ?_
 iterate 15 refine s1_ ?_
 refine ARun.makeSlice (lit_lt rfl) ty_sl_178 rfl rfl (by omega) (by omega) (by omega) (by omega) ?_
 intro b16 f16
 have g16:=f16
 repeat ((with_reducible replace g16:=fresh_set g16);obtain ⟨g16,_⟩:=g16)
 iterate 6 refine s1_ ?_
 simp only [Nat.mul_one,madeL_one,Int.toNat_natCast]
 iterate 4 refine s1_ ?_
 refine ARun.makeSlice (lit_lt rfl) ty_sl_178 rfl rfl (by omega) (by omega) (by omega) (by omega) ?_
 intro b22 f22
 have g22:=f22
 repeat ((with_reducible replace g22:=fresh_set g22);obtain ⟨g22,_⟩:=g22)
 iterate 3 refine s1_ ?_
 have em2:(2*(ks.length:Int)).toNat=2*ks.length:=by omega
 simp only [Nat.mul_one,madeL_one,em2]
 have hz:∀ n,List.replicate n (Value.int .i64 0)=(List.replicate n (0:Int)).map fun x=>Value.int .i64 x:=fun n=>by simp
 rw [hz,hz]
 iterate 8 refine s1_ ?_
 refine AWP.loop (X:=Nat × List Int) (fun x=>[(0,.pointer (some ⟨p,0,none⟩)),(2,.int .i64 ks.length),(3,.slice (some ⟨b22,0,none⟩) (2*ks.length) (2*ks.length)),(23,.int .i64 ks.length),(24,.int .i64 x.1)]) (fun x=>((S.set b16 ⟨3,(List.replicate ks.length (0:Int)).map (fun x=>Value.int .i64 x),ks.length⟩).set b22 ⟨3,x.2.map (fun x=>Value.int .i64 x),2*ks.length⟩).set p ⟨198,[.slice pa ks.length ca,.slice (some ⟨b16,0,none⟩) ks.length ks.length],2⟩) (fun x=>x.1≤ks.length∧x.2.length=2*ks.length ∧ ∀ m,ks.length≤m→m<ks.length+x.1→x.2[m]?=some ((m-ks.length:Nat):Int)) (fun x=>ks.length-x.1) ((0,List.replicate (2*ks.length) (0:Int))) ⟨rfl,rfl,rfl,rfl,rfl,trivial⟩ less_ (⟨Nat.zero_le _,by simp,fun m h1 h2=>by omega⟩) ?_
 rintro ⟨i,ws⟩ ⟨hi,hwl,hw⟩
 (try dsimp only at *)
 iterate 6 refine s1_ ?_
 refine AWP.condB rfl (fun hil=>?_) (fun hil=>?_)
 ·have hil:i<ks.length:=by have:=of_decide_eq_true hil;omega
  have eki:((ks.length:Int)+(i:Int)).toNat=ks.length+i:=by omega
  iterate 21 refine s1_ ?_
  refine k_v7 0 2 3 23 24 25 4 ?_
  simp only [Nat.zero_add,Nat.mul_one,eki,icells_set]
  iterate 5 refine s1_ ?_
  refine ⟨(i+1,ws.set (ks.length+i) (i:Int)),?_,?_,?_,?_⟩
  all_goals (try dsimp only)
  ·exact ⟨rfl,rfl,rfl,rfl,rfl,trivial⟩
  ·exact less_
  ·exact ⟨hil,by rw [List.length_set];exact hwl,fun m h1 h2=>by by_cases e:ks.length+i=m;(subst e;rw [List.getElem?_set_self (by omega)];simp);(rw [List.getElem?_set_ne e];exact hw m h1 (by omega))⟩
  ·omega
 ·have hil:i=ks.length:=by have:=of_decide_eq_false hil;omega
  have hG:GroI ks (ks.length-1) ws (List.replicate ks.length (0:Int)):=⟨hwl,by simp,fun m h1 h2=>by rw [hw m (by omega) (by omega),win_leaf ks m (by omega)],fun m h1 h2 h3=>by omega,.inl (zeros_get _ 0 (by omega))⟩
  iterate 14 refine s1_ ?_
  refine AWP.loop (X:=Nat × List Int × List Int) (fun x=>[(0,.pointer (some ⟨p,0,none⟩)),(2,.int .i64 ks.length),(3,.slice (some ⟨b22,0,none⟩) (2*ks.length) (2*ks.length)),(5,.int .i64 x.1)]) (fun x=>((S.set b16 ⟨3,x.2.2.map (fun x=>Value.int .i64 x),ks.length⟩).set b22 ⟨3,x.2.1.map (fun x=>Value.int .i64 x),2*ks.length⟩).set p ⟨198,[.slice pa ks.length ca,.slice (some ⟨b16,0,none⟩) ks.length ks.length],2⟩) (fun x=>x.1<ks.length∧GroI ks x.1 x.2.1 x.2.2) (fun x=>x.1) ((ks.length-1,ws,List.replicate ks.length (0:Int))) ⟨rfl,rfl,rfl,some_int (by omega),trivial⟩ less_ (⟨by omega,hG⟩) ?_
  rintro ⟨n,vs,tr⟩ ⟨hn,hI⟩
  (try dsimp only at *)
  have hvl:=hI.wl
  have htl:=hI.tl
  by_cases hn1:1≤n
  ·iterate 7 refine s1_ ?_
   refine cT_ ?_
   have k1:=kn_int (S:=((S.set b16 ⟨3,tr.map (fun x=>Value.int .i64 x),ks.length⟩).set b22 ⟨3,vs.map (fun x=>Value.int .i64 x),2*ks.length⟩).set p ⟨198,[.slice pa ks.length ca,.slice (some ⟨b16,0,none⟩) ks.length ks.length],2⟩) (b:=b22) own_ (2*n) (hI.win_ (2*n) (by omega) (by omega))
   have k2:=kn_int (S:=((S.set b16 ⟨3,tr.map (fun x=>Value.int .i64 x),ks.length⟩).set b22 ⟨3,vs.map (fun x=>Value.int .i64 x),2*ks.length⟩).set p ⟨198,[.slice pa ks.length ca,.slice (some ⟨b16,0,none⟩) ks.length ks.length],2⟩) (b:=b22) own_ (2*n+1) (hI.win_ (2*n+1) (by omega) (by omega))
   have hw1:=win_lt (ks:=ks) (n:=2*n) (by omega) (by omega)
   have hw2:=win_lt (ks:=ks) (n:=2*n+1) (by omega) (by omega)
   have hg:=game ks n (2*n) (2*n+1) hn1 hn (.inl ⟨rfl,rfl⟩)
   iterate 5 refine s1_ ?_
   refine AWP.draw [(0,true),(1,true),(2,true),(3,true),(4,true),(5,true),(6,true),(7,true),(8,true),(9,true),(10,true),(11,true),(12,true)] [] mixed (by kernel_rfl) ?_
   iterate 21 refine s1_ ?_
   refine ca_ rfl (losV_beats p _ _ ks _ _ _ own_ (hks.less rowR_less less_) hw2 hw1) ?_
   rintro _ S1 ⟨rfl,h1⟩
   rw [h1];clear h1 S1
   iterate 2 refine s1_ ?_
   rcases Bool.eq_false_or_eq_true (beatsP ks (win ks (2*n+1)) (win ks (2*n))) with hb | hb
   ·obtain ⟨e1,e2⟩:=hg.1 hb
    refine AWP.condT rfl (hb) ?_
    iterate 7 refine s1_ ?_
    refine k_v8 0 2 3 5 37 6 7 54 ?_
    iterate 18 refine s1_ ?_
    simp only [Nat.zero_add,Nat.mul_one,Int.toNat_natCast,icells_set]
    rw [← e1,← e2]
    iterate 6 refine s1_ ?_
    refine ⟨(n-1,vs.set n (win ks n:Int),tr.set n (los ks n:Int)),?_,?_,?_,?_⟩
    all_goals (try dsimp only)
    ·exact ⟨rfl,rfl,rfl,some_int (by omega),trivial⟩
    ·exact less_
    ·exact ⟨by omega,hI.step hn1 hn⟩
    ·omega
   ·obtain ⟨e1,e2⟩:=hg.2 hb
    refine AWP.condF rfl (hb) ?_
    iterate 20 refine s1_ ?_
    simp only [Nat.zero_add,Nat.mul_one,Int.toNat_natCast,icells_set]
    rw [← e1,← e2]
    iterate 6 refine s1_ ?_
    refine ⟨(n-1,vs.set n (win ks n:Int),tr.set n (los ks n:Int)),?_,?_,?_,?_⟩
    all_goals (try dsimp only)
    ·exact ⟨rfl,rfl,rfl,some_int (by omega),trivial⟩
    ·exact less_
    ·exact ⟨by omega,hI.step hn1 hn⟩
    ·omega
  ·obtain rfl:n=0:=by omega
   iterate 7 refine s1_ ?_
   refine cF_ ?_
   by_cases hk1:1<ks.length
   ·iterate 11 refine s1_ ?_
    refine cT_ ?_
    have k1:=kn_int (S:=((S.set b16 ⟨3,tr.map (fun x=>Value.int .i64 x),ks.length⟩).set b22 ⟨3,vs.map (fun x=>Value.int .i64 x),2*ks.length⟩).set p ⟨198,[.slice pa ks.length ca,.slice (some ⟨b16,0,none⟩) ks.length ks.length],2⟩) (b:=b22) own_ 1 (hI.win_ 1 (by omega) (by omega))
    refine AWP.draw [(0,true),(1,true),(2,true),(3,true),(4,true),(5,true),(6,true),(7,true),(8,true),(9,false)] [9] mixed (by kernel_rfl) ?_
    iterate 9 refine s1_ ?_
    refine draw_only rfl ?_
    refine s1_ ?_
    refine arun_nil ⟨fun h=>absurd h (by decide),?_⟩
    refine s1_ ?_
    simp only [Nat.zero_add,Nat.mul_one,Int.toNat_zero,icells_set,hI.done hk1]
    refine ⟨_,(S.set b16 ⟨3,(treeOf ks).map (fun x=>Value.int .i64 x),ks.length⟩).set p ⟨198,[.slice pa ks.length ca,.slice (some ⟨b16,0,none⟩) ks.length ks.length],2⟩,rfl,less_,?_⟩
    exact ⟨b16,g16,by assumption,rfl⟩
   ·iterate 11 refine s1_ ?_
    refine k_v6 0 2 3 5 37 70 ?_
    refine cF_ ?_
    rw [hI.done1 (by omega)]
    refine s1_ ?_
    refine ⟨_,(S.set b16 ⟨3,(treeOf ks).map (fun x=>Value.int .i64 x),ks.length⟩).set p ⟨198,[.slice pa ks.length ca,.slice (some ⟨b16,0,none⟩) ks.length ks.length],2⟩,rfl,less_,?_⟩
    exact ⟨b16,g16,by assumption,rfl⟩
theorem losV_Of (hk:Value) (ks:List (List Nat)) (S:Mem) (hks:SlOf RowR S hk ks) (hl1:1≤ks.length) (hl2:ks.length≤256) :
  ACall Tryz.prog 100 #[hk] S fun r S'=>∃ p q,Fresh S p∧Fresh S q∧q≠p∧r = .pointer (some ⟨p,0,none⟩)∧S'=(S.set q (intB (treeOf ks) ks.length)).set p (treeB hk (.slice (some ⟨q,0,none⟩) ks.length ks.length)):=by
 obtain ⟨pa,ca,rfl⟩ : ∃ pa ca,hk = .slice pa ks.length ca:=by
  obtain ⟨hs,hsl,⟨pa,ca,e,_⟩,_⟩:=id hks
  exact ⟨pa,ca,by rw [e,hsl]⟩
 refine k_E1 (rs:=[.tmp 2]) 11 Tryz.func100 rfl rfl rfl ?_
 iterate 10 refine s1_ ?_
 refine ARun.boxA (cs:=[_,_]) (lit_lt rfl) rfl ?_
 intro b7 f7
 have g7:=f7
 repeat ((with_reducible replace g7:=fresh_set g7);obtain ⟨g7,_⟩:=g7)
 refine nl_ ?_
 iterate 6 refine s1_ ?_
 refine ca_ rfl (losV_grow b7 _ _ ks S g7 hks hl1 hl2) ?_
 rintro _ S1 ⟨q,hq1,hq2,h1⟩
 rw [h1];clear h1 S1
 iterate 9 refine s1_ ?_
 refine ⟨_,_,⟨_,_,rfl,rfl,rfl⟩,Mem.Less.refl _,?_⟩
 exact ⟨b7,q,g7,hq1,hq2,rfl,rfl⟩
/-! ### Copies, and lists that are held against each other -/
end
section
open Go.RowKit
open Mv Num Loser
set_option maxRecDepth 4000
def OwnK (ks:List (List Nat)) (S M:Mem) (b:Nat) (hs:List Value):Prop:=S.Less M∧Fresh M b∧hs.length=ks.length ∧ ∀ i (h:i<ks.length) (h':i<hs.length),RowR M hs[i] ks[i]
def keysB (hs:List Value):Blk:=⟨46,hs,hs.length⟩
theorem OwnK.slOf {ks:List (List Nat)} {S M:Mem} {b:Nat} {hs:List Value} (h:OwnK ks S M b hs) (hk:ks.length≤256):SlOf RowR (M.set b (keysB hs)) (.slice (some ⟨b,0,none⟩) ks.length ks.length) ks:=by
 obtain ⟨h1,h2,h3,h4⟩:=h
 have:=Sl.own1 (g:=fun x:Value=>x) (S:=M.set b (keysB hs)) (b:=b) (l:=hs) (cap:=ks.length) (len:=ks.length) (Mem.own_set_same _ _ _) (by simp [keysB]) h3 (Nat.le_refl _) (by omega)
 exact ⟨hs,h3,this,fun i h h'=>rowR_less _ _ _ _ (h4 i h h') (Mem.less_set _ _ _ h2.1)⟩
/-! ### Plain answers -/
namespace Loser
noncomputable def chkP (ks:List (List Nat)) (tr:List Int):Int:=if 1≤ks.length∧ks.length≤256∧tr=treeOf ks then 0 else 2
noncomputable def putP (ks:List (List Nat)) (tr:List Int) (x:List Nat):List (List Nat) × List Int × Int:=if chkP ks tr≠0 then ([],[],2) else if key ks (win ks 1) = [] then (ks,tr,3) else if x ≠ []∧lessB x (key ks (win ks 1))=true then (ks,tr,12) else (ks.set (win ks 1) x,treeOf (ks.set (win ks 1) x),0)
theorem chk_two {ks:List (List Nat)} {tr:List Int} (h : ¬ (1≤ks.length∧ks.length≤256∧tr=treeOf ks)):chkP ks tr=2:=by unfold chkP;rw [if_neg h]
end Loser
def LoV (S:Mem) (hk ht:Value) (ks:List (List Nat)) (tr:List Int):Prop:=SlOf RowR S hk ks∧Sl 1 i64s S ht tr
theorem LoV.less {S S':Mem} {hk ht:Value} {ks:List (List Nat)} {tr:List Int} (h:LoV S hk ht ks tr) (hl:S.Less S'):LoV S' hk ht ks tr:=⟨h.1.less rowR_less hl,h.2.less hl⟩
theorem sl_intB {S:Mem} {q:Nat} {l:List Int} {c len:Nat} (h:S.own q=some (intB l c)) (hl:l.length=len) (hc:len≤c) (hm:len≤9223372036854775807):Sl 1 i64s S (.slice (some ⟨q,0,none⟩) len c) l :=
 Sl.own1 (g:=fun x:Int=>Value.int .i64 x) h List.prefix_rfl hl hc hm
end
section
open Go.RowKit
open Mv Num Loser
set_option maxRecDepth 4000
def LosR (p:List (List Nat) × List Int × Int) (S:Mem) (r:Value) (S':Mem):Prop:=∃ hk ht,r = .tuple #[.agg #[hk,ht],.int .i64 p.2.2]∧S.Less S'∧LoV S' hk ht p.1 p.2.1
theorem treeOf_0 (ks:List (List Nat)) (h:0<(treeOf ks).length):(treeOf ks)[0]=(win ks 1:Int):=by
 have h1:=treeOf_zero ks (by rw [treeOf_length] at h;omega)
 rw [List.getElem?_eq_getElem h] at h1
 exact Option.some.inj h1
set_option maxHeartbeats 1000000 in
theorem losV_Win (p:Nat) (hk ht:Value) (ks:List (List Nat)) (S:Mem) (hp:S.own p=some (treeB hk ht)) (hl:LoV S hk ht ks (treeOf ks)) (h1:1≤ks.length) :
  ACall Tryz.prog 101 #[.pointer (some ⟨p,0,none⟩)] S fun r S'=>r = .tuple #[.int .i64 (win ks 1:Nat),.bool (decide (key ks (win ks 1) ≠ []))]∧S'=S:=by
 unfold treeB at hp
 have hw:=win_lt (ks:=ks) (n:=1) (by decide) (by omega)
 have htl:=treeOf_length ks
 obtain ⟨hks,hts⟩:=hl
 obtain ⟨gs,hgl,hga,hge⟩:=hks
 obtain ⟨pa,ca,rfl,a1,a2,a3⟩:=id hga
 obtain ⟨pt,ct,rfl,t1,t2,t3⟩:=id hts
 obtain ⟨b0,off,rfl,_⟩:=a3.resolve_left (by intro h;rw [h] at hgl;simp at hgl;omega)
 obtain ⟨bt,offt,rfl,_⟩:=t3.resolve_left (by intro h;rw [h] at htl;simp at htl;omega)
 have k0:=hts.at1 0 (by omega)
 rw [treeOf_0 ks (by omega)] at k0
 unfold i64s at k0
 have k1:=hga.at1 (win ks 1) (by omega)
 have hr:=hge (win ks 1) hw (by omega)
 rw [← key_get ks _ hw] at hr
 obtain ⟨g,hg⟩ : ∃ g,g=gs[win ks 1]:=⟨_,rfl⟩
 rw [← hg] at k1 hr
 obtain ⟨qa,da,rfl,x1,x2,_⟩:=hr
 have hd:decide ((0:Int)<((key ks (win ks 1)).length:Int))=decide (key ks (win ks 1) ≠ []):=by
  rw [Bool.eq_iff_iff];simp only [decide_eq_true_eq,ne_eq,← List.length_eq_zero_iff];omega
 refine k_E1 (rs:=[.tmp 2,.tmp 3]) 23 Tryz.func101 rfl rfl rfl ?_
 iterate 19 refine s1_ ?_
 refine AWP.draw [(0,true),(1,true),(2,true),(3,true),(4,true),(5,true),(6,true),(7,true),(8,true),(9,true),(10,true),(11,true),(12,true)] [] mixed (by kernel_rfl) ?_
 iterate 10 refine s1_ ?_
 refine dP (hc:=fun _=>Calm.bin rfl rfl (bin_bool (bin_gtr _ _) hd)) (h:=?_)
 iterate 5 refine s1_ ?_
 refine ⟨_,S,⟨_,_,rfl,⟨_,_,rfl,rfl,rfl⟩,rfl⟩,less_,?_⟩
 exact ⟨rfl,rfl⟩
end
section
open Go.RowKit
open Mv Num Loser
set_option maxRecDepth 4000
theorem set_self {l:List Int} {n:Nat} {v:Int} (h:l[n]?=some v):l.set n v=l:=by
 apply List.ext_getElem?
 intro m
 by_cases e:n=m
 ·subst e
  have:=(List.getElem?_eq_some_iff.1 h).1
  rw [List.getElem?_set_self this,h]
 ·rw [List.getElem?_set_ne e]
def losM (M:Mem) (b q p:Nat) (hs:List Value) (tr:List Int) (k c:Nat):Mem :=
  ((M.set b ⟨46,hs,k⟩).set q ⟨3,tr.map (fun x=>Value.int .i64 x),c⟩).set p ⟨198,[.slice (some ⟨b,0,none⟩) k k,.slice (some ⟨q,0,none⟩) k c],2⟩
structure LosF (M:Mem) (b q p:Nat):Prop where
  fb:Fresh M b
  fq:Fresh M q
  fp:Fresh M p
  bq:b≠q
  bp:b≠p
  qp:q≠p
theorem losM_own_b {M:Mem} {b q p:Nat} {hs:List Value} {tr:List Int} {k c:Nat} (h:LosF M b q p):(losM M b q p hs tr k c).own b=some ⟨46,hs,k⟩:=by
 unfold losM;rw [Mem.own_set_other _ _ h.bp,Mem.own_set_other _ _ h.bq,Mem.own_set_same]
theorem losM_own_q {M:Mem} {b q p:Nat} {hs:List Value} {tr:List Int} {k c:Nat} (h:LosF M b q p):(losM M b q p hs tr k c).own q=some ⟨3,tr.map (fun x=>Value.int .i64 x),c⟩:=by
 unfold losM;rw [Mem.own_set_other _ _ h.qp,Mem.own_set_same]
theorem losM_own_p {M:Mem} {b q p:Nat} {hs:List Value} {tr:List Int} {k c:Nat}:(losM M b q p hs tr k c).own p=some (treeB (.slice (some ⟨b,0,none⟩) k k) (.slice (some ⟨q,0,none⟩) k c)):=Mem.own_set_same _ _ _
theorem losM_less {M:Mem} {b q p:Nat} {hs:List Value} {tr:List Int} {k c:Nat} (h:LosF M b q p):M.Less (losM M b q p hs tr k c) :=
 (Mem.less_set _ _ _ h.fb.1).trans ((Mem.less_set _ _ _ (by rw [Mem.own_set_other _ _ (Ne.symm h.bq)];exact h.fq.1)).trans (Mem.less_set _ _ _ (by rw [Mem.own_set_other _ _ (Ne.symm h.qp),Mem.own_set_other _ _ (Ne.symm h.bp)];exact h.fp.1)))
theorem losM_slOf {M:Mem} {b q p:Nat} {hs:List Value} {tr:List Int} {k c:Nat} {ks:List (List Nat)} (h:LosF M b q p) (hhl:hs.length=ks.length) (hk:k=ks.length) (hb:k≤256) (hr:∀ i (h:i<ks.length) (h':i<hs.length),RowR M hs[i] ks[i]):SlOf RowR (losM M b q p hs tr k c) (.slice (some ⟨b,0,none⟩) k k) ks:=by
 subst hk
 exact ⟨hs,hhl,Sl.own1 (g:=fun x:Value=>x) (r:=⟨_,hs,ks.length⟩) (losM_own_b h) (by simp) hhl (Nat.le_refl _) (by omega),fun i h1 h2=>rowR_less _ _ _ _ (hr i h1 h2) (losM_less h)⟩
theorem losM_lo {M:Mem} {b q p:Nat} {hs:List Value} {tr:List Int} {k c:Nat} {ks:List (List Nat)} (h:LosF M b q p) (hhl:hs.length=ks.length) (hk:k=ks.length) (hb:k≤256) (htl:tr.length=k) (hc:k≤c) (hr:∀ i (h:i<ks.length) (h':i<hs.length),RowR M hs[i] ks[i]):LoV (losM M b q p hs tr k c) (.slice (some ⟨b,0,none⟩) k k) (.slice (some ⟨q,0,none⟩) k c) ks tr :=
 ⟨losM_slOf h hhl hk hb hr,sl_intB (losM_own_q h) htl hc (by omega)⟩
theorem rows_set {M:Mem} {hs:List Value} {ks:List (List Nat)} {w:Nat} {vx:Value} {x:List Nat} (hr:∀ i (h:i<ks.length) (h':i<hs.length),RowR M hs[i] ks[i]) (hx:RowR M vx x):∀ i (h:i<(ks.set w x).length) (h':i<(hs.set w vx).length),RowR M (hs.set w vx)[i] (ks.set w x)[i]:=fun i h h'=>by
 by_cases e:w=i
 ·subst e;simpa using hx
 ·rw [List.getElem_set_ne e,List.getElem_set_ne e];exact hr i (by simpa using h) (by simpa using h')
set_option maxHeartbeats 4000000 in
theorem losV_Replace (b q p:Nat) (ks:List (List Nat)) (hs:List Value) (k c:Nat) (x:List Nat) (vx:Value) (M:Mem) (hF:LosF M b q p) (hhl:hs.length=ks.length) (hk:k=ks.length) (hk1:1≤k) (hk2:k≤256) (hc:k≤c) (hr:∀ i (h:i<ks.length) (h':i<hs.length),RowR M hs[i] ks[i]) (hx:RowR M vx x) :
  ACall Tryz.prog 102 #[.pointer (some ⟨p,0,none⟩),vx] (losM M b q p hs (treeOf ks) k c) fun r S'=>S'=losM M b q p (hs.set (win ks 1) vx) (treeOf (ks.set (win ks 1) x)) k c:=by
 obtain ⟨pv,cv,rfl,xv1,xv2,_⟩:=id hx
 have hw:=win_lt (ks:=ks) (n:=1) (by decide) (by omega)
 have htl:=treeOf_length ks
 have hksl:(ks.set (win ks 1) x).length=ks.length:=List.length_set
 have hhl':(hs.set (win ks 1) (.slice pv x.length cv)).length=(ks.set (win ks 1) x).length:=by simp [hhl]
 have hr':=rows_set (w:=win ks 1) hr hx
 have hwl0:win (ks.set (win ks 1) x) (ks.length+win ks 1)=win ks 1:=by rw [win_leaf _ (ks.length+win ks 1) (by rw [hksl];omega),hksl];omega
 have nbq:=hF.bq;have nbp:=hF.bp;have nqp:=hF.qp
 have t0:=kn_int (losM_own_q (hs:=hs) (tr:=treeOf ks) (k:=k) (c:=c) hF) 0 (treeOf_zero ks (by omega))
 unfold losM at t0 ⊢
 refine k_E2 (rs:=[]) 68 Tryz.func102 rfl rfl rfl ?_
 iterate 25 refine s1_ ?_
 simp only [Nat.zero_add,Nat.mul_one,Int.toNat_natCast]
 iterate 16 refine s1_ ?_
 refine AWP.loop (X:=Nat × List Int) (fun y=>[(0,.pointer (some ⟨p,0,none⟩)),(4,.int .i64 (win (ks.set (win ks 1) x) y.1:Nat)),(5,.int .i64 (y.1 / 2:Nat))]) (fun y=>losM M b q p (hs.set (win ks 1) (.slice pv x.length cv)) y.2 k c) (fun y=>RepI ks x y.1 y.2) (fun y=>y.1) ((ks.length+win ks 1,treeOf ks)) ⟨rfl,some_int (by simp only [hwl0]),some_int (by omega),trivial⟩ (by unfold losM;exact less_) (RepI.start ks x (by omega)) ?_
 rintro ⟨nd,tr⟩ hI
 (try dsimp only at *)
 obtain ⟨a1,a2,a3⟩:=hI.at_
 have htrl:=hI.len
 have hsl:=losM_slOf (tr:=tr) (c:=c) hF hhl' (by omega) hk2 hr'
 have hop:=losM_own_p (M:=M) (b:=b) (q:=q) (p:=p) (hs:=hs.set (win ks 1) (.slice pv x.length cv)) (tr:=tr) (k:=k) (c:=c)
 by_cases hn1:1≤nd / 2
 ·iterate 7 refine s1_ ?_
  refine cT_ ?_
  obtain ⟨s,hcs,hts,hs1,hs2,hs3⟩:=hI.sib hn1
  have hws:=win_lt (ks:=ks.set (win ks 1) x) (n:=s) (by omega) (by omega)
  have hwc:=win_lt (ks:=ks.set (win ks 1) x) (n:=nd) (by omega) (by omega)
  have hg:=game (ks.set (win ks 1) x) (nd / 2) nd s hn1 (by omega) hcs
  have hst:=hI.step hn1
  have kt:=kn_int (losM_own_q (hs:=hs.set (win ks 1) (.slice pv x.length cv)) (tr:=tr) (k:=k) (c:=c) hF) (nd / 2) hts
  unfold losM at kt hop hsl ⊢
  iterate 16 refine s1_ ?_
  refine ca_ rfl (losV_beats p _ _ (ks.set (win ks 1) x) _ _ _ hop hsl hws hwc) ?_
  rintro _ S1 ⟨rfl,h1⟩
  rw [h1];clear h1 S1
  iterate 2 refine s1_ ?_
  refine k_v5 0 4 5 31 44 ?_
  rcases Bool.eq_false_or_eq_true (beatsP (ks.set (win ks 1) x) (win (ks.set (win ks 1) x) s) (win (ks.set (win ks 1) x) nd)) with hb | hb
  ·obtain ⟨e1,e2⟩:=hg.1 hb
   refine AWP.condT rfl (hb) ?_
   refine AWP.draw [(0,true),(1,true),(2,true),(3,true),(4,true),(5,true),(6,true),(7,true),(8,true),(9,true),(10,true),(11,true),(12,true),(13,true),(14,true),(15,true),(16,true),(17,false)] [17] mixed (by kernel_rfl) ?_
   iterate 17 refine s1_ ?_
   refine draw_only rfl ?_
   refine s1_ ?_
   refine arun_nil ⟨fun h=>absurd h (by decide),?_⟩
   iterate 3 refine s1_ ?_
   simp only [Nat.zero_add,Nat.mul_one,Int.toNat_natCast,icells_set]
   iterate 6 refine s1_ ?_
   refine ⟨(nd / 2,tr.set (nd / 2) (los (ks.set (win ks 1) x) (nd / 2):Int)),?_,?_,?_,?_⟩
   all_goals (try dsimp only)
   ·exact ⟨rfl,some_int (by rw [e1]),some_int (by omega),trivial⟩
   ·rw [e2];exact less_
   ·exact hst
   ·omega
  ·obtain ⟨e1,e2⟩:=hg.2 hb
   rw [← e2] at hts
   rw [set_self hts] at hst
   refine AWP.condF rfl (hb) ?_
   iterate 9 refine s1_ ?_
   refine ⟨(nd / 2,tr),?_,?_,?_,?_⟩
   all_goals (try dsimp only)
   ·exact ⟨rfl,some_int (by rw [e1]),some_int (by omega),trivial⟩
   ·exact Mem.Less.refl _
   ·exact hst
   ·omega
 ·iterate 7 refine s1_ ?_
  refine cF_ ?_
  obtain rfl:nd=1:=by omega
  have hdn:=hI.done (by omega)
  unfold losM
  iterate 15 refine s1_ ?_
  simp only [Nat.zero_add,Nat.mul_one,Int.toNat_zero,icells_set,hdn]
  refine ⟨_,losM M b q p (hs.set (win ks 1) (.slice pv x.length cv)) (treeOf (ks.set (win ks 1) x)) k c,rfl,(by unfold losM;exact less_),?_⟩
  rfl
end
section
open Go.RowKit
open Mv Num Loser
set_option maxRecDepth 4000
theorem kLess_lessB (x y:List Nat) (hx:x ≠ []) (hy:y ≠ []):kLess x y=lessB x y:=by
 cases x with
 | nil=>exact absurd rfl hx
 | cons _ _=>cases y with
  | nil=>exact absurd rfl hy
  | cons _ _=>rfl
end
section
open Go.RowKit
open Mv Num Loser
set_option maxRecDepth 4000
def LosCopyR (ks:List (List Nat)) (tr:List Int) (S:Mem) (r:Value) (S':Mem):Prop :=
  ∃ M o hs tv,GrowI RowR S M o hs ks∧Sl 1 i64s M tv tr∧r = .agg #[outV o ks.length,tv]∧S'=outM M o 46 hs
theorem LosCopyR.lo {ks:List (List Nat)} {tr:List Int} {S S':Mem} {r:Value} (h:LosCopyR ks tr S r S') (hk:ks.length≤5864062014634):∃ hk ht,r = .agg #[hk,ht]∧S.Less S'∧LoV S' hk ht ks tr:=by
 obtain ⟨M,o,hs,tv,hI,ht,rfl,rfl⟩:=h
 have hsl:=hI.slOf (e:=46) rowR_less (by rw [hI.len];omega)
 rw [hI.len] at hsl
 exact ⟨_,_,rfl,hI.less.trans (outM_over hI.ok),hsl,ht.less (outM_over hI.ok)⟩
end
section
open Go.RowKit
open Mv Num Loser
set_option maxRecDepth 4000
theorem LoV.slices {S:Mem} {hk ht:Value} {ks:List (List Nat)} {tr:List Int} (h:LoV S hk ht ks tr):∃ pa ca pt ct,hk = .slice pa ks.length ca∧ht = .slice pt tr.length ct:=by
 obtain ⟨pt,ct,e1,_⟩:=h.2
 obtain ⟨gs,hgl,⟨pa,ca,e2,_⟩,_⟩:=h.1
 exact ⟨pa,ca,pt,ct,by rw [e2,hgl],e1⟩
theorem LosR.slices {p:List (List Nat) × List Int × Int} {S S':Mem} {r:Value} (h:LosR p S r S'):∃ pa ca pt ct,r = .tuple #[.agg #[.slice pa p.1.length ca,.slice pt p.2.1.length ct],.int .i64 p.2.2]∧S.Less S'∧LoV S' (.slice pa p.1.length ca) (.slice pt p.2.1.length ct) p.1 p.2.1:=by
 obtain ⟨hk,ht,rfl,hl,hlo⟩:=h
 obtain ⟨pa,ca,pt,ct,rfl,rfl⟩:=hlo.slices
 exact ⟨pa,ca,pt,ct,rfl,hl,hlo⟩
end
section
open Go.RowKit
open Mv Num Loser
set_option maxRecDepth 4000
theorem least_plain (ks:List (List Nat)) (j:Nat) (hj:j<ks.length) (hk:key ks (win ks 1) ≠ []) (hx:ks[j] ≠ []) :
  lessB ks[j] (key ks (win ks 1))=false∧(lessB (key ks (win ks 1)) ks[j]=true∨(lessB (key ks (win ks 1)) ks[j]=false∧win ks 1≤j)):=by
 by_cases e:j=win ks 1
 ·rw [← key_get ks j hj,e]
  exact ⟨lessB_irrefl _,.inr ⟨lessB_irrefl _,Nat.le_refl _⟩⟩
 ·have hb:=win_beats (ks:=ks) (n:=1) (by decide) (by omega) hj (under_top hj) e
  unfold beatsP at hb
  rw [← key_get ks j hj] at hx ⊢
  rw [kLess_lessB _ _ hk hx] at hb
  simp only [Bool.or_eq_true,Bool.and_eq_true,decide_eq_true_eq] at hb
  rcases hb with hb | ⟨hb,hb'⟩
  ·refine ⟨?_,.inl hb⟩
   cases h:lessB (key ks j) (key ks (win ks 1)) with
   | false=>rfl
   | true=>have:=lessB_trans _ _ _ hb h;rw [lessB_irrefl] at this;cases this
  ·rw [hb];exact ⟨lessB_irrefl _,.inr ⟨lessB_irrefl _,by omega⟩⟩
end
section
open Go.RowKit
open Mv Disk Num Loser
set_option maxRecDepth 4000
namespace Sto
def hds (rem:List (List (List Nat))):List (List Nat):=rem.map fun r=>r.headD []
theorem hds_key (rem:List (List (List Nat))) {i:Nat} (h:i<rem.length):key (hds rem) i=rem[i].headD []:=by
 rw [key_get _ _ (by unfold hds;simpa using h)]
 unfold hds
 simp
theorem hds_set (rem:List (List (List Nat))) (i:Nat) (t:List (List Nat)):hds (rem.set i t)=(hds rem).set i (t.headD []):=by unfold hds;rw [List.map_set]
structure MgI (all:List (List Nat)) (rem:List (List (List Nat))) (out:List (List Nat)):Prop where
  so:∀ r ∈ rem,SortedR r
  os:SortedR out
  le:∀ x ∈ out,∀ r ∈ rem,∀ y ∈ r,lessB y x=false
  pm:(out ++ rem.flatten).Perm all
  ne:∀ r ∈ rem,∀ y ∈ r,y ≠ []
theorem MgI.start {rem:List (List (List Nat))} (h1:∀ r ∈ rem,SortedR r) (h2:∀ r ∈ rem,∀ y ∈ r,y ≠ []):MgI rem.flatten rem [] :=
 ⟨h1,List.Pairwise.nil,fun x h=>(by cases h),List.Perm.refl _,h2⟩
theorem flat_set {rem:List (List (List Nat))} {i:Nat} (h:i<rem.length) {x:List Nat} {t:List (List Nat)} (e:rem[i]=x :: t):rem.flatten.Perm (x :: (rem.set i t).flatten):=by
 have e1:rem=rem.take i ++ rem[i] :: rem.drop (i+1):=by rw [← List.drop_eq_getElem_cons h,List.take_append_drop]
 rw [List.set_eq_take_append_cons_drop,if_pos h]
 conv=>lhs;rw [e1,e]
 rw [List.flatten_append,List.flatten_cons,List.flatten_append,List.flatten_cons,List.cons_append]
 exact List.perm_middle
theorem MgI.step {all:List (List Nat)} {rem:List (List (List Nat))} {out:List (List Nat)} (h:MgI all rem out) (h1:1≤rem.length) (he:key (hds rem) (win (hds rem) 1) ≠ []) :
  ∃ (hw:win (hds rem) 1<rem.length),∃ x t,rem[win (hds rem) 1]=x :: t∧key (hds rem) (win (hds rem) 1)=x∧MgI all (rem.set (win (hds rem) 1) t) (out ++ [x]):=by
 have hl:(hds rem).length=rem.length:=by unfold hds;simp
 have hw:win (hds rem) 1<rem.length:=by have:=win_lt (ks:=hds rem) (n:=1) (by decide) (by omega);omega
 have hle:=fun j hj hx=>(least_plain (hds rem) j hj he hx).1
 have hkw:=hds_key rem hw
 generalize win (hds rem) 1=i at *
 refine ⟨hw,?_⟩
 cases e:rem[i] with
 | nil=>rw [e] at hkw;exact absurd hkw he
 | cons x t =>
  rw [e] at hkw
  have hkw:key (hds rem) i=x:=hkw
  rw [hkw] at hle
  have hmem:rem[i] ∈ rem:=List.getElem_mem hw
  have hsr:=h.so _ hmem
  rw [e] at hsr
  have hxt:∀ y ∈ t,lessB y x=false:=fun y hy=>(List.pairwise_cons.1 hsr).1 y hy
  have hsub:∀ {r:List (List Nat)},r ∈ rem.set i t → ∀ y ∈ r,∃ r' ∈ rem,y ∈ r':=fun hr y hy=>by
   rcases List.mem_or_eq_of_mem_set hr with h' | h'
   ·exact ⟨_,h',hy⟩
   ·subst h';exact ⟨_,hmem,by rw [e];exact List.mem_cons_of_mem _ hy⟩
  have hall:∀ r ∈ rem.set i t,∀ y ∈ r,lessB y x=false:=fun r hr y hy=>by
   rcases List.mem_or_eq_of_mem_set hr with h' | h'
   ·obtain ⟨j,hj,ej⟩:=List.getElem_of_mem h'
    cases e2:rem[j] with
    | nil=>rw [ej] at e2;rw [e2] at hy;cases hy
    | cons x' t' =>
     have hj2:j<(hds rem).length:=by omega
     have hk2:(hds rem)[j]=x':=by
      have:=hds_key rem hj
      rw [key_get _ _ hj2,e2] at this;exact this
     have hx':x' ≠ []:=h.ne _ (List.getElem_mem hj) _ (by rw [e2];exact List.mem_cons_self ..)
     have h3:=hle j hj2 (by rw [hk2];exact hx')
     rw [hk2] at h3
     rw [← ej,e2] at hy
     rcases List.mem_cons.1 hy with rfl | hy
     ·exact h3
     ·have hs2:=h.so _ (List.getElem_mem hj)
      rw [e2] at hs2
      exact lessB_neg' _ _ _ ((List.pairwise_cons.1 hs2).1 y hy) h3
   ·subst h';exact hxt y hy
  refine ⟨x,t,rfl,hkw,fun r hr=>?_,?_,fun z hz r hr y hy=>?_,?_,fun r hr y hy=>?_⟩
  ·rcases List.mem_or_eq_of_mem_set hr with h' | h'
   ·exact h.so r h'
   ·subst h';exact (List.pairwise_cons.1 hsr).2
  ·refine List.pairwise_append.2 ⟨h.os,List.pairwise_singleton _ _,fun z hz y hy=>?_⟩
   rw [List.mem_singleton.1 hy]
   exact h.le z hz _ hmem x (by rw [e];exact List.mem_cons_self ..)
  ·rcases List.mem_append.1 hz with hz | hz
   ·obtain ⟨r',h1,h2⟩:=hsub hr y hy
    exact h.le z hz r' h1 y h2
   ·rw [List.mem_singleton.1 hz];exact hall r hr y hy
  ·refine List.Perm.trans ?_ h.pm
   rw [List.append_assoc]
   exact List.Perm.append_left out (flat_set hw e).symm
  ·obtain ⟨r',h1,h2⟩:=hsub hr y hy
   exact h.ne r' h1 y h2
theorem MgI.done {all:List (List Nat)} {rem:List (List (List Nat))} {out:List (List Nat)} (h:MgI all rem out) (h1:1≤rem.length) (he:key (hds rem) (win (hds rem) 1) = []):out.Perm all ∧ ∀ r ∈ rem,r = []:=by
 have hl:(hds rem).length=rem.length:=by unfold hds;simp
 have hz:∀ r ∈ rem,r = []:=fun r hr=>by
  obtain ⟨j,hj,ej⟩:=List.getElem_of_mem hr
  cases e2:r with
  | nil=>rfl
  | cons x t =>
   exfalso
   have hk:=hds_key rem hj
   rw [ej,e2] at hk
   have hk:key (hds rem) j=x:=hk
   have hx:x ≠ []:=h.ne r hr _ (by rw [e2];exact List.mem_cons_self ..)
   by_cases q:j=win (hds rem) 1
   ·rw [← q,hk] at he;exact hx he
   ·have hb:=win_beats (ks:=hds rem) (n:=1) (by decide) (by omega) (by omega:j<(hds rem).length) (under_top (by omega)) q
    unfold beatsP at hb
    rw [he,hk] at hb
    simp [kLess,Ne.symm hx] at hb
 refine ⟨?_,hz⟩
 have:rem.flatten = []:=List.flatten_eq_nil_iff.2 hz
 have hp:=h.pm
 rwa [this,List.append_nil] at hp
/-! ### Readers -/
def upd {α : Type} (f:Nat → α) (i:Nat) (v : α):Nat → α:=fun j=>if j=i then v else f j
theorem upd_same {α : Type} (f:Nat → α) (i:Nat) (v : α):upd f i v i=v:=if_pos rfl
theorem upd_other {α : Type} (f:Nat → α) {i j:Nat} (v : α) (h:j≠i):upd f i v j=f j:=if_neg h
def hcnt (k:Nat) (f:Nat→Rd):Nat:=(List.range k).countP fun i=>decide (0<(f i).held)
theorem hcnt_succ (k:Nat) (f:Nat→Rd):hcnt (k+1) f=hcnt k f+if 0<(f k).held then 1 else 0:=by
 unfold hcnt
 rw [List.range_succ,List.countP_append,List.countP_cons,List.countP_nil,Nat.zero_add]
 simp
theorem hcnt_far {k i:Nat} (f:Nat→Rd) (r:Rd) (h:k≤i):hcnt k (upd f i r)=hcnt k f:=by
 unfold hcnt
 refine List.countP_congr fun j hj=>?_
 have hjk:j<k:=List.mem_range.1 hj
 have hji:j≠i:=by omega
 rw [upd_other f r hji]
theorem hcnt_upd (f:Nat→Rd) (r:Rd) {i:Nat}:∀ {k:Nat},i<k→hcnt k (upd f i r)+(if 0<(f i).held then 1 else 0)=hcnt k f+if 0<r.held then 1 else 0
 | 0,h=>absurd h (Nat.not_lt_zero i)
 | k+1,h=>by
  rw [hcnt_succ,hcnt_succ]
  by_cases e:i=k
  ·subst e
   rw [upd_same,hcnt_far f r (Nat.le_refl i)]
   omega
  ·rw [upd_other f r (Ne.symm e)]
   have:=hcnt_upd f r (i:=i) (k:=k) (by omega)
   omega
theorem hcnt_le (k:Nat) (f:Nat→Rd):hcnt k f≤k:=by
 unfold hcnt
 have:=List.countP_le_length (p:=fun i=>decide (0<(f i).held)) (l:=List.range k)
 rwa [List.length_range] at this
end Sto
end
section
open Go.RowKit
open Mv Disk Num Loser
set_option maxRecDepth 4000
namespace Sto
def srB (q:Nat) (lv:Value):Blk:=⟨139,[self q,lv],2⟩
def LastV (T:Mem) (lv:Value) (last:List Nat):Prop:=(lv = .slice none 0 0∧last = []) ∨ ∃ g w,lv = .slice (some ⟨g,0,none⟩) w w∧RowR T lv last
theorem LastV.less {T T':Mem} {lv:Value} {last:List Nat} (h:LastV T lv last) (hl:T.Less T'):LastV T' lv last:=by
 rcases h with h | ⟨g,w,e,h⟩
 ·exact .inl h
 ·exact .inr ⟨g,w,e,h.less hl⟩
theorem src_ne {S:Mem} {sb q a q':Nat} {lv:Value} {r:Rd} (h:S.own sb=some (srB q' lv)) (h':S.own q=some (rdB a r)):q≠sb:=rd_wt h' h (by show ¬ 139=124;decide)
structure SrcR (S:Mem) (a p b c sb q:Nat) (r r':Rd) (x y:Pl) (n B:Nat) (row:List Nat) (g:Nat) (T':Mem):Prop where
  rd:RdS (((S.set q (rdB a r')).set g ⟨33,row.map nU,r.w⟩).set sb (srB q (.slice (some ⟨g,0,none⟩) r.w r.w))) a p b c q r' y n B T'
  new:Fresh (S.set q (rdB a r')) g
  gs:g≠sb
  st:Stays x y
  ot:Oth x y r.nm
theorem srcR {S M:Mem} {a p b c sb q g n2 B:Nat} {r r':Rd} {x y:Pl} {row:List Nat} {lv:Value} (hT:RdT S a p b c q r r' x y n2 B M) (hg:Fresh M g) (hs:S.own sb=some (srB q lv)) (hqs:q≠sb) :
  SrcR S a p b c sb q r r' x y n2 B row g ((M.set g ⟨33,row.map nU,r.w⟩).set sb (srB q (.slice (some ⟨g,0,none⟩) r.w r.w))):=by
 obtain ⟨f1,hqg,h2⟩:=hT.s.new hg ⟨33,row.map nU,r.w⟩
 have hs2:=(Mem.own_set_other S (rdB a r') (Ne.symm hqs)).trans hs
 have hsg:sb≠g:=f1.ne hs2
 exact ⟨⟨ar_put h2.ar ((Mem.own_set_other _ _ hsg).trans hs2) _,(Mem.own_set_other _ _ hqs).trans h2.ow,h2.ps,h2.us,h2.nb⟩,f1,Ne.symm hsg,hT.st,hT.ot⟩
set_option maxHeartbeats 4000000 in
theorem mg_next (S:Mem) (a p b c sb q:Nat) (r:Rd) (x:Pl) (n B k:Nat) (T:Mem) (lv:Value) (last:List Nat) (rows:List (List Nat)) (h:RdS S a p b c q r x n B T) (hs:S.own sb=some (srB q lv)) (hH:Has x r.nm r.w rows.length (rows.flatMap recB)) (hr:RowsOK r.w rows) (hct:r.ct=rows.length) (hw1:1≤r.w) (hw8:r.w≤8) (hc:rows.length≤65536) (hat:r.at_=5*r.w*k) (hk:k<rows.length) (hn:n+5*r.w≤16384) (hB:B<x.fr.length) (R:Mem) (hR:R.Less S) (hRq:R.own q=none) (hlv:LastV R lv last) (hle:lessB rows[k] last=false) :
  ACall Tryz.prog 99 #[self sb] T fun v T'=>∃ g y f hd,v = .tuple #[.slice (some ⟨g,0,none⟩) r.w r.w,.nilIface]∧SrcR S a p b c sb q r { r with at_:=r.at_+5*r.w,fr:=f,held:=hd } x y (n+5*r.w) B rows[k] g T':=by
 have hqs:=src_ne hs h.ow
 have os:=ar_own0 h.ar hs
 unfold srB at os
 obtain ⟨b1,b2⟩:=row_in hH hw1 hk
 have hmul:5*r.w*rows.length≤40*65536:=Nat.mul_le_mul (by omega) hc
 have hnx:=rd_Next S a p b c q r x n B T h hw1 hw8 (by rw [hct];exact hc) (by rw [hat,hct];exact b1) (by rw [hat];exact b2) hn hB
 rw [show recW (run x r.nm r.at_ (5*r.w)) r.w=rows[k] from by rw [hat];exact run_row hH hw1 rfl hr hk] at hnx
 obtain ⟨hrl,hrt⟩:=hr _ (List.getElem_mem hk)
 generalize rows[k]=row at *
 refine k_E1 (rs:=[.tmp 2,.tmp 3]) 48 Tryz.func99 rfl rfl rfl ?_
 iterate 12 refine s1_ ?_
 refine ca_ rfl (hnx) ?_
 rintro _ S1 ⟨y,f,hd,M,g,rfl,hg,h1,hT⟩
 rw [h1];clear h1 S1
 obtain ⟨f1,hqg,h2⟩:=hT.s.new hg ⟨33,row.map nU,r.w⟩
 have hs2:=(Mem.own_set_other S (rdB a { r with at_:=r.at_+5*r.w,fr:=f,held:=hd }) (Ne.symm hqs)).trans hs
 have os1:=ar_own0 hT.s.ar hs2
 unfold srB at os1
 have hsg:sb≠g:=f1.ne hs2
 have hs3:=(Mem.own_set_other _ ⟨33,row.map nU,r.w⟩ hsg).trans hs2
 have os:=ar_own0 h2.ar hs3
 have hrow:RowR (M.set g ⟨33,row.map nU,r.w⟩) (.slice (some ⟨g,0,none⟩) r.w r.w) row:=row_own hrl hw8 (Mem.own_set_same _ _ _)
 unfold srB at os
 have hRM:R.Less (M.set g ⟨33,row.map nU,r.w⟩):=((less_set_skip hR hRq).trans (ar_less hT.s.ar)).trans (Mem.less_set _ _ _ hg.1)
 have hfin:=srcR (row:=row) hT hg hs hqs
 iterate 14 refine s1_ ?_
 refine cF_ ?_
 rcases hlv with ⟨rfl,rfl⟩ | ⟨g0,w0,rfl,hl0⟩
 ·iterate 20 refine s1_ ?_
  refine cF_ ?_
  iterate 18 refine s1_ ?_
  refine k_v7 0 2 3 4 5 15 41 ?_
  refine s1_ ?_
  refine ⟨_,_,⟨_,_,rfl,⟨_,_,rfl,rfl,rfl⟩,rfl⟩,Mem.Less.refl _,?_⟩
  exact ⟨g,y,f,hd,rfl,hfin⟩
 ·iterate 16 refine s1_ ?_
  refine ARun.callG 5 true 34 rfl (lit_lt rfl) rfl (lit_lt rfl) go_12 rfl (numV_Less row last _ _ _ hrow (hl0.less hRM)) ?_
  rintro _ S1 ⟨rfl,h1⟩
  rw [h1,hle];clear h1 S1
  iterate 3 refine s1_ ?_
  refine cF_ ?_
  iterate 19 refine s1_ ?_
  refine ⟨_,_,⟨_,_,rfl,⟨_,_,rfl,rfl,rfl⟩,rfl⟩,Mem.Less.refl _,?_⟩
  exact ⟨g,y,f,hd,rfl,hfin⟩
set_option maxHeartbeats 4000000 in
theorem mg_next_no (S:Mem) (a p b c sb q:Nat) (r:Rd) (x:Pl) (n B:Nat) (T:Mem) (lv:Value) (h:RdS S a p b c q r x n B T) (hs:S.own sb=some (srB q lv)) (hw1:1≤r.w) (hw8:r.w≤8) (hc:r.ct≤65536) (hat:r.at_=5*r.w*r.ct) :
  ACall Tryz.prog 99 #[self sb] T fun v T'=>v = .tuple #[.slice none 0 0,.nilIface] ∧ ∃ y,RdT S a p b c q r { r with held:=0 } x y n B T':=by
 have os:=ar_own0 h.ar hs
 unfold srB at os
 have hmul:5*r.w*r.ct≤40*65536:=Nat.mul_le_mul (by omega) hc
 have hno:=rd_Next_no a q r T (ar_own0 h.ar h.ow) hw8 hc (by omega) (by rw [each_w hw1];omega)
 have hcl:=rd_Close S a p b c q r x n B T h
 have hqs:=src_ne hs h.ow
 refine k_E1 (rs:=[.tmp 2,.tmp 3]) 48 Tryz.func99 rfl rfl rfl ?_
 iterate 12 refine s1_ ?_
 refine ca_ rfl (hno) ?_
 rintro _ S1 ⟨rfl,h1⟩
 rw [h1];clear h1 S1
 iterate 14 refine s1_ ?_
 refine cT_ ?_
 iterate 6 refine s1_ ?_
 refine ca_ rfl (hcl) ?_
 rintro _ M ⟨_,y,hT⟩
 have oq:=ar_own0 hT.s.ar hT.s.ow
 (unfold rdB at oq;dsimp only at oq)
 have os2:=ar_own0 hT.s.ar ((Mem.own_set_other S (rdB a { r with held:=0 }) (Ne.symm hqs)).trans hs)
 unfold srB at os2
 iterate 11 refine s1_ ?_
 refine ca_ rfl (fl_Fail _ _) ?_
 rintro _ S1 ⟨rfl,h1⟩
 rw [h1];clear h1 S1
 iterate 6 refine s1_ ?_
 refine ⟨_,M,⟨_,_,rfl,⟨_,_,rfl,rfl,rfl⟩,rfl⟩,less_,?_⟩
 exact ⟨rfl,y,hT⟩
end Sto
end
section
open Go.RowKit
open Mv Disk Num Loser
set_option maxRecDepth 4000
namespace Sto
def Rd.hold (r:Rd) (h:Nat):Rd:={ r with held:=h }
theorem hold_held (r:Rd) (h:Nat):(r.hold h).held=h:=rfl
structure Sc where
  q:Nat
  sb:Nat
  r:Rd
  lv:Value
  k:Nat
structure Src1 (S R:Mem) (a:Nat) (x:Pl) (w:Nat) (rows:List (List Nat)) (s:Sc):Prop where
  oq:S.own s.q=some (rdB a s.r)
  os:S.own s.sb=some (srB s.q s.lv)
  us:Use x s.r.nm s.r.fr s.r.held
  hs:Has x s.r.nm w rows.length (rows.flatMap recB)
  wd:s.r.w=w
  ct:s.r.ct=rows.length
  at_:s.r.at_=5*w*s.k
  le:s.k≤rows.length
  lv:∃ last,LastV R s.lv last ∧ ∀ h:s.k<rows.length,lessB rows[s.k] last=false
  rq:R.own s.q=none
  rs:R.own s.sb=none
structure FileOK (w:Nat) (rows:List (List Nat)):Prop where
  so:SortedR rows
  ok:RowsOK w rows
  c:rows.length≤65536
structure MgS (S T R:Mem) (a p b c:Nat) (x:Pl) (n W w:Nat) (files:List (List (List Nat))) (ss:Nat→Sc):Prop where
  ar:ArS S a p b c x T
  ps:Ps x n
  s1:∀ i (h:i<files.length),Src1 S R a x w files[i] (ss i)
  nb:nb x.fr≤W+hcnt files.length fun i=>(ss i).r
  df:∀ i j,i<files.length→j<files.length→i≠j→(ss i).q≠(ss j).q∧(ss i).sb≠(ss j).sb∧(ss i).r.nm≠(ss j).r.nm
  rl:R.Less S
def OfSc (m:Nat) (ss:Nat→Sc) (t:Nat):Prop:=∃ j,j<m∧(t=(ss j).q∨t=(ss j).sb)
structure Kept (S S':Mem) (D:Nat→Prop):Prop where
  own:∀ t k,¬ D t→S.own t=some k→S'.own t=some k
  ro:S'.ro=S.ro
theorem upd_r (ss:Nat→Sc) (i:Nat) (s:Sc):(fun j=>(upd ss i s j).r)=upd (fun j=>(ss j).r) i s.r:=by
 funext j
 by_cases e:j=i
 ·rw [e,upd_same,upd_same]
 ·rw [upd_other ss s e,upd_other _ _ e]
theorem q_sb {S R:Mem} {a:Nat} {x y:Pl} {w w':Nat} {rows rows':List (List Nat)} {s s':Sc} (h:Src1 S R a x w rows s) (g:Src1 S R a y w' rows' s'):s.q≠s'.sb:=src_ne g.os h.oq
theorem MgS.rd {S T R:Mem} {a p b c:Nat} {x:Pl} {n W w:Nat} {files:List (List (List Nat))} {ss:Nat→Sc} (h:MgS S T R a p b c x n W w files ss) {i:Nat} (hi:i<files.length) :
  RdS S a p b c (ss i).q (ss i).r x n (W+hcnt files.length (upd (fun j=>(ss j).r) i ((ss i).r.hold 0))) T:=by
 have h1:=h.s1 i hi
 refine ⟨h.ar,h1.oq,h.ps,h1.us,?_⟩
 have h2:=hcnt_upd (fun j=>(ss j).r) ((ss i).r.hold 0) hi
 simp only [hold_held,Nat.lt_irrefl,if_false] at h2
 have:=h.nb
 omega
theorem MgS.room {S T R:Mem} {a p b c:Nat} {x:Pl} {n W w:Nat} {files:List (List (List Nat))} {ss:Nat→Sc} (h:MgS S T R a p b c x n W w files ss) {i:Nat} (hi:i<files.length) (hW:W≤1) (hm:files.length+1≤x.fr.length):W+hcnt files.length (upd (fun j=>(ss j).r) i ((ss i).r.hold 0))<x.fr.length:=by
 have h2:=hcnt_upd (fun j=>(ss j).r) ((ss i).r.hold 0) hi
 have h3:=hcnt_upd (fun j=>(ss j).r) ((ss i).r.hold 1) hi
 have h4:=hcnt_le files.length (upd (fun j=>(ss j).r) i ((ss i).r.hold 1))
 simp only [hold_held,Nat.lt_irrefl,if_false,Nat.zero_lt_one,if_true] at h2 h3
 omega
theorem MgS.upd_ {S T R S' T' R':Mem} {a p b c:Nat} {x y:Pl} {n n' W w:Nat} {files:List (List (List Nat))} {ss:Nat→Sc} (h:MgS S T R a p b c x n W w files ss) {i:Nat} (hi:i<files.length) {s':Sc}
  (hA:ArS S' a p b c y T') (hp:Ps y n') (hst:Stays x y) (hot:Oth x y (ss i).r.nm) (hnb:Sto.nb y.fr≤W+hcnt files.length (upd (fun j=>(ss j).r) i ((ss i).r.hold 0))+if 0<s'.r.held then 1 else 0)
  (hk:Kept S S' fun t=>t=(ss i).q∨t=(ss i).sb) (hq:s'.q=(ss i).q) (hsb:s'.sb=(ss i).sb) (hnm:s'.r.nm=(ss i).r.nm) (h1:Src1 S' R' a y w files[i] s') (hRR:R.Less R') (hR:R'.Less S') (hRn:∀ t k,S.own t=some k→R.own t=none→R'.own t=none) :
  MgS S' T' R' a p b c y n' W w files (upd ss i s') where
 ar:=hA
 ps:=hp
 s1:=fun j hj=>by
  by_cases e:j=i
  ·subst e;rw [upd_same];exact h1
  ·rw [upd_other ss s' e]
   have g:=h.s1 j hj
   have gi:=h.s1 i hi
   obtain ⟨d1,d2,d3⟩:=h.df j i hj hi e
   have k1 : ¬ ((ss j).q=(ss i).q∨(ss j).q=(ss i).sb):=fun e=>e.elim d1 (q_sb g gi)
   have k2 : ¬ ((ss j).sb=(ss i).q∨(ss j).sb=(ss i).sb):=fun e=>e.elim (fun e=>q_sb gi g e.symm) d2
   obtain ⟨last,l1,l2⟩:=g.lv
   exact ⟨hk.own _ _ k1 g.oq,hk.own _ _ k2 g.os,g.us.oth hot d3 hst.l,g.hs.stays hst,g.wd,g.ct,g.at_,g.le,⟨last,l1.less hRR,l2⟩,hRn _ _ g.oq g.rq,hRn _ _ g.os g.rs⟩
 nb:=by
  rw [upd_r]
  have h2:=hcnt_upd (fun j=>(ss j).r) ((ss i).r.hold 0) hi
  have h3:=hcnt_upd (fun j=>(ss j).r) s'.r hi
  simp only [hold_held,Nat.lt_irrefl,if_false] at h2
  omega
 df:=fun j l hj hl hne=>by
  have key:∀ m,(upd ss i s' m).q=(ss m).q∧(upd ss i s' m).sb=(ss m).sb∧(upd ss i s' m).r.nm=(ss m).r.nm:=fun m=>by
   by_cases e:m=i
   ·subst e;rw [upd_same];exact ⟨hq,hsb,hnm⟩
   ·rw [upd_other ss s' e];exact ⟨rfl,rfl,rfl⟩
  obtain ⟨a1,a2,a3⟩:=key j
  obtain ⟨b1,b2,b3⟩:=key l
  rw [a1,a2,a3,b1,b2,b3]
  exact h.df j l hj hl hne
 rl:=hR
structure NextR (S R S' T' R':Mem) (a p b c:Nat) (x y:Pl) (n W w:Nat) (files:List (List (List Nat))) (ss:Nat→Sc) (i:Nat) (s':Sc) (v:Value) (row:List Nat):Prop where
  mg:MgS S' T' R' a p b c y n W w files (upd ss i s')
  st:Stays x y
  ot:Oth x y (ss i).r.nm
  kp:Kept S S' fun t=>t=(ss i).q∨t=(ss i).sb
  q:s'.q=(ss i).q∧s'.sb=(ss i).sb∧s'.r.nm=(ss i).r.nm
  rr:R.Less R'
  row:RowR R' v row
  rn:∀ t k,S.own t=some k→R.own t=none→R'.own t=none
theorem mg_nextS (S T R:Mem) (a p b c:Nat) (x:Pl) (n W w:Nat) (files:List (List (List Nat))) (ss:Nat→Sc) (h:MgS S T R a p b c x n W w files ss) (i:Nat) (hi:i<files.length) (hf:FileOK w files[i]) (hw1:1≤w) (hw8:w≤8) (hn:n+5*w≤16384) (hW:W≤1) (hm:files.length+1≤x.fr.length) (hlt:(ss i).k<files[i].length) :
  ACall Tryz.prog 99 #[self (ss i).sb] T fun v T'=>∃ u S' R' y s',v = .tuple #[u,.nilIface]∧s'.k=(ss i).k+1∧NextR S R S' T' R' a p b c x y (n+5*w) W w files ss i s' u files[i][(ss i).k]:=by
 have h1:=h.s1 i hi
 have hrd:=h.rd hi
 have hB:=h.room hi hW hm
 obtain ⟨last,l1,l2⟩:=h1.lv
 have e1:=h1.wd
 have hnx:=mg_next S a p b c (ss i).sb (ss i).q (ss i).r x n _ (ss i).k T (ss i).lv last files[i] hrd h1.os (by rw [e1];exact h1.hs) (by rw [e1];exact hf.ok) h1.ct (by rw [e1];exact hw1) (by rw [e1];exact hw8) hf.c (by rw [e1];exact h1.at_) hlt (by rw [e1];exact hn) hB R h.rl h1.rq l1 (l2 hlt)
 refine hnx.mono fun v T' ⟨g,y,f,hd,hv,hR⟩=>?_
 obtain ⟨hrl,hrt⟩:=hf.ok _ (List.getElem_mem hlt)
 have hgn:=hR.new.1
 have hgq:g≠(ss i).q:=fun e=>by rw [e,Mem.own_set_same] at hgn;cases hgn
 have hSg:S.own g=none:=by rwa [Mem.own_set_other _ _ hgq] at hgn
 have hRg:R.own g=none:=by
  cases e:R.own g with
  | none=>rfl
  | some k=>have:=h.rl.own e;rw [hSg] at this;cases this
 have hqs:=src_ne h1.os h1.oq
 have hkp:Kept S (((S.set (ss i).q (rdB a { (ss i).r with at_:=(ss i).r.at_+5*(ss i).r.w,fr:=f,held:=hd })).set g ⟨33,files[i][(ss i).k].map nU,(ss i).r.w⟩).set (ss i).sb (srB (ss i).q (.slice (some ⟨g,0,none⟩) (ss i).r.w (ss i).r.w))) fun t=>t=(ss i).q∨t=(ss i).sb:=⟨fun t k ht e=>by
  have t1:t≠(ss i).q:=fun e=>ht (.inl e)
  have t2:t≠(ss i).sb:=fun e=>ht (.inr e)
  have t3:t≠g:=fun e2=>by rw [e2,hSg] at e;cases e
  rw [Mem.own_set_other _ _ t2,Mem.own_set_other _ _ t3,Mem.own_set_other _ _ t1];exact e,rfl⟩
 have hRl:(R.set g ⟨33,files[i][(ss i).k].map nU,(ss i).r.w⟩).Less (((S.set (ss i).q (rdB a { (ss i).r with at_:=(ss i).r.at_+5*(ss i).r.w,fr:=f,held:=hd })).set g ⟨33,files[i][(ss i).k].map nU,(ss i).r.w⟩).set (ss i).sb (srB (ss i).q (.slice (some ⟨g,0,none⟩) (ss i).r.w (ss i).r.w))) :=
  less_set_skip (Mv.Less.set (less_set_skip h.rl h1.rq) g _) ((Mem.own_set_other _ _ (Ne.symm hR.gs)).trans h1.rs)
 have hrow:RowR (R.set g ⟨33,files[i][(ss i).k].map nU,(ss i).r.w⟩) (.slice (some ⟨g,0,none⟩) (ss i).r.w (ss i).r.w) files[i][(ss i).k]:=row_own (by rw [e1];exact hrl) (by rw [e1];exact hw8) (Mem.own_set_same _ _ _)
 have hRn:∀ t k,S.own t=some k→R.own t=none→(R.set g ⟨33,files[i][(ss i).k].map nU,(ss i).r.w⟩).own t=none:=fun t k ht hr=>(Mem.own_set_other _ _ (fun e=>by rw [e,hSg] at ht;cases ht)).trans hr
 refine ⟨_,_,R.set g ⟨33,files[i][(ss i).k].map nU,(ss i).r.w⟩,y,⟨(ss i).q,(ss i).sb,{ (ss i).r with at_:=(ss i).r.at_+5*(ss i).r.w,fr:=f,held:=hd },.slice (some ⟨g,0,none⟩) (ss i).r.w (ss i).r.w,(ss i).k+1⟩,hv,rfl,⟨?_,hR.st,hR.ot,hkp,⟨rfl,rfl,rfl⟩,Mem.less_set _ _ _ hRg,hrow,hRn⟩⟩
 refine h.upd_ hi hR.rd.ar (by rw [← e1];exact hR.rd.ps) hR.st hR.ot hR.rd.nb hkp rfl rfl rfl ?_ (Mem.less_set _ _ _ hRg) hRl hRn
 refine ⟨hR.rd.ow,Mem.own_set_same _ _ _,hR.rd.us,h1.hs.stays hR.st,e1,h1.ct,?_,hlt,⟨files[i][(ss i).k],.inr ⟨g,(ss i).r.w,rfl,hrow⟩,fun h2=>?_⟩,hRn _ _ h1.oq h1.rq,hRn _ _ h1.os h1.rs⟩
 ·show (ss i).r.at_+5*(ss i).r.w=5*w*((ss i).k+1)
  rw [h1.at_,e1,Nat.mul_add,Nat.mul_one]
 ·exact List.pairwise_iff_getElem.1 hf.so _ _ hlt h2 (Nat.lt_succ_self _)
theorem mg_nextN (S T R:Mem) (a p b c:Nat) (x:Pl) (n W w:Nat) (files:List (List (List Nat))) (ss:Nat→Sc) (h:MgS S T R a p b c x n W w files ss) (i:Nat) (hi:i<files.length) (hf:FileOK w files[i]) (hw1:1≤w) (hw8:w≤8) (he:(ss i).k=files[i].length) :
  ACall Tryz.prog 99 #[self (ss i).sb] T fun v T'=>∃ S' y s',v = .tuple #[.slice none 0 0,.nilIface]∧s'.k=(ss i).k∧NextR S R S' T' R a p b c x y n W w files ss i s' (.slice none 0 0) []:=by
 have h1:=h.s1 i hi
 have hrd:=h.rd hi
 have e1:=h1.wd
 have hnx:=mg_next_no S a p b c (ss i).sb (ss i).q (ss i).r x n _ T (ss i).lv hrd h1.os (by rw [e1];exact hw1) (by rw [e1];exact hw8) (by rw [h1.ct];exact hf.c) (by rw [e1,h1.ct,h1.at_,he])
 refine hnx.mono fun v T' ⟨hv,y,hT⟩=>?_
 have hqs:=src_ne h1.os h1.oq
 have hkp:Kept S (S.set (ss i).q (rdB a { (ss i).r with held:=0 })) fun t=>t=(ss i).q∨t=(ss i).sb:=⟨fun t k ht e=>(Mem.own_set_other _ _ (fun e=>ht (.inl e))).trans e,rfl⟩
 refine ⟨_,y,⟨(ss i).q,(ss i).sb,{ (ss i).r with held:=0 },(ss i).lv,(ss i).k⟩,hv,rfl,⟨?_,hT.st,hT.ot,hkp,⟨rfl,rfl,rfl⟩,Mem.Less.refl _,Sl.nil _ _ _,fun _ _ _ h=>h⟩⟩
 refine h.upd_ hi hT.s.ar hT.s.ps hT.st hT.ot hT.s.nb hkp rfl rfl rfl ?_ (Mem.Less.refl _) (less_set_skip h.rl h1.rq) (fun _ _ _ h=>h)
 exact ⟨hT.s.ow,(Mem.own_set_other _ _ (Ne.symm hqs)).trans h1.os,hT.s.us,h1.hs.stays hT.st,e1,h1.ct,h1.at_,h1.le,h1.lv,h1.rq,h1.rs⟩
end Sto
end
section
open Go.RowKit
open Mv Disk Num Loser
set_option maxRecDepth 4000
namespace Sto
theorem Use.fr_ {x y:Pl} {s:ByteArray} {f hl:Nat} (h:Use x s f hl) (e:y.fr=x.fr):Use y s f hl:=by
 have a:∀ i,atF y i=atF x i:=fun i=>by unfold atF;rw [e]
 exact ⟨fun i hi hh hn=>by rw [a] at hh hn ⊢;exact h.pins i (by rw [← e];exact hi) hh hn,fun h0=>by rw [a,e];exact h.at_ h0,fun i hi=>by rw [a];exact h.z0 i (by rw [← e];exact hi)⟩
theorem lessB_nil0 (x:List Nat):lessB x []=false:=by cases x <;> rfl
theorem mg_none {S T:Mem} {a p b c:Nat} {x:Pl} {w m:Nat} (ss:Nat→Sc) (h:ArS S a p b c x T) (hx:x.fr=blk 0 m) (hd:Dw x.d 0) (h1:1≤m) (h2:m≤256):MgS S T (noMem S) a p b c x 0 0 w [] ss :=
 ⟨h,blk_ps hx hd (by omega) (by omega),fun i h=>absurd h (Nat.not_lt_zero i),by rw [hx,blk_nb];exact Nat.zero_le _,fun i j h=>absurd h (Nat.not_lt_zero i),⟨fun _ _ h=>(by cases h),rfl⟩⟩
theorem MgS.add {S T T2:Mem} {a p b c:Nat} {x y:Pl} {w m i q sb:Nat} {files:List (List (List Nat))} {ss:Nat→Sc} {nm:ByteArray} (h:MgS S T (noMem S) a p b c x 0 0 w (files.take i) ss) (hi:i<files.length) (hx:x.fr=blk 0 m) (hd:Dw x.d 0) (hm1:1≤m) (hm2:m≤256) (hyf:y.fr=x.fr) (hyd:y.d=x.d)
  (hA:ArS ((S.set q (rdB a ⟨nm,w,files[i].length,0,0,0⟩)).set sb (srB q (.slice none 0 0))) a p b c y T2) (hq:S.own q=none) (hsb:(S.set q (rdB a ⟨nm,w,files[i].length,0,0,0⟩)).own sb=none) (hH:Has y nm w files[i].length (files[i].flatMap recB)) (hnm:∀ j,j<i→(ss j).r.nm≠nm) :
  MgS ((S.set q (rdB a ⟨nm,w,files[i].length,0,0,0⟩)).set sb (srB q (.slice none 0 0))) T2 (noMem S) a p b c y 0 0 w (files.take (i+1)) (upd ss i ⟨q,sb,⟨nm,w,files[i].length,0,0,0⟩,.slice none 0 0,0⟩):=by
 have hl:(files.take (i+1)).length=i+1:=by rw [List.length_take];omega
 have hl0:(files.take i).length=i:=by rw [List.length_take];omega
 have hyb:y.fr=blk 0 m:=hyf.trans hx
 have hqsb:sb≠q:=fun e=>by rw [e,Mem.own_set_same] at hsb;cases hsb
 have hsb0:S.own sb=none:=by rwa [Mem.own_set_other _ _ hqsb] at hsb
 have hkeep:∀ t k,S.own t=some k→((S.set q (rdB a ⟨nm,w,files[i].length,0,0,0⟩)).set sb (srB q (.slice none 0 0))).own t=some k∧t≠q∧t≠sb:=fun t k ht=>by
  have t1:t≠q:=fun e=>by rw [e,hq] at ht;cases ht
  have t2:t≠sb:=fun e=>by rw [e,hsb0] at ht;cases ht
  exact ⟨(Mem.own_set_other _ _ t2).trans ((Mem.own_set_other _ _ t1).trans ht),t1,t2⟩
 refine ⟨hA,blk_ps hyb (by rw [hyd];exact hd) (by omega) (by omega),fun j hj=>?_,by rw [hyb,blk_nb];exact Nat.zero_le _,fun j l hj hl' hne=>?_,⟨fun _ _ h=>(by cases h),rfl⟩⟩
 ·rw [hl] at hj
  rw [List.getElem_take]
  by_cases e:j=i
  ·subst e
   rw [upd_same]
   exact ⟨(Mem.own_set_other _ _ (Ne.symm hqsb)).trans (Mem.own_set_same _ _ _),Mem.own_set_same _ _ _,blk_use hyb nm,hH,rfl,rfl,rfl,Nat.zero_le _,⟨[],.inl ⟨rfl,rfl⟩,fun _=>lessB_nil0 _⟩,rfl,rfl⟩
  ·rw [upd_other ss _ e]
   have g:=h.s1 j (by omega)
   rw [List.getElem_take] at g
   exact ⟨(hkeep _ _ g.oq).1,(hkeep _ _ g.os).1,g.us.fr_ hyf,g.hs.blank hx hyb hyd,g.wd,g.ct,g.at_,g.le,g.lv,rfl,rfl⟩
 ·rw [hl] at hj hl'
  by_cases e:j=i
  ·subst e
   rw [upd_same,upd_other ss _ (Ne.symm hne)]
   have g:=h.s1 l (by omega)
   exact ⟨Ne.symm (hkeep _ _ g.oq).2.1,Ne.symm (hkeep _ _ g.os).2.2,Ne.symm (hnm l (by omega))⟩
  ·by_cases e2:l=i
   ·subst e2
    rw [upd_same,upd_other ss _ hne]
    have g:=h.s1 j (by omega)
    exact ⟨(hkeep _ _ g.oq).2.1,(hkeep _ _ g.os).2.2,hnm j (by omega)⟩
   ·rw [upd_other ss _ e,upd_other ss _ e2]
    exact h.df j l (by omega) (by omega) hne
def strs (s:ByteArray):List Value:=[.string s]
def sumL (files:List (List (List Nat))):Nat:=(files.map List.length).sum
theorem sum_take (files:List (List (List Nat))) {i:Nat} (h:i<files.length):sumL (files.take (i+1))=sumL (files.take i)+files[i].length:=by
 unfold sumL
 rw [List.take_succ_eq_append_getElem h,List.map_append,List.sum_append];simp
theorem sum_le (files:List (List (List Nat))) (i:Nat):sumL (files.take i)≤sumL files:=by
 unfold sumL
 conv=>rhs;rw [← List.take_append_drop i files,List.map_append,List.sum_append]
 omega
structure OpX where
  S:Mem
  T:Mem
  x:Pl
  ss:Nat→Sc
  i:Nat
  o:Option (Nat × Nat)
structure OpI (S0:Mem) (a p b c wk:Nat) (u:W5) (tm:Value) (x0:Pl) (w:Nat) (nms:List ByteArray) (files:List (List (List Nat))) (S T:Mem) (x:Pl) (ss:Nat→Sc) (i:Nat) (o:Option (Nat × Nat)):Prop where
  mg:MgS S T (noMem S) a p b c x 0 0 w (files.take i) ss
  le:i≤files.length
  sl:S0.Less S
  xf:x.fr=x0.fr
  xd:x.d=x0.d
  oo:OkO T o i
  st:∀ j,j<i→(ss j).k=0∧(ss j).r.nm=nms.getD j ByteArray.empty∧S0.own (ss j).q=none∧S0.own (ss j).sb=none
def ptrs (ss:Nat→Sc) (k:Nat):List Value:=(List.range k).map fun j=>self (ss j).sb
theorem ptrs_len (ss:Nat→Sc) (k:Nat):(ptrs ss k).length=k:=by unfold ptrs;simp
theorem ptrs_upd (ss:Nat→Sc) (i:Nat) (s:Sc):ptrs (upd ss i s) (i+1)=ptrs ss i ++ [self s.sb]:=by
 unfold ptrs
 rw [List.range_succ,List.map_append,List.map_singleton,upd_same]
 congr 1
 exact List.map_congr_left fun j hj=>by rw [upd_other ss s (show j≠i from by have:=List.mem_range.1 hj;omega)]
set_option maxHeartbeats 8000000 in
theorem mg_sources (S0 K:Mem) (a p b c wk:Nat) (u:W5) (tm:Value) (x0:Pl) (w m:Nat) (T0:Mem) (vn:Value) (nms:List ByteArray) (files:List (List (List Nat))) (h:ArS S0 a p b c x0 T0) (hwk:S0.own wk=some (wkB a u tm)) (hx:x0.fr=blk 0 m) (hd:Dw x0.d 0) (hm1:1≤m) (hm2:m≤256) (hK:K.Less S0) (hn:Sl 1 strs K vn nms) (hl:nms.length=files.length)
  (hF:∀ j (h:j<files.length) (h':j<nms.length),Rec.FileR x0.d nms[j] w files[j].length (bs (files[j].flatMap recB))) (hfo:∀ f ∈ files,FileOK w f) (hdn:∀ i j (h:i<nms.length) (h':j<nms.length),i≠j→nms[i]≠nms[j]) (hns:∀ s ∈ nms,s.size≤1024) (h1:1≤w) (h8:w≤8) (hs:sumL files≤65536) (hfl:files.length≤256) :
  ACall Tryz.prog 59 #[self wk,vn] T0 fun v T'=>∃ X:OpX,v = .tuple #[outV X.o files.length,.int .u64 (sumL files:Nat),.nilIface]∧T'=outN 1 X.T X.o 140 (ptrs X.ss files.length)∧OpI S0 a p b c wk u tm x0 w nms files X.S X.T X.x X.ss files.length X.o:=by
 obtain ⟨pn,cn,rfl,n1,n2,n3⟩:=id hn
 refine k_E2 (rs:=[.tmp 4,.tmp 5,.tmp 6]) 63 Tryz.func59 rfl rfl rfl ?_
 iterate 31 refine s1_ ?_
 refine AWP.loop (X:=OpX) (fun X=>[(0,self wk),(7,outV X.o X.i),(8,.int .u64 (sumL (files.take X.i):Nat)),(9,.nilIface),(14,.slice pn nms.length cn),(15,.int .i64 (nms.length:Nat)),(16,.int .i64 (X.i:Nat))]) (fun X=>outN 1 X.T X.o 140 (ptrs X.ss X.i)) (fun X=>OpI S0 a p b c wk u tm x0 w nms files X.S X.T X.x X.ss X.i X.o) (fun X=>files.length-X.i) (⟨S0,T0,x0,fun _=>⟨0,0,⟨ByteArray.empty,0,0,0,0,0⟩,.nilIface,0⟩,0,none⟩) ⟨rfl,rfl,rfl,rfl,rfl,rfl,rfl,trivial⟩ (Mem.Less.refl _) (⟨mg_none _ h hx hd hm1 hm2,Nat.zero_le _,Mem.Less.refl _,rfl,rfl,okO_nil _,fun j h=>absurd h (Nat.not_lt_zero j)⟩) ?_
 rintro ⟨S,T,x,ss,i,o⟩ hI
 (try dsimp only at *)
 replace hI:OpI S0 a p b c wk u tm x0 w nms files S T x ss i o:=hI
 have hile:=hI.le
 by_cases q1:i<files.length
 ·have hin:i<nms.length:=by omega
  obtain ⟨bn,off,rfl,hkn⟩:=n3.resolve_left (fun e=>by rw [e] at hin;simp at hin)
  have hki:=((hkn i hin).less ((hK.trans hI.sl).trans (ar_less hI.mg.ar))).less (outN_over (n:=1) (e:=140) (cs:=ptrs ss i) hI.oo)
  unfold strs at hki
  have hFi:=hF i q1 hin
  rw [← hI.xd] at hFi
  have hci:=(hfo _ (List.getElem_mem q1)).c
  have hfr:=(fl_From S a p b c wk u tm x nms[i] 0 w files[i].length T hI.mg.ar (hI.sl.own hwk) hI.mg.ps ((Rec.headP_open (Rec.file_open hFi) _).symm.trans (Rec.file_head h8 hci hFi)) h1 (hns _ (List.getElem_mem hin))).frameO (n:=1) (e:=140) (cs:=ptrs ss i) hI.oo
  iterate 6 refine s1_ ?_
  refine cT_ ?_
  iterate 15 refine s1_ ?_
  refine ca_ rfl (hfr) ?_
  rintro _ S1 ⟨T1,⟨q,y,rfl,hqn,hA,hyd,hyf⟩,hoo,h1'⟩
  rw [h1'];clear h1' S1
  iterate 11 refine s1_ ?_
  refine rC (Calm.bin rfl rfl Er.neNil) ?_
  iterate 2 refine s1_ ?_
  refine cF_ ?_
  iterate 7 refine s1_ ?_
  refine ARun.boxA (cs:=[_,_]) (lit_lt rfl) rfl ?_
  intro b32 f32
  have g32:=f32
  repeat ((with_reducible replace g32:=fresh_set g32);obtain ⟨g32,_⟩:=g32)
  refine nl_ ?_
  obtain ⟨hf32,hn32⟩:=fresh_outN f32
  rw [outN_set (fun g cc e=>hn32 g cc e)]
  have hoo2:=hoo.set (r:=srB q (.slice none 0 0)) (fun g cc e=>hn32 g cc e)
  obtain ⟨k1,k2⟩:=ar_new hA hf32 (srB q (.slice none 0 0))
  have happ:=appN_self (n:=1) (e:=140) (cs:=ptrs ss i) hoo2 (by rw [ptrs_len,Nat.mul_one])
  unfold srB at happ hoo2
  refine ARun.build1s (lit_lt rfl) ty_sl_135 rfl rfl ?_
  intro b33 f33
  have g33:=f33
  repeat ((with_reducible replace g33:=fresh_set g33);obtain ⟨g33,_⟩:=g33)
  refine ARun.appendOK (n:=1) (o:=o) (k:=i) (m:=1) (cs:=ptrs ss i) (news:=[self b32]) (lit_lt rfl) ty_sl_135 rfl rfl (by rw [ptrs_len,Nat.mul_one]) hoo2 (happ.temp f33) rfl (src_own (Mem.own_set_same _ _ _) List.prefix_rfl) rfl (fun v hv=>by rw [List.mem_singleton.1 hv];rfl) (by omega) (by omega) ?_
  intro o2 ho2
  obtain ⟨g,gc,rfl⟩:=ho2.some (by omega)
  obtain ⟨hg,hgc⟩:=ho2.own g gc rfl
  have hH:=(has_new (m:=m) hI.mg.ps.d hFi (by rw [size_bs];exact rows_len h1 (hfo _ (List.getElem_mem q1)).ok)).blank (y:=y) (i:=0) (j:=m) rfl (hyf.trans (hI.xf.trans hx)) hyd
  rw [bs_data] at hH
  have hmg2:=hI.mg.add (nm:=nms[i]) q1 (hI.xf.trans hx) hI.mg.ps.d hm1 hm2 hyf hyd k2 hqn.1 k1.1 hH (fun j hj e=>by rw [(hI.st j hj).2.1,List.getD_eq_getElem?_getD,List.getElem?_eq_getElem (by omega)] at e;exact hdn j i (by omega) hin (by omega) e)
  have hst2:∀ j,j<i+1→(upd ss i ⟨q,b32,⟨nms[i],w,files[i].length,0,0,0⟩,.slice none 0 0,0⟩ j).k=0∧(upd ss i ⟨q,b32,⟨nms[i],w,files[i].length,0,0,0⟩,.slice none 0 0,0⟩ j).r.nm=nms.getD j ByteArray.empty∧S0.own (upd ss i ⟨q,b32,⟨nms[i],w,files[i].length,0,0,0⟩,.slice none 0 0,0⟩ j).q=none∧S0.own (upd ss i ⟨q,b32,⟨nms[i],w,files[i].length,0,0,0⟩,.slice none 0 0,0⟩ j).sb=none:=fun j hj=>by
   have hno:∀ {t:Nat},(S.own t=none∨(S.set q (rdB a ⟨nms[i],w,files[i].length,0,0,0⟩)).own t=none)→S0.own t=none:=fun {t} ht=>by
    cases e:S0.own t with
    | none=>rfl
    | some k =>
     have e2:=hI.sl.own e
     rcases ht with ht | ht
     ·rw [e2] at ht;cases ht
     ·rw [Mem.own_set_other _ _ (hqn.ne e2),e2] at ht;cases ht
   by_cases e:j=i
   ·subst e
    rw [upd_same]
    exact ⟨rfl,by rw [List.getD_eq_getElem?_getD,List.getElem?_eq_getElem hin];rfl,hno (.inl hqn.1),hno (.inr k1.1)⟩
   ·rw [upd_other ss _ e];exact hI.st j (by omega)
  have hsl2:=hI.sl.trans ((Mem.less_set _ _ (rdB a ⟨nms[i],w,files[i].length,0,0,0⟩) hqn.1).trans (Mem.less_set _ _ (srB q (.slice none 0 0)) k1.1))
  have eP:ptrs ss i ++ [self b32]=ptrs (upd ss i ⟨q,b32,⟨nms[i],w,files[i].length,0,0,0⟩,.slice none 0 0,0⟩) (i+1):=(ptrs_upd ss i ⟨q,b32,⟨nms[i],w,files[i].length,0,0,0⟩,.slice none 0 0,0⟩).symm
  rw [eP]
  have oq:=ar_own0 hmg2.ar ((Mem.own_set_other _ _ (fun e=>by have:=k1.1;rw [← e,Mem.own_set_same] at this;cases this)).trans (Mem.own_set_same S q (rdB a ⟨nms[i],w,files[i].length,0,0,0⟩)))
  generalize upd ss i ⟨q,b32,⟨nms[i],w,files[i].length,0,0,0⟩,.slice none 0 0,0⟩=ss2 at *
  have g0:=hmg2.s1 0 (by rw [List.length_take];omega)
  have oq0:=ar_own0 hmg2.ar g0.oq
  have os0:=ar_own0 hmg2.ar g0.os
  have hw0:=g0.wd
  unfold rdB at oq oq0
  unfold srB at os0 oq oq0
  dsimp only at oq
  rw [hw0] at oq0
  have n1':=hg.ne oq
  have n2':=hg.ne oq0
  have n3':=hg.ne os0
  have m1:=(Mem.own_set_other _ ⟨140,ptrs ss2 (i+1),gc*1⟩ n1').trans oq
  have m2:=(Mem.own_set_other _ ⟨140,ptrs ss2 (i+1),gc*1⟩ n2').trans oq0
  have m3:=(Mem.own_set_other _ ⟨140,ptrs ss2 (i+1),gc*1⟩ n3').trans os0
  have hp0:(ptrs ss2 (i+1))[0]?=some (self (ss2 0).sb):=by unfold ptrs;simp
  have hst:=sum_take files q1
  have hsl3:=sum_le files (i+1)
  skip
  iterate 3 refine s1_ ?_
  refine AWP.less ((T1.set b32 ⟨139,[self q,.slice none 0 0],2⟩).set g ⟨140,ptrs ss2 (i+1),gc*1⟩) (Mem.Less.refl _) ?_
  iterate 2 refine s1_ ?_
  refine AWP.draw [(0,true),(1,true),(2,true),(3,true),(4,true),(5,true),(6,true),(7,true),(8,true),(9,true),(10,true),(11,true),(12,true),(13,true)] [] mixed (by kernel_rfl) ?_
  iterate 6 refine s1_ ?_
  refine dC (hc:=Calm.load ty_plain_140 rfl (v:=self (ss2 0).sb) (rd_own' (Mem.own_set_same _ _ _) hp0)) (h:=?_)
  iterate 9 refine s1_ ?_
  refine k_v13 0 7 8 9 14 15 16 17 11 12 13 27 48 ?_
  refine cF_ ?_
  iterate 19 refine s1_ ?_
  refine cF_ ?_
  iterate 8 refine s1_ ?_
  refine ⟨⟨(S.set q (rdB a ⟨nms[i],w,files[i].length,0,0,0⟩)).set b32 (srB q (.slice none 0 0)),T1.set b32 ⟨139,[self q,.slice none 0 0],2⟩,y,ss2,i+1,some (g,gc)⟩,?_,?_,?_,?_⟩
  all_goals (try dsimp only)
  ·exact ⟨rfl,rfl,some_int (by omega),rfl,rfl,rfl,rfl,trivial⟩
  ·exact Mem.Less.refl _
  ·exact ⟨hmg2,q1,hsl2,hyf.trans hI.xf,hyd.trans hI.xd,ho2,hst2⟩
  ·omega
 ·obtain rfl:i=files.length:=by omega
  iterate 6 refine s1_ ?_
  refine cF_ ?_
  have hIm:=hI.mg
  iterate 16 refine s1_ ?_
  refine ⟨_,_,⟨_,_,rfl,⟨_,_,rfl,⟨_,_,rfl,rfl,rfl⟩,rfl⟩,rfl⟩,Mem.Less.refl _,?_⟩
  exact ⟨⟨S,T,x,ss,0,o⟩,by rw [List.take_length];rfl,rfl,hI⟩
end Sto
end
section
open Go.RowKit
open Mv Disk Num Loser
set_option maxRecDepth 4000
namespace Sto
def bxB (q:Nat):Blk:=⟨77,[self q],1⟩
structure MwS (S T R K:Mem) (a p b c qw bx:Nat) (x:Pl) (n w:Nat) (files:List (List (List Nat))) (ss:Nat→Sc) (wt:Wt) (out:List (List Nat)):Prop where
  mg:MgS S T R a p b c x n (if 0<wt.held then 1 else 0) w files ss
  ow:S.own qw=some (wtB a wt)
  ob:S.own bx=some (bxB qw)
  us:Use x wt.nm wt.fr wt.held
  wd:wt.w=w
  ct:wt.ct=out.length
  at_:wt.at_=5*w*out.length
  wr:Wrote x wt.nm (out.flatMap recB)
  ok:RowsOK w out
  nn:∀ i,i<files.length→(ss i).r.nm≠wt.nm
  rq:R.own qw=none
  ns:ns x.d wt.nm=Rec.needN w (sumL files)
  kb:K.Less S
  kn:∀ t,OfSc files.length ss t∨t=qw→K.own t=none
theorem own_ne {S:Mem} {s t:Nat} {j k:Blk} (h:S.own s=some j) (h':S.own t=some k) (hne:j.elem≠k.elem):s≠t:=fun e=>by
 subst e
 rw [h] at h'
 exact hne (by rw [Option.some.inj h'])
theorem wt_rd:201≠124:=by decide
theorem wt_sr:201≠139:=by decide
theorem bx_rd:77≠124:=by decide
theorem bx_sr:77≠139:=by decide
theorem bx_wt:77≠201:=by decide
theorem MwS.far {S T R K:Mem} {a p b c qw bx:Nat} {x:Pl} {n w':Nat} {files:List (List (List Nat))} {ss:Nat→Sc} {wt:Wt} {out:List (List Nat)} (h:MwS S T R K a p b c qw bx x n w' files ss wt out) {i:Nat} (hi:i<files.length):(qw≠(ss i).q∧qw≠(ss i).sb)∧bx≠(ss i).q∧bx≠(ss i).sb :=
 ⟨⟨own_ne h.ow (h.mg.s1 i hi).oq wt_rd,own_ne h.ow (h.mg.s1 i hi).os wt_sr⟩,own_ne h.ob (h.mg.s1 i hi).oq bx_rd,own_ne h.ob (h.mg.s1 i hi).os bx_sr⟩
theorem MwS.next {S T R S' T' R' K:Mem} {a p b c qw bx:Nat} {x y:Pl} {n n' w':Nat} {files:List (List (List Nat))} {ss:Nat→Sc} {wt:Wt} {out:List (List Nat)} {i:Nat} {s':Sc} {v:Value} {row:List Nat} (h:MwS S T R K a p b c qw bx x n w' files ss wt out) (hi:i<files.length) (hN:NextR S R S' T' R' a p b c x y n' (if 0<wt.held then 1 else 0) w' files ss i s' v row) :
  MwS S' T' R' K a p b c qw bx y n' w' files (upd ss i s') wt out:=by
 obtain ⟨⟨f1,f2⟩,f3,f4⟩:=h.far hi
 obtain ⟨e1,e2,e3⟩:=hN.q
 refine ⟨hN.mg,hN.kp.own _ _ (fun e=>e.elim f1 f2) h.ow,hN.kp.own _ _ (fun e=>e.elim f3 f4) h.ob,h.us.oth hN.ot (Ne.symm (h.nn i hi)) hN.st.l,h.wd,h.ct,h.at_,h.wr.stays hN.st,h.ok,fun j hj=>?_,hN.rn _ _ h.ow h.rq,(hN.st.n _).trans h.ns,⟨fun t k ht=>hN.kp.own t k (fun e=>?_) (h.kb.own ht),h.kb.2.trans hN.kp.ro.symm⟩,fun t ht=>h.kn t ?_⟩
 ·by_cases e:j=i
  ·subst e;rw [upd_same,e3];exact h.nn j hj
  ·rw [upd_other ss s' e];exact h.nn j hj
 ·have:=h.kn t (.inl ⟨i,hi,e⟩)
  rw [ht] at this;cases this
 ·rcases ht with ⟨j,hj,ht⟩ | ht
  ·refine .inl ⟨j,hj,?_⟩
   by_cases e:j=i
   ·subst e;rw [upd_same,e1,e2] at ht;exact ht
   ·rw [upd_other ss s' e] at ht;exact ht
  ·exact .inr ht
theorem MwS.wts {S T R K:Mem} {a p b c qw bx:Nat} {x:Pl} {n w':Nat} {files:List (List (List Nat))} {ss:Nat→Sc} {wt:Wt} {out:List (List Nat)} (h:MwS S T R K a p b c qw bx x n w' files ss wt out) (hw1:1≤w'):WtS S a p b c qw wt x n (hcnt files.length fun i=>(ss i).r) (out.flatMap recB) T :=
 ⟨h.mg.ar,h.ow,h.mg.ps,h.us,by have:=h.mg.nb;omega,by rw [h.at_,rows_len hw1 h.ok,each_w hw1],h.wr⟩
theorem MwS.put {S T T' R K:Mem} {a p b c qw bx:Nat} {x y:Pl} {n n' w':Nat} {files:List (List (List Nat))} {ss:Nat→Sc} {wt wt':Wt} {out:List (List Nat)} {row:List Nat} (h:MwS S T R K a p b c qw bx x n w' files ss wt out) (hw1:1≤w') (hT:WtT S a p b c qw wt wt' x y n' (hcnt files.length fun i=>(ss i).r) (out.flatMap recB ++ recB row) T') (hr:row.length=w' ∧ ∀ m ∈ row,m<Num.top) (h1:wt'.w=wt.w) (h2:wt'.ct=wt.ct+1) (h3:wt'.at_=wt.at_+5*w') :
  MwS (S.set qw (wtB a wt')) T' R K a p b c qw bx y n' w' files ss wt' (out ++ [row]):=by
 have hl:(out ++ [row]).length=out.length+1:=by rw [List.length_append];rfl
 have hwr:=hT.s.wr
 refine ⟨⟨hT.s.ar,hT.s.ps,fun i hi=>?_,by have:=hT.s.nb;omega,h.mg.df,less_set_skip h.mg.rl h.rq⟩,Mem.own_set_same _ _ _,(Mem.own_set_other _ _ (own_ne h.ob h.ow bx_wt)).trans h.ob,hT.s.us,h1.trans h.wd,by rw [h2,h.ct,hl],by rw [h3,h.at_,hl,Nat.mul_add,Nat.mul_one],?_,fun r hm=>?_,fun i hi=>by rw [hT.nm];exact h.nn i hi,h.rq,by rw [hT.nm,hT.st.n];exact h.ns,less_set_skip h.kb (h.kn qw (.inr rfl)),h.kn⟩
 ·obtain ⟨⟨f1,f2⟩,_⟩:=h.far hi
  have g:=h.mg.s1 i hi
  exact ⟨(Mem.own_set_other _ _ (Ne.symm f1)).trans g.oq,(Mem.own_set_other _ _ (Ne.symm f2)).trans g.os,g.us.oth hT.ot (h.nn i hi) hT.st.l,g.hs.near hT.st (h.nn i hi),g.wd,g.ct,g.at_,g.le,g.lv,g.rq,g.rs⟩
 ·rw [List.flatMap_append]
  simp only [List.flatMap_cons,List.flatMap_nil,List.append_nil]
  exact hwr
 ·rcases List.mem_append.1 hm with hm | hm
  ·exact h.ok r hm
  ·rw [List.mem_singleton.1 hm];exact hr
set_option maxHeartbeats 4000000 in
theorem mg_put (S T R K:Mem) (a p b c qw bx:Nat) (x:Pl) (n w:Nat) (files:List (List (List Nat))) (ss:Nat→Sc) (wt:Wt) (out:List (List Nat)) (v:Value) (row:List Nat) (h:MwS S T R K a p b c qw bx x n w files ss wt out) (hv:RowR R v row) (hr:row.length=w ∧ ∀ m ∈ row,m<Num.top) (h1:1≤w) (h8:w≤8) (ho:out.length<sumL files) (hs:sumL files≤65536) (hn:n+5*w≤16384) (hm:files.length+1≤x.fr.length) :
  ACall Tryz.prog 61 #[v,.pointer (some ⟨bx,0,none⟩)] T fun rv T'=>rv = .nilIface ∧ ∃ S' y wt',wt'.nm=wt.nm∧y.fr.length=x.fr.length∧MwS S' T' R K a p b c qw bx y (n+5*w) w files ss wt' (out ++ [row]):=by
 have hmk:5*w*(out.length+1)≤5*w*sumL files:=Nat.mul_le_mul_left _ ho
 rw [Nat.mul_add,Nat.mul_one] at hmk
 have hmul:5*w*sumL files≤40*65536:=Nat.mul_le_mul (by omega) hs
 have hput:=wt_Put S a p b c qw wt x n _ _ v row T (h.wts h1) (hv.less (h.mg.rl.trans (ar_less h.mg.ar))) (by omega) (by omega) (fun z hz=>Nat.lt_of_lt_of_le (hr.2 z hz) (by decide)) (by rw [h.ct];omega) (by rw [h.at_,hr.1];omega) (by rw [h.at_,hr.1,h.ns];unfold Rec.needN Rec.eachN;rw [if_neg (by omega)];omega) (by rw [hr.1];exact hn) (by have:=hcnt_le files.length fun i=>(ss i).r;omega)
 have ob:=ar_own0 h.mg.ar h.ob
 unfold bxB at ob
 obtain ⟨pv,cv,rfl,_⟩:=id hv
 refine k_E2 (rs:=[.tmp 3]) 8 Tryz.func61 rfl rfl rfl ?_
 iterate 9 refine s1_ ?_
 refine ca_ rfl (hput) ?_
 rintro _ T' ⟨rfl,y,f,hd,hT⟩
 refine ca_ rfl (fl_Fail _ _) ?_
 rintro _ S1 ⟨rfl,h1'⟩
 rw [h1'];clear h1' S1
 rw [hr.1] at hT
 iterate 4 refine s1_ ?_
 refine ⟨_,T',⟨_,_,rfl,rfl,rfl⟩,less_,?_⟩
 exact ⟨rfl,_,y,_,hT.nm,hT.st.l,h.put h1 hT hr rfl rfl rfl⟩
theorem losFrame {T:Mem} {g b q p:Nat} {Gb:Blk} {hs:List Value} {tr:List Int} {k c:Nat} {f:FuncId} {args:Array Value} {R:Value→Mem→Prop} (h:ACall Tryz.prog f args T R) (hg:Fresh T g) (hF:LosF (T.set g Gb) b q p) :
  ACall Tryz.prog f args (losM (T.set g Gb) b q p hs tr k c) fun r S'=>∃ T',R r T'∧Fresh T' g∧LosF (T'.set g Gb) b q p∧S'=losM (T'.set g Gb) b q p hs tr k c:=by
 unfold losM
 refine ((((h.frame (r:=Gb) hg).frame (r:=⟨46,hs,k⟩) hF.fb).frame (r:=⟨3,tr.map (fun x=>Value.int .i64 x),c⟩) (fresh_more hF.fq (Ne.symm hF.bq))).frame (r:=⟨198,[.slice (some ⟨b,0,none⟩) k k,.slice (some ⟨q,0,none⟩) k c],2⟩) (fresh_more (fresh_more hF.fp (Ne.symm hF.bp)) (Ne.symm hF.qp))).mono fun r S' ⟨S4,⟨S3,⟨S2,⟨T',hR,g1,e1⟩,g2,e2⟩,g3,e3⟩,g4,e4⟩=>?_
 subst e1 e2 e3 e4
 exact ⟨T',hR,g1,⟨g2,(fresh_set g3).1,(fresh_set (fresh_set g4).1).1,hF.bq,hF.bp,hF.qp⟩,rfl⟩
end Sto
end
section
open Go.RowKit
open Mv Disk Num Loser
set_option maxRecDepth 4000
namespace Sto
theorem MgS.mono {S T R:Mem} {a p b c:Nat} {x:Pl} {n n' W w:Nat} {files:List (List (List Nat))} {ss:Nat→Sc} (h:MgS S T R a p b c x n W w files ss) (k:n≤n'):MgS S T R a p b c x n' W w files ss:=⟨h.ar,h.ps.mono k,h.s1,h.nb,h.df,h.rl⟩
theorem NextR.mono {S R S' T' R':Mem} {a p b c:Nat} {x y:Pl} {n n' W w:Nat} {files:List (List (List Nat))} {ss:Nat→Sc} {i:Nat} {s':Sc} {v:Value} {row:List Nat} (h:NextR S R S' T' R' a p b c x y n W w files ss i s' v row) (k:n≤n'):NextR S R S' T' R' a p b c x y n' W w files ss i s' v row:=⟨h.mg.mono k,h.st,h.ot,h.kp,h.q,h.rr,h.row,h.rn⟩
theorem mg_nextA (S T R:Mem) (a p b c:Nat) (x:Pl) (n W w:Nat) (files:List (List (List Nat))) (ss:Nat→Sc) (h:MgS S T R a p b c x n W w files ss) (i:Nat) (hi:i<files.length) (hf:FileOK w files[i]) (hw1:1≤w) (hw8:w≤8) (hn:n+5*w≤16384) (hW:W≤1) (hm:files.length+1≤x.fr.length) :
  ACall Tryz.prog 99 #[self (ss i).sb] T fun v T'=>∃ u S' R' y s',v = .tuple #[u,.nilIface]∧files[i].drop s'.k=(files[i].drop (ss i).k).tail∧NextR S R S' T' R' a p b c x y (n+5*w) W w files ss i s' u ((files[i].drop (ss i).k).headD []):=by
 have hle:=(h.s1 i hi).le
 by_cases q1:(ss i).k<files[i].length
 ·refine (mg_nextS S T R a p b c x n W w files ss h i hi hf hw1 hw8 hn hW hm q1).mono fun v T' ⟨u,S',R',y,s',e1,e2,e3⟩=>⟨u,S',R',y,s',e1,by rw [e2,List.tail_drop],?_⟩
  rw [List.drop_eq_getElem_cons q1]
  exact e3
 ·have he:(ss i).k=files[i].length:=by omega
  refine (mg_nextN S T R a p b c x n W w files ss h i hi hf hw1 hw8 he).mono fun v T' ⟨S',y,s',e1,e2,e3⟩=>⟨_,S',R,y,s',e1,by rw [e2,he,List.drop_length];rfl,?_⟩
  rw [he,List.drop_length]
  exact e3.mono (Nat.le_add_right _ _)
structure MX where
  S:Mem
  T:Mem
  R:Mem
  x:Pl
  n:Nat
  ss:Nat→Sc
  wt:Wt
  out:List (List Nat)
  rem:List (List (List Nat))
  hs:List Value
structure MrI (K:Mem) (a p b c qw bx w:Nat) (files:List (List (List Nat))) (ss0:Nat→Sc) (nm0:ByteArray) (m0:Nat) (X:MX) (m:Nat):Prop where
  mw:MwS X.S X.T X.R K a p b c qw bx X.x X.n w files X.ss X.wt X.out
  rl:X.rem.length=files.length
  tl:∀ i (h:i<files.length) (h':i<X.rem.length),if i<m then X.rem[i].tail=files[i].drop (X.ss i).k else X.rem[i]=files[i]∧(X.ss i).k=0
  hl:X.hs.length=files.length
  hr:∀ i (h:i<X.rem.length) (h':i<X.hs.length),i<m→RowR X.R X.hs[i] (X.rem[i].headD [])
  sb:∀ i,(X.ss i).sb=(ss0 i).sb
  nl:X.n≤5*w*(m+2*X.out.length)
  xl:X.x.fr.length=m0
  wn:X.wt.nm=nm0
theorem MrI.all {K:Mem} {a p b c qw bx w:Nat} {files:List (List (List Nat))} {ss0:Nat→Sc} {nm0:ByteArray} {m0:Nat} {X:MX} {M:Mem} (h:MrI K a p b c qw bx w files ss0 nm0 m0 X files.length) (hM:X.R.Less M):∀ i (h:i<(hds X.rem).length) (h':i<X.hs.length),RowR M X.hs[i] (hds X.rem)[i]:=fun i hi hi'=>by
 have hi2:i<X.rem.length:=by unfold hds at hi;simpa using hi
 have:=h.hr i hi2 hi' (by rw [← h.rl];exact hi2)
 rw [← key_get _ _ hi,hds_key _ hi2]
 exact this.less hM
theorem upd_sb (ss:Nat→Sc) (i:Nat) (s:Sc) (ss0:Nat→Sc) (h:∀ j,(ss j).sb=(ss0 j).sb) (hs:s.sb=(ss i).sb):∀ j,(upd ss i s j).sb=(ss0 j).sb:=fun j=>by
 by_cases e:j=i
 ·subst e;rw [upd_same,hs];exact h j
 ·rw [upd_other ss s e];exact h j
theorem MrI.next {K:Mem} {a p b c qw bx w:Nat} {files:List (List (List Nat))} {ss0:Nat→Sc} {nm0:ByteArray} {m0:Nat} {X:MX} {m m':Nat} (h:MrI K a p b c qw bx w files ss0 nm0 m0 X m) {i:Nat} (hi:i<files.length) (hir:i<X.rem.length) {S' T' R':Mem} {y:Pl} {n':Nat} {s':Sc} {u:Value}
  (hN:NextR X.S X.R S' T' R' a p b c X.x y n' (if 0<X.wt.held then 1 else 0) w files X.ss i s' u ((files[i].drop (X.ss i).k).headD [])) (hk:files[i].drop s'.k=(files[i].drop (X.ss i).k).tail) (hm:m'=m∧i<m∨m'=m+1∧i=m) (hn:n'≤5*w*(m'+2*X.out.length)) :
  MrI K a p b c qw bx w files ss0 nm0 m0 ⟨S',T',R',y,n',upd X.ss i s',X.wt,X.out,X.rem.set i (files[i].drop (X.ss i).k),X.hs.set i u⟩ m':=by
 obtain ⟨e1,e2,e3⟩:=hN.q
 refine ⟨h.mw.next hi hN,by simp [h.rl],fun j hj hj'=>?_,by simp [h.hl],fun j hj hj' hjm=>?_,upd_sb _ _ _ _ h.sb e2,hn,hN.st.l.trans h.xl,h.wn⟩
 ·dsimp only at hj' ⊢
  by_cases e:i=j
  ·subst e
   rw [List.getElem_set_self,upd_same,if_pos (by omega),hk]
  ·rw [List.getElem_set_ne e,upd_other _ _ (Ne.symm e)]
   have:=h.tl j hj (by simpa using hj')
   by_cases q1:j<m
   ·rw [if_pos q1] at this;rw [if_pos (by omega)];exact this
   ·rw [if_neg q1] at this;rw [if_neg (by omega)];exact this
 ·dsimp only at hj hj' ⊢
  by_cases e:i=j
  ·subst e
   rw [List.getElem_set_self,List.getElem_set_self]
   exact hN.row
  ·rw [List.getElem_set_ne e,List.getElem_set_ne e]
   exact (h.hr j (by simpa using hj) (by simpa using hj') (by omega)).less hN.rr
theorem MrI.put {K:Mem} {a p b c qw bx w:Nat} {files:List (List (List Nat))} {ss0:Nat→Sc} {nm0:ByteArray} {m0:Nat} {X:MX} {m:Nat} (h:MrI K a p b c qw bx w files ss0 nm0 m0 X m) {S' T':Mem} {y:Pl} {wt':Wt} {row:List Nat} (hM:MwS S' T' X.R K a p b c qw bx y (X.n+5*w) w files X.ss wt' (X.out ++ [row])) (hw:wt'.nm=X.wt.nm) (hl:y.fr.length=X.x.fr.length) :
  MrI K a p b c qw bx w files ss0 nm0 m0 ⟨S',T',X.R,y,X.n+5*w,X.ss,wt',X.out ++ [row],X.rem,X.hs⟩ m :=
 ⟨hM,h.rl,h.tl,h.hl,h.hr,h.sb,by
  have:=h.nl
  show X.n+5*w≤5*w*(m+2*(X.out ++ [row]).length)
  rw [List.length_append,List.length_singleton,show m+2*(X.out.length+1)=m+2*X.out.length+2 from by omega,Nat.mul_add]
  omega,hl.trans h.xl,hw.trans h.wn⟩
theorem ptrs_sb {ss ss0:Nat→Sc} (h:∀ i,(ss i).sb=(ss0 i).sb) (k:Nat) {i:Nat} (hi:i<k):(ptrs ss0 k)[i]?=some (self (ss i).sb):=by
 unfold ptrs
 rw [List.getElem?_map,List.getElem?_range hi,h i];rfl
theorem losM_own_g {T:Mem} {g b q p:Nat} {Gb:Blk} {hs:List Value} {tr:List Int} {k c:Nat} (h:LosF (T.set g Gb) b q p):(losM (T.set g Gb) b q p hs tr k c).own g=some Gb:=by
 have ho:=Mem.own_set_same T g Gb
 unfold losM
 rw [Mem.own_set_other _ _ (h.fp.ne ho),Mem.own_set_other _ _ (h.fq.ne ho),Mem.own_set_other _ _ (h.fb.ne ho)]
 exact ho
theorem mg_left {files rem:List (List (List Nat))} {out:List (List Nat)} {w i:Nat} {row:List Nat} {rest:List (List Nat)} (h:MgI files.flatten rem out) (h2:MgI files.flatten (rem.set i rest) (out ++ [row])) (hi:i<rem.length) (er:rem[i]=row :: rest) (hfo:∀ f ∈ files,FileOK w f):(row.length=w ∧ ∀ m ∈ row,m<Num.top)∧out.length<sumL files:=by
 have hm:row ∈ files.flatten:=h.pm.mem_iff.1 (List.mem_append_right _ (List.mem_flatten.2 ⟨rem[i],List.getElem_mem hi,by rw [er];exact List.mem_cons_self ..⟩))
 obtain ⟨f,hf,hr⟩:=List.mem_flatten.1 hm
 refine ⟨(hfo f hf).ok row hr,?_⟩
 have:=h2.pm.length_eq
 rw [List.length_append,List.length_append,List.length_singleton,List.length_flatten (L:=files)] at this
 show out.length<(files.map List.length).sum
 omega
set_option maxHeartbeats 8000000 in
theorem mg_run (S T K:Mem) (a p b c qw bx:Nat) (x:Pl) (w:Nat) (files:List (List (List Nat))) (ss:Nat→Sc) (wt:Wt) (g cc room:Nat) (h:MwS S T (noMem S) K a p b c qw bx x 0 w files ss wt []) (hg:Fresh T g) (hk0:∀ j,j<files.length→(ss j).k=0) (hfo:∀ f ∈ files,FileOK w f) (h1:1≤w) (h8:w≤8) (hs:sumL files≤65536) (hl1:1≤files.length) (hl2:files.length≤256) (hn:5*w*(files.length+2*sumL files+2)≤16384) (hm:files.length+1≤x.fr.length) :
  ACall Tryz.prog 60 #[.slice (some ⟨g,0,none⟩) files.length cc,.func (.func 61) #[] #[.pointer (some ⟨bx,0,none⟩)]] (T.set g ⟨140,ptrs ss files.length,room⟩) fun v T'=>v = .nilIface ∧ ∃ X:MX,MrI K a p b c qw bx w files ss wt.nm x.fr.length X files.length∧Fresh X.T g∧X.out.Perm files.flatten∧SortedR X.out∧T'=X.T:=by
 have hne:∀ f ∈ files,∀ y ∈ f,y ≠ []:=fun f hf y hy e=>by have:=((hfo f hf).ok y hy).1;rw [e] at this;simp at this;omega
 refine k_E2 (rs:=[.tmp 4]) 75 Tryz.func60 rfl rfl rfl ?_
 iterate 9 refine s1_ ?_
 refine ARun.makeSlice (lit_lt rfl) ty_sl_22 rfl rfl (by omega) (by omega) (by omega) (by omega) ?_
 intro b18 f18
 have g18:=f18
 repeat ((with_reducible replace g18:=fresh_set g18);obtain ⟨g18,_⟩:=g18)
 iterate 12 refine s1_ ?_
 refine AWP.loop (X:=MX × Nat) (fun X=>[(0,.slice (some ⟨g,0,none⟩) files.length cc),(1,.func (.func 61) #[] #[.pointer (some ⟨bx,0,none⟩)]),(5,.slice (some ⟨b18,0,none⟩) files.length files.length),(19,.slice (some ⟨g,0,none⟩) files.length cc),(20,.int .i64 (files.length:Nat)),(21,.int .i64 (X.2:Nat))]) (fun X=>(X.1.T.set g ⟨140,ptrs ss files.length,room⟩).set b18 ⟨46,X.1.hs,files.length⟩) (fun X=>MrI K a p b c qw bx w files ss wt.nm x.fr.length X.1 X.2∧Fresh X.1.T g∧Fresh (X.1.T.set g ⟨140,ptrs ss files.length,room⟩) b18∧X.1.rem=files∧X.1.out = []∧X.2≤files.length) (fun X=>files.length-X.2) ((⟨S,T,noMem S,x,0,ss,wt,[],files,List.replicate files.length (.slice none 0 0)⟩,0)) ⟨rfl,rfl,rfl,rfl,rfl,rfl,trivial⟩ (less_eq (by rw [Int.toNat_natCast,Nat.mul_one,madeL_one])) (⟨⟨h,rfl,fun i hi hi'=>by rw [if_neg (Nat.not_lt_zero i)];exact ⟨rfl,hk0 i hi⟩,by simp,fun i hi hi' h=>absurd h (Nat.not_lt_zero i),fun _=>rfl,Nat.zero_le _,rfl,rfl⟩,hg,f18,rfl,rfl,Nat.zero_le _⟩) ?_
 rintro ⟨X,i⟩ ⟨hI,hfg,hf18,hrem,hout,hi⟩
 (try dsimp only at *)
 replace hI:MrI K a p b c qw bx w files ss wt.nm x.fr.length X i:=hI
 replace hi:i≤files.length:=hi
 by_cases q1:i<files.length
 ·have hir:i<X.rem.length:=by rw [hI.rl];exact q1
  have hgb:g≠b18:=fun e=>by have:=hf18.1;rw [← e,Mem.own_set_same] at this;cases this
  have hnl:=hI.nl
  have hmul:5*w*(i+2*X.out.length+1)≤5*w*(files.length+2*sumL files+2):=Nat.mul_le_mul_left _ (by rw [hout];simp;omega)
  rw [Nat.mul_add,Nat.mul_one] at hmul
  have hnx:=((mg_nextA X.S X.T X.R a p b c X.x X.n _ w files X.ss hI.mw.mg i q1 (hfo _ (List.getElem_mem q1)) h1 h8 (by omega) (by split <;> omega) (by rw [hI.xl];exact hm)).frame (r:=⟨140,ptrs ss files.length,room⟩) hfg).frame (r:=⟨46,X.hs,files.length⟩) hf18
  have hhl:=hI.hl
  have htl:=hI.tl i q1 hir
  rw [if_neg (Nat.lt_irrefl i)] at htl
  iterate 6 refine s1_ ?_
  refine cT_ ?_
  iterate 8 refine s1_ ?_
  refine rC (Calm.load ty_plain_140 rfl (v:=self (X.ss i).sb) (rd_own' ((Mem.own_set_other _ _ hgb).trans (Mem.own_set_same _ _ _)) (by have:=ptrs_sb hI.sb files.length q1;rw [show 0+(i:Int).toNat*1=i from by omega];exact this))) ?_
  iterate 7 refine s1_ ?_
  refine ca_ rfl (hnx) ?_
  rintro _ S1 ⟨Sa,⟨T2,⟨u,S',R',y,s',rfl,hk,hN⟩,hfg2,hSa⟩,hf182,h1'⟩
  rw [h1',hSa];rw [hSa] at hf182;clear h1' S1 hSa Sa
  obtain ⟨pu,cu,rfl,_⟩:=id hN.row
  iterate 11 refine s1_ ?_
  refine rC (Calm.bin rfl rfl Er.neNil) ?_
  iterate 2 refine s1_ ?_
  refine cF_ ?_
  have hX:=hI.next (m':=i+1) q1 hir hN hk (.inr ⟨rfl,rfl⟩) (by rw [show i+1+2*X.out.length=i+2*X.out.length+1 from by omega,Nat.mul_add,Nat.mul_one];omega)
  iterate 7 refine s1_ ?_
  refine ARun.store1 rfl rfl ty_size_46 rfl (Mem.own_set_same _ _ _) (by show 0+(i:Int).toNat*1<X.hs.length;omega) rfl ?_
  try simp only [k_ms,k_sz,k_ss,k_za,Nat.reduceAdd]
  iterate 3 refine s1_ ?_
  refine k_v12 0 1 5 19 20 21 22 6 7 8 9 32 ?_
  iterate 5 refine s1_ ?_
  refine ⟨(⟨S',T2,R',y,X.n+5*w,upd X.ss i s',X.wt,X.out,X.rem.set i (files[i].drop (X.ss i).k),X.hs.set i (.slice pu ((files[i].drop (X.ss i).k).headD []).length cu)⟩,i+1),?_,?_,?_,?_⟩
  all_goals (try dsimp only)
  ·exact ⟨rfl,rfl,rfl,rfl,rfl,some_int (by omega),trivial⟩
  ·(rw [show (i:Int).toNat*1=i from by omega];exact Mem.Less.refl _)
  ·exact ⟨hX,hfg2,hf182,by rw [htl.2,List.drop_zero,← htl.1,List.set_getElem_self];exact hrem,hout,q1⟩
  ·omega
 ·obtain rfl:i=files.length:=by omega
  obtain ⟨S,T,R,x1,n1,ss1,wt1,out1,rem1,hs1⟩:=X
  obtain rfl:files=rem1:=hrem.symm
  obtain rfl:out1 = []:=hout
  have hhl:hs1.length=files.length:=hI.hl
  have hlk:(hds files).length=files.length:=by unfold hds;simp
  have hRT:R.Less (T.set g ⟨140,ptrs ss files.length,room⟩):=(hI.mw.mg.rl.trans (ar_less hI.mw.mg.ar)).trans (Mem.less_set _ _ _ hfg.1)
  have hsl:SlOf RowR ((T.set g ⟨140,ptrs ss files.length,room⟩).set b18 ⟨46,hs1,files.length⟩) (.slice (some ⟨b18,0,none⟩) (hds files).length (hds files).length) (hds files):=⟨hs1,by rw [hhl,hlk],Sl.own1 (g:=fun x:Value=>x) (r:=⟨_,hs1,files.length⟩) (Mem.own_set_same _ _ _) (by simp) (by rw [hhl,hlk]) (Nat.le_refl _) (by omega),fun i h1 h2=>(hI.all hRT i h1 h2).less (Mem.less_set _ _ _ hf18.1)⟩
  rw [hlk] at hsl
  have hof:=losV_Of (.slice (some ⟨b18,0,none⟩) files.length files.length) (hds files) _ hsl (by omega) (by omega)
  rw [hlk] at hof
  iterate 6 refine s1_ ?_
  refine cF_ ?_
  iterate 8 refine s1_ ?_
  refine ca_ rfl (hof) ?_
  rintro _ S1 ⟨p',q',hp',hq',hqp,rfl,h1'⟩
  rw [h1'];clear h1' S1
  obtain ⟨fp1,fp2⟩:=fresh_set hp'
  obtain ⟨fq1,fq2⟩:=fresh_set hq'
  have hLF:LosF (T.set g ⟨140,ptrs ss files.length,room⟩) b18 q' p':=⟨hf18,fq1,fp1,Ne.symm fq2,Ne.symm fp2,hqp⟩
  have hMI:=MgI.start (rem:=files) (fun r hr=>(hfo r hr).so) hne
  iterate 4 refine s1_ ?_
  refine AWP.loop (X:=MX) (fun X=>[(0,.slice (some ⟨g,0,none⟩) files.length cc),(1,.func (.func 61) #[] #[.pointer (some ⟨bx,0,none⟩)]),(10,.pointer (some ⟨p',0,none⟩))]) (fun X=>losM (X.T.set g ⟨140,ptrs ss files.length,room⟩) b18 q' p' X.hs (treeOf (hds X.rem)) files.length files.length) (fun X=>MrI K a p b c qw bx w files ss wt.nm x.fr.length X files.length∧Fresh X.T g∧LosF (X.T.set g ⟨140,ptrs ss files.length,room⟩) b18 q' p'∧MgI files.flatten X.rem X.out) (fun X=>sumL files+1-X.out.length) (⟨S,T,R,x1,n1,ss1,wt1,[],files,hs1⟩) ⟨rfl,rfl,rfl,trivial⟩ (Mem.Less.refl _) (⟨hI,hfg,hLF,hMI⟩) ?_
  rintro X ⟨hI2,hfg2,hLF2,hM⟩
  (try dsimp only at *)
  clear hI hfg hf18 hRT hsl hLF hMI hp' hq' fp1 fq1
  replace hI2:MrI K a p b c qw bx w files ss wt.nm x.fr.length X files.length:=hI2
  have hrl:=hI2.rl
  have hhl2:=hI2.hl
  have hlk2:(hds X.rem).length=files.length:=by unfold hds;simp [hrl]
  have hRM:X.R.Less (X.T.set g ⟨140,ptrs ss files.length,room⟩):=(hI2.mw.mg.rl.trans (ar_less hI2.mw.mg.ar)).trans (Mem.less_set _ _ _ hfg2.1)
  have hall:=hI2.all hRM
  have hlo:=losM_lo (tr:=treeOf (hds X.rem)) (c:=files.length) hLF2 (by rw [hhl2,hlk2]) hlk2.symm (by omega) (by rw [treeOf_length,hlk2]) (Nat.le_refl _) hall
  have hwin:=losV_Win p' _ _ (hds X.rem) _ losM_own_p hlo (by omega)
  by_cases he:key (hds X.rem) (win (hds X.rem) 1) = []
  ·rw [decide_eq_false (not_not_intro he)] at hwin
   iterate 4 refine s1_ ?_
   refine ca_ rfl (hwin) ?_
   rintro _ S1 ⟨rfl,h1'⟩
   rw [h1'];clear h1' S1
   iterate 14 refine s1_ ?_
   refine cT_ ?_
   iterate 10 refine s1_ ?_
   refine ⟨_,X.T,⟨_,_,rfl,rfl,rfl⟩,(Mem.less_set _ _ _ hfg2.1).trans (losM_less hLF2),?_⟩
   exact ⟨rfl,X,hI2,hfg2,(hM.done (by omega) he).1,hM.os,rfl⟩
  ·rw [decide_eq_true he] at hwin
   obtain ⟨hw,row,rest,er,ek,hM2⟩:=hM.step (by omega) he
   have hwf:win (hds X.rem) 1<files.length:=by omega
   have hwh:win (hds X.rem) 1<X.hs.length:=by omega
   have hrow:=hI2.hr _ hw hwh hwf
   rw [er] at hrow
   have htl:=hI2.tl _ hwf hw
   rw [if_pos hwf,er] at htl
   have hrest:rest=files[win (hds X.rem) 1].drop (X.ss (win (hds X.rem) 1)).k:=htl
   obtain ⟨hro,hlt⟩:=mg_left hM hM2 hw er hfo
   have hnl:=hI2.nl
   have hmul:5*w*(files.length+2*X.out.length+2)≤5*w*(files.length+2*sumL files+2):=Nat.mul_le_mul_left _ (by omega)
   rw [show files.length+2*X.out.length+2=files.length+2*X.out.length+1+1 from rfl,Nat.mul_add,Nat.mul_one,Nat.mul_add,Nat.mul_one] at hmul
   have hput:=losFrame (hs:=X.hs) (tr:=treeOf (hds X.rem)) (k:=files.length) (c:=files.length) (mg_put X.S X.T X.R K a p b c qw bx X.x X.n w files X.ss X.wt X.out X.hs[win (hds X.rem) 1] row hI2.mw hrow hro h1 h8 hlt hs (by omega) (by rw [hI2.xl];exact hm)) hfg2 hLF2
   have OP:=losM_own_p (M:=X.T.set g ⟨140,ptrs ss files.length,room⟩) (b:=b18) (q:=q') (p:=p') (hs:=X.hs) (tr:=treeOf (hds X.rem)) (k:=files.length) (c:=files.length)
   unfold treeB at OP
   have OB:=losM_own_b (hs:=X.hs) (tr:=treeOf (hds X.rem)) (k:=files.length) (c:=files.length) hLF2
   iterate 4 refine s1_ ?_
   refine ca_ rfl (hwin) ?_
   rintro _ S1 ⟨rfl,h1'⟩
   rw [h1'];clear h1' S1
   iterate 14 refine s1_ ?_
   refine k_v6 0 1 10 11 12 47 ?_
   refine cF_ ?_
   iterate 13 refine s1_ ?_
   refine rC (Calm.load ty_plain_46 rfl (v:=X.hs[win (hds X.rem) 1]) (rd_own' OB (by show X.hs[0+((win (hds X.rem) 1:Nat):Int).toNat*1]?=_;rw [show 0+((win (hds X.rem) 1:Nat):Int).toNat*1=win (hds X.rem) 1 from by omega];exact List.getElem?_eq_getElem hwh))) ?_
   refine ARun.callV (lit_lt rfl) go_61 rfl rfl (hput) ?_
   rintro _ S1 ⟨T2,⟨rfl,S2,y2,wt2,hw2,hy2,hMw2⟩,hfg3,hLF3,h1'⟩
   rw [h1'];clear h1' S1
   have hI3:=hI2.put hMw2 hw2 hy2
   have hnx:=losFrame (hs:=X.hs) (tr:=treeOf (hds X.rem)) (k:=files.length) (c:=files.length) (mg_nextA S2 T2 X.R a p b c y2 (X.n+5*w) _ w files X.ss hMw2.mg (win (hds X.rem) 1) hwf (hfo _ (List.getElem_mem hwf)) h1 h8 (by omega) (by split <;> omega) (by rw [hy2,hI2.xl];exact hm)) hfg3 hLF3
   have OG:=losM_own_g (hs:=X.hs) (tr:=treeOf (hds X.rem)) (k:=files.length) (c:=files.length) hLF3
   iterate 6 refine s1_ ?_
   refine rC (Calm.bin rfl rfl Er.neNil) ?_
   iterate 2 refine s1_ ?_
   refine cF_ ?_
   iterate 7 refine s1_ ?_
   refine rC (Calm.load ty_plain_140 rfl (v:=self (X.ss (win (hds X.rem) 1)).sb) (rd_own' OG (by have:=ptrs_sb hI2.sb files.length hwf;rw [show 0+((win (hds X.rem) 1:Nat):Int).toNat*1=win (hds X.rem) 1 from by omega];exact this))) ?_
   refine ca_ rfl (hnx) ?_
   rintro _ S1 ⟨T3,⟨v3,S3,R3,y3,s',rfl,hk,hN⟩,hfg4,hLF4,h1'⟩
   rw [h1'];clear h1' S1
   iterate 11 refine s1_ ?_
   refine rC (Calm.bin rfl rfl Er.neNil) ?_
   iterate 2 refine s1_ ?_
   have hI4:=hI3.next (m':=files.length) hwf hw hN hk (.inl ⟨rfl,hwf⟩) (by show X.n+5*w+5*w≤5*w*(files.length+2*(X.out ++ [row]).length);rw [List.length_append,List.length_singleton,show files.length+2*(X.out.length+1)=files.length+2*X.out.length+1+1 from by omega,Nat.mul_add,Nat.mul_one,Nat.mul_add,Nat.mul_one];omega)
   have hR3:=(hI4.mw.mg.rl.trans (ar_less hI4.mw.mg.ar)).trans (Mem.less_set T3 _ ⟨140,ptrs ss files.length,room⟩ hfg4.1)
   have hrep:=losV_Replace b18 q' p' (hds X.rem) X.hs files.length files.length _ v3 _ hLF4 (by rw [hhl2,hlk2]) hlk2.symm hl1 hl2 (Nat.le_refl _) (hI2.all (hN.rr.trans hR3)) (hN.row.less hR3)
   refine cF_ ?_
   iterate 5 refine s1_ ?_
   refine ca_ rfl (hrep) ?_
   rintro _ S1 h1'
   rw [h1'];clear h1' S1
   rw [hrest] at hM2
   iterate 3 refine s1_ ?_
   refine ⟨⟨S3,T3,R3,y3,X.n+5*w+5*w,upd X.ss (win (hds X.rem) 1) s',wt2,X.out ++ [row],X.rem.set (win (hds X.rem) 1) (files[win (hds X.rem) 1].drop (X.ss (win (hds X.rem) 1)).k),X.hs.set (win (hds X.rem) 1) v3⟩,?_,?_,?_,?_⟩
   all_goals (try dsimp only)
   ·exact ⟨rfl,rfl,rfl,trivial⟩
   ·(rw [hds_set];exact Mem.Less.refl _)
   ·exact ⟨hI4,hfg4,hLF4,hM2⟩
   ·(rw [List.length_append];show sumL files+1-(X.out.length+1)<sumL files+1-X.out.length;omega)
end Sto
end
section
open Go.RowKit
open Mv Disk Num Loser
set_option maxRecDepth 4000
namespace Sto
set_option maxHeartbeats 4000000 in
theorem mg_open (S:Mem) (a p b c wk bw bs_:Nat) (u:W5) (tm:Value) (x:Pl) (s:ByteArray) (w ct n B:Nat) (T:Mem) (h:ArS S a p b c x T) (hwk:S.own wk=some (wkB a u tm)) (hbw:S.own bw=some ⟨66,[self wk],1⟩) (hbs:S.own bs_=some ⟨9,[.string s],1⟩) (hp:Ps x n) (hs:nm s) (h0:ns x.d s=0) (hw:w≤8) (hct:ct≤65536) (hr:(used x.d.ext:Int)+(Rec.needN w ct:Nat)≤x.d.size) (hB:Sto.nb x.fr≤B) :
  ACall Tryz.prog 27 #[.int .i64 (w:Nat),.int .u64 (ct:Nat),.pointer (some ⟨bw,0,none⟩),.pointer (some ⟨bs_,0,none⟩)] T fun v T'=>∃ q y,v = .tuple #[self q,.nilIface]∧Fresh S q∧WtS (S.set q (wtB a ⟨s,w,0,0,0,0⟩)) a p b c q ⟨s,w,0,0,0,0⟩ y n B [] T'∧Made x y s (Rec.needN w ct):=by
 have hto:=fl_To S a p b c wk u tm x s w ct n B T h hwk hp hs h0 hw hct hr hB
 have o1:=ar_own0 h hbw
 have o2:=ar_own0 h hbs
 refine k_E4 (rs:=[.tmp 6,.tmp 7]) 15 Tryz.func27 rfl rfl rfl ?_
 iterate 12 refine s1_ ?_
 refine ca_ rfl (hto) ?_
 rintro _ T1 ⟨q,y,rfl,k1,k2,k3⟩
 iterate 7 refine s1_ ?_
 refine ⟨_,T1,⟨_,_,rfl,⟨_,_,rfl,rfl,rfl⟩,rfl⟩,less_,?_⟩
 exact ⟨q,y,rfl,k1,k2,k3⟩
theorem MgS.made {S T S' T':Mem} {a p b c:Nat} {x y:Pl} {n w m:Nat} {files:List (List (List Nat))} {ss:Nat→Sc} {s:ByteArray} (h:MgS S T (noMem S) a p b c x n 0 w files ss) (hA:ArS S' a p b c y T') (hp:Ps y n) (hM:Made x y s m) (hl:S.Less S') (hn:∀ i,i<files.length→(ss i).r.nm≠s):MgS S' T' (noMem S') a p b c y n 0 w files ss where
 ar:=hA
 ps:=hp
 s1:=fun i hi=>by
  have g:=h.s1 i hi
  obtain ⟨last,l1,l2⟩:=g.lv
  exact ⟨hl.own g.oq,hl.own g.os,g.us.fr_ hM.fr,g.hs.made hM (hn i hi),g.wd,g.ct,g.at_,g.le,⟨last,l1.less ⟨fun _ _ h=>(by cases h),hl.2⟩,l2⟩,rfl,rfl⟩
 nb:=by rw [hM.fr];exact h.nb
 df:=h.df
 rl:=⟨fun _ _ h=>(by cases h),rfl⟩
theorem MwS.start {S T K:Mem} {a p b c qw bx:Nat} {x y:Pl} {w:Nat} {files:List (List (List Nat))} {ss:Nat→Sc} {s:ByteArray} (h:MgS S T (noMem S) a p b c x 0 0 w files ss) (hn:∀ i,i<files.length→(ss i).r.nm≠s) (hM:Made x y s (Rec.needN w (sumL files))) (hq:S.own qw=none) {T1:Mem} (hW:WtS (S.set qw (wtB a ⟨s,w,0,0,0,0⟩)) a p b c qw ⟨s,w,0,0,0,0⟩ y 0 0 [] T1) (hb:Fresh T1 bx) (hK:K.Less S) (hKn:∀ t,OfSc files.length ss t→K.own t=none) :
  MwS ((S.set qw (wtB a ⟨s,w,0,0,0,0⟩)).set bx (bxB qw)) (T1.set bx (bxB qw)) (noMem ((S.set qw (wtB a ⟨s,w,0,0,0,0⟩)).set bx (bxB qw))) K a p b c qw bx y 0 w files ss ⟨s,w,0,0,0,0⟩ []:=by
 obtain ⟨k1,k2⟩:=ar_new hW.ar hb (bxB qw)
 have hqb:qw≠bx:=k1.ne (Mem.own_set_same _ _ _)
 have hl:S.Less ((S.set qw (wtB a ⟨s,w,0,0,0,0⟩)).set bx (bxB qw)):=(Mem.less_set _ _ _ hq).trans (Mem.less_set _ _ _ k1.1)
 refine ⟨by have:=h.made (S':=(S.set qw (wtB a ⟨s,w,0,0,0,0⟩)).set bx (bxB qw)) k2 hW.ps hM hl hn;exact this,(Mem.own_set_other _ _ hqb).trans (Mem.own_set_same _ _ _),Mem.own_set_same _ _ _,hW.us,rfl,rfl,rfl,hW.wr,fun r hr=>(by cases hr),hn,rfl,by show Sto.ns y.d s=_;rw [hM.n,if_pos rfl],hK.trans hl,fun t ht=>ht.elim (hKn t) (fun e=>?_)⟩
 cases e2:K.own t with
 | none=>rfl
 | some k =>
  have:=hK.own e2
  rw [e,hq] at this;cases this
theorem sealed_file {x y:Pl} {wt:Wt} {w B:Nat} {out:List (List Nat)} {s:ByteArray} (h1:1≤w) (hr:RowsOK w out) (h:Sealed x y wt.nm wt.w wt.ct B (out.flatMap recB)) (hw:wt.w=w) (hc:wt.ct=out.length) (hs:wt.nm=s) (hn:ns x.d wt.nm=Rec.needN w out.length):Rec.FileR y.d s w out.length (bs (out.flatMap recB)):=by
 rw [hs,hw,hc] at h
 rw [hs] at hn
 exact file_of h.ps h.cl ⟨(h.st.n s).trans hn,h.hd,h.wr,rows_len h1 hr⟩
set_option maxHeartbeats 8000000 in
theorem mg_Into (S0 K:Mem) (a p b c wk bw bs_:Nat) (u:W5) (tm:Value) (x0:Pl) (w m:Nat) (T0:Mem) (vn:Value) (s:ByteArray) (nms:List ByteArray) (files:List (List (List Nat))) (eu:TypeId) (ev:Value) (h:ArS S0 a p b c x0 T0) (hwk:S0.own wk=some (wkB a u tm)) (hbw:S0.own bw=some ⟨66,[self wk],1⟩) (hbs:S0.own bs_=some ⟨9,[.string s],1⟩) (hx:x0.fr=blk 0 m) (hd:Dw x0.d 0) (hm1:24≤m) (hm2:m≤256) (hK:K.Less S0) (hn:Sl 1 strs K vn nms) (hE:K.Knows ⟨0,0,none⟩ [.iface eu ev]) (hl:nms.length=files.length)
  (hF:∀ j (h:j<files.length) (h':j<nms.length),Rec.FileR x0.d nms[j] w files[j].length (bs (files[j].flatMap recB))) (hfo:∀ f ∈ files,FileOK w f) (hdn:∀ i j (h:i<nms.length) (h':j<nms.length),i≠j→nms[i]≠nms[j]) (hns:∀ s' ∈ nms,s'.size≤1024∧s'≠s) (h1:1≤w) (h8:w≤8) (hs:sumL files≤65536) (hl1:1≤files.length) (hfl:files.length+6≤m) (hsn:nm s) (hs0:ns x0.d s=0) (hr:(used x0.d.ext:Int)+(Rec.needN w (sumL files):Nat)≤x0.d.size) (hnn:5*w*(files.length+2*sumL files+2)+512≤16384) (hkw:K.own wk=some (wkB a u tm)) :
  ACall Tryz.prog 26 #[self wk,vn,.func (.func 27) #[] #[.pointer (some ⟨bw,0,none⟩),.pointer (some ⟨bs_,0,none⟩)]] T0 fun v T'=>v = .nilIface ∧ ∃ Z y out,ArS Z a p b c y T'∧K.Less Z∧Ps y 0∧out.Perm files.flatten∧SortedR out∧Rec.FileR y.d s w out.length (bs (out.flatMap recB)):=by
 have hso:=mg_sources S0 K a p b c wk u tm x0 w m T0 vn nms files h hwk hx hd (by omega) hm2 hK hn hl hF hfo hdn (fun s' h=>(hns s' h).1) h1 h8 hs (by omega)
 obtain ⟨pn,cn,rfl,_⟩:=id hn
 refine k_E3 (rs:=[.tmp 6]) 52 Tryz.func26 rfl rfl rfl ?_
 iterate 9 refine s1_ ?_
 refine ca_ rfl (hso) ?_
 rintro _ S1 ⟨⟨S,T,x,ss,i9,o⟩,rfl,h1',hI⟩
 rw [h1'];clear h1' S1
 dsimp only at hI ⊢
 clear i9
 obtain ⟨g,gc,rfl⟩:=hI.oo.some hl1
 obtain ⟨hg,hgc⟩:=hI.oo.own g gc rfl
 have hmg:=hI.mg
 rw [List.take_length] at hmg
 have hKn:∀ t,OfSc files.length ss t→K.own t=none:=fun t ht=>by
  obtain ⟨j,hj,ht⟩:=ht
  obtain ⟨_,_,z1,z2⟩:=hI.st j hj
  cases e:K.own t with
  | none=>rfl
  | some k =>
   have:=hK.own e
   rcases ht with ht | ht
   ·rw [ht,z1] at this;cases this
   ·rw [ht,z2] at this;cases this
 have hnn2:∀ i,i<files.length→(ss i).r.nm≠s:=fun i hi=>by
  rw [(hI.st i hi).2.1,List.getD_eq_getElem?_getD,List.getElem?_eq_getElem (by omega)]
  exact (hns _ (List.getElem_mem (by omega))).2
 have hop:=(mg_open S a p b c wk bw bs_ u tm x s w (sumL files) 0 0 T hmg.ar (hI.sl.own hwk) (hI.sl.own hbw) (hI.sl.own hbs) hmg.ps hsn (by rw [hI.xd];exact hs0) h8 hs (by rw [hI.xd];exact hr) (by rw [hI.xf,hx,blk_nb];exact Nat.le_refl _)).frame (r:=⟨140,ptrs ss files.length,gc*1⟩) hg
 have g0:=hmg.s1 0 hl1
 have oq0:=ar_own0 hmg.ar g0.oq
 have os0:=ar_own0 hmg.ar g0.os
 have hw0:=g0.wd
 unfold rdB at oq0
 unfold srB at os0
 rw [hw0] at oq0
 have m2:=(Mem.own_set_other T ⟨140,ptrs ss files.length,gc*1⟩ (hg.ne oq0)).trans oq0
 have m3:=(Mem.own_set_other T ⟨140,ptrs ss files.length,gc*1⟩ (hg.ne os0)).trans os0
 have n2:=hg.ne oq0
 have n3:=hg.ne os0
 iterate 9 refine s1_ ?_
 refine AWP.less (T.set g ⟨140,ptrs ss files.length,gc*1⟩) (Mem.Less.refl _) ?_
 iterate 4 refine s1_ ?_
 refine rC (Calm.bin rfl rfl Er.neNil) ?_
 iterate 2 refine s1_ ?_
 refine cF_ ?_
 iterate 7 refine s1_ ?_
 refine rC (Calm.load ty_plain_140 rfl (v:=self (ss 0).sb) (rd_own' (Mem.own_set_same _ _ _) (by have:=ptrs_sb (ss:=ss) (ss0:=ss) (fun _=>rfl) files.length hl1;exact this))) ?_
 iterate 7 refine s1_ ?_
 refine ARun.callV (lit_lt rfl) go_27 rfl rfl (hop) ?_
 rintro _ S1 ⟨T1,⟨qw,y,rfl,hqw,hW,hMd⟩,hg1,h1'⟩
 rw [h1'];clear h1' S1
 iterate 3 refine s1_ ?_
 refine ARun.alloc (lit_lt rfl) ty_zero_77 ?_
 intro b10 f10
 have g10:=f10
 repeat ((with_reducible replace g10:=fresh_set g10);obtain ⟨g10,_⟩:=g10)
 refine nl_ ?_
 iterate 4 refine s1_ ?_
 obtain ⟨hb1,hbg⟩:=fresh_set f10
 have hMw:=MwS.start hmg hnn2 hMd hqw.1 hW hb1 (hK.trans hI.sl) hKn
 have hg2:Fresh (T1.set b10 (bxB qw)) g:=fresh_more hg1 (Ne.symm hbg)
 refine AWP.less ((T1.set b10 (bxB qw)).set g ⟨140,ptrs ss files.length,gc*1⟩) (by rw [Mem.set_comm _ _ _ hbg];exact Mem.Less.refl _) ?_
 have hyl:y.fr.length=m:=by rw [hMd.fr,hI.xf,hx,blk_len];omega
 have hru:=mg_run _ (T1.set b10 (bxB qw)) K a p b c qw b10 y w files ss ⟨s,w,0,0,0,0⟩ g gc (gc*1) hMw hg2 (fun j hj=>(hI.st j hj).1) hfo h1 h8 hs hl1 (by omega) (by omega) (by omega)
 clear hMw hop hso
 iterate 4 refine s1_ ?_
 refine rC (Calm.bin rfl rfl Er.neNil) ?_
 iterate 2 refine s1_ ?_
 refine cF_ ?_
 iterate 6 refine s1_ ?_
 refine ca_ rfl (hru) ?_
 rintro _ T2 ⟨rfl,⟨S2,T3,R2,x2,n2,ss2,wt2,out2,rem2,hs2⟩,hX,hgX,hpm,hso2,h1'⟩
 dsimp only at hgX hpm hso2 h1'
 subst h1'
 have hM2:=hX.mw
 have hx2:x2.fr.length=y.fr.length:=hX.xl
 have hn2:n2≤5*w*(files.length+2*out2.length):=hX.nl
 have hwn2:wt2.nm=s:=hX.wn
 dsimp only at hM2
 have hE2:=hE.less (hM2.kb.trans (ar_less hM2.mg.ar))
 have ob:=ar_own0 hM2.mg.ar hM2.ob
 unfold bxB at ob
 have hol:out2.length=sumL files:=by rw [hpm.length_eq,List.length_flatten];rfl
 have hw2:=hM2.wd
 have hmu:5*w*(files.length+2*out2.length)≤5*w*(files.length+2*sumL files+2):=Nat.mul_le_mul_left _ (by omega)
 have hse:=wt_Seal S2 a p b c qw wt2 x2 n2 _ (out2.flatMap recB) T2 (hM2.wts h1) (by rw [hw2];exact h1) (by rw [hw2];exact h8) (by rw [hM2.ct];omega) (by omega) (by rw [hM2.ns];exact Rec.needN_pos _ _)
 iterate 3 refine s1_ ?_
 refine k_v10 0 1 2 6 7 8 9 19 10 37 ?_
 iterate 5 refine s1_ ?_
 refine ca_ rfl (Er.isNil eu ev _) ?_
 rintro _ S1 ⟨rfl,h1'⟩
 rw [h1'];clear h1' S1
 iterate 2 refine s1_ ?_
 refine cF_ ?_
 iterate 6 refine s1_ ?_
 refine rC (Calm.bin rfl rfl Er.neNil) ?_
 iterate 2 refine s1_ ?_
 refine cF_ ?_
 iterate 5 refine s1_ ?_
 refine ca_ rfl (hse) ?_
 rintro _ T3 ⟨rfl,y3,hA3,hS3⟩
 refine ca_ rfl (fl_Fail _ _) ?_
 rintro _ S1 ⟨rfl,h1'⟩
 rw [h1'];clear h1' S1
 have hfile:=sealed_file h1 hM2.ok hS3 hw2 hM2.ct hwn2 (by rw [hM2.ns,hol])
 iterate 4 refine s1_ ?_
 refine ⟨_,T3,⟨_,_,rfl,rfl,rfl⟩,less_,?_⟩
 exact ⟨rfl,_,y3,out2,hA3,less_set_skip hM2.kb (hM2.kn qw (.inr rfl)),hS3.ps,hpm,hso2,hfile⟩
end Sto
end
section
open Go.RowKit
open Mv Disk Num Loser
set_option maxRecDepth 4000
namespace Sto
theorem mg_Fan (m:Nat) (S:Mem) (h1:24≤m) (h2:m≤256):ACall Tryz.prog 24 #[.int .i64 (m:Nat)] S fun r S'=>r = .tuple #[.int .i64 ((m-6:Nat):Int),.int .i64 0]∧S'=S:=by
 refine k_E1 (rs:=[.tmp 2,.tmp 3]) 12 Tryz.func24 rfl rfl rfl ?_
 iterate 15 refine s1_ ?_
 refine cF_ ?_
 iterate 7 refine s1_ ?_
 refine cF_ ?_
 iterate 12 refine s1_ ?_
 refine ⟨_,S,⟨_,_,rfl,⟨_,_,rfl,rfl,rfl⟩,rfl⟩,less_,?_⟩
 exact ⟨by rw [show ((m-6:Nat):Int)=(m:Int)-6 from by omega];rfl,rfl⟩
theorem only_less {S T:Mem} {b:Nat} {k:Blk} (h:T.own b=some k) (hr:S.ro=T.ro):((noMem S).set b k).Less T:=⟨fun t j ht=>by
 by_cases e:t=b
 ·subst e;rw [Mem.own_set_same] at ht;rw [h];exact ht
 ·rw [Mem.own_set_other _ _ e] at ht;exact absurd ht (by simp [noMem]),hr⟩
set_option maxHeartbeats 8000000 in
theorem mg_Merge (v:Value) (d:D) (w m:Nat) (s:ByteArray) (vn:Value) (nms:List ByteArray) (files:List (List (List Nat))) (S:Mem) (eu:TypeId) (ev:Value) (hdk:DkR S v d) (hz:Dz d) (ho:openD d=(d,0)) (hd:Dw d 0) (hm1:24≤m) (hm2:m≤256) (hn:Sl 1 strs S vn nms) (hE:S.Knows ⟨0,0,none⟩ [.iface eu ev]) (hl:nms.length=files.length)
  (hF:∀ j (h:j<files.length) (h':j<nms.length),Rec.FileR d nms[j] w files[j].length (bs (files[j].flatMap recB))) (hfo:∀ f ∈ files,FileOK w f) (hdn:∀ i j (h:i<nms.length) (h':j<nms.length),i≠j→nms[i]≠nms[j]) (hns:∀ s' ∈ nms,s'.size≤1024∧s'≠s) (h1:1≤w) (h8:w≤8) (hs:sumL files≤65536) (hl1:1≤files.length) (hfl:files.length+6≤m) (hsn:nm s) (hs0:ns d s=0) (hr:(used d.ext:Int)+(Rec.needN w (sumL files):Nat)≤d.size) (hnn:5*w*(files.length+2*sumL files+2)+512≤16384) :
  ACall Tryz.prog 10 #[v,.int .i64 (m:Nat),.string s,vn] S fun r T=>∃ dv y out c1 c2 c3,r = .tuple #[dv,.agg #[.int .u64 c1,.int .u64 c2,.int .i64 c3],.int .i64 0]∧S.Less T∧DkR T dv (Pl.d y)∧Dw y.d 0∧out.Perm files.flatten∧SortedR out∧Rec.FileR y.d s w out.length (bs (out.flatMap recB)):=by
 have hb:=fun M h=>fl_Begin v d m M (DkR.less hdk h) hz ho hm1 hm2
 have hfan:=fun M=>mg_Fan m M hm1 hm2
 obtain ⟨pe,ce,pw,cw,rfl,_,_⟩:=id hdk
 obtain ⟨pn,cn,rfl,_⟩:=id hn
 refine k_E4 (rs:=[.cell 8 28,.cell 9 35,.tmp 10]) 58 Tryz.func10 rfl rfl rfl ?_
 iterate 2 refine s1_ ?_
 refine k_b5 rfl ?_
 intro b4 f4
 have g4:=f4
 repeat ((with_reducible replace g4:=fresh_set g4);obtain ⟨g4,_⟩:=g4)
 refine nl_ ?_
 refine ARun.box1 (lit_lt rfl) rfl rfl ?_
 intro b6 f6
 have g6:=f6
 repeat ((with_reducible replace g6:=fresh_set g6);obtain ⟨g6,_⟩:=g6)
 refine nl_ ?_
 refine ARun.alloc (lit_lt rfl) ty_zero_28 ?_
 intro b8 f8
 have g8:=f8
 repeat ((with_reducible replace g8:=fresh_set g8);obtain ⟨g8,_⟩:=g8)
 refine nl_ ?_
 refine ARun.alloc (lit_lt rfl) ty_zero_35 ?_
 intro b9 f9
 have g9:=f9
 repeat ((with_reducible replace g9:=fresh_set g9);obtain ⟨g9,_⟩:=g9)
 refine nl_ ?_
 iterate 7 refine s1_ ?_
 refine ca_ rfl (((hb _ ((Mem.less_set S b4 _ f4.1).trans (Mem.less_set _ b6 _ f6.1))).frame (r:=⟨28,[.int .i64 0,.slice none 0 0,.slice none 0 0,.int .i64 0,.bool false],5⟩) f8).frame (r:=⟨35,[.int .u64 0,.int .u64 0,.int .i64 0],3⟩) f9) ?_
 rintro _ S1 ⟨Sa,⟨T1,⟨S0,wk,a,p,b,u,rfl,hS0,hw0,hA⟩,f8a,hSa⟩,f9a,h1'⟩
 rw [h1',hSa];rw [hSa] at f9a;clear h1' S1 hSa Sa
 iterate 3 refine s1_ ?_
 refine ARun.alloc (lit_lt rfl) ty_zero_66 ?_
 intro b11 f11
 have g11:=f11
 repeat ((with_reducible replace g11:=fresh_set g11);obtain ⟨g11,_⟩:=g11)
 refine nl_ ?_
 iterate 4 refine s1_ ?_
 obtain ⟨hk1,hn9⟩:=fresh_set f11
 obtain ⟨hk2,hn8⟩:=fresh_set hk1
 obtain ⟨j1,j2⟩:=ar_new hA hk2 ⟨66,[self wk],1⟩
 have f8b:Fresh (T1.set b11 ⟨66,[self wk],1⟩) b8:=fresh_more f8a (Ne.symm hn8)
 obtain ⟨f9c,n98⟩:=fresh_set f9a
 have f9b:Fresh ((T1.set b11 ⟨66,[self wk],1⟩).set b8 ⟨28,[.int .i64 0,.slice none 0 0,.slice none 0 0,.int .i64 0,.bool false],5⟩) b9:=fresh_more (fresh_more f9c (Ne.symm hn9)) n98
 refine AWP.less (((T1.set b11 ⟨66,[self wk],1⟩).set b8 ⟨28,[.int .i64 0,.slice none 0 0,.slice none 0 0,.int .i64 0,.bool false],5⟩).set b9 ⟨35,[.int .u64 0,.int .u64 0,.int .i64 0],3⟩) (by rw [Mem.set_comm _ _ _ hn8,Mem.set_comm _ _ _ hn9];exact Mem.Less.refl _) ?_
 have hwkw:wk≠b11:=j1.ne (Mem.own_set_same S0 wk (wkB a u (.slice none 0 0)))
 have hSK:S.Less ((S0.set wk (wkB a u (.slice none 0 0))).set b11 ⟨66,[self wk],1⟩):=((((Mem.less_set S b4 _ f4.1).trans (Mem.less_set _ b6 _ f6.1)).trans hS0).trans (Mem.less_set _ _ _ hw0.1)).trans (Mem.less_set _ _ _ j1.1)
 have hb6:=((hS0.trans (Mem.less_set _ wk (wkB a u (.slice none 0 0)) hw0.1)).trans (Mem.less_set _ b11 ⟨66,[self wk],1⟩ j1.1)).own (Mem.own_set_same (S.set b4 _) b6 _)
 have hin:=((mg_Into _ ((S0.set wk (wkB a u (.slice none 0 0))).set b11 ⟨66,[self wk],1⟩) a p b m wk b11 b6 u (.slice none 0 0) (newP d m) w m _ (.slice pn nms.length cn) s nms files eu ev j2 ((Mem.own_set_other _ _ hwkw).trans (Mem.own_set_same _ _ _)) (Mem.own_set_same _ _ _) hb6 rfl hd hm1 hm2 (Mem.Less.refl _) (hn.less hSK) (hE.less hSK) hl hF hfo hdn hns h1 h8 hs hl1 hfl hsn hs0 hr hnn ((Mem.own_set_other _ _ hwkw).trans (Mem.own_set_same _ _ _))).frame (r:=⟨28,[.int .i64 0,.slice none 0 0,.slice none 0 0,.int .i64 0,.bool false],5⟩) f8b).frame (r:=⟨35,[.int .u64 0,.int .u64 0,.int .i64 0],3⟩) f9b
 iterate 4 refine s1_ ?_
 refine rC (Calm.bin rfl rfl Er.neNil) ?_
 iterate 2 refine s1_ ?_
 refine cF_ ?_
 iterate 5 refine s1_ ?_
 refine ca_ rfl (hfan _) ?_
 rintro _ S1 ⟨rfl,h1'⟩
 rw [h1'];clear h1' S1
 iterate 21 refine s1_ ?_
 refine cF_ ?_
 obtain ⟨M1,o1,hM1,hn8',hn9'⟩ : ∃ M1:Mem,M1.own b11=some ⟨66,[self wk],1⟩∧(∀ T:Mem,T.own b11=some ⟨66,[self wk],1⟩→S.ro=T.ro→M1.Less T)∧M1.own b8=none∧M1.own b9=none:=⟨(noMem S).set b11 ⟨66,[self wk],1⟩,Mem.own_set_same _ _ _,fun T h hr=>only_less h hr,Mem.own_set_other _ _ (Ne.symm hn8),Mem.own_set_other _ _ (Ne.symm hn9)⟩
 have hM0:M1.Less (T1.set b11 ⟨66,[self wk],1⟩):=hM1 _ (Mem.own_set_same _ _ _) (hSK.trans (ar_less j2)).2
 iterate 3 refine s1_ ?_
 refine AWP.drawS (M1) less_ [(0,true),(1,true),(2,true),(3,true),(4,false),(5,false),(6,true),(7,true),(8,true),(9,false),(10,false),(11,true)] [] mixed (by kernel_rfl) ?_
 iterate 4 refine s1_ ?_
 refine draw_only rfl ?_
 refine ca_ rfl (hin) ?_
 rintro _ S1 ⟨Sa,⟨T2,⟨rfl,Z,y,out,hAz,hKz,hpz,hpm,hso,hfi⟩,f8c,hSa⟩,f9d,h1'⟩
 rw [h1',hSa];rw [hSa] at f9d;clear h1' S1 hSa Sa
 have o11:=ar_own0 hAz (hKz.own (Mem.own_set_same _ _ _))
 have hM2:M1.Less T2:=hM1 T2 o11 (((hSK.trans hKz).trans (ar_less hAz)).2)
 refine arun_nil ⟨fun _=>less_,?_⟩
 refine draw_only rfl ?_
 refine ca_ rfl (((fl_End Z a p b m wk u (.slice none 0 0) y 0 T2 hAz (hKz.own ((Mem.own_set_other _ _ hwkw).trans (Mem.own_set_same _ _ _))) hpz).frame (r:=⟨28,[.int .i64 0,.slice none 0 0,.slice none 0 0,.int .i64 0,.bool false],5⟩) f8c).frame (r:=⟨35,[.int .u64 0,.int .u64 0,.int .i64 0],3⟩) f9d) ?_
 rintro _ S1 ⟨Sa,⟨T3,⟨dv,c1,c2,c3,rfl,hdk3,hT3⟩,f8d,hSa⟩,f9e,h1'⟩
 rw [h1',hSa];rw [hSa] at f9e;clear h1' S1 hSa Sa
 have hM3:M1.Less T3:=hM2.trans hT3
 obtain ⟨pe3,ce3,pw3,cw3,rfl,_,_⟩:=id hdk3
 obtain ⟨g9,_⟩:=fresh_set f9e
 have hTT:=((hSK.trans hKz).trans (ar_less hAz)).trans hT3
 refine arun_nil ⟨fun _=>less_,?_⟩
 iterate 3 refine s1_ ?_
 refine draw_only rfl ?_
 refine s1_ ?_
 refine arun_nil ⟨fun _=>less_,?_⟩
 refine draw_only rfl ?_
 refine s1_ ?_
 refine arun_nil ⟨fun _=>less_,?_⟩
 iterate 3 refine s1_ ?_
 refine k_v14 0 1 2 3 4 6 8 9 10 11 12 22 13 42 ?_
 refine s1_ ?_
 refine ⟨_,_,⟨_,_,_,rfl,.inr ⟨ty_agg_28,[_,_,_,_,_],ty_size_28,rds_,rfl⟩,⟨_,_,_,rfl,.inr ⟨ty_agg_35,[_,_,_],ty_size_35,rds_,rfl⟩,⟨_,_,rfl,rfl,rfl⟩,rfl⟩,rfl⟩,Mem.Less.refl _,?_⟩
 exact ⟨_,y,out,c1,c2,c3,rfl,hTT.trans less_,hdk3.less less_,hpz.d,hpm,hso,hfi⟩
end Sto
end
section
open Go.RowKit
open Mv Disk Num
namespace Top
open Rec Sto Run
theorem put_dw {d:D} {s:ByteArray} {w c:Nat} {body:ByteArray} (hd:Dw d 0) (hs:nm s) (h0:Sto.ns d s=0) (hr:(used d.ext:Int)+(needN w c:Nat)≤d.size) (hb:body.size=eachN w*c) (hn:needN w c≤16384) :
  ∃ z,putP d s w c body=(z,0)∧Dw z 0∧z.size=d.size∧used z.ext=used d.ext+needN w c ∧ ∀ o,Sto.ns z o=if s=o then needN w c else Sto.ns d o:=by
 have hn1:=needN_pos w c
 obtain ⟨e,e1,e2,e3,e4,e5,_,_⟩:=new_ok hd hs h0 hn1 hr
 have hes:Sto.ns e s=needN w c:=by rw [e5,if_pos rfl]
 have hh:has e.ext s=true:=(ns_has e2 s).2 (by omega)
 have hsec:sec (exOf e.ext s)=needN w c:=by
  have:=hes
  unfold Sto.ns at this
  rwa [if_pos hh] at this
 have hw:e.waits = []:=List.eq_nil_of_length_eq_zero (by have:=e2.w;omega)
 have hall:(padS body).size=64*(needN w c-1):=by rw [padS_size,hb];unfold needN;omega
 have hp:=putTo_free e2.f hw hh hsec hn hall (needN w c-1) (by omega)
 have hRp:=(putTo_keep e2.r e2.u (by rw [e2.f];decide) s (padS body) (needN w c-1)).1
 unfold putP
 rw [e1,if_neg (by simp),hp,if_neg (by simp)]
 rw [hp] at hRp
 simp only at hRp ⊢
 have hD:Dw { e with waits:=secsW s (padS body) (needN w c-1) } (needN w c-1):=⟨hRp,e2.f,e2.u,by show (secsW s (padS body) (needN w c-1)).length≤_;unfold secsW;simp⟩
 obtain ⟨s1,s2,s3,s4,_⟩:=settle_ok hD
 obtain ⟨f,f1,f2,f3,f4,f5,_⟩:=write_ok0 s1 (by decide) (k:=0) (s:=s) (data:=headS w c) (by rw [s4];show 0<Sto.ns e s;omega) (head_size w c)
 obtain ⟨t1,t2,t3,t4,_⟩:=settle_ok f2
 have f1:writeD (settleD { e with waits:=secsW s (padS body) (needN w c-1) } fun _=>true) s 0 (headS w c)=(f,0):=f1
 refine ⟨_,?_,t1,t2.trans (f3.trans (s2.trans e3)),t3.trans ((congrArg used f4).trans (s3.trans e4)),fun o=>(t4 o).trans ((f5 o).trans ((s4 o).trans (e5 o)))⟩
 unfold sealD
 rw [f1,if_pos rfl]
theorem file_fresh {n:Int} {s:ByteArray} {w:Nat} {l:List (List Nat)} (h0:0≤n) (hn:n≤16384) (hs:nm s) (h1:1≤w) (h8:w≤8) (hl:l.all (rowOK w)=true) (hc:40*l.length+127≤64*n) :
  ∃ z,writeP (freshD n) s w l=(z,0)∧Dw z 0∧z.size=n∧used z.ext=needN w l.length∧(∀ o,o≠s→Sto.ns z o=0)∧FileR z s w l.length (bs (l.flatMap recB)):=by
 have ha:=row_all hl
 have hbody:(bs (l.flatMap recB)).size=eachN w*l.length:=by
  show (bs (recsB l)).size=_
  rw [size_bs,recsB_length l w fun x hx=>(ha x hx).1]
  unfold eachN
  rw [if_neg (by omega),Nat.mul_comm]
 have hneed:64*needN w l.length≤64+(40*l.length+63):=by
  have:=Nat.mul_le_mul_right l.length (eachN_le h8)
  unfold needN;omega
 have hd:Dw (freshD n) 0:=⟨right_fresh h0 hn,rfl,rfl,Nat.le_refl _⟩
 obtain ⟨z,z1,z2,z3,z4,z5⟩:=put_dw (s:=s) (w:=w) (c:=l.length) (body:=bs (l.flatMap recB)) hd hs rfl (by show ((0:Nat):Int)+_≤n;omega) hbody (by omega)
 have hw:writeP (freshD n) s (w:Int) l=putP (freshD n) s w l.length (bs (l.flatMap recB)):=by
  unfold writeP
  rw [if_neg (by omega),Int.toNat_natCast,if_pos hl,opened_ok (right_fresh h0 hn) rfl]
 obtain ⟨z',y1,_,_,_,_,_,_,_,_,y6,_⟩:=write_yes (d:=freshD n) (s:=s) (w:=(w:Int)) (l:=l) (by show (-1:Int)≤_;decide) (by rw [hw,z1])
 rw [hw,z1] at y1
 obtain rfl:z=z':=congrArg Prod.fst y1
 rw [Int.toNat_natCast] at y6
 refine ⟨z,hw.trans z1,z2,z3,z4.trans (Nat.zero_add _),fun o ho=>?_,y6⟩
 rw [z5,if_neg (Ne.symm ho)];rfl
theorem rowsOK_all {w:Nat} {l:List (List Nat)} (h:l.all (rowOK w)=true):RowsOK w l:=fun r hr=>by
 have h1:=(List.all_eq_true.1 h) r hr
 unfold rowOK recOK at h1
 simp only [Bool.and_eq_true,decide_eq_true_eq,List.all_eq_true] at h1
 exact ⟨h1.2,fun n hn=>h1.1.2 n hn⟩
theorem all_perm {w:Nat} {l l':List (List Nat)} (h:l.all (rowOK w)=true) (hp:l'.Perm l):l'.all (rowOK w)=true:=by
 rw [List.all_eq_true] at h ⊢
 exact fun x hx=>h x (hp.mem_iff.1 hx)
theorem sum_flat (files:List (List (List Nat))):sumL files=files.flatten.length:=by
 unfold sumL
 rw [List.length_flatten]
theorem sizeN_ge {w:Nat} (h1:1≤w) (h8:w≤8):25≤sizeN 24 w:=by
 unfold sizeN
 rw [Nat.le_div_iff_mul_le (by omega)]
 omega
def names (s:ByteArray) (n:Nat):List ByteArray:=(List.range n).map (nameS s)
theorem names_len (s:ByteArray) (n:Nat):(names s n).length=n:=by simp [names]
theorem names_get (s:ByteArray) (n i:Nat) (h:i<(names s n).length):(names s n)[i]=nameS s i:=by simp [names]
theorem names_succ (s:ByteArray) (n:Nat):names s (n+1)=names s n ++ [nameS s n]:=by simp [names,List.range_succ]
theorem sorted_at {l:List (List Nat)} (h:SortedR l) {i:Nat} (hi:i+1<l.length):lessB l[i+1] l[i]=false:=List.pairwise_iff_getElem.1 h i (i+1) (by omega) hi (by omega)
def many (x:List Nat) (l:List (List Nat)) (j:Nat):Nat:=(l.take j).count x
theorem many_le (x:List Nat) (l:List (List Nat)) (j:Nat):many x l j≤j:=Nat.le_trans List.count_le_length (by rw [List.length_take];omega)
theorem many_step (x:List Nat) (l:List (List Nat)) {j:Nat} (h:j<l.length):many x l (j+1)=many x l j+if l[j]=x then 1 else 0:=by
 unfold many
 rw [List.take_succ_eq_append_getElem h,List.count_append,List.count_singleton]
 by_cases q:l[j]=x
 ·rw [if_pos q,if_pos (by simpa using q)]
 ·rw [if_neg q,if_neg (by simpa using q)]
theorem many_perm {x:List Nat} {l l':List (List Nat)} (h:l'.Perm l):many x l' l'.length=many x l l.length:=by
 unfold many
 rw [List.take_length,List.take_length,h.count_eq]
end Top
end
section
open Go.RowKit
open Mv Num Loser
set_option maxRecDepth 4000
theorem slOf_at {S:Mem} {pa:Option Addr} {n ca:Nat} {ks:List (List Nat)} (h:SlOf RowR S (.slice pa n ca) ks) (j:Nat) (hj:j<ks.length):∃ b off g,pa=some ⟨b,off,none⟩∧S.Knows ⟨b,off+j*1,none⟩ [g]∧RowR S g (key ks j):=by
 obtain ⟨gs,hgl,⟨pa',ca',e,a1,a2,a3⟩,hge⟩:=h
 cases e
 obtain ⟨b,off,rfl,hkn⟩:=a3.resolve_left (by intro h;rw [h] at hgl;simp at hgl;omega)
 exact ⟨b,off,gs[j]'(by omega),rfl,hkn j (by omega),by rw [key_get ks j hj];exact hge j hj (by omega)⟩
theorem LosR.of {a:List (List Nat)} {b:List Int} {c:Int} {S S':Mem} {r:Value} {n m:Nat} (h:LosR (a,b,c) S r S') (ha:a.length=n) (hb:b.length=m):∃ pa ca pt ct,r = .tuple #[.agg #[.slice pa n ca,.slice pt m ct],.int .i64 c]∧S.Less S'∧LoV S' (.slice pa n ca) (.slice pt m ct) a b:=by
 subst ha hb;exact h.slices
structure SoI (ks cur:List (List Nat)) (told:List Bool) (last:List Nat) (at_:Int) (m:Nat):Prop where
  tl:told.length=ks.length
  cl:cur.length=ks.length
  cur_:∀ i,i<ks.length→key cur i=if told.getD i false=true then [] else key ks i
  told_:∀ i,i<ks.length→told.getD i false=true→key ks i ≠ []
  rest:∀ j,j<ks.length→key cur j ≠ []→lessB (key cur j) last=false∧(key cur j=last→at_≤j)
  cnt:told.count true=m
  rl:∀ y ∈ cur,y.length≤17592186043904
theorem lessB_nil (x:List Nat):lessB x []=false:=by cases x <;> rfl
theorem SoI.start (ks:List (List Nat)) (hr:∀ y ∈ ks,y.length≤17592186043904):SoI ks ks (List.replicate ks.length false) [] (-1) 0:=by
 have hz:∀ i,(List.replicate ks.length false).getD i false=false:=fun i=>by
  by_cases h:i<ks.length <;> simp [List.getD,h]
 exact ⟨by simp,rfl,fun i h=>by rw [hz];rfl,fun i h e=>(by rw [hz] at e;cases e),fun j h e=>⟨lessB_nil _,fun e'=>absurd e' e⟩,by simp [List.count_replicate],hr⟩
theorem SoI.win_ {ks cur:List (List Nat)} {told:List Bool} {last:List Nat} {at_:Int} {m:Nat} (h:SoI ks cur told last at_ m) (hk:1≤ks.length) (he:key cur (win cur 1) ≠ []) :
  win cur 1<ks.length∧told.getD (win cur 1) false=false∧key cur (win cur 1)=key ks (win cur 1)∧lessB (key cur (win cur 1)) last=false∧(key cur (win cur 1)=last→at_≤(win cur 1:Nat)):=by
 have hw:=win_lt (ks:=cur) (n:=1) (by decide) (by rw [h.cl];omega)
 rw [h.cl] at hw
 have hc:=h.cur_ _ hw
 have ht:told.getD (win cur 1) false=false:=by
  cases ht:told.getD (win cur 1) false with
  | false=>rfl
  | true=>rw [ht] at hc;exact absurd hc he
 rw [ht] at hc
 exact ⟨hw,ht,hc,h.rest _ hw he⟩
theorem SoI.step {ks cur:List (List Nat)} {told:List Bool} {last:List Nat} {at_:Int} {m:Nat} (h:SoI ks cur told last at_ m) (hk:1≤ks.length) (he:key cur (win cur 1) ≠ []) :
  SoI ks (cur.set (win cur 1) []) (told.set (win cur 1) true) (key cur (win cur 1)) (win cur 1:Nat) (m+1):=by
 obtain ⟨hw,ht,hc,_⟩:=h.win_ hk he
 have hcl:=h.cl
 have hset:∀ i,i≠win cur 1→(told.set (win cur 1) true).getD i false=told.getD i false:=fun i e=>by simp [List.getD,Ne.symm e]
 have hsame:(told.set (win cur 1) true).getD (win cur 1) false=true:=by simp [List.getD,h.tl,hw]
 refine ⟨by simp [h.tl],by simp [hcl],fun i hi=>?_,fun i hi hti=>?_,fun j hj hje=>?_,?_,fun y hy=>?_⟩
 ·by_cases e:i=win cur 1
  ·subst e;rw [hsame,key_set_same _ _ _ (by omega)];rfl
  ·rw [hset i e,key_set_other _ _ _ _ e];exact h.cur_ i hi
 ·by_cases e:i=win cur 1
  ·subst e;rw [← hc];exact he
  ·rw [hset i e] at hti;exact h.told_ i hi hti
 ·by_cases e:j=win cur 1
  ·subst e;rw [key_set_same _ _ _ (by omega)] at hje;exact absurd rfl hje
  ·rw [key_set_other _ _ _ _ e] at hje ⊢
   have hb:=win_beats (ks:=cur) (n:=1) (i:=j) (by decide) (by omega) (by omega) (under_top (by omega)) e
   unfold beatsP at hb
   rw [kLess_lessB _ _ he hje] at hb
   simp only [Bool.or_eq_true,Bool.and_eq_true,decide_eq_true_eq] at hb
   rcases hb with hb | ⟨hb,hb'⟩
   ·refine ⟨?_,fun e'=>?_⟩
    ·cases h':lessB (key cur j) (key cur (win cur 1)) with
     | false=>rfl
     | true=>have:=lessB_trans _ _ _ hb h';rw [lessB_irrefl] at this;cases this
    ·rw [e',lessB_irrefl] at hb;cases hb
   ·rw [← hb];exact ⟨lessB_irrefl _,fun _=>by omega⟩
 ·have hw':win cur 1<told.length:=by rw [h.tl];exact hw
  rw [List.count_set hw']
  have:told[win cur 1]=false:=by simpa [List.getD,hw'] using ht
  rw [this,h.cnt];simp
 ·rcases List.mem_or_eq_of_mem_set hy with hy | rfl
  ·exact h.rl y hy
  ·simp
theorem SoI.done1 {ks cur:List (List Nat)} {told:List Bool} {last:List Nat} {at_:Int} {m:Nat} (h:SoI ks cur told last at_ m) (hk:1≤ks.length) (he:key cur (win cur 1) = []) :
  ∀ i,i<ks.length→told.getD i false=decide (key ks i ≠ []):=fun i hi=>by
 have hcl:=h.cl
 have hce:key cur i = []:=by
  by_cases e:i=win cur 1
  ·rw [e];exact he
  ·have hb:=win_beats (ks:=cur) (n:=1) (i:=i) (by decide) (by omega) (by omega) (under_top (by omega)) e
   unfold beatsP at hb
   rw [he] at hb
   simp only [kLess,Bool.false_or,Bool.and_eq_true,decide_eq_true_eq] at hb
   exact hb.1.symm
 cases ht:told.getD i false with
 | true=>rw [decide_eq_true (h.told_ i hi ht)]
 | false =>
  have:=h.cur_ i hi
  rw [ht,hce] at this
  rw [decide_eq_false (fun e=>e this.symm)]
theorem SoI.done2 {ks cur:List (List Nat)} {told:List Bool} {last:List Nat} {at_:Int} {m:Nat} (h:SoI ks cur told last at_ m) (hm:ks.length≤m) :
  ∀ i,i<ks.length→told.getD i false=decide (key ks i ≠ []):=fun i hi=>by
 have hc:told.count true=told.length:=by
  have:=List.count_le_length (a:=true) (l:=told)
  have:=h.cnt;have:=h.tl;omega
 have hall:=List.count_eq_length.1 hc
 have hi':i<told.length:=by rw [h.tl];exact hi
 have ht:told.getD i false=true:=by
  have:=hall told[i] (List.getElem_mem _)
  simp [List.getD,hi',← this]
 rw [ht,decide_eq_true (h.told_ i hi ht)]
structure SoX where
  (m:Nat) (told:List Bool) (cur:List (List Nat)) (last:List Nat) (at_:Int) (M:Mem) (lp:Option Addr) (lc:Nat) (ka:Option Addr) (kc:Nat) (ta:Option Addr) (tc:Nat)
end
section
open Go.RowKit
open Mv Disk Num Loser
namespace Top
structure SoL (ks cur:List (List Nat)) (told:List Bool) (last:List Nat) (at_:Int) (m:Nat):Prop where
  so:SoI ks cur told last at_ m
  up:∀ i,i<ks.length→told.getD i false=true→lessB last (key ks i)=false
theorem SoL.start (ks:List (List Nat)) (hr:∀ y ∈ ks,y.length≤17592186043904):SoL ks ks (List.replicate ks.length false) [] (-1) 0 :=
 ⟨SoI.start ks hr,fun i hi h=>by
  exfalso
  simp [List.getD,hi] at h⟩
theorem SoL.win_ne {ks cur:List (List Nat)} {told:List Bool} {last:List Nat} {at_:Int} {m:Nat} (h:SoL ks cur told last at_ m) (hk:1≤ks.length) (hne:∀ i,i<ks.length→key ks i ≠ []) (hm:m<ks.length):key cur (win cur 1) ≠ []:=fun he=>by
 have hd:=h.so.done1 hk he
 have hall:told=List.replicate ks.length true:=by
  apply List.ext_getElem
  ·rw [h.so.tl,List.length_replicate]
  ·intro i h1 h2
   have hi:i<ks.length:=by rw [← h.so.tl];exact h1
   have:=hd i hi
   rw [decide_eq_true (hne i hi)] at this
   rw [List.getElem_replicate]
   simpa [List.getD,h1] using this
 have hc:=h.so.cnt
 rw [hall,List.count_replicate_self] at hc
 omega
theorem SoL.step {ks cur:List (List Nat)} {told:List Bool} {last:List Nat} {at_:Int} {m:Nat} (h:SoL ks cur told last at_ m) (hk:1≤ks.length) (he:key cur (win cur 1) ≠ []) :
  SoL ks (cur.set (win cur 1) []) (told.set (win cur 1) true) (key cur (win cur 1)) (win cur 1:Nat) (m+1):=by
 obtain ⟨hw,ht,hc,hl,_⟩:=h.so.win_ hk he
 refine ⟨h.so.step hk he,fun i hi hti=>?_⟩
 by_cases e:i=win cur 1
 ·subst e;rw [← hc];exact lessB_irrefl _
 ·have hti':told.getD i false=true:=by
   have:(told.set (win cur 1) true).getD i false=told.getD i false:=by simp [List.getD,Ne.symm e]
   rw [← this];exact hti
  have hu:=h.up i hi hti'
  cases hx:lessB (key cur (win cur 1)) (key ks i) with
  | false=>rfl
  | true =>
   cases hy:lessB last (key cur (win cur 1)) with
   | true=>rw [lessB_trans _ _ _ hy hx] at hu;cases hu
   | false =>
    have:=lessB_total _ _ hy hl
    rw [this,hx] at hu;cases hu
theorem SoL.done {ks cur:List (List Nat)} {told:List Bool} {last:List Nat} {at_:Int} {m:Nat} (h:SoL ks cur told last at_ m) (hm:ks.length≤m) (hne:∀ i,i<ks.length→key ks i ≠ []):∀ i,i<ks.length→lessB last (key ks i)=false:=fun i hi =>
 h.up i hi (by rw [h.so.done2 hm i hi,decide_eq_true (hne i hi)])
end Top
end
section
open Go.RowKit
open Bits Mv
set_option maxRecDepth 20000
namespace Bits
theorem add_partI (L:List Bool) (v r k:Nat) (hv:v≤18446744073709551615) (hk:L.length % 8+k≤8) (hr:k≤r) :
  bits .or .u64 (IntKind.u64.wrap (((num (rest L):Nat):Int)*2 ^ ((k:Int)).toNat)) (bits .and .u64 ((v:Int) / 2 ^ ((r:Int)-(k:Int)).toNat) (IntKind.u64.wrap (IntKind.u64.wrap (1*2 ^ ((k:Int)).toNat)-1)))=((num (rest L ++ numB (v / 2 ^ (r-k)) k):Nat):Int) ∧
   num (rest L ++ numB (v / 2 ^ (r-k)) k)<256:=by
 obtain ⟨A,B,h1,h2,h3,h4,h5⟩:=add_part L v (r-k) k hv hk
 rw [show ((r:Int)-(k:Int)).toNat=r-k from by omega,Int.toNat_natCast,Int.one_mul,h1,h2,h3]
 exact ⟨rfl,by omega⟩
def wrM (S:Mem) (p:Nat) (o:Option (Nat × Nat)) (L:List Bool):Mem :=
  (outM S o 5 (bytesV L)).set p ⟨91,[outV o (L.length / 8),.int .u64 (num (rest L):Nat),.int .i64 (L.length % 8:Nat)],3⟩
theorem wrM_eight (S:Mem) (p b c:Nat) (M C:List Bool) (h:M.length % 8+C.length=8):wrM S p (some (b,c)) (M ++ C) =
  (S.set b ⟨5,bytesV M ++ [.int .u8 (num (rest M ++ C):Nat)],c⟩).set p ⟨91,[.slice (some ⟨b,0,none⟩) (M.length / 8+1) c,.int .u64 0,.int .i64 0],3⟩:=by
 unfold wrM outM outV
 have e:(M ++ C).length / 8=M.length / 8+1:=by rw [List.length_append];omega
 have e9:(((M ++ C).length % 8:Nat):Int)=0:=by rw [List.length_append];omega
 simp only [bytesV_eight M C h,(rest_eight M C h).2,e,e9]
 rfl
theorem wrM_few (S:Mem) (p:Nat) (o:Option (Nat × Nat)) (M C:List Bool) (h:M.length % 8+C.length<8):wrM S p o (M ++ C) =
  (outM S o 5 (bytesV M)).set p ⟨91,[outV o (M.length / 8),.int .u64 (num (rest M ++ C):Nat),.int .i64 ((M.length % 8:Nat)+(C.length:Nat))],3⟩:=by
 unfold wrM
 have e:(M ++ C).length / 8=M.length / 8:=by rw [List.length_append];omega
 have e9:(((M ++ C).length % 8:Nat):Int)=(M.length % 8:Nat)+(C.length:Nat):=by rw [List.length_append];omega
 rw [bytesV_few M C h,(rest_few M C h).2,e,e9]
structure OkW (S:Mem) (p:Nat) (o:Option (Nat × Nat)) (L:List Bool):Prop where
  fp:Fresh S p
  nil:o=none→L.length<8
  own:∀ b c,o=some (b,c)→Fresh S b∧b≠p∧L.length / 8≤c
end Bits
set_option maxHeartbeats 1000000 in
theorem bitsV_Add (p v width:Nat) (L:List Bool) (o:Option (Nat × Nat)) (S:Mem) (h3:width≤64) (h5:v≤18446744073709551615) (hlen:L.length≤1048576+64) (hok:OkW S p o L) :
  ACall Tryz.prog 36 #[.pointer (some ⟨p,0,none⟩),.int .u64 v,.int .i64 width] (wrM S p o L) fun r S'=>r = .tuple #[] ∧ ∃ o',OkW S p o' (L ++ numB v width)∧S'=wrM S p o' (L ++ numB v width):=by
 refine k_E3 (rs:=[]) 74 Tryz.func36 rfl rfl rfl ?_
 refine s1_ ?_
 refine AWP.loop (X:=Nat × List Bool × Option (Nat × Nat)) (fun x=>[(0,.pointer (some ⟨p,0,none⟩)),(1,.int .u64 v),(2,.int .i64 x.1)]) (fun x=>wrM S p x.2.2 x.2.1) (fun x=>x.1≤width∧x.2.1 ++ numB v x.1=L ++ numB v width∧OkW S p x.2.2 x.2.1) (fun x=>x.1) ((width,L,o)) ⟨rfl,rfl,rfl,trivial⟩ less_ (⟨Nat.le_refl _,rfl,hok⟩) ?_
 rintro ⟨r,M,ov⟩ ⟨hr,hM,hok⟩
 (try dsimp only at *)
 have hMl:M.length≤1048576+128:=by have:=congrArg List.length hM;simp [numB_length] at this;omega
 obtain ⟨k,hk⟩ : ∃ k:Nat,(k:Int)=min (r:Int) (8-(M.length % 8:Nat)):=⟨(min (r:Int) (8-(M.length % 8:Nat))).toNat,by omega⟩
 have hk1:k≤r∧M.length % 8+k≤8∧(r=k∨M.length % 8+k=8):=by omega
 obtain ⟨hkr,hk8,hke⟩:=hk1
 obtain ⟨hR,hRb⟩:=add_partI M v r k h5 hk8 hkr
 have hfp:=hok.fp
 unfold wrM
 iterate 7 refine s1_ ?_
 refine AWP.condB rfl (fun hc=>?_) (fun hc=>?_)
 ·have hr0:0<r:=by simpa using hc
  iterate 11 refine s1_ ?_
  refine rC (Calm.minE hk rfl rfl) ?_
  iterate 4 refine s1_ ?_
  refine AWP.draw [(0,true),(1,true),(2,true),(3,true),(4,true),(5,true),(6,true),(7,true),(8,true),(9,true)] [] mixed (by kernel_rfl) ?_
  iterate 13 refine s1_ ?_
  refine AWP.draw [(0,true),(1,true),(2,true),(3,true),(4,true),(5,true),(6,true),(7,true),(8,true),(9,true),(10,true),(11,true),(12,true),(13,true),(14,true),(15,true),(16,true),(17,true),(18,false),(19,true),(20,true),(21,false)] [18,21] mixed (by kernel_rfl) ?_
  iterate 18 refine s1_ ?_
  refine draw_only rfl ?_
  refine s1_ ?_
  refine arun_nil ⟨fun h=>absurd h (by decide),?_⟩
  iterate 2 refine s1_ ?_
  refine draw_only rfl ?_
  refine s1_ ?_
  refine arun_nil ⟨fun h=>absurd h (by decide),?_⟩
  iterate 2 refine s1_ ?_
  rw [hR]
  iterate 8 refine s1_ ?_
  refine k_v6 0 1 2 9 6 7 ?_
  iterate 9 refine s1_ ?_
  refine AWP.condB rfl (fun hc8=>?_) (fun hc8=>?_)
  ·have he8:M.length % 8+k=8:=by have:=of_decide_eq_true hc8;omega
   rcases ov with _ | ⟨b,c⟩
   ·simp only [outM,outV]
    have hM8:=hok.nil rfl
    have hb0:bytesV M = []:=List.eq_nil_of_length_eq_zero (by rw [bytesV_length];omega)
    refine AWP.draw [(0,true),(1,true),(2,true),(3,true),(4,true),(5,true),(6,true),(7,true),(8,true),(9,true),(10,true),(11,true),(12,false),(13,false),(14,true),(15,true),(16,false),(17,true),(18,true),(19,false),(20,true),(21,true),(22,false)] [13,16,19,22] mixed (by kernel_rfl) ?_
    iterate 12 refine s1_ ?_
    refine draw_only rfl ?_
    refine ARun.build1s (lit_lt rfl) ty_sl_56 rfl rfl ?_
    intro b66 f66
    have g66:=f66
    repeat ((with_reducible replace g66:=fresh_set g66);obtain ⟨g66,_⟩:=g66)
    refine arun_nil ⟨fun _=>less_,?_⟩
    refine draw_only rfl ?_
    refine ARun.appendNil1 (lit_lt rfl) ty_sl_56 rfl rfl (news:=[_]) (rds_cons ((rd_set_same _ _ _ _).trans rfl) (rds_nil _ _)) rfl (by omega) (by omega) (by omega) ?_
    intro bn cn fbn hcn
    have gbn:=fbn
    repeat ((with_reducible replace gbn:=fresh_set gbn);obtain ⟨gbn,_⟩:=gbn)
    refine arun_nil ⟨fun h=>absurd h (by decide),?_⟩
    iterate 2 refine s1_ ?_
    refine draw_only rfl ?_
    refine s1_ ?_
    refine arun_nil ⟨fun h=>absurd h (by decide),?_⟩
    iterate 2 refine s1_ ?_
    refine draw_only rfl ?_
    refine s1_ ?_
    refine arun_nil ⟨fun h=>absurd h (by decide),?_⟩
    iterate 2 refine s1_ ?_
    refine draw_only rfl ?_
    refine s1_ ?_
    refine arun_nil ⟨fun h=>absurd h (by decide),?_⟩
    iterate 3 refine s1_ ?_
    refine ⟨(r-k,M ++ numB (v / 2 ^ (r-k)) k,some (bn,cn)),?_,?_,?_,?_⟩
    all_goals (try dsimp only)
    ·exact ⟨rfl,rfl,some_int (by omega),trivial⟩
    ·show (wrM S p (some (bn,cn)) (M ++ numB (v / 2 ^ (r-k)) k)).Less _;rw [wrM_eight _ _ _ _ _ _ (by rw [numB_length];exact he8),hb0,List.nil_append,show M.length / 8=0 from by omega];exact less_
    ·exact ⟨by omega,by rw [List.append_assoc,← numB_split,show k+(r-k)=r from by omega];exact hM,hok.fp,(fun h=>by cases h),fun b2 c2 h2=>by cases h2;exact ⟨gbn,by assumption,by rw [List.length_append,numB_length];omega⟩⟩
    ·omega
   ·simp only [outM,outV]
    obtain ⟨ho1,ho2,ho3⟩:=hok.own b c rfl
    refine AWP.draw [(0,true),(1,true),(2,true),(3,true),(4,true),(5,true),(6,true),(7,true),(8,true),(9,true),(10,true),(11,true),(12,false),(13,false),(14,true),(15,true),(16,false),(17,true),(18,true),(19,false),(20,true),(21,true),(22,false)] [13,16,19,22] mixed (by kernel_rfl) ?_
    iterate 12 refine s1_ ?_
    refine draw_only rfl ?_
    refine ARun.build1s (lit_lt rfl) ty_sl_56 rfl rfl ?_
    intro b66 f66
    have g66:=f66
    repeat ((with_reducible replace g66:=fresh_set g66);obtain ⟨g66,_⟩:=g66)
    refine arun_nil ⟨fun _=>less_,?_⟩
    refine draw_only rfl ?_
    refine ARun.append1 (lit_lt rfl) ty_sl_56 rfl own_ (bytesV_length M) rfl (news:=[_]) rds_ rfl (by simp [Value.oneCell']) (by omega) (by omega) del_ ?_
    intro bn cn fbn hcn
    have gbn:=fbn
    repeat ((with_reducible replace gbn:=fresh_set gbn);obtain ⟨gbn,_⟩:=gbn)
    refine arun_nil ⟨fun h=>absurd h (by decide),?_⟩
    iterate 2 refine s1_ ?_
    refine draw_only rfl ?_
    refine s1_ ?_
    refine arun_nil ⟨fun h=>absurd h (by decide),?_⟩
    iterate 2 refine s1_ ?_
    refine draw_only rfl ?_
    refine s1_ ?_
    refine arun_nil ⟨fun h=>absurd h (by decide),?_⟩
    iterate 2 refine s1_ ?_
    refine draw_only rfl ?_
    refine s1_ ?_
    refine arun_nil ⟨fun h=>absurd h (by decide),?_⟩
    iterate 3 refine s1_ ?_
    refine ⟨(r-k,M ++ numB (v / 2 ^ (r-k)) k,some (bn,cn)),?_,?_,?_,?_⟩
    all_goals (try dsimp only)
    ·exact ⟨rfl,rfl,some_int (by omega),trivial⟩
    ·show (wrM S p (some (bn,cn)) (M ++ numB (v / 2 ^ (r-k)) k)).Less _;rw [wrM_eight _ _ _ _ _ _ (by rw [numB_length];exact he8)];exact less_
    ·exact ⟨by omega,by rw [List.append_assoc,← numB_split,show k+(r-k)=r from by omega];exact hM,hok.fp,(fun h=>by cases h),fun b2 c2 h2=>by cases h2;exact ⟨gbn,by assumption,by rw [List.length_append,numB_length];omega⟩⟩
    ·omega
  ·have he8 : ¬ M.length % 8+k=8:=by have:=of_decide_eq_false hc8;omega
   iterate 3 refine s1_ ?_
   refine ⟨(r-k,M ++ numB (v / 2 ^ (r-k)) k,ov),?_,?_,?_,?_⟩
   all_goals (try dsimp only)
   ·exact ⟨rfl,rfl,some_int (by omega),trivial⟩
   ·show (wrM S p ov (M ++ numB (v / 2 ^ (r-k)) k)).Less _;rw [wrM_few _ _ _ _ _ (by rw [numB_length];omega),numB_length];exact less_
   ·exact ⟨by omega,by rw [List.append_assoc,← numB_split,show k+(r-k)=r from by omega];exact hM,hok.fp,fun h=>by have:=hok.nil h;rw [List.length_append,numB_length];omega,fun b2 c2 h2=>by obtain ⟨q1,q2,q3⟩:=hok.own b2 c2 h2;exact ⟨q1,q2,by rw [List.length_append,numB_length];omega⟩⟩
   ·omega
 ·have hr0:r=0:=by have:=of_decide_eq_false hc;omega
  subst hr0
  iterate 4 refine s1_ ?_
  refine ⟨_,_,rfl,less_,?_⟩
  exact ⟨rfl,ov,by rw [numB_zero,List.append_nil] at hM;rw [← hM];exact hok,by rw [numB_zero,List.append_nil] at hM;rw [← hM]⟩
end
section
open Go.RowKit
open Bits Mv
set_option maxRecDepth 20000
namespace Bits
theorem fresh_wrM {S:Mem} {p:Nat} {o:Option (Nat × Nat)} {L:List Bool} {b:Nat} (h:Fresh (wrM S p o L) b):Fresh S b∧b≠p ∧ ∀ q c,o=some (q,c)→b≠q:=by
 unfold wrM at h
 obtain ⟨h1,h2⟩:=fresh_set h
 cases o with
 | none=>exact ⟨h1,h2,fun q c e=>by cases e⟩
 | some qc =>
  obtain ⟨q,c⟩:=qc
  obtain ⟨h3,h4⟩:=fresh_set h1
  exact ⟨h3,h2,fun q' c' e=>by cases e;exact h4⟩
theorem OkW.set {S:Mem} {p b:Nat} {o:Option (Nat × Nat)} {L:List Bool} {r:Blk} (h:OkW S p o L) (hp:b≠p) (ho:∀ q c,o=some (q,c)→b≠q):OkW (S.set b r) p o L:=by
 have fs:∀ q,Fresh S q→q≠b→Fresh (S.set b r) q:=fun q hq hne=>⟨by rw [Mem.own_set_other _ _ hne];exact hq.1,hq.2⟩
 exact ⟨fs p h.fp (Ne.symm hp),h.nil,fun q c e=>⟨fs q (h.own q c e).1 (Ne.symm (ho q c e)),(h.own q c e).2⟩⟩
theorem OkW.unset {S:Mem} {p b:Nat} {o:Option (Nat × Nat)} {L:List Bool} {r:Blk} (h:OkW (S.set b r) p o L):OkW S p o L :=
 ⟨(fresh_set h.fp).1,h.nil,fun q c e=>⟨(fresh_set (h.own q c e).1).1,(h.own q c e).2⟩⟩
theorem own_wrM (S:Mem) (p:Nat) (o:Option (Nat × Nat)) (L:List Bool) (b:Nat) (r:Blk) (hp:b≠p) (ho:∀ q c,o=some (q,c)→b≠q) (h:S.own b=some r):(wrM S p o L).own b=some r:=by
 unfold wrM
 rw [Mem.own_set_other _ _ hp]
 cases o with
 | none=>exact h
 | some qc =>
  obtain ⟨q,c⟩:=qc
  exact (Mem.own_set_other _ _ (ho q c rfl)).trans h
def lastB (L:List Bool):UInt8:=UInt8.ofNat (num (rest L)*2 ^ (8-L.length % 8))
theorem lastI (L:List Bool):IntKind.u8.wrap (IntKind.u64.wrap (((num (rest L):Nat):Int)*2 ^ ((8:Int)-(L.length % 8:Nat)).toNat))=nb (lastB L):=by
 obtain ⟨R,h1,h2,h3⟩:=last_byte L
 rw [show ((8:Int)-(L.length % 8:Nat)).toNat=8-L.length % 8 from by omega,h1,h2,h3];rfl
theorem pack_one (L:List Bool) (h:L.length<8) (hn:L.length % 8≠0):pack L = [lastB L]:=by
 rw [pack_last L hn]
 have:whole L = []:=by unfold whole;rw [show L.length / 8=0 from by omega];rfl
 rw [this];rfl
theorem rds_own' {S:Mem} {b:Nat} {r:Blk} {cs:List Value} (h:S.own b=some r) (e:r.cells=cs):S.rds ⟨b,0,none⟩ cs:=by rw [← e];exact rds_own h
end Bits
theorem bitsV_AddI (p:Nat) (v width:Int) (L:List Bool) (o:Option (Nat × Nat)) (S:Mem) (h0:0≤width) (h3:width≤64) (h4:0≤v) (h5:v≤18446744073709551615) (hlen:L.length≤1048576+64) (hok:OkW S p o L) :
  ACall Tryz.prog 36 #[.pointer (some ⟨p,0,none⟩),.int .u64 v,.int .i64 width] (wrM S p o L) fun r S'=>r = .tuple #[] ∧ ∃ o',OkW S p o' (L ++ numB v.toNat width.toNat)∧S'=wrM S p o' (L ++ numB v.toNat width.toNat):=by
 have:=bitsV_Add p v.toNat width.toNat L o S (by omega) (by omega) hlen hok
 rwa [Int.toNat_of_nonneg h4,Int.toNat_of_nonneg h0] at this
set_option maxHeartbeats 400000 in
theorem bitsV_Len (p:Nat) (L:List Bool) (o:Option (Nat × Nat)) (S:Mem) (hlen:L.length≤2000000) (hok:OkW S p o L) :
  ACall Tryz.prog 72 #[.pointer (some ⟨p,0,none⟩)] (wrM S p o L) fun r S'=>r = .int .i64 (L.length:Nat)∧S'=wrM S p o L:=by
 refine k_E1 (rs:=[.tmp 2]) 14 Tryz.func72 rfl rfl rfl ?_
 rcases o with _ | ⟨b,c⟩
 ·unfold wrM outM outV
  iterate 6 refine s1_ ?_
  refine AWP.draw [(0,true),(1,true),(2,true),(3,true),(4,true),(5,true),(6,true),(7,true),(8,true),(9,true),(10,true),(11,true)] [] mixed (by kernel_rfl) ?_
  iterate 15 refine s1_ ?_
  refine ⟨_,_,⟨_,_,rfl,rfl,rfl⟩,less_,?_⟩
  exact ⟨val_int (by have:=hok.nil rfl;omega),rfl⟩
 ·unfold wrM outM outV
  iterate 6 refine s1_ ?_
  refine AWP.draw [(0,true),(1,true),(2,true),(3,true),(4,true),(5,true),(6,true),(7,true),(8,true),(9,true),(10,true),(11,true)] [] mixed (by kernel_rfl) ?_
  iterate 15 refine s1_ ?_
  refine ⟨_,_,⟨_,_,rfl,rfl,rfl⟩,less_,?_⟩
  exact ⟨val_int (by omega),rfl⟩
set_option maxHeartbeats 1000000 in
theorem bitsV_Bits (p:Nat) (L:List Bool) (o:Option (Nat × Nat)) (S:Mem) (hlen:L.length≤1048576) (hok:OkW S p o L) :
  ACall Tryz.prog 37 #[.pointer (some ⟨p,0,none⟩)] (wrM S p o L) fun r S'=>r = .agg #[.string (bs (pack L)),.int .i64 (L.length:Nat)]∧S'=S:=by
 refine k_E1 (rs:=[.cell 2 49]) 37 Tryz.func37 rfl rfl rfl ?_
 have hfp:=hok.fp
 have hLen:=bitsV_Len p L o S (by omega) hok
 have hq8:L.length / 8≤200000:=by omega
 have hlb:=lastI L
 iterate 2 refine s1_ ?_
 refine ARun.alloc (lit_lt rfl) ty_zero_49 ?_
 intro b2 f2
 have g2:=f2
 repeat ((with_reducible replace g2:=fresh_set g2);obtain ⟨g2,_⟩:=g2)
 refine nl_ ?_
 iterate 2 refine s1_ ?_
 obtain ⟨q1,q2,q3⟩:=fresh_wrM g2
 have q2':=Ne.symm q2
 rcases o with _ | ⟨b,c⟩
 ·have hM8:=hok.nil rfl
  simp only [wrM,outM,outV] at hLen ⊢
  iterate 19 refine s1_ ?_
  refine AWP.condB rfl (fun hc=>?_) (fun hc=>?_)
  ·have hn:L.length % 8≠0:=by have:=of_decide_eq_true hc;omega
   refine AWP.draw [(0,true),(1,true),(2,true),(3,true),(4,true),(5,true),(6,true),(7,true),(8,true),(9,true),(10,true),(11,true),(12,true),(13,true),(14,true),(15,true),(16,true),(17,false),(18,false),(19,true)] [18] mixed (by kernel_rfl) ?_
   iterate 16 refine s1_ ?_
   refine dC (hc:=Calm.conv rfl (conv_intW Tryz.underlying33 Tryz.underlying5 hlb)) (h:=?_)
   refine draw_only rfl ?_
   refine ARun.build1s (lit_lt rfl) ty_sl_56 rfl rfl ?_
   intro b30 f30
   have g30:=f30
   repeat ((with_reducible replace g30:=fresh_set g30);obtain ⟨g30,_⟩:=g30)
   refine arun_nil ⟨fun _=>less_,?_⟩
   refine draw_only rfl ?_
   refine ARun.appendNil1 (lit_lt rfl) ty_sl_56 rfl rfl (news:=[_]) rds_ rfl (by omega) (by omega) (by omega) ?_
   intro bn cn fbn hcn
   have gbn:=fbn
   repeat ((with_reducible replace gbn:=fresh_set gbn);obtain ⟨gbn,_⟩:=gbn)
   refine arun_nil ⟨fun h=>absurd h (by decide),?_⟩
   iterate 3 refine s1_ ?_
   have hbs:pack L = [lastB L]:=pack_one L hM8 hn
   refine s1_ ?_
   refine AWP.draw [(0,true),(1,true),(2,true),(3,false),(4,true),(5,false)] [5] mixed (by kernel_rfl) ?_
   refine s1_ ?_
   refine dC (hc:=Calm.toStr ty_bytes_56 ty_str_9 rfl (l:=[lastB L]) rfl rds_) (h:=?_)
   refine s1_ ?_
   refine draw_only rfl ?_
   refine ca_ rfl (ACall.pure_more less_ hLen) ?_
   rintro _ _ ⟨rfl,rfl⟩
   refine arun_nil ⟨fun _=>less_,?_⟩
   refine s1_ ?_
   refine draw_only rfl ?_
   refine s1_ ?_
   refine arun_nil ⟨fun h=>absurd h (by decide),?_⟩
   iterate 3 refine s1_ ?_
   refine ⟨_,S,⟨_,_,_,rfl,.inr ⟨ty_agg_49,[_,_],ty_size_49,rds_,rfl⟩,rfl,rfl⟩,less_,?_⟩
   exact ⟨by rw [hbs];rfl,rfl⟩
  ·have hn:L = []:=List.eq_nil_of_length_eq_zero (by have:=of_decide_eq_false hc;omega)
   iterate 3 refine s1_ ?_
   refine AWP.draw [(0,true),(1,true),(2,true),(3,false),(4,true),(5,false)] [5] mixed (by kernel_rfl) ?_
   iterate 3 refine s1_ ?_
   refine draw_only rfl ?_
   refine ca_ rfl (ACall.pure_more less_ hLen) ?_
   rintro _ _ ⟨rfl,rfl⟩
   refine arun_nil ⟨fun _=>less_,?_⟩
   refine s1_ ?_
   refine draw_only rfl ?_
   refine s1_ ?_
   refine arun_nil ⟨fun h=>absurd h (by decide),?_⟩
   iterate 2 refine s1_ ?_
   refine k_v4 0 2 3 12 ?_
   refine s1_ ?_
   refine ⟨_,S,⟨_,_,_,rfl,.inr ⟨ty_agg_49,[_,_],ty_size_49,rds_,rfl⟩,rfl,rfl⟩,less_,?_⟩
   exact ⟨by rw [hn];rfl,rfl⟩
 ·simp only [wrM,outM,outV] at hLen ⊢
  obtain ⟨ho1,ho2,ho3⟩:=hok.own b c rfl
  have hb2:=q3 b c rfl
  iterate 19 refine s1_ ?_
  refine AWP.condB rfl (fun hc=>?_) (fun hc=>?_)
  ·have hn:L.length % 8≠0:=by have:=of_decide_eq_true hc;omega
   refine AWP.draw [(0,true),(1,true),(2,true),(3,true),(4,true),(5,true),(6,true),(7,true),(8,true),(9,true),(10,true),(11,true),(12,true),(13,true),(14,true),(15,true),(16,true),(17,false),(18,false),(19,true)] [18] mixed (by kernel_rfl) ?_
   iterate 16 refine s1_ ?_
   refine dC (hc:=Calm.conv rfl (conv_intW Tryz.underlying33 Tryz.underlying5 hlb)) (h:=?_)
   refine draw_only rfl ?_
   refine ARun.build1s (lit_lt rfl) ty_sl_56 rfl rfl ?_
   intro b30 f30
   have g30:=f30
   repeat ((with_reducible replace g30:=fresh_set g30);obtain ⟨g30,_⟩:=g30)
   refine arun_nil ⟨fun _=>less_,?_⟩
   refine draw_only rfl ?_
   refine ARun.appendCopy1 (lit_lt rfl) ty_sl_56 rfl (xs:=bytesV L) (rds_own' own_ rfl) (bytesV_length L) rfl (news:=[_]) rds_ rfl (by omega) (by omega) (by omega) ?_
   intro bn cn fbn hcn
   have gbn:=fbn
   repeat ((with_reducible replace gbn:=fresh_set gbn);obtain ⟨gbn,_⟩:=gbn)
   refine arun_nil ⟨fun h=>absurd h (by decide),?_⟩
   iterate 3 refine s1_ ?_
   have hbs:cellsB (pack L)=bytesV L ++ [.int .u8 (nb (lastB L))]:=by rw [pack_last L hn];simp [cellsB,bytesV,lastB]
   refine s1_ ?_
   refine AWP.draw [(0,true),(1,true),(2,true),(3,false),(4,true),(5,false)] [5] mixed (by kernel_rfl) ?_
   refine s1_ ?_
   refine dC (hc:=Calm.toStr ty_bytes_56 ty_str_9 rfl (l:=pack L) (by rw [pack_length];omega) (by rw [hbs];exact rds_own' own_ rfl)) (h:=?_)
   refine s1_ ?_
   refine draw_only rfl ?_
   refine ca_ rfl (ACall.pure_more less_ hLen) ?_
   rintro _ _ ⟨rfl,rfl⟩
   refine arun_nil ⟨fun _=>less_,?_⟩
   refine s1_ ?_
   refine draw_only rfl ?_
   refine s1_ ?_
   refine arun_nil ⟨fun h=>absurd h (by decide),?_⟩
   iterate 3 refine s1_ ?_
   refine ⟨_,S,⟨_,_,_,rfl,.inr ⟨ty_agg_49,[_,_],ty_size_49,rds_,rfl⟩,rfl,rfl⟩,less_,?_⟩
   exact ⟨rfl,rfl⟩
  ·have hn:L.length % 8=0:=by have:=of_decide_eq_false hc;omega
   have hbs:cellsB (pack L)=bytesV L:=by unfold bytesV;rw [pack_whole L hn];rfl
   iterate 3 refine s1_ ?_
   refine AWP.draw [(0,true),(1,true),(2,true),(3,false),(4,true),(5,false)] [5] mixed (by kernel_rfl) ?_
   refine s1_ ?_
   refine dC (hc:=Calm.toStr ty_bytes_56 ty_str_9 rfl (l:=pack L) (by rw [pack_length];omega) (by rw [hbs];exact rds_own' own_ rfl)) (h:=?_)
   refine s1_ ?_
   refine draw_only rfl ?_
   refine ca_ rfl (ACall.pure_more less_ hLen) ?_
   rintro _ _ ⟨rfl,rfl⟩
   refine arun_nil ⟨fun _=>less_,?_⟩
   refine s1_ ?_
   refine draw_only rfl ?_
   refine s1_ ?_
   refine arun_nil ⟨fun h=>absurd h (by decide),?_⟩
   iterate 2 refine s1_ ?_
   refine k_v4 0 2 3 12 ?_
   refine s1_ ?_
   refine ⟨_,S,⟨_,_,_,rfl,.inr ⟨ty_agg_49,[_,_],ty_size_49,rds_,rfl⟩,rfl,rfl⟩,less_,?_⟩
   exact ⟨rfl,rfl⟩
end
section
open Go.RowKit
open Bits Mv
set_option maxRecDepth 20000
namespace Bits
def bv (s:ByteArray) (N:Int):Value:=.agg #[.string s,.int .i64 N]
def bv0:Value:=bv ByteArray.empty 0
def two (a:Value) (e:Int):Value:=.tuple #[a,.int .i64 e]
noncomputable def putP (s:ByteArray) (N v width:Int):Value :=
  if chk s.data.toList N≠0 then two bv0 2
  else if ¬ (0≤width∧width≤64)∨width<Lib.bitLen v.toNat then two (bv s N) 1
  else if 1048576-width<N then two (bv s N) 8
  else two (bv (bs (pack (upto s.data.toList N.toNat ++ numB v.toNat width.toNat))) (N+width)) 0
noncomputable def getP (s:ByteArray) (N at_ width:Int):Value :=
  if chk s.data.toList N≠0 then two (.int .u64 0) 2
  else if ¬ (0≤width∧width≤64)∨at_<0∨N<at_ then two (.int .u64 0) 1
  else if N-at_<width then two (.int .u64 0) 5
  else two (.int .u64 (num (slc s.data.toList at_.toNat width.toNat):Nat)) 0
theorem chk_right {B:List UInt8} {N:Int} (h:chk B N=0):right B N:=by
 unfold chk at h
 split at h
 ·assumption
 ·cases h
theorem chk_two {B:List UInt8} {N:Int} (h : ¬ chk B N=0):chk B N=2:=by
 unfold chk at h ⊢
 split at h
 ·exact absurd rfl h
 ·rename_i hn;rw [if_neg hn]
theorem bnot_t {p:Prop} [Decidable p] (h:(!decide p)=true) : ¬ p:=by simpa using h
theorem bnot_f {p:Prop} [Decidable p] (h:(!decide p)=false):p:=by simpa using h
theorem wrM_nil (S:Mem) (p:Nat):wrM S p none []=S.set p ⟨91,[.slice none 0 0,.int .u64 0,.int .i64 0],3⟩:=rfl
theorem okW_nil {S:Mem} {p:Nat} (h:Fresh S p):OkW S p none []:=⟨h,fun _=>by simp,fun b c e=>by cases e⟩
theorem own_wrM_ok {S:Mem} {p b:Nat} {o:Option (Nat × Nat)} {L:List Bool} {r:Blk} (hk:OkW S p o L) (h:S.own b=some r):(wrM S p o L).own b=some r :=
 own_wrM S p o L b r (hk.fp.ne h) (fun q c e=>(hk.own q c e).1.ne h) h
theorem chk_no {B:List UInt8} {N:Int} (h : ¬ right B N):chk B N=2:=if_neg h
theorem chk_yes {B:List UInt8} {N:Int} (h:right B N):chk B N=0:=if_pos h
theorem right_iff (B:List UInt8) (N:Int) (h0:0≤N) (h1:N≤1048576) (h2:B.length=(N.toNat+7) / 8):right B N ↔ (N % 8=0∨IntKind.u8.wrap (nb (at8 B (N.toNat / 8))*2 ^ (N % 8).toNat)=0):=by
 unfold right
 rw [right_last B N.toNat h2]
 have e:(N % 8).toNat=N.toNat % 8:=by omega
 have hz:=shl_zero (at8 B (N.toNat / 8)) (N.toNat % 8) (by omega)
 rw [IntKind.wrap_u8,e,hz]
 constructor
 ·rintro ⟨_,_,h | h⟩
  ·exact .inl (by omega)
  ·exact .inr h
 ·rintro (h | h)
  ·exact ⟨h0,h1,.inl (by omega)⟩
  ·exact ⟨h0,h1,.inr h⟩
end Bits
theorem bits_wide (x:Int) (S:Mem):ACall Tryz.prog 33 #[.int .i64 x] S fun r S'=>r = .bool (decide (0≤x∧x≤64))∧S'=S:=by
 by_cases h0:0≤x
 ·by_cases h1:x≤64
  ·rw [decide_eq_true (⟨h0,h1⟩ : 0≤x∧x≤64)]
   refine k_E1 (rs:=[.tmp 2]) 9 Tryz.func33 rfl rfl rfl ?_
   iterate 17 refine s1_ ?_
   refine ⟨_,_,⟨_,_,rfl,rfl,rfl⟩,less_,?_⟩
   exact ⟨rfl,rfl⟩
  ·rw [decide_eq_false (fun h=>h1 h.2 : ¬ (0≤x∧x≤64))]
   refine k_E1 (rs:=[.tmp 2]) 9 Tryz.func33 rfl rfl rfl ?_
   iterate 17 refine s1_ ?_
   refine ⟨_,_,⟨_,_,rfl,rfl,rfl⟩,less_,?_⟩
   exact ⟨rfl,rfl⟩
 ·rw [decide_eq_false (fun h=>h0 h.1 : ¬ (0≤x∧x≤64))]
  refine k_E1 (rs:=[.tmp 2]) 9 Tryz.func33 rfl rfl rfl ?_
  iterate 17 refine s1_ ?_
  refine ⟨_,_,⟨_,_,rfl,rfl,rfl⟩,less_,?_⟩
  exact ⟨rfl,rfl⟩
set_option maxHeartbeats 1000000 in
theorem bitsV_Check (s:ByteArray) (N:Int) (S:Mem) (hs:s.size≤9223372036854775807) :
  ACall Tryz.prog 32 #[.agg #[.string s,.int .i64 N]] S fun r S'=>r = .int .i64 (chk s.data.toList N)∧S'=S:=by
 by_cases h1:N<0
 ·rw [chk_no (fun h=>by have:=h.1;omega)]
  refine k_E1 (rs:=[.tmp 2]) 40 Tryz.func32 rfl rfl rfl ?_
  iterate 2 refine s1_ ?_
  refine ARun.boxA (cs:=[_,_]) (lit_lt rfl) rfl ?_
  intro b1 f1
  have g1:=f1
  repeat ((with_reducible replace g1:=fresh_set g1);obtain ⟨g1,_⟩:=g1)
  refine nl_ ?_
  iterate 27 refine s1_ ?_
  refine cT_ ?_
  iterate 7 refine s1_ ?_
  refine ⟨_,S,⟨_,_,rfl,rfl,rfl⟩,less_,?_⟩
  exact ⟨rfl,rfl⟩
 by_cases h2:1048576<N
 ·rw [chk_no (fun h=>by have:=h.2.1;omega)]
  refine k_E1 (rs:=[.tmp 2]) 40 Tryz.func32 rfl rfl rfl ?_
  iterate 2 refine s1_ ?_
  refine ARun.boxA (cs:=[_,_]) (lit_lt rfl) rfl ?_
  intro b1 f1
  have g1:=f1
  repeat ((with_reducible replace g1:=fresh_set g1);obtain ⟨g1,_⟩:=g1)
  refine nl_ ?_
  iterate 27 refine s1_ ?_
  refine cT_ ?_
  iterate 7 refine s1_ ?_
  refine ⟨_,S,⟨_,_,rfl,rfl,rfl⟩,less_,?_⟩
  exact ⟨rfl,rfl⟩
 have hsz:s.size=s.data.toList.length:=(Array.length_toList (xs:=s.data)).symm
 by_cases h3:(s.size:Int)=(N+7) / 8
 ·have hR:=Bits.right_iff s.data.toList N (by omega) (by omega) (by omega)
  by_cases h4:N % 8=0
  ·rw [chk_yes (hR.2 (.inl h4))]
   refine k_E1 (rs:=[.tmp 2]) 40 Tryz.func32 rfl rfl rfl ?_
   iterate 2 refine s1_ ?_
   refine ARun.boxA (cs:=[_,_]) (lit_lt rfl) rfl ?_
   intro b1 f1
   have g1:=f1
   repeat ((with_reducible replace g1:=fresh_set g1);obtain ⟨g1,_⟩:=g1)
   refine nl_ ?_
   iterate 27 refine s1_ ?_
   refine cF_ ?_
   iterate 29 refine s1_ ?_
   refine k_v6 0 1 2 22 3 39 ?_
   refine cF_ ?_
   iterate 8 refine s1_ ?_
   refine ⟨_,S,⟨_,_,rfl,rfl,rfl⟩,less_,?_⟩
   exact ⟨rfl,rfl⟩
  ·have e1:((s.size:Int)-1).toNat=N.toNat / 8:=by omega
   refine k_E1 (rs:=[.tmp 2]) 40 Tryz.func32 rfl rfl rfl ?_
   iterate 2 refine s1_ ?_
   refine ARun.boxA (cs:=[_,_]) (lit_lt rfl) rfl ?_
   intro b1 f1
   have g1:=f1
   repeat ((with_reducible replace g1:=fresh_set g1);obtain ⟨g1,_⟩:=g1)
   refine nl_ ?_
   iterate 27 refine s1_ ?_
   refine cF_ ?_
   rw [← e1] at hR
   iterate 29 refine s1_ ?_
   refine AWP.condB rfl (fun hc=>?_) (fun hc=>?_)
   ·iterate 7 refine s1_ ?_
    refine ⟨_,S,⟨_,_,rfl,rfl,rfl⟩,less_,?_⟩
    exact ⟨by rw [chk_no (fun h=>by rcases hR.1 h with h | h;exact h4 h;exact bnot_t hc h)];rfl,rfl⟩
   ·iterate 8 refine s1_ ?_
    refine ⟨_,S,⟨_,_,rfl,rfl,rfl⟩,less_,?_⟩
    exact ⟨by rw [chk_yes (hR.2 (.inr (bnot_f hc)))];rfl,rfl⟩
 ·rw [chk_no (fun h=>h3 (by have:=h.2.2.1;omega))]
  refine k_E1 (rs:=[.tmp 2]) 40 Tryz.func32 rfl rfl rfl ?_
  iterate 2 refine s1_ ?_
  refine ARun.boxA (cs:=[_,_]) (lit_lt rfl) rfl ?_
  intro b1 f1
  have g1:=f1
  repeat ((with_reducible replace g1:=fresh_set g1);obtain ⟨g1,_⟩:=g1)
  refine nl_ ?_
  iterate 27 refine s1_ ?_
  refine cT_ ?_
  iterate 7 refine s1_ ?_
  refine ⟨_,S,⟨_,_,rfl,rfl,rfl⟩,less_,?_⟩
  exact ⟨rfl,rfl⟩
end
section
open Go.RowKit
open Bits Mv
set_option maxRecDepth 20000
namespace Bits
theorem size_list (s:ByteArray):s.size=s.data.toList.length:=(Array.length_toList (xs:=s.data)).symm
end Bits
set_option maxHeartbeats 1000000 in
theorem bitsV_Get (s:ByteArray) (N at_ wd:Int) (S:Mem) (hs:s.size≤9223372036854775807) (hw0 : -9223372036854775808≤wd) (hw1:wd≤9223372036854775807) :
  ACall Tryz.prog 14 #[.agg #[.string s,.int .i64 N],.int .i64 at_,.int .i64 wd] S fun r S'=>r=getP s N at_ wd∧S'=S:=by
 unfold getP
 refine k_E3 (rs:=[.tmp 6,.tmp 7]) 39 Tryz.func14 rfl rfl rfl ?_
 iterate 2 refine s1_ ?_
 refine ARun.boxA (cs:=[_,_]) (lit_lt rfl) rfl ?_
 intro b3 f3
 have g3:=f3
 repeat ((with_reducible replace g3:=fresh_set g3);obtain ⟨g3,_⟩:=g3)
 refine nl_ ?_
 iterate 8 refine s1_ ?_
 refine ca_ rfl (bitsV_Check s N _ hs) ?_
 rintro _ _ ⟨rfl,rfl⟩
 iterate 9 refine s1_ ?_
 refine AWP.condB rfl (fun hc=>?_) (fun hc=>?_)
 ·have hc:=bnot_t hc
  iterate 9 refine s1_ ?_
  refine ⟨_,S,⟨_,_,rfl,⟨_,_,rfl,rfl,rfl⟩,rfl⟩,less_,?_⟩
  exact ⟨by rw [if_pos hc,chk_two hc];rfl,rfl⟩
 ·have hc:=bnot_f hc
  rw [if_neg (fun h=>h hc)]
  obtain ⟨hN0,hN1,hR⟩:=chk_right hc
  by_cases hw:0≤wd∧wd≤64
  ·by_cases ha:at_<0
   ·iterate 7 refine s1_ ?_
    refine ca_ rfl (bits_wide wd _) ?_
    rintro _ _ ⟨rfl,rfl⟩
    rw [decide_eq_true hw]
    iterate 14 refine s1_ ?_
    refine cT_ ?_
    iterate 9 refine s1_ ?_
    refine ⟨_,S,⟨_,_,rfl,⟨_,_,rfl,rfl,rfl⟩,rfl⟩,less_,?_⟩
    exact ⟨by rw [if_pos (.inr (.inl ha))];rfl,rfl⟩
   ·by_cases hb:N<at_
    ·iterate 7 refine s1_ ?_
     refine ca_ rfl (bits_wide wd _) ?_
     rintro _ _ ⟨rfl,rfl⟩
     rw [decide_eq_true hw]
     iterate 14 refine s1_ ?_
     refine k_v9 0 1 2 3 6 7 8 12 14 ?_
     refine cT_ ?_
     iterate 9 refine s1_ ?_
     refine ⟨_,S,⟨_,_,rfl,⟨_,_,rfl,rfl,rfl⟩,rfl⟩,less_,?_⟩
     exact ⟨by rw [if_pos (.inr (.inr hb))];rfl,rfl⟩
    ·rw [if_neg (fun h=>by rcases h with h | h | h;exact h hw;exact ha h;exact hb h)]
     iterate 7 refine s1_ ?_
     refine ca_ rfl (bits_wide wd _) ?_
     rintro _ _ ⟨rfl,rfl⟩
     rw [decide_eq_true hw]
     iterate 14 refine s1_ ?_
     refine cF_ ?_
     iterate 11 refine s1_ ?_
     refine AWP.condB rfl (fun hf=>?_) (fun hf=>?_)
     ·have hf:=of_decide_eq_true hf
      iterate 9 refine s1_ ?_
      refine ⟨_,S,⟨_,_,rfl,⟨_,_,rfl,rfl,rfl⟩,rfl⟩,less_,?_⟩
      exact ⟨by rw [if_pos hf];rfl,rfl⟩
     ·have hf:=of_decide_eq_false hf
      rw [if_neg hf]
      have hs1:s.size=(N.toNat+7) / 8:=by rw [← hR.1];exact size_list s
      iterate 8 refine s1_ ?_
      refine ca_ rfl (ACall.of_calls fun w=>bits_At s (by omega) N at_ wd w (by omega) (by omega) (by omega) (by omega)) ?_
      rintro _ _ ⟨rfl,rfl⟩
      iterate 5 refine s1_ ?_
      refine ⟨_,S,⟨_,_,rfl,⟨_,_,rfl,rfl,rfl⟩,rfl⟩,less_,?_⟩
      exact ⟨rfl,rfl⟩
  ·iterate 7 refine s1_ ?_
   refine ca_ rfl (bits_wide wd _) ?_
   rintro _ _ ⟨rfl,rfl⟩
   rw [decide_eq_false hw]
   iterate 14 refine s1_ ?_
   refine cT_ ?_
   iterate 9 refine s1_ ?_
   refine ⟨_,S,⟨_,_,rfl,⟨_,_,rfl,rfl,rfl⟩,rfl⟩,less_,?_⟩
   exact ⟨by rw [if_pos (.inl hw)];rfl,rfl⟩
end
section
open Go.RowKit
open Mv Bits
set_option maxRecDepth 4000
namespace Top
theorem len5 (S:Mem):ACall Tryz.prog 34 #[.int .u64 5] S fun r S'=>r = .int .i64 3∧S'=S:=by
 refine k_E1 (rs:=[.tmp 2]) 25 Tryz.func34 rfl rfl rfl ?_
 iterate 12 refine s1_ ?_
 refine cF_ ?_
 iterate 9 refine s1_ ?_
 refine cF_ ?_
 iterate 9 refine s1_ ?_
 refine cF_ ?_
 iterate 6 refine s1_ ?_
 refine rC (Calm.conv rfl (conv_intW Tryz.underlying33 Tryz.underlying5 (show IntKind.u8.wrap 5=5 from by decide))) ?_
 refine rC (Calm.as (v':=.int .u8 3) (show Value.int .u8 (nb (at8 _ 5))=Value.int .u8 3 from rfl) (Calm.indexStrN (j:=5) (strT_spec ty_str_9) rfl rfl (by decide +kernel))) ?_
 iterate 6 refine s1_ ?_
 refine ⟨_,S,⟨_,_,rfl,rfl,rfl⟩,less_,?_⟩
 exact ⟨rfl,rfl⟩
theorem copy0 (p:Nat) (s:ByteArray) (S:Mem) (hp:Fresh S p) :
  ACall Tryz.prog 35 #[.pointer (some ⟨p,0,none⟩),.agg #[.string s,.int .i64 0]] (Bits.wrM S p none []) fun r S'=>r = .tuple #[]∧S'=Bits.wrM S p none []:=by
 refine k_E2 (rs:=[]) 27 Tryz.func35 rfl rfl rfl ?_
 iterate 2 refine s1_ ?_
 refine ARun.boxA (cs:=[_,_]) (lit_lt rfl) rfl ?_
 intro b3 f3
 have g3:=f3
 repeat ((with_reducible replace g3:=fresh_set g3);obtain ⟨g3,_⟩:=g3)
 refine nl_ ?_
 iterate 6 refine s1_ ?_
 refine ARun.alloc (lit_lt rfl) ty_zero_154 ?_
 intro b4 f4
 have g4:=f4
 repeat ((with_reducible replace g4:=fresh_set g4);obtain ⟨g4,_⟩:=g4)
 refine nl_ ?_
 iterate 9 refine s1_ ?_
 refine AWP.loop (X:=Unit) (fun x=>[(0,.pointer (some ⟨p,0,none⟩)),(3,.pointer (some ⟨b3,0,none⟩)),(4,.pointer (some ⟨b4,0,none⟩)),(5,.int .i64 0)]) (fun x=>((Bits.wrM S p none []).set b3 ⟨49,[.string s,.int .i64 0],2⟩).set b4 ⟨154,[.string s,.int .i64 0],2⟩) (fun x=>True) (fun x=>0) (()) ⟨rfl,rfl,rfl,rfl,trivial⟩ less_ (trivial) ?_
 rintro x _
 (try dsimp only at *)
 iterate 9 refine s1_ ?_
 refine cF_ ?_
 iterate 4 refine s1_ ?_
 refine ⟨_,Bits.wrM S p none [],rfl,less_,?_⟩
 exact ⟨rfl,rfl⟩
def five:ByteArray:=bs (Bits.pack (Bits.numB 5 3))
theorem right_five:Bits.right five.data.toList 3:=⟨by decide,by decide,Bits.right_pack [true,false,true]⟩
theorem get_five:Bits.getP five 3 0 3=Bits.two (.int .u64 5) 0:=by
 unfold Bits.getP
 rw [if_neg (by rw [Bits.chk_yes right_five];simp),if_neg (by decide),if_neg (by decide)]
 rfl
theorem put5 (S:Mem):ACall Tryz.prog 13 #[.agg #[.string ByteArray.empty,.int .i64 0],.int .u64 5,.int .i64 3] S fun r S'=>r = .tuple #[.agg #[.string five,.int .i64 3],.int .i64 0]∧S'=S:=by
 have hck:=fun S=>bitsV_Check ByteArray.empty 0 S (by decide)
 rw [Bits.chk_yes (show Bits.right ByteArray.empty.data.toList 0 from ⟨by decide,by decide,by decide,fun i h1 h2=>by simp at h2⟩)] at hck
 refine k_E3 (rs:=[.cell 6 49,.tmp 7]) 45 Tryz.func13 rfl rfl rfl ?_
 iterate 2 refine s1_ ?_
 refine ARun.boxA (cs:=[_,_]) (lit_lt rfl) rfl ?_
 intro b3 f3
 have g3:=f3
 repeat ((with_reducible replace g3:=fresh_set g3);obtain ⟨g3,_⟩:=g3)
 refine nl_ ?_
 refine ARun.alloc (lit_lt rfl) ty_zero_49 ?_
 intro b6 f6
 have g6:=f6
 repeat ((with_reducible replace g6:=fresh_set g6);obtain ⟨g6,_⟩:=g6)
 refine nl_ ?_
 iterate 7 refine s1_ ?_
 refine ca_ rfl (hck _) ?_
 rintro _ _ ⟨rfl,rfl⟩
 iterate 9 refine s1_ ?_
 refine cF_ ?_
 iterate 7 refine s1_ ?_
 refine ca_ rfl (bits_wide 3 _) ?_
 rintro _ _ ⟨rfl,rfl⟩
 iterate 3 refine s1_ ?_
 refine ARun.callG 3 false 20 rfl (lit_lt rfl) rfl (lit_lt rfl) go_34 rfl (len5 _) ?_
 rintro _ _ ⟨rfl,rfl⟩
 iterate 6 refine s1_ ?_
 refine cF_ ?_
 iterate 10 refine s1_ ?_
 refine cF_ ?_
 iterate 6 refine s1_ ?_
 refine ARun.boxA (cs:=[_,_,_]) (lit_lt rfl) rfl ?_
 intro b35 f35
 have g35:=f35
 repeat ((with_reducible replace g35:=fresh_set g35);obtain ⟨g35,_⟩:=g35)
 refine nl_ ?_
 iterate 3 refine s1_ ?_
 refine k_v11 0 1 2 3 6 7 8 13 16 27 9 ?_
 rw [← wrM_nil]
 have hm3:=own_wrM_ok (okW_nil f35) (b:=b3) (r:=⟨49,[.string ByteArray.empty,.int .i64 0],2⟩) own_
 iterate 4 refine s1_ ?_
 refine ca_ rfl (copy0 b35 _ _ f35) ?_
 rintro _ _ ⟨rfl,rfl⟩
 iterate 7 refine s1_ ?_
 refine ca_ rfl (bitsV_AddI b35 5 3 _ none _ (by decide) (by decide) (by decide) (by decide) (by decide) (okW_nil f35)) ?_
 rintro _ _ ⟨rfl,o2,hk2,rfl⟩
 iterate 5 refine s1_ ?_
 refine ca_ rfl (bitsV_Bits b35 _ o2 _ (by decide) hk2) ?_
 rintro _ _ ⟨rfl,rfl⟩
 iterate 5 refine s1_ ?_
 refine ⟨_,S,⟨_,_,_,rfl,.inr ⟨ty_agg_49,[_,_],ty_size_49,rds_,rfl⟩,⟨_,_,rfl,rfl,rfl⟩,rfl⟩,less_,?_⟩
 exact ⟨rfl,rfl⟩
theorem top_begins (S:Mem):ACall Tryz.prog 4 #[] S fun r S'=>r = .bool true∧S'=S:=by
 have c2:=fun S=>bitsV_Get five 3 0 3 S (by decide) (by decide) (by decide)
 rw [get_five] at c2
 unfold Bits.two at c2
 refine ACall.enter (rs:=[.tmp 0]) 30 [] Tryz.func4 rfl rfl (Nat.le_of_ble_eq_true rfl) rfl trivial ?_
 iterate 8 refine s1_ ?_
 refine ca_ rfl (put5 _) ?_
 rintro _ Sx ⟨rfl,h1⟩
 rw [h1];clear h1 Sx
 iterate 3 refine s1_ ?_
 refine ARun.alloc (lit_lt rfl) ty_zero_49 ?_
 intro b1 f1
 have g1:=f1
 repeat ((with_reducible replace g1:=fresh_set g1);obtain ⟨g1,_⟩:=g1)
 refine nl_ ?_
 iterate 7 refine s1_ ?_
 refine ca_ rfl (c2 _) ?_
 rintro _ Sx ⟨rfl,h1⟩
 rw [h1];clear h1 Sx
 iterate 28 refine s1_ ?_
 refine ⟨_,S,⟨_,_,rfl,rfl,rfl⟩,less_,?_⟩
 exact ⟨rfl,rfl⟩
end Top
end
section
open Go.RowKit
open Mv
theorem push_sub {α : Type} {b c n:Nat} {L:List α} {x : α} (h:n=L.length+1):some (outV (some (b,c)) n)=some (outV (some (b,c)) (L ++ [x]).length):=by
 rw [h,List.length_append];rfl
theorem sq_ {p:Prop} (h:p:=by first | rfl | (refine some_int ?_;first | omega | (dsimp only;omega)) | exact push_sub (by first | rfl | omega)):p:=h
def RdL {α : Type} (g : α→Value) (l:List α) (S:Mem) (r:Value) (S':Mem):Prop:=S.Less S'∧Sl 1 (fun x=>[g x]) S' r l
theorem RdL.of_out {α : Type} {g : α→Value} {S:Mem} {o:Option (Nat × Nat)} {e:TypeId} {l:List α} {n:Nat} (h:OkO S o n) (hn:l.length=n) (hm:n≤9223372036854775807):RdL g l S (outV o n) (outM S o e (l.map g)) :=
 ⟨outM_over h,sl_outV h hn hm⟩
def NewL {α : Type} (g : α→Value) (e:TypeId) (l:List α) (S:Mem) (r:Value) (S':Mem):Prop:=∃ o,OkO S o l.length∧r=outV o l.length∧S'=outM S o e (l.map g)
theorem NewL.rd {α : Type} {g : α→Value} {e:TypeId} {l:List α} {S:Mem} {r:Value} {S':Mem} (h:NewL g e l S r S') (hm:l.length≤9223372036854775807):RdL g l S r S':=by
 obtain ⟨o,ho,rfl,rfl⟩:=h
 exact RdL.of_out ho rfl hm
end
section
open Go.RowKit
open Mv Disk Num
set_option maxRecDepth 4000
namespace Top
theorem dec_big (a:Nat):decide ((a:Int)<1099511627776)=decide (a<1099511627776):=by rw [Bool.eq_iff_iff];simp only [decide_eq_true_eq];omega
theorem all_step {x:List Nat} {j:Nat} (h:j<x.length):((x.take (j+1)).all fun n=>decide (n<1099511627776))=(((x.take j).all fun n=>decide (n<1099511627776)) && decide (x[j]<1099511627776)):=by
 rw [List.take_succ_eq_append_getElem h,List.all_append];simp
set_option maxHeartbeats 2000000 in
theorem top_records (v:Value) (l:List (List Nat)) (w:Nat) (S:Mem) (hl:SlOf RowR S v l) (hll:l.length≤5864062014634) :
  ACall Tryz.prog 5 #[v,.int .i64 (w:Int)] S fun r S'=>S.Less S'∧SlOf RowR S' r (recsL l w):=by
 obtain ⟨gs,hgl,⟨pa,ca,rfl,a1,a2,a3⟩,hge⟩:=id hl
 unfold recsL
 have hst:∀ i (h:i<l.length),(l.take (i+1)).foldl (recS w) []=recS w ((l.take i).foldl (recS w) []) l[i]:=fun i h=>by
  rw [List.take_succ_eq_append_getElem h,List.foldl_append];rfl
 refine k_E2 (rs:=[.tmp 4]) 45 Tryz.func5 rfl rfl rfl ?_
 iterate 19 refine s1_ ?_
 refine AWP.loop (X:=Nat × Option (Nat × Nat) × List Value) (fun x=>[(1,.int .i64 (w:Int)),(5,outV x.2.1 x.2.2.length),(11,.slice pa gs.length ca),(12,.int .i64 (gs.length:Int)),(13,.int .i64 (x.1:Int))]) (fun x=>outM S x.2.1 46 x.2.2) (fun x=>x.1≤l.length∧x.2.2.length≤x.1∧GrowI RowR S S x.2.1 x.2.2 ((l.take x.1).foldl (recS w) [])) (fun x=>l.length-x.1) ((0,none,[])) ⟨rfl,rfl,rfl,rfl,rfl,trivial⟩ (Mem.Less.refl _) (⟨Nat.zero_le _,Nat.le_refl _,GrowI.nil _ _⟩) ?_
 rintro ⟨i,o,hs⟩ ⟨hi,hhs,hI⟩
 (try dsimp only at *)
 by_cases q:i<l.length
 ·have hlen:=hI.len
  obtain ⟨oa,oc,hqo⟩:=outV_eq hI.ok
  iterate 6 refine s1_ ?_
  refine cT_ ?_
  obtain ⟨b0,off,rfl,hkn⟩:=a3.resolve_left (fun e=>by rw [e] at hgl;simp at hgl;omega)
  have hki:=(hkn i (by omega)).less (outM_over (e:=46) (cs:=hs) hI.ok)
  have hr:=hge i q (by omega)
  obtain ⟨xa,xc,hxe,x1,x2,x3⟩:=id hr
  have hxe:gs[i] = .slice xa l[i].length xc:=hxe
  rw [hxe] at hki hr
  have hst:=(hst i q).trans (show recS w ((l.take i).foldl (recS w) []) l[i]=if l[i].length=w∧((l.take i).foldl (recS w) []).length<40∧(l[i].all fun n=>decide (n<1099511627776))=true then (l.take i).foldl (recS w) [] ++ [l[i]] else (l.take i).foldl (recS w) [] from rfl)
  generalize hX:l[i]=X at *
  by_cases q1:X.length=w∧hs.length<40
  ·iterate 11 refine s1_ ?_
   iterate 5 refine s1_ ?_
   refine rC (Calm.bin rfl rfl (bin_bool (bin_eql _ _) (decide_eq_true (by omega)))) ?_
   iterate 2 refine s1_ ?_
   first|refine k_q 21 ?_|refine rG 21 ((by rw [hqo];exact Calm.lenSl Tryz.underlying22 rfl)) ?_
   first|refine k_q 21 ?_|refine rG 21 (Calm.bin rfl rfl (bin_bool (bin_lss _ _) (decide_eq_true (by omega)))) ?_
   iterate 13 refine s1_ ?_
   refine AWP.loop (X:=Nat) (fun j=>[(1,.int .i64 (w:Int)),(5,outV o hs.length),(7,.slice xa X.length xc),(8,.bool ((X.take j).all fun n=>decide (n<1099511627776))),(11,.slice (some ⟨b0,off,none⟩) gs.length ca),(12,.int .i64 (gs.length:Int)),(13,.int .i64 (i:Int)),(26,.slice xa X.length xc),(27,.int .i64 (X.length:Int)),(28,.int .i64 (j:Int))]) (fun j=>outM S o 46 hs) (fun j=>j≤X.length) (fun j=>X.length-j) (0) ⟨rfl,rfl,rfl,rfl,rfl,rfl,rfl,rfl,rfl,rfl,trivial⟩ (Mem.Less.refl _) (Nat.zero_le _) ?_
   rintro j hj
   (try dsimp only at *)
   by_cases qj:j<X.length
   ·iterate 6 refine s1_ ?_
    refine cT_ ?_
    obtain ⟨xb,xo,rfl,hxk⟩:=x3.resolve_left (fun e=>by subst e;exact absurd qj (Nat.not_lt_zero _))
    have hxj:=(hxk j qj).less (outM_over (e:=46) (cs:=hs) hI.ok)
    have hall:=all_step qj
    by_cases qa:((X.take j).all fun n=>decide (n<1099511627776))=true
    ·rw [qa] at hall ⊢
     iterate 15 refine s1_ ?_
     first|refine k_q 33 ?_|refine rG 33 (Calm.bin rfl rfl (bin_bool (bin_lss _ _) (dec_big _))) ?_
     iterate 10 refine s1_ ?_
     refine ⟨j+1,?_,?_,?_,?_⟩
     all_goals (try dsimp only)
     ·exact ⟨rfl,rfl,rfl,(by rw [hall];rfl),rfl,rfl,rfl,rfl,rfl,rfl,trivial⟩
     ·exact Mem.Less.refl _
     ·exact qj
     ·omega
    ·have qa:((X.take j).all fun n=>decide (n<1099511627776))=false:=by simpa using qa
     rw [qa] at hall ⊢
     iterate 11 refine s1_ ?_
     refine k_v12 1 5 7 8 11 12 13 26 27 28 29 10 ?_
     iterate 15 refine s1_ ?_
     refine ⟨j+1,?_,?_,?_,?_⟩
     all_goals (try dsimp only)
     ·exact ⟨rfl,rfl,rfl,(by rw [hall];rfl),rfl,rfl,rfl,rfl,rfl,rfl,trivial⟩
     ·exact Mem.Less.refl _
     ·exact qj
     ·omega
   ·obtain rfl:j=X.length:=by omega
    iterate 6 refine s1_ ?_
    refine cF_ ?_
    rw [List.take_length]
    by_cases qa:(X.all fun n=>decide (n<1099511627776))=true
    ·rw [qa]
     iterate 10 refine s1_ ?_
     refine cT_ ?_
     iterate 3 refine s1_ ?_
     refine ARun.build1s (lit_lt rfl) ty_sl_22 rfl rfl ?_
     intro b41 f41
     have g41:=f41
     repeat ((with_reducible replace g41:=fresh_set g41);obtain ⟨g41,_⟩:=g41)
     refine ARun.appendO (lit_lt rfl) ty_sl_22 rfl rfl (appO_of hI.ok rfl f41) rfl (news:=[_]) rds_ rfl (by omega) (by simp [Value.oneCell']) (by omega) (by omega) ?_
     intro b42 c42 hoo
     rw [if_pos ⟨q1.1,by omega,qa⟩] at hst
     have hI2:=hI.step rowR_less (Mem.Less.refl _) hr hoo
     rw [← hst] at hI2
     iterate 9 refine s1_ ?_
     refine ⟨(i+1,some (b42,c42),hs ++ [.slice xa X.length xc]),?_,?_,?_,?_⟩
     all_goals (try dsimp only)
     ·exact ⟨rfl,sq_,rfl,rfl,sq_,trivial⟩
     ·exact Mem.Less.refl _
     ·exact ⟨q,by rw [List.length_append];show hs.length+1≤i+1;omega,hI2⟩
     ·omega
    ·have qa:(X.all fun n=>decide (n<1099511627776))=false:=by simpa using qa
     rw [qa]
     iterate 10 refine s1_ ?_
     refine cF_ ?_
     rw [if_neg (fun h=>by rw [qa] at h;exact absurd h.2.2 (by simp))] at hst
     rw [← hst] at hI
     iterate 8 refine s1_ ?_
     refine ⟨(i+1,o,hs),?_,?_,?_,?_⟩
     all_goals (try dsimp only)
     ·exact ⟨rfl,rfl,rfl,rfl,rfl,trivial⟩
     ·exact Mem.Less.refl _
     ·exact ⟨q,by omega,hI⟩
     ·omega
  ·rcases (show X.length≠w∨X.length=w ∧ ¬ hs.length<40 from by omega) with q2 | ⟨q2,q3⟩
   ·iterate 11 refine s1_ ?_
    iterate 5 refine s1_ ?_
    refine rC (Calm.bin rfl rfl (bin_bool (bin_eql _ _) (decide_eq_false (by omega)))) ?_
    iterate 17 refine s1_ ?_
    refine AWP.loop (X:=Nat) (fun j=>[(1,.int .i64 (w:Int)),(5,outV o hs.length),(7,.slice xa X.length xc),(8,.bool false),(11,.slice (some ⟨b0,off,none⟩) gs.length ca),(12,.int .i64 (gs.length:Int)),(13,.int .i64 (i:Int)),(26,.slice xa X.length xc),(27,.int .i64 (X.length:Int)),(28,.int .i64 (j:Int))]) (fun j=>outM S o 46 hs) (fun j=>j≤X.length) (fun j=>X.length-j) (0) ⟨rfl,rfl,rfl,rfl,rfl,rfl,rfl,rfl,rfl,rfl,trivial⟩ (Mem.Less.refl _) (Nat.zero_le _) ?_
    rintro j hj
    (try dsimp only at *)
    by_cases qj:j<X.length
    ·iterate 6 refine s1_ ?_
     refine cT_ ?_
     obtain ⟨xb,xo,rfl,hxk⟩:=x3.resolve_left (fun e=>by subst e;exact absurd qj (Nat.not_lt_zero _))
     have hxj:=(hxk j qj).less (outM_over (e:=46) (cs:=hs) hI.ok)
     iterate 11 refine s1_ ?_
     refine k_v12 1 5 7 8 11 12 13 26 27 28 29 10 ?_
     iterate 15 refine s1_ ?_
     refine ⟨j+1,?_,?_,?_,?_⟩
     all_goals (try dsimp only)
     ·exact ⟨rfl,rfl,rfl,rfl,rfl,rfl,rfl,rfl,rfl,rfl,trivial⟩
     ·exact Mem.Less.refl _
     ·exact qj
     ·omega
    ·iterate 6 refine s1_ ?_
     refine cF_ ?_
     iterate 10 refine s1_ ?_
     refine cF_ ?_
     rw [if_neg (fun h=>q1 ⟨h.1,by omega⟩)] at hst
     rw [← hst] at hI
     iterate 8 refine s1_ ?_
     refine ⟨(i+1,o,hs),?_,?_,?_,?_⟩
     all_goals (try dsimp only)
     ·exact ⟨rfl,rfl,rfl,rfl,rfl,trivial⟩
     ·exact Mem.Less.refl _
     ·exact ⟨q,by omega,hI⟩
     ·omega
   ·iterate 11 refine s1_ ?_
    iterate 5 refine s1_ ?_
    refine rC (Calm.bin rfl rfl (bin_bool (bin_eql _ _) (decide_eq_true (by omega)))) ?_
    iterate 2 refine s1_ ?_
    first|refine k_q 21 ?_|refine rG 21 ((by rw [hqo];exact Calm.lenSl Tryz.underlying22 rfl)) ?_
    first|refine k_q 21 ?_|refine rG 21 (Calm.bin rfl rfl (bin_bool (bin_lss _ _) (decide_eq_false (by omega)))) ?_
    iterate 13 refine s1_ ?_
    refine AWP.loop (X:=Nat) (fun j=>[(1,.int .i64 (w:Int)),(5,outV o hs.length),(7,.slice xa X.length xc),(8,.bool false),(11,.slice (some ⟨b0,off,none⟩) gs.length ca),(12,.int .i64 (gs.length:Int)),(13,.int .i64 (i:Int)),(26,.slice xa X.length xc),(27,.int .i64 (X.length:Int)),(28,.int .i64 (j:Int))]) (fun j=>outM S o 46 hs) (fun j=>j≤X.length) (fun j=>X.length-j) (0) ⟨rfl,rfl,rfl,rfl,rfl,rfl,rfl,rfl,rfl,rfl,trivial⟩ (Mem.Less.refl _) (Nat.zero_le _) ?_
    rintro j hj
    (try dsimp only at *)
    by_cases qj:j<X.length
    ·iterate 6 refine s1_ ?_
     refine cT_ ?_
     obtain ⟨xb,xo,rfl,hxk⟩:=x3.resolve_left (fun e=>by subst e;exact absurd qj (Nat.not_lt_zero _))
     have hxj:=(hxk j qj).less (outM_over (e:=46) (cs:=hs) hI.ok)
     iterate 21 refine s1_ ?_
     refine k_v12 1 5 7 8 11 12 13 26 27 28 29 10 ?_
     iterate 5 refine s1_ ?_
     refine ⟨j+1,?_,?_,?_,?_⟩
     all_goals (try dsimp only)
     ·exact ⟨rfl,rfl,rfl,rfl,rfl,rfl,rfl,rfl,rfl,rfl,trivial⟩
     ·exact Mem.Less.refl _
     ·exact qj
     ·omega
    ·iterate 6 refine s1_ ?_
     refine cF_ ?_
     iterate 10 refine s1_ ?_
     refine cF_ ?_
     rw [if_neg (fun h=>q1 ⟨h.1,by omega⟩)] at hst
     rw [← hst] at hI
     iterate 8 refine s1_ ?_
     refine ⟨(i+1,o,hs),?_,?_,?_,?_⟩
     all_goals (try dsimp only)
     ·exact ⟨rfl,rfl,rfl,rfl,rfl,trivial⟩
     ·exact Mem.Less.refl _
     ·exact ⟨q,by omega,hI⟩
     ·omega
 ·obtain rfl:i=l.length:=by omega
  iterate 6 refine s1_ ?_
  refine cF_ ?_
  rw [List.take_length] at hI
  iterate 12 refine s1_ ?_
  refine ⟨_,_,⟨_,_,rfl,rfl,rfl⟩,Mem.Less.refl _,?_⟩
  exact ⟨outM_over hI.ok,hI.slOf rowR_less (by omega)⟩
end Top
end
section
open Go.RowKit
open Mv Disk Num Sto Run
set_option maxRecDepth 4000
namespace Top
def ErrO (S:Mem):Prop:=∃ u v,S.Knows ⟨0,0,none⟩ [.iface u v]
def nR:ByteArray:=⟨#[114]⟩
theorem less_two {M:Mem} {a b:Nat} {A B C E:Blk} (hb:Fresh (M.set a A) b):(M.set a C).Less ((((M.set a A).set b B).set a C).set b E):=by
 obtain ⟨h1,hne⟩:=fresh_set hb
 refine ⟨fun k r hk=>?_,rfl⟩
 by_cases e:k=b
 ·subst e;rw [Mem.own_set_other _ _ hne,h1.1] at hk;cases hk
 ·rw [Mem.own_set_other _ _ e]
  by_cases e2:k=a
  ·subst e2;rw [Mem.own_set_same] at hk ⊢;exact hk
  ·rw [Mem.own_set_other _ _ e2] at hk ⊢
   rw [Mem.own_set_other _ _ e,Mem.own_set_other _ _ e2];exact hk
set_option maxHeartbeats 8000000 in
theorem law_TopMerged (v:Value) (l:List (List Nat)) (w:Int) (S:Mem) (hl:SlOf RowR S v l) (hll:l.length≤5864062014634) (hEO:ErrO S) :
  ACall Tryz.prog 3 #[v,.int .i64 w] S fun r S'=>r = .bool true:=by
 obtain ⟨gs,hgl,⟨pk,ck,ev,_⟩,_⟩:=id hl
 rw [hgl] at ev
 subst ev
 by_cases q1:w<1
 ·skip
  refine k_E2 (rs:=[.tmp 4]) 186 Tryz.func3 rfl rfl rfl ?_
  iterate 8 refine s1_ ?_
  refine ca_ rfl (top_begins _) ?_
  rintro _ Sx ⟨rfl,h1⟩
  rw [h1];clear h1 Sx
  iterate 3 refine s1_ ?_
  refine cF_ ?_
  iterate 6 refine s1_ ?_
  refine rC (Calm.bin rfl rfl (bin_bool (bin_lss _ _) (decide_eq_true q1))) ?_
  iterate 6 refine s1_ ?_
  refine cT_ ?_
  iterate 7 refine s1_ ?_
  refine ⟨_,_,⟨_,_,rfl,rfl,rfl⟩,less_,?_⟩
  rfl
 by_cases q2:8<w
 ·skip
  refine k_E2 (rs:=[.tmp 4]) 186 Tryz.func3 rfl rfl rfl ?_
  iterate 8 refine s1_ ?_
  refine ca_ rfl (top_begins _) ?_
  rintro _ Sx ⟨rfl,h1⟩
  rw [h1];clear h1 Sx
  iterate 3 refine s1_ ?_
  refine cF_ ?_
  iterate 6 refine s1_ ?_
  refine rC (Calm.bin rfl rfl (bin_bool (bin_lss _ _) (decide_eq_false q1))) ?_
  iterate 2 refine s1_ ?_
  first|refine k_q 33 ?_|refine rG 33 (Calm.bin rfl rfl (bin_bool (bin_gtr _ _) (decide_eq_true q2))) ?_
  iterate 3 refine s1_ ?_
  refine cT_ ?_
  iterate 7 refine s1_ ?_
  refine ⟨_,_,⟨_,_,rfl,rfl,rfl⟩,less_,?_⟩
  rfl
 obtain ⟨eu,ex,hE⟩:=hEO
 obtain ⟨w,rfl⟩:=Int.eq_ofNat_of_zero_le (show 0≤w by omega)
 have w1:1≤w:=by omega
 have w8:w≤8:=by omega
 have hrec:=top_records _ l w S hl hll
 obtain ⟨hk40,hall⟩:=recsL_ok (w:=w) w1 w8 l
 have hbig:∀ x ∈ recsL l w,∀ n ∈ x,n<18446744073709551616:=fun x hx n hn=>Nat.lt_of_lt_of_le ((Rec.row_all hall x hx).2 n hn) (by decide)
 generalize recsL l w=ks at *
 have hrows:=rowsOK_all hall
 obtain ⟨z,z1,z2,z3,z4,z5,z6⟩:=file_fresh (n:=600) (s:=nA) (w:=w) (l:=ks) (by decide) (by decide) (by decide) w1 w8 hall (by omega)
 have hneed:Rec.needN w ks.length≤2+ks.length:=need_le w8
 have hN:=sizeN_ge w1 w8
 have hw40:w*ks.length≤320:=Nat.mul_le_mul w8 hk40
 have dz0:Dz (freshD 600):=dz_right (right_fresh (by decide) (by decide)) (by decide)
 have dz1:Dz z:=dz_right z2.r (by rw [z2.f];decide)
 have oz1:openD z=(z,0):=open_ok z2.r z2.u
 have c0:∀ S,ACall Tryz.prog 6 #[.int .i64 600] S (DkRes (freshD 600,0) S):=fun S=>by have:=disk_Make 600 S;rw [make_fresh (by decide) (by decide)] at this;exact this
 have c1:=fun v vl S hd hl=>Rec.rec_Write v (freshD 600) nA w ks vl S hd dz0 hl hbig
 rw [z1] at c1
 have hA:∀ j,nA≠nameS nR j:=fun j e=>by have:=congrArg ByteArray.size e;rw [nameS_size] at this;exact absurd this (by show ¬ (1=1+4);decide)
 have hB:∀ j,nB≠nameS nR j:=fun j e=>by have:=congrArg ByteArray.size e;rw [nameS_size] at this;exact absurd this (by show ¬ (1=1+4);decide)
 have c2:=fun v S hd=>run_Cut v z nA nR w 24 ks S hd dz1 oz1 z2 z6 (by decide) (by decide) w1 w8 hrows (by omega) (by rw [Nat.mul_assoc];omega) (by decide) (by decide) (by decide) hA (fun j=>z5 _ (Ne.symm (hA j))) (by rw [z4,z3];omega)
 clear dz0 z1
 generalize freshD 600=z0 at *
 refine k_E2 (rs:=[.tmp 4]) 186 Tryz.func3 rfl rfl rfl ?_
 iterate 8 refine s1_ ?_
 refine ca_ rfl (top_begins _) ?_
 rintro _ Sx ⟨rfl,h1⟩
 rw [h1];clear h1 Sx
 iterate 3 refine s1_ ?_
 refine k_v4 0 1 4 30 ?_
 refine cF_ ?_
 iterate 6 refine s1_ ?_
 refine rC (Calm.bin rfl rfl (bin_bool (bin_lss _ _) (decide_eq_false q1))) ?_
 iterate 2 refine s1_ ?_
 first|refine k_q 33 ?_|refine rG 33 (Calm.bin rfl rfl (bin_bool (bin_gtr _ _) (decide_eq_false q2))) ?_
 iterate 3 refine s1_ ?_
 refine cF_ ?_
 iterate 6 refine s1_ ?_
 refine ca_ rfl (hrec) ?_
 rintro r S1 ⟨hS1,hr⟩
 obtain ⟨hs,hlen,⟨pr,cr,rfl,_⟩,_⟩:=id hr
 rw [hlen] at hr ⊢
 iterate 5 refine s1_ ?_
 refine ca_ rfl (c0 _) ?_
 rintro _ M2 ⟨v2,rfl,hM2,hd2⟩
 have hd2:DkR M2 _ z0:=hd2
 obtain ⟨qe2,de2,qw2,dw2,rfl,_⟩:=id hd2
 iterate 3 refine s1_ ?_
 refine ARun.alloc (lit_lt rfl) ty_zero_28 ?_
 intro b5 f5
 have g5:=f5
 repeat ((with_reducible replace g5:=fresh_set g5);obtain ⟨g5,_⟩:=g5)
 refine nl_ ?_
 iterate 9 refine s1_ ?_
 refine ca_ rfl ((c1 _ _ M2 hd2 (hr.less rowR_less hM2)).frame f5) ?_
 rintro _ Sx ⟨M3,⟨v3,rfl,hM3,hd3⟩,fa,h1⟩
 rw [h1];clear h1 Sx
 have hd3:DkR M3 _ z:=hd3
 obtain ⟨qe3,de3,qw3,dw3,rfl,_⟩:=id hd3
 iterate 10 refine s1_ ?_
 refine ca_ rfl ((c2 _ M3 hd3).frame fa) ?_
 rintro _ Sx ⟨M4,⟨v4,y,done,k1,k2,k3,rfl,hM4,hd4,hC⟩,fb,h1⟩
 rw [h1];clear h1 Sx
 obtain ⟨qe4,de4,qw4,dw4,rfl,_⟩:=id hd4
 iterate 5 refine s1_ ?_
 refine ARun.alloc (lit_lt rfl) ty_zero_35 ?_
 intro b9 f9
 have g9:=f9
 repeat ((with_reducible replace g9:=fresh_set g9);obtain ⟨g9,_⟩:=g9)
 refine nl_ ?_
 iterate 6 refine s1_ ?_
 refine k_v10 0 1 4 30 36 5 6 7 8 10 ?_
 refine AWP.less (M4.set b5 ⟨28,[.int .i64 y.d.size,.slice qe4 y.d.ext.length de4,.slice qw4 y.d.waits.length dw4,.int .i64 y.d.fuse,.bool y.d.down],5⟩) (less_two f9) ?_
 iterate 15 refine s1_ ?_
 refine cF_ ?_
 by_cases hd0:done.length=0
 ·iterate 6 refine s1_ ?_
  refine rC (Calm.bin rfl rfl (bin_bool (bin_eql _ _) (decide_eq_true (by omega)))) ?_
  iterate 2 refine s1_ ?_
  refine cT_ ?_
  have hk0:ks.length=0:=by rw [← hC.pm.length_eq,List.eq_nil_of_length_eq_zero hd0];rfl
  iterate 4 refine s1_ ?_
  refine rC (Calm.bin rfl rfl (bin_bool (bin_eql _ _) (decide_eq_true (by omega)))) ?_
  iterate 5 refine s1_ ?_
  refine ⟨_,_,⟨_,_,rfl,rfl,rfl⟩,less_,?_⟩
  rfl
 ·iterate 6 refine s1_ ?_
  refine rC (Calm.bin rfl rfl (bin_bool (bin_eql _ _) (decide_eq_false (by omega)))) ?_
  iterate 2 refine s1_ ?_
  refine cF_ ?_
  have hdl:done.length≤2:=by
   rcases hC.mn with h | h
   ·omega
   ·have:=Nat.mul_le_mul_left (done.length-1) hN
    omega
  iterate 14 refine s1_ ?_
  refine AWP.loop (X:=Nat × Option (Nat × Nat)) (fun x=>[(0,.slice pr ks.length cr),(1,.int .i64 (w:Int)),(5,.pointer (some ⟨b5,0,none⟩)),(8,.int .i64 (done.length:Int)),(11,outV x.2 x.1),(12,.int .i64 (x.1:Int))]) (fun x=>outM (M4.set b5 ⟨28,[.int .i64 y.d.size,.slice qe4 y.d.ext.length de4,.slice qw4 y.d.waits.length dw4,.int .i64 y.d.fuse,.bool y.d.down],5⟩) x.2 9 ((names nR x.1).map .string)) (fun x=>x.1≤done.length∧OkO (M4.set b5 ⟨28,[.int .i64 y.d.size,.slice qe4 y.d.ext.length de4,.slice qw4 y.d.waits.length dw4,.int .i64 y.d.fuse,.bool y.d.down],5⟩) x.2 x.1) (fun x=>done.length-x.1) ((0,none)) ⟨rfl,rfl,rfl,rfl,rfl,rfl,trivial⟩ (Mem.Less.refl _) (⟨Nat.zero_le _,okO_nil _⟩) ?_
  rintro ⟨i,o⟩ ⟨hi,ho⟩
  (try dsimp only at *)
  by_cases q:i<done.length
  ·iterate 8 refine s1_ ?_
   refine k_v7 0 1 5 8 11 12 75 ?_
   refine cT_ ?_
   iterate 7 refine s1_ ?_
   refine ca_ rfl (run_Name nR i _ (by decide) (by decide) (by omega)) ?_
   rintro _ Sx ⟨rfl,h1⟩
   rw [h1];clear h1 Sx
   iterate 10 refine s1_ ?_
   refine ARun.build1s (lit_lt rfl) ty_sl_38 rfl rfl ?_
   intro b85 f85
   have g85:=f85
   repeat ((with_reducible replace g85:=fresh_set g85);obtain ⟨g85,_⟩:=g85)
   refine ARun.appendO (lit_lt rfl) ty_sl_38 rfl (by rw [List.length_map,names_len]) (appO_of ho (by rw [List.length_map,names_len]) f85) rfl (news:=[_]) rds_ rfl (by omega) (by simp [Value.oneCell']) (by omega) (by omega) ?_
   intro b86 c86 hoo
   iterate 10 refine s1_ ?_
   refine ⟨(i+1,some (b86,c86)),?_,?_,?_,?_⟩
   all_goals (try dsimp only)
   ·exact ⟨rfl,rfl,rfl,rfl,rfl,rfl,trivial⟩
   ·show Mem.Less (outM _ _ _ _) _;rw [names_succ,List.map_append];exact Mem.Less.refl _
   ·exact ⟨q,hoo⟩
   ·omega
  ·obtain rfl:i=done.length:=by omega
   iterate 8 refine s1_ ?_
   refine cF_ ?_
   obtain ⟨bo,co,rfl⟩:=ho.some (by omega)
   obtain ⟨ho4,hob⟩:=fresh_set (ho.own _ _ rfl).1
   have fc:Fresh (outM M4 (some (bo,co)) 9 ((names nR done.length).map .string)) b5:=fresh_more fb (Ne.symm hob)
   have hnms:Sl 1 Sto.strs (outM M4 (some (bo,co)) 9 ((names nR done.length).map .string)) (outV (some (bo,co)) done.length) (names nR done.length):=sl_outV (g:=Value.string) ho.unset (names_len _ _) (by omega)
   have hL4:M4.Less (outM M4 (some (bo,co)) 9 ((names nR done.length).map .string)):=outM_over ho.unset
   refine AWP.less ((outM M4 (some (bo,co)) 9 ((names nR done.length).map .string)).set b5 ⟨28,[.int .i64 y.d.size,.slice qe4 y.d.ext.length de4,.slice qw4 y.d.waits.length dw4,.int .i64 y.d.fuse,.bool y.d.down],5⟩) (by rw [outM_set _ _ _ _ _ _ (fun q c e=>by cases e;exact Ne.symm hob)];exact Mem.Less.refl _) ?_
   have hsum:sumL done=ks.length:=(sum_flat done).trans hC.pm.length_eq
   have hmg:=mg_Merge _ y.d w 24 nB _ (names nR done.length) done _ eu ex (hd4.less hL4) (dz_right hC.dw.r (by rw [hC.dw.f];decide)) (open_ok hC.dw.r hC.dw.u) hC.dw (by decide) (by decide) hnms (hE.less (((hS1.trans hM2).trans hM3).trans (hM4.trans hL4))) (names_len _ _) (fun j h h'=>by rw [names_get];exact hC.dn j h) (fun f hf=>⟨(hC.so f hf).1,(hC.so f hf).2.1,by have h1:=(List.sublist_flatten_of_mem hf).length_le;have h2:=hC.pm.length_eq;omega⟩) (fun i j h h' hne e=>hne (by rw [names_len] at h h';rw [names_get,names_get] at e;exact nameS_inj (by omega) (by omega) e)) (fun s' hs'=>by obtain ⟨j,_,rfl⟩:=List.mem_map.1 hs';exact ⟨by rw [nameS_size];decide,Ne.symm (hB j)⟩) w1 w8 (by omega) (by omega) (by omega) (by decide) (by rw [hC.ot nB hB,z5 nB (by decide)]) (by have h1:=hC.ud;have h2:=need_le (w:=w) (c:=sumL done) w8;rw [hC.z,z3];omega) (by have:=Nat.mul_le_mul w8 (show done.length+2*sumL done+2≤84 by omega);rw [Nat.mul_assoc];omega)
   iterate 9 refine s1_ ?_
   refine ca_ rfl (hmg.frame fc) ?_
   rintro _ Sx ⟨M5,⟨v5,y5,out,k4,k5,k6,rfl,hM5,hd5,hw5,hpm,hso,hfi⟩,fd,h1⟩
   rw [h1];clear h1 Sx
   obtain ⟨qe5,de5,qw5,dw5,rfl,_⟩:=id hd5
   iterate 4 refine s1_ ?_
   refine ARun.alloc (lit_lt rfl) ty_zero_35 ?_
   intro b15 f15
   have g15:=f15
   repeat ((with_reducible replace g15:=fresh_set g15);obtain ⟨g15,_⟩:=g15)
   refine nl_ ?_
   iterate 5 refine s1_ ?_
   refine AWP.less (M5.set b5 ⟨28,[.int .i64 y5.d.size,.slice qe5 y5.d.ext.length de5,.slice qw5 y5.d.waits.length dw5,.int .i64 y5.d.fuse,.bool y5.d.down],5⟩) (less_two f15) ?_
   have g5:=fd
   have hr:=hr.less rowR_less ((((hM2.trans hM3).trans hM4).trans hL4).trans hM5)
   have hpk:=hpm.trans hC.pm
   have hpl:=hpk.length_eq
   have c4:=fun v S h=>Rec.rec_Read v y5.d nB S h (dz_right hw5.r (by rw [hw5.f];decide))
   unfold Rec.ReadR at c4
   rw [Rec.file_rows w1 w8 (by omega) (all_perm hall hpk) hfi] at c4
   simp only at c4
   refine named (S:=M5) (b:=b5) g5.1 ?_
   intro T5 hT5 kb5
   replace hr:=hr.less rowR_less hT5
   replace hd5:=hd5.less hT5
   iterate 3 refine s1_ ?_
   refine ca_ rfl (c4 _ _ hd5) ?_
   rintro _ S6 ⟨v6,rfl,hS6,hr6⟩
   replace hr:=hr.less rowR_less hS6
   replace hd5:=hd5.less hS6
   replace kb5:=hS6.own kb5
   obtain ⟨hs6,hlen6,⟨pr6,cr6,rfl,_⟩,_⟩:=id hr6
   rw [hlen6] at hr6 ⊢
   iterate 9 refine s1_ ?_
   refine k_v11 0 1 5 8 11 12 75 16 17 18 19 ?_
   iterate 23 refine s1_ ?_
   refine cF_ ?_
   iterate 11 refine s1_ ?_
   refine AWP.loop (X:=Nat) (fun x=>[(0,.slice pr ks.length cr),(18,.slice pr6 out.length cr6),(119,.int .i64 (out.length:Int)),(120,.int .i64 (x:Int))]) (fun x=>S6) (fun x=>x≤out.length) (fun x=>out.length-x) (0) ⟨rfl,rfl,rfl,rfl,trivial⟩ (Mem.Less.refl _) (Nat.zero_le _) ?_
   rintro i hi
   (try dsimp only at *)
   by_cases q:i<out.length
   ·iterate 6 refine s1_ ?_
    refine cT_ ?_
    by_cases q0:i=0
    ·subst q0
     iterate 11 refine s1_ ?_
     refine AWP.draw [(0,true),(1,true),(2,true),(3,true),(4,true),(5,true),(6,true),(7,true),(8,true),(9,true),(10,true),(11,true),(12,false),(13,true)] [] mixed (by kernel_rfl) ?_
     iterate 12 refine s1_ ?_
     refine draw_only rfl ?_
     refine s1_ ?_
     refine arun_nil ⟨fun _=>less_,?_⟩
     iterate 3 refine s1_ ?_
     refine cF_ ?_
     iterate 8 refine s1_ ?_
     refine ⟨1,?_,?_,?_,?_⟩
     all_goals (try dsimp only)
     ·exact ⟨rfl,rfl,rfl,rfl,trivial⟩
     ·exact Mem.Less.refl _
     ·exact q
     ·omega
    ·obtain ⟨i,rfl⟩ : ∃ k,i=k+1:=⟨i-1,by omega⟩
     obtain ⟨a1,o1,g1,rfl,k1,x1⟩:=slOf_at hr6 (i+1) q
     obtain ⟨a2,o2,g2,e2,k2,x2⟩:=slOf_at hr6 i (by omega)
     rw [Loser.key_get _ _ q] at x1
     rw [Loser.key_get _ _ (show i<out.length by omega)] at x2
     obtain ⟨rfl,rfl⟩ : a2=a1∧o2=o1:=by cases e2;exact ⟨rfl,rfl⟩
     iterate 10 refine s1_ ?_
     refine k_v6 0 18 119 120 121 20 ?_
     refine s1_ ?_
     refine AWP.draw [(0,true),(1,true),(2,true),(3,true),(4,true),(5,true),(6,true),(7,true),(8,true),(9,true),(10,true),(11,true),(12,false),(13,true)] [] mixed (by kernel_rfl) ?_
     refine s1_ ?_
     refine dP (hc:=fun _=>Calm.bin rfl rfl (bin_bool (bin_gtr _ _) (decide_eq_true (by omega)))) (h:=?_)
     iterate 7 refine s1_ ?_
     first|refine k_d ?_|refine dG (hc:=fun _=>Calm.bin rfl rfl (bin_subW (c:=(i:Int)) (by rw [IntWalk.i64_in _ (by omega)];omega))) (h:=?_)
     iterate 2 refine s1_ ?_
     refine draw_only rfl ?_
     refine ARun.callG 2 true 125 rfl (lit_lt rfl) rfl (lit_lt rfl) go_12 rfl (numV_Less _ _ _ _ _ x1 x2) ?_
     rintro _ Sx ⟨rfl,h1⟩
     rw [h1,sorted_at hso q];clear h1 Sx
     refine arun_nil ⟨fun _=>less_,?_⟩
     iterate 3 refine s1_ ?_
     refine cF_ ?_
     iterate 8 refine s1_ ?_
     refine ⟨i+2,?_,?_,?_,?_⟩
     all_goals (try dsimp only)
     ·exact ⟨rfl,rfl,rfl,rfl,trivial⟩
     ·exact Mem.Less.refl _
     ·exact q
     ·omega
   ·iterate 6 refine s1_ ?_
    refine cF_ ?_
    iterate 14 refine s1_ ?_
    refine AWP.loop (X:=Nat) (fun x=>[(0,.slice pr ks.length cr),(18,.slice pr6 out.length cr6),(138,.slice pr ks.length cr),(139,.int .i64 (ks.length:Int)),(140,.int .i64 (x:Int))]) (fun x=>S6) (fun x=>x≤ks.length) (fun x=>ks.length-x) (0) ⟨rfl,rfl,rfl,rfl,rfl,trivial⟩ (Mem.Less.refl _) (Nat.zero_le _) ?_
    rintro i hi
    (try dsimp only at *)
    by_cases q:i<ks.length
    ·obtain ⟨b0,o0,g0,rfl,k0,x0⟩:=slOf_at hr i q
     obtain ⟨X,hX⟩ : ∃ X,X=ks[i]:=⟨_,rfl⟩
     rw [Loser.key_get ks i q,← hX] at x0
     iterate 6 refine s1_ ?_
     refine cT_ ?_
     iterate 26 refine s1_ ?_
     refine AWP.loop (X:=Nat) (fun j=>[(0,.slice (some ⟨b0,o0,none⟩) ks.length cr),(18,.slice pr6 out.length cr6),(22,g0),(23,.int .i64 ((many X ks j:Nat):Int)),(24,.int .i64 ((0:Nat):Int)),(138,.slice (some ⟨b0,o0,none⟩) ks.length cr),(139,.int .i64 (ks.length:Int)),(140,.int .i64 (i:Int)),(144,.slice (some ⟨b0,o0,none⟩) ks.length cr),(145,.int .i64 (ks.length:Int)),(146,.int .i64 (j:Int))]) (fun j=>S6) (fun j=>j≤ks.length) (fun j=>ks.length-j) (0) ⟨rfl,rfl,rfl,rfl,rfl,rfl,rfl,rfl,rfl,rfl,rfl,trivial⟩ (Mem.Less.refl _) (Nat.zero_le _) ?_
     rintro j hj
     (try dsimp only at *)
     by_cases qj:j<ks.length
     ·have hms:=many_step X ks qj
      have hml:=many_le X ks j
      obtain ⟨b1,o1,g1,e1,k1,x1⟩:=slOf_at hr j qj
      rw [Loser.key_get _ j qj] at x1
      obtain ⟨Y,hY⟩ : ∃ Y,Y=ks[j]:=⟨_,rfl⟩
      rw [← hY] at hms x1
      obtain ⟨rfl,rfl⟩ : b1=b0∧o1=o0:=by cases e1;exact ⟨rfl,rfl⟩
      iterate 6 refine s1_ ?_
      refine cT_ ?_
      rcases (show lessB X Y=true∨(lessB X Y=false∧lessB Y X=true)∨(lessB X Y=false∧lessB Y X=false) from by cases lessB X Y <;> cases lessB Y X <;> simp) with e | ⟨e,e2⟩ | ⟨e,e2⟩
      ·rw [if_neg (fun h=>by subst h;rw [lessB_irrefl] at e;cases e)] at hms
       iterate 15 refine s1_ ?_
       refine ca_ rfl (numV_Less _ _ _ _ _ x0 x1) ?_
       rintro _ Sx ⟨rfl,h1⟩
       rw [h1,e];clear h1 Sx
       iterate 9 refine s1_ ?_
       refine cF_ ?_
       iterate 8 refine s1_ ?_
       refine ⟨j+1,?_,?_,?_,?_⟩
       all_goals (try dsimp only)
       ·exact ⟨rfl,rfl,rfl,(by rw [hms];rfl),rfl,rfl,rfl,rfl,rfl,rfl,rfl,trivial⟩
       ·exact Mem.Less.refl _
       ·exact qj
       ·omega
      ·rw [if_neg (fun h=>by subst h;rw [lessB_irrefl] at e2;cases e2)] at hms
       iterate 11 refine s1_ ?_
       refine k_v13 0 18 22 23 24 138 139 140 144 145 146 147 26 ?_
       iterate 4 refine s1_ ?_
       refine ca_ rfl (numV_Less _ _ _ _ _ x0 x1) ?_
       rintro _ Sx ⟨rfl,h1⟩
       rw [h1,e];clear h1 Sx
       iterate 4 refine s1_ ?_
       refine ARun.callG 4 true 154 rfl (lit_lt rfl) rfl (lit_lt rfl) go_12 rfl (numV_Less _ _ _ _ _ x1 x0) ?_
       rintro _ Sx ⟨rfl,h1⟩
       rw [h1,e2];clear h1 Sx
       iterate 4 refine s1_ ?_
       refine cF_ ?_
       iterate 8 refine s1_ ?_
       refine ⟨j+1,?_,?_,?_,?_⟩
       all_goals (try dsimp only)
       ·exact ⟨rfl,rfl,rfl,(by rw [hms];rfl),rfl,rfl,rfl,rfl,rfl,rfl,rfl,trivial⟩
       ·exact Mem.Less.refl _
       ·exact qj
       ·omega
      ·rw [if_pos (lessB_total _ _ e2 e)] at hms
       iterate 15 refine s1_ ?_
       refine ca_ rfl (numV_Less _ _ _ _ _ x0 x1) ?_
       rintro _ Sx ⟨rfl,h1⟩
       rw [h1,e];clear h1 Sx
       iterate 4 refine s1_ ?_
       refine ARun.callG 4 true 154 rfl (lit_lt rfl) rfl (lit_lt rfl) go_12 rfl (numV_Less _ _ _ _ _ x1 x0) ?_
       rintro _ Sx ⟨rfl,h1⟩
       rw [h1,e2];clear h1 Sx
       iterate 4 refine s1_ ?_
       refine cT_ ?_
       iterate 12 refine s1_ ?_
       refine ⟨j+1,?_,?_,?_,?_⟩
       all_goals (try dsimp only)
       ·exact ⟨rfl,rfl,rfl,(by rw [hms];rfl),rfl,rfl,rfl,rfl,rfl,rfl,rfl,trivial⟩
       ·exact Mem.Less.refl _
       ·exact qj
       ·omega
     ·obtain rfl:j=ks.length:=by omega
      iterate 6 refine s1_ ?_
      refine cF_ ?_
      iterate 14 refine s1_ ?_
      refine AWP.loop (X:=Nat) (fun j=>[(0,.slice (some ⟨b0,o0,none⟩) ks.length cr),(18,.slice pr6 out.length cr6),(22,g0),(23,.int .i64 ((many X ks ks.length:Nat):Int)),(24,.int .i64 ((many X out j:Nat):Int)),(138,.slice (some ⟨b0,o0,none⟩) ks.length cr),(139,.int .i64 (ks.length:Int)),(140,.int .i64 (i:Int)),(163,.slice pr6 out.length cr6),(164,.int .i64 (out.length:Int)),(165,.int .i64 (j:Int))]) (fun j=>S6) (fun j=>j≤out.length) (fun j=>out.length-j) (0) ⟨rfl,rfl,rfl,rfl,rfl,rfl,rfl,rfl,rfl,rfl,rfl,trivial⟩ (Mem.Less.refl _) (Nat.zero_le _) ?_
      rintro j hj
      (try dsimp only at *)
      by_cases qj:j<out.length
      ·have hms:=many_step X out qj
       have hml:=many_le X out j
       obtain ⟨b1,o1,g1,e1,k1,x1⟩:=slOf_at hr6 j qj
       rw [Loser.key_get _ j qj] at x1
       obtain ⟨Y,hY⟩ : ∃ Y,Y=out[j]:=⟨_,rfl⟩
       rw [← hY] at hms x1
       subst e1
       iterate 6 refine s1_ ?_
       refine cT_ ?_
       rcases (show lessB X Y=true∨(lessB X Y=false∧lessB Y X=true)∨(lessB X Y=false∧lessB Y X=false) from by cases lessB X Y <;> cases lessB Y X <;> simp) with e | ⟨e,e2⟩ | ⟨e,e2⟩
       ·rw [if_neg (fun h=>by subst h;rw [lessB_irrefl] at e;cases e)] at hms
        iterate 11 refine s1_ ?_
        refine k_v13 0 18 22 23 24 138 139 140 163 164 165 166 28 ?_
        iterate 4 refine s1_ ?_
        refine ca_ rfl (numV_Less _ _ _ _ _ x0 x1) ?_
        rintro _ Sx ⟨rfl,h1⟩
        rw [h1,e];clear h1 Sx
        iterate 9 refine s1_ ?_
        refine cF_ ?_
        iterate 8 refine s1_ ?_
        refine ⟨j+1,?_,?_,?_,?_⟩
        all_goals (try dsimp only)
        ·exact ⟨rfl,rfl,rfl,rfl,(by rw [hms];rfl),rfl,rfl,rfl,rfl,rfl,rfl,trivial⟩
        ·exact Mem.Less.refl _
        ·exact qj
        ·omega
       ·rw [if_neg (fun h=>by subst h;rw [lessB_irrefl] at e2;cases e2)] at hms
        iterate 15 refine s1_ ?_
        refine ca_ rfl (numV_Less _ _ _ _ _ x0 x1) ?_
        rintro _ Sx ⟨rfl,h1⟩
        rw [h1,e];clear h1 Sx
        iterate 4 refine s1_ ?_
        refine ARun.callG 4 true 173 rfl (lit_lt rfl) rfl (lit_lt rfl) go_12 rfl (numV_Less _ _ _ _ _ x1 x0) ?_
        rintro _ Sx ⟨rfl,h1⟩
        rw [h1,e2];clear h1 Sx
        iterate 4 refine s1_ ?_
        refine cF_ ?_
        iterate 8 refine s1_ ?_
        refine ⟨j+1,?_,?_,?_,?_⟩
        all_goals (try dsimp only)
        ·exact ⟨rfl,rfl,rfl,rfl,(by rw [hms];rfl),rfl,rfl,rfl,rfl,rfl,rfl,trivial⟩
        ·exact Mem.Less.refl _
        ·exact qj
        ·omega
       ·rw [if_pos (lessB_total _ _ e2 e)] at hms
        iterate 15 refine s1_ ?_
        refine ca_ rfl (numV_Less _ _ _ _ _ x0 x1) ?_
        rintro _ Sx ⟨rfl,h1⟩
        rw [h1,e];clear h1 Sx
        iterate 4 refine s1_ ?_
        refine ARun.callG 4 true 173 rfl (lit_lt rfl) rfl (lit_lt rfl) go_12 rfl (numV_Less _ _ _ _ _ x1 x0) ?_
        rintro _ Sx ⟨rfl,h1⟩
        rw [h1,e2];clear h1 Sx
        iterate 4 refine s1_ ?_
        refine k_v14 0 18 22 23 24 138 139 140 163 164 165 166 28 178 ?_
        refine cT_ ?_
        iterate 12 refine s1_ ?_
        refine ⟨j+1,?_,?_,?_,?_⟩
        all_goals (try dsimp only)
        ·exact ⟨rfl,rfl,rfl,rfl,(by rw [hms];rfl),rfl,rfl,rfl,rfl,rfl,rfl,trivial⟩
        ·exact Mem.Less.refl _
        ·exact qj
        ·omega
      ·obtain rfl:j=out.length:=by omega
       iterate 6 refine s1_ ?_
       refine cF_ ?_
       have hmp:=many_perm (x:=X) hpk
       iterate 12 refine s1_ ?_
       refine cF_ ?_
       iterate 8 refine s1_ ?_
       refine ⟨i+1,?_,?_,?_,?_⟩
       all_goals (try dsimp only)
       ·exact ⟨rfl,rfl,rfl,rfl,rfl,trivial⟩
       ·exact Mem.Less.refl _
       ·exact q
       ·omega
    ·iterate 6 refine s1_ ?_
     refine cF_ ?_
     iterate 11 refine s1_ ?_
     refine ⟨_,_,⟨_,_,rfl,rfl,rfl⟩,less_,?_⟩
     rfl
end Top
theorem walk_TopMerged (pa:Option Addr) (la ca:Nat) (l:List (List Nat)) (w:Int) (W:World) (w0:SlOf (fun S v l=>Sl 1 (fun x:Nat=>[Value.int .u64 (x:Int)]) S v l) (roM W) (.slice pa la ca) l) (wb:∀ x ∈ l,∀ n ∈ x,n<18446744073709551616) (zl:l.length≤5864062014634) (zr:∀ x ∈ l,x.length≤17592186043904) (w1:(Lit.int .i64 w).wf=true) (hE:Top.ErrO (roM W)) :
  Calls Tryz.prog 3 #[.slice pa la ca,.int .i64 w] W fun e w'=>e = .returned (.bool true)∧Below W.heap.size W w' :=
 ACall.callsW (Top.law_TopMerged _ l w _ w0 zl hE)
end
section
open Go.RowKit
open Mv
set_option maxRecDepth 100000
noncomputable def laidW2 (os:Os):World :=
  { World.doorLaid Tryz.prog 400 os with heap:=(World.doorLaid Tryz.prog 400 os).heap.modify 3 fun
      | .cells _ t frozen=>.cells (match (Rows.laid_unicode_utf8_first) with | .agg l=>(l.map fun d=>match d with | .lit (.int k n)=>Value.int k n | _=>.int .u8 0).toArray | _=>#[]) t frozen
      | o=>o }
noncomputable def laidW3 (os:Os):World :=
  { laidW2 os with heap:=(laidW2 os).heap.modify 1 fun
      | .cells _ t frozen=>.cells #[.iface 240 (.agg #[.pointer (some ⟨5,61,none⟩)])] t frozen
      | o=>o }
theorem laidW3_shaped (os:Os) (args:Array Value):((laidW3 os).forCall (fun _ _=>0) ⟨#[],args,[]⟩).Shaped Tryz.prog :=
 World.shaped_of_RefB (by kernel_rfl) (by kernel_rfl)
theorem laidW3_2 (os : Os) (args : Array Value) : laidMet Tryz.prog [("unicode/utf8.acceptRanges", Rows.laid_unicode_utf8_acceptRanges), ("wringer/merge.errOrder", Rows.laid_wringer_merge_errOrder), ("unicode/utf8.first", Rows.laid_unicode_utf8_first)] ((laidW3 os).forCall (fun _ _ => 0) ⟨#[], args, []⟩).memory :=
 laidMet_of_run' 8 (by kernel_rfl) (by kernel_rfl)
theorem laidW_met4 (os : Os) (args : Array Value) {l : List (String × DataW Unit)} (h : l = [("unicode/utf8.acceptRanges", Rows.laid_unicode_utf8_acceptRanges), ("errors.errorType", Rows.laid_errors_errorType), ("wringer/merge.errOrder", Rows.laid_wringer_merge_errOrder), ("unicode/utf8.first", Rows.laid_unicode_utf8_first)]) : laidMetH Tryz.prog l ((laidW3 os).forCall (fun _ _ => 0) ⟨#[], args, []⟩).memory := by
 subst h
 exact laidMetH_of_parts (laidW3_2 os args) (by kernel_rfl)
theorem errO_of_laid {W : World} {l : List (String × DataW Unit)} (h : laidMetH Tryz.prog l W) (hl : (l.filter fun x => x.2.handleName?.isSome) = [("errors.errorType", Rows.laid_errors_errorType)]) (hl2 : (l.filter fun x => x.2.handleName?.isNone) = [("unicode/utf8.acceptRanges", Rows.laid_unicode_utf8_acceptRanges), ("wringer/merge.errOrder", Rows.laid_wringer_merge_errOrder), ("unicode/utf8.first", Rows.laid_unicode_utf8_first)]) : Top.ErrO (roM W) := by
 unfold laidMetH at h
 rw [hl] at h
 have h2:=h.1
 rw [hl2] at h2
 obtain ⟨ps,⟨_,_,_,_,_,_,_,_,_,_,⟨g,t,cs,fuel,p,q,e1,e2,e3,e4,_⟩,_⟩,_⟩:=h2
 have eg : Tryz.prog.globalNamed "wringer/merge.errOrder" = some 0 := by kernel_rfl
 obtain rfl:g=0:=Option.some.inj (e1.symm.trans eg)
 have et:(Tryz.prog.globals[0]?).map (·.type)=some 61:=by kernel_rfl
 obtain rfl:t=61:=Option.some.inj (e2.symm.trans et)
 obtain ⟨f',u,v,hcs,_,_⟩:=iface_of_trod Er.under e4
 refine ⟨u,v,roM_knows fun j x hj=>?_⟩
 match j,hj with
 | 0,hj =>
  have hx:x = .iface u v:=(Option.some.inj hj).symm
  have h0:=World.var?_cell eg e3 0
  have hc0:cs[0]?=some (.iface u v):=by rw [← Array.getElem?_toList,hcs];rfl
  rw [hx]
  simpa [Addr.add] using h0.trans hc0
end
end Go.Proofs.YtcpiknecmjbknaaGreatDoor
