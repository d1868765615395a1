/-
  Texts that belong together: Oe1, Seq, Sort0, Oe2, Oe3, SortX, SortB, SortOU, SortY, Sort2OU, Sort3OU, Oe4, SoL0, Srt3, Flw4.
-/
import Derived.Test.YtoaoibeobhcgmaaGreatDoorBSo6
import Derived.Lib.QuietBelow
import Derived.Sort.AssemblyPlain
import Derived.Sort.LotD5
import Derived.Scope
set_option linter.unusedVariables false
set_option linter.unusedSimpArgs false
set_option linter.unusedSectionVars false
namespace Go.Proofs.YtoaoibeobhcgmaaGreatDoor
section
open Go.RowKit
open Mv Num
set_option maxRecDepth 4000
namespace Oe
def gI (k:Nat):Value:=.int .i64 (k:Int)
theorem zaJ {α : Type} (l:List α) (i:Nat) (z : α) (h:i<l.length):l.getD i z=l[i]:=by rw [List.getD_eq_getElem?_getD,List.getElem?_eq_getElem h];rfl
theorem znk (r:List Nat) (k a b:Nat):cfD r k a b<0 ↔ r.getD a 0<r.getD b 0∨r.getD a 0=r.getD b 0∧bhd r k a<bhd r k b:=by
 unfold cfD
 split <;> (try split) <;> (try split) <;> omega
structure RkO (l r:List Nat):Prop where
  n:r.length=l.length
  b:∀ x ∈ r,x≤8192
  o:∀ a b,a<l.length→b<l.length→(r.getD a 0<r.getD b 0 ↔ l.getD a 0<l.getD b 0)
def Unl (l:List Nat):Prop:=∀ a b,a<l.length→b<l.length→l.getD a 0=l.getD b 0→a=b
structure SoO (l e:List Nat):Prop where
  p:e.Perm (List.range l.length)
  o:∀ i j,i<j→j<l.length→l.getD (e.getD i 0) 0<l.getD (e.getD j 0) 0
theorem SoO.len {l e:List Nat} (h:SoO l e):e.length=l.length:=by rw [h.p.length_eq,List.length_range]
theorem zi2 {n:Nat} {e:List Nat} (h:e.Perm (List.range n)) {i:Nat} (hi:i<n):e.getD i 0<n:=by
 have hl:e.length=n:=by rw [h.length_eq,List.length_range]
 rw [zaJ e i 0 (by omega)]
 exact List.mem_range.1 (h.mem_iff.1 (List.getElem_mem _))
theorem znl {n:Nat} {e:List Nat} (h:e.Perm (List.range n)) {i j:Nat} (hi:i<j) (hj:j<n):e.getD i 0≠e.getD j 0:=by
 have hl:e.length=n:=by rw [h.length_eq,List.length_range]
 have hnd:e.Nodup:=h.nodup_iff.2 List.nodup_range
 rw [zaJ e i 0 (by omega),zaJ e j 0 (by omega)]
 exact List.pairwise_iff_getElem.1 hnd i j (by omega) (by omega) hi
theorem zub {l r e:List Nat} {k:Nat} (hr:RkO l r) (hu:Unl l) (hp:e.Perm (List.range l.length)) (hs:e.Pairwise fun x y=>¬ cfD r k y x<0):SoO l e:=⟨hp,fun i j hi hj=>by
 have hl:e.length=l.length:=by rw [hp.length_eq,List.length_range]
 have h1:=zi2 hp (show i<l.length by omega)
 have h2:=zi2 hp hj
 have h3:=List.pairwise_iff_getElem.1 hs i j (by omega) (by omega) hi
 rw [← zaJ e i 0 (by omega),← zaJ e j 0 (by omega)] at h3
 have hne:=znl hp hi hj
 have h4:l.getD (e.getD i 0) 0≠l.getD (e.getD j 0) 0:=fun e=>hne (hu _ _ h1 h2 e)
 have h5:=(hr.o _ _ h2 h1)
 have h6 : ¬ l.getD (e.getD j 0) 0<l.getD (e.getD i 0) 0:=fun h=>h3 ((znk r k _ _).2 (.inl (h5.2 h)))
 omega⟩
theorem zuc {l e o:List Nat} (h:SoO l e) (hl:l.length≤4096) (hn:o.length=l.length) (ho:∀ i,i<l.length→o.getD (e.getD i 0) 0=i):RkO l o:=by
 have at_:∀ a,a<l.length → ∃ i,i<l.length∧e.getD i 0=a:=fun a ha=>by
  obtain ⟨i,hi,e1⟩:=List.getElem_of_mem (h.p.mem_iff.2 (List.mem_range.2 ha))
  exact ⟨i,by rw [← h.len];exact hi,by rw [zaJ e i 0 hi];exact e1⟩
 refine ⟨hn,fun x hx=>?_,fun a b ha hb=>?_⟩
 ·obtain ⟨q,hq,rfl⟩:=List.getElem_of_mem hx
  obtain ⟨i,hi,e1⟩:=at_ q (by omega)
  have:=ho i hi
  rw [e1,zaJ o q 0 hq] at this
  omega
 ·obtain ⟨i,hi,rfl⟩:=at_ a ha
  obtain ⟨j,hj,rfl⟩:=at_ b hb
  rw [ho i hi,ho j hj]
  rcases Nat.lt_trichotomy i j with q | q | q
  ·exact ⟨fun _=>h.o i j q hj,fun _=>q⟩
  ·subst q;omega
  ·have:=h.o j i q hi;omega
instance (n:Nat) [NeZero n] : Inhabited {a:Nat // a<n}:=⟨⟨0,Nat.pos_of_ne_zero (NeZero.ne n)⟩⟩
theorem swoD (r:List Nat) (k n:Nat):Go.Sort.SWO (ltOf fun x y : {a:Nat // a<n}=>cfD r k x.1 y.1):=by
 have e1:∀ x y : {a:Nat // a<n},(ltOf (fun x y : {a:Nat // a<n}=>cfD r k x.1 y.1) x y=true ↔ r.getD x.1 0<r.getD y.1 0∨r.getD x.1 0=r.getD y.1 0∧bhd r k x.1<bhd r k y.1):=fun x y=>by unfold ltOf;rw [decide_eq_true_eq,znk]
 have e0:∀ x y : {a:Nat // a<n},(ltOf (fun x y : {a:Nat // a<n}=>cfD r k x.1 y.1) x y=false ↔ ¬ (r.getD x.1 0<r.getD y.1 0∨r.getD x.1 0=r.getD y.1 0∧bhd r k x.1<bhd r k y.1)):=fun x y=>by rw [← e1];simp
 exact ⟨fun a=>by rw [e0];omega,fun a b c h1 h2=>by rw [e1] at *;omega,fun a b c h1 h2=>by rw [e0] at *;omega⟩
theorem arr4 (a b c d:Value):(#[a,b] ++ #[c,d] : Array Value) = #[a,b,c,d]:=rfl
section
variable {S:Mem} {b4 b5 b7 k:Nat} {vr:Value} {r:List Nat} (h4:S.own b4=some ⟨40,[vr],1⟩) (h5:S.own b5=some ⟨3,[.int .i64 (k:Int)],1⟩) (h7:S.own b7=some ⟨134,[behF b5 b4],1⟩) (hr:IdxR S vr r) (hrl:r.length≤4096) (hk:k≤8192) (hbd:∀ x ∈ r,x≤8192)
include h4 h5 h7 hr hrl hk hbd
theorem znm {w:World} (hw:View S w) {a b:Nat} (ha:a<r.length) (hb:b<r.length):Calls Tryz.prog 116 #[gI a,gI b,.pointer (some ⟨b4,0,none⟩),.pointer (some ⟨b7,0,none⟩)] w fun e w'=>e = .returned (.int .i64 (cfD r k a b))∧Gr w w':=by
 obtain ⟨p,c,rfl,_,_,r3⟩:=id hr
 exact ztB a b k b4 b5 b7 p c r w (hw.rd (zbt h4 rfl)) (hw.rd (zbt h5 rfl)) (hw.rd (zbt h7 rfl)) (fun i hi=>by
  obtain ⟨q,o,e,hq⟩:=r3.resolve_left (fun e=>by rw [e] at hi;simp at hi)
  exact ⟨q,o,e,by simpa [Addr.add] using hq i hi w hw 0 _ rfl⟩) ha hb hrl hk hbd
theorem ztC {a b:Nat} (ha:a<r.length) (hb:b<r.length):ACall Tryz.prog 116 #[gI a,gI b,.pointer (some ⟨b4,0,none⟩),.pointer (some ⟨b7,0,none⟩)] S fun v S'=>v = .int .i64 (cfD r k a b)∧S'=S:=fun w hw =>
 (znm h4 h5 h7 hr hrl hk hbd hw ha hb).mono fun e w' ⟨he,q,os,hg⟩=>⟨_,S,he,⟨rfl,rfl⟩,Step.below hw (by rw [hg];exact Go.below_regrown w (w.drawn+q) os)⟩
theorem zr0 {be n room:Nat} (hn:r.length=n) (hn0:0<n) (hbe:Fresh S be) (e:List Nat) (he:e.Perm (List.range n)) :
  ACall Tryz.prog 119 #[.slice (some ⟨be,0,none⟩) n n,.func (.func 116) #[] #[.pointer (some ⟨b4,0,none⟩),.pointer (some ⟨b7,0,none⟩)]] (S.set be ⟨3,e.map gI,room⟩) fun v S'=>v = .tuple #[] ∧ ∃ e':List Nat,e'.Perm (List.range n)∧(e'.Pairwise fun x y=>¬ cfD r k y x<0)∧S'=S.set be ⟨3,e'.map gI,room⟩:=by
 have:NeZero n:=⟨by omega⟩
 have hlt:∀ x ∈ e,x<n:=fun x hx=>List.mem_range.1 (he.mem_iff.1 hx)
 obtain ⟨L,hL⟩ : ∃ L:List {a:Nat // a<n},L.map (·.1)=e:=⟨e.attachWith _ hlt,by simp⟩
 have hl:L.length=n:=by rw [← List.length_map (f:=(·.1)),hL,he.length_eq,List.length_range]
 have hc:∀ w,View S w → ∀ x y : {a:Nat // a<n},Calls Tryz.prog 116 (#[gI x.1,gI y.1] ++ #[.pointer (some ⟨b4,0,none⟩),.pointer (some ⟨b7,0,none⟩)]) w fun e w'=>e = .returned (.int .i64 (cfD r k x.1 y.1)) ∧ ∃ q os,w'=Go.Sort.grow (w.drewN q) os:=fun w hw x y=>by
  rw [arr4]
  exact znm h4 h5 h7 hr hrl hk hbd hw (by rw [hn];exact x.2) (by rw [hn];exact y.2)
 have hs:=zqm (T:=3) (cap:=n) (room:=room) (enc:=fun x : {a:Nat // a<n}=>gI x.1) (cf:=fun x y=>cfD r k x.1 y.1) L hl (by omega) hbe hc fun d w h1 h2 h3 h4=>Tryz.slices_SortFunc_f119 (fun x : {a:Nat // a<n}=>gI x.1) (fun _=>rfl) (fun x y=>cfD r k x.1 y.1) (swoD r k n) 116 #[.pointer (some ⟨b4,0,none⟩),.pointer (some ⟨b7,0,none⟩)] be 0 n d w (fun _ _=>zbJ (by kernel_rfl) _ _) h1 h2 h3 h4
 have e1:∀ L:List {a:Nat // a<n},L.map (fun x=>gI x.1)=(L.map (·.1)).map gI:=fun L=>by rw [List.map_map];rfl
 rw [e1,hL] at hs
 refine hs.mono fun v S' ⟨hv,L',p1,p2,p3⟩=>⟨hv,L'.map (·.1),?_,?_,by rw [p3,e1]⟩
 ·have:=p1.map (·.1)
  rw [hL] at this
  exact this.trans he
 ·rw [List.pairwise_map];exact p2
end
end Oe
end
section
open Go.RowKit
open Mv
theorem zpO {α : Type} {b c n:Nat} {L:List α} {x : α} (h:n=L.length+1):some (outV (some (b,c)) n)=some (outV (some (b,c)) (L ++ [x]).length):=by
 rw [h,List.length_append];rfl
theorem sq_ {p:Prop} (h:p:=by first | rfl | (refine zai ?_;first | omega | (dsimp only;omega)) | exact zpO (by first | rfl | omega)):p:=h
theorem zpP {α : Type} (hs:List α) (z v : α) (m i:Nat) (h:hs.length=i) (hi:i<m):(hs ++ List.replicate (m-i) z).set i v=(hs ++ [v]) ++ List.replicate (m-(i+1)) z:=by
 subst h
 rw [List.set_append_right _ _ (Nat.le_refl _),Nat.sub_self,show m-hs.length=(m-(hs.length+1))+1 by omega,List.replicate_succ,List.set_cons_zero,List.append_assoc];rfl
theorem zjU {α β : Type} (g : α → β) (L:List α) (z : α) (m i:Nat) (x : α) (h:L.length=i) (hi:i<m):(L.map g ++ List.replicate (m-i) (g z)).set i (g x)=(L ++ [x]).map g ++ List.replicate (m-(i+1)) (g z):=by
 rw [zpP _ _ _ _ _ (by rw [List.length_map];exact h) hi,List.map_append];rfl
theorem zcK {α : Type} {S:Mem} {b:Nat} {T:TypeId} {g : α→Value} {L:List α} {room o:Nat} (k:Nat) (hk:k<L.length) (h:S.own b=some ⟨T,L.map g,room⟩) (ho:o=k):S.rd ⟨b,o,none⟩=some (g L[k]):=by
 rw [zdf h,ho];simp [hk]
end
section
open Go.RowKit
open Mv
namespace Srt
theorem rw_ {p:Prop} (h:p:=by first | omega | (simp only [Array.size_setIfInBounds];omega)):p:=h
theorem sb_ {p:Prop} (h:p:=by first | rfl | (refine zai ?_;first | omega | (dsimp only;omega))):p:=h
section
variable {P:Program} {N:Nat} {ops:Array Oper} {E:Env} {S:Mem} {K:Env→Mem→Prop} {ty:TypeId} {pos:String} {aft:Array Edge}
theorem ARun.storeRow {α : Type} {os:List Oper} {T e:TypeId} {x y:Operand} {b o room:Nat} (enc : α→Value) {d:Array α} {v : α} (k:Nat) (hx:ev E x=some (.pointer (some ⟨b,o,none⟩))) (hy:ev E y=some (enc v)) (hs:sizeT P T=some 1)
  (h1:(enc v).cells = #[enc v]∧(enc v).oneCell'=true) (hb:S.own b=some ⟨e,d.toList.map enc,room⟩) (hk:k<d.size) (ho:o=k) (h:ARun P N ops os K E (S.set b ⟨e,(d.setIfInBounds k v).toList.map enc,room⟩)) :
  ARun P N ops (⟨none,.store T x y,ty,pos,aft,none⟩ :: os) K E S:=by
 subst ho
 refine ARun.store1 hx hy hs h1.1 hb (by simpa using hk) h1.2 ?_
 have:(d.toList.map enc).set o (enc v)=(d.setIfInBounds o v).toList.map enc:=by simp
 rw [this];exact h
end
variable {α : Type} [Inhabited α]
theorem zak {S:Mem} {b:Nat} {T:TypeId} {enc : α→Value} {d:Array α} {room o k:Nat} (h:S.own b=some ⟨T,d.toList.map enc,room⟩) (hk:k<d.size) (ho:o=k):S.rd ⟨b,o,none⟩=some (enc d[k]!):=by
 rw [zdf h,ho,getElem!_pos d k hk];simp [hk]
structure Rw (okP : α→Prop) (n:Nat) (d:Array α):Prop where
  size:d.size=n
  ok:∀ i,i<n→okP d[i]!
theorem Rw.swp {okP : α→Prop} {n:Nat} {d:Array α} (h:Rw okP n d) (i j:Nat) (hi:i<n) (hj:j<n):Rw okP n (Go.Sort.swp d i j):=by
 refine ⟨by rw [Go.Sort.size_swp,h.size],fun k hk=>?_⟩
 have hs:=h.size
 by_cases h1:k=j
 ·subst h1;rw [Go.Sort.swp_right d i k (by omega)];exact h.ok i hi
 ·by_cases h2:k=i
  ·subst h2;rw [Go.Sort.swp_left d k j (by omega) h1];exact h.ok j hj
  ·rw [Go.Sort.swp_other d i j k h2 h1];exact h.ok k hk
/-! ### The plain sort's steps -/
section
variable (lt : α → α→Bool)
theorem ztD {a j:Nat} {d:Array α} (h1:a<j+1) (h2:lt d[j+1]! d[j]! = true):Go.Sort.insInner lt a j (Go.Sort.swp d (j+1) j)=Go.Sort.insInner lt a (j+1) d:=by
 rw [Go.Sort.insInner.eq_def lt a (j+1) d];simp only [];rw [if_pos (by simp [h1,h2])]
theorem ztE {a j:Nat} {d:Array α} (h2:lt d[j+1]! d[j]! = false):d=Go.Sort.insInner lt a (j+1) d:=by
 rw [Go.Sort.insInner];rw [if_neg (by simp [h2])]
theorem zr1 {a j:Nat} {d:Array α} (h1 : ¬ a<j):d=Go.Sort.insInner lt a j d:=by
 cases j with
 | zero=>rfl
 | succ j=>rw [Go.Sort.insInner];rw [if_neg (by simp;omega)]
theorem zpQ {a b i:Nat} {d:Array α} (h:i<b):Go.Sort.insOuter lt a b (i+1) (Go.Sort.insInner lt a i d)=Go.Sort.insOuter lt a b i d:=by
 rw [Go.Sort.insOuter.eq_def lt a b i d,if_pos h]
theorem znn {a b i:Nat} {d:Array α} (h : ¬ i<b):d=Go.Sort.insOuter lt a b i d:=by
 rw [Go.Sort.insOuter,if_neg h]
def child (hi first root:Nat) (d:Array α):Nat:=if 2*root+2<hi∧lt d[first+(2*root+1)]! d[first+(2*root+2)]! = true then 2*root+2 else 2*root+1
theorem zno {hi first root:Nat} {d:Array α} (h:hi≤2*root+1):d=Go.Sort.siftDown lt hi first root d:=by
 rw [Go.Sort.siftDown,dif_pos h]
theorem zfp {hi first root:Nat} {d:Array α} (h : ¬ hi≤2*root+1) (h2:lt d[first+root]! d[first+child lt hi first root d]! = false):d=Go.Sort.siftDown lt hi first root d:=by
 rw [Go.Sort.siftDown,dif_neg h]
 unfold child at h2
 by_cases hc:2*root+2<hi∧lt d[first+(2*root+1)]! d[first+(2*root+2)]! = true
 ·rw [if_pos hc] at h2
  rw [if_pos (by simp;exact hc),if_pos (by simp [h2])]
 ·rw [if_neg hc] at h2
  rw [if_neg (fun h=>hc (by simp only [Bool.and_eq_true,decide_eq_true_eq] at h;exact h)),if_pos (by simp [h2])]
theorem zi3 {hi first root:Nat} {d:Array α} (h : ¬ hi≤2*root+1) (h2:lt d[first+root]! d[first+child lt hi first root d]! = true) :
  Go.Sort.siftDown lt hi first (child lt hi first root d) (Go.Sort.swp d (first+root) (first+child lt hi first root d))=Go.Sort.siftDown lt hi first root d:=by
 rw [Go.Sort.siftDown.eq_def lt hi first root d,dif_neg h]
 unfold child at *
 by_cases hc:2*root+2<hi∧lt d[first+(2*root+1)]! d[first+(2*root+2)]! = true
 ·rw [if_pos hc] at h2 ⊢
  rw [if_pos (by simp;exact hc),if_neg (by simp [h2]),dif_pos hc.1]
 ·rw [if_neg hc] at h2 ⊢
  rw [if_neg (fun h=>hc (by simp only [Bool.and_eq_true,decide_eq_true_eq] at h;exact h)),if_neg (by simp [h2])]
theorem zr2 {p : α→Bool} {d:Array α} {i j:Nat} (h:i≤j) (h2:p d[i]! = true):Go.Sort.scanUp p d j (i+1)=Go.Sort.scanUp p d j i:=by
 rw [Go.Sort.scanUp.eq_def p d j i,if_pos (by simp [h,h2])]
theorem znp {p : α→Bool} {d:Array α} {i j:Nat} (h : ¬ i≤j):i=Go.Sort.scanUp p d j i:=by
 rw [Go.Sort.scanUp,if_neg (by simp;omega)]
theorem zr3 {p : α→Bool} {d:Array α} {i j:Nat} (h:p d[i]! = false):i=Go.Sort.scanUp p d j i:=by
 rw [Go.Sort.scanUp,if_neg (by simp [h])]
theorem zi4 {p : α→Bool} {d:Array α} {i j:Nat} (h:i≤j+1) (h2:p d[j+1]! = true):Go.Sort.scanDown p d i j=Go.Sort.scanDown p d i (j+1):=by
 rw [Go.Sort.scanDown.eq_def p d i (j+1)];simp only [];rw [if_pos (by simp [h,h2])]
theorem zgN {p : α→Bool} {d:Array α} {i j:Nat} (h : ¬ i≤j):j=Go.Sort.scanDown p d i j:=by
 cases j with
 | zero=>rfl
 | succ j=>rw [Go.Sort.scanDown];rw [if_neg (by simp;omega)]
theorem zi5 {p : α→Bool} {d:Array α} {i j:Nat} (h0:0<j) (h:p d[j]! = false):j=Go.Sort.scanDown p d i j:=by
 cases j with
 | zero=>omega
 | succ j=>rw [Go.Sort.scanDown];rw [if_neg (by simp [h])]
theorem znq {a i j i2 j2:Nat} {d:Array α} (h1:i2=Go.Sort.scanUp (fun x=>lt x d[a]!) d j i) (h2:j2=Go.Sort.scanDown (fun x=>!lt x d[a]!) d i2 j) (h:j2<i2):(j2,d)=Go.Sort.partLoop lt a i j d:=by
 rw [Go.Sort.partLoop_eq,← h1,← h2,if_pos h]
theorem zr4 {a i j i2 j2:Nat} {d:Array α} (h1:i2=Go.Sort.scanUp (fun x=>lt x d[a]!) d j i) (h2:j2=Go.Sort.scanDown (fun x=>!lt x d[a]!) d i2 j) (h : ¬ j2<i2):Go.Sort.partLoop lt a (i2+1) (j2-1) (Go.Sort.swp d i2 j2)=Go.Sort.partLoop lt a i j d:=by
 rw [Go.Sort.partLoop_eq lt a i j d,← h1,← h2,if_neg h]
theorem zi6 {a i j i2 j2:Nat} {d:Array α} (h1:i2=Go.Sort.scanUp (fun x=>!lt d[a]! x) d j i) (h2:j2=Go.Sort.scanDown (fun x=>lt d[a]! x) d i2 j) (h:j2<i2):(i2,d)=Go.Sort.partEqLoop lt a i j d:=by
 rw [Go.Sort.partEqLoop_eq,← h1,← h2,if_pos h]
theorem znr {a i j i2 j2:Nat} {d:Array α} (h1:i2=Go.Sort.scanUp (fun x=>!lt d[a]! x) d j i) (h2:j2=Go.Sort.scanDown (fun x=>lt d[a]! x) d i2 j) (h : ¬ j2<i2):Go.Sort.partEqLoop lt a (i2+1) (j2-1) (Go.Sort.swp d i2 j2)=Go.Sort.partEqLoop lt a i j d:=by
 rw [Go.Sort.partEqLoop_eq lt a i j d,← h1,← h2,if_neg h]
theorem zud {d:Array α} {b i:Nat} (h:i<b) (h2:lt d[i]! d[i-1]! = false):Go.Sort.scanSorted lt d b (i+1)=Go.Sort.scanSorted lt d b i:=by
 rw [Go.Sort.scanSorted.eq_def lt d b i,if_pos (by simp [h,h2])]
theorem ztF {d:Array α} {b i:Nat} (h : ¬ i<b):i=Go.Sort.scanSorted lt d b i:=by
 rw [Go.Sort.scanSorted,if_neg (by simp;omega)]
theorem zue {d:Array α} {b i:Nat} (h2:lt d[i]! d[i-1]! = true):i=Go.Sort.scanSorted lt d b i:=by
 rw [Go.Sort.scanSorted,if_neg (by simp [h2])]
theorem zuf {j:Nat} {d:Array α} (h2:lt d[j+1]! d[j]! = true):Go.Sort.shiftDown lt j (Go.Sort.swp d (j+1) j)=Go.Sort.shiftDown lt (j+1) d:=by
 rw [Go.Sort.shiftDown.eq_def lt (j+1) d];simp only [];rw [if_neg (by simp [h2])]
theorem zug {j:Nat} {d:Array α} (h2:lt d[j+1]! d[j]! = false):d=Go.Sort.shiftDown lt (j+1) d:=by
 rw [Go.Sort.shiftDown];rw [if_pos (by simp [h2])]
theorem zuh {b j:Nat} {d:Array α} (h:j<b) (h2:lt d[j]! d[j-1]! = true):Go.Sort.shiftUp lt b (j+1) (Go.Sort.swp d j (j-1))=Go.Sort.shiftUp lt b j d:=by
 rw [Go.Sort.shiftUp.eq_def lt b j d,if_pos h,if_neg (by simp [h2])]
theorem zui {b j:Nat} {d:Array α} (h2:lt d[j]! d[j-1]! = false):d=Go.Sort.shiftUp lt b j d:=by
 rw [Go.Sort.shiftUp];split
 ·rw [if_pos (by simp [h2])]
 ·rfl
theorem ztG {b j:Nat} {d:Array α} (h : ¬ j<b):d=Go.Sort.shiftUp lt b j d:=by
 rw [Go.Sort.shiftUp,if_neg h]
theorem ztH {i j:Nat} {d:Array α} (h:i<j):Go.Sort.reverseLoop (i+1) (j-1) (Go.Sort.swp d i j)=Go.Sort.reverseLoop i j d:=by
 rw [Go.Sort.reverseLoop.eq_def i j d,if_pos h]
theorem zr5 {i j:Nat} {d:Array α} (h : ¬ i<j):d=Go.Sort.reverseLoop i j d:=by
 rw [Go.Sort.reverseLoop,if_neg h]
end
end Srt
end
section
open Go.RowKit
open Mv Num Srt
set_option maxRecDepth 4000
namespace Oe
def odM (S:Mem) (b4 b5 b7:Nat) (vr:Value) (k:Nat):Mem:=((S.set b4 ⟨40,[vr],1⟩).set b5 ⟨3,[.int .i64 (k:Int)],1⟩).set b7 ⟨134,[behF b5 b4],1⟩
set_option maxHeartbeats 4000000 in
theorem zkV (be k:Nat) (ik:Int) (ek:ik=k) (n:Nat) (vr:Value) (l r e:List Nat) (S:Mem) (hbe:Fresh S be) (hr:IdxR S vr r) (hro:RkO l r) (hu:Unl l) (hln:n=l.length) (hn0:0<n) (hn1:n≤4096) (hk:k≤8192) (hp:e.Perm (List.range n)) :
  ACall Tryz.prog 65 #[.slice (some ⟨be,0,none⟩) n n,vr,.int .i64 ik] (S.set be ⟨3,e.map gI,n⟩) fun u S'=>∃ S1 e' r',S'=S1.set be ⟨3,e'.map gI,n⟩∧Fresh S1 be∧S.Less S1∧IdxR S1 u r'∧SoO l e'∧RkO l r':=by
 subst ek
 have hn:r.length=n:=by rw [hro.n,hln]
 obtain ⟨ra,rc,rfl,r1,r2,r3⟩:=id hr
 have hel:e.length=n:=by rw [hp.length_eq,List.length_range]
 rw [hn] at r1 r2 hr ⊢
 refine k_E3 (rs:=[.tmp 6]) 61 Tryz.func65 rfl rfl rfl ?_
 refine r2_ ?_
 refine ARun.box1 (zab rfl) rfl rfl ?_
 intro b4 f4
 have g4:=f4
 repeat ((with_reducible replace g4:=zaa g4);obtain ⟨g4,_⟩:=g4)
 refine nl_ ?_
 refine ARun.box1 (zab rfl) rfl rfl ?_
 intro b5 f5
 have g5:=f5
 repeat ((with_reducible replace g5:=zaa g5);obtain ⟨g5,_⟩:=g5)
 refine nl_ ?_
 refine r6_ ?_
 refine ARun.alloc (zab rfl) zib ?_
 intro b7 f7
 have g7:=f7
 repeat ((with_reducible replace g7:=zaa g7);obtain ⟨g7,_⟩:=g7)
 refine nl_ ?_
 refine r9_ ?_
 refine AWP.less ((odM S b4 b5 b7 (.slice ra n rc) k).set be ⟨3,e.map gI,n⟩) (by unfold odM behF;exact zad) ?_
 have fB:Fresh (odM S b4 b5 b7 (.slice ra n rc) k) be:=zal (zal (zal hbe ne_) ne_) ne_
 have o4:(odM S b4 b5 b7 (.slice ra n rc) k).own b4=some ⟨40,[.slice ra n rc],1⟩:=by unfold odM;exact own_
 have o5:(odM S b4 b5 b7 (.slice ra n rc) k).own b5=some ⟨3,[.int .i64 (k:Int)],1⟩:=by unfold odM;exact own_
 have o7:(odM S b4 b5 b7 (.slice ra n rc) k).own b7=some ⟨134,[behF b5 b4],1⟩:=by unfold odM;exact own_
 have hless:S.Less (odM S b4 b5 b7 (.slice ra n rc) k):=by unfold odM;exact zad
 generalize odM S b4 b5 b7 (.slice ra n rc) k=S0 at *
 have hsort:=zr0 o4 o5 o7 (hr.less hless) (by omega) hk hro.b hn (by omega) fB e hp (room:=n)
 refine r4_ ?_
 refine ca_ rfl (hsort) ?_
 rintro _ _ ⟨rfl,e',hp2,hs2,rfl⟩
 have hso:=zub (k:=k) hro hu (by rw [← hln];exact hp2) hs2
 have hel2:e'.length=n:=by rw [hp2.length_eq,List.length_range]
 have hlt:∀ q,q<n→e'.getD q 0<n:=fun q hq=>zi2 hp2 hq
 obtain ⟨T,hT⟩ : ∃ T,T=S0.set be ⟨3,e'.map gI,n⟩:=⟨_,rfl⟩
 have hST:S0.Less T:=by rw [hT];exact Mem.less_set _ _ _ fB.1
 have oe:T.own be=some ⟨3,e'.map gI,n⟩:=by rw [hT];exact Mem.own_set_same _ _ _
 rw [← hT]
 have o4T:=hST.own o4
 refine r6_ ?_
 refine ARun.makeSlice (zab rfl) zb6 rfl rfl (by omega) (by omega) (by omega) (by omega) ?_
 intro b18 f18
 have g18:=f18
 repeat ((with_reducible replace g18:=zaa g18);obtain ⟨g18,_⟩:=g18)
 refine r3_ ?_
 rw [show madeL [Value.int .i64 0] (((n:Nat):Int).toNat*1)=(List.replicate n 0).map gI by rw [za8,List.map_replicate,Nat.mul_one];rfl,Nat.mul_one,Int.toNat_natCast]
 refine r7_ ?_
 refine AWP.loop (X:=Nat × List Nat) (fun x=>[(0,.slice (some ⟨be,0,none⟩) n n),(8,.func (.func 116) #[] #[.pointer (some ⟨b4,0,none⟩),.pointer (some ⟨b7,0,none⟩)]),(9,.slice (some ⟨b18,0,none⟩) n n),(10,.int .i64 x.1)]) (fun x=>T.set b18 ⟨3,x.2.map gI,n⟩) (fun x=>1≤x.1∧x.1≤n∧x.2.length=n ∧ ∀ j,j<x.1→x.2.getD (e'.getD j 0) 0=j) (fun x=>n-x.1) ((1,List.replicate n 0)) ⟨rfl,rfl,rfl,rfl,trivial⟩ (Mem.Less.refl _) (⟨Nat.le_refl _,hn0,by simp,fun j hj=>by obtain rfl:j=0:=(by omega);rw [List.getD_eq_getElem?_getD,List.getElem?_replicate];split <;> rfl⟩) ?_
 rintro ⟨i,o⟩ ⟨q1,q2,hol,q3⟩
 (try dsimp only at *)
 replace hol:o.length=n:=hol
 replace q3:∀ j,j<i→o.getD (e'.getD j 0) 0=j:=q3
 by_cases hi:i<n
 ·refine r9_ ?_
  refine k_v5 0 8 9 10 22 ?_
  refine cT_ ?_
  obtain ⟨j,rfl⟩ : ∃ j,i=j+1:=⟨i-1,by omega⟩
  have hpl:=hlt j (by omega)
  have hql:=hlt (j+1) hi
  have ep:e'[j]'(by omega)=e'.getD j 0:=(zaJ _ _ _ (by omega)).symm
  have eq:e'[j+1]'(by omega)=e'.getD (j+1) 0:=(zaJ _ _ _ (by omega)).symm
  have hy:=q3 j (by omega)
  have hneg:cfD r k (e'.getD j 0) (e'.getD (j+1) 0)<0:=(znk r k _ _).2 (.inl ((hro.o _ _ (by omega) (by omega)).2 (hso.o j (j+1) (by omega) (by omega))))
  have hcmp:=fun c:List Nat=>ztC ((hST.trans (Mem.less_set T b18 ⟨3,c.map gI,n⟩ f18.1)).own o4) ((hST.trans (Mem.less_set T b18 ⟨3,c.map gI,n⟩ f18.1)).own o5) ((hST.trans (Mem.less_set T b18 ⟨3,c.map gI,n⟩ f18.1)).own o7) (hr.less (hless.trans (hST.trans (Mem.less_set T b18 ⟨3,c.map gI,n⟩ f18.1)))) (by omega) hk hro.b (a:=e'.getD j 0) (b:=e'.getD (j+1) 0) (by omega) (by omega)
  have hnew:∀ t,t<j+2→(o.set (e'.getD (j+1) 0) (j+1)).getD (e'.getD t 0) 0=t:=fun t ht=>by
   rcases Nat.lt_or_ge t (j+1) with h | h
   ·rw [List.getD_eq_getElem?_getD,List.getElem?_set_ne (Ne.symm (znl hp2 h hi)),← List.getD_eq_getElem?_getD];exact q3 t h
   ·obtain rfl:t=j+1:=(by omega)
    rw [List.getD_eq_getElem?_getD,List.getElem?_set_self (by omega)];rfl
  generalize cfD r k (e'.getD j 0) (e'.getD (j+1) 0)=cv at *
  obtain ⟨p,hpe⟩ : ∃ p,p=e'.getD j 0:=⟨_,rfl⟩
  obtain ⟨q,hqe⟩ : ∃ q,q=e'.getD (j+1) 0:=⟨_,rfl⟩
  rw [← hpe] at hpl ep hy hcmp
  rw [← hqe] at hql eq hcmp hnew
  have hT1:∀ c:List Nat,T.Less (T.set b18 ⟨3,c.map gI,n⟩):=fun c=>Mem.less_set _ _ _ f18.1
  have ob:∀ c:List Nat,(T.set b18 ⟨3,c.map gI,n⟩).own b18=some ⟨3,c.map gI,n⟩:=fun c=>Mem.own_set_same _ _ _
  refine r5_ ?_
  refine AWP.draw [(0,true),(1,true),(2,true),(3,true),(4,true),(5,true),(6,true),(7,true),(8,true),(9,true),(10,true),(11,true),(12,true),(13,true),(14,false)] [14] mixed (by kernel_rfl) ?_
  refine r4_ ?_
  refine dC (hc:=Calm.as (show gI (e'[j+1]'(by omega)) = .int .i64 (q:Int) by rw [eq];rfl) (Calm.load zba rfl (zcK (g:=gI) (j+1) (by omega) ((hT1 o).own oe) rw_))) (h:=?_)
  refine r5_ ?_
  refine dC (hc:=Calm.as (show gI (e'[j]'(by omega)) = .int .i64 (p:Int) by rw [ep];rfl) (Calm.load zba rfl (zcK (g:=gI) j (by omega) ((hT1 o).own oe) rw_))) (h:=?_)
  refine s1_ ?_
  refine dC (hc:=Calm.as (show gI (o[p]'(by omega)) = .int .i64 (j:Int) by rw [← zaJ o p 0 (by omega),hy];rfl) (Calm.load zba rfl (zcK (g:=gI) p (by omega) (ob o) rw_))) (h:=?_)
  refine s1_ ?_
  refine zac rfl ?_
  refine s1_ ?_
  refine zae ⟨fun h=>absurd h (by decide),?_⟩
  refine r2_ ?_
  rw [Int.toNat_natCast,Nat.mul_one,show (Value.int .i64 (j:Int))=gI j from rfl,← List.map_set]
  obtain ⟨o1,ho1⟩ : ∃ o1,o1=o.set q j:=⟨_,rfl⟩
  have hset:o1.set q (j+1)=o.set q (j+1):=by rw [ho1,List.set_set]
  have hol1:o1.length=n:=by rw [ho1,List.length_set];exact hol
  have hq1:o1[q]'(by omega)=j:=by subst ho1;exact List.getElem_set_self _
  rw [← ho1]
  refine s1_ ?_
  refine AWP.draw [(0,true),(1,true),(2,true),(3,true),(4,true),(5,true),(6,true),(7,true),(8,true),(9,true),(10,false),(11,true)] [] mixed (by kernel_rfl) ?_
  refine r5_ ?_
  refine dC (hc:=Calm.as (show gI (e'[j]'(by omega)) = .int .i64 (p:Int) by rw [ep];rfl) (Calm.load zba rfl (zcK (g:=gI) j (by omega) ((hT1 o1).own oe) rw_))) (h:=?_)
  refine r3_ ?_
  refine dC (hc:=Calm.as (show gI (e'[j+1]'(by omega)) = .int .i64 (q:Int) by rw [eq];rfl) (Calm.load zba rfl (zcK (g:=gI) (j+1) (by omega) ((hT1 o1).own oe) rw_))) (h:=?_)
  refine zac rfl ?_
  refine ARun.callV (zab rfl) zsR rfl rfl (hcmp o1) ?_
  rintro _ S1 ⟨rfl,e1⟩
  rw [e1];clear e1 S1
  refine zae ⟨fun _=>zad,?_⟩
  refine r3_ ?_
  refine cT_ ?_
  refine r5_ ?_
  refine rC (Calm.as (show gI (e'[j+1]'(by omega)) = .int .i64 (q:Int) by rw [eq];rfl) (Calm.load zba rfl (zcK (g:=gI) (j+1) (by omega) ((hT1 o1).own oe) rw_))) ?_
  refine s1_ ?_
  refine rC (Calm.as (show gI (o1[q]'(by omega)) = .int .i64 (j:Int) by rw [hq1];rfl) (Calm.load zba rfl (zcK (g:=gI) q (by omega) (ob o1) rw_))) ?_
  refine r12_ ?_
  refine ⟨(j+2,o.set q (j+1)),?_,?_,?_,?_⟩
  all_goals (try dsimp only)
  ·exact ⟨sq_,sq_,sq_,sq_,trivial⟩
  ·(rw [Int.toNat_natCast,Nat.mul_one,← hset,List.map_set];exact Mem.Less.refl _)
  ·exact ⟨by omega,hi,by rw [List.length_set];exact hol,hnew⟩
  ·omega
 ·obtain rfl:i=n:=by omega
  refine r9_ ?_
  refine cF_ ?_
  have hne:be≠b18:=f18.ne oe
  have hf0:Fresh S0 b18:=f18.less hST
  refine r11_ ?_
  refine k_v6 0 8 9 10 22 6 ?_
  refine s1_ ?_
  refine ⟨_,_,⟨_,_,rfl,rfl,rfl⟩,Mem.Less.refl _,?_⟩
  exact ⟨S0.set b18 ⟨3,o.map gI,i⟩,e',o,by rw [hT];exact Mem.set_comm _ _ _ hne,zal fB hne,hless.trans (Mem.less_set _ _ _ hf0.1),Sl.own1 (g:=gI) (l:=o) (Mem.own_set_same _ _ _) List.prefix_rfl hol (Nat.le_refl _) (by omega),hso,zuc hso (by omega) (by rw [hol,hln]) (fun t ht=>q3 t (by omega))⟩
end Oe
end
section
open Go.RowKit
open Mv Num Srt
set_option maxRecDepth 4000
namespace Oe
set_option maxHeartbeats 4000000 in
theorem zr6 (vr:Value) (l r:List Nat) (S:Mem) (hr:IdxR S vr r) (hro:RkO l r) (hu:Unl l) (hl:l.length≤4096) :
  ACall Tryz.prog 24 #[vr] S fun u S'=>∃ e,SoO l e∧S.Less S'∧IdxR S' u e:=by
 obtain ⟨ra,rc,rfl,_⟩:=id hr
 obtain ⟨n,hn⟩ : ∃ n,n=l.length:=⟨_,rfl⟩
 have hrl:=hro.n
 rw [hrl,← hn] at hr ⊢
 rw [← hn] at hl hrl
 refine k_E1 (rs:=[.tmp 2]) 30 Tryz.func24 rfl rfl rfl ?_
 refine r9_ ?_
 refine ARun.makeSlice (zab rfl) zb6 rfl rfl (by omega) (by omega) (by omega) (by omega) ?_
 intro b8 f8
 have g8:=f8
 repeat ((with_reducible replace g8:=zaa g8);obtain ⟨g8,_⟩:=g8)
 refine r3_ ?_
 rw [show madeL [Value.int .i64 0] (((n:Nat):Int).toNat*1)=List.replicate (n-0) (gI 0) by rw [za8,Nat.mul_one];rfl,Nat.mul_one,Int.toNat_natCast]
 refine r9_ ?_
 refine AWP.loop (X:=Nat) (fun x=>[(0,.slice ra n rc),(3,.slice (some ⟨b8,0,none⟩) n n),(10,.int .i64 n),(11,.int .i64 x)]) (fun x=>S.set b8 ⟨3,(List.range x).map gI ++ List.replicate (n-x) (gI 0),n⟩) (fun x=>x≤n) (fun x=>n-x) (0) ⟨rfl,rfl,rfl,rfl,trivial⟩ (Mem.Less.refl _) (Nat.zero_le _) ?_
 rintro i hi
 (try dsimp only at *)
 by_cases hc:i<n
 ·refine r6_ ?_
  refine cT_ ?_
  have hlr:((List.range i).map gI ++ List.replicate (n-i) (gI 0)).length=n:=by simp;omega
  refine r15_ ?_
  refine ARun.store1 rfl rfl zb0 rfl (Mem.own_set_same _ _ _) (by show 0+(i:Int).toNat*1<_;rw [hlr];omega) rfl ?_
  try simp only [k_ms,k_sz,k_ss,k_za,Nat.reduceAdd]
  refine r3_ ?_
  simp only [Nat.zero_add,Nat.mul_one,Int.toNat_natCast]
  rw [show (Value.int .i64 (i:Int))=gI i from rfl,zjU gI (List.range i) 0 n i i (by simp) hc,← List.range_succ]
  refine s1_ ?_
  refine rC (Calm.bin rfl rfl zll) ?_
  refine r3_ ?_
  refine ⟨i+1,?_,?_,?_,?_⟩
  all_goals (try dsimp only)
  ·exact ⟨sq_,sq_,sq_,sq_,trivial⟩
  ·exact Mem.Less.refl _
  ·exact hc
  ·omega
 ·obtain rfl:n=i:=by omega
  refine r6_ ?_
  refine cF_ ?_
  rw [Nat.sub_self,List.replicate_zero,List.append_nil]
  refine r12_ ?_
  refine AWP.loop (X:=Mem × List Nat × List Nat × Value × Nat) (fun x=>[(0,x.2.2.2.1),(3,.slice (some ⟨b8,0,none⟩) n n),(5,.int .i64 x.2.2.2.2)]) (fun x=>x.1.set b8 ⟨3,x.2.1.map gI,n⟩) (fun x=>S.Less x.1∧Fresh x.1 b8∧IdxR x.1 x.2.2.2.1 x.2.2.1∧RkO l x.2.2.1∧x.2.1.Perm (List.range n)∧1≤x.2.2.2.2∧x.2.2.2.2≤8192∧(1<x.2.2.2.2→SoO l x.2.1)) (fun x=>8192-x.2.2.2.2) ((S,List.range n,r,.slice ra n rc,1)) ⟨rfl,rfl,rfl,trivial⟩ (Mem.Less.refl _) (⟨Mem.Less.refl _,f8,hr,hro,List.Perm.refl _,Nat.le_refl _,by show 1≤8192;decide,fun h=>absurd h (Nat.lt_irrefl 1)⟩) ?_
  rintro ⟨M,e,r2,vr2,k⟩ ⟨q1,q2,q3,q4,q7,q8,q9,q10⟩
  (try dsimp only at *)
  have q4:RkO l r2:=q4
  have q3:IdxR M vr2 r2:=q3
  obtain ⟨ra2,rc2,rfl,_⟩:=id q3
  have q5:=q4.n
  rw [← hn] at q5
  rw [q5] at q3 ⊢
  by_cases hk:k≤n
  ·refine r9_ ?_
   refine k_v4 0 3 5 22 ?_
   refine cT_ ?_
   refine r8_ ?_
   refine ca_ rfl (zkV b8 k _ rfl n _ l r2 e M q2 q3 q4 hu hn (by omega) hl q9 q7) ?_
   rintro u S2 ⟨S1,e2,r3,rfl,g1,g2,g3,g4,g5⟩
   refine r10_ ?_
   refine ⟨(S1,e2,r3,u,k+k),?_,?_,?_,?_⟩
   all_goals (try dsimp only)
   ·exact ⟨sq_,sq_,congrArg (fun q:Int=>some (Value.int .i64 q)) (by omega),trivial⟩
   ·exact Mem.Less.refl _
   ·exact ⟨q1.trans g2,g1,g3,g5,by have:=g4.p;rwa [← hn] at this,by omega,by omega,fun _=>g4⟩
   ·omega
  ·refine r9_ ?_
   refine cF_ ?_
   have hso:SoO l e:=by
    by_cases h1:1<k
    ·exact q10 h1
    ·exact ⟨by rw [← hn];exact q7,fun i j _ hj=>by omega⟩
   refine r12_ ?_
   refine ⟨_,_,⟨_,_,rfl,rfl,rfl⟩,Mem.Less.refl _,?_⟩
   exact ⟨e,hso,q1.trans (Mem.less_set _ _ _ q2.1),Sl.own1 (g:=gI) (l:=e) (Mem.own_set_same _ _ _) List.prefix_rfl (by rw [q7.length_eq,List.length_range]) (Nat.le_refl _) (by omega)⟩
end Oe
end
section
open Go.RowKit
open Mv
namespace Srt
open Go.Sort (swp scanUp scanDown partLoop partition partEqLoop partitionEqual)
theorem nt_ {p:Bool} (h:(!p)=true):p=false:=by cases p <;> simp_all
theorem nf_ {p:Bool} (h:(!p)=false):p=true:=by cases p <;> simp_all
def ltN (x y:Nat):Bool:=decide (x<y)
def PartR (α : Type) [Inhabited α] (M:Array α→Mem) (okP : α→Prop) (n:Nat) (q:Nat × Bool × Array α) (a e:Nat) (r:Value) (S':Mem):Prop :=
  r = .tuple #[.int .i64 (q.1:Int),.bool q.2.1]∧S'=M q.2.2∧Rw okP n q.2.2∧a≤q.1∧q.1<e
def PartEqR (α : Type) [Inhabited α] (M:Array α→Mem) (okP : α→Prop) (n:Nat) (q:Nat × Array α) (a e:Nat) (r:Value) (S':Mem):Prop :=
  r = .int .i64 (q.1:Int)∧S'=M q.2∧Rw okP n q.2∧a<q.1∧q.1≤e
section
variable {α : Type} [Inhabited α] (lt : α → α→Bool)
theorem zns {M:Array α→Mem} {okP : α→Prop} {n a p J i j:Nat} {d d0:Array α} (hd:d0=swp d a p) (hU:i=scanUp (fun x=>lt x d0[a]!) d0 J (a+1)) (hD:j=scanDown (fun x=>!lt x d0[a]!) d0 i J) (hx:j<i)
  (R:Rw okP n (swp d0 j a)) (h1:a≤j) (h2:j≤J):PartR α M okP n (partition lt d a (J+1) p) a (J+1) (.tuple #[.int .i64 (j:Int),.bool true]) (M (swp d0 j a)):=by
 have e:partition lt d a (J+1) p=(j,true,swp d0 j a):=by
  unfold partition
  simp only [Nat.add_sub_cancel,← hd,← hU,← hD]
  rw [if_pos hx]
 rw [e];exact ⟨rfl,rfl,R,h1,by show j<J+1;omega⟩
theorem znt {M:Array α→Mem} {okP : α→Prop} {n a p J i j j3:Nat} {d d0 d3:Array α} (hd:d0=swp d a p) (hU:i=scanUp (fun x=>lt x d0[a]!) d0 J (a+1)) (hD:j=scanDown (fun x=>!lt x d0[a]!) d0 i J) (hx : ¬ j<i)
  (h3:(j3,d3)=partLoop lt a (i+1) (j-1) (swp d0 i j)) (R:Rw okP n (swp d3 j3 a)) (h1:a≤j3) (h2:j3≤J):PartR α M okP n (partition lt d a (J+1) p) a (J+1) (.tuple #[.int .i64 (j3:Int),.bool false]) (M (swp d3 j3 a)):=by
 have e:partition lt d a (J+1) p=(j3,false,swp d3 j3 a):=by
  unfold partition
  simp only [Nat.add_sub_cancel,← hd,← hU,← hD]
  rw [if_neg hx,← h3]
 rw [e];exact ⟨rfl,rfl,R,h1,by show j3<J+1;omega⟩
theorem zkW {M:Array α→Mem} {okP : α→Prop} {n a p J i:Nat} {d d0 d3:Array α} (hd:d0=swp d a p) (h3:(i,d3)=partEqLoop lt a (a+1) J d0) (R:Rw okP n d3) (h1:a+1≤i) (h2:i≤J+1) :
  PartEqR α M okP n (partitionEqual lt d a (J+1) p) a (J+1) (.int .i64 (i:Int)) (M d3):=by
 have e:partitionEqual lt d a (J+1) p=(i,d3):=by
  unfold partitionEqual
  rw [Nat.add_sub_cancel,← hd,← h3]
 rw [e];exact ⟨rfl,rfl,R,h1,h2⟩
end
end Srt
end
section
open Go.RowKit
open Mv Srt
set_option maxRecDepth 4000
theorem zi7 (x:Nat) (h:x<2 ^ 64):Lib.bitLen x=Go.Sort.bitsLen x:=by
 induction x using Nat.strongRecOn with
 | _ x ih =>
  by_cases h0:x=0
  ·subst h0;rfl
  ·rw [Lib.bitLen_half x h0 h,ih (x / 2) (by omega) (by omega)]
   unfold Go.Sort.bitsLen
   rw [if_neg h0,Nat.log2_def x]
   by_cases h2:2≤x
   ·rw [if_pos h2,if_neg (by omega)];omega
   ·obtain rfl:x=1:=by omega
    simp
theorem znu (x:Nat) (hx:x<9223372036854775808) (S:Mem):ACall Tryz.prog 121 #[.int .u64 (x:Int)] S fun r S'=>r = .int .i64 (Go.Sort.bitsLen x:Nat)∧S'=S:=by
 refine ACall.of_same fun w=>?_
 have h:=Tryz.bits_Len (x:Int) w (by omega) (by omega)
 rw [Int.toNat_natCast,zi7 x (by omega)] at h
 exact h
theorem zdX (L:Nat) (h:L≤1048576):Go.Sort.bitsLen L≤21:=(Go.Sort.bitsLen_le_iff L 21).2 (by omega)
set_option maxHeartbeats 1000000 in
theorem ztI (iL:Int) (L:Nat) (eL:iL=L) (hL:L≤1048576) (S:Mem):ACall Tryz.prog 222 #[.int .i64 iL] S fun r S'=>r = .int .u64 ((1 <<< Go.Sort.bitsLen L:Nat):Int)∧S'=S:=by
 subst eL
 have hb:=zdX L hL
 have hp:IntKind.u64.wrap (1*2 ^ ((Go.Sort.bitsLen L:Nat):Int).toNat)=((1 <<< Go.Sort.bitsLen L:Nat):Int):=by
  rw [Int.toNat_natCast,Nat.one_shiftLeft,Int.one_mul]
  have h1:(2:Nat) ^ Go.Sort.bitsLen L≤2 ^ 21:=Nat.pow_le_pow_right (by omega) hb
  have h2:((2:Int) ^ Go.Sort.bitsLen L)=((2 ^ Go.Sort.bitsLen L:Nat):Int):=by simp
  rw [h2]
  generalize 2 ^ Go.Sort.bitsLen L=M at *
  exact IntWalk.u64_in _ (by omega)
 generalize hK:Go.Sort.bitsLen L=K at *
 refine k_E1 (rs:=[.tmp 2]) 7 Tryz.func222 rfl rfl rfl ?_
 refine r9_ ?_
 refine ca_ rfl ((hK ▸ znu L (by omega) S)) ?_
 rintro _ S1 ⟨rfl,h1⟩
 rw [h1];clear h1 S1
 refine rC (Calm.as (congrArg (Value.int .u64) hp) (Calm.bin rfl rfl (zga (by omega) (by show ((K:Nat):Int)≤64;omega)))) ?_
 refine r4_ ?_
 refine ⟨_,S,⟨_,_,rfl,rfl,rfl⟩,zad,?_⟩
 exact ⟨rfl,rfl⟩
theorem zfq (a b:Nat) (ha:a<18446744073709551616) (hb:b<18446744073709551616):bits .xor .u64 (a:Int) (b:Int)=((a ^^^ b:Nat):Int):=by
 have h:a ^^^ b<2 ^ 64:=Nat.xor_lt_two_pow (by omega) (by omega)
 show IntKind.u64.wrap (((BitVec.ofInt 64 (a:Int)) ^^^ (BitVec.ofInt 64 (b:Int))).toNat:Int)=_
 rw [BitVec.ofInt_natCast,BitVec.ofInt_natCast,BitVec.toNat_xor,BitVec.toNat_ofNat,BitVec.toNat_ofNat,Nat.mod_eq_of_lt (by omega),Nat.mod_eq_of_lt (by omega)]
 exact IntWalk.u64_in _ (by omega)
theorem wrap_u64 (n:Nat):IntKind.u64.wrap (n:Int)=((n % 18446744073709551616:Nat):Int):=by
 simp [IntKind.wrap,IntKind.bits,IntKind.signed]
def xorB (x:Nat):Blk:=⟨316,[.int .u64 (x:Int)],1⟩
set_option maxHeartbeats 1000000 in
theorem zr7 (c:Nat) (r:UInt64) (S:Mem) (hc:Fresh S c) :
  ACall Tryz.prog 223 #[.pointer (some ⟨c,0,none⟩)] (S.set c (xorB r.toNat)) fun v S'=>v = .int .u64 (((Go.Sort.xorNext r).toNat:Nat):Int)∧S'=S.set c (xorB (Go.Sort.xorNext r).toNat):=by
 have hx:r.toNat<18446744073709551616:=r.toNat_lt
 rw [Go.Sort.xorNext_toNat]
 unfold Go.Sort.xorNextN
 generalize r.toNat=x at *
 have p:(18446744073709551616:Nat)=2 ^ 64:=by decide
 obtain ⟨y,hy⟩ : ∃ y,y=x ^^^ (x*8192 % 18446744073709551616):=⟨_,rfl⟩
 have y1:y<18446744073709551616:=by rw [hy,p];exact Nat.xor_lt_two_pow (by omega) (by omega)
 obtain ⟨z,hz⟩ : ∃ z,z=y ^^^ (y / 128):=⟨_,rfl⟩
 have z1:z<18446744073709551616:=by rw [hz,p];exact Nat.xor_lt_two_pow (by omega) (by omega)
 have e1:∀ (t:TypeId) (a b:Operand),Bin Tryz.prog .shl t a b (.int .u64 (x:Int)) (.int .u64 13) (.int .u64 ((x*8192 % 18446744073709551616:Nat):Int)):=fun t a b=>by
  have h:=zga (P:=Tryz.prog) (t:=t) (x:=a) (y:=b) (k:=.u64) (k':=.u64) (a:=(x:Int)) (b:=13) (by decide) (by decide)
  have e:IntKind.u64.wrap ((x:Int)*2 ^ (13:Int).toNat)=((x*8192 % 18446744073709551616:Nat):Int):=wrap_u64 (x*8192)
  rw [e] at h;exact h
 have e2:∀ (t:TypeId) (a b:Operand),Bin Tryz.prog .shr t a b (.int .u64 (y:Int)) (.int .u64 7) (.int .u64 ((y / 128:Nat):Int)):=fun t a b =>
  zlg (P:=Tryz.prog) (t:=t) (x:=a) (y:=b) (k:=.u64) (k':=.u64) (a:=(y:Int)) (b:=7) (by decide) (by decide)
 have e3:∀ (t:TypeId) (a b:Operand),Bin Tryz.prog .shl t a b (.int .u64 (z:Int)) (.int .u64 17) (.int .u64 ((z*131072 % 18446744073709551616:Nat):Int)):=fun t a b=>by
  have h:=zga (P:=Tryz.prog) (t:=t) (x:=a) (y:=b) (k:=.u64) (k':=.u64) (a:=(z:Int)) (b:=17) (by decide) (by decide)
  have e:IntKind.u64.wrap ((z:Int)*2 ^ (17:Int).toNat)=((z*131072 % 18446744073709551616:Nat):Int):=wrap_u64 (z*131072)
  rw [e] at h;exact h
 have x1:=zfq x (x*8192 % 18446744073709551616) hx (Nat.mod_lt _ (by decide))
 have x2:=zfq y (y / 128) y1 (by omega)
 have x3:=zfq z (z*131072 % 18446744073709551616) z1 (Nat.mod_lt _ (by decide))
 rw [← hy] at x1
 rw [← hz] at x2
 simp only [← hy,← hz]
 clear hy hz
 unfold xorB
 refine k_E1 (rs:=[.tmp 2]) 33 Tryz.func223 rfl rfl rfl ?_
 refine r6_ ?_
 refine AWP.draw [(0,true),(1,true),(2,true),(3,true),(4,true),(5,true),(6,true),(7,true),(8,true),(9,false)] [9] mixed (by kernel_rfl) ?_
 refine r6_ ?_
 refine dP (hc:=fun _=>Calm.bin rfl rfl (e1 _ _ _)) (h:=?_)
 refine dP (hc:=fun _=>Calm.bin rfl rfl (zgc x1)) (h:=?_)
 refine s1_ ?_
 refine zac rfl ?_
 refine s1_ ?_
 refine zae ⟨fun h=>absurd h (by decide),?_⟩
 refine r3_ ?_
 refine AWP.draw [(0,true),(1,true),(2,true),(3,true),(4,true),(5,true),(6,true),(7,true),(8,true),(9,false)] [9] mixed (by kernel_rfl) ?_
 refine r6_ ?_
 refine dP (hc:=fun _=>Calm.bin rfl rfl (e2 _ _ _)) (h:=?_)
 refine dP (hc:=fun _=>Calm.bin rfl rfl (zgc x2)) (h:=?_)
 refine s1_ ?_
 refine zac rfl ?_
 refine s1_ ?_
 refine zae ⟨fun h=>absurd h (by decide),?_⟩
 refine r3_ ?_
 refine AWP.draw [(0,true),(1,true),(2,true),(3,true),(4,true),(5,true),(6,true),(7,true),(8,true),(9,false)] [9] mixed (by kernel_rfl) ?_
 refine r6_ ?_
 refine dP (hc:=fun _=>Calm.bin rfl rfl (e3 _ _ _)) (h:=?_)
 refine dP (hc:=fun _=>Calm.bin rfl rfl (zgc x3)) (h:=?_)
 refine s1_ ?_
 refine zac rfl ?_
 refine s1_ ?_
 refine zae ⟨fun h=>absurd h (by decide),?_⟩
 refine r11_ ?_
 refine ⟨_,_,⟨_,_,rfl,rfl,rfl⟩,Mem.Less.refl _,?_⟩
 exact ⟨rfl,rfl⟩
end
section
open Go.RowKit
open Mv Srt
open Go.Sort (swp insInner insOuter insertionSort siftDown heapBuild heapPop heapSort scanUp scanDown partLoop partition partEqLoop partitionEqual scanSorted shiftDown shiftUp partialIns partialInsertionSort order2 median medianAdjacent choosePivot reverseLoop reverseRange breakStep breakPatterns pdq bitsLen xorNext Hint)
set_option maxRecDepth 4000
def encU (x:Nat):Value:=.int .u64 (x:Int)
theorem zr8 (x:Nat) (S:Mem):ACall Tryz.prog 182 #[encU x] S fun r S'=>r = .bool false∧S'=S:=by
 unfold encU
 refine k_E1 (rs:=[.tmp 2]) 6 Tryz.func182 rfl rfl rfl ?_
 refine r14_ ?_
 refine ⟨_,S,⟨_,_,rfl,rfl,rfl⟩,zad,?_⟩
 exact ⟨rfl,rfl⟩
theorem zaX (x y:Nat) (S:Mem):ACall Tryz.prog 122 #[encU x,encU y] S fun r S'=>r = .bool (ltN x y)∧S'=S:=by
 have hlt:decide ((x:Int)<(y:Int))=ltN x y:=by unfold ltN;rw [Bool.eq_iff_iff];simp
 have hx:=zr8 x S
 unfold encU at *
 refine k_E2 (rs:=[.tmp 4]) 17 Tryz.func122 rfl rfl rfl ?_
 refine r8_ ?_
 refine ca_ rfl (hx) ?_
 rintro _ S1 ⟨rfl,h1⟩
 rw [h1];clear h1 S1
 refine r8_ ?_
 first|refine k_q 12 ?_|refine rG 12 (Calm.bin rfl rfl (zag (zbc _ _) hlt)) ?_
 refine r5_ ?_
 refine ⟨_,S,⟨_,_,rfl,rfl,rfl⟩,zad,?_⟩
 exact ⟨rfl,rfl⟩
set_option maxHeartbeats 4000000 in
theorem zr9 {S:Mem} (b room n cap:Nat) (hb:Fresh S b) (hn:n≤1048576) (d:Array Nat) (R:Rw (fun _=>True) n d) (ia ie:Int) (a e:Nat) (ha:ia=a) (he:ie=e) (han:a≤n) (hen:e≤n) :
  ACall Tryz.prog 173 #[.slice (some ⟨b,0,none⟩) n cap,.int .i64 ia,.int .i64 ie] (S.set b ⟨24,(d).toList.map encU,room⟩) fun r S'=>S'=S.set b ⟨24,(insertionSort ltN d a e).toList.map encU,room⟩∧Rw (fun _=>True) n (insertionSort ltN d a e):=by
 subst ha he
 refine k_E3 (rs:=[]) 49 Tryz.func173 rfl rfl rfl ?_
 refine r8_ ?_
 refine AWP.loop (X:=Nat × Array Nat) (fun x=>[(0,.slice (some ⟨b,0,none⟩) n cap),(1,.int .i64 a),(2,.int .i64 e),(6,.int .i64 x.1)]) (fun x=>S.set b ⟨24,(x.2).toList.map encU,room⟩) (fun x=>a<x.1∧(x.1≤n∨e≤x.1)∧Rw (fun _=>True) n x.2∧insOuter ltN a e x.1 x.2=insertionSort ltN d a e) (fun x=>e-x.1) ((a+1,d)) ⟨sb_,sb_,sb_,sb_,trivial⟩ (Mem.Less.refl _) (⟨by omega,by omega,R,rfl⟩) ?_
 rintro ⟨i,d1⟩ ⟨h1,h2,R1,h3⟩
 (try dsimp only at *)
 have z1:=R1.size
 by_cases hi:i<e
 ·refine r8_ ?_
  refine cT_ ?_
  refine r11_ ?_
  refine AWP.loop (X:=Nat × Array Nat) (fun x=>[(0,.slice (some ⟨b,0,none⟩) n cap),(1,.int .i64 a),(2,.int .i64 e),(6,.int .i64 i),(7,.int .i64 x.1)]) (fun x=>S.set b ⟨24,(x.2).toList.map encU,room⟩) (fun x=>x.1≤i∧Rw (fun _=>True) n x.2∧insInner ltN a x.1 x.2=insInner ltN a i d1) (fun x=>x.1) ((i,d1)) ⟨rfl,rfl,rfl,rfl,rfl,trivial⟩ (Mem.Less.refl _) (⟨Nat.le_refl _,R1,rfl⟩) ?_
  rintro ⟨j,d2⟩ ⟨k1,R2,k3⟩
  (try dsimp only at *)
  have z2:=R2.size
  have q0:=zpQ ltN (a:=a) (d:=d1) hi
  by_cases ha:a<j
  ·obtain ⟨j,rfl⟩ : ∃ q,j=q+1:=⟨j-1,by omega⟩
   refine r2_ ?_
   refine AWP.draw [(0,true),(1,true),(2,true),(3,true),(4,true),(5,true),(6,true),(7,true),(8,true),(9,true),(10,true),(11,true),(12,true),(13,false),(14,true)] [] mixed (by kernel_rfl) ?_
   refine r7_ ?_
   first|refine k_d ?_|refine dL (hc:=Calm.load zaf rfl (zak (k:=j+1) own_ rw_ rw_)) (h:=?_)
   refine r4_ ?_
   first|refine k_d ?_|refine dL (hc:=Calm.load zaf rfl (zak (k:=j) own_ rw_ rw_)) (h:=?_)
   refine zac rfl ?_
   refine ARun.callG 3 true 19 rfl (zab rfl) rfl (zab rfl) zcS rfl (zaX _ _ _) ?_
   rintro _ _ ⟨rfl,rfl⟩
   refine zae ⟨fun _=>zad,?_⟩
   refine r3_ ?_
   refine AWP.condB rfl (fun hl=>?_) (fun hl=>?_)
   ·refine r4_ ?_
    refine AWP.draw [(0,true),(1,true),(2,true),(3,true),(4,true),(5,true),(6,true),(7,true),(8,true),(9,true),(10,true),(11,true),(12,true),(13,true),(14,true),(15,false),(16,true),(17,false)] [15,17] mixed (by kernel_rfl) ?_
    refine r9_ ?_
    refine dC (hc:=Calm.load zaf rfl (zak (k:=j) own_ rw_ rw_)) (h:=?_)
    refine r3_ ?_
    refine dC (hc:=Calm.load zaf rfl (zak (k:=j+1) own_ rw_ rw_)) (h:=?_)
    refine s1_ ?_
    refine zac rfl ?_
    refine ARun.storeRow encU (j+1) rfl rfl zah ⟨rfl,rfl⟩ own_ rw_ rw_ ?_
    try simp only [k_ms,k_sz,k_ss,k_za,Nat.reduceAdd]
    refine zae ⟨fun h=>absurd h (by decide),?_⟩
    refine s1_ ?_
    refine zac rfl ?_
    refine ARun.storeRow encU (j) rfl rfl zah ⟨rfl,rfl⟩ own_ rw_ rw_ ?_
    try simp only [k_ms,k_sz,k_ss,k_za,Nat.reduceAdd]
    refine zae ⟨fun h=>absurd h (by decide),?_⟩
    refine r3_ ?_
    refine k_v6 0 1 2 6 7 30 ?_
    refine r6_ ?_
    refine ⟨(j,swp d2 (j+1) j),?_,?_,?_,?_⟩
    all_goals (try dsimp only)
    ·exact ⟨sb_,sb_,sb_,sb_,sb_,trivial⟩
    ·exact Mem.Less.refl _
    ·exact ⟨by omega,R2.swp _ _ (by omega) (by omega),(ztD ltN ha hl).trans k3⟩
    ·omega
   ·refine r12_ ?_
    refine ⟨(i+1,d2),?_,?_,?_,?_⟩
    all_goals (try dsimp only)
    ·exact ⟨sb_,sb_,sb_,sb_,trivial⟩
    ·exact Mem.Less.refl _
    ·exact ⟨by omega,by omega,R2,by rw [← k3,← ztE ltN hl] at q0;exact q0.trans h3⟩
    ·omega
  ·refine r2_ ?_
   refine AWP.draw [(0,true),(1,true),(2,true),(3,true),(4,true),(5,true),(6,true),(7,true),(8,true),(9,true),(10,true),(11,true),(12,true),(13,false),(14,true)] [] mixed (by kernel_rfl) ?_
   refine r7_ ?_
   first|refine k_d ?_|refine dL (hc:=Calm.load zaf rfl (zak (k:=j+1) own_ rw_ rw_)) (h:=?_)
   refine r4_ ?_
   first|refine k_d ?_|refine dL (hc:=Calm.load zaf rfl (zak (k:=j) own_ rw_ rw_)) (h:=?_)
   refine zac rfl ?_
   refine s1_ ?_
   refine zae ⟨fun _=>zad,?_⟩
   refine r3_ ?_
   refine cF_ ?_
   refine r12_ ?_
   refine ⟨(i+1,d2),?_,?_,?_,?_⟩
   all_goals (try dsimp only)
   ·exact ⟨sb_,sb_,sb_,sb_,trivial⟩
   ·exact Mem.Less.refl _
   ·exact ⟨by omega,by omega,R2,by rw [← k3,← zr1 ltN ha] at q0;exact q0.trans h3⟩
   ·omega
 ·refine r8_ ?_
  refine cF_ ?_
  refine r4_ ?_
  refine ⟨_,_,rfl,Mem.Less.refl _,?_⟩
  rw [← h3,← znn ltN hi];exact ⟨rfl,R1⟩
set_option maxHeartbeats 4000000 in
theorem zjV {S:Mem} (b room n cap:Nat) (hb:Fresh S b) (hn:n≤1048576) (d:Array Nat) (R:Rw (fun _=>True) n d) (il ih iF:Int) (lo hi first:Nat) (el:il=lo) (eh:ih=hi) (ef:iF=first) (hlo:lo≤n) (hfn:first+hi≤n) :
  ACall Tryz.prog 221 #[.slice (some ⟨b,0,none⟩) n cap,.int .i64 il,.int .i64 ih,.int .i64 iF] (S.set b ⟨24,(d).toList.map encU,room⟩) fun r S'=>S'=S.set b ⟨24,(siftDown ltN hi first lo d).toList.map encU,room⟩∧Rw (fun _=>True) n (siftDown ltN hi first lo d):=by
 subst el eh ef
 refine k_E4 (rs:=[]) 76 Tryz.func221 rfl rfl rfl ?_
 refine r7_ ?_
 refine AWP.loop (X:=Nat × Array Nat) (fun x=>[(0,.slice (some ⟨b,0,none⟩) n cap),(2,.int .i64 hi),(3,.int .i64 first),(8,.int .i64 x.1)]) (fun x=>S.set b ⟨24,(x.2).toList.map encU,room⟩) (fun x=>x.1≤n∧Rw (fun _=>True) n x.2∧siftDown ltN hi first x.1 x.2=siftDown ltN hi first lo d) (fun x=>n+1-x.1) ((lo,d)) ⟨rfl,rfl,rfl,rfl,trivial⟩ (Mem.Less.refl _) (⟨hlo,R,rfl⟩) ?_
 rintro ⟨r,d1⟩ ⟨h1,R1,h3⟩
 (try dsimp only at *)
 have z1:=R1.size
 by_cases hc:hi≤2*r+1
 ·refine r9_ ?_
  refine r8_ ?_
  refine cT_ ?_
  refine r5_ ?_
  refine ⟨_,_,rfl,Mem.Less.refl _,?_⟩
  rw [← h3,← zno ltN hc];exact ⟨rfl,R1⟩
 ·refine r9_ ?_
  refine r8_ ?_
  refine k_v6 0 2 3 8 9 16 ?_
  refine cF_ ?_
  by_cases h2:2*r+2<hi
  ·refine r4_ ?_
   refine AWP.draw [(0,true),(1,true),(2,true),(3,true),(4,true),(5,true),(6,true),(7,true),(8,true),(9,true),(10,true),(11,true),(12,true),(13,true),(14,true),(15,true),(16,true),(17,true),(18,false),(19,true)] [] mixed (by kernel_rfl) ?_
   refine r10_ ?_
   first|refine k_d ?_|refine dL (hc:=Calm.load zaf rfl (zak (k:=first+(2*r+1)) own_ rw_ rw_)) (h:=?_)
   refine r6_ ?_
   first|refine k_d ?_|refine dL (hc:=Calm.load zaf rfl (zak (k:=first+(2*r+2)) own_ rw_ rw_)) (h:=?_)
   refine zac rfl ?_
   refine ARun.callG 4 true 21 rfl (zab rfl) rfl (zab rfl) zcS rfl (zaX _ _ _) ?_
   rintro _ _ ⟨rfl,rfl⟩
   refine zae ⟨fun _=>zad,?_⟩
   refine r3_ ?_
   refine AWP.condB rfl (fun hl=>?_) (fun hl=>?_)
   ·have ch:child ltN hi first r d1=2*r+2:=if_pos ⟨h2,hl⟩
    refine r8_ ?_
    refine AWP.draw [(0,true),(1,true),(2,true),(3,true),(4,true),(5,true),(6,true),(7,true),(8,true),(9,true),(10,true),(11,true),(12,false),(13,true)] [] mixed (by kernel_rfl) ?_
    refine r5_ ?_
    refine dC (hc:=Calm.load zaf rfl (zak (k:=first+r) own_ rw_ rw_)) (h:=?_)
    refine r5_ ?_
    refine dC (hc:=Calm.load zaf rfl (zak (k:=first+(2*r+2)) own_ rw_ rw_)) (h:=?_)
    refine zac rfl ?_
    refine ca_ rfl (zaX _ _ _) ?_
    rintro _ _ ⟨rfl,rfl⟩
    refine zae ⟨fun _=>zad,?_⟩
    refine r3_ ?_
    refine AWP.condB rfl (fun hl2=>?_) (fun hl2=>?_)
    ·have hl2:=nt_ hl2
     refine r5_ ?_
     refine ⟨_,_,rfl,Mem.Less.refl _,?_⟩
     rw [← h3,← zfp ltN hc (by rw [ch];exact hl2)];exact ⟨rfl,R1⟩
    ·have hl2:=nf_ hl2
     refine r3_ ?_
     refine AWP.draw [(0,true),(1,true),(2,true),(3,true),(4,true),(5,true),(6,true),(7,true),(8,true),(9,true),(10,true),(11,true),(12,true),(13,true),(14,true),(15,true),(16,true),(17,true),(18,true),(19,true),(20,true),(21,false),(22,true),(23,false)] [21,23] mixed (by kernel_rfl) ?_
     refine r13_ ?_
     refine dC (hc:=Calm.load zaf rfl (zak (k:=first+(2*r+2)) own_ rw_ rw_)) (h:=?_)
     refine r5_ ?_
     refine dC (hc:=Calm.load zaf rfl (zak (k:=first+r) own_ rw_ rw_)) (h:=?_)
     refine s1_ ?_
     refine zac rfl ?_
     refine ARun.storeRow encU (first+r) rfl rfl zah ⟨rfl,rfl⟩ own_ rw_ rw_ ?_
     try simp only [k_ms,k_sz,k_ss,k_za,Nat.reduceAdd]
     refine zae ⟨fun h=>absurd h (by decide),?_⟩
     refine s1_ ?_
     refine zac rfl ?_
     refine ARun.storeRow encU (first+(2*r+2)) rfl rfl zah ⟨rfl,rfl⟩ own_ rw_ rw_ ?_
     try simp only [k_ms,k_sz,k_ss,k_za,Nat.reduceAdd]
     refine zae ⟨fun h=>absurd h (by decide),?_⟩
     refine r8_ ?_
     refine ⟨(2*r+2,swp d1 (first+r) (first+(2*r+2))),?_,?_,?_,?_⟩
     all_goals (try dsimp only)
     ·exact ⟨sb_,sb_,sb_,sb_,trivial⟩
     ·exact Mem.Less.refl _
     ·exact ⟨by omega,R1.swp _ _ (by omega) (by omega),by have q0:=zi3 ltN hc (by rw [ch];exact hl2);rw [ch] at q0;exact q0.trans h3⟩
     ·omega
   ·have ch:child ltN hi first r d1=2*r+1:=if_neg (fun h=>Bool.noConfusion (hl.symm.trans h.2))
    refine r4_ ?_
    refine AWP.draw [(0,true),(1,true),(2,true),(3,true),(4,true),(5,true),(6,true),(7,true),(8,true),(9,true),(10,true),(11,true),(12,false),(13,true)] [] mixed (by kernel_rfl) ?_
    refine r5_ ?_
    refine dC (hc:=Calm.load zaf rfl (zak (k:=first+r) own_ rw_ rw_)) (h:=?_)
    refine r5_ ?_
    refine dC (hc:=Calm.load zaf rfl (zak (k:=first+(2*r+1)) own_ rw_ rw_)) (h:=?_)
    refine zac rfl ?_
    refine ca_ rfl (zaX _ _ _) ?_
    rintro _ _ ⟨rfl,rfl⟩
    refine zae ⟨fun _=>zad,?_⟩
    refine r3_ ?_
    refine k_v8 0 2 3 8 9 16 36 52 ?_
    refine AWP.condB rfl (fun hl2=>?_) (fun hl2=>?_)
    ·have hl2:=nt_ hl2
     refine r5_ ?_
     refine ⟨_,_,rfl,Mem.Less.refl _,?_⟩
     rw [← h3,← zfp ltN hc (by rw [ch];exact hl2)];exact ⟨rfl,R1⟩
    ·have hl2:=nf_ hl2
     refine r3_ ?_
     refine AWP.draw [(0,true),(1,true),(2,true),(3,true),(4,true),(5,true),(6,true),(7,true),(8,true),(9,true),(10,true),(11,true),(12,true),(13,true),(14,true),(15,true),(16,true),(17,true),(18,true),(19,true),(20,true),(21,false),(22,true),(23,false)] [21,23] mixed (by kernel_rfl) ?_
     refine r13_ ?_
     refine dC (hc:=Calm.load zaf rfl (zak (k:=first+(2*r+1)) own_ rw_ rw_)) (h:=?_)
     refine r5_ ?_
     refine dC (hc:=Calm.load zaf rfl (zak (k:=first+r) own_ rw_ rw_)) (h:=?_)
     refine s1_ ?_
     refine zac rfl ?_
     refine ARun.storeRow encU (first+r) rfl rfl zah ⟨rfl,rfl⟩ own_ rw_ rw_ ?_
     try simp only [k_ms,k_sz,k_ss,k_za,Nat.reduceAdd]
     refine zae ⟨fun h=>absurd h (by decide),?_⟩
     refine s1_ ?_
     refine zac rfl ?_
     refine ARun.storeRow encU (first+(2*r+1)) rfl rfl zah ⟨rfl,rfl⟩ own_ rw_ rw_ ?_
     try simp only [k_ms,k_sz,k_ss,k_za,Nat.reduceAdd]
     refine zae ⟨fun h=>absurd h (by decide),?_⟩
     refine r8_ ?_
     refine ⟨(2*r+1,swp d1 (first+r) (first+(2*r+1))),?_,?_,?_,?_⟩
     all_goals (try dsimp only)
     ·exact ⟨sb_,sb_,sb_,sb_,trivial⟩
     ·exact Mem.Less.refl _
     ·exact ⟨by omega,R1.swp _ _ (by omega) (by omega),by have q0:=zi3 ltN hc (by rw [ch];exact hl2);rw [ch] at q0;exact q0.trans h3⟩
     ·omega
  ·refine r4_ ?_
   refine AWP.draw [(0,true),(1,true),(2,true),(3,true),(4,true),(5,true),(6,true),(7,true),(8,true),(9,true),(10,true),(11,true),(12,true),(13,true),(14,true),(15,true),(16,true),(17,true),(18,false),(19,true)] [] mixed (by kernel_rfl) ?_
   refine r10_ ?_
   first|refine k_d ?_|refine dL (hc:=Calm.load zaf rfl (zak (k:=first+(2*r+1)) own_ rw_ rw_)) (h:=?_)
   refine r6_ ?_
   first|refine k_d ?_|refine dL (hc:=Calm.load zaf rfl (zak (k:=first+(2*r+2)) own_ rw_ rw_)) (h:=?_)
   refine zac rfl ?_
   refine s1_ ?_
   refine zae ⟨fun _=>zad,?_⟩
   refine r3_ ?_
   refine cF_ ?_
   have ch:child ltN hi first r d1=2*r+1:=if_neg (fun h=>h2 h.1)
   refine r4_ ?_
   refine AWP.draw [(0,true),(1,true),(2,true),(3,true),(4,true),(5,true),(6,true),(7,true),(8,true),(9,true),(10,true),(11,true),(12,false),(13,true)] [] mixed (by kernel_rfl) ?_
   refine r5_ ?_
   refine dC (hc:=Calm.load zaf rfl (zak (k:=first+r) own_ rw_ rw_)) (h:=?_)
   refine r5_ ?_
   refine dC (hc:=Calm.load zaf rfl (zak (k:=first+(2*r+1)) own_ rw_ rw_)) (h:=?_)
   refine zac rfl ?_
   refine ca_ rfl (zaX _ _ _) ?_
   rintro _ _ ⟨rfl,rfl⟩
   refine zae ⟨fun _=>zad,?_⟩
   refine r3_ ?_
   refine AWP.condB rfl (fun hl2=>?_) (fun hl2=>?_)
   ·have hl2:=nt_ hl2
    refine r5_ ?_
    refine ⟨_,_,rfl,Mem.Less.refl _,?_⟩
    rw [← h3,← zfp ltN hc (by rw [ch];exact hl2)];exact ⟨rfl,R1⟩
   ·have hl2:=nf_ hl2
    refine r3_ ?_
    refine AWP.draw [(0,true),(1,true),(2,true),(3,true),(4,true),(5,true),(6,true),(7,true),(8,true),(9,true),(10,true),(11,true),(12,true),(13,true),(14,true),(15,true),(16,true),(17,true),(18,true),(19,true),(20,true),(21,false),(22,true),(23,false)] [21,23] mixed (by kernel_rfl) ?_
    refine r13_ ?_
    refine dC (hc:=Calm.load zaf rfl (zak (k:=first+(2*r+1)) own_ rw_ rw_)) (h:=?_)
    refine r5_ ?_
    refine dC (hc:=Calm.load zaf rfl (zak (k:=first+r) own_ rw_ rw_)) (h:=?_)
    refine s1_ ?_
    refine zac rfl ?_
    refine ARun.storeRow encU (first+r) rfl rfl zah ⟨rfl,rfl⟩ own_ rw_ rw_ ?_
    try simp only [k_ms,k_sz,k_ss,k_za,Nat.reduceAdd]
    refine zae ⟨fun h=>absurd h (by decide),?_⟩
    refine s1_ ?_
    refine zac rfl ?_
    refine ARun.storeRow encU (first+(2*r+1)) rfl rfl zah ⟨rfl,rfl⟩ own_ rw_ rw_ ?_
    try simp only [k_ms,k_sz,k_ss,k_za,Nat.reduceAdd]
    refine zae ⟨fun h=>absurd h (by decide),?_⟩
    refine r8_ ?_
    refine ⟨(2*r+1,swp d1 (first+r) (first+(2*r+1))),?_,?_,?_,?_⟩
    all_goals (try dsimp only)
    ·exact ⟨sb_,sb_,sb_,sb_,trivial⟩
    ·exact Mem.Less.refl _
    ·exact ⟨by omega,R1.swp _ _ (by omega) (by omega),by have q0:=zi3 ltN hc (by rw [ch];exact hl2);rw [ch] at q0;exact q0.trans h3⟩
    ·omega
set_option maxHeartbeats 4000000 in
theorem zpR {S:Mem} (b room n cap:Nat) (hb:Fresh S b) (hn:n≤1048576) (d:Array Nat) (R:Rw (fun _=>True) n d) (ia ie:Int) (a e:Nat) (ha:ia=a) (he:ie=e) (hae:a<e) (hen:e≤n) :
  ACall Tryz.prog 174 #[.slice (some ⟨b,0,none⟩) n cap,.int .i64 ia,.int .i64 ie] (S.set b ⟨24,(d).toList.map encU,room⟩) fun r S'=>S'=S.set b ⟨24,(heapSort ltN d a e).toList.map encU,room⟩∧Rw (fun _=>True) n (heapSort ltN d a e):=by
 subst ha he
 obtain ⟨L,rfl⟩ : ∃ L,e=a+L:=⟨e-a,by omega⟩
 have hH:heapPop ltN a L (heapBuild ltN L a ((L-1) / 2+1) d)=heapSort ltN d a (a+L):=by unfold heapSort;rw [Nat.add_sub_cancel_left]
 refine k_E3 (rs:=[]) 56 Tryz.func174 rfl rfl rfl ?_
 refine r29_ ?_
 refine AWP.loop (X:=Nat × Array Nat) (fun x=>[(0,.slice (some ⟨b,0,none⟩) n cap),(6,.int .i64 a),(7,.int .i64 0),(8,.int .i64 L),(9,.int .i64 ((x.1:Int)-1))]) (fun x=>S.set b ⟨24,(x.2).toList.map encU,room⟩) (fun x=>x.1≤L∧Rw (fun _=>True) n x.2∧heapPop ltN a L (heapBuild ltN L a x.1 x.2)=heapSort ltN d a (a+L)) (fun x=>x.1) (((L-1) / 2+1,d)) ⟨sb_,sb_,sb_,sb_,sb_,trivial⟩ (Mem.Less.refl _) (⟨by omega,R,hH⟩) ?_
 rintro ⟨k,d1⟩ ⟨h1,R1,h3⟩
 (try dsimp only at *)
 by_cases hk:0<k
 ·obtain ⟨k,rfl⟩ : ∃ q,k=q+1:=⟨k-1,by omega⟩
  refine r7_ ?_
  refine cT_ ?_
  refine r9_ ?_
  refine ca_ rfl (zjV b room n cap hb hn d1 R1 _ _ _ k L a rw_ rw_ rfl (by omega) (by omega)) ?_
  rintro _ _ ⟨rfl,R2⟩
  refine r3_ ?_
  refine k_v6 0 6 7 8 9 19 ?_
  refine r6_ ?_
  refine ⟨(k,siftDown ltN L a k d1),?_,?_,?_,?_⟩
  all_goals (try dsimp only)
  ·exact ⟨sb_,sb_,sb_,sb_,sb_,trivial⟩
  ·exact Mem.Less.refl _
  ·exact ⟨by omega,R2,h3⟩
  ·omega
 ·obtain rfl:k=0:=by omega
  refine r7_ ?_
  refine cF_ ?_
  refine r13_ ?_
  refine AWP.loop (X:=Nat × Array Nat) (fun x=>[(0,.slice (some ⟨b,0,none⟩) n cap),(6,.int .i64 a),(7,.int .i64 0),(10,.int .i64 ((x.1:Int)-1))]) (fun x=>S.set b ⟨24,(x.2).toList.map encU,room⟩) (fun x=>x.1≤L∧Rw (fun _=>True) n x.2∧heapPop ltN a x.1 x.2=heapSort ltN d a (a+L)) (fun x=>x.1) ((L,d1)) ⟨sb_,sb_,sb_,sb_,trivial⟩ (Mem.Less.refl _) (⟨Nat.le_refl _,R1,h3⟩) ?_
  rintro ⟨k,d2⟩ ⟨k1,R2,k3⟩
  (try dsimp only at *)
  have z2:=R2.size
  by_cases hk:0<k
  ·obtain ⟨k,rfl⟩ : ∃ q,k=q+1:=⟨k-1,by omega⟩
   refine r7_ ?_
   refine cT_ ?_
   refine r5_ ?_
   refine AWP.draw [(0,true),(1,true),(2,true),(3,true),(4,true),(5,true),(6,true),(7,true),(8,true),(9,true),(10,true),(11,true),(12,true),(13,true),(14,true),(15,true),(16,true),(17,false),(18,true),(19,false)] [17,19] mixed (by kernel_rfl) ?_
   refine r11_ ?_
   refine dC (hc:=Calm.load zaf rfl (zak (k:=a+k) own_ rw_ rw_)) (h:=?_)
   refine r3_ ?_
   refine dC (hc:=Calm.load zaf rfl (zak (k:=a) own_ rw_ rw_)) (h:=?_)
   refine s1_ ?_
   refine zac rfl ?_
   refine ARun.storeRow encU (a) rfl rfl zah ⟨rfl,rfl⟩ own_ rw_ rw_ ?_
   try simp only [k_ms,k_sz,k_ss,k_za,Nat.reduceAdd]
   refine zae ⟨fun h=>absurd h (by decide),?_⟩
   refine s1_ ?_
   refine zac rfl ?_
   refine ARun.storeRow encU (a+k) rfl rfl zah ⟨rfl,rfl⟩ own_ rw_ rw_ ?_
   try simp only [k_ms,k_sz,k_ss,k_za,Nat.reduceAdd]
   refine zae ⟨fun h=>absurd h (by decide),?_⟩
   refine r7_ ?_
   refine ca_ rfl (zjV b room n cap hb hn (swp d2 a (a+k)) (R2.swp _ _ (by omega) (by omega)) _ _ _ 0 k a rfl rw_ rfl (by omega) (by omega)) ?_
   rintro _ _ ⟨rfl,R3⟩
   refine r3_ ?_
   refine k_v5 0 6 7 10 30 ?_
   refine r6_ ?_
   refine ⟨(k,siftDown ltN k a 0 (swp d2 a (a+k))),?_,?_,?_,?_⟩
   all_goals (try dsimp only)
   ·exact ⟨sb_,sb_,sb_,sb_,trivial⟩
   ·exact Mem.Less.refl _
   ·exact ⟨by omega,R3,k3⟩
   ·omega
  ·obtain rfl:k=0:=by omega
   refine r7_ ?_
   refine cF_ ?_
   refine r4_ ?_
   refine ⟨_,_,rfl,Mem.Less.refl _,?_⟩
   rw [← k3];exact ⟨rfl,R2⟩
set_option maxHeartbeats 4000000 in
theorem zpS {S:Mem} (b room n cap:Nat) (hb:Fresh S b) (hn:n≤1048576) (d:Array Nat) (R:Rw (fun _=>True) n d) (ia ie ip:Int) (a e p:Nat) (ha:ia=a) (he:ie=e) (hpp:ip=p) (hap:a≤p) (hpe:p<e) (hen:e≤n) :
  ACall Tryz.prog 180 #[.slice (some ⟨b,0,none⟩) n cap,.int .i64 ia,.int .i64 ie,.int .i64 ip] (S.set b ⟨24,(d).toList.map encU,room⟩) fun r S'=>PartR Nat (fun x:Array Nat=>S.set b ⟨24,(x).toList.map encU,room⟩) (fun _=>True) n (partition ltN d a e p) a e r S':=by
 subst ha he hpp
 obtain ⟨J,rfl⟩ : ∃ J,e=J+1:=⟨e-1,by omega⟩
 have R0:=R.swp a p (by omega) (by omega)
 have z:=R.size
 obtain ⟨d0,hd0⟩ : ∃ d0,d0=swp d a p:=⟨_,rfl⟩
 rw [← hd0] at R0
 have z0:=R0.size
 refine k_E4 (rs:=[.tmp 8,.tmp 9]) 168 Tryz.func180 rfl rfl rfl ?_
 refine r7_ ?_
 refine AWP.draw [(0,true),(1,true),(2,true),(3,true),(4,true),(5,true),(6,true),(7,true),(8,true),(9,true),(10,true),(11,true),(12,true),(13,false),(14,true),(15,false)] [13,15] mixed (by kernel_rfl) ?_
 refine r7_ ?_
 refine dC (hc:=Calm.load zaf rfl (zak (k:=p) own_ rw_ rw_)) (h:=?_)
 refine r3_ ?_
 refine dC (hc:=Calm.load zaf rfl (zak (k:=a) own_ rw_ rw_)) (h:=?_)
 refine s1_ ?_
 refine zac rfl ?_
 refine ARun.storeRow encU (a) rfl rfl zah ⟨rfl,rfl⟩ own_ rw_ rw_ ?_
 try simp only [k_ms,k_sz,k_ss,k_za,Nat.reduceAdd]
 refine zae ⟨fun h=>absurd h (by decide),?_⟩
 refine s1_ ?_
 refine zac rfl ?_
 refine ARun.storeRow encU (p) rfl rfl zah ⟨rfl,rfl⟩ own_ rw_ rw_ ?_
 try simp only [k_ms,k_sz,k_ss,k_za,Nat.reduceAdd]
 refine zae ⟨fun h=>absurd h (by decide),?_⟩
 refine r2_ ?_
 refine AWP.less (S.set b ⟨24,(d0).toList.map encU,room⟩) (by rw [hd0];exact Mem.Less.refl _) ?_
 refine r11_ ?_
 refine AWP.join (X:=Nat) (fun x=>[(0,.slice (some ⟨b,0,none⟩) n cap),(1,.int .i64 a),(10,.int .i64 x),(11,.int .i64 J)]) (fun _=>S.set b ⟨24,(d0).toList.map encU,room⟩) (fun x=>a+1≤x∧x≤J+1∧x=scanUp (fun x=>ltN x d0[a]!) d0 (J) (a+1)) ?_ ?_
 ·refine s1_ ?_
  refine AWP.loop (X:=Nat) (fun x=>[(0,.slice (some ⟨b,0,none⟩) n cap),(1,.int .i64 a),(10,.int .i64 x),(11,.int .i64 J)]) (fun _=>S.set b ⟨24,(d0).toList.map encU,room⟩) (fun x=>a+1≤x∧x≤J+1∧scanUp (fun x=>ltN x d0[a]!) d0 (J) x=scanUp (fun x=>ltN x d0[a]!) d0 (J) (a+1)) (fun x=>J+1-x) ((a+1)) ⟨sb_,sb_,sb_,sb_,trivial⟩ (Mem.Less.refl _) (⟨by omega,by omega,rfl⟩) ?_
  rintro i ⟨q1,q2,q3⟩
  (try dsimp only at *)
  by_cases hij:i≤J
  ·refine r2_ ?_
   refine AWP.draw [(0,true),(1,true),(2,true),(3,true),(4,true),(5,true),(6,true),(7,true),(8,true),(9,true),(10,true),(11,true),(12,false),(13,true)] [] mixed (by kernel_rfl) ?_
   refine r7_ ?_
   first|refine k_d ?_|refine dL (hc:=Calm.load zaf rfl (zak (k:=i) own_ rw_ rw_)) (h:=?_)
   refine r3_ ?_
   first|refine k_d ?_|refine dL (hc:=Calm.load zaf rfl (zak (k:=a) own_ rw_ rw_)) (h:=?_)
   refine zac rfl ?_
   refine ARun.callG 3 true 33 rfl (zab rfl) rfl (zab rfl) zcS rfl (zaX _ _ _) ?_
   rintro _ _ ⟨rfl,rfl⟩
   refine zae ⟨fun _=>zad,?_⟩
   refine r3_ ?_
   refine AWP.condB rfl (fun hl=>?_) (fun hl=>?_)
   ·refine r10_ ?_
    refine ⟨i+1,?_,?_,?_,?_⟩
    all_goals (try dsimp only)
    ·exact ⟨sb_,sb_,sb_,sb_,trivial⟩
    ·exact Mem.Less.refl _
    ·exact ⟨by omega,by omega,(zr2 (p:=(fun x=>ltN x d0[a]!)) hij (by simp only [hl,Bool.not_true,Bool.not_false])).trans q3⟩
    ·omega
   ·refine r4_ ?_
    refine ⟨i,?_,?_,?_⟩
    all_goals (try dsimp only)
    ·exact ⟨by omega,by omega,(zr3 (p:=(fun x=>ltN x d0[a]!)) (by simp only [hl,Bool.not_true,Bool.not_false])).trans q3⟩
    ·exact ⟨sb_,sb_,sb_,sb_,trivial⟩
    ·exact Mem.Less.refl _
  ·refine r2_ ?_
   refine AWP.draw [(0,true),(1,true),(2,true),(3,true),(4,true),(5,true),(6,true),(7,true),(8,true),(9,true),(10,true),(11,true),(12,false),(13,true)] [] mixed (by kernel_rfl) ?_
   refine r7_ ?_
   first|refine k_d ?_|refine dL (hc:=Calm.load zaf rfl (zak (k:=i) own_ rw_ rw_)) (h:=?_)
   refine r3_ ?_
   first|refine k_d ?_|refine dL (hc:=Calm.load zaf rfl (zak (k:=a) own_ rw_ rw_)) (h:=?_)
   refine zac rfl ?_
   refine s1_ ?_
   refine zae ⟨fun _=>zad,?_⟩
   refine r3_ ?_
   refine cF_ ?_
   refine r4_ ?_
   refine ⟨i,?_,?_,?_⟩
   all_goals (try dsimp only)
   ·exact ⟨by omega,by omega,(znp (p:=(fun x=>ltN x d0[a]!)) hij).trans q3⟩
   ·exact ⟨sb_,sb_,sb_,sb_,trivial⟩
   ·exact Mem.Less.refl _
 rintro i2 ⟨b1,b2,hU⟩
 intro _ _ hs_ hl_
 (try dsimp only at *)
 refine za1 ?_
 refine AWP.sub _ hs_ (AWP.less _ hl_ ?_)
 clear hs_ hl_
 refine s1_ ?_
 refine AWP.join (X:=Nat) (fun x=>[(0,.slice (some ⟨b,0,none⟩) n cap),(1,.int .i64 a),(10,.int .i64 i2),(11,.int .i64 x)]) (fun _=>S.set b ⟨24,(d0).toList.map encU,room⟩) (fun x=>a≤x∧x≤J∧x=scanDown (fun x=>!ltN x d0[a]!) d0 i2 J) ?_ ?_
 ·refine s1_ ?_
  refine AWP.loop (X:=Nat) (fun x=>[(0,.slice (some ⟨b,0,none⟩) n cap),(1,.int .i64 a),(10,.int .i64 i2),(11,.int .i64 x)]) (fun _=>S.set b ⟨24,(d0).toList.map encU,room⟩) (fun x=>a≤x∧x≤J∧scanDown (fun x=>!ltN x d0[a]!) d0 i2 x=scanDown (fun x=>!ltN x d0[a]!) d0 i2 J) (fun x=>x) (J) ⟨sb_,sb_,sb_,sb_,trivial⟩ (Mem.Less.refl _) (⟨by omega,by omega,rfl⟩) ?_
  rintro j ⟨q1,q2,q3⟩
  (try dsimp only at *)
  by_cases hij:i2≤j
  ·obtain ⟨j,rfl⟩ : ∃ q,j=q+1:=⟨j-1,by omega⟩
   refine r2_ ?_
   refine AWP.draw [(0,true),(1,true),(2,true),(3,true),(4,true),(5,true),(6,true),(7,true),(8,true),(9,true),(10,true),(11,true),(12,false),(13,true),(14,true)] [] mixed (by kernel_rfl) ?_
   refine r7_ ?_
   first|refine k_d ?_|refine dL (hc:=Calm.load zaf rfl (zak (k:=j+1) own_ rw_ rw_)) (h:=?_)
   refine r3_ ?_
   first|refine k_d ?_|refine dL (hc:=Calm.load zaf rfl (zak (k:=a) own_ rw_ rw_)) (h:=?_)
   refine zac rfl ?_
   refine ARun.callG 3 true 49 rfl (zab rfl) rfl (zab rfl) zcS rfl (zaX _ _ _) ?_
   rintro _ _ ⟨rfl,rfl⟩
   refine zae ⟨fun _=>zad,?_⟩
   refine r4_ ?_
   refine k_v5 0 1 10 11 60 ?_
   refine AWP.condB rfl (fun hl=>?_) (fun hl=>?_)
   ·have hl:=nt_ hl
    refine r10_ ?_
    refine ⟨j,?_,?_,?_,?_⟩
    all_goals (try dsimp only)
    ·exact ⟨sb_,sb_,sb_,sb_,trivial⟩
    ·exact Mem.Less.refl _
    ·exact ⟨by omega,by omega,(zi4 (p:=(fun x=>!ltN x d0[a]!)) hij (by simp only [hl,Bool.not_true,Bool.not_false])).trans q3⟩
    ·omega
   ·have hl:=nf_ hl
    refine r4_ ?_
    refine ⟨(j+1),?_,?_,?_⟩
    all_goals (try dsimp only)
    ·exact ⟨by omega,by omega,(zi5 (p:=(fun x=>!ltN x d0[a]!)) (by omega) (by simp only [hl,Bool.not_true,Bool.not_false])).trans q3⟩
    ·exact ⟨sb_,sb_,sb_,sb_,trivial⟩
    ·exact Mem.Less.refl _
  ·refine r2_ ?_
   refine AWP.draw [(0,true),(1,true),(2,true),(3,true),(4,true),(5,true),(6,true),(7,true),(8,true),(9,true),(10,true),(11,true),(12,false),(13,true),(14,true)] [] mixed (by kernel_rfl) ?_
   refine r7_ ?_
   first|refine k_d ?_|refine dL (hc:=Calm.load zaf rfl (zak (k:=j+1) own_ rw_ rw_)) (h:=?_)
   refine r3_ ?_
   first|refine k_d ?_|refine dL (hc:=Calm.load zaf rfl (zak (k:=a) own_ rw_ rw_)) (h:=?_)
   refine zac rfl ?_
   refine s1_ ?_
   refine zae ⟨fun _=>zad,?_⟩
   refine r4_ ?_
   refine cF_ ?_
   refine r4_ ?_
   refine ⟨j,?_,?_,?_⟩
   all_goals (try dsimp only)
   ·exact ⟨by omega,by omega,(zgN (p:=(fun x=>!ltN x d0[a]!)) hij).trans q3⟩
   ·exact ⟨sb_,sb_,sb_,sb_,trivial⟩
   ·exact Mem.Less.refl _
 rintro j2 ⟨b3,b4,hD⟩
 intro _ _ hs_ hl_
 (try dsimp only at *)
 refine za1 ?_
 refine AWP.sub _ hs_ (AWP.less _ hl_ ?_)
 clear hs_ hl_
 by_cases hx:j2<i2
 ·refine r8_ ?_
  refine cT_ ?_
  refine s1_ ?_
  refine AWP.draw [(0,true),(1,true),(2,true),(3,true),(4,true),(5,true),(6,true),(7,true),(8,true),(9,true),(10,true),(11,true),(12,true),(13,false),(14,true),(15,false)] [13,15] mixed (by kernel_rfl) ?_
  refine r7_ ?_
  refine dC (hc:=Calm.load zaf rfl (zak (k:=a) own_ rw_ rw_)) (h:=?_)
  refine r3_ ?_
  refine dC (hc:=Calm.load zaf rfl (zak (k:=j2) own_ rw_ rw_)) (h:=?_)
  refine s1_ ?_
  refine zac rfl ?_
  refine ARun.storeRow encU (j2) rfl rfl zah ⟨rfl,rfl⟩ own_ rw_ rw_ ?_
  try simp only [k_ms,k_sz,k_ss,k_za,Nat.reduceAdd]
  refine zae ⟨fun h=>absurd h (by decide),?_⟩
  refine s1_ ?_
  refine zac rfl ?_
  refine ARun.storeRow encU (a) rfl rfl zah ⟨rfl,rfl⟩ own_ rw_ rw_ ?_
  try simp only [k_ms,k_sz,k_ss,k_za,Nat.reduceAdd]
  refine zae ⟨fun h=>absurd h (by decide),?_⟩
  refine r11_ ?_
  refine ⟨_,_,⟨_,_,rfl,⟨_,_,rfl,rfl,rfl⟩,rfl⟩,Mem.Less.refl _,?_⟩
  exact zns ltN hd0 hU hD hx (R0.swp _ _ (by omega) (by omega)) (by omega) (by omega)
 ·refine r8_ ?_
  refine k_v5 0 1 10 11 65 ?_
  refine cF_ ?_
  refine r3_ ?_
  refine AWP.draw [(0,true),(1,true),(2,true),(3,true),(4,true),(5,true),(6,true),(7,true),(8,true),(9,true),(10,true),(11,true),(12,true),(13,false),(14,true),(15,false)] [13,15] mixed (by kernel_rfl) ?_
  have R1:=R0.swp i2 j2 (by omega) (by omega)
  have hst:partLoop ltN a (i2+1) (j2-1) (swp d0 i2 j2)=partLoop ltN a (i2+1) (j2-1) (swp d0 i2 j2):=rfl
  refine r7_ ?_
  refine dC (hc:=Calm.load zaf rfl (zak (k:=j2) own_ rw_ rw_)) (h:=?_)
  refine r3_ ?_
  refine dC (hc:=Calm.load zaf rfl (zak (k:=i2) own_ rw_ rw_)) (h:=?_)
  refine s1_ ?_
  refine zac rfl ?_
  refine ARun.storeRow encU (i2) rfl rfl zah ⟨rfl,rfl⟩ own_ rw_ rw_ ?_
  try simp only [k_ms,k_sz,k_ss,k_za,Nat.reduceAdd]
  refine zae ⟨fun h=>absurd h (by decide),?_⟩
  refine s1_ ?_
  refine zac rfl ?_
  refine ARun.storeRow encU (j2) rfl rfl zah ⟨rfl,rfl⟩ own_ rw_ rw_ ?_
  try simp only [k_ms,k_sz,k_ss,k_za,Nat.reduceAdd]
  refine zae ⟨fun h=>absurd h (by decide),?_⟩
  refine r17_ ?_
  refine AWP.join (X:=Nat × Array Nat) (fun x=>[(0,.slice (some ⟨b,0,none⟩) n cap),(1,.int .i64 a),(11,.int .i64 x.1)]) (fun x=>S.set b ⟨24,(x.2).toList.map encU,room⟩) (fun x=>a≤x.1∧x.1≤J∧Rw (fun _=>True) n x.2∧(x.1,x.2)=partLoop ltN a (i2+1) (j2-1) (swp d0 i2 j2)) ?_ ?_
  ·refine s1_ ?_
   refine AWP.loop (X:=Nat × Nat × Array Nat) (fun x=>[(0,.slice (some ⟨b,0,none⟩) n cap),(1,.int .i64 a),(10,.int .i64 x.1),(11,.int .i64 x.2.1)]) (fun x=>S.set b ⟨24,(x.2.2).toList.map encU,room⟩) (fun x=>a+1≤x.1∧x.1≤J+1∧a≤x.2.1∧x.2.1≤J∧Rw (fun _=>True) n x.2.2∧partLoop ltN a x.1 x.2.1 x.2.2=partLoop ltN a (i2+1) (j2-1) (swp d0 i2 j2)) (fun x=>J+1-x.1) ((i2+1,j2-1,swp d0 i2 j2)) ⟨sb_,sb_,sb_,sb_,trivial⟩ (Mem.Less.refl _) (⟨by dsimp only;omega,by dsimp only;omega,by dsimp only;omega,by dsimp only;omega,R1,rfl⟩) ?_
   rintro ⟨I2,J2,d2⟩ ⟨m1,m2,m4,m5,R2,m3⟩
   (try dsimp only at *)
   have z2:=R2.size
   refine r2_ ?_
   refine AWP.join (X:=Nat) (fun x=>[(0,.slice (some ⟨b,0,none⟩) n cap),(1,.int .i64 a),(10,.int .i64 x),(11,.int .i64 J2)]) (fun _=>S.set b ⟨24,(d2).toList.map encU,room⟩) (fun x=>a+1≤x∧x≤J+1∧x=scanUp (fun x=>ltN x d2[a]!) d2 (J2) I2) ?_ ?_
   ·refine s1_ ?_
    refine AWP.loop (X:=Nat) (fun x=>[(0,.slice (some ⟨b,0,none⟩) n cap),(1,.int .i64 a),(10,.int .i64 x),(11,.int .i64 J2)]) (fun _=>S.set b ⟨24,(d2).toList.map encU,room⟩) (fun x=>a+1≤x∧x≤J+1∧scanUp (fun x=>ltN x d2[a]!) d2 (J2) x=scanUp (fun x=>ltN x d2[a]!) d2 (J2) I2) (fun x=>J+1-x) (I2) ⟨sb_,sb_,sb_,sb_,trivial⟩ (Mem.Less.refl _) (⟨by omega,by omega,rfl⟩) ?_
    rintro i ⟨q1,q2,q3⟩
    (try dsimp only at *)
    by_cases hij:i≤J2
    ·refine r2_ ?_
     refine AWP.draw [(0,true),(1,true),(2,true),(3,true),(4,true),(5,true),(6,true),(7,true),(8,true),(9,true),(10,true),(11,true),(12,false),(13,true)] [] mixed (by kernel_rfl) ?_
     refine r7_ ?_
     first|refine k_d ?_|refine dL (hc:=Calm.load zaf rfl (zak (k:=i) own_ rw_ rw_)) (h:=?_)
     refine r3_ ?_
     first|refine k_d ?_|refine dL (hc:=Calm.load zaf rfl (zak (k:=a) own_ rw_ rw_)) (h:=?_)
     refine zac rfl ?_
     refine ARun.callG 3 true 102 rfl (zab rfl) rfl (zab rfl) zcS rfl (zaX _ _ _) ?_
     rintro _ _ ⟨rfl,rfl⟩
     refine zae ⟨fun _=>zad,?_⟩
     refine r3_ ?_
     refine AWP.condB rfl (fun hl=>?_) (fun hl=>?_)
     ·refine r10_ ?_
      refine ⟨i+1,?_,?_,?_,?_⟩
      all_goals (try dsimp only)
      ·exact ⟨sb_,sb_,sb_,sb_,trivial⟩
      ·exact Mem.Less.refl _
      ·exact ⟨by omega,by omega,(zr2 (p:=(fun x=>ltN x d2[a]!)) hij (by simp only [hl,Bool.not_true,Bool.not_false])).trans q3⟩
      ·omega
     ·refine r4_ ?_
      refine ⟨i,?_,?_,?_⟩
      all_goals (try dsimp only)
      ·exact ⟨by omega,by omega,(zr3 (p:=(fun x=>ltN x d2[a]!)) (by simp only [hl,Bool.not_true,Bool.not_false])).trans q3⟩
      ·exact ⟨sb_,sb_,sb_,sb_,trivial⟩
      ·exact Mem.Less.refl _
    ·refine r2_ ?_
     refine AWP.draw [(0,true),(1,true),(2,true),(3,true),(4,true),(5,true),(6,true),(7,true),(8,true),(9,true),(10,true),(11,true),(12,false),(13,true)] [] mixed (by kernel_rfl) ?_
     refine r7_ ?_
     first|refine k_d ?_|refine dL (hc:=Calm.load zaf rfl (zak (k:=i) own_ rw_ rw_)) (h:=?_)
     refine r3_ ?_
     first|refine k_d ?_|refine dL (hc:=Calm.load zaf rfl (zak (k:=a) own_ rw_ rw_)) (h:=?_)
     refine zac rfl ?_
     refine s1_ ?_
     refine zae ⟨fun _=>zad,?_⟩
     refine r3_ ?_
     refine k_v5 0 1 10 11 112 ?_
     refine cF_ ?_
     refine r4_ ?_
     refine ⟨i,?_,?_,?_⟩
     all_goals (try dsimp only)
     ·exact ⟨by omega,by omega,(znp (p:=(fun x=>ltN x d2[a]!)) hij).trans q3⟩
     ·exact ⟨sb_,sb_,sb_,sb_,trivial⟩
     ·exact Mem.Less.refl _
   rintro i2 ⟨b1,b2,hU⟩
   intro _ _ hs_ hl_
   (try dsimp only at *)
   refine za1 ?_
   refine AWP.sub _ hs_ (AWP.less _ hl_ ?_)
   clear hs_ hl_
   refine s1_ ?_
   refine AWP.join (X:=Nat) (fun x=>[(0,.slice (some ⟨b,0,none⟩) n cap),(1,.int .i64 a),(10,.int .i64 i2),(11,.int .i64 x)]) (fun _=>S.set b ⟨24,(d2).toList.map encU,room⟩) (fun x=>a≤x∧x≤J∧x=scanDown (fun x=>!ltN x d2[a]!) d2 i2 J2) ?_ ?_
   ·refine s1_ ?_
    refine AWP.loop (X:=Nat) (fun x=>[(0,.slice (some ⟨b,0,none⟩) n cap),(1,.int .i64 a),(10,.int .i64 i2),(11,.int .i64 x)]) (fun _=>S.set b ⟨24,(d2).toList.map encU,room⟩) (fun x=>a≤x∧x≤J∧scanDown (fun x=>!ltN x d2[a]!) d2 i2 x=scanDown (fun x=>!ltN x d2[a]!) d2 i2 J2) (fun x=>x) (J2) ⟨sb_,sb_,sb_,sb_,trivial⟩ (Mem.Less.refl _) (⟨by omega,by omega,rfl⟩) ?_
    rintro j ⟨q1,q2,q3⟩
    (try dsimp only at *)
    by_cases hij:i2≤j
    ·obtain ⟨j,rfl⟩ : ∃ q,j=q+1:=⟨j-1,by omega⟩
     refine r2_ ?_
     refine AWP.draw [(0,true),(1,true),(2,true),(3,true),(4,true),(5,true),(6,true),(7,true),(8,true),(9,true),(10,true),(11,true),(12,false),(13,true),(14,true)] [] mixed (by kernel_rfl) ?_
     refine r7_ ?_
     first|refine k_d ?_|refine dL (hc:=Calm.load zaf rfl (zak (k:=j+1) own_ rw_ rw_)) (h:=?_)
     refine r3_ ?_
     first|refine k_d ?_|refine dL (hc:=Calm.load zaf rfl (zak (k:=a) own_ rw_ rw_)) (h:=?_)
     refine zac rfl ?_
     refine ARun.callG 3 true 118 rfl (zab rfl) rfl (zab rfl) zcS rfl (zaX _ _ _) ?_
     rintro _ _ ⟨rfl,rfl⟩
     refine zae ⟨fun _=>zad,?_⟩
     refine r4_ ?_
     refine AWP.condB rfl (fun hl=>?_) (fun hl=>?_)
     ·have hl:=nt_ hl
      refine r10_ ?_
      refine ⟨j,?_,?_,?_,?_⟩
      all_goals (try dsimp only)
      ·exact ⟨sb_,sb_,sb_,sb_,trivial⟩
      ·exact Mem.Less.refl _
      ·exact ⟨by omega,by omega,(zi4 (p:=(fun x=>!ltN x d2[a]!)) hij (by simp only [hl,Bool.not_true,Bool.not_false])).trans q3⟩
      ·omega
     ·have hl:=nf_ hl
      refine r4_ ?_
      refine ⟨(j+1),?_,?_,?_⟩
      all_goals (try dsimp only)
      ·exact ⟨by omega,by omega,(zi5 (p:=(fun x=>!ltN x d2[a]!)) (by omega) (by simp only [hl,Bool.not_true,Bool.not_false])).trans q3⟩
      ·exact ⟨sb_,sb_,sb_,sb_,trivial⟩
      ·exact Mem.Less.refl _
    ·refine r2_ ?_
     refine AWP.draw [(0,true),(1,true),(2,true),(3,true),(4,true),(5,true),(6,true),(7,true),(8,true),(9,true),(10,true),(11,true),(12,false),(13,true),(14,true)] [] mixed (by kernel_rfl) ?_
     refine r7_ ?_
     first|refine k_d ?_|refine dL (hc:=Calm.load zaf rfl (zak (k:=j+1) own_ rw_ rw_)) (h:=?_)
     refine r3_ ?_
     first|refine k_d ?_|refine dL (hc:=Calm.load zaf rfl (zak (k:=a) own_ rw_ rw_)) (h:=?_)
     refine zac rfl ?_
     refine s1_ ?_
     refine zae ⟨fun _=>zad,?_⟩
     refine r4_ ?_
     refine cF_ ?_
     refine r4_ ?_
     refine ⟨j,?_,?_,?_⟩
     all_goals (try dsimp only)
     ·exact ⟨by omega,by omega,(zgN (p:=(fun x=>!ltN x d2[a]!)) hij).trans q3⟩
     ·exact ⟨sb_,sb_,sb_,sb_,trivial⟩
     ·exact Mem.Less.refl _
   rintro j2 ⟨b3,b4,hD⟩
   intro _ _ hs_ hl_
   (try dsimp only at *)
   refine za1 ?_
   refine AWP.sub _ hs_ (AWP.less _ hl_ ?_)
   clear hs_ hl_
   by_cases hx:j2<i2
   ·refine r8_ ?_
    refine cT_ ?_
    refine r5_ ?_
    refine ⟨(j2,d2),?_,?_,?_⟩
    all_goals (try dsimp only)
    ·exact ⟨by omega,by omega,R2,(znq ltN hU hD hx).trans m3⟩
    ·exact ⟨sb_,sb_,sb_,trivial⟩
    ·exact Mem.Less.refl _
   ·refine r8_ ?_
    refine cF_ ?_
    refine r3_ ?_
    refine AWP.draw [(0,true),(1,true),(2,true),(3,true),(4,true),(5,true),(6,true),(7,true),(8,true),(9,true),(10,true),(11,true),(12,true),(13,false),(14,true),(15,false)] [13,15] mixed (by kernel_rfl) ?_
    refine r7_ ?_
    refine dC (hc:=Calm.load zaf rfl (zak (k:=j2) own_ rw_ rw_)) (h:=?_)
    refine r3_ ?_
    refine dC (hc:=Calm.load zaf rfl (zak (k:=i2) own_ rw_ rw_)) (h:=?_)
    refine s1_ ?_
    refine zac rfl ?_
    refine ARun.storeRow encU (i2) rfl rfl zah ⟨rfl,rfl⟩ own_ rw_ rw_ ?_
    try simp only [k_ms,k_sz,k_ss,k_za,Nat.reduceAdd]
    refine zae ⟨fun h=>absurd h (by decide),?_⟩
    refine s1_ ?_
    refine zac rfl ?_
    refine ARun.storeRow encU (j2) rfl rfl zah ⟨rfl,rfl⟩ own_ rw_ rw_ ?_
    try simp only [k_ms,k_sz,k_ss,k_za,Nat.reduceAdd]
    refine zae ⟨fun h=>absurd h (by decide),?_⟩
    refine r2_ ?_
    refine k_v5 0 1 10 11 134 ?_
    refine r14_ ?_
    refine ⟨(i2+1,j2-1,swp d2 i2 j2),?_,?_,?_,?_⟩
    all_goals (try dsimp only)
    ·exact ⟨sb_,sb_,sb_,sb_,trivial⟩
    ·exact Mem.Less.refl _
    ·exact ⟨by omega,by omega,by omega,by omega,R2.swp _ _ (by omega) (by omega),(zr4 ltN hU hD hx).trans m3⟩
    ·(have:I2≤i2:=by rw [hU];exact Go.Sort.scanUp_ge _ _ _ _);omega
  rintro ⟨j3,d3⟩ ⟨t1,t2,R3,t3⟩
  intro _ _ hs_ hl_
  (try dsimp only at *)
  refine za1 ?_
  refine AWP.sub _ hs_ (AWP.less _ hl_ ?_)
  clear hs_ hl_
  have z3:=R3.size
  refine s1_ ?_
  refine AWP.draw [(0,true),(1,true),(2,true),(3,true),(4,true),(5,true),(6,true),(7,true),(8,true),(9,true),(10,true),(11,true),(12,true),(13,false),(14,true),(15,false)] [13,15] mixed (by kernel_rfl) ?_
  refine r7_ ?_
  refine dC (hc:=Calm.load zaf rfl (zak (k:=a) own_ rw_ rw_)) (h:=?_)
  refine r3_ ?_
  refine dC (hc:=Calm.load zaf rfl (zak (k:=j3) own_ rw_ rw_)) (h:=?_)
  refine s1_ ?_
  refine zac rfl ?_
  refine ARun.storeRow encU (j3) rfl rfl zah ⟨rfl,rfl⟩ own_ rw_ rw_ ?_
  try simp only [k_ms,k_sz,k_ss,k_za,Nat.reduceAdd]
  refine zae ⟨fun h=>absurd h (by decide),?_⟩
  refine s1_ ?_
  refine zac rfl ?_
  refine ARun.storeRow encU (a) rfl rfl zah ⟨rfl,rfl⟩ own_ rw_ rw_ ?_
  try simp only [k_ms,k_sz,k_ss,k_za,Nat.reduceAdd]
  refine zae ⟨fun h=>absurd h (by decide),?_⟩
  refine r10_ ?_
  refine ⟨_,_,⟨_,_,rfl,⟨_,_,rfl,rfl,rfl⟩,rfl⟩,Mem.Less.refl _,?_⟩
  exact znt ltN hd0 hU hD hx t3 (R3.swp _ _ (by omega) (by omega)) (by omega) (by omega)
set_option maxHeartbeats 4000000 in
theorem zkX {S:Mem} (b room n cap:Nat) (hb:Fresh S b) (hn:n≤1048576) (d:Array Nat) (R:Rw (fun _=>True) n d) (ia ie ip:Int) (a e p:Nat) (ha:ia=a) (he:ie=e) (hpp:ip=p) (hap:a≤p) (hpe:p<e) (hen:e≤n) :
  ACall Tryz.prog 179 #[.slice (some ⟨b,0,none⟩) n cap,.int .i64 ia,.int .i64 ie,.int .i64 ip] (S.set b ⟨24,(d).toList.map encU,room⟩) fun r S'=>PartEqR Nat (fun x:Array Nat=>S.set b ⟨24,(x).toList.map encU,room⟩) (fun _=>True) n (partitionEqual ltN d a e p) a e r S':=by
 subst ha he hpp
 obtain ⟨J,rfl⟩ : ∃ J,e=J+1:=⟨e-1,by omega⟩
 have R0:=R.swp a p (by omega) (by omega)
 have z:=R.size
 obtain ⟨d0,hd0⟩ : ∃ d0,d0=swp d a p:=⟨_,rfl⟩
 rw [← hd0] at R0
 have z0:=R0.size
 refine k_E4 (rs:=[.tmp 8]) 84 Tryz.func179 rfl rfl rfl ?_
 refine r6_ ?_
 refine AWP.draw [(0,true),(1,true),(2,true),(3,true),(4,true),(5,true),(6,true),(7,true),(8,true),(9,true),(10,true),(11,true),(12,true),(13,false),(14,true),(15,false)] [13,15] mixed (by kernel_rfl) ?_
 refine r7_ ?_
 refine dC (hc:=Calm.load zaf rfl (zak (k:=p) own_ rw_ rw_)) (h:=?_)
 refine r3_ ?_
 refine dC (hc:=Calm.load zaf rfl (zak (k:=a) own_ rw_ rw_)) (h:=?_)
 refine s1_ ?_
 refine zac rfl ?_
 refine ARun.storeRow encU (a) rfl rfl zah ⟨rfl,rfl⟩ own_ rw_ rw_ ?_
 try simp only [k_ms,k_sz,k_ss,k_za,Nat.reduceAdd]
 refine zae ⟨fun h=>absurd h (by decide),?_⟩
 refine s1_ ?_
 refine zac rfl ?_
 refine ARun.storeRow encU (p) rfl rfl zah ⟨rfl,rfl⟩ own_ rw_ rw_ ?_
 try simp only [k_ms,k_sz,k_ss,k_za,Nat.reduceAdd]
 refine zae ⟨fun h=>absurd h (by decide),?_⟩
 refine r2_ ?_
 refine AWP.less (S.set b ⟨24,(d0).toList.map encU,room⟩) (by rw [hd0];exact Mem.Less.refl _) ?_
 refine r12_ ?_
 refine AWP.loop (X:=Nat × Nat × Array Nat) (fun x=>[(0,.slice (some ⟨b,0,none⟩) n cap),(1,.int .i64 a),(9,.int .i64 x.1),(10,.int .i64 x.2.1)]) (fun x=>S.set b ⟨24,(x.2.2).toList.map encU,room⟩) (fun x=>a+1≤x.1∧x.1≤J+1∧a≤x.2.1∧x.2.1≤J∧Rw (fun _=>True) n x.2.2∧partEqLoop ltN a x.1 x.2.1 x.2.2=partEqLoop ltN a (a+1) J d0) (fun x=>J+1-x.1) ((a+1,J,d0)) ⟨sb_,sb_,sb_,sb_,trivial⟩ (Mem.Less.refl _) (⟨by dsimp only;omega,by dsimp only;omega,by dsimp only;omega,by dsimp only;omega,R0,rfl⟩) ?_
 rintro ⟨I2,J2,d2⟩ ⟨m1,m2,m4,m5,R2,m3⟩
 (try dsimp only at *)
 have z2:=R2.size
 refine r2_ ?_
 refine AWP.join (X:=Nat) (fun x=>[(0,.slice (some ⟨b,0,none⟩) n cap),(1,.int .i64 a),(9,.int .i64 x),(10,.int .i64 J2)]) (fun _=>S.set b ⟨24,(d2).toList.map encU,room⟩) (fun x=>a+1≤x∧x≤J+1∧x=scanUp (fun x=>!ltN d2[a]! x) d2 (J2) I2) ?_ ?_
 ·refine s1_ ?_
  refine AWP.loop (X:=Nat) (fun x=>[(0,.slice (some ⟨b,0,none⟩) n cap),(1,.int .i64 a),(9,.int .i64 x),(10,.int .i64 J2)]) (fun _=>S.set b ⟨24,(d2).toList.map encU,room⟩) (fun x=>a+1≤x∧x≤J+1∧scanUp (fun x=>!ltN d2[a]! x) d2 (J2) x=scanUp (fun x=>!ltN d2[a]! x) d2 (J2) I2) (fun x=>J+1-x) (I2) ⟨sb_,sb_,sb_,sb_,trivial⟩ (Mem.Less.refl _) (⟨by omega,by omega,rfl⟩) ?_
  rintro i ⟨q1,q2,q3⟩
  (try dsimp only at *)
  by_cases hij:i≤J2
  ·refine r2_ ?_
   refine AWP.draw [(0,true),(1,true),(2,true),(3,true),(4,true),(5,true),(6,true),(7,true),(8,true),(9,true),(10,true),(11,true),(12,false),(13,true),(14,true)] [] mixed (by kernel_rfl) ?_
   refine r7_ ?_
   first|refine k_d ?_|refine dL (hc:=Calm.load zaf rfl (zak (k:=a) own_ rw_ rw_)) (h:=?_)
   refine r3_ ?_
   first|refine k_d ?_|refine dL (hc:=Calm.load zaf rfl (zak (k:=i) own_ rw_ rw_)) (h:=?_)
   refine zac rfl ?_
   refine ARun.callG 3 true 32 rfl (zab rfl) rfl (zab rfl) zcS rfl (zaX _ _ _) ?_
   rintro _ _ ⟨rfl,rfl⟩
   refine zae ⟨fun _=>zad,?_⟩
   refine r4_ ?_
   refine AWP.condB rfl (fun hl=>?_) (fun hl=>?_)
   ·have hl:=nt_ hl
    refine r10_ ?_
    refine ⟨i+1,?_,?_,?_,?_⟩
    all_goals (try dsimp only)
    ·exact ⟨sb_,sb_,sb_,sb_,trivial⟩
    ·exact Mem.Less.refl _
    ·exact ⟨by omega,by omega,(zr2 (p:=(fun x=>!ltN d2[a]! x)) hij (by simp only [hl,Bool.not_true,Bool.not_false])).trans q3⟩
    ·omega
   ·have hl:=nf_ hl
    refine r4_ ?_
    refine ⟨i,?_,?_,?_⟩
    all_goals (try dsimp only)
    ·exact ⟨by omega,by omega,(zr3 (p:=(fun x=>!ltN d2[a]! x)) (by simp only [hl,Bool.not_true,Bool.not_false])).trans q3⟩
    ·exact ⟨sb_,sb_,sb_,sb_,trivial⟩
    ·exact Mem.Less.refl _
  ·refine r2_ ?_
   refine AWP.draw [(0,true),(1,true),(2,true),(3,true),(4,true),(5,true),(6,true),(7,true),(8,true),(9,true),(10,true),(11,true),(12,false),(13,true),(14,true)] [] mixed (by kernel_rfl) ?_
   refine r7_ ?_
   first|refine k_d ?_|refine dL (hc:=Calm.load zaf rfl (zak (k:=a) own_ rw_ rw_)) (h:=?_)
   refine r3_ ?_
   first|refine k_d ?_|refine dL (hc:=Calm.load zaf rfl (zak (k:=i) own_ rw_ rw_)) (h:=?_)
   refine zac rfl ?_
   refine s1_ ?_
   refine zae ⟨fun _=>zad,?_⟩
   refine r4_ ?_
   refine cF_ ?_
   refine r4_ ?_
   refine ⟨i,?_,?_,?_⟩
   all_goals (try dsimp only)
   ·exact ⟨by omega,by omega,(znp (p:=(fun x=>!ltN d2[a]! x)) hij).trans q3⟩
   ·exact ⟨sb_,sb_,sb_,sb_,trivial⟩
   ·exact Mem.Less.refl _
 rintro i2 ⟨b1,b2,hU⟩
 intro _ _ hs_ hl_
 (try dsimp only at *)
 refine za1 ?_
 refine AWP.sub _ hs_ (AWP.less _ hl_ ?_)
 clear hs_ hl_
 refine s1_ ?_
 refine AWP.join (X:=Nat) (fun x=>[(0,.slice (some ⟨b,0,none⟩) n cap),(1,.int .i64 a),(9,.int .i64 i2),(10,.int .i64 x)]) (fun _=>S.set b ⟨24,(d2).toList.map encU,room⟩) (fun x=>a≤x∧x≤J∧x=scanDown (fun x=>ltN d2[a]! x) d2 i2 J2) ?_ ?_
 ·refine s1_ ?_
  refine AWP.loop (X:=Nat) (fun x=>[(0,.slice (some ⟨b,0,none⟩) n cap),(1,.int .i64 a),(9,.int .i64 i2),(10,.int .i64 x)]) (fun _=>S.set b ⟨24,(d2).toList.map encU,room⟩) (fun x=>a≤x∧x≤J∧scanDown (fun x=>ltN d2[a]! x) d2 i2 x=scanDown (fun x=>ltN d2[a]! x) d2 i2 J2) (fun x=>x) (J2) ⟨sb_,sb_,sb_,sb_,trivial⟩ (Mem.Less.refl _) (⟨by omega,by omega,rfl⟩) ?_
  rintro j ⟨q1,q2,q3⟩
  (try dsimp only at *)
  by_cases hij:i2≤j
  ·obtain ⟨j,rfl⟩ : ∃ q,j=q+1:=⟨j-1,by omega⟩
   refine r2_ ?_
   refine AWP.draw [(0,true),(1,true),(2,true),(3,true),(4,true),(5,true),(6,true),(7,true),(8,true),(9,true),(10,true),(11,true),(12,false),(13,true)] [] mixed (by kernel_rfl) ?_
   refine r7_ ?_
   first|refine k_d ?_|refine dL (hc:=Calm.load zaf rfl (zak (k:=a) own_ rw_ rw_)) (h:=?_)
   refine r3_ ?_
   first|refine k_d ?_|refine dL (hc:=Calm.load zaf rfl (zak (k:=j+1) own_ rw_ rw_)) (h:=?_)
   refine zac rfl ?_
   refine ARun.callG 3 true 49 rfl (zab rfl) rfl (zab rfl) zcS rfl (zaX _ _ _) ?_
   rintro _ _ ⟨rfl,rfl⟩
   refine zae ⟨fun _=>zad,?_⟩
   refine r3_ ?_
   refine k_v5 0 1 9 10 59 ?_
   refine AWP.condB rfl (fun hl=>?_) (fun hl=>?_)
   ·refine r10_ ?_
    refine ⟨j,?_,?_,?_,?_⟩
    all_goals (try dsimp only)
    ·exact ⟨sb_,sb_,sb_,sb_,trivial⟩
    ·exact Mem.Less.refl _
    ·exact ⟨by omega,by omega,(zi4 (p:=(fun x=>ltN d2[a]! x)) hij (by simp only [hl,Bool.not_true,Bool.not_false])).trans q3⟩
    ·omega
   ·refine r4_ ?_
    refine ⟨(j+1),?_,?_,?_⟩
    all_goals (try dsimp only)
    ·exact ⟨by omega,by omega,(zi5 (p:=(fun x=>ltN d2[a]! x)) (by omega) (by simp only [hl,Bool.not_true,Bool.not_false])).trans q3⟩
    ·exact ⟨sb_,sb_,sb_,sb_,trivial⟩
    ·exact Mem.Less.refl _
  ·refine r2_ ?_
   refine AWP.draw [(0,true),(1,true),(2,true),(3,true),(4,true),(5,true),(6,true),(7,true),(8,true),(9,true),(10,true),(11,true),(12,false),(13,true)] [] mixed (by kernel_rfl) ?_
   refine r7_ ?_
   first|refine k_d ?_|refine dL (hc:=Calm.load zaf rfl (zak (k:=a) own_ rw_ rw_)) (h:=?_)
   refine r3_ ?_
   first|refine k_d ?_|refine dL (hc:=Calm.load zaf rfl (zak (k:=j+1) own_ rw_ rw_)) (h:=?_)
   refine zac rfl ?_
   refine s1_ ?_
   refine zae ⟨fun _=>zad,?_⟩
   refine r3_ ?_
   refine cF_ ?_
   refine r4_ ?_
   refine ⟨j,?_,?_,?_⟩
   all_goals (try dsimp only)
   ·exact ⟨by omega,by omega,(zgN (p:=(fun x=>ltN d2[a]! x)) hij).trans q3⟩
   ·exact ⟨sb_,sb_,sb_,sb_,trivial⟩
   ·exact Mem.Less.refl _
 rintro j2 ⟨b3,b4,hD⟩
 intro _ _ hs_ hl_
 (try dsimp only at *)
 refine za1 ?_
 refine AWP.sub _ hs_ (AWP.less _ hl_ ?_)
 clear hs_ hl_
 by_cases hx:j2<i2
 ·refine r8_ ?_
  refine cT_ ?_
  refine r13_ ?_
  refine ⟨_,_,⟨_,_,rfl,rfl,rfl⟩,Mem.Less.refl _,?_⟩
  exact zkW ltN hd0 ((zi6 ltN hU hD hx).trans m3) R2 (by omega) (by omega)
 ·refine r8_ ?_
  refine cF_ ?_
  refine r3_ ?_
  refine AWP.draw [(0,true),(1,true),(2,true),(3,true),(4,true),(5,true),(6,true),(7,true),(8,true),(9,true),(10,true),(11,true),(12,true),(13,false),(14,true),(15,false)] [13,15] mixed (by kernel_rfl) ?_
  refine r7_ ?_
  refine dC (hc:=Calm.load zaf rfl (zak (k:=j2) own_ rw_ rw_)) (h:=?_)
  refine r3_ ?_
  refine dC (hc:=Calm.load zaf rfl (zak (k:=i2) own_ rw_ rw_)) (h:=?_)
  refine s1_ ?_
  refine zac rfl ?_
  refine ARun.storeRow encU (i2) rfl rfl zah ⟨rfl,rfl⟩ own_ rw_ rw_ ?_
  try simp only [k_ms,k_sz,k_ss,k_za,Nat.reduceAdd]
  refine zae ⟨fun h=>absurd h (by decide),?_⟩
  refine s1_ ?_
  refine zac rfl ?_
  refine ARun.storeRow encU (j2) rfl rfl zah ⟨rfl,rfl⟩ own_ rw_ rw_ ?_
  try simp only [k_ms,k_sz,k_ss,k_za,Nat.reduceAdd]
  refine zae ⟨fun h=>absurd h (by decide),?_⟩
  refine r2_ ?_
  refine k_v5 0 1 9 10 64 ?_
  refine r14_ ?_
  refine ⟨(i2+1,j2-1,swp d2 i2 j2),?_,?_,?_,?_⟩
  all_goals (try dsimp only)
  ·exact ⟨sb_,sb_,sb_,sb_,trivial⟩
  ·exact Mem.Less.refl _
  ·exact ⟨by omega,by omega,by omega,by omega,R2.swp _ _ (by omega) (by omega),(znr ltN hU hD hx).trans m3⟩
  ·(have:I2≤i2:=by rw [hU];exact Go.Sort.scanUp_ge _ _ _ _);omega
end
section
open Go.RowKit
open Mv
namespace Srt
open Go.Sort (swp order2 median medianAdjacent choosePivot breakStep breakPatterns scanSorted shiftDown shiftUp partialIns partialInsertionSort bitsLen xorNext Hint)
theorem zjW (S:Mem) {b c:Nat} (r r' x:Blk) (h:b≠c):((S.set b r).set c x).set b r'=(S.set b r').set c x:=by
 rw [Mem.set_comm _ _ _ (Ne.symm h),Mem.set_set]
def hintI:Hint→Int
  | .unknown=>0
  | .increasing=>1
  | .decreasing=>2
section
variable {α : Type} [Inhabited α] (lt : α → α→Bool)
theorem zi8 {d:Array α} {a e k n x y k':Nat} (h:(x,y,k')=order2 lt d a e k) (ha:a<n) (he:e<n):x<n∧y<n∧k'≤k+1:=by
 unfold order2 at h
 split at h <;> (simp only [Prod.mk.injEq] at h;omega)
theorem zfr {d:Array α} {a e o k p k' lo hi:Nat} (h:(p,k')=median lt d a e o k) (ha:lo≤a∧a<hi) (he:lo≤e∧e<hi) (ho:lo≤o∧o<hi):(lo≤p∧p<hi)∧k'≤k+3:=by
 have hm:=Go.Sort.median_mem lt d a e o k
 rw [← h] at hm
 have hk:k'≤k+3:=by
  unfold median at h
  simp only [Prod.mk.injEq] at h
  rw [h.2]
  have h1:∀ x y z,(order2 lt d x y z).2.2≤z+1:=fun x y z=>by unfold order2;split <;> simp
  have:=h1 (order2 lt d a e k).1 (order2 lt d (order2 lt d a e k).2.1 o (order2 lt d a e k).2.2).1 (order2 lt d (order2 lt d a e k).2.1 o (order2 lt d a e k).2.2).2.2
  have:=h1 (order2 lt d a e k).2.1 o (order2 lt d a e k).2.2
  have:=h1 a e k
  omega
 refine ⟨?_,hk⟩
 simp only at hm
 omega
theorem zfs {d:Array α} {a k p k' lo hi:Nat} (h:(p,k')=medianAdjacent lt d a k) (ha:lo<a) (he:a+1<hi):(lo≤p∧p<hi)∧k'≤k+3 :=
 zfr lt (h.trans rfl) (by omega) (by omega) (by omega)
end
theorem zjX {k:Nat} (h0 : ¬ k=0) (h1 : ¬ k=12):(if k=0 then Hint.increasing else if k=12 then Hint.decreasing else Hint.unknown) = .unknown:=by rw [if_neg h0,if_neg h1]
theorem zr_ {i j h:Int} (e:i=j):Mv.one [.int .i64 i,.int .i64 h] = .tuple #[.int .i64 j,.int .i64 h]:=by rw [e];rfl
theorem zsa (a b:Nat) (ha:a<18446744073709551616) (hb:b<18446744073709551616):bits .and .u64 (a:Int) (b:Int)=((a &&& b:Nat):Int):=by
 have h:a &&& b<2 ^ 64:=Nat.and_lt_two_pow _ (by omega)
 show IntKind.u64.wrap (((BitVec.ofInt 64 (a:Int)) &&& (BitVec.ofInt 64 (b:Int))).toNat:Int)=_
 rw [BitVec.ofInt_natCast,BitVec.ofInt_natCast,BitVec.toNat_and,BitVec.toNat_ofNat,BitVec.toNat_ofNat,Nat.mod_eq_of_lt (by omega),Nat.mod_eq_of_lt (by omega)]
 exact IntWalk.u64_in _ (by omega)
theorem zsb (m:Nat) (h0:1≤m) (h1:m<18446744073709551616):IntKind.u64.wrap ((m:Int)-1)=((m-1:Nat):Int):=by
 rw [show ((m:Int)-1)=((m-1:Nat):Int) by omega];exact IntWalk.u64_in _ (by omega)
section
variable {α : Type} [Inhabited α]
def bpR (a L mo ba:Nat):Nat→UInt64 × Array α→UInt64 × Array α
  | 0,st=>st
  | k+1,st=>bpR a L mo ba k (breakStep a L mo st (ba+(2-k)))
theorem zjY (a L mo ba k:Nat) (r:UInt64) (d:Array α):bpR a L mo ba (k+1) (r,d)=bpR a L mo ba k (xorNext r,swp d (ba+(2-k)) (a+(if L≤(xorNext r).toNat &&& (mo-1) then ((xorNext r).toNat &&& (mo-1))-L else (xorNext r).toNat &&& (mo-1)))):=rfl
theorem zuj {d:Array α} {a L:Nat} (h8:8≤L):breakPatterns d a (a+L)=(bpR a L (1 <<< bitsLen L) (a+L / 4*2-1) 3 (UInt64.ofNat L,d)).2:=by
 unfold breakPatterns
 simp only [Nat.add_sub_cancel_left]
 rw [if_pos h8]
 rfl
end
theorem ztJ (L:Nat) (h0:0<L) (h:L≤1048576):1≤1 <<< bitsLen L∧1 <<< bitsLen L≤2*L:=by
 rw [Nat.one_shiftLeft]
 exact ⟨Nat.one_le_two_pow,Go.Sort.two_pow_bitsLen_le h0⟩
section
variable {α : Type} [Inhabited α] (lt : α → α→Bool)
theorem znv {okP : α→Prop} {n a e s i:Nat} {d d1:Array α} {M:Array α→Mem} {r:Value} {S':Mem} (h3:partialIns lt a e (s+1) i d1=partialInsertionSort lt d a e)
  (h:(scanSorted lt d1 e i=e∧r = .bool true∧S'=M d1)∨(¬ scanSorted lt d1 e i=e∧e-a<50∧r = .bool false∧S'=M d1)) (R:Rw okP n d1) :
  r = .bool (partialInsertionSort lt d a e).2∧S'=M (partialInsertionSort lt d a e).1∧Rw okP n (partialInsertionSort lt d a e).1:=by
 rw [← h3]
 unfold partialIns
 rcases h with ⟨h,rfl,rfl⟩ | ⟨h,h5,rfl,rfl⟩
 ·simp only [if_pos h];exact ⟨trivial,trivial,R⟩
 ·simp only [if_neg h,if_pos h5];exact ⟨trivial,trivial,R⟩
theorem zsc {a e s i w:Nat} {d1 d2 d3 d4:Array α} (hS:w+1=scanSorted lt d1 e i) (hne : ¬ w+1=e) (h50 : ¬ e-a<50) (hd2:d2=swp d1 (w+1) w) (hd3:d3=if w+1-a ≥ 2 then shiftDown lt w d2 else d2)
  (hd4:d4=if e-(w+1) ≥ 2 then shiftUp lt e (w+1+1) d3 else d3):partialIns lt a e s (w+1) d4=partialIns lt a e (s+1) i d1:=by
 rw [partialIns.eq_def lt a e (s+1) i d1]
 simp only [← hS,if_neg hne,if_neg h50,Nat.add_sub_cancel,← hd2,← hd3,← hd4]
end
/-! ### The recursion, stage by stage -/
section
open Go.Sort (pdq insertionSort heapSort reverseRange partition partitionEqual)
variable {α : Type} [Inhabited α] (lt : α → α→Bool)
def pdq3 (d3:Array α) (a b l:Nat) (w1 w2:Bool) (pv:Nat):Array α :=
  if (decide (a > 0) && !lt d3[a-1]! d3[pv]!)=true then
    (if a<(partitionEqual lt d3 a b pv).1∧(partitionEqual lt d3 a b pv).1≤b then pdq lt (partitionEqual lt d3 a b pv).2 (partitionEqual lt d3 a b pv).1 b l w1 w2 else (partitionEqual lt d3 a b pv).2)
  else
    (if a≤(partition lt d3 a b pv).1∧(partition lt d3 a b pv).1<b then
      (if (partition lt d3 a b pv).1-a<b-(partition lt d3 a b pv).1 then
        pdq lt (pdq lt (partition lt d3 a b pv).2.2 a (partition lt d3 a b pv).1 l true true) ((partition lt d3 a b pv).1+1) b l (decide ((partition lt d3 a b pv).1-a ≥ (b-a) / 8)) (partition lt d3 a b pv).2.1
      else
        pdq lt (pdq lt (partition lt d3 a b pv).2.2 ((partition lt d3 a b pv).1+1) b l true true) a (partition lt d3 a b pv).1 l (decide (b-(partition lt d3 a b pv).1 ≥ (b-a) / 8)) (partition lt d3 a b pv).2.1)
    else (partition lt d3 a b pv).2.2)
def pdq2 (d2:Array α) (a b l:Nat) (w1 w2:Bool) (pv:Nat) (hi:Hint):Array α :=
  if (w1 && w2 && decide (hi = .increasing))=true then (if (partialInsertionSort lt d2 a b).2=true then (partialInsertionSort lt d2 a b).1 else pdq3 lt (partialInsertionSort lt d2 a b).1 a b l w1 w2 pv)
  else pdq3 lt d2 a b l w1 w2 pv
def pdq1 (d1:Array α) (a b l:Nat) (w1 w2:Bool):Array α :=
  if (choosePivot lt d1 a b).2 = .decreasing then pdq2 lt (reverseRange d1 a b) a b l w1 w2 (b-1-((choosePivot lt d1 a b).1-a)) .increasing
  else pdq2 lt d1 a b l w1 w2 (choosePivot lt d1 a b).1 (choosePivot lt d1 a b).2
theorem zsd {d:Array α} {a b l:Nat} {w1 w2:Bool} (h:b-a≤12):pdq lt d a b l w1 w2=insertionSort lt d a b:=by rw [pdq,if_pos h]
theorem zpT {d:Array α} {a b l:Nat} {w1 w2:Bool} (h : ¬ b-a≤12) (h0:l=0):pdq lt d a b l w1 w2=heapSort lt d a b:=by rw [pdq,if_neg h,if_pos h0]
theorem zuk {d:Array α} {a b l:Nat} {w1 w2:Bool} (h : ¬ b-a≤12) (h0 : ¬ l=0):pdq lt d a b l w1 w2=pdq1 lt (if !w1 then breakPatterns d a b else d) a b (if !w1 then l-1 else l) w1 w2:=by
 rw [pdq,if_neg h,if_neg h0]
 dsimp only
 unfold pdq1 pdq2 pdq3
 generalize (if (!w1)=true then breakPatterns d a b else d)=d1
 generalize (if (!w1)=true then l-1 else l)=l2
 generalize choosePivot lt d1 a b=c
 obtain ⟨p0,hn⟩:=c
 dsimp only
 by_cases hd:hn = .decreasing
 ·subst hd
  simp only [if_true]
  generalize partialInsertionSort lt (reverseRange d1 a b) a b=q
  obtain ⟨d3,pb⟩:=q
  cases w1 <;> cases w2 <;> cases pb <;> simp
 ·simp only [if_neg hd]
  by_cases hx:(w1 && w2 && decide (hn=Hint.increasing))=true
  ·simp only [if_pos hx]
   generalize partialInsertionSort lt d1 a b=q
   obtain ⟨d3,pb⟩:=q
   cases pb <;> simp
  ·simp only [if_neg hx];simp
end
theorem zse {h:Hint} (hd : ¬ h = .decreasing):hintI h<2∧0≤hintI h:=by cases h <;> simp_all [hintI]
theorem ztK (h:Hint):decide (hintI h=1)=decide (h = .increasing):=by cases h <;> rfl
theorem wbv_ {p q:Prop} [Decidable p] [Decidable q] (h:p ↔ q):some (Value.bool (decide p))=some (Value.bool (decide q)):=by
 congr 2;rw [decide_eq_decide];exact h
end Srt
end
section
open Go.RowKit
open Mv Srt
open Go.Sort (swp insInner insOuter insertionSort siftDown heapBuild heapPop heapSort scanUp scanDown partLoop partition partEqLoop partitionEqual scanSorted shiftDown shiftUp partialIns partialInsertionSort order2 median medianAdjacent choosePivot reverseLoop reverseRange breakStep breakPatterns pdq bitsLen xorNext Hint)
set_option maxRecDepth 4000
set_option maxHeartbeats 4000000 in
theorem zsf {S:Mem} (b room n cap:Nat) (hb:Fresh S b) (hn:n≤1048576) (d:Array Nat) (R:Rw (fun _=>True) n d) (ia ie:Int) (a e:Nat) (ha:ia=a) (he:ie=e) (hae:a<e) (hen:e≤n) :
  ACall Tryz.prog 177 #[.slice (some ⟨b,0,none⟩) n cap,.int .i64 ia,.int .i64 ie] (S.set b ⟨24,(d).toList.map encU,room⟩) fun r S'=>S'=S.set b ⟨24,(reverseRange d a e).toList.map encU,room⟩∧Rw (fun _=>True) n (reverseRange d a e):=by
 subst ha he
 refine k_E3 (rs:=[]) 32 Tryz.func177 rfl rfl rfl ?_
 refine r14_ ?_
 refine AWP.loop (X:=Nat × Nat × Array Nat) (fun x=>[(0,.slice (some ⟨b,0,none⟩) n cap),(6,.int .i64 x.1),(7,.int .i64 x.2.1)]) (fun x=>S.set b ⟨24,(x.2.2).toList.map encU,room⟩) (fun x=>x.1≤n∧x.2.1<e∧Rw (fun _=>True) n x.2.2∧reverseLoop x.1 x.2.1 x.2.2=reverseRange d a e) (fun x=>x.2.1) ((a,e-1,d)) ⟨sb_,sb_,sb_,trivial⟩ (Mem.Less.refl _) (⟨by dsimp only;omega,by dsimp only;omega,R,rfl⟩) ?_
 rintro ⟨i,j,d1⟩ ⟨h1,h2,R1,h3⟩
 (try dsimp only at *)
 have z1:=R1.size
 by_cases hij:i<j
 ·refine r8_ ?_
  refine cT_ ?_
  refine r4_ ?_
  refine AWP.draw [(0,true),(1,true),(2,true),(3,true),(4,true),(5,true),(6,true),(7,true),(8,true),(9,true),(10,true),(11,true),(12,true),(13,false),(14,true),(15,false)] [13,15] mixed (by kernel_rfl) ?_
  refine r7_ ?_
  refine dC (hc:=Calm.load zaf rfl (zak (k:=j) own_ rw_ rw_)) (h:=?_)
  refine r3_ ?_
  refine dC (hc:=Calm.load zaf rfl (zak (k:=i) own_ rw_ rw_)) (h:=?_)
  refine s1_ ?_
  refine zac rfl ?_
  refine ARun.storeRow encU (i) rfl rfl zah ⟨rfl,rfl⟩ own_ rw_ rw_ ?_
  try simp only [k_ms,k_sz,k_ss,k_za,Nat.reduceAdd]
  refine zae ⟨fun h=>absurd h (by decide),?_⟩
  refine s1_ ?_
  refine zac rfl ?_
  refine ARun.storeRow encU (j) rfl rfl zah ⟨rfl,rfl⟩ own_ rw_ rw_ ?_
  try simp only [k_ms,k_sz,k_ss,k_za,Nat.reduceAdd]
  refine zae ⟨fun h=>absurd h (by decide),?_⟩
  refine r9_ ?_
  refine k_v4 0 6 7 13 ?_
  refine r7_ ?_
  refine ⟨(i+1,j-1,swp d1 i j),?_,?_,?_,?_⟩
  all_goals (try dsimp only)
  ·exact ⟨sb_,sb_,sb_,trivial⟩
  ·exact Mem.Less.refl _
  ·exact ⟨by omega,by omega,R1.swp _ _ (by omega) (by omega),(ztH hij).trans h3⟩
  ·omega
 ·refine r8_ ?_
  refine cF_ ?_
  refine r4_ ?_
  refine ⟨_,_,rfl,Mem.Less.refl _,?_⟩
  rw [← h3,← zr5 hij];exact ⟨rfl,R1⟩
set_option maxHeartbeats 1000000 in
theorem zeo {S:Mem} (b room n cap:Nat) (hb:Fresh S b) (hn:n≤1048576) (d:Array Nat) (R:Rw (fun _=>True) n d) (c:Nat) (hc:Fresh S c) (hcb:c≠b) (ia ie:Int) (a e k:Nat) (ea:ia=a) (ee:ie=e) (ha:a<n) (he:e<n) (hk:k≤1000) :
  ACall Tryz.prog 249 #[.slice (some ⟨b,0,none⟩) n cap,.int .i64 ia,.int .i64 ie,.pointer (some ⟨c,0,none⟩)] ((S.set b ⟨24,(d).toList.map encU,room⟩).set c ⟨3,[.int .i64 ((k:Nat):Int)],1⟩) fun r S'=>r = .tuple #[.int .i64 ((order2 ltN d a e k).1:Nat),.int .i64 ((order2 ltN d a e k).2.1:Nat)]∧S'=(S.set b ⟨24,(d).toList.map encU,room⟩).set c ⟨3,[.int .i64 (((order2 ltN d a e k).2.2:Nat):Int)],1⟩:=by
 subst ea ee
 have z:=R.size
 refine k_E4 (rs:=[.tmp 8,.tmp 9]) 28 Tryz.func249 rfl rfl rfl ?_
 refine r8_ ?_
 refine AWP.draw [(0,true),(1,true),(2,true),(3,true),(4,true),(5,true),(6,true),(7,true),(8,false)] [] mixed (by kernel_rfl) ?_
 refine r3_ ?_
 refine dC (hc:=Calm.load zaf rfl (zak (k:=e) own_ rw_ rw_)) (h:=?_)
 refine r3_ ?_
 refine dC (hc:=Calm.load zaf rfl (zak (k:=a) own_ rw_ rw_)) (h:=?_)
 refine zac rfl ?_
 refine ca_ rfl (zaX _ _ _) ?_
 rintro _ _ ⟨rfl,rfl⟩
 refine zae ⟨fun _=>zad,?_⟩
 refine r2_ ?_
 refine AWP.condB rfl (fun hl=>?_) (fun hl=>?_)
 ·have hl:ltN d[e]! d[a]! = true:=hl
  refine r20_ ?_
  refine ⟨_,_,⟨_,_,rfl,⟨_,_,rfl,rfl,rfl⟩,rfl⟩,Mem.Less.refl _,?_⟩
  exact ⟨by rw [order2,if_pos hl];rfl,by rw [order2,if_pos hl];rfl⟩
 ·have hl:ltN d[e]! d[a]! = false:=hl
  refine r11_ ?_
  refine ⟨_,_,⟨_,_,rfl,⟨_,_,rfl,rfl,rfl⟩,rfl⟩,Mem.Less.refl _,?_⟩
  exact ⟨by rw [order2,if_neg (by intro h;exact Bool.noConfusion (hl.symm.trans h))];rfl,by rw [order2,if_neg (by intro h;exact Bool.noConfusion (hl.symm.trans h))]⟩
set_option maxHeartbeats 1000000 in
theorem zep {S:Mem} (b room n cap:Nat) (hb:Fresh S b) (hn:n≤1048576) (d:Array Nat) (R:Rw (fun _=>True) n d) (c:Nat) (hc:Fresh S c) (hcb:c≠b) (ia ie io:Int) (a e o k:Nat) (ea:ia=a) (ee:ie=e) (eo:io=o) (ha:a<n) (he:e<n) (ho:o<n) (hk:k≤900) :
  ACall Tryz.prog 225 #[.slice (some ⟨b,0,none⟩) n cap,.int .i64 ia,.int .i64 ie,.int .i64 io,.pointer (some ⟨c,0,none⟩)] ((S.set b ⟨24,(d).toList.map encU,room⟩).set c ⟨3,[.int .i64 ((k:Nat):Int)],1⟩) fun r S'=>r = .int .i64 ((median ltN d a e o k).1:Nat)∧S'=(S.set b ⟨24,(d).toList.map encU,room⟩).set c ⟨3,[.int .i64 (((median ltN d a e o k).2:Nat):Int)],1⟩:=by
 subst ea ee eo
 obtain ⟨⟨x1,y1,k1⟩,h1⟩ : ∃ q,q=order2 ltN d a e k:=⟨_,rfl⟩
 obtain ⟨⟨x2,y2,k2⟩,h2⟩ : ∃ q,q=order2 ltN d y1 o k1:=⟨_,rfl⟩
 obtain ⟨⟨x3,y3,k3⟩,h3⟩ : ∃ q,q=order2 ltN d x1 x2 k2:=⟨_,rfl⟩
 have m1:=zi8 ltN h1 ha he
 have m2:=zi8 ltN h2 m1.2.1 ho
 have m3:=zi8 ltN h3 m1.1 m2.1
 have c1:=zeo b room n cap hb hn d R c hc hcb a e a e k rfl rfl ha he (by omega)
 have c2:=zeo b room n cap hb hn d R c hc hcb y1 o y1 o k1 rfl rfl m1.2.1 ho (by omega)
 have c3:=zeo b room n cap hb hn d R c hc hcb x1 x2 x1 x2 k2 rfl rfl m1.1 m2.1 (by omega)
 have hm:median ltN d a e o k=(y3,k3):=by
  unfold median;simp only [← h1,← h2,← h3]
 rw [hm]
 rw [← h1] at c1;rw [← h2] at c2;rw [← h3] at c3
 dsimp only at c1 c2 c3 ⊢
 clear h1 h2 h3 hm
 refine k_E5 (rs:=[.tmp 10]) 36 Tryz.func225 rfl rfl rfl ?_
 refine r11_ ?_
 refine ca_ rfl (c1) ?_
 rintro _ _ ⟨rfl,rfl⟩
 refine r13_ ?_
 refine ca_ rfl (c2) ?_
 rintro _ _ ⟨rfl,rfl⟩
 refine r13_ ?_
 refine ca_ rfl (c3) ?_
 rintro _ _ ⟨rfl,rfl⟩
 refine r14_ ?_
 refine ⟨_,_,⟨_,_,rfl,rfl,rfl⟩,Mem.Less.refl _,?_⟩
 exact ⟨rfl,rfl⟩
set_option maxHeartbeats 1000000 in
theorem zeq {S:Mem} (b room n cap:Nat) (hb:Fresh S b) (hn:n≤1048576) (d:Array Nat) (R:Rw (fun _=>True) n d) (c:Nat) (hc:Fresh S c) (hcb:c≠b) (ia:Int) (a k:Nat) (ea:ia=a) (ha:0<a) (ha2:a+1<n) (hk:k≤900) :
  ACall Tryz.prog 224 #[.slice (some ⟨b,0,none⟩) n cap,.int .i64 ia,.pointer (some ⟨c,0,none⟩)] ((S.set b ⟨24,(d).toList.map encU,room⟩).set c ⟨3,[.int .i64 ((k:Nat):Int)],1⟩) fun r S'=>r = .int .i64 ((medianAdjacent ltN d a k).1:Nat)∧S'=(S.set b ⟨24,(d).toList.map encU,room⟩).set c ⟨3,[.int .i64 (((medianAdjacent ltN d a k).2:Nat):Int)],1⟩:=by
 subst ea
 obtain ⟨a,rfl⟩ : ∃ q,a=q+1:=⟨a-1,by omega⟩
 refine k_E3 (rs:=[.tmp 6]) 15 Tryz.func224 rfl rfl rfl ?_
 refine r14_ ?_
 refine ca_ rfl (zep b room n cap hb hn d R c hc hcb _ _ _ a (a+1) (a+2) k om_ rfl om_ (by omega) (by omega) (by omega) hk) ?_
 rintro _ _ ⟨rfl,rfl⟩
 refine r4_ ?_
 refine ⟨_,_,⟨_,_,rfl,rfl,rfl⟩,Mem.Less.refl _,?_⟩
 exact ⟨rfl,rfl⟩
set_option maxHeartbeats 4000000 in
theorem znw {S:Mem} (b room n cap:Nat) (hb:Fresh S b) (hn:n≤1048576) (d:Array Nat) (R:Rw (fun _=>True) n d) (ia ie:Int) (a e:Nat) (ha:ia=a) (he:ie=e) (hae:a<e) (hen:e≤n) :
  ACall Tryz.prog 176 #[.slice (some ⟨b,0,none⟩) n cap,.int .i64 ia,.int .i64 ie] (S.set b ⟨24,(d).toList.map encU,room⟩) fun r S'=>r = .tuple #[.int .i64 ((choosePivot ltN d a e).1:Nat),.int .i64 (hintI (choosePivot ltN d a e).2)]∧S'=S.set b ⟨24,(d).toList.map encU,room⟩∧a≤(choosePivot ltN d a e).1∧(choosePivot ltN d a e).1<e:=by
 subst ha he
 obtain ⟨L,rfl⟩ : ∃ L,e=a+L:=⟨e-a,by omega⟩
 have z:=R.size
 refine k_E3 (rs:=[.tmp 6,.tmp 7]) 57 Tryz.func176 rfl rfl rfl ?_
 by_cases h8:8≤L
 ·refine r14_ ?_
  refine r2_ ?_
  refine ARun.alloc (zab rfl) zgZ ?_
  intro b9 f9
  have g9:=f9
  repeat ((with_reducible replace g9:=zaa g9);obtain ⟨g9,_⟩:=g9)
  refine nl_ ?_
  refine r39_ ?_
  refine zd5 0 1 2 6 7 8 9 10 11 12 32 ?_
  refine cT_ ?_
  by_cases h50:50≤L
  ·refine r7_ ?_
   refine cT_ ?_
   obtain ⟨⟨i1,k1⟩,q1⟩ : ∃ q,q=medianAdjacent ltN d (a+L / 4*1) 0:=⟨_,rfl⟩
   obtain ⟨⟨j1,k2⟩,q2⟩ : ∃ q,q=medianAdjacent ltN d (a+L / 4*2) k1:=⟨_,rfl⟩
   obtain ⟨⟨o1,k3⟩,q3⟩ : ∃ q,q=medianAdjacent ltN d (a+L / 4*3) k2:=⟨_,rfl⟩
   obtain ⟨⟨pv,k⟩,q4⟩ : ∃ q,q=median ltN d i1 j1 o1 k3:=⟨_,rfl⟩
   have m1:=zfs ltN q1 (lo:=a) (hi:=a+L) (by omega) (by omega)
   have m2:=zfs ltN q2 (lo:=a) (hi:=a+L) (by omega) (by omega)
   have m3:=zfs ltN q3 (lo:=a) (hi:=a+L) (by omega) (by omega)
   have hr:=zfr ltN q4 (lo:=a) (hi:=a+L) m1.1 m2.1 m3.1
   have n1:=m1.2;have n2:=m2.2;have n3:=m3.2;have n4:=hr.2
   have hp:choosePivot ltN d a (a+L)=(pv,if k=0 then .increasing else if k=12 then .decreasing else .unknown):=by unfold choosePivot;simp only [Nat.add_sub_cancel_left,if_pos h8,if_pos h50,← q1,← q2,← q3,← q4]
   replace hr:=hr.1
   refine r4_ ?_
   refine ca_ rfl ((q1 ▸ zeq b room n cap hb hn d R b9 g9 (by assumption) _ (a+L / 4*1) 0 om_ (by omega) (by omega) (by omega))) ?_
   rintro _ _ ⟨rfl,rfl⟩
   refine r7_ ?_
   refine ca_ rfl ((q2 ▸ zeq b room n cap hb hn d R b9 g9 (by assumption) _ (a+L / 4*2) k1 om_ (by omega) (by omega) (by omega))) ?_
   rintro _ _ ⟨rfl,rfl⟩
   refine r6_ ?_
   refine ca_ rfl ((q3 ▸ zeq b room n cap hb hn d R b9 g9 (by assumption) _ (a+L / 4*3) k2 om_ (by omega) (by omega) (by omega))) ?_
   rintro _ _ ⟨rfl,rfl⟩
   refine r8_ ?_
   refine ca_ rfl ((q4 ▸ zep b room n cap hb hn d R b9 g9 (by assumption) _ _ _ i1 j1 o1 k3 rfl rfl rfl (by omega) (by omega) (by omega) (by omega))) ?_
   rintro _ _ ⟨rfl,rfl⟩
   refine r3_ ?_
   refine zh9 0 1 2 6 7 8 9 10 11 12 32 34 ?_
   by_cases k0:k=0
   ·subst k0
    refine r12_ ?_
    refine cT_ ?_
    refine r9_ ?_
    refine ⟨_,S.set b ⟨24,(d).toList.map encU,room⟩,⟨_,_,rfl,⟨_,_,rfl,rfl,rfl⟩,rfl⟩,zad,?_⟩
    exact ⟨by rw [hp];rfl,rfl,by rw [hp];exact hr⟩
   ·refine r12_ ?_
    refine cF_ ?_
    by_cases k1:k=12
    ·subst k1
     refine r6_ ?_
     refine cT_ ?_
     refine r7_ ?_
     refine zgh 0 1 2 6 7 8 9 10 11 12 32 34 49 51 54 ?_
     refine r2_ ?_
     refine ⟨_,S.set b ⟨24,(d).toList.map encU,room⟩,⟨_,_,rfl,⟨_,_,rfl,rfl,rfl⟩,rfl⟩,zad,?_⟩
     exact ⟨by rw [hp];rfl,rfl,by rw [hp];exact hr⟩
    ·refine r6_ ?_
     refine cF_ ?_
     refine r9_ ?_
     refine ⟨_,S.set b ⟨24,(d).toList.map encU,room⟩,⟨_,_,rfl,⟨_,_,rfl,rfl,rfl⟩,rfl⟩,zad,?_⟩
     exact ⟨by rw [hp,zjX k0 k1];rfl,rfl,by rw [hp];exact hr⟩
  ·refine r7_ ?_
   refine cF_ ?_
   obtain ⟨⟨pv,k⟩,q4⟩ : ∃ q,q=median ltN d (a+L / 4*1) (a+L / 4*2) (a+L / 4*3) 0:=⟨_,rfl⟩
   have hr:=zfr ltN q4 (lo:=a) (hi:=a+L) (by omega) (by omega) (by omega)
   have n4:=hr.2
   have hp:choosePivot ltN d a (a+L)=(pv,if k=0 then .increasing else if k=12 then .decreasing else .unknown):=by unfold choosePivot;simp only [Nat.add_sub_cancel_left,if_pos h8,if_neg h50,← q4]
   replace hr:=hr.1
   refine r7_ ?_
   refine ca_ rfl ((q4 ▸ zep b room n cap hb hn d R b9 g9 (by assumption) _ _ _ (a+L / 4*1) (a+L / 4*2) (a+L / 4*3) 0 om_ om_ om_ (by omega) (by omega) (by omega) (by omega))) ?_
   rintro _ _ ⟨rfl,rfl⟩
   refine r3_ ?_
   by_cases k0:k=0
   ·subst k0
    refine r12_ ?_
    refine zqO 0 1 2 6 7 8 9 10 11 12 32 34 49 51 ?_
    refine cT_ ?_
    refine r9_ ?_
    refine ⟨_,S.set b ⟨24,(d).toList.map encU,room⟩,⟨_,_,rfl,⟨_,_,rfl,rfl,rfl⟩,rfl⟩,zad,?_⟩
    exact ⟨by rw [hp];rfl,rfl,by rw [hp];exact hr⟩
   ·refine r12_ ?_
    refine cF_ ?_
    by_cases k1:k=12
    ·subst k1
     refine r6_ ?_
     refine cT_ ?_
     refine r9_ ?_
     refine ⟨_,S.set b ⟨24,(d).toList.map encU,room⟩,⟨_,_,rfl,⟨_,_,rfl,rfl,rfl⟩,rfl⟩,zad,?_⟩
     exact ⟨by rw [hp];rfl,rfl,by rw [hp];exact hr⟩
    ·refine r6_ ?_
     refine zgh 0 1 2 6 7 8 9 10 11 12 32 34 49 51 54 ?_
     refine cF_ ?_
     refine r9_ ?_
     refine ⟨_,S.set b ⟨24,(d).toList.map encU,room⟩,⟨_,_,rfl,⟨_,_,rfl,rfl,rfl⟩,rfl⟩,zad,?_⟩
     exact ⟨by rw [hp,zjX k0 k1];rfl,rfl,by rw [hp];exact hr⟩
 ·refine r14_ ?_
  refine r2_ ?_
  refine ARun.alloc (zab rfl) zgZ ?_
  intro b9 f9
  have g9:=f9
  repeat ((with_reducible replace g9:=zaa g9);obtain ⟨g9,_⟩:=g9)
  refine nl_ ?_
  refine r32_ ?_
  refine zdG 0 1 2 6 7 8 9 10 11 12 ?_
  refine r7_ ?_
  refine cF_ ?_
  have hp:choosePivot ltN d a (a+L)=(a+L / 4*2,.increasing):=by unfold choosePivot;simp only [Nat.add_sub_cancel_left,if_neg h8];rfl
  refine r14_ ?_
  refine cT_ ?_
  refine r9_ ?_
  refine ⟨_,S.set b ⟨24,(d).toList.map encU,room⟩,⟨_,_,rfl,⟨_,_,rfl,rfl,rfl⟩,rfl⟩,zad,?_⟩
  exact ⟨by rw [hp];exact zr_ om_,rfl,by rw [hp];exact ⟨by show a≤a+L / 4*2;omega,by show a+L / 4*2<a+L;omega⟩⟩
set_option maxHeartbeats 4000000 in
theorem zsg {S:Mem} (b room n cap:Nat) (hb:Fresh S b) (hn:n≤1048576) (d:Array Nat) (R:Rw (fun _=>True) n d) (ia ie:Int) (a e:Nat) (ha:ia=a) (he:ie=e) (hae:a≤e) (hen:e≤n) :
  ACall Tryz.prog 175 #[.slice (some ⟨b,0,none⟩) n cap,.int .i64 ia,.int .i64 ie] (S.set b ⟨24,(d).toList.map encU,room⟩) fun r S'=>S'=S.set b ⟨24,(breakPatterns d a e).toList.map encU,room⟩∧Rw (fun _=>True) n (breakPatterns d a e):=by
 subst ha he
 obtain ⟨L,rfl⟩ : ∃ L,e=a+L:=⟨e-a,by omega⟩
 have z:=R.size
 by_cases h8:8≤L
 ·have hbp:=zuj (d:=d) (a:=a) h8
  have hmb:=ztJ L (by omega) (by omega)
  generalize hmo:1 <<< bitsLen L=mo at *
  generalize hba:a+L / 4*2-1=ba at *
  have hoL:((UInt64.ofNat L).toNat:Nat)=L:=by rw [UInt64.toNat_ofNat'];exact Nat.mod_eq_of_lt (by omega)
  refine k_E3 (rs:=[]) 65 Tryz.func175 rfl rfl rfl ?_
  refine r14_ ?_
  refine cT_ ?_
  refine r3_ ?_
  refine rC (Calm.conv rfl (zbf Tryz.underlying3 Tryz.underlying316 (IntWalk.u64_in _ (by omega)))) ?_
  refine ARun.alloc (zab rfl) zie ?_
  intro b7 f7
  have g7:=f7
  repeat ((with_reducible replace g7:=zaa g7);obtain ⟨g7,_⟩:=g7)
  refine nl_ ?_
  refine r3_ ?_
  refine AWP.less ((S.set b ⟨24,(d).toList.map encU,room⟩).set b7 (xorB (UInt64.ofNat L).toNat)) (by unfold xorB;rw [hoL,show ((a+L:Nat):Int)-(a:Int)=(L:Int) by omega];exact Mem.Less.refl _) ?_
  refine r3_ ?_
  refine ca_ rfl ((hmo ▸ ztI _ L om_ (by omega) _)) ?_
  rintro _ _ ⟨rfl,rfl⟩
  refine r14_ ?_
  refine k_v8 0 1 2 6 15 7 8 9 ?_
  refine s1_ ?_
  refine AWP.loop (X:=Nat × UInt64 × Array Nat) (fun x=>[(0,.slice (some ⟨b,0,none⟩) n cap),(1,.int .i64 a),(6,.int .i64 L),(7,.pointer (some ⟨b7,0,none⟩)),(8,.int .u64 mo),(9,.int .i64 ((ba+(3-x.1):Nat):Int))]) (fun x=>(S.set b ⟨24,(x.2.2).toList.map encU,room⟩).set b7 (xorB (x.2.1).toNat)) (fun x=>x.1≤3∧Rw (fun _=>True) n x.2.2∧bpR a L mo ba x.1 x.2=bpR a L mo ba 3 (UInt64.ofNat L,d)) (fun x=>x.1) ((3,UInt64.ofNat L,d)) ⟨sb_,sb_,sb_,sb_,sb_,sb_,trivial⟩ (Mem.Less.refl _) (⟨Nat.le_refl _,R,rfl⟩) ?_
  rintro ⟨k,r,d1⟩ ⟨h1,R1,h3⟩
  (try dsimp only at *)
  have z1:=R1.size
  by_cases hk:0<k
  ·obtain ⟨k,rfl⟩ : ∃ q,k=q+1:=⟨k-1,by omega⟩
   refine r13_ ?_
   refine cT_ ?_
   obtain ⟨r',hr'⟩ : ∃ r',r'=xorNext r:=⟨_,rfl⟩
   obtain ⟨o,ho⟩ : ∃ o,o=r'.toNat &&& (mo-1):=⟨_,rfl⟩
   have ho1:o≤mo-1:=by rw [ho];exact Nat.and_le_right
   have han:=zsa r'.toNat (mo-1) r'.toNat_lt (by omega)
   rw [← ho] at han
   refine r6_ ?_
   refine ca_ rfl ((hr' ▸ zr7 b7 r _ (zal g7 (by assumption)))) ?_
   rintro _ _ ⟨rfl,rfl⟩
   refine s1_ ?_
   refine rC (Calm.bin rfl rfl (zja (zsb mo (by omega) (by omega)))) ?_
   refine rC (Calm.bin rfl rfl (znV han)) ?_
   refine r4_ ?_
   by_cases hoL2:L≤o
   ·refine r8_ ?_
    refine cT_ ?_
    refine r7_ ?_
    refine AWP.draw [(0,true),(1,true),(2,true),(3,true),(4,true),(5,true),(6,true),(7,true),(8,true),(9,true),(10,true),(11,true),(12,true),(13,true),(14,true),(15,true),(16,true),(17,false),(18,true),(19,false)] [17,19] mixed (by kernel_rfl) ?_
    refine r11_ ?_
    refine dC (hc:=Calm.load zaf rfl (zak (k:=a+(o-L)) own_ rw_ rw_)) (h:=?_)
    refine r3_ ?_
    refine dC (hc:=Calm.load zaf rfl (zak (k:=ba+(2-k)) own_ rw_ rw_)) (h:=?_)
    refine s1_ ?_
    refine zac rfl ?_
    refine ARun.storeRow encU (ba+(2-k)) rfl rfl zah ⟨rfl,rfl⟩ own_ rw_ rw_ ?_
    try simp only [k_ms,k_sz,k_ss,k_za,Nat.reduceAdd]
    refine zae ⟨fun h=>absurd h (by decide),?_⟩
    refine s1_ ?_
    refine zac rfl ?_
    refine ARun.storeRow encU (a+(o-L)) rfl rfl zah ⟨rfl,rfl⟩ own_ rw_ rw_ ?_
    try simp only [k_ms,k_sz,k_ss,k_za,Nat.reduceAdd]
    refine zae ⟨fun h=>absurd h (by decide),?_⟩
    refine r3_ ?_
    refine k_v9 0 1 6 7 8 9 33 10 43 ?_
    refine r6_ ?_
    refine ⟨(k,r',swp d1 (ba+(2-k)) (a+(o-L))),?_,?_,?_,?_⟩
    all_goals (try dsimp only)
    ·exact ⟨sb_,sb_,sb_,sb_,sb_,sb_,trivial⟩
    ·rw [zjW _ _ _ _ (by first | assumption | (apply Ne.symm;assumption))];exact Mem.Less.refl _
    ·exact ⟨by omega,R1.swp _ _ (by omega) (by omega),by rw [← h3,zjY,← hr',← ho,if_pos hoL2]⟩
    ·omega
   ·refine r8_ ?_
    refine cF_ ?_
    refine r2_ ?_
    refine AWP.draw [(0,true),(1,true),(2,true),(3,true),(4,true),(5,true),(6,true),(7,true),(8,true),(9,true),(10,true),(11,true),(12,true),(13,true),(14,true),(15,true),(16,true),(17,false),(18,true),(19,false)] [17,19] mixed (by kernel_rfl) ?_
    refine r11_ ?_
    refine dC (hc:=Calm.load zaf rfl (zak (k:=a+o) own_ rw_ rw_)) (h:=?_)
    refine r3_ ?_
    refine dC (hc:=Calm.load zaf rfl (zak (k:=ba+(2-k)) own_ rw_ rw_)) (h:=?_)
    refine s1_ ?_
    refine zac rfl ?_
    refine ARun.storeRow encU (ba+(2-k)) rfl rfl zah ⟨rfl,rfl⟩ own_ rw_ rw_ ?_
    try simp only [k_ms,k_sz,k_ss,k_za,Nat.reduceAdd]
    refine zae ⟨fun h=>absurd h (by decide),?_⟩
    refine s1_ ?_
    refine zac rfl ?_
    refine ARun.storeRow encU (a+o) rfl rfl zah ⟨rfl,rfl⟩ own_ rw_ rw_ ?_
    try simp only [k_ms,k_sz,k_ss,k_za,Nat.reduceAdd]
    refine zae ⟨fun h=>absurd h (by decide),?_⟩
    refine r9_ ?_
    refine ⟨(k,r',swp d1 (ba+(2-k)) (a+o)),?_,?_,?_,?_⟩
    all_goals (try dsimp only)
    ·exact ⟨sb_,sb_,sb_,sb_,sb_,sb_,trivial⟩
    ·rw [zjW _ _ _ _ (by first | assumption | (apply Ne.symm;assumption))];exact Mem.Less.refl _
    ·exact ⟨by omega,R1.swp _ _ (by omega) (by omega),by rw [← h3,zjY,← hr',← ho,if_neg hoL2]⟩
    ·omega
  ·obtain rfl:k=0:=by omega
   refine r13_ ?_
   refine cF_ ?_
   refine r4_ ?_
   refine ⟨_,S.set b ⟨24,(d1).toList.map encU,room⟩,rfl,zad,?_⟩
   rw [hbp,← h3];exact ⟨rfl,R1⟩
 ·have hbp:breakPatterns d a (a+L)=d:=by unfold breakPatterns;simp only [Nat.add_sub_cancel_left];rw [if_neg (by omega)]
  rw [hbp]
  refine k_E3 (rs:=[]) 65 Tryz.func175 rfl rfl rfl ?_
  refine r14_ ?_
  refine k_v5 0 1 2 6 15 ?_
  refine cF_ ?_
  refine s1_ ?_
  refine ⟨_,_,rfl,Mem.Less.refl _,?_⟩
  exact ⟨rfl,R⟩
set_option maxHeartbeats 4000000 in
theorem zpU {S:Mem} (b room n cap:Nat) (hb:Fresh S b) (hn:n≤1048576) (d:Array Nat) (R:Rw (fun _=>True) n d) (ia ie:Int) (a e:Nat) (ha:ia=a) (he:ie=e) (hae:a<e) (hen:e≤n) :
  ACall Tryz.prog 178 #[.slice (some ⟨b,0,none⟩) n cap,.int .i64 ia,.int .i64 ie] (S.set b ⟨24,(d).toList.map encU,room⟩) fun r S'=>r = .bool (partialInsertionSort ltN d a e).2∧S'=S.set b ⟨24,((partialInsertionSort ltN d a e).1).toList.map encU,room⟩∧Rw (fun _=>True) n (partialInsertionSort ltN d a e).1:=by
 subst ha he
 refine k_E3 (rs:=[.tmp 6]) 133 Tryz.func178 rfl rfl rfl ?_
 refine r19_ ?_
 refine AWP.loop (X:=Nat × Nat × Array Nat) (fun x=>[(0,.slice (some ⟨b,0,none⟩) n cap),(1,.int .i64 a),(2,.int .i64 e),(7,.int .i64 x.2.1),(8,.int .i64 ((5-x.1:Nat):Int))]) (fun x=>S.set b ⟨24,(x.2.2).toList.map encU,room⟩) (fun x=>x.1≤5∧a+1≤x.2.1∧x.2.1≤e∧Rw (fun _=>True) n x.2.2∧partialIns ltN a e x.1 x.2.1 x.2.2=partialInsertionSort ltN d a e) (fun x=>x.1) ((5,a+1,d)) ⟨sb_,sb_,sb_,sb_,sb_,trivial⟩ (Mem.Less.refl _) (⟨Nat.le_refl _,by dsimp only;omega,by dsimp only;omega,R,rfl⟩) ?_
 rintro ⟨s,i,d1⟩ ⟨h1,h2,h4,R1,h3⟩
 (try dsimp only at *)
 have z1:=R1.size
 by_cases hs:0<s
 ·obtain ⟨s,rfl⟩ : ∃ q,s=q+1:=⟨s-1,by omega⟩
  refine r7_ ?_
  refine cT_ ?_
  refine r5_ ?_
  refine AWP.join (X:=Nat) (fun x=>[(0,.slice (some ⟨b,0,none⟩) n cap),(1,.int .i64 a),(2,.int .i64 e),(7,.int .i64 x),(8,.int .i64 ((5-(s+1):Nat):Int))]) (fun _=>S.set b ⟨24,(d1).toList.map encU,room⟩) (fun x=>a+1≤x∧x≤e∧x=scanSorted ltN d1 e i) ?_ ?_
  ·refine s1_ ?_
   refine AWP.loop (X:=Nat) (fun x=>[(0,.slice (some ⟨b,0,none⟩) n cap),(1,.int .i64 a),(2,.int .i64 e),(7,.int .i64 x),(8,.int .i64 ((5-(s+1):Nat):Int))]) (fun _=>S.set b ⟨24,(d1).toList.map encU,room⟩) (fun x=>a+1≤x∧x≤e∧scanSorted ltN d1 e x=scanSorted ltN d1 e i) (fun x=>e-x) (i) ⟨sb_,sb_,sb_,sb_,sb_,trivial⟩ (Mem.Less.refl _) (⟨h2,h4,rfl⟩) ?_
   rintro x ⟨q1,q2,q3⟩
   (try dsimp only at *)
   by_cases hx:x<e
   ·obtain ⟨x,rfl⟩ : ∃ q,x=q+1:=⟨x-1,by omega⟩
    refine r2_ ?_
    refine AWP.draw [(0,true),(1,true),(2,true),(3,true),(4,true),(5,true),(6,true),(7,true),(8,true),(9,true),(10,true),(11,true),(12,true),(13,false),(14,true),(15,true)] [] mixed (by kernel_rfl) ?_
    refine r7_ ?_
    first|refine k_d ?_|refine dL (hc:=Calm.load zaf rfl (zak (k:=x+1) own_ rw_ rw_)) (h:=?_)
    refine r4_ ?_
    first|refine k_d ?_|refine dL (hc:=Calm.load zaf rfl (zak (k:=x) own_ rw_ rw_)) (h:=?_)
    refine zac rfl ?_
    refine ARun.callG 3 true 20 rfl (zab rfl) rfl (zab rfl) zcS rfl (zaX _ _ _) ?_
    rintro _ _ ⟨rfl,rfl⟩
    refine zae ⟨fun _=>zad,?_⟩
    refine r4_ ?_
    refine AWP.condB rfl (fun hl=>?_) (fun hl=>?_)
    ·have hl:=nt_ hl
     refine r10_ ?_
     refine ⟨x+1+1,?_,?_,?_,?_⟩
     all_goals (try dsimp only)
     ·exact ⟨sb_,sb_,sb_,sb_,sb_,trivial⟩
     ·exact Mem.Less.refl _
     ·exact ⟨by omega,by omega,(zud ltN hx (by rw [Nat.add_sub_cancel];exact hl)).trans q3⟩
     ·omega
    ·have hl:=nf_ hl
     refine r4_ ?_
     refine ⟨(x+1),?_,?_,?_⟩
     all_goals (try dsimp only)
     ·exact ⟨by omega,by omega,(zue ltN (by rw [Nat.add_sub_cancel];exact hl)).trans q3⟩
     ·exact ⟨sb_,sb_,sb_,sb_,sb_,trivial⟩
     ·exact Mem.Less.refl _
   ·refine r2_ ?_
    refine AWP.draw [(0,true),(1,true),(2,true),(3,true),(4,true),(5,true),(6,true),(7,true),(8,true),(9,true),(10,true),(11,true),(12,true),(13,false),(14,true),(15,true)] [] mixed (by kernel_rfl) ?_
    refine r7_ ?_
    first|refine k_d ?_|refine dL (hc:=Calm.load zaf rfl (zak (k:=x+1) own_ rw_ rw_)) (h:=?_)
    refine r4_ ?_
    first|refine k_d ?_|refine dL (hc:=Calm.load zaf rfl (zak (k:=x) own_ rw_ rw_)) (h:=?_)
    refine zac rfl ?_
    refine s1_ ?_
    refine zae ⟨fun _=>zad,?_⟩
    refine r4_ ?_
    refine cF_ ?_
    refine r4_ ?_
    refine ⟨x,?_,?_,?_⟩
    all_goals (try dsimp only)
    ·exact ⟨by omega,by omega,(ztF ltN hx).trans q3⟩
    ·exact ⟨sb_,sb_,sb_,sb_,sb_,trivial⟩
    ·exact Mem.Less.refl _
  rintro x ⟨b1,b2,hS⟩
  intro _ _ hs_ hl_
  (try dsimp only at *)
  refine za1 ?_
  refine AWP.sub _ hs_ (AWP.less _ hl_ ?_)
  clear hs_ hl_
  by_cases hxe:x=e
  ·refine r8_ ?_
   refine k_v6 0 1 2 7 8 37 ?_
   refine cT_ ?_
   refine r12_ ?_
   refine ⟨_,_,⟨_,_,rfl,rfl,rfl⟩,Mem.Less.refl _,?_⟩
   exact znv (M:=fun x=>S.set b ⟨24,(x).toList.map encU,room⟩) ltN h3 (.inl ⟨hS ▸ hxe,rfl,rfl⟩) R1
  ·refine r8_ ?_
   refine cF_ ?_
   by_cases h50:e-a<50
   ·refine r11_ ?_
    refine cT_ ?_
    refine r12_ ?_
    refine ⟨_,_,⟨_,_,rfl,rfl,rfl⟩,Mem.Less.refl _,?_⟩
    exact znv (M:=fun x=>S.set b ⟨24,(x).toList.map encU,room⟩) ltN h3 (.inr ⟨hS ▸ hxe,h50,rfl,rfl⟩) R1
   ·refine r11_ ?_
    refine cF_ ?_
    obtain ⟨w,rfl⟩ : ∃ q,x=q+1:=⟨x-1,by omega⟩
    refine r3_ ?_
    refine AWP.draw [(0,true),(1,true),(2,true),(3,true),(4,true),(5,true),(6,true),(7,true),(8,true),(9,true),(10,true),(11,true),(12,true),(13,true),(14,true),(15,false),(16,true),(17,false)] [15,17] mixed (by kernel_rfl) ?_
    have R2:=R1.swp (w+1) w (by omega) (by omega)
    obtain ⟨d2,hd2⟩ : ∃ d2,d2=swp d1 (w+1) w:=⟨_,rfl⟩
    rw [← hd2] at R2
    refine r9_ ?_
    refine dC (hc:=Calm.load zaf rfl (zak (k:=w) own_ rw_ rw_)) (h:=?_)
    refine r3_ ?_
    refine dC (hc:=Calm.load zaf rfl (zak (k:=w+1) own_ rw_ rw_)) (h:=?_)
    refine s1_ ?_
    refine zac rfl ?_
    refine ARun.storeRow encU (w+1) rfl rfl zah ⟨rfl,rfl⟩ own_ rw_ rw_ ?_
    try simp only [k_ms,k_sz,k_ss,k_za,Nat.reduceAdd]
    refine zae ⟨fun h=>absurd h (by decide),?_⟩
    refine s1_ ?_
    refine zac rfl ?_
    refine ARun.storeRow encU (w) rfl rfl zah ⟨rfl,rfl⟩ own_ rw_ rw_ ?_
    try simp only [k_ms,k_sz,k_ss,k_za,Nat.reduceAdd]
    refine zae ⟨fun h=>absurd h (by decide),?_⟩
    refine r2_ ?_
    refine AWP.less (S.set b ⟨24,(d2).toList.map encU,room⟩) (by rw [hd2];exact Mem.Less.refl _) ?_
    have z2:=R2.size
    refine r9_ ?_
    refine k_v8 0 1 2 7 8 37 41 61 ?_
    refine AWP.join (X:=Array Nat) (fun x=>[(0,.slice (some ⟨b,0,none⟩) n cap),(1,.int .i64 a),(2,.int .i64 e),(7,.int .i64 ((w+1:Nat):Int)),(8,.int .i64 ((5-(s+1):Nat):Int))]) (fun x=>S.set b ⟨24,(x).toList.map encU,room⟩) (fun x=>Rw (fun _=>True) n x∧x=(if w+1-a ≥ 2 then shiftDown ltN w d2 else d2)) ?_ ?_
    ·by_cases hw:2≤w+1-a
     ·refine cT_ ?_
      refine r8_ ?_
      refine AWP.loop (X:=Nat × Array Nat) (fun x=>[(0,.slice (some ⟨b,0,none⟩) n cap),(1,.int .i64 a),(2,.int .i64 e),(7,.int .i64 ((w+1:Nat):Int)),(8,.int .i64 ((5-(s+1):Nat):Int)),(9,.int .i64 x.1)]) (fun x=>S.set b ⟨24,(x.2).toList.map encU,room⟩) (fun x=>x.1≤w∧Rw (fun _=>True) n x.2∧shiftDown ltN x.1 x.2=shiftDown ltN w d2) (fun x=>x.1) ((w,d2)) ⟨sb_,sb_,sb_,sb_,sb_,sb_,trivial⟩ (Mem.Less.refl _) (⟨Nat.le_refl _,R2,rfl⟩) ?_
      rintro ⟨j,d3⟩ ⟨k1,R3,k3⟩
      (try dsimp only at *)
      have z3:=R3.size
      by_cases hj:0<j
      ·obtain ⟨j,rfl⟩ : ∃ q,j=q+1:=⟨j-1,by omega⟩
       refine r7_ ?_
       refine cT_ ?_
       refine r6_ ?_
       refine AWP.draw [(0,true),(1,true),(2,true),(3,true),(4,true),(5,true),(6,true),(7,true),(8,true),(9,false),(10,true)] [] mixed (by kernel_rfl) ?_
       refine r3_ ?_
       refine dC (hc:=Calm.load zaf rfl (zak (k:=j+1) own_ rw_ rw_)) (h:=?_)
       refine r4_ ?_
       refine dC (hc:=Calm.load zaf rfl (zak (k:=j) own_ rw_ rw_)) (h:=?_)
       refine zac rfl ?_
       refine ca_ rfl (zaX _ _ _) ?_
       rintro _ _ ⟨rfl,rfl⟩
       refine zae ⟨fun _=>zad,?_⟩
       refine r3_ ?_
       refine AWP.condB rfl (fun hl=>?_) (fun hl=>?_)
       ·have hl:=nt_ hl
        refine r6_ ?_
        refine ⟨d3,?_,?_,?_⟩
        all_goals (try dsimp only)
        ·exact ⟨R3,by rw [if_pos hw,← k3,← zug ltN hl]⟩
        ·exact ⟨sb_,sb_,sb_,sb_,sb_,trivial⟩
        ·exact Mem.Less.refl _
       ·have hl:=nf_ hl
        refine r2_ ?_
        refine AWP.draw [(0,true),(1,true),(2,true),(3,true),(4,true),(5,true),(6,true),(7,true),(8,true),(9,true),(10,true),(11,true),(12,true),(13,true),(14,true),(15,false),(16,true),(17,false)] [15,17] mixed (by kernel_rfl) ?_
        refine r9_ ?_
        refine dC (hc:=Calm.load zaf rfl (zak (k:=j) own_ rw_ rw_)) (h:=?_)
        refine r3_ ?_
        refine dC (hc:=Calm.load zaf rfl (zak (k:=j+1) own_ rw_ rw_)) (h:=?_)
        refine s1_ ?_
        refine zac rfl ?_
        refine ARun.storeRow encU (j+1) rfl rfl zah ⟨rfl,rfl⟩ own_ rw_ rw_ ?_
        try simp only [k_ms,k_sz,k_ss,k_za,Nat.reduceAdd]
        refine zae ⟨fun h=>absurd h (by decide),?_⟩
        refine s1_ ?_
        refine zac rfl ?_
        refine ARun.storeRow encU (j) rfl rfl zah ⟨rfl,rfl⟩ own_ rw_ rw_ ?_
        try simp only [k_ms,k_sz,k_ss,k_za,Nat.reduceAdd]
        refine zae ⟨fun h=>absurd h (by decide),?_⟩
        refine r9_ ?_
        refine ⟨(j,swp d3 (j+1) j),?_,?_,?_,?_⟩
        all_goals (try dsimp only)
        ·exact ⟨sb_,sb_,sb_,sb_,sb_,sb_,trivial⟩
        ·exact Mem.Less.refl _
        ·exact ⟨by omega,R3.swp _ _ (by omega) (by omega),(zuf ltN hl).trans k3⟩
        ·omega
      ·obtain rfl:j=0:=by omega
       refine r7_ ?_
       refine k_v7 0 1 2 7 8 9 65 ?_
       refine cF_ ?_
       refine r4_ ?_
       refine ⟨d3,?_,?_,?_⟩
       all_goals (try dsimp only)
       ·exact ⟨R3,by rw [if_pos hw,← k3];rfl⟩
       ·exact ⟨sb_,sb_,sb_,sb_,sb_,trivial⟩
       ·exact Mem.Less.refl _
     ·refine cF_ ?_
      refine s1_ ?_
      refine ⟨d2,?_,?_,?_⟩
      all_goals (try dsimp only)
      ·exact ⟨R2,by rw [if_neg hw]⟩
      ·exact ⟨sb_,sb_,sb_,sb_,sb_,trivial⟩
      ·exact Mem.Less.refl _
    rintro d3 ⟨R3,hd3⟩
    intro _ _ hs_ hl_
    (try dsimp only at *)
    refine za1 ?_
    refine AWP.sub _ hs_ (AWP.less _ hl_ ?_)
    clear hs_ hl_
    have z3:=R3.size
    refine r8_ ?_
    refine AWP.join (X:=Array Nat) (fun x=>[(0,.slice (some ⟨b,0,none⟩) n cap),(1,.int .i64 a),(2,.int .i64 e),(7,.int .i64 ((w+1:Nat):Int)),(8,.int .i64 ((5-(s+1):Nat):Int))]) (fun x=>S.set b ⟨24,(x).toList.map encU,room⟩) (fun x=>Rw (fun _=>True) n x∧x=(if e-(w+1) ≥ 2 then shiftUp ltN e (w+1+1) d3 else d3)) ?_ ?_
    ·by_cases hw:2≤e-(w+1)
     ·refine cT_ ?_
      refine r8_ ?_
      refine AWP.loop (X:=Nat × Array Nat) (fun x=>[(0,.slice (some ⟨b,0,none⟩) n cap),(1,.int .i64 a),(2,.int .i64 e),(7,.int .i64 ((w+1:Nat):Int)),(8,.int .i64 ((5-(s+1):Nat):Int)),(10,.int .i64 x.1)]) (fun x=>S.set b ⟨24,(x.2).toList.map encU,room⟩) (fun x=>w+1+1≤x.1∧x.1≤e∧Rw (fun _=>True) n x.2∧shiftUp ltN e x.1 x.2=shiftUp ltN e (w+1+1) d3) (fun x=>e-x.1) ((w+1+1,d3)) ⟨sb_,sb_,sb_,sb_,sb_,sb_,trivial⟩ (Mem.Less.refl _) (⟨Nat.le_refl _,by dsimp only;omega,R3,rfl⟩) ?_
      rintro ⟨j,d4⟩ ⟨k1,k2,R4,k3⟩
      (try dsimp only at *)
      have z4:=R4.size
      by_cases hj:j<e
      ·obtain ⟨j,rfl⟩ : ∃ q,j=q+1:=⟨j-1,by omega⟩
       refine r8_ ?_
       refine cT_ ?_
       refine r6_ ?_
       refine AWP.draw [(0,true),(1,true),(2,true),(3,true),(4,true),(5,true),(6,true),(7,true),(8,true),(9,false),(10,true)] [] mixed (by kernel_rfl) ?_
       refine r3_ ?_
       refine dC (hc:=Calm.load zaf rfl (zak (k:=j+1) own_ rw_ rw_)) (h:=?_)
       refine r4_ ?_
       refine dC (hc:=Calm.load zaf rfl (zak (k:=j) own_ rw_ rw_)) (h:=?_)
       refine zac rfl ?_
       refine ca_ rfl (zaX _ _ _) ?_
       rintro _ _ ⟨rfl,rfl⟩
       refine zae ⟨fun _=>zad,?_⟩
       refine r3_ ?_
       refine AWP.condB rfl (fun hl=>?_) (fun hl=>?_)
       ·have hl:=nt_ hl
        refine r6_ ?_
        refine ⟨d4,?_,?_,?_⟩
        all_goals (try dsimp only)
        ·exact ⟨R4,by rw [if_pos hw,← k3,← zui ltN (by rw [Nat.add_sub_cancel];exact hl)]⟩
        ·exact ⟨sb_,sb_,sb_,sb_,sb_,trivial⟩
        ·exact Mem.Less.refl _
       ·have hl:=nf_ hl
        refine r2_ ?_
        refine AWP.draw [(0,true),(1,true),(2,true),(3,true),(4,true),(5,true),(6,true),(7,true),(8,true),(9,true),(10,true),(11,true),(12,true),(13,true),(14,true),(15,false),(16,true),(17,false)] [15,17] mixed (by kernel_rfl) ?_
        refine r9_ ?_
        refine dC (hc:=Calm.load zaf rfl (zak (k:=j) own_ rw_ rw_)) (h:=?_)
        refine r3_ ?_
        refine dC (hc:=Calm.load zaf rfl (zak (k:=j+1) own_ rw_ rw_)) (h:=?_)
        refine s1_ ?_
        refine zac rfl ?_
        refine ARun.storeRow encU (j+1) rfl rfl zah ⟨rfl,rfl⟩ own_ rw_ rw_ ?_
        try simp only [k_ms,k_sz,k_ss,k_za,Nat.reduceAdd]
        refine zae ⟨fun h=>absurd h (by decide),?_⟩
        refine s1_ ?_
        refine zac rfl ?_
        refine ARun.storeRow encU (j) rfl rfl zah ⟨rfl,rfl⟩ own_ rw_ rw_ ?_
        try simp only [k_ms,k_sz,k_ss,k_za,Nat.reduceAdd]
        refine zae ⟨fun h=>absurd h (by decide),?_⟩
        refine r3_ ?_
        refine k_v8 0 1 2 7 8 10 103 116 ?_
        refine r6_ ?_
        refine ⟨(j+1+1,swp d4 (j+1) j),?_,?_,?_,?_⟩
        all_goals (try dsimp only)
        ·exact ⟨sb_,sb_,sb_,sb_,sb_,sb_,trivial⟩
        ·exact Mem.Less.refl _
        ·exact ⟨by omega,by omega,R4.swp _ _ (by omega) (by omega),(zuh ltN (j:=j+1) hj (by rw [Nat.add_sub_cancel];exact hl)).trans k3⟩
        ·omega
      ·refine r8_ ?_
       refine cF_ ?_
       refine r4_ ?_
       refine ⟨d4,?_,?_,?_⟩
       all_goals (try dsimp only)
       ·exact ⟨R4,by rw [if_pos hw,← k3,← ztG ltN hj]⟩
       ·exact ⟨sb_,sb_,sb_,sb_,sb_,trivial⟩
       ·exact Mem.Less.refl _
     ·refine cF_ ?_
      refine s1_ ?_
      refine ⟨d3,?_,?_,?_⟩
      all_goals (try dsimp only)
      ·exact ⟨R3,by rw [if_neg hw]⟩
      ·exact ⟨sb_,sb_,sb_,sb_,sb_,trivial⟩
      ·exact Mem.Less.refl _
    rintro d4 ⟨R4,hd4⟩
    intro _ _ hs_ hl_
    (try dsimp only at *)
    refine zsv ?_
    refine za1 ?_
    refine AWP.sub _ hs_ (AWP.less _ hl_ ?_)
    clear hs_ hl_
    refine r6_ ?_
    refine ⟨(s,w+1,d4),?_,?_,?_,?_⟩
    all_goals (try dsimp only)
    ·exact ⟨sb_,sb_,sb_,sb_,sb_,trivial⟩
    ·exact Mem.Less.refl _
    ·exact ⟨by omega,by omega,by omega,R4,(zsc ltN hS (by omega) h50 hd2 hd3 hd4).trans h3⟩
    ·omega
 ·obtain rfl:s=0:=by omega
  refine r7_ ?_
  refine cF_ ?_
  refine r11_ ?_
  refine ⟨_,_,⟨_,_,rfl,rfl,rfl⟩,Mem.Less.refl _,?_⟩
  rw [← h3];exact ⟨rfl,rfl,R1⟩
end
section
open Go.RowKit
open Mv Srt
open Go.Sort (swp insInner insOuter insertionSort siftDown heapBuild heapPop heapSort scanUp scanDown partLoop partition partEqLoop partitionEqual scanSorted shiftDown shiftUp partialIns partialInsertionSort order2 median medianAdjacent choosePivot reverseLoop reverseRange breakStep breakPatterns pdq bitsLen xorNext Hint)
set_option maxRecDepth 4000
set_option maxHeartbeats 8000000 in
theorem zsh {S:Mem} (b room n cap:Nat) (hb:Fresh S b) (hn:n≤1048576):∀ (m:Nat) (d:Array Nat) (R:Rw (fun _=>True) n d) (ia ie il:Int) (a e limit:Nat),ia=a→ie=e→il=limit→a≤e→e≤n→limit≤1000→e-a=m →
  ACall Tryz.prog 120 #[.slice (some ⟨b,0,none⟩) n cap,.int .i64 ia,.int .i64 ie,.int .i64 il] (S.set b ⟨24,(d).toList.map encU,room⟩) fun r S'=>S'=S.set b ⟨24,(pdq ltN d a e limit true true).toList.map encU,room⟩∧Rw (fun _=>True) n (pdq ltN d a e limit true true):=by
 intro m
 induction m using Nat.strongRecOn with
 | _ m ih =>
 intro d R ia ie il a e limit ha he hl hae hen hlim hm
 subst ha he hl
 refine k_E4 (rs:=[]) 134 Tryz.func120 rfl rfl rfl ?_
 refine r11_ ?_
 refine AWP.loop (X:=Nat × Nat × Nat × Bool × Bool × Array Nat) (fun x=>[(0,.slice (some ⟨b,0,none⟩) n cap),(1,.int .i64 x.1),(2,.int .i64 x.2.1),(3,.int .i64 x.2.2.1),(8,.bool x.2.2.2.1),(9,.bool x.2.2.2.2.1)]) (fun x=>S.set b ⟨24,(x.2.2.2.2.2).toList.map encU,room⟩) (fun x=>x.1≤x.2.1∧x.2.1≤e∧Rw (fun _=>True) n x.2.2.2.2.2∧x.2.1-x.1≤m∧x.2.2.1≤limit∧pdq ltN x.2.2.2.2.2 x.1 x.2.1 x.2.2.1 x.2.2.2.1 x.2.2.2.2.1=pdq ltN d a e limit true true) (fun x=>x.2.1-x.1) ((a,e,limit,true,true,d)) ⟨sb_,sb_,sb_,sb_,sb_,sb_,trivial⟩ (Mem.Less.refl _) (⟨hae,Nat.le_refl _,R,by dsimp only;omega,Nat.le_refl _,rfl⟩) ?_
 rintro ⟨a1,e1,l1,w1,w2,d0⟩ ⟨h1,h2,R0,h4,h5,hq⟩
 (try dsimp only at *)
 have z0:=R0.size
 by_cases h12:e1-a1≤12
 ·refine r9_ ?_
  refine r7_ ?_
  refine cT_ ?_
  refine r5_ ?_
  refine ca_ rfl (zr9 b room n cap hb hn d0 R0 _ _ a1 e1 rfl rfl (by omega) (by omega)) ?_
  rintro _ _ ⟨rfl,R1⟩
  refine r7_ ?_
  refine ⟨_,_,rfl,Mem.Less.refl _,?_⟩
  rw [← hq,zsd ltN h12];exact ⟨rfl,R1⟩
 ·refine r9_ ?_
  refine r7_ ?_
  refine k_v8 0 1 2 3 8 9 10 23 ?_
  refine cF_ ?_
  by_cases hl0:l1=0
  ·refine r9_ ?_
   refine cT_ ?_
   refine r5_ ?_
   refine ca_ rfl (zpR b room n cap hb hn d0 R0 _ _ a1 e1 rfl rfl (by omega) (by omega)) ?_
   rintro _ _ ⟨rfl,R1⟩
   refine r7_ ?_
   refine ⟨_,_,rfl,Mem.Less.refl _,?_⟩
   rw [← hq,zpT ltN h12 hl0];exact ⟨rfl,R1⟩
  ·refine r9_ ?_
   refine cF_ ?_
   rw [zuk ltN h12 hl0] at hq
   refine r9_ ?_
   refine AWP.join (X:=Nat × Array Nat) (fun x=>[(0,.slice (some ⟨b,0,none⟩) n cap),(1,.int .i64 a1),(2,.int .i64 e1),(3,.int .i64 x.1),(8,.bool w1),(9,.bool w2),(10,.int .i64 ((e1-a1:Nat):Int))]) (fun x=>S.set b ⟨24,(x.2).toList.map encU,room⟩) (fun x=>x.1≤l1∧Rw (fun _=>True) n x.2∧pdq1 ltN x.2 a1 e1 x.1 w1 w2=pdq ltN d a e limit true true) ?_ ?_
   ·cases w1
    ·refine cT_ ?_
     refine r5_ ?_
     refine ca_ rfl (zsg b room n cap hb hn d0 R0 _ _ a1 e1 rfl rfl (by omega) (by omega)) ?_
     rintro _ _ ⟨rfl,R1⟩
     refine r2_ ?_
     refine zdG 0 1 2 3 8 9 10 23 29 35 ?_
     refine r5_ ?_
     refine ⟨(l1-1,breakPatterns d0 a1 e1),?_,?_,?_⟩
     all_goals (try dsimp only)
     ·exact ⟨by omega,R1,hq⟩
     ·exact ⟨sb_,sb_,sb_,sb_,sb_,sb_,sb_,trivial⟩
     ·exact Mem.Less.refl _
    ·refine cF_ ?_
     refine s1_ ?_
     refine ⟨(l1,d0),?_,?_,?_⟩
     all_goals (try dsimp only)
     ·exact ⟨Nat.le_refl _,R0,hq⟩
     ·exact ⟨sb_,sb_,sb_,sb_,sb_,sb_,sb_,trivial⟩
     ·exact Mem.Less.refl _
   rintro ⟨l2,d1⟩ ⟨k1,R1,hq⟩
   intro _ _ hs_ hl_
   (try dsimp only at *)
   refine za1 ?_
   refine AWP.sub _ hs_ (AWP.less _ hl_ ?_)
   clear hs_ hl_
   have z1:=R1.size
   obtain ⟨⟨p0,ht⟩,hpc⟩ : ∃ q,q=choosePivot ltN d1 a1 e1:=⟨_,rfl⟩
   refine r5_ ?_
   refine ca_ rfl ((hpc ▸ znw b room n cap hb hn d1 R1 _ _ a1 e1 rfl rfl (by omega) (by omega))) ?_
   rintro _ _ ⟨rfl,rfl,g1,g2⟩
   dsimp only at g1 g2
   rw [pdq1,← hpc] at hq
   dsimp only at hq
   refine r14_ ?_
   refine AWP.join (X:=Nat × Hint × Array Nat) (fun x=>[(0,.slice (some ⟨b,0,none⟩) n cap),(1,.int .i64 a1),(2,.int .i64 e1),(3,.int .i64 l2),(8,.bool w1),(9,.bool w2),(10,.int .i64 ((e1-a1:Nat):Int)),(11,.int .i64 x.1),(12,.int .i64 (hintI x.2.1))]) (fun x=>S.set b ⟨24,(x.2.2).toList.map encU,room⟩) (fun x=>a1≤x.1∧x.1<e1∧Rw (fun _=>True) n x.2.2∧pdq2 ltN x.2.2 a1 e1 l2 w1 w2 x.1 x.2.1=pdq ltN d a e limit true true) ?_ ?_
   ·by_cases hde:ht = .decreasing
    ·subst hde
     refine cT_ ?_
     refine r5_ ?_
     refine ca_ rfl (zsf b room n cap hb hn d1 R1 _ _ a1 e1 rfl rfl (by omega) (by omega)) ?_
     rintro _ _ ⟨rfl,R2⟩
     refine r16_ ?_
     refine ⟨(e1-1-(p0-a1),.increasing,reverseRange d1 a1 e1),?_,?_,?_⟩
     all_goals (try dsimp only)
     ·exact ⟨by omega,by omega,R2,by rw [if_pos rfl] at hq;exact hq⟩
     ·exact ⟨sb_,sb_,sb_,sb_,sb_,sb_,sb_,sb_,sb_,trivial⟩
     ·exact Mem.Less.refl _
    ·have hni:=zse hde
     refine cF_ ?_
     refine s1_ ?_
     refine ⟨(p0,ht,d1),?_,?_,?_⟩
     all_goals (try dsimp only)
     ·exact ⟨g1,g2,R1,by rw [if_neg hde] at hq;exact hq⟩
     ·exact ⟨sb_,sb_,sb_,sb_,sb_,sb_,sb_,sb_,sb_,trivial⟩
     ·exact Mem.Less.refl _
   rintro ⟨pv,hi,d2⟩ ⟨g1,g2,R2,hq⟩
   intro _ _ hs_ hl_
   (try dsimp only at *)
   refine za1 ?_
   refine AWP.sub _ hs_ (AWP.less _ hl_ ?_)
   clear hs_ hl_
   have z2:=R2.size
   have hh1:=ztK hi
   refine r2_ ?_
   refine AWP.join (X:=Bool) (fun x=>[(0,.slice (some ⟨b,0,none⟩) n cap),(1,.int .i64 a1),(2,.int .i64 e1),(3,.int .i64 l2),(8,.bool w1),(9,.bool w2),(10,.int .i64 ((e1-a1:Nat):Int)),(11,.int .i64 pv),(68,.bool x)]) (fun x=>S.set b ⟨24,(d2).toList.map encU,room⟩) (fun x=>x=(w1 && w2 && decide (hi = .increasing))) ?_ ?_
   ·cases w1
    ·refine r10_ ?_
     refine ⟨false,?_,?_,?_⟩
     all_goals (try dsimp only)
     ·rfl
     ·exact ⟨sb_,sb_,sb_,sb_,sb_,sb_,sb_,sb_,sb_,trivial⟩
     ·exact Mem.Less.refl _
    ·cases w2
     ·refine r10_ ?_
      refine ⟨false,?_,?_,?_⟩
      all_goals (try dsimp only)
      ·rfl
      ·exact ⟨sb_,sb_,sb_,sb_,sb_,sb_,sb_,sb_,sb_,trivial⟩
      ·exact Mem.Less.refl _
     ·refine r7_ ?_
      first|refine k_q 65 ?_|refine rG 65 (Calm.bin rfl rfl (zag (zaY _ _) hh1)) ?_
      refine r2_ ?_
      refine ⟨(decide (hi = .increasing)),?_,?_,?_⟩
      all_goals (try dsimp only)
      ·simp
      ·exact ⟨sb_,sb_,sb_,sb_,sb_,sb_,sb_,sb_,sb_,trivial⟩
      ·exact Mem.Less.refl _
   rintro x hx
   intro _ _ hs_ hl_
   (try dsimp only at *)
   refine za1 ?_
   refine AWP.sub _ hs_ (AWP.less _ hl_ ?_)
   clear hs_ hl_
   rw [pdq2,← hx] at hq
   refine AWP.join (X:=Array Nat) (fun x=>[(0,.slice (some ⟨b,0,none⟩) n cap),(1,.int .i64 a1),(2,.int .i64 e1),(3,.int .i64 l2),(8,.bool w1),(9,.bool w2),(10,.int .i64 ((e1-a1:Nat):Int)),(11,.int .i64 pv)]) (fun x=>S.set b ⟨24,(x).toList.map encU,room⟩) (fun x=>Rw (fun _=>True) n x∧pdq3 ltN x a1 e1 l2 w1 w2 pv=pdq ltN d a e limit true true) ?_ ?_
   ·cases x
    ·refine cF_ ?_
     refine s1_ ?_
     refine ⟨d2,?_,?_,?_⟩
     all_goals (try dsimp only)
     ·exact ⟨R2,hq⟩
     ·exact ⟨sb_,sb_,sb_,sb_,sb_,sb_,sb_,sb_,trivial⟩
     ·exact Mem.Less.refl _
    ·refine cT_ ?_
     obtain ⟨⟨d3,pb⟩,hp3⟩ : ∃ q,q=partialInsertionSort ltN d2 a1 e1:=⟨_,rfl⟩
     rw [if_pos rfl,← hp3] at hq
     dsimp only at hq
     refine r5_ ?_
     refine ca_ rfl ((hp3 ▸ zpU b room n cap hb hn d2 R2 _ _ a1 e1 rfl rfl (by omega) (by omega))) ?_
     rintro _ _ ⟨rfl,rfl,R3⟩
     refine r2_ ?_
     refine zdG 0 1 2 3 8 9 10 11 68 72 ?_
     cases pb
     ·refine cF_ ?_
      refine s1_ ?_
      refine ⟨d3,?_,?_,?_⟩
      all_goals (try dsimp only)
      ·exact ⟨R3,hq⟩
      ·exact ⟨sb_,sb_,sb_,sb_,sb_,sb_,sb_,sb_,trivial⟩
      ·exact Mem.Less.refl _
     ·refine cT_ ?_
      refine r6_ ?_
      refine ⟨_,_,rfl,Mem.Less.refl _,?_⟩
      rw [← hq];exact ⟨rfl,R3⟩
   rintro d3 ⟨R3,hq⟩
   intro _ _ hs_ hl_
   (try dsimp only at *)
   refine za1 ?_
   refine AWP.sub _ hs_ (AWP.less _ hl_ ?_)
   clear hs_ hl_
   clear hx
   have z3:=R3.size
   refine r2_ ?_
   refine AWP.join (X:=Bool) (fun x=>[(0,.slice (some ⟨b,0,none⟩) n cap),(1,.int .i64 a1),(2,.int .i64 e1),(3,.int .i64 l2),(8,.bool w1),(9,.bool w2),(10,.int .i64 ((e1-a1:Nat):Int)),(11,.int .i64 pv),(87,.bool x)]) (fun x=>S.set b ⟨24,(d3).toList.map encU,room⟩) (fun x=>x=(decide (a1 > 0) && !ltN d3[a1-1]! d3[pv]!)) ?_ ?_
   ·by_cases h0:0<a1
    ·refine AWP.draw [(0,true),(1,true),(2,true),(3,true),(4,true),(5,true),(6,true),(7,true),(8,true),(9,true),(10,true),(11,true),(12,false),(13,true),(14,true)] [] mixed (by kernel_rfl) ?_
     refine r7_ ?_
     first|refine k_d ?_|refine dL (hc:=Calm.load zaf rfl (zak (k:=a1-1) own_ rw_ rw_)) (h:=?_)
     refine r3_ ?_
     first|refine k_d ?_|refine dL (hc:=Calm.load zaf rfl (zak (k:=pv) own_ rw_ rw_)) (h:=?_)
     refine zac rfl ?_
     refine ARun.callG 2 true 75 rfl (zab rfl) rfl (zab rfl) zcS rfl (zaX _ _ _) ?_
     rintro _ _ ⟨rfl,rfl⟩
     refine zae ⟨fun _=>zad,?_⟩
     refine r3_ ?_
     refine ⟨(!ltN d3[a1-1]! d3[pv]!),?_,?_,?_⟩
     all_goals (try dsimp only)
     ·rw [decide_eq_true h0];rfl
     ·exact ⟨sb_,sb_,sb_,sb_,sb_,sb_,sb_,sb_,sb_,trivial⟩
     ·exact Mem.Less.refl _
    ·refine AWP.draw [(0,true),(1,true),(2,true),(3,true),(4,true),(5,true),(6,true),(7,true),(8,true),(9,true),(10,true),(11,true),(12,false),(13,true),(14,true)] [] mixed (by kernel_rfl) ?_
     refine r7_ ?_
     first|refine k_d ?_|refine dL (hc:=Calm.load zaf rfl (zak (k:=a1-1) own_ rw_ rw_)) (h:=?_)
     refine r3_ ?_
     first|refine k_d ?_|refine dL (hc:=Calm.load zaf rfl (zak (k:=pv) own_ rw_ rw_)) (h:=?_)
     refine zac rfl ?_
     refine s1_ ?_
     refine zae ⟨fun _=>zad,?_⟩
     refine r3_ ?_
     refine ⟨false,?_,?_,?_⟩
     all_goals (try dsimp only)
     ·rw [decide_eq_false h0];rfl
     ·exact ⟨sb_,sb_,sb_,sb_,sb_,sb_,sb_,sb_,sb_,trivial⟩
     ·exact Mem.Less.refl _
   rintro x hx
   intro _ _ hs_ hl_
   (try dsimp only at *)
   refine za1 ?_
   refine AWP.sub _ hs_ (AWP.less _ hl_ ?_)
   clear hs_ hl_
   rw [pdq3,← hx] at hq
   cases x
   ·refine cF_ ?_
    obtain ⟨⟨md,ap,d4⟩,hp4⟩ : ∃ q,q=partition ltN d3 a1 e1 pv:=⟨_,rfl⟩
    rw [if_neg Bool.false_ne_true,← hp4] at hq
    dsimp only at hq
    refine r8_ ?_
    refine ca_ rfl ((hp4 ▸ zpS b room n cap hb hn d3 R3 _ _ _ a1 e1 pv rfl rfl rfl (by omega) (by omega) (by omega))) ?_
    rintro _ _ ⟨rfl,rfl,R4,g3,g4⟩
    dsimp only at R4 g3 g4
    rw [if_pos ⟨g3,g4⟩] at hq
    refine r7_ ?_
    by_cases hmd:md-a1<e1-md
    ·rw [if_pos hmd] at hq
     refine r32_ ?_
     refine zgh 0 1 2 3 8 9 10 11 87 14 15 16 17 18 113 ?_
     refine cT_ ?_
     refine r14_ ?_
     refine ca_ rfl (ih (md-a1) (by omega) d4 R4 _ _ _ a1 md l2 rfl rfl rfl (by omega) (by omega) (by omega) rfl) ?_
     rintro _ _ ⟨rfl,R5⟩
     refine r9_ ?_
     refine ⟨(md+1,e1,l2,decide (md-a1 ≥ (e1-a1) / 8),ap,pdq ltN d4 a1 md l2 true true),?_,?_,?_,?_⟩
     all_goals (try dsimp only)
     ·exact ⟨sb_,sb_,sb_,sb_,wbv_ (by omega),sb_,trivial⟩
     ·exact Mem.Less.refl _
     ·exact ⟨by omega,by omega,R5,by omega,by omega,hq⟩
     ·omega
    ·rw [if_neg hmd] at hq
     refine r25_ ?_
     refine zqO 0 1 2 3 8 9 10 11 87 14 15 16 17 18 ?_
     refine r7_ ?_
     refine cF_ ?_
     refine r15_ ?_
     refine ca_ rfl (ih (e1-(md+1)) (by omega) d4 R4 _ _ _ (md+1) e1 l2 om_ rfl rfl (by omega) (by omega) (by omega) rfl) ?_
     rintro _ _ ⟨rfl,R5⟩
     refine r8_ ?_
     refine ⟨(a1,md,l2,decide (e1-md ≥ (e1-a1) / 8),ap,pdq ltN d4 (md+1) e1 l2 true true),?_,?_,?_,?_⟩
     all_goals (try dsimp only)
     ·exact ⟨sb_,sb_,sb_,sb_,wbv_ (by omega),sb_,trivial⟩
     ·exact Mem.Less.refl _
     ·exact ⟨by omega,by omega,R5,by omega,by omega,hq⟩
     ·omega
   ·refine cT_ ?_
    obtain ⟨⟨md,d4⟩,hp4⟩ : ∃ q,q=partitionEqual ltN d3 a1 e1 pv:=⟨_,rfl⟩
    rw [if_pos rfl,← hp4] at hq
    dsimp only at hq
    refine r6_ ?_
    refine ca_ rfl ((hp4 ▸ zkX b room n cap hb hn d3 R3 _ _ _ a1 e1 pv rfl rfl rfl (by omega) (by omega) (by omega))) ?_
    rintro _ _ ⟨rfl,rfl,R4,g3,g4⟩
    dsimp only at R4 g3 g4
    rw [if_pos ⟨g3,g4⟩] at hq
    refine r9_ ?_
    refine zdG 0 1 2 3 8 9 10 11 87 13 ?_
    refine r4_ ?_
    refine ⟨(md,e1,l2,w1,w2,d4),?_,?_,?_,?_⟩
    all_goals (try dsimp only)
    ·exact ⟨sb_,sb_,sb_,sb_,sb_,sb_,trivial⟩
    ·exact Mem.Less.refl _
    ·exact ⟨by omega,by omega,R4,by omega,by omega,hq⟩
    ·omega
set_option maxHeartbeats 1000000 in
theorem zpV {S:Mem} (b room n cap:Nat) (hb:Fresh S b) (hn:n≤1048576) (d:Array Nat) (R:Rw (fun _=>True) n d) :
  ACall Tryz.prog 67 #[.slice (some ⟨b,0,none⟩) n cap] (S.set b ⟨24,(d).toList.map encU,room⟩) fun r S'=>S'=S.set b ⟨24,(pdq ltN d 0 n (bitsLen n) true true).toList.map encU,room⟩∧Rw (fun _=>True) n (pdq ltN d 0 n (bitsLen n) true true):=by
 have hbl:=zdX n hn
 refine k_E1 (rs:=[]) 11 Tryz.func67 rfl rfl rfl ?_
 refine r12_ ?_
 refine ca_ rfl (znu n (by omega) _) ?_
 rintro _ _ ⟨rfl,rfl⟩
 refine ca_ rfl (zsh b room n cap hb hn (n-0) d R _ _ _ 0 n (bitsLen n) rfl rfl rfl (Nat.zero_le _) (Nat.le_refl _) (by omega) rfl) ?_
 rintro _ _ ⟨rfl,R1⟩
 refine s1_ ?_
 refine ⟨_,_,rfl,Mem.Less.refl _,?_⟩
 exact ⟨rfl,R1⟩
theorem zpW (S:Mem):ACall Tryz.prog 173 #[.slice none 0 0,.int .i64 0,.int .i64 0] S fun r S'=>S'=S:=by
 refine k_E3 (rs:=[]) 49 Tryz.func173 rfl rfl rfl ?_
 refine r8_ ?_
 refine AWP.loop (X:=Unit) (fun _=>[(0,.slice none 0 0),(2,.int .i64 0),(6,.int .i64 1)]) (fun _=>S) (fun _=>True) (fun _=>0) (()) ⟨sb_,sb_,sb_,trivial⟩ (Mem.Less.refl _) (trivial) ?_
 rintro _ _
 (try dsimp only at *)
 refine r8_ ?_
 refine cF_ ?_
 refine r4_ ?_
 refine ⟨_,S,rfl,Mem.Less.refl _,?_⟩
 exact rfl
theorem zpX (S:Mem):ACall Tryz.prog 120 #[.slice none 0 0,.int .i64 0,.int .i64 0,.int .i64 0] S fun r S'=>S'=S:=by
 refine k_E4 (rs:=[]) 134 Tryz.func120 rfl rfl rfl ?_
 refine r11_ ?_
 refine AWP.loop (X:=Unit) (fun _=>[(0,.slice none 0 0),(1,.int .i64 0),(2,.int .i64 0)]) (fun _=>S) (fun _=>True) (fun _=>0) (()) ⟨rfl,rfl,rfl,trivial⟩ (Mem.Less.refl _) (trivial) ?_
 rintro _ _
 (try dsimp only at *)
 refine r16_ ?_
 refine cT_ ?_
 refine r5_ ?_
 refine ca_ rfl (zpW S) ?_
 rintro _ S1 h1
 rw [h1];clear h1 S1
 refine r7_ ?_
 refine ⟨_,S,rfl,Mem.Less.refl _,?_⟩
 exact rfl
theorem znx (S:Mem):ACall Tryz.prog 67 #[.slice none 0 0] S fun r S'=>S'=S:=by
 refine k_E1 (rs:=[]) 11 Tryz.func67 rfl rfl rfl ?_
 refine r12_ ?_
 refine ca_ rfl (znu 0 (by omega) _) ?_
 rintro _ S1 ⟨rfl,h1⟩
 rw [h1];clear h1 S1
 refine ca_ rfl (zpX S) ?_
 rintro _ S1 h1
 rw [h1];clear h1 S1
 refine s1_ ?_
 refine ⟨_,S,rfl,Mem.Less.refl _,?_⟩
 exact rfl
end
section
open Go.RowKit
open Mv Num Srt
set_option maxRecDepth 4000
namespace Oe
def cntL (D:List Nat) (x:Nat):Nat:=D.countP (fun y=>decide (y<x))
theorem ztL (D:List Nat) (x i:Nat) (hi:i≤D.length) (h1:∀ k (hk:k<D.length),k<i→D[k]<x) (h2:∀ k (hk:k<D.length),i≤k→x≤D[k]):cntL D x=i:=by
 unfold cntL
 rw [← List.take_append_drop i D,List.countP_append]
 have e1:(D.take i).countP (fun y=>decide (y<x))=(D.take i).length:=List.countP_eq_length.2 fun y hy=>by
  obtain ⟨k,hk,rfl⟩:=List.getElem_of_mem hy
  rw [List.length_take] at hk
  rw [List.getElem_take]
  exact decide_eq_true (h1 k (by omega) (by omega))
 have e2:(D.drop i).countP (fun y=>decide (y<x))=0:=List.countP_eq_zero.2 fun y hy=>by
  obtain ⟨k,hk,rfl⟩:=List.getElem_of_mem hy
  rw [List.length_drop] at hk
  rw [List.getElem_drop]
  have:=h2 (i+k) (by omega) (by omega)
  simp;omega
 rw [e1,e2,List.length_take];omega
theorem zqz (D:List Nat) (x y:Nat) (hx:x ∈ D) (h:x<y):cntL D x<cntL D y:=by
 unfold cntL
 induction D with
 | nil=>cases hx
 | cons d D ih =>
  rw [List.countP_cons,List.countP_cons]
  have hmono:D.countP (fun z=>decide (z<x))≤D.countP (fun z=>decide (z<y)):=List.countP_mono_left fun z _ hz=>by simp at hz ⊢;omega
  rcases List.mem_cons.1 hx with rfl | hx
  ·rw [if_neg (by simp),if_pos (by simp [h])];omega
  ·have:=ih hx
   split <;> split <;> simp_all <;> omega
theorem ztM (D:List Nat) (x:Nat):cntL D x≤D.length:=List.countP_le_length
theorem ztN {l D:List Nat} (hD:∀ x ∈ l,x ∈ D) (hl:D.length≤4096):RkO l (l.map (cntL D)):=by
 refine ⟨by simp,fun x hx=>?_,fun a b ha hb=>?_⟩
 ·obtain ⟨y,_,rfl⟩:=List.mem_map.1 hx
  have:=ztM D y
  omega
 ·rw [zaJ _ a 0 (by simpa using ha),zaJ _ b 0 (by simpa using hb),zaJ l a 0 ha,zaJ l b 0 hb,List.getElem_map,List.getElem_map]
  constructor
  ·intro h
   rcases Nat.lt_trichotomy l[a] l[b] with q | q | q
   ·exact q
   ·rw [q] at h;omega
   ·have:=zqz D l[b] l[a] (hD _ (List.getElem_mem hb)) q;omega
  ·exact zqz D _ _ (hD _ (List.getElem_mem ha))
theorem ztO {l:List Nat} (h:l.Nodup):Unl l:=fun a b ha hb e=>by
 rw [zaJ l a 0 ha,zaJ l b 0 hb] at e
 rcases Nat.lt_trichotomy a b with q | q | q
 ·exact absurd e (List.pairwise_iff_getElem.1 h a b ha hb q)
 ·exact q
 ·exact absurd e.symm (List.pairwise_iff_getElem.1 h b a hb ha q)
theorem zkY (l:List Nat) (n:Nat) (hl:l.length=n) (d':Array Nat) (hd:d'=Go.Sort.pdq ltN l.toArray 0 n (Go.Sort.bitsLen n) true true) :
  d'.toList.Perm l∧d'.toList.Pairwise (· ≤ ·):=by
 have hO:Go.Sort.SWO ltN:=by
  unfold ltN
  exact ⟨fun a=>by simp,fun a b c h1 h2=>by simp at *;omega,fun a b c h1 h2=>by simp at *;omega⟩
 subst hl
 obtain ⟨p1,p2⟩:=Go.Sort.pdq_sorts _ hO l.toArray 0 l.length (Go.Sort.bitsLen l.length) true true (Nat.zero_le _) (by simp) (Or.inl rfl)
 rw [← hd] at p1 p2
 have hs:d'.size=l.length:=by rw [p1.1];simp
 refine ⟨?_,List.pairwise_iff_getElem.2 fun i j hi hj hij=>?_⟩
 ·have:=p1.2.2
  rw [show d'.extract 0 l.length=d' by rw [← hs];simp,show l.toArray.extract 0 l.length=l.toArray by simp] at this
  simpa using this
 ·have hj':j<l.length:=by simpa [hs] using hj
  have:=p2 i j (Nat.zero_le _) hij hj'
  unfold ltN at this
  rw [getElem!_pos d' j (by omega),getElem!_pos d' i (by omega)] at this
  simp at this
  simpa using this
set_option maxHeartbeats 2000000 in
theorem zkZ (v:Value) (x:Nat) (D:List Nat) (S:Mem) (hv:Sl 1 (fun y=>[encU y]) S v D) (hs:D.Pairwise (· < ·)) (hx:x ∈ D) (hl:D.length≤1048576) :
  ACall Tryz.prog 69 #[v,encU x] S fun r S'=>r = .tuple #[.int .i64 (cntL D x:Nat),.bool true]∧S'=S:=by
 obtain ⟨a,cap,rfl,h1,h2,h3⟩:=id hv
 obtain ⟨b,o,rfl,hk⟩:=h3.resolve_left (fun e=>by rw [e] at hx;cases hx)
 refine k_E2 (rs:=[.tmp 4,.tmp 5]) 54 Tryz.func69 rfl rfl rfl ?_
 refine r22_ ?_
 refine AWP.loop (X:=Nat × Nat) (fun y=>[(0,.slice (some ⟨b,o,none⟩) D.length cap),(1,encU x),(6,.int .i64 D.length),(7,.int .i64 y.1),(8,.int .i64 y.2)]) (fun y=>S) (fun y=>y.1≤y.2∧y.2≤D.length∧(∀ k (hk:k<D.length),k<y.1→D[k]<x) ∧ ∀ k (hk:k<D.length),y.2≤k→x≤D[k]) (fun y=>y.2-y.1) ((0,D.length)) ⟨rfl,rfl,rfl,rfl,rfl,trivial⟩ (Mem.Less.refl _) (⟨Nat.zero_le _,Nat.le_refl _,fun k _ h=>absurd h (Nat.not_lt_zero _),fun k hk h=>absurd hk (Nat.not_lt.2 h)⟩) ?_
 rintro ⟨i,j⟩ ⟨q1,q2,q3,q4⟩
 (try dsimp only at *)
 by_cases hij:i<j
 ·refine r8_ ?_
  refine cT_ ?_
  obtain ⟨m,hm⟩ : ∃ m,m=(i+j) / 2:=⟨_,rfl⟩
  have hml:m<D.length:=by omega
  have hkm:S.Knows ⟨b,o+m*1,none⟩ [encU D[m]]:=hk m hml
  have e2:((i:Int)+j) / 2 ^ Int.toNat 1=(m:Int):=by rw [hm];show ((i:Int)+j) / 2=_;omega
  have e3:IntKind.i64.wrap (((i:Int)+j) / 2 ^ Int.toNat 1)=(m:Int):=by rw [e2];exact IntWalk.i64_in _ (by omega)
  refine r14_ ?_
  refine AWP.sub [(0,.slice (some ⟨b,o,none⟩) D.length cap),(1,encU x),(6,.int .i64 D.length),(7,.int .i64 i),(8,.int .i64 j),(9,.int .i64 m),(15,.bool true)] ⟨rfl,rfl,rfl,rfl,rfl,by first | exact congrArg (fun q=>some (Value.int .i64 q)) e2 | exact congrArg (fun q=>some (Value.int .i64 q)) e3,rfl,trivial⟩ ?_
  refine r7_ ?_
  refine ca_ rfl (zaX D[m] x _) ?_
  rintro _ S1 ⟨rfl,e1⟩
  rw [e1];clear e1 S1
  refine r2_ ?_
  refine k_v8 0 1 6 7 8 15 9 27 ?_
  refine AWP.condB rfl (fun hlt=>?_) (fun hlt=>?_)
  ·refine r7_ ?_
   refine ⟨(m+1,j),?_,?_,?_,?_⟩
   all_goals (try dsimp only)
   ·exact ⟨sq_,sq_,sq_,sq_,sq_,trivial⟩
   ·exact Mem.Less.refl _
   ·exact ⟨by omega,q2,fun k hk h=>by have hd:D[m]<x:=of_decide_eq_true hlt;rcases Nat.lt_or_ge k m with h' | h';(have:=List.pairwise_iff_getElem.1 hs k m hk hml h';omega);(obtain rfl:k=m:=(by omega);exact hd),q4⟩
   ·omega
  ·refine r6_ ?_
   refine ⟨(i,m),?_,?_,?_,?_⟩
   all_goals (try dsimp only)
   ·exact ⟨sq_,sq_,sq_,sq_,sq_,trivial⟩
   ·exact Mem.Less.refl _
   ·exact ⟨by omega,by omega,q3,fun k hk h=>by have hd : ¬ D[m]<x:=of_decide_eq_false hlt;rcases Nat.lt_or_ge m k with h' | h';(have:=List.pairwise_iff_getElem.1 hs m k hml hk h';omega);(obtain rfl:k=m:=(by omega);omega)⟩
   ·omega
 ·obtain rfl:i=j:=by omega
  refine r8_ ?_
  refine cF_ ?_
  have hci:=ztL D x i q2 q3 q4
  obtain ⟨k,hk',hkx⟩:=List.getElem_of_mem hx
  have hin:i<D.length:=by rcases Nat.lt_or_ge i D.length with h | h;(exact h);(have:=q3 k hk' (by omega);omega)
  have hDi:D[i]=x:=by rcases Nat.lt_trichotomy i k with h | h | h;(have:=List.pairwise_iff_getElem.1 hs i k hin hk' h;have:=q4 i hin (Nat.le_refl _);omega);(subst h;exact hkx);(have:=q3 k hk' h;omega)
  have hki:S.Knows ⟨b,o+i*1,none⟩ [encU x]:=by rw [← hDi];exact hk i hin
  rw [hci]
  unfold encU at *
  refine r35_ ?_
  refine ⟨_,S,⟨_,_,rfl,⟨_,_,rfl,rfl,rfl⟩,rfl⟩,zad,?_⟩
  exact ⟨rfl,rfl⟩
theorem zjZ (S:Mem) (o:Option (Nat × Nat)) (e:TypeId) (cs:List Value):outN 1 S o e cs=outM S o e cs:=by
 cases o with
 | none=>rfl
 | some q=>show S.set q.1 ⟨e,cs,q.2*1⟩=S.set q.1 ⟨e,cs,q.2⟩;rw [Nat.mul_one]
theorem zpY {α : Type} (g : α→Value) (L:List α):L.flatMap (fun x=>[g x])=L.map g:=by
 induction L with
 | nil=>rfl
 | cons x l ih=>rw [List.flatMap_cons,List.map_cons,ih];rfl
theorem zul {S:Mem} {o:Option (Nat × Nat)} {k:Nat} {e:TypeId} {cs:List Value} (h:OkO S o k) (hn:cs.length=k):AppN 1 (outM S o e cs) S o e cs:=by
 rw [← zjZ];exact zbK h (by rw [hn,Nat.mul_one])
theorem zny {α : Type} {g : α→Value} (hg:∀ x,(g x).oneCell'=true) (L:List α):∀ v ∈ L.map g,v.oneCell'=true:=fun v hv=>by obtain ⟨x,_,rfl⟩:=List.mem_map.1 hv;exact hg x
theorem ztP {α : Type} {g : α→Value} {S:Mem} {v:Value} {L:List α} (h:Sl 1 (fun x=>[g x]) S v L):Src S v L.length (L.map g):=by
 have:=Sl.src (n:=1) (fun _=>rfl) h
 rw [zpY] at this;exact this
set_option maxHeartbeats 1000000 in
theorem znz (v:Value) (l:List Nat) (S:Mem) (hv:Sl 1 (fun y=>[encU y]) S v l) (hl:l.length≤4096) :
  ACall Tryz.prog 66 #[v] S fun r S'=>∃ o,OkO S o l.length∧r=outV o l.length∧S'=outM S o 24 (l.map encU):=by
 obtain ⟨a,cap,rfl,h1,h2,h3⟩:=id hv
 cases a with
 | none =>
  obtain rfl:l = []:=h3.resolve_right (fun ⟨b,o,e,_⟩=>by cases e)
  refine k_E1 (rs:=[.tmp 2]) 8 Tryz.func66 rfl rfl rfl ?_
  refine r12_ ?_
  refine cT_ ?_
  refine r7_ ?_
  refine ⟨_,S,⟨_,_,rfl,rfl,rfl⟩,zad,?_⟩
  exact ⟨none,zbR _,rfl,rfl⟩
 | some ad =>
  have hsrc:=ztP hv
  refine k_E1 (rs:=[.tmp 2]) 8 Tryz.func66 rfl rfl rfl ?_
  refine r12_ ?_
  refine cF_ ?_
  refine r4_ ?_
  refine ARun.build0 (zab rfl) zcw ?_
  intro b5 f5
  have g5:=f5
  repeat ((with_reducible replace g5:=zaa g5);obtain ⟨g5,_⟩:=g5)
  refine s1_ ?_
  refine ARun.appendOK (n:=1) (o:=some (b5,0)) (k:=0) (m:=l.length) (cs:=[]) (news:=l.map encU) (zab rfl) zcw rfl rfl rfl (zbS f5 (Nat.zero_le _)) (zul (zbS f5 (Nat.zero_le _)) rfl) rfl (hsrc.less (Mem.less_set _ _ _ f5.1)) (by rw [List.length_map,Nat.mul_one]) (zny (fun _=>rfl) _) (by omega) (by omega) ?_
  intro o1 ho1
  rw [Nat.zero_add] at ho1
  refine r4_ ?_
  refine ⟨_,_,⟨_,_,rfl,rfl,rfl⟩,Mem.Less.refl _,?_⟩
  exact ⟨o1,ho1,by show outV o1 (0+l.length)=_;rw [Nat.zero_add],by rw [zjZ];rfl⟩
theorem zhV (S:Mem):ACall Tryz.prog 68 #[.slice none 0 0] S fun r S'=>r = .slice none 0 0∧S'=S:=by
 refine k_E1 (rs:=[.tmp 2]) 61 Tryz.func68 rfl rfl rfl ?_
 refine r13_ ?_
 refine cT_ ?_
 refine r8_ ?_
 refine ⟨_,S,⟨_,_,rfl,rfl,rfl⟩,zad,?_⟩
 exact ⟨rfl,rfl⟩
set_option maxHeartbeats 1000000 in
theorem zi9 (b room cap:Nat) (L:List Nat) (n:Nat) (hn:L.length=n) (S:Mem) (hb:Fresh S b) (hL:L.Pairwise (· < ·)) (hn2:n≤4096) (hc:n≤cap) :
  ACall Tryz.prog 68 #[.slice (some ⟨b,0,none⟩) n cap] (S.set b ⟨24,L.map encU,room⟩) fun r S'=>r = .slice (some ⟨b,0,none⟩) n cap∧S'=S.set b ⟨24,L.map encU,room⟩:=by
 have hob:∀ (c:List Value),(S.set b ⟨24,c,room⟩).own b=some ⟨24,c,room⟩:=fun c=>Mem.own_set_same _ _ _
 by_cases h2:n<2
 ·skip
  refine k_E1 (rs:=[.tmp 2]) 61 Tryz.func68 rfl rfl rfl ?_
  refine r13_ ?_
  refine cT_ ?_
  refine r8_ ?_
  refine ⟨_,_,⟨_,_,rfl,rfl,rfl⟩,Mem.Less.refl _,?_⟩
  exact ⟨rfl,rfl⟩
 refine k_E1 (rs:=[.tmp 2]) 61 Tryz.func68 rfl rfl rfl ?_
 refine r13_ ?_
 refine cF_ ?_
 refine r9_ ?_
 refine AWP.loop (X:=Nat) (fun k=>[(0,.slice (some ⟨b,0,none⟩) n cap),(3,.int .i64 k)]) (fun k=>S.set b ⟨24,L.map encU,room⟩) (fun k=>1≤k∧k≤n) (fun k=>n-k) (1) ⟨rfl,rfl,trivial⟩ (Mem.Less.refl _) (⟨Nat.le_refl _,by omega⟩) ?_
 rintro k ⟨q1,q2⟩
 (try dsimp only at *)
 by_cases hk:k<n
 ·refine r9_ ?_
  refine cT_ ?_
  obtain ⟨j,rfl⟩ : ∃ j,k=j+1:=⟨k-1,by omega⟩
  have hxy:L[j]'(by omega)<L[j+1]'(by omega):=List.pairwise_iff_getElem.1 hL j (j+1) (by omega) (by omega) (by omega)
  refine r5_ ?_
  refine AWP.draw [(0,true),(1,true),(2,true),(3,true),(4,true),(5,true),(6,true),(7,true),(8,true),(9,true)] [] mixed (by kernel_rfl) ?_
  refine r3_ ?_
  refine dC (hc:=Calm.load zaf rfl (v:=encU (L[j+1]'(by omega))) (zcK (g:=encU) (j+1) (by omega) (hob _) rw_)) (h:=?_)
  refine r4_ ?_
  refine dC (hc:=Calm.load zaf rfl (v:=encU (L[j]'(by omega))) (zcK (g:=encU) j (by omega) (hob _) rw_)) (h:=?_)
  generalize L[j]'(by omega)=y at *
  generalize L[j+1]'(by omega)=x at *
  unfold encU
  refine r3_ ?_
  refine k_v4 0 3 13 25 ?_
  refine cF_ ?_
  refine r9_ ?_
  refine ⟨j+2,?_,?_,?_,?_⟩
  all_goals (try dsimp only)
  ·exact ⟨sq_,sq_,trivial⟩
  ·exact Mem.Less.refl _
  ·exact ⟨by omega,hk⟩
  ·omega
 ·obtain rfl:k=n:=by omega
  refine r9_ ?_
  refine cF_ ?_
  refine r12_ ?_
  refine ⟨_,_,⟨_,_,rfl,rfl,rfl⟩,Mem.Less.refl _,?_⟩
  exact ⟨rfl,rfl⟩
set_option maxHeartbeats 4000000 in
theorem znA (v:Value) (l:List Nat) (S:Mem) (hv:Sl 1 (fun y=>[encU y]) S v l) (hl:l.length≤4096) (hnd:l.Nodup) :
  ACall Tryz.prog 25 #[v] S fun r S'=>∃ rs,RkO l rs∧S.Less S'∧IdxR S' r rs:=by
 obtain ⟨a,cap,rfl,h1,h2,h3⟩:=id hv
 obtain ⟨n,hn⟩ : ∃ n,n=l.length:=⟨_,rfl⟩
 have hcl:=znz _ l S hv hl
 rw [← hn] at hcl hl h1 ⊢
 refine k_E1 (rs:=[.tmp 2]) 34 Tryz.func25 rfl rfl rfl ?_
 refine r8_ ?_
 refine ca_ rfl (hcl) ?_
 rintro _ _ ⟨o,ho,rfl,rfl⟩
 refine r3_ ?_
 cases o
 ·obtain rfl:n=0:=ho.nil rfl
  have hl0:l = []:=List.length_eq_zero_iff.1 hn.symm
  refine r3_ ?_
  refine ca_ rfl (znx _) ?_
  rintro _ S1 e1
  rw [e1];clear e1 S1
  refine r5_ ?_
  refine ca_ rfl (zhV _) ?_
  rintro _ S1 ⟨rfl,e1⟩
  rw [e1];clear e1 S1
  refine r7_ ?_
  refine ARun.makeSlice (zab rfl) zb6 rfl rfl (by omega) (by omega) (by omega) (by omega) ?_
  intro b15 f15
  have g15:=f15
  repeat ((with_reducible replace g15:=zaa g15);obtain ⟨g15,_⟩:=g15)
  refine r12_ ?_
  refine AWP.loop (X:=Unit) (fun x=>[(4,.slice (some ⟨b15,0,none⟩) 0 0),(17,.int .i64 0),(18,.int .i64 0)]) (fun x=>S.set b15 ⟨3,[],0⟩) (fun x=>l = []) (fun x=>0) (()) ⟨rfl,rfl,rfl,trivial⟩ (by rw [za8];exact Mem.Less.refl _) (hl0) ?_
  rintro _ _
  (try dsimp only at *)
  refine r6_ ?_
  refine cF_ ?_
  refine r11_ ?_
  refine k_v5 4 17 18 19 2 ?_
  refine s1_ ?_
  refine ⟨_,_,⟨_,_,rfl,rfl,rfl⟩,Mem.Less.refl _,?_⟩
  exact ⟨[],⟨by rw [hl0],fun x hx=>(by cases hx),fun a b ha=>(by rw [hl0] at ha;exact absurd ha (Nat.not_lt_zero _))⟩,Mem.less_set _ _ _ f15.1,Sl.own1 (g:=gI) (l:=[]) (Mem.own_set_same _ _ _) List.prefix_rfl rfl (Nat.le_refl _) (by decide)⟩
 ·rename_i q
  obtain ⟨b,c⟩:=q
  obtain ⟨fb,hbc⟩:=ho.own b c rfl
  have hR:Rw (fun _=>True) n l.toArray:=⟨by simp [hn],fun _ _=>trivial⟩
  have hsort:=zpV (S:=S) b c n c fb (by omega) l.toArray hR
  obtain ⟨d',hd'⟩ : ∃ d',d'=Go.Sort.pdq ltN l.toArray 0 n (Go.Sort.bitsLen n) true true:=⟨_,rfl⟩
  obtain ⟨hp,hs⟩:=zkY l n hn.symm d' hd'
  rw [← hd'] at hsort
  obtain ⟨L,hL⟩ : ∃ L,L=d'.toList:=⟨_,rfl⟩
  rw [← hL] at hsort hp hs
  have hLn:L.length=n:=by rw [hp.length_eq];exact hn.symm
  clear hd' hR hL
  refine r3_ ?_
  refine ca_ rfl (hsort) ?_
  rintro _ _ ⟨rfl,_⟩
  have hD1:L.Pairwise (· < ·):=(hs.and (hp.nodup_iff.2 hnd)).imp fun {a b} h=>Nat.lt_of_le_of_ne h.1 h.2
  refine r5_ ?_
  refine ca_ rfl (zi9 b c c L n hLn S fb hD1 hl hbc) ?_
  rintro _ _ ⟨rfl,rfl⟩
  have hlD:∀ x ∈ l,x ∈ L:=fun x hx=>hp.mem_iff.2 hx
  obtain ⟨M,hM⟩ : ∃ M,M=S.set b ⟨24,L.map encU,c⟩:=⟨_,rfl⟩
  have hSM:S.Less M:=by rw [hM];exact Mem.less_set _ _ _ fb.1
  have hvD:Sl 1 (fun y=>[encU y]) M (.slice (some ⟨b,0,none⟩) n c) L:=by rw [hM];exact Sl.own1 (g:=encU) (l:=L) (Mem.own_set_same _ _ _) List.prefix_rfl hLn (by omega) (by omega)
  rw [← hM]
  refine r7_ ?_
  refine ARun.makeSlice (zab rfl) zb6 rfl rfl (by omega) (by omega) (by omega) (by omega) ?_
  intro b15 f15
  have g15:=f15
  repeat ((with_reducible replace g15:=zaa g15);obtain ⟨g15,_⟩:=g15)
  refine r3_ ?_
  rw [show madeL [Value.int .i64 0] (((n:Nat):Int).toNat*1)=([] : List Nat).map gI ++ List.replicate (n-0) (gI 0) by rw [za8,Nat.mul_one];rfl,Nat.mul_one,Int.toNat_natCast]
  refine r9_ ?_
  refine AWP.loop (X:=Nat) (fun x=>[(3,.slice (some ⟨b,0,none⟩) n c),(4,.slice (some ⟨b15,0,none⟩) n n),(16,.slice a n cap),(17,.int .i64 n),(18,.int .i64 x)]) (fun x=>M.set b15 ⟨3,((l.take x).map (cntL L)).map gI ++ List.replicate (n-x) (gI 0),n⟩) (fun x=>x≤n) (fun x=>n-x) (0) ⟨rfl,rfl,rfl,rfl,rfl,trivial⟩ (Mem.Less.refl _) (Nat.zero_le _) ?_
  rintro i hi
  (try dsimp only at *)
  by_cases hc:i<n
  ·refine r6_ ?_
   refine cT_ ?_
   have hil:i<l.length:=by omega
   obtain ⟨vb,vo,rfl,hk⟩:=h3.resolve_left (fun e=>by rw [e] at hil;exact absurd hil (Nat.not_lt_zero _))
   have hMM:M.Less (M.set b15 ⟨3,((l.take i).map (cntL L)).map gI ++ List.replicate (n-i) (gI 0),n⟩):=Mem.less_set _ _ _ f15.1
   have hki:Mem.Knows (M.set b15 ⟨3,((l.take i).map (cntL L)).map gI ++ List.replicate (n-i) (gI 0),n⟩) ⟨vb,vo+i*1,none⟩ [encU l[i]]:=(hk i hil).less (hSM.trans hMM)
   have hlr:(((l.take i).map (cntL L)).map gI ++ List.replicate (n-i) (gI 0)).length=n:=by simp;omega
   refine r18_ ?_
   refine ca_ rfl (zkZ _ l[i] L _ (hvD.less hMM) hD1 (hlD _ (List.getElem_mem hil)) (by omega)) ?_
   rintro _ S1 ⟨rfl,e1⟩
   rw [e1];clear e1 S1
   refine r8_ ?_
   refine k_v8 3 4 16 17 18 19 5 6 ?_
   simp only [Nat.zero_add,Nat.mul_one,Int.toNat_natCast]
   have key:(((l.take i).map (cntL L)).map gI ++ List.replicate (n-i) (gI 0)).set i (gI (cntL L l[i]))=((l.take (i+1)).map (cntL L)).map gI ++ List.replicate (n-(i+1)) (gI 0):=by rw [zjU gI ((l.take i).map (cntL L)) 0 n i (cntL L l[i]) (by simp;omega) hc,show (l.take i).map (cntL L) ++ [cntL L l[i]]=(l.take (i+1)).map (cntL L) by rw [List.take_succ_eq_append_getElem hil,List.map_append];rfl]
   refine AWP.less (M.set b15 ⟨3,((l.take (i+1)).map (cntL L)).map gI ++ List.replicate (n-(i+1)) (gI 0),n⟩) (by rw [← key];exact Mem.Less.refl _) ?_
   refine r5_ ?_
   refine ⟨i+1,?_,?_,?_,?_⟩
   all_goals (try dsimp only)
   ·exact ⟨sq_,sq_,sq_,sq_,sq_,trivial⟩
   ·exact Mem.Less.refl _
   ·exact hc
   ·omega
  ·obtain rfl:i=n:=by omega
   refine r6_ ?_
   refine cF_ ?_
   rw [Nat.sub_self,List.replicate_zero,List.append_nil,List.take_of_length_le (by omega)]
   refine r12_ ?_
   refine ⟨_,_,⟨_,_,rfl,rfl,rfl⟩,Mem.Less.refl _,?_⟩
   exact ⟨l.map (cntL L),ztN hlD (by omega),hSM.trans (Mem.less_set _ _ _ f15.1),Sl.own1 (g:=gI) (l:=l.map (cntL L)) (Mem.own_set_same _ _ _) List.prefix_rfl (by rw [List.length_map];exact hn.symm) (Nat.le_refl _) (by omega)⟩
theorem zsi (v:Value) (l:List Nat) (S:Mem) (hv:Sl 1 u64s S v l) (hl:l.length≤4096) (hnd:l.Nodup) :
  ACall Tryz.prog 9 #[v] S fun r S'=>∃ u e,r = .tuple #[u,.int .i64 0]∧SoO l e∧S.Less S'∧IdxR S' u e:=by
 obtain ⟨va,vc,rfl,v1,v2,v3⟩:=id hv
 refine k_E1 (rs:=[.tmp 2,.tmp 3]) 10 Tryz.func9 rfl rfl rfl ?_
 refine r14_ ?_
 refine cF_ ?_
 refine r5_ ?_
 refine ca_ rfl (znA _ l S hv hl hnd) ?_
 rintro u S1 ⟨rs,hrs,hS1,hu⟩
 refine ca_ rfl (zr6 u l rs S1 hu hrs (ztO hnd) hl) ?_
 rintro u2 S2 ⟨e,he,hS2,hu2⟩
 refine r5_ ?_
 refine ⟨_,S2,⟨_,_,rfl,⟨_,_,rfl,rfl,rfl⟩,rfl⟩,Mem.Less.refl _,?_⟩
 exact ⟨u2,e,rfl,he,hS1.trans hS2,hu2⟩
end Oe
end
section
open Go.RowKit
open Mv Disk Num
namespace Top
open Rec Sto Run
structure Kp (l:List Nat):Prop where
  d:l.Nodup
  b:∀ n ∈ l,n<1099511627776
  n:l.length≤60
theorem Kp.snoc {l:List Nat} {n:Nat} (h:Kp l) (h1:n<1099511627776) (h2:l.length<60) (h3:n ∉ l):Kp (l ++ [n]) :=
 ⟨List.nodup_append.2 ⟨h.d,by simp,fun a ha b hb e=>by rw [List.mem_singleton.1 hb] at e;exact h3 (e ▸ ha)⟩,fun m hm=>by
  rcases List.mem_append.1 hm with q | q
  ·exact h.b m q
  ·rw [List.mem_singleton.1 q];exact h1,by rw [List.length_append];simp;omega⟩
def rw1 (l:List Nat) (i:Nat):List Nat:=[l.getD i 0,i]
def rwL (l:List Nat) (k:Nat):List (List Nat):=(List.range k).map (rw1 l)
theorem znB (l:List Nat) (k:Nat):(rwL l k).length=k:=by simp [rwL]
theorem zpZ (l:List Nat) (k:Nat):rwL l (k+1)=rwL l k ++ [rw1 l k]:=by simp [rwL,List.range_succ]
theorem znC {l:List Nat} (h:Kp l):(rwL l l.length).all (rowOK 2)=true:=by
 rw [List.all_eq_true]
 intro x hx
 obtain ⟨i,hi,rfl⟩:=List.mem_map.1 hx
 have hi:=List.mem_range.1 hi
 have h1:=h.b _ (List.getElem_mem hi)
 have h2:=h.n
 unfold rowOK recOK rw1
 simp only [List.getD_eq_getElem?_getD,List.getElem?_eq_getElem hi,Option.getD_some,List.length_cons,List.length_nil,List.all_cons,List.all_nil,Bool.and_true,Bool.and_eq_true,decide_eq_true_eq]
 refine ⟨⟨by decide,?_,?_⟩,trivial⟩
 ·show l[i]<top;exact h1
 ·show i<top;exact Nat.lt_of_lt_of_le (show i<60 by omega) (by decide)
theorem zsj {l e:List Nat} {out:List (List Nat)} (h:Oe.SoO l e) (hp:out.Perm (rwL l l.length)) (hs:SortedR out):out=e.map (rw1 l):=by
 refine List.Perm.eq_of_pairwise (le:=fun a b=>lessB b a=false) (fun a b _ _ h1 h2=>zdu _ _ h2 h1) hs ?_ (hp.trans (h.p.map _).symm)
 rw [List.pairwise_map,List.pairwise_iff_getElem]
 intro i j hi hj hij
 have:=h.o i j hij (by rw [← h.len];exact hj)
 rw [Oe.zaJ e i 0 hi,Oe.zaJ e j 0 hj] at this
 unfold rw1
 rw [lessB,decide_eq_false (by omega),decide_eq_false (by omega)];rfl
theorem znD {n:Nat} (h:n≤60):needN 2 n≤11:=by unfold needN eachN;rw [if_neg (by decide)];omega
theorem zsk {k:List Nat} (h:Kp k):∃ z,writeP (freshD 200) nA ((2:Nat):Int) (rwL k k.length)=(z,0)∧Dw z 0∧z.size=200∧used z.ext=needN 2 (rwL k k.length).length∧(∀ o,o≠nA→Sto.ns z o=0)∧FileR z nA 2 (rwL k k.length).length (bs ((rwL k k.length).flatMap recB)) :=
 zkT (by decide) (by decide) (by decide) (by decide) (by decide) (znC h) (by have:=h.n;rw [znB];omega)
theorem zsl {k:List Nat} (h:Kp k):∀ x ∈ rwL k k.length,∀ n ∈ x,n<18446744073709551616:=fun x hx n hn=>Nat.lt_of_lt_of_le ((zfe (znC h) x hx).2 n hn) (by decide)
theorem zum {o:ByteArray} (h:5≤o.size):o≠nA:=fun e=>by subst e;exact absurd h (by decide)
end Top
end
section
open Go.RowKit
open Mv Disk Num
set_option maxRecDepth 4000
/-! ### A scope through which the run goes without a goto -/
def Mv.AnoGoto (Q:Exit→Env→Mem→Prop):Exit→Env→Mem→Prop
  | .goto _=>fun _ _=>False
  | e=>Q e
section
variable {P:Program} {N:Nat} {Q:Exit→Env→Mem→Prop} {E:Env} {S:Mem}
theorem Mv.AWP.scope {c:Code} (h:AWP P N c (AnoGoto Q) E S):AWP P N (.scope c) Q E S:=fun a w hg hv =>
 wp_scope_straight (wp_mono (h a w hg hv) fun e a1 w1 ⟨E1,S1,k,g,s⟩=>by
  cases e with
  | goto l=>exact k.elim
  | normal=>exact ⟨E1,S1,k,g,s⟩
  | exit id=>exact ⟨E1,S1,k,g,s⟩
  | ret=>exact ⟨E1,S1,k,g,s⟩
  | panic c=>exact ⟨E1,S1,k,g,s⟩
  | outgrown=>exact ⟨E1,S1,k,g,s⟩)
theorem Mv.AWP.label {l:Nat} (h:Q .normal E S):AWP P N (.label l) Q E S:=fun a w hg hv=>wp_label ⟨E,S,h,hg,Step.refl hv⟩
theorem Mv.ano_ret (h:Q .ret E S):AnoGoto Q .ret E S:=h
end
namespace Sto
open Run (nameS sizeN)
theorem zi_ (S:Mem) (t:Nat):(S.del t).Less S:=⟨fun k r hk=>by
 by_cases e:k=t
 ·subst e;simp [Mem.del] at hk
 ·rw [Mem.own_del_other _ e] at hk;exact hk,rfl⟩
theorem zb5 {K S:Mem} {t:Nat} (h:K.Less S) (ht:K.own t=none):K.Less (S.del t):=⟨fun k r hk=>by
 rw [Mem.own_del_other _ (fun e=>by rw [e,ht] at hk;cases hk)];exact h.own hk,h.2⟩
theorem zer {K S:Mem} {t:Nat} (h:K.Less S) (ht:S.own t=none):K.own t=none:=by
 cases e:K.own t with
 | none=>rfl
 | some k=>rw [h.own e] at ht;cases ht
structure OX where
  T:Mem
  q:Nat
  y:Pl
  b:Nat
structure SrtE (a p b c wk:Nat) (u:W5) (s:ByteArray) (w:Nat) (rows:List (List Nat)) (K0 Z T:Mem) (y:Pl) (tm:Value) (out:List (List Nat)):Prop where
  ar:ArS Z a p b c y T
  kb:K0.Less Z
  wk:Z.own wk=some (wkB a u tm)
  ps:Ps y 0
  pm:out.Perm rows
  so:SortedR out
  fi:Rec.FileR y.d s w out.length (bs (out.flatMap recB))
theorem zdY:(nameS nT 0).size=5:=by rw [zdb];rfl
theorem znE {y:Pl} {n:Nat} (hp:Ps y n) (h:∀ o,5≤o.size→ns y.d o=0):∀ e ∈ y.d.ext,e.1.size<5:=fun e he=>by
 have h1:=(zdR hp.d e.1).1 (zbd.2 ⟨e,he,rfl⟩)
 by_cases q:e.1.size<5
 ·exact q
 ·rw [h e.1 (by omega)] at h1;exact absurd h1 (Nat.lt_irrefl 0)
set_option maxHeartbeats 8000000 in
theorem zsm (S0 K0:Mem) (a p b c wk bw bs_:Nat) (u:W5) (fn s:ByteArray) (w m:Nat) (rows:List (List Nat)) (x:Pl) (T:Mem) (eu:TypeId) (ev:Value) (h:ArS S0 a p b c x T) (hwk:WkS S0 a wk u none []) (hbw:S0.own bw=some ⟨63,[self wk],1⟩) (hbs:S0.own bs_=some ⟨9,[.string s],1⟩) (hx:x.fr=blk 0 m) (hd:Dw x.d 0)
  (hF:Rec.FileR x.d fn w rows.length (bs (rows.flatMap recB))) (hH:Has x fn w rows.length (rows.flatMap recB)) (hm1:24≤m) (hm2:m≤256) (h1:1≤w) (h8:w≤8) (hr:RowsOK w rows) (hc:rows.length≤sizeN m w) (hsm:5*w*rows.length+5*w*rows.length+512≤16384) (hnn:5*w*(1+2*rows.length+2)+512≤16384) (hfn:fn.size<5) (hss:s.size<5) (hne:fn≠s) (hsn:nm s) (hs0:ns x.d s=0) (hext:∀ o,5≤o.size→ns x.d o=0) (hroom:(used x.d.ext:Int)+(Rec.needN w rows.length:Nat)+rows.length+4≤x.d.size) (hK:K0.Less S0) (hKw:K0.own wk=none) (hE:K0.Knows ⟨0,0,none⟩ [.iface eu ev]) :
  ACall Tryz.prog 18 #[self wk,.string fn,.func (.func 19) #[] #[.pointer (some ⟨bw,0,none⟩),.pointer (some ⟨bs_,0,none⟩)]] T fun v T'=>v = .nilIface ∧ ∃ Z y tm out,SrtE a p b c wk u s w rows K0 Z T' y tm out:=by
 have hps:Ps x 0:=zm9 hx hd (by omega) (by omega)
 have hdv:rows.length / sizeN m w≤1:=Nat.div_le_of_le_mul (by omega)
 have hN2:=Run.zm2 m w hm2
 have hrl:rows.length≤1638:=by have:=Nat.mul_le_mul_right rows.length (show 5≤5*w by omega);omega
 have hop:=Rec.zhw hF
 have hh:=(Rec.zc_ hop fn).symm.trans (Rec.zfd h8 (by omega) hF)
 have hfr:=zm6 S0 a p b c wk u _ x fn 0 w rows.length T h hwk.own hps hh h1 (by omega)
 refine k_E3 (rs:=[.tmp 6]) 114 Tryz.func18 rfl rfl rfl ?_
 refine r5_ ?_
 refine AWP.scope ?_
 refine r4_ ?_
 refine ca_ rfl (hfr) ?_
 rintro _ T1 ⟨q,y0,rfl,hqn,hA,hyd,hyf⟩
 have hqw:q≠wk:=Ne.symm (hqn.ne hwk.own)
 have hwk1:=hwk.set (rdB a ⟨fn,w,rows.length,0,0,0⟩) hqw (Away.nil q)
 have hl1:=Mem.less_set S0 q (rdB a ⟨fn,w,rows.length,0,0,0⟩) hqn.1
 have hto:=zua _ a p b c wk bw bs_ u _ y0 s w rows.length 0 0 T1 hA hwk1.own (hl1.own hbw) (hl1.own hbs) (hps.same hyf hyd) hsn (by rw [hyd];exact hs0) h8 (by omega) (by rw [hyd];omega) (by rw [hyf,hx,zqv];exact Nat.le_refl _)
 have oq:=zaj hA (Mem.own_set_same S0 q (rdB a ⟨fn,w,rows.length,0,0,0⟩))
 (unfold rdB at oq;dsimp only at oq)
 refine r11_ ?_
 refine rC (Calm.bin rfl rfl Er.neNil) ?_
 refine r2_ ?_
 refine cF_ ?_
 obtain ⟨M1,mq,hM1⟩ : ∃ M1:Mem,M1.own q=_ ∧ ∀ U:Mem,U.own q=T1.own q→U.ro=T1.ro→M1.Less U:=⟨pickM T1 [q],(zcJ (by simp)).trans oq,fun U h1 h4=>zfo (fun k hk=>by rw [List.mem_singleton.1 hk];exact h1) h4⟩
 have hM0:M1.Less T1:=hM1 _ rfl rfl
 refine r3_ ?_
 refine AWP.join (X:=OX) (fun X=>[(0,self wk),(7,self q),(8,.nilIface),(9,.pointer (some ⟨X.b,0,none⟩))]) (fun X=>X.T.set X.b (bxB X.q)) (fun X=>Fresh (S0.set q (rdB a ⟨fn,w,rows.length,0,0,0⟩)) X.q∧WtS ((S0.set q (rdB a ⟨fn,w,rows.length,0,0,0⟩)).set X.q (wtB a ⟨s,w,0,0,0,0⟩)) a p b c X.q ⟨s,w,0,0,0,0⟩ X.y 0 0 [] X.T∧Made y0 X.y s (Rec.needN w rows.length)∧Fresh X.T X.b) ?_ ?_
 ·refine AWP.drawB (M1) [] mixed zad ?_
  refine DG.pure 0 (by kernel_rfl) (by kernel_rfl) rfl rfl rfl rfl (zab rfl) (fun _=>Calm.move rfl) ?_
  refine DG.pure 1 (by kernel_rfl) (by kernel_rfl) rfl rfl rfl rfl (zab rfl) (fun _=>Calm.move rfl) ?_
  refine DG.pure 2 (by kernel_rfl) (by kernel_rfl) rfl rfl rfl rfl (zab rfl) (fun _=>Calm.nilCheck rfl) ?_
  refine DG.pure 3 (by kernel_rfl) (by kernel_rfl) rfl rfl rfl rfl (zab rfl) (fun _=>Calm.fieldAddr zdg rfl) ?_
  refine DG.look 4 (by kernel_rfl) (by kernel_rfl) rfl rfl rfl rfl (zab rfl) zad (ld_ zba rfl) ?_
  refine DG.pure 5 (by kernel_rfl) (by kernel_rfl) rfl rfl rfl rfl (zab rfl) (fun _=>Calm.move rfl) ?_
  refine DG.pure 6 (by kernel_rfl) (by kernel_rfl) rfl rfl rfl rfl (zab rfl) (fun _=>Calm.nilCheck rfl) ?_
  refine DG.pure 7 (by kernel_rfl) (by kernel_rfl) rfl rfl rfl rfl (zab rfl) (fun _=>Calm.fieldAddr zdh rfl) ?_
  refine DG.look 8 (by kernel_rfl) (by kernel_rfl) rfl rfl rfl rfl (zab rfl) zad (ld_ zaf rfl) ?_
  refine DG.two 9 13 (by kernel_rfl) rfl ?_ rfl ?_
  ·refine ARun.callV (zab rfl) zsM rfl rfl (hto) ?_
   rintro _ T2 ⟨qw,y,rfl,hqwn,hW,hMd⟩
   have hM2:M1.Less T2:=hM1 _ (by rw [zaj hW.ar ((Mem.own_set_other _ _ (hqwn.ne (Mem.own_set_same _ _ _))).trans (Mem.own_set_same S0 q _)),oq];rfl) ((zaQ hW.ar).2.symm.trans (zaQ hA).2)
   refine zae ⟨fun _=>zad,?_⟩
   refine DG.pure 10 (by kernel_rfl) (by kernel_rfl) rfl rfl rfl rfl (zab rfl) (fun _=>Calm.move rfl) ?_
   refine DG.pure 11 (by kernel_rfl) (by kernel_rfl) rfl rfl rfl rfl (zab rfl) (fun _=>Calm.extract rfl rfl) ?_
   refine DG.pure 12 (by kernel_rfl) (by kernel_rfl) rfl rfl rfl rfl (zab rfl) (fun _=>Calm.extract rfl rfl) ?_
   refine DG.only 13 (by kernel_rfl) rfl ?_
   refine ARun.alloc (zab rfl) zd_ ?_
   intro b9 f9
   have g9:=f9
   repeat ((with_reducible replace g9:=zaa g9);obtain ⟨g9,_⟩:=g9)
   refine nl_ ?_
   have hm9:M1.own b9=none:=zer hM2 f9.1
   refine zae ⟨fun _=>zad,?_⟩
   refine DG.only 14 (by kernel_rfl) rfl ?_
   refine s1_ ?_
   refine zae ⟨fun _=>zad,?_⟩
   refine DG.pure 15 (by kernel_rfl) (by kernel_rfl) rfl rfl rfl rfl (zab rfl) (fun _=>Calm.assign rfl) ?_
   refine DG.end_ (by kernel_rfl) ?_
   refine ⟨⟨T2,qw,y,b9⟩,?_,?_,?_⟩
   all_goals (try dsimp only)
   ·exact ⟨hqwn,hW,hMd,f9⟩
   ·exact ⟨rfl,rfl,rfl,rfl,trivial⟩
   ·exact Mem.Less.refl _
  ·refine ARun.alloc (zab rfl) zd_ ?_
   intro b9 f9
   have g9:=f9
   repeat ((with_reducible replace g9:=zaa g9);obtain ⟨g9,_⟩:=g9)
   refine nl_ ?_
   have hm9:M1.own b9=none:=zer hM0 f9.1
   refine zae ⟨fun _=>zad,?_⟩
   refine DG.only 9 (by kernel_rfl) rfl ?_
   refine ARun.callV (zab rfl) zsM rfl rfl (hto.frame f9) ?_
   rintro _ S1 ⟨T2,⟨qw,y,rfl,hqwn,hW,hMd⟩,hf9,h1'⟩
   rw [h1'];clear h1' S1
   have hM2:M1.Less T2:=hM1 _ (by rw [zaj hW.ar ((Mem.own_set_other _ _ (hqwn.ne (Mem.own_set_same _ _ _))).trans (Mem.own_set_same S0 q _)),oq];rfl) ((zaQ hW.ar).2.symm.trans (zaQ hA).2)
   refine zae ⟨fun _=>zad,?_⟩
   refine DG.pure 10 (by kernel_rfl) (by kernel_rfl) rfl rfl rfl rfl (zab rfl) (fun _=>Calm.move rfl) ?_
   refine DG.pure 11 (by kernel_rfl) (by kernel_rfl) rfl rfl rfl rfl (zab rfl) (fun _=>Calm.extract rfl rfl) ?_
   refine DG.pure 12 (by kernel_rfl) (by kernel_rfl) rfl rfl rfl rfl (zab rfl) (fun _=>Calm.extract rfl rfl) ?_
   refine DG.only 14 (by kernel_rfl) rfl ?_
   refine s1_ ?_
   refine zae ⟨fun _=>zad,?_⟩
   refine DG.pure 15 (by kernel_rfl) (by kernel_rfl) rfl rfl rfl rfl (zab rfl) (fun _=>Calm.assign rfl) ?_
   refine DG.end_ (by kernel_rfl) ?_
   refine ⟨⟨T2,qw,y,b9⟩,?_,?_,?_⟩
   all_goals (try dsimp only)
   ·exact ⟨hqwn,hW,hMd,hf9⟩
   ·exact ⟨rfl,rfl,rfl,rfl,trivial⟩
   ·exact Mem.Less.refl _
 rintro ⟨T2,qw,y,b9⟩ ⟨hqwn,hW,hMd,hf9⟩
 intro _ _ hs_ hl_
 (try dsimp only at *)
 refine za1 ?_
 refine AWP.sub _ hs_ (AWP.less _ hl_ ?_)
 clear hs_ hl_
 replace hqwn:Fresh (S0.set q (rdB a ⟨fn,w,rows.length,0,0,0⟩)) qw:=hqwn
 replace hW:WtS ((S0.set q (rdB a ⟨fn,w,rows.length,0,0,0⟩)).set qw (wtB a ⟨s,w,0,0,0,0⟩)) a p b c qw ⟨s,w,0,0,0,0⟩ y 0 0 [] T2:=hW
 replace hMd:Made y0 y s (Rec.needN w rows.length):=hMd
 replace hf9:Fresh T2 b9:=hf9
 obtain ⟨k1,k2⟩:=zdU hW.ar hf9 (bxB qw)
 have hqqw:q≠qw:=hqwn.ne (Mem.own_set_same _ _ _)
 have hwk2:=(hwk1.set (wtB a ⟨s,w,0,0,0,0⟩) (Ne.symm (hqwn.ne hwk1.own)) (Away.nil qw)).set (bxB qw) (Ne.symm (k1.ne ((Mem.own_set_other _ _ (hqwn.ne hwk1.own)).trans hwk1.own))) (Away.nil b9)
 have oqw:=(Mem.own_set_other ((S0.set q (rdB a ⟨fn,w,rows.length,0,0,0⟩)).set qw (wtB a ⟨s,w,0,0,0,0⟩)) (bxB qw) (k1.ne (Mem.own_set_same _ _ _))).trans (Mem.own_set_same _ qw _)
 have ob9:=Mem.own_set_same ((S0.set q (rdB a ⟨fn,w,rows.length,0,0,0⟩)).set qw (wtB a ⟨s,w,0,0,0,0⟩)) b9 (bxB qw)
 have oqq:=(Mem.own_set_other ((S0.set q (rdB a ⟨fn,w,rows.length,0,0,0⟩)).set qw (wtB a ⟨s,w,0,0,0,0⟩)) (bxB qw) (k1.ne ((Mem.own_set_other _ _ hqqw).trans (Mem.own_set_same _ q _)))).trans ((Mem.own_set_other _ _ hqqw).trans (Mem.own_set_same S0 q _))
 have hKS:=((hK.trans hl1).trans (Mem.less_set _ qw (wtB a ⟨s,w,0,0,0,0⟩) hqwn.1)).trans (Mem.less_set _ b9 (bxB qw) k1.1)
 have hKq:K0.own q=none:=zer hK hqn.1
 have hKqw:K0.own qw=none:=zer (hK.trans hl1) hqwn.1
 have hKb:K0.own b9=none:=zer ((hK.trans hl1).trans (Mem.less_set _ qw (wtB a ⟨s,w,0,0,0,0⟩) hqwn.1)) k1.1
 generalize T2.set b9 (bxB qw)=T3 at *
 generalize ((S0.set q (rdB a ⟨fn,w,rows.length,0,0,0⟩)).set qw (wtB a ⟨s,w,0,0,0,0⟩)).set b9 (bxB qw)=S3 at *
 have hyb:y.fr=blk 0 m:=hMd.fr.trans (hyf.trans hx)
 have hny:∀ o,5≤o.size→ns y.d o=0:=fun o ho=>by rw [hMd.n,if_neg (fun e=>by rw [e] at hss;omega),hyd];exact hext o ho
 have hpn:∀ j,(nameS (nameS nT 0) j).size=9:=fun j=>by rw [zdb,zdY]
 have hsp:∀ j,s≠nameS (nameS nT 0) j:=fun j e=>by have:=hpn j;rw [← e] at this;omega
 have hHy:Has y fn w rows.length (rows.flatMap recB):=(hH.same hyf hyd).made hMd hne
 have hru:=zpw S3 a p b c wk q u fn (nameS nT 0) w m rows y T3 k2 oqq hwk2 hyb hW.ps.d hHy hm1 hm2 h1 h8 hr (by omega) hsm (by rw [zdY];decide) (by rw [zdY];decide) (fun j e=>by have:=hpn j;rw [← e] at this;omega) (fun j=>hny _ (by rw [hpn];decide)) (by rw [hMd.u,hMd.z,hyd];omega) (S3.del q |>.del wk) ((zi_ _ _).trans (zi_ _ _)) (by simp [Mem.del]) (by simp [Mem.del])
 refine r4_ ?_
 refine rC (Calm.bin rfl rfl Er.neNil) ?_
 refine r2_ ?_
 refine cF_ ?_
 refine r5_ ?_
 refine ca_ rfl (zrY S3 T3 a p b c wk u _ y 0 k2 hwk2.own hW.ps (znE hW.ps hny)) ?_
 rintro _ S1 ⟨rfl,h1'⟩
 rw [h1'];clear h1' S1
 refine r8_ ?_
 refine ca_ rfl (hru) ?_
 rintro _ T4 ⟨Z,y3,o,ts,done,rfl,hR⟩
 have hdl:done.length≤1:=by
  rcases hR.mn with h | h
  ·omega
  ·by_cases q:done.length≤1
   ·exact q
   ·have:=Nat.mul_le_mul_right (sizeN m w) (show 1≤done.length-1 by omega);omega
 have hwkq:qw≠wk:=fun e=>by have:=hwk2.own;rw [← e,oqw] at this;cases this
 have hbwk:b9≠wk:=fun e=>by have:=hwk2.own;rw [← e,ob9] at this;cases this
 have hbq:b9≠q:=fun e=>by rw [← e,ob9] at oqq;cases oqq
 have hbqw:b9≠qw:=fun e=>by rw [← e,ob9] at oqw;cases oqw
 have oqwZ:=hR.kb.own (((Mem.own_del_other _ hwkq).trans (Mem.own_del_other _ (Ne.symm hqqw))).trans oqw)
 have ob9Z:=hR.kb.own (((Mem.own_del_other _ hbwk).trans (Mem.own_del_other _ hbq)).trans ob9)
 have hK0K:K0.Less (S3.del q |>.del wk):=zb5 (zb5 hKS hKq) hKw
 have hK0Z:=hK0K.trans hR.kb
 have usB:=hR.ou s (Ne.symm hne) hsp hW.us
 have wrB:=hR.ov s [] hsp hW.wr
 have nsB:ns y3.d s=Rec.needN w rows.length:=(hR.ot s hsp).trans (by rw [hMd.n,if_pos rfl])
 clear hru hto hfr hop hh hW hMd k2 hA
 refine r7_ ?_
 refine k_v7 0 7 8 9 41 10 11 ?_
 refine r4_ ?_
 refine rC (Calm.bin rfl rfl Er.neNil) ?_
 refine r2_ ?_
 refine cF_ ?_
 refine r15_ ?_
 refine AWP.loop (X:=Nat × Option (Nat × Nat)) (fun x=>[(0,self wk),(9,.pointer (some ⟨b9,0,none⟩)),(10,.string (nameS nT 0)),(12,outV x.2 x.1),(55,.int .i64 (done.length:Nat)),(56,.int .i64 (x.1:Nat))]) (fun x=>outM T4 x.2 9 ((names (nameS nT 0) x.1).map .string)) (fun x=>x.1≤done.length∧OkO T4 x.2 x.1∧(x.1=0→x.2=none)) (fun x=>done.length-x.1) ((0,none)) ⟨rfl,rfl,rfl,rfl,rfl,rfl,trivial⟩ (Mem.Less.refl _) (⟨Nat.zero_le _,zbR _,fun _=>rfl⟩) ?_
 rintro ⟨i,o2⟩ ⟨hi,ho,h0⟩
 (try dsimp only at *)
 replace hi:i≤done.length:=hi
 replace ho:OkO T4 o2 i:=ho
 replace h0:i=0→o2=none:=h0
 by_cases q1:i<done.length
 ·refine r6_ ?_
  refine cT_ ?_
  refine r14_ ?_
  refine ca_ rfl (Run.zgJ (nameS nT 0) i _ (by rw [zdY];decide) (by rw [zdY];decide) (by omega)) ?_
  rintro _ Sx ⟨rfl,h1'⟩
  rw [h1'];clear h1' Sx
  refine r10_ ?_
  refine ARun.build1s (zab rfl) zaN rfl rfl ?_
  intro b67 f67
  have g67:=f67
  repeat ((with_reducible replace g67:=zaa g67);obtain ⟨g67,_⟩:=g67)
  refine ARun.appendO (zab rfl) zaN rfl (by rw [List.length_map,zhU]) (zd4 ho (by rw [List.length_map,zhU]) f67) rfl (news:=[_]) rds_ rfl (by omega) (by simp [Value.oneCell']) (by omega) (by omega) ?_
  intro bn cn hoo
  refine r9_ ?_
  refine ⟨(i+1,some (bn,cn)),?_,?_,?_,?_⟩
  all_goals (try dsimp only)
  ·exact ⟨rfl,rfl,rfl,rfl,rfl,rfl,trivial⟩
  ·show Mem.Less (outM _ _ _ _) _;rw [zkS,List.map_append];exact Mem.Less.refl _
  ·exact ⟨q1,hoo,fun e=>by omega⟩
  ·omega
 ·obtain rfl:i=done.length:=by omega
  by_cases q2:done.length=0
  ·obtain rfl:o2=none:=h0 q2
   obtain ⟨i4,oA4⟩:=zcd hR.ar
   have ow4:=zaj hR.ar hR.wks.own
   have ob4:=zaj hR.ar ob9Z
   (unfold arB at oA4;rw [hR.ln] at oA4;unfold wkB at ow4;unfold bxB at ob4)
   refine AWP.less T4 (Mem.Less.refl _) ?_
   have hse:=ziQ Z a p b c qw ⟨s,w,0,0,0,0⟩ y3 0 (m-8) [] T4 ⟨hR.ar,oqwZ,hR.ps,usB,by show _≤_+if 0<0 then 1 else 0;rw [if_neg (Nat.lt_irrefl 0)];exact hR.nb,rfl,wrB⟩ h1 h8 (show (0:Nat)<18446744073709551616 by decide) (by rw [hR.ln];omega) (by rw [nsB];exact Rec.zbl _ _)
   have hrow:rows = []:=by
    have:=hR.pm
    rw [List.eq_nil_of_length_eq_zero q2] at this
    exact List.nil_perm.1 this
   refine r6_ ?_
   refine cF_ ?_
   refine r15_ ?_
   refine ca_ rfl (zqx m _ hm1 hm2) ?_
   rintro _ S1 ⟨rfl,h1'⟩
   rw [h1'];clear h1' S1
   refine r7_ ?_
   refine k_v8 0 9 10 12 55 56 57 16 ?_
   refine s1_ ?_
   refine AWP.label ?_
   refine r3_ ?_
   refine AWP.loop (X:=Unit) (fun _=>[(0,self wk),(9,.pointer (some ⟨b9,0,none⟩)),(12,outV none done.length)]) (fun _=>T4) (fun _=>0<1) (fun _=>0) (()) ⟨rfl,rfl,rfl,trivial⟩ (Mem.Less.refl _) (Nat.zero_lt_one) ?_
   rintro _ hz
   (try dsimp only at *)
   refine r11_ ?_
   refine cT_ ?_
   refine r3_ ?_
   refine ca_ rfl (hse) ?_
   rintro _ T5 ⟨rfl,y4,hA4,hS4⟩
   refine ca_ rfl (zce _ _) ?_
   rintro _ S1 ⟨rfl,h1'⟩
   rw [h1'];clear h1' S1
   have hfi:=zf7 (wt:=⟨s,w,0,0,0,0⟩) (out:=[]) h1 (fun r hr=>by cases hr) hS4 rfl rfl rfl (by rw [nsB,hrow])
   refine r10_ ?_
   refine ano_ret ?_
   refine ⟨_,T5,⟨_,_,rfl,rfl,rfl⟩,zad,?_⟩
   exact ⟨rfl,_,y4,_,[],hA4,zap hK0Z hKqw,(Mem.own_set_other _ _ (Ne.symm hwkq)).trans hR.wks.own,hS4.ps,by rw [hrow],List.Pairwise.nil,ziR hS4.ps hS4.cl hfi⟩
  ·have hd1:done.length=1:=by omega
   obtain ⟨gn,cn,rfl⟩:=ho.some (by omega)
   obtain ⟨hgf,hgc⟩:=ho.own gn cn rfl
   obtain ⟨j1,hA5⟩:=zdU hR.ar hgf ⟨9,[.string (nameS (nameS nT 0) 0)],cn⟩
   have eN:(names (nameS nT 0) done.length).map Value.string = [.string (nameS (nameS nT 0) 0)]:=by rw [hd1];rfl
   rw [eN,hd1]
   have ow5:=zaj hA5 ((Mem.own_set_other Z _ (j1.ne hR.wks.own)).trans hR.wks.own)
   have ob5:=zaj hA5 ((Mem.own_set_other Z _ (j1.ne ob9Z)).trans ob9Z)
   obtain ⟨i5,oA5⟩:=zcd hA5
   (unfold arB at oA5;rw [hR.ln] at oA5;unfold wkB at ow5;unfold bxB at ob5)
   refine AWP.less (T4.set gn ⟨9,[.string (nameS (nameS nT 0) 0)],cn⟩) (Mem.Less.refl _) ?_
   have oqw5:=(Mem.own_set_other Z ⟨9,[.string (nameS (nameS nT 0) 0)],cn⟩ (j1.ne oqwZ)).trans oqwZ
   have ob95:=(Mem.own_set_other Z ⟨9,[.string (nameS (nameS nT 0) 0)],cn⟩ (j1.ne ob9Z)).trans ob9Z
   have owk5:=(Mem.own_set_other Z ⟨9,[.string (nameS (nameS nT 0) 0)],cn⟩ (j1.ne hR.wks.own)).trans hR.wks.own
   have ogn5:=Mem.own_set_same Z gn ⟨9,[.string (nameS (nameS nT 0) 0)],cn⟩
   have hK05:=hK0Z.trans (Mem.less_set Z gn ⟨9,[.string (nameS (nameS nT 0) 0)],cn⟩ j1.1)
   have hte:ts = [nameS (nameS nT 0) 0]:=by rw [hR.te,hd1];rfl
   obtain ⟨⟨g,cg⟩,rfl⟩ : ∃ r,o=some r:=by
    cases o with
    | none=>have:=hR.wks.gro.nil rfl;rw [hte] at this;cases this
    | some r=>exact ⟨r,rfl⟩
   obtain ⟨og1,og2,_⟩:=hR.wks.gro.own g cg rfl
   rw [hte] at og1 og2
   have og5:=(Mem.own_set_other Z ⟨9,[.string (nameS (nameS nT 0) 0)],cn⟩ (j1.ne og1)).trans og1
   have hgq:g≠qw:=fun e=>by rw [← e,og1] at oqwZ;cases oqwZ
   have hnq:gn≠qw:=Ne.symm (j1.ne oqwZ)
   have hgK:=zer hK0K (hR.ko g cg rfl)
   have hwt:ts.length=1:=by rw [hte];rfl
   rw [hwt] at owk5
   generalize hZ5:Z.set gn ⟨9,[.string (nameS (nameS nT 0) 0)],cn⟩=Z5 at *
   have hsum:sumL done=rows.length:=by unfold sumL;rw [← List.length_flatten];exact hR.pm.length_eq
   have hmi:=zrS Z5 (Z5.del qw) a p b c wk b9 qw u _ y3 w (m-8) _ (.slice (some ⟨gn,0,none⟩) 1 cn) s [nameS (nameS nT 0) 0] done eu ev hA5 owk5 ((Mem.own_del_other _ hbqw).trans ob95) oqw5 (by simp [Mem.del]) hR.ps hR.nb hR.cl (zi_ _ _) (Sl.own1 (g:=Value.string) (r:=⟨9,[.string (nameS (nameS nT 0) 0)],cn⟩) ((Mem.own_del_other _ hnq).trans ogn5) List.prefix_rfl rfl (by omega) (by decide)) (hE.less (zb5 hK05 hKqw)) (by rw [hd1];rfl) (fun j hj hj2=>by obtain rfl:j=0:=(by omega);exact ⟨hR.ud2 0 hj,hR.dn 0 hj⟩) (fun f hf=>⟨(hR.so f hf).1,(hR.so f hf).2.1,by have h1:=(List.sublist_flatten_of_mem hf).length_le;have h2:=hR.pm.length_eq;omega⟩) (fun i j hi hj hij=>by simp only [List.length_singleton] at hi hj;omega) (fun s' hs'=>by rw [List.mem_singleton.1 hs'];exact ⟨by rw [hpn];decide,Ne.symm (hsp 0)⟩) h1 h8 (by omega) (by omega) (by rw [hR.ln];omega) (by rw [hR.ln];exact hm2) usB wrB (by rw [nsB,hsum]) (by rw [hd1,hsum];exact hnn)
   refine r6_ ?_
   refine cF_ ?_
   refine r15_ ?_
   refine ca_ rfl (zqx m _ hm1 hm2) ?_
   rintro _ S1 ⟨rfl,h1'⟩
   rw [h1'];clear h1' S1
   refine r8_ ?_
   refine AWP.label ?_
   refine r3_ ?_
   refine AWP.loop (X:=Unit) (fun _=>[(0,self wk),(9,.pointer (some ⟨b9,0,none⟩)),(12,.slice (some ⟨gn,0,none⟩) 1 cn),(16,.int .i64 ((m-6:Nat):Int))]) (fun _=>T4.set gn ⟨9,[.string (nameS (nameS nT 0) 0)],cn⟩) (fun _=>0<1) (fun _=>0) (()) ⟨rfl,rfl,rfl,rfl,trivial⟩ (Mem.Less.refl _) (Nat.zero_lt_one) ?_
   rintro _ hz
   (try dsimp only at *)
   refine r11_ ?_
   refine cF_ ?_
   refine r9_ ?_
   refine k_v6 0 9 12 16 82 89 ?_
   refine cT_ ?_
   refine r12_ ?_
   refine ca_ rfl (hmi) ?_
   rintro _ T6 ⟨rfl,Z6,y6,out,hA6,hK6,hp6,hpm,hso,hH6,hc6,hn6⟩
   obtain ⟨f6,hu6,hn6⟩:=hn6 0 (by decide)
   have hdr:=zrZ Z6 a p b c wk g cg gn cn cn u y6 (nameS (nameS nT 0) 0) f6 T6 hA6 (hK6.own ((Mem.own_del_other _ (Ne.symm hwkq)).trans owk5)) (hK6.own ((Mem.own_del_other _ hgq).trans og5)) (hK6.own ((Mem.own_del_other _ hnq).trans ogn5)) og2 hp6 hu6 hc6 hn6 (by rw [hpn];decide)
   refine r7_ ?_
   refine rC (Calm.bin rfl rfl Er.neNil) ?_
   refine r2_ ?_
   refine cF_ ?_
   refine r6_ ?_
   refine ca_ rfl (hdr) ?_
   rintro _ T7 ⟨rfl,zs,y7,hA7,hF7⟩
   refine r4_ ?_
   refine ano_ret ?_
   refine ⟨_,T7,⟨_,_,rfl,rfl,rfl⟩,zad,?_⟩
   exact ⟨rfl,_,y7,_,out,hA7,zap (zap ((zb5 hK05 hKqw).trans hK6) hgK) hKw,Mem.own_set_same _ _ _,hF7.ps,hpm.trans hR.pm,hso,ziR hF7.ps hF7.cl (hF7.hs s w _ _ (hsp 0) hH6)⟩
end Sto
end
section
open Go.RowKit
open Mv Disk Num
set_option maxRecDepth 4000
namespace Sto
theorem maxI {P:Program} {N:Nat} {E:Env} {S:Mem} {dst:Option Nat} {ty:TypeId} {pos:String} {aft:Array Edge} {gd:Option (Nat × Bool)} {x y:Operand} {i j:Int} {ats:Array TypeId} (hx:ev E x=some (.int .i64 i)) (hy:ev E y=some (.int .i64 j)):ACalm P N ⟨dst,.call ⟨.builtin .max,#[x,y],ats⟩,ty,pos,aft,gd⟩ E S (.int .i64 (max i j)):=by
 rcases Int.le_total i j with h | h
 ·rw [show max i j=j from Int.max_eq_right h];exact Calm.maxR hx hy h
 ·rw [show max i j=i from Int.max_eq_left h];exact Calm.maxL hx hy h
set_option maxHeartbeats 4000000 in
theorem ztQ (S:Mem) (a p b c wk:Nat) (u:W5) (tm:Value) (x:Pl) (n:Nat) (T:Mem) (h:ArS S a p b c x T) (hw:S.own wk=some (wkB a u tm)) (hp:Ps x n) :
  ACall Tryz.prog 21 #[self wk,.nilIface] T fun r T'=>∃ v c1 c2 c3,r = .tuple #[v,.agg #[.int .u64 c1,.int .u64 c2,.int .i64 c3],.int .i64 0]∧DkR T' v x.d∧T.Less T':=by
 have hq:=zaj h hw
 unfold wkB at hq
 obtain ⟨i,oE,oW,ok,rfl⟩:=h
 have hrd:=ok.rd (zel hp) i
 have hA:=za3 (M:=devM S p x.d oE oW) (a:=a) (p:=p) (b:=b) (c:=c) (x:=x) (k:=i)
 generalize arM (devM S p x.d oE oW) a p b c x i=T at *
 obtain ⟨qe,de,qw,dw,hP,hE,hW⟩:=hrd
 unfold arB at hA
 refine k_E2 (rs:=[.cell 4 29,.cell 5 35,.tmp 6]) 90 Tryz.func21 rfl rfl rfl ?_
 refine r2_ ?_
 refine ARun.alloc (zab rfl) zay ?_
 intro b4 f4
 have g4:=f4
 repeat ((with_reducible replace g4:=zaa g4);obtain ⟨g4,_⟩:=g4)
 have:=g4.ne hq;have:=g4.ne' hq
 have:=g4.ne hA;have:=g4.ne' hA
 have:=g4.ne hP;have:=g4.ne' hP
 refine nl_ ?_
 refine ARun.alloc (zab rfl) zc3 ?_
 intro b5 f5
 have g5:=f5
 repeat ((with_reducible replace g5:=zaa g5);obtain ⟨g5,_⟩:=g5)
 have:=g5.ne hq;have:=g5.ne' hq
 have:=g5.ne hA;have:=g5.ne' hA
 have:=g5.ne hP;have:=g5.ne' hP
 refine nl_ ?_
 refine r11_ ?_
 refine rC (Calm.bin rfl rfl (zdy Tryz.underlying104)) ?_
 refine r3_ ?_
 refine cF_ ?_
 refine r3_ ?_
 refine rC (Calm.bin rfl rfl Er.neNil) ?_
 refine r2_ ?_
 first|refine k_q 24 ?_|refine rG 24 (Calm.mkI (by kernel_rfl) rfl) ?_
 refine r6_ ?_
 refine cF_ ?_
 refine r4_ ?_
 refine AWP.draw [(0,true),(1,true),(2,true),(3,true),(4,true),(5,true),(6,true),(7,true),(8,true),(9,true),(10,true),(11,true),(12,true),(13,true),(14,true),(15,true),(16,true),(17,true),(18,true),(19,true),(20,true),(21,true),(22,true),(23,true),(24,true),(25,true),(26,true),(27,true),(28,true),(29,true),(30,true),(31,true),(32,true),(33,true),(34,true),(35,true),(36,true),(37,true),(38,true),(39,true),(40,false),(41,false)] [41] mixed (by kernel_rfl) ?_
 refine r38_ ?_
 refine dC (hc:=maxI rfl rfl) (h:=?_)
 refine s1_ ?_
 refine zac rfl ?_
 refine ARun.alloc (zab rfl) zc3 ?_
 intro b7 f7
 have g7:=f7
 repeat ((with_reducible replace g7:=zaa g7);obtain ⟨g7,_⟩:=g7)
 have:=g7.ne hq;have:=g7.ne' hq
 have:=g7.ne hA;have:=g7.ne' hA
 have:=g7.ne hP;have:=g7.ne' hP
 refine nl_ ?_
 refine zae ⟨fun _=>zad,?_⟩
 refine zac rfl ?_
 refine s1_ ?_
 refine zae ⟨fun h=>absurd h (by decide),?_⟩
 refine r3_ ?_
 refine AWP.drawS (T.set b7 ⟨35,[.int .u64 (IntKind.u64.wrap (x.reads+0)),.int .u64 (IntKind.u64.wrap (x.writes+0)),.int .i64 (max i 0)],3⟩) zad [(0,true),(1,true),(2,true),(3,true),(4,true),(5,true),(6,true),(7,true),(8,true),(9,true),(10,true),(11,true),(12,false),(13,false),(14,false),(15,true)] [] mixed (by kernel_rfl) ?_
 refine r12_ ?_
 refine zac rfl ?_
 refine ca_ rfl (zm4 _) ?_
 rintro _ S1 ⟨rfl,h1⟩
 rw [h1];clear h1 S1
 refine zae ⟨fun _=>zad,?_⟩
 refine zac rfl ?_
 refine s1_ ?_
 refine zae ⟨fun _=>zad,?_⟩
 refine zac rfl ?_
 refine s1_ ?_
 refine zae ⟨fun _=>zad,?_⟩
 refine r4_ ?_
 refine ⟨_,_,⟨_,_,_,rfl,.inr ⟨zas,[_,_,_,_,_],zao,rds_,rfl⟩,⟨_,_,_,rfl,.inr ⟨zeW,[_,_,_],zd8,rds_,rfl⟩,⟨_,_,rfl,rfl,rfl⟩,rfl⟩,rfl⟩,Mem.Less.refl _,?_⟩
 exact ⟨_,_,_,_,rfl,⟨qe,de,qw,dw,rfl,hE.less zad,hW.less zad⟩,zad⟩
end Sto
end
end Go.Proofs.YtoaoibeobhcgmaaGreatDoor
