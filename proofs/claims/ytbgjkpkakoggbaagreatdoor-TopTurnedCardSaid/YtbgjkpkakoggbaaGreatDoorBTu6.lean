/-
  Texts that belong together: BwE, BwP, OrdMath, SkewMath, SkewMath2, SkewMath3, NmMath, On2, On1, Or1, Or2, Om1, Om2, Om3, Scp, Os1, On0, On3, On4, Lv1.
-/
import Derived.Test.YtbgjkpkakoggbaaGreatDoorBTu5
import Derived.Scope
set_option maxHeartbeats 8000000
set_option maxRecDepth 100000
set_option linter.unusedVariables false
set_option linter.unusedSimpArgs false
set_option linter.unusedSectionVars false
namespace Go.Proofs.YtbgjkpkakoggbaaGreatDoor
open _root_.Go.Proofs.Tryz
section
open Go.RowKit Go.Shelf
open Mv Disk Num
namespace Sto
structure DkF (d:D) (F:List Fl):Prop where
  dw:Dw d 0
  sz:d.size=1500
  n4:∀ s,Sto.ns d s<=40
  fs:∀ f ∈ F,Rec.FileR d f.n f.w f.c (bs f.L)/\f.L.length=Rec.eachN f.w*f.c
  nf:(F.map (·.n)).Nodup
  di:∀ s,0<Sto.ns d s <-> s ∈ F.map (·.n)
theorem zdh (F:List Fl):nms F []=F.map (·.n):=List.append_nil _
theorem DkF.dz {d:D} {F:List Fl} (h:DkF d F):Dz d:=zlc h.dw.r (by rw [h.dw.f];decide)
theorem DkF.op {d:D} {F:List Fl} (h:DkF d F):openD d=(d,0):=zd_ h.dw.r h.dw.u
theorem Op.ne {g:Cx} {B:List (Nat × Blk)} {F:List Fl} {H:List Sh} {n i j:Nat} {T:Mem} {x y:Nat × Blk} (I:Op g B F H n T) (V:B[i]?=some x) (K:B[j]?=some y) (h:i≠j):x.1≠y.1:=λe=>by
 have nd:(B.map (·.1)).Nodup:=by obtain ⟨_,_,_,_,_,I⟩:=I;exact I.bn
 obtain ⟨J,rfl⟩:=List.getElem?_eq_some_iff.1 V;obtain ⟨U,rfl⟩:=List.getElem?_eq_some_iff.1 K;have:=(List.getElem_inj (h₀:=by simpa using J) (h₁:=by simpa using U) nd).1 (by simpa using e);exact h this
section
variable {S T:Mem} {a p b m wk:Nat} {u:W5} {d:D} {F:List Fl} {B:List (Nat × Blk)} {g:Cx}
theorem zrA (h:ArS S a p b m (newP d m) T) (hw:S.own wk=some (wkB a u (.slice none 0 0))) (hd:DkF d F) (U:24<=m) (I:m<=256) (ht:∀ f ∈ F,tld f.n=false) (Z:∀ y ∈ B,S.own y.1=some y.2/\y.1≠wk) (K:(B.map (·.1)).Nodup):Op ⟨a,p,b,m,wk,m,u,S.ro,[],0⟩ B F [] 0 T :=
 ⟨λ_=>(0,0),S,newP d m,none,[],{
  ar:=h,ps:=zrb hd.dw vd I,cl:=λ_ j _=>by rw [zeh];rfl
  ln:=zeH d m,gm:=⟨U,I⟩,lm:=by show 0+8<=m;omega
  sz:=hd.sz,n4:=hd.n4,nb:=by rw [zvQ];exact Nat.zero_le _
  le:=λj _ e=>by rw [zeh] at e;cases e
  uo:=λs _=>ztU d m s
  wo:=⟨hw,Gro.empty _ _⟩,tn:=List.nodup_nil
  ti:=λs=>⟨λh=>(by cases h),λ⟨V,Y⟩=>by
   rw [zdh] at Y;obtain ⟨f,J,rfl⟩:=List.mem_map.1 Y;rw [ht f J] at V;cases V⟩
  ro:=rfl
  hb:=λy X=>⟨(Z y X).1,(Z y X).2,λ_ _ e=>(by cases e),λh hh=>(by cases hh)⟩
  bn:=K,hh:=λh hh=>(by cases hh),qn:=List.nodup_nil,nn:=List.nodup_nil
  fs:=λf J=>by
   have:=ztV (m:=m) hd.dw (hd.fs f J).1 (by rw [za2];exact (hd.fs f J).2);rwa [bs_data] at this
  nf:=by rw [zdh];exact hd.nf
  di:=λs=>by rw [zdh];exact hd.di s }⟩
theorem zo8 (I:Op g B F [] 0 T):ACall prog 20 #[self g.k,.nilIface] T λr T'=>∃ v K U J d,r = .tuple #[v,.agg #[.int .u64 K,.int .u64 U,.int .i64 J],.int .i64 0]/\DkR T' v d/\DkF d F/\T'.ro=g.ro:=by
 obtain ⟨fr,S,x,o,ts,I⟩:=I;refine (zwa S g.a g.p g.b g.c g.k g.u _ x 0 T I.ar I.wo.own I.ps).mono λr T' ⟨v,K,U,J,X,hd,hl⟩=>⟨v,K,U,J,x.d,X,hd,⟨I.ps.d,I.sz,I.n4,λf V=>⟨zgu I.ps (I.cl rfl) (I.fs f V),(I.fs f V).l⟩,?_,λs=>?_⟩,hl.2.symm.trans ((zcH I.ar).2.symm.trans I.ro)⟩
 ·have:=I.nf;rwa [zdh] at this
 have:=I.di s;rwa [zdh] at this
theorem zfO {v:tu} {M:Mem} (U:DkR M v d) (hd:DkF d F) (I:24<=m) (J:m<=256) (ht:∀ f ∈ F,tld f.n=false) (hB:∀ y ∈ B,M.own y.1=some y.2) (K:(B.map (·.1)).Nodup) :
  ACall prog 16 #[v,.int .i64 (m:Nat)] M λr T=>∃ g:Cx,r = .tuple #[self g.k,.nilIface]/\g.ro=M.ro/\(g.ll = []/\g.lc=0)/\Op g B F [] 0 T :=
 (zrf v d m M U hd.dz hd.op I J).mono λr T ⟨S0,wk,a,p,b,u,Z,hl,hf,Y⟩=>⟨⟨a,p,b,m,wk,m,u,(S0.set wk (wkB a u (.slice none 0 0))).ro,[],0⟩,Z,hl.2.symm,⟨rfl,rfl⟩,zrA Y (vf _ _ _) hd I J ht (λy hy=>by
  have V:=hl.own (hB y hy);have X:y.1≠wk:=hf.ne V;exact ⟨(vg _ _ X).trans V,X⟩) K⟩
theorem zjm {K J:Nat} {V U:Blk} {f:tA} {args:Array tu} {R:tu->Mem->Prop} (I:Op g ((K,V) :: (J,U) :: B) F [] 0 T) (h1:offR g K) (h2:offR g J) (h:∀ {M},Op g B F [] 0 M->ACall prog f args M R):ACall prog f args T λr T'=>∃ M,R r M/\Fresh M J/\Fresh (M.set J U) K/\T'=(M.set J U).set K V:=by
 obtain ⟨M1,I1,f1,e1⟩:=I.del h1;obtain ⟨M2,Z,f2,e2⟩:=I1.del h2;subst e2;subst e1;exact (((h Z).frame (r:=U) f2).frame (r:=V) f1).mono λr T' ⟨Sa,⟨T3,hr,X,e3⟩,Y,e4⟩=>⟨T3,hr,X,by rw [<- e3];exact Y,by rw [e4,e3]⟩
end
end Sto
end
section
open Go.RowKit Go.Shelf
open Mv Disk Num
namespace Sto
theorem gd {α : Type} {l:List α} {i:Nat} (h:i<l.length) (d : α):l.getD i d=l[i]:=by rw [List.getD_eq_getElem?_getD,List.getElem?_eq_getElem h];rfl
theorem zbm {S:Mem} {b:Nat} {k:Blk} (h:S.own b=some k):S.Less (S.set b k):=by rw [vB _ _ _ h];exact Mem.Less.refl _
theorem zgy {a b:List (List Nat)} (I:SortedR a) (hb:SortedR b) (h:a.Perm b):a=b :=
 h.eq_of_pairwise (le:=λx y=>lessB y x=false) (λx y _ _ K J=>zaI x y J K) I hb
def upL (L:List UInt8):List Nat:=L.map λb=>b.toNat+1
theorem zh6 (L:List UInt8):(upL L).length=L.length:=List.length_map ..
theorem zo9 (L:List UInt8):∀ z ∈ upL L,1<=z/\z<Num.top:=λz I=>by
 obtain ⟨b,_,rfl⟩:=List.mem_map.1 I;have:=b.toNat_lt;exact ⟨Nat.le_add_left ..,Nat.lt_of_lt_of_le (show b.toNat+1<1000 by omega) (by decide)⟩
def rowsA (n:Nat) (e:List Nat):Nat->List (List Nat)
  | 0=>if n=0 then [] else [[n-1,0]]
  | k+1=>if e.getD k 0=0 then rowsA n e k else rowsA n e k ++ [[e.getD k 0-1,k+1]]
theorem zcU (n:Nat) (e:List Nat) (k:Nat):rowsA n e (k+1)=if e.getD k 0=0 then rowsA n e k else rowsA n e k ++ [[e.getD k 0-1,k+1]]:=rfl
def priA (e:List Nat):Nat->Nat
  | 0=>0
  | k+1=>if e.getD k 0=0 then k+1 else priA e k
theorem zh7 (e:List Nat):∀ k,0<priA e k <-> ∃ i,i<k/\e.getD i 0=0
 | 0=>⟨λh=>absurd h (Nat.lt_irrefl 0),λ⟨i,h,_⟩=>absurd h (Nat.not_lt_zero i)⟩
 | k+1=>by
  unfold priA;by_cases q:e.getD k 0=0
  ·rw [if_pos q];exact ⟨λ_=>⟨k,Nat.lt_succ_self k,q⟩,λ_=>Nat.succ_pos k⟩
  rw [if_neg q,zh7 e k];exact ⟨λ⟨i,h,I⟩=>⟨i,by omega,I⟩,λ⟨i,h,I⟩=>⟨i,by rcases Nat.lt_succ_iff_lt_or_eq.1 h with h | rfl;exact h;exact absurd I q,I⟩⟩
theorem zo_ (e:List Nat):∀ k,priA e k<=k
 | 0=>Nat.le_refl 0
 | k+1=>by unfold priA;have:=zo_ e k;split <;> omega
theorem zhr (n:Nat) (e:List Nat):∀ {j k:Nat},j<=k->(rowsA n e j).length<=(rowsA n e k).length
 | j,0,h=>by rw [Nat.le_zero.1 h];exact Nat.le_refl _
 | j,k+1,h=>by
  rcases Nat.lt_or_eq_of_le h with h | rfl
  ·refine Nat.le_trans (zhr n e (Nat.le_of_lt_succ h)) ?_;rw [zcU];split
   ·exact Nat.le_refl _
   rw [List.length_append];omega
  exact Nat.le_refl _
theorem zjn (n:Nat) (e:List Nat):∀ k,k<=e.length->(rowsA n e k).map (λr=>r.getD 0 0)=(if n=0 then [] else [n-1]) ++ ((e.take k).filter (·≠0)).map (·-1)
 | 0,_=>by unfold rowsA;rw [List.take_zero];split <;> rfl
 | k+1,h=>by
  have I:=zjn n e k vd;have hk:k<e.length:=h;rw [List.take_succ_eq_append_getElem hk,List.filter_append,List.map_append,<- List.append_assoc,<- I,zcU,gd hk];by_cases q:e[k]=0
  ·rw [if_pos q,q];simp
  rw [if_neg q,List.map_append];simp [q]
section
variable {n:Nat} {e:List Nat} {L:List UInt8}
theorem zlK (I:e.Perm (List.range n)):((rowsA n e n).map λr=>r.getD 0 0).Perm (List.range n):=by
 have hl:e.length=n:=by rw [I.length_eq,List.length_range]
 rw [zjn n e n vd,List.take_of_length_le vd];cases n with
 | zero=>rw [List.length_eq_zero_iff.1 hl];exact .refl _
 | succ m =>
  have J:((e.filter (·≠0)).map (·-1)).Perm (List.range m):=by
   refine ((I.filter _).map _).trans ?_;rw [List.range_succ_eq_map,List.filter_cons,if_neg (by simp),List.filter_map,List.map_map];have:(List.range m).filter ((λx=>decide (x≠0)) ∘ Nat.succ)=List.range m:=List.filter_eq_self.2 λa _=>(by simp);rw [this];have:(List.range m).map ((λx=>x-1) ∘ Nat.succ)=List.range m:=by
    rw [show (λx=>x-1) ∘ Nat.succ=id from funext λx=>rfl,List.map_id]
   rw [this]
  rw [if_neg (Nat.succ_ne_zero m),List.range_succ];exact (J.cons m).trans (List.perm_append_comm (l₁:=[m]))
theorem zeM (I:e.Perm (List.range n)):(rowsA n e n).length=n:=by
 have:=(zlK I).length_eq;rwa [List.length_map,List.length_range] at this
theorem zsK (I:e.Perm (List.range n)) {k:Nat} (hk:k<n):e.getD k 0<n:=by
 have hl:e.length=n:=by rw [I.length_eq,List.length_range]
 rw [gd vd];exact List.mem_range.1 (I.mem_iff.1 (List.getElem_mem _))
theorem zui (I:e.Perm (List.range n)) {i j:Nat} (hi:i<n) (J:j<n) (h:e.getD i 0=e.getD j 0):i=j:=by
 have hl:e.length=n:=by rw [I.length_eq,List.length_range]
 rw [gd vd,gd vd] at h;exact (List.getElem_inj (I.nodup_iff.2 List.nodup_range)).1 h
theorem zm0 (J:e.Perm (List.range n)) {k:Nat} (hk:k<n) (h:e.getD k 0≠0):(rowsA n e k).length<n:=by
 have I:=zhr n e (show k+1<=n from hk);rw [zeM J] at I;rw [zcU,if_neg h,List.length_append] at I;exact I
theorem zrB (U:e.Perm (List.range n)) {k:Nat} (hk:k<n) (h:e.getD k 0≠0) (X:priA e k=0):k+1<n:=by
 rcases Nat.lt_or_eq_of_le (show k+1<=n from hk) with h2 | h2
 ·exact h2
 exfalso;have hl:e.length=n:=by rw [U.length_eq,List.length_range]
 have V:0 ∈ e:=U.mem_iff.2 (List.mem_range.2 vd);obtain ⟨i,hi,J⟩:=List.getElem_of_mem V;have I:e.getD i 0=0:=by rw [gd hi];exact J
 have K:i<k:=by
  rcases Nat.lt_or_ge i k with h3 | h3
  ·exact h3
  have:i=k:=by omega
  rw [this] at I;exact absurd I h
 have:=(zh7 e k).2 ⟨i,K,I⟩;omega
theorem zuj (K:e.Perm (List.range n)) {k:Nat} (hk:k<n) (h:e.getD k 0=0):priA e k=0:=by
 refine Nat.eq_zero_of_not_pos λI=>?_;obtain ⟨i,U,J⟩:=(zh7 e k).1 I;have:=zui K vd hk (J.trans h.symm);omega
theorem zfP (U:n<=60) (J:e.Perm (List.range n)):∀ k,k<=n->RowsOK 2 (rowsA n e k)
 | 0,_=>λr hr=>by
  unfold rowsA at hr;split at hr
  ·cases hr
  rw [List.mem_singleton.1 hr];exact ⟨rfl,λz I=>by simp only [List.mem_cons,List.not_mem_nil,or_false] at I;exact Nat.lt_of_lt_of_le (show z<1000 by omega) (by decide)⟩
 | k+1,h=>λr hr=>by
  have K:=zfP U J k vd;have:=zsK J (show k<n by omega);rw [zcU] at hr;split at hr
  ·exact K r hr
  rcases List.mem_append.1 hr with hr | hr
  ·exact K r hr
  rw [List.mem_singleton.1 hr];exact ⟨rfl,λz I=>by simp only [List.mem_cons,List.not_mem_nil,or_false] at I;exact Nat.lt_of_lt_of_le (show z<1000 by omega) (by decide)⟩
theorem zhR {P:List (List Nat)} (I:e.Perm (List.range n)) (J:P.Perm (rowsA n e n)) (hs:SortedR P) {k:Nat} (hk:k<P.length):P[k].getD 0 0=k:=by
 have U:(P.map λr=>r.getD 0 0).Perm (List.range n):=(J.map _).trans (zlK I);have X:(P.map λr=>r.getD 0 0).Pairwise (· <= ·):=by
  rw [List.pairwise_map];refine hs.imp λ{a b} h=>?_;cases a with
  | nil=>exact Nat.zero_le _
  | cons x a =>
   cases b with
   | nil=>simp [lessB] at h
   | cons y b =>
    simp only [lessB,Bool.or_eq_false_iff,decide_eq_false_iff_not] at h;show x<=y;omega
 have K:(P.map λr=>r.getD 0 0)=List.range n:=U.eq_of_pairwise (le:=(· <= ·)) (λa b _ _ h h'=>Nat.le_antisymm h h') X (List.pairwise_lt_range.imp Nat.le_of_lt);have hl:P.length=n:=by rw [J.length_eq,zeM I]
 have V:(P.map λr=>r.getD 0 0)[k]'(by rw [List.length_map];exact hk)=(List.range n)[k]'(by rw [List.length_range];omega):=by simp only [K]
 rwa [List.getElem_map,List.getElem_range] at V
def rowsM (L:List UInt8) (P:List (List Nat)) (k:Nat):List (List Nat):=(List.range k).map λi=>[(P.getD i []).getD 1 0,(L.getD i 0).toNat]
theorem zm1 (L:List UInt8) (P:List (List Nat)) (k:Nat):rowsM L P (k+1)=rowsM L P k ++ [[(P.getD k []).getD 1 0,(L.getD k 0).toNat]]:=by unfold rowsM;rw [List.range_succ,List.map_append];rfl
theorem zct (L:List UInt8) (P:List (List Nat)) (k:Nat):(rowsM L P k).length=k:=by simp [rowsM]
theorem zlL {P:List (List Nat)} (U:RowsOK 2 P):∀ k,k<=P.length->RowsOK 2 (rowsM L P k):=λk hk r J=>by
 obtain ⟨i,hi,rfl⟩:=List.mem_map.1 J;rw [List.mem_range] at hi;refine ⟨rfl,λz I=>?_⟩;obtain ⟨V,K⟩:=U _ (List.getElem_mem (show i<P.length by omega));rw [gd (show i<P.length by omega)] at I;simp only [List.mem_cons,List.not_mem_nil,or_false] at I;rcases I with rfl | rfl
 ·rw [gd (show 1<P[i].length by omega)];exact K _ (List.getElem_mem _)
 have:=(L.getD i 0).toNat_lt;exact Nat.lt_of_lt_of_le (show _<1000 by omega) (by decide)
def byL (M:List (List Nat)):List UInt8:=M.map λr=>UInt8.ofNat (r.getD 1 0)
def TurnR (L:List UInt8) (e:List Nat) (p:Nat) (c:List UInt8):Prop :=
  ∃ P M,P.Perm (rowsA L.length e L.length)/\SortedR P/\M.Perm (rowsM L P L.length)/\SortedR M/\c=byL M/\p=priA e L.length
theorem zrC {p q:Nat} {c d:List UInt8} (h:TurnR L e p c) (h':TurnR L e q d):p=q/\c=d:=by
 obtain ⟨P,M,V,Z,I,X,rfl,rfl⟩:=h;obtain ⟨P',M',K,Y,J,U,rfl,rfl⟩:=h';obtain rfl:=zgy Z Y (V.trans K.symm);obtain rfl:=zgy X U (I.trans J.symm);exact ⟨rfl,rfl⟩
end
end Sto
end
section
open Num Loser
namespace Ord
/-! ### A list's ends -/
def sl (l:List Nat) (a b:Nat):Bool:=lessB (l.drop a) (l.drop b)
theorem zcV (l:List Nat) (a:Nat):sl l a a=false:=zap _
theorem zh8 (l:List Nat) (a b:Nat) (h:sl l a b=true):sl l b a=false:=zge _ _ h
theorem zfQ (l:List Nat) (a b c:Nat) (I:sl l a b=true) (J:sl l b c=true):sl l a c=true:=za4 _ _ _ I J
theorem zfR (l:List Nat) (a b:Nat) (K:a<l.length) (hb:b<l.length) (J:sl l a b=false) (I:sl l b a=false):a=b:=by
 have h:=congrArg List.length (zaI _ _ J I);simp only [List.length_drop] at h;omega
theorem zkC (l:List Nat) (a b:Nat) (I:a<l.length) (hb:b<l.length):sl l a b=(decide (l[a]<l[b]) || (decide (l[a]=l[b]) && sl l (a+1) (b+1))):=by
 unfold sl;rw [List.drop_eq_getElem_cons I,List.drop_eq_getElem_cons hb,lessB]
theorem zlM (l:List Nat) (a b:Nat) (I:l.length<=a):sl l a b=decide (b<l.length):=by
 unfold sl;rw [List.drop_eq_nil_of_le I];by_cases hb:b<l.length
 ·rw [List.drop_eq_getElem_cons hb];simp [lessB,hb]
 rw [List.drop_eq_nil_of_le vd];simp [lessB,hb]
theorem zpa (l:List Nat) (a b:Nat) (hb:l.length<=b):sl l a b=false:=by
 unfold sl;rw [List.drop_eq_nil_of_le hb];cases l.drop a <;> rfl

/-! ### Sorted: there is one -/
theorem zm2 (R:Nat->Nat->Prop) (hi:∀ a,¬R a a) (Z:∀ a b c,R a b->R b c->R a c):∀ (x y:List Nat),x.Perm y->x.Pairwise R->y.Pairwise R->x=y:=by
 intro x
 induction x with
 | nil=>intro y h _ _;exact (List.nil_perm.1 h).symm
 | cons a x V =>
  intro y h X Y;cases y with
  | nil=>exact absurd h.symm (List.not_perm_nil_cons _ _)
  | cons b y =>
   obtain ⟨I,K⟩:=List.pairwise_cons.1 X;obtain ⟨U,J⟩:=List.pairwise_cons.1 Y;have e:a=b:=by
    rcases List.mem_cons.1 (h.mem_iff.1 (List.mem_cons_self (a:=a) (l:=x))) with e | e
    ·exact e
    rcases List.mem_cons.1 (h.mem_iff.2 (List.mem_cons_self (a:=b) (l:=y))) with e' | e'
    ·exact e'.symm
    exact absurd (Z _ _ _ (I b e') (U a e)) (hi a)
   subst e;rw [V y ((List.perm_cons a).1 h) K J]
def SortedE (l e:List Nat):Prop:=e.Perm (List.range l.length)/\e.Pairwise (λa b=>sl l a b=true)
theorem zem {l e I:List Nat} (h:SortedE l e) (h':SortedE l I):e=I :=
 zm2 (λa b=>sl l a b=true) (λa h=>by rw [zcV] at h;cases h) (λa b c=>zfQ l a b c) _ _ (h.1.trans h'.1.symm) h.2 h'.2
theorem SortedE.len {l e:List Nat} (h:SortedE l e):e.length=l.length:=by rw [h.1.length_eq,List.length_range]
theorem SortedE.lt {l e:List Nat} (h:SortedE l e) {a:Nat} (I:a ∈ e):a<l.length:=List.mem_range.1 (h.1.mem_iff.1 I)

/-! ### The document's: each end is put where it belongs -/
def insAt (l out:List Nat) (i:Nat):Nat->Nat
  | 0=>0
  | at'+1=>if sl l i (out.getD at' 0) then insAt l out i at' else at'+1
def insE (l out:List Nat) (i:Nat):List Nat:=out.take (insAt l out i out.length) ++ i :: out.drop (insAt l out i out.length)
def endsR (l:List Nat):Nat->List Nat
  | 0=>[]
  | i+1=>insE l (endsR l i) i
theorem zlN (l out:List Nat) (i:Nat):∀ n,insAt l out i n<=n
 | 0=>Nat.le_refl _
 | n+1=>by
  rw [insAt];split
  ·exact Nat.le_succ_of_le (zlN l out i n)
  exact Nat.le_refl _
theorem zlO (l out:List Nat) (i:Nat):∀ n k,insAt l out i n<=k->k<n->sl l i (out.getD k 0)=true
 | 0,k,_,h=>absurd h (Nat.not_lt_zero _)
 | n+1,k,h1,h2=>by
  rw [insAt] at h1;split at h1
  ·rename_i hs;rcases Nat.lt_or_ge k n with h | h
   ·exact zlO l out i n k h1 h
   obtain rfl:k=n:=(by omega);exact hs
  omega
theorem zlP (l out:List Nat) (i:Nat):∀ n,0<insAt l out i n->sl l i (out.getD (insAt l out i n-1) 0)=false
 | 0,h=>absurd h (Nat.not_lt_zero _)
 | n+1,h=>by
  rw [insAt] at h ⊢;split at h
  ·rename_i hs;rw [if_pos hs];exact zlP l out i n h
  rename_i hs;rw [if_neg hs];simpa using hs
theorem zfi (l:List Nat):∀ i,(endsR l i).Perm (List.range i)
 | 0=>List.Perm.refl _
 | i+1=>by
  rw [endsR,insE,List.range_succ];refine List.perm_middle.trans ?_;rw [List.take_append_drop];exact ((zfi l i).cons i).trans (List.perm_append_singleton i _).symm
theorem zfv (l:List Nat):∀ i,i<=l.length->(endsR l i).Pairwise (λa b=>sl l a b=true)
 | 0,_=>List.Pairwise.nil
 | i+1,hi=>by
  have ih:=zfv l i vd;have hp:=zfi l i;have K:∀ a ∈ endsR l i,a<i:=λa J=>List.mem_range.1 (hp.mem_iff.1 J);rw [endsR,insE];generalize endsR l i=out at *;have af:=zlN l out i out.length;have Y:=zlO l out i out.length;have Z:=zlP l out i out.length;generalize insAt l out i out.length=k at *;have e:=List.take_append_drop k out;have aa:(out.take k ++ out.drop k).Pairwise (λa b=>sl l a b=true):=by rw [e];exact ih
  obtain ⟨p1,p2,p3⟩:=List.pairwise_append.1 aa;have V:∀ a ∈ out.take k,sl l a i=true:=by
   intro a J;have hm:a ∈ out:=List.mem_of_mem_take J;obtain ⟨j,X,rfl⟩:=List.getElem_of_mem J;have hk:j<k/\j<out.length:=(by rw [List.length_take] at X;omega);have h0:=Z vd;have I:sl l out[k-1] i=true:=by
    have hn:out[k-1]≠i:=λh=>(by have:=K out[k-1] (List.getElem_mem _);omega);rw [List.getD_eq_getElem?_getD,List.getElem?_eq_getElem vd,Option.getD_some] at h0;cases hc:sl l out[k-1] i with
    | true=>rfl
    | false=>exact absurd (zfR l _ _ (by have:=K out[k-1] (List.getElem_mem _);omega) vd hc h0) hn
   simp only [List.getElem_take];rcases Nat.lt_or_ge j (k-1) with h | h
   ·exact zfQ l _ _ _ (List.pairwise_iff_getElem.1 ih j (k-1) hk.2 vd h) I
   obtain rfl:j=k-1:=(by omega);exact I
  have U:∀ a ∈ out.drop k,sl l i a=true:=by
   intro a J;obtain ⟨j,X,rfl⟩:=List.getElem_of_mem J;have hk:j+k<out.length:=(by simp at X;omega);have:=Y (k+j) vd vd;rw [List.getD_eq_getElem?_getD,List.getElem?_eq_getElem vd,Option.getD_some] at this;simpa only [List.getElem_drop] using this
  refine List.pairwise_append.2 ⟨p1,List.pairwise_cons.2 ⟨U,p2⟩,λa J b hb=>?_⟩;rcases List.mem_cons.1 hb with rfl | hb
  ·exact V a J
  exact p3 a J b hb
theorem zbC (l:List Nat):SortedE l (endsR l l.length):=⟨zfi l _,zfv l _ (Nat.le_refl _)⟩

/-! ### Right: each is less than the next one by its first number, or by the place of what is behind that -/
/-! ### Doubling -/
/-! ### The ranks that a sorted list gives -/
def ups (R:Nat->Nat->Bool) (e:List Nat):Nat->Nat
  | 0=>0
  | i+1=>ups R e i+(if R (e.getD i 0) (e.getD (i+1) 0) then 1 else 0)
theorem zlQ (R:Nat->Nat->Bool) (e:List Nat) (i:Nat):∀ j,i<=j->ups R e i<=ups R e j
 | 0,h=>by
  obtain rfl:i=0:=by omega
  exact Nat.le_refl _
 | j+1,h=>by
  rcases Nat.lt_or_ge i (j+1) with h' | h'
  ·exact Nat.le_trans (zlQ R e i j vd) (Nat.le_add_right _ _)
  obtain rfl:i=j+1:=by omega
  exact Nat.le_refl _
theorem zgz (a b c:List Nat) (K:lessB a b=false) (I:lessB b c=false):lessB a c=false:=by
 cases h:lessB a c with
 | false=>rfl
 | true =>
  cases J:lessB b a with
  | true=>rw [za4 _ _ _ J h] at I;cases I
  | false=>rw [<- zaI _ _ K J,h] at I;cases I
/-! ### What two ends have in common -/
end Ord
end
section
open Num Loser
namespace Skew
/-! ### The samples' places -/
def endP (n:Nat):Nat:=if n % 3=1 then n+1 else n
def restP (r m:Nat):List Nat:=(List.range m).filter (λi=>decide (i % 3=r))
def places (n:Nat):List Nat:=restP 1 (endP n) ++ restP 2 (endP n)
theorem zbt (r m:Nat):restP r (m+1)=restP r m ++ (if m % 3=r then [m] else []):=by
 unfold restP;rw [List.range_succ,List.filter_append];congr 1;by_cases h:m % 3=r <;> simp [h]
theorem zaL (r:Nat) (I:r<3):∀ m,(restP r m).length=(m+2-r) / 3
 | 0=>by
  have:restP r 0 = []:=rfl;rw [this];show 0=_;omega
 | m+1=>by
  rw [zbt,List.length_append,zaL r I m];by_cases h:m % 3=r
  ·rw [if_pos h];show _+1=_;omega
  rw [if_neg h];show _+0=_;omega
theorem zeN (n:Nat):(places n).length=(endP n+1) / 3+endP n / 3:=by
 unfold places;rw [List.length_append,zaL 1 vd,zaL 2 vd];omega
theorem zhs (n:Nat):(places n).length<=2*n / 3+1:=by
 rw [zeN];unfold endP;split <;> omega
theorem zlR (r:Nat) (J:r<3) (m k:Nat) (hk:k<(restP r m).length):(restP r m)[k]=3*k+r:=by
 induction m with
 | zero=>exact absurd hk (Nat.not_lt_zero _)
 | succ m K =>
  have hl:=zaL r J m;simp only [zbt] at hk ⊢;rw [List.getElem_append];split
  ·rename_i h;exact K h
  rename_i h;by_cases I:m % 3=r
  ·simp only [I,if_true,List.length_append,List.length_singleton] at hk ⊢;rw [List.getElem_singleton];omega
  simp only [I,if_false,List.append_nil] at hk;omega
theorem zm3 (n i:Nat):i ∈ places n <-> i<endP n/\i % 3≠0:=by
 unfold places restP;simp only [List.mem_append,List.mem_filter,List.mem_range,decide_eq_true_eq];omega

/-! ### Names -/
def firstK (K:Nat->List Nat) (j:Nat):Bool:=(List.range j).all (λz=>decide (K z≠K j))
theorem zgA (K:Nat->List Nat):∀ (m a:Nat),a<m->(List.range m).countP (λj=>firstK K j && decide (K j=K a))=1
 | 0,_,h=>absurd h (Nat.not_lt_zero _)
 | m+1,a,ha=>by
  rw [List.range_succ,List.countP_append];by_cases J:∃ b,b<m/\K b=K a
  ·obtain ⟨b,hb,e⟩:=J;rw [<- e,zgA K m b hb];have:(firstK K m && decide (K m=K b))=false:=by
    by_cases h:K m=K b
    ·have:firstK K m=false:=by
      unfold firstK;rw [List.all_eq_false];exact ⟨b,List.mem_range.2 hb,by simp [h]⟩
     rw [this];rfl
    simp [h]
   simp [this]
  have I:∀ b,b<m->K b≠K a:=λb hb e=>J ⟨b,hb,e⟩;obtain rfl:a=m:=by
   rcases Nat.lt_or_ge a m with h | h
   ·exact absurd rfl (I a h)
   omega
  have V:(List.range a).countP (λj=>firstK K j && decide (K j=K a))=0:=by
   rw [List.countP_eq_zero];intro j U;simp [I j (List.mem_range.1 U)]
  have X:firstK K a=true:=by
   unfold firstK;rw [List.all_eq_true];intro z Y;simp [I z (List.mem_range.1 Y)]
  rw [V];simp [X]
theorem zfj {p q r:Nat->Bool}:∀ (l:List Nat),(∀ j ∈ l,p j=(q j || r j)/\(q j=true->r j=false))->l.countP p=l.countP q+l.countP r
 | [],_=>rfl
 | x :: l,h=>by
  have K:=zfj (p:=p) (q:=q) (r:=r) l (λj I=>h j (List.mem_cons_of_mem _ I));obtain ⟨J,U⟩:=h x (List.mem_cons_self (a:=x) (l:=l));rw [List.countP_cons,List.countP_cons,List.countP_cons,K,J];cases V:q x with
  | true=>rw [U V];simp;omega
  | false=>cases r x <;> simp <;> omega
theorem zdy (K:Nat->List Nat) (m:Nat) (e:List Nat) (hp:e.Perm (List.range m)) (hs:∀ i j,i<j->j<e.length->lessB (K (e.getD j 0)) (K (e.getD i 0))=false) :
  ∀ i,i<e.length->Ord.ups (λa b=>lessB (K a) (K b)) e i=(List.range m).countP (λj=>firstK K j && lessB (K j) (K (e.getD i 0))):=by
 have I:∀ a,a<m -> ∃ i,i<e.length/\e.getD i 0=a:=by
  intro a ha;obtain ⟨i,hi,rfl⟩:=List.getElem_of_mem (hp.mem_iff.2 (List.mem_range.2 ha));exact ⟨i,hi,by rw [List.getD_eq_getElem?_getD,List.getElem?_eq_getElem hi];rfl⟩
 have Y:∀ i,i<e.length->e.getD i 0<m:=λi hi=>by
  rw [List.getD_eq_getElem?_getD,List.getElem?_eq_getElem hi];exact List.mem_range.1 (hp.mem_iff.1 (List.getElem_mem hi))
 intro i
 induction i with
 | zero =>
  intro h0;symm;rw [Ord.ups,List.countP_eq_zero];intro j V;obtain ⟨q,U,rfl⟩:=I j (List.mem_range.1 V);rcases Nat.eq_zero_or_pos q with rfl | h
  ·simp [zap]
  rw [hs 0 q h U,Bool.and_false];exact Bool.noConfusion
 | succ i ih =>
  intro hi;have Z:=ih vd;have hr:=hs i (i+1) vd hi;rw [Ord.ups,Z];cases hc:lessB (K (e.getD i 0)) (K (e.getD (i+1) 0)) with
  | false =>
   have he:=zaI _ _ hc hr;rw [he];simp
  | true =>
   rw [if_pos rfl];refine Eq.symm ((zfj (q:=λj=>firstK K j && lessB (K j) (K (e.getD i 0))) (r:=λj=>firstK K j && decide (K j=K (e.getD i 0))) _ λj V=>?_).trans (by rw [zgA K m _ (Y i vd)]));obtain ⟨q,U,rfl⟩:=I j (List.mem_range.1 V);have key:lessB (K (e.getD q 0)) (K (e.getD (i+1) 0))=(lessB (K (e.getD q 0)) (K (e.getD i 0)) || decide (K (e.getD q 0)=K (e.getD i 0))):=by
    rcases Nat.lt_trichotomy q i with h | h | h
    ·have X:=hs q i h vd;cases J:lessB (K (e.getD q 0)) (K (e.getD i 0)) with
     | true=>rw [za4 _ _ _ J hc];rfl
     | false=>rw [zaI _ _ J X,hc];simp
    ·subst h;rw [hc];simp
    have J:=hs i q h U;have h2:lessB (K (e.getD q 0)) (K (e.getD (i+1) 0))=false:=by
     rcases Nat.lt_or_ge (i+1) q with h3 | h3
     ·exact hs (i+1) q h3 U
     obtain rfl:q=i+1:=(by omega);exact zap _
    have h4:K (e.getD q 0)≠K (e.getD i 0):=λh=>(by rw [h,hc] at h2;cases h2);rw [J,h2,decide_eq_false h4];rfl
   refine ⟨by rw [key,Bool.and_or_distrib_left],λh=>?_⟩;simp only [Bool.and_eq_true] at h;have:K (e.getD q 0)≠K (e.getD i 0):=λh'=>(by rw [h',zap] at h;exact Bool.noConfusion h.2);show (_ && decide _)=false;rw [decide_eq_false this,Bool.and_false]

/-! ### Numbers from 1 on: 0 behind the end -/
def at0 (l:List Nat) (i:Nat):Nat:=l.getD i 0
theorem zht (l:List Nat) (V:∀ x ∈ l,1<=x) (a b:Nat):Ord.sl l a b=(decide (at0 l a<at0 l b) || (decide (at0 l a=at0 l b) && Ord.sl l (a+1) (b+1))):=by
 have J:∀ i (h:i<l.length),at0 l i=l[i]/\1<=at0 l i:=λi h=>by
  have e:at0 l i=l[i]:=by unfold at0;rw [List.getD_eq_getElem?_getD,List.getElem?_eq_getElem h];rfl
  exact ⟨e,by rw [e];exact V _ (List.getElem_mem h)⟩
 have I:∀ i,l.length<=i->at0 l i=0:=λi h=>by unfold at0;rw [List.getD_eq_getElem?_getD,List.getElem?_eq_none h];rfl
 by_cases K:a<l.length
 ·obtain ⟨U,X⟩:=J a K;by_cases hb:b<l.length
  ·rw [Ord.zkC l a b K hb,U,(J b hb).1]
  rw [Ord.zpa l a b vd,I b vd,decide_eq_false vd,decide_eq_false vd];rfl
 rw [I a vd,Ord.zlM l a b vd];by_cases hb:b<l.length
 ·have:=(J b hb).2;rw [decide_eq_true hb,decide_eq_true (by omega:0<at0 l b)];rfl
 rw [I b vd,Ord.zpa l (a+1) (b+1) vd,decide_eq_false hb];simp
def tri (l:List Nat) (i:Nat):List Nat:=[at0 l i,at0 l (i+1),at0 l (i+2)]
theorem zwb (l:List Nat) (I:∀ x ∈ l,1<=x) (a b:Nat):Ord.sl l a b=(lessB (tri l a) (tri l b) || (decide (tri l a=tri l b) && Ord.sl l (a+3) (b+3))):=by
 rw [zht l I a b,zht l I (a+1) (b+1),zht l I (a+2) (b+2)];simp only [tri,lessB,List.cons.injEq,and_true,Bool.decide_and];cases Ord.sl l (a+2+1) (b+2+1) <;> simp [Bool.or_assoc,Bool.and_or_distrib_left]
end Skew
end
section
open Num Loser
namespace Skew
/-! ### The places, told -/
def numP (n:Nat):Nat:=(places n).length
def plc (n k:Nat):Nat:=(places n).getD k 0
theorem zfk (n:Nat):numP n=(endP n+1) / 3+endP n / 3:=zeN n
theorem zdz (n k:Nat) (hk:k<numP n):plc n k=if k<(endP n+1) / 3 then 3*k+1 else 3*(k-(endP n+1) / 3)+2:=by
 have I:(restP 1 (endP n)).length=(endP n+1) / 3:=by rw [zaL 1 vd];omega
 unfold plc numP at *;rw [List.getD_eq_getElem?_getD,List.getElem?_eq_getElem hk,Option.getD_some];unfold places at hk ⊢;rw [List.getElem_append];split
 ·rename_i h;rw [if_pos vd,zlR 1 vd]
 rename_i h;rw [if_neg vd,zlR 2 vd,I]
theorem zen (n:Nat):endP n=n/\n % 3≠1\/endP n=n+1/\n % 3=1:=by unfold endP;split <;> omega
theorem zcW (n k:Nat) (hk:k<numP n):plc n k<endP n/\plc n k % 3≠0/\plc n k<=n:=by
 have h:=zdz n k hk;rw [zfk] at hk;have I:=zen n;generalize endP n=E at *;split at h <;> omega
theorem zh9 (n k k':Nat) (hk:k<numP n) (I:k'<numP n) (h:plc n k=plc n k'):k=k':=by
 have J:=zdz n k hk;have K:=zdz n k' I;split at J <;> split at K <;> omega
theorem zh_ (n k:Nat) (hk:k<numP n) (h:plc n k+2<n):(k+1<numP n/\plc n (k+1)=plc n k+3)\/(k+1=numP n/\plc n k+3=n):=by
 have J:=zdz n k hk;have hm:=zfk n;by_cases I:k+1<numP n
 ·refine .inl ⟨I,?_⟩;have K:=zdz n (k+1) I;have U:=zen n;generalize endP n=E at *;split at J <;> split at K <;> omega
 refine .inr ⟨by omega,?_⟩;have U:=zen n;generalize endP n=E at *;split at J <;> omega
theorem zlS (n i:Nat) (hi:i<endP n) (I:i % 3≠0):∃ k,k<numP n/\plc n k=i:=by
 have hm:=zfk n;by_cases h:i % 3=1
 ·have hk:i / 3<numP n:=by omega
  exact ⟨i / 3,hk,by rw [zdz n _ hk,if_pos vd];omega⟩
 have hk:(endP n+1) / 3+i / 3<numP n:=by omega
 exact ⟨(endP n+1) / 3+i / 3,hk,by rw [zdz n _ hk,if_neg vd];omega⟩

/-! ### Names -/
def nameOf (K:Nat->List Nat) (m k:Nat):Nat:=1+(List.range m).countP (λj=>firstK K j && lessB (K j) (K k))
theorem zrD (K:Nat->List Nat) (m a:Nat) (J:a<m):∃ j,j<m/\firstK K j=true/\K j=K a:=by
 have h:=zgA K m a J;have V:0<(List.range m).countP (λj=>firstK K j && decide (K j=K a)):=by omega
 obtain ⟨j,U,I⟩:=List.countP_pos_iff.1 V;simp only [Bool.and_eq_true,decide_eq_true_eq] at I;exact ⟨j,List.mem_range.1 U,I.1,I.2⟩
theorem zia (K:Nat->List Nat) (m a b:Nat) (J:a<m) (h:lessB (K a) (K b)=true):nameOf K m a<nameOf K m b:=by
 unfold nameOf;have e:=zfj (p:=λj=>firstK K j && lessB (K j) (K b)) (q:=λj=>firstK K j && lessB (K j) (K a)) (r:=λj=>firstK K j && (lessB (K j) (K b) && !lessB (K j) (K a))) (List.range m) (λj _=>by
  refine ⟨?_,λh'=>?_⟩
  ·show (firstK K j && lessB (K j) (K b))=_;cases I:firstK K j with
   | false=>rfl
   | true =>
    cases hl:lessB (K j) (K a) with
    | true=>rw [za4 _ _ _ hl h];rfl
    | false=>simp
  simp only [Bool.and_eq_true] at h';show (firstK K j && (lessB (K j) (K b) && !lessB (K j) (K a)))=false;rw [h'.2];simp)
 obtain ⟨j,U,I,V⟩:=zrD K m a J;have X:0<(List.range m).countP (λj=>firstK K j && (lessB (K j) (K b) && !lessB (K j) (K a))) :=
  List.countP_pos_iff.2 ⟨j,List.mem_range.2 U,by show (firstK K j && (lessB (K j) (K b) && !lessB (K j) (K a)))=true;rw [I,V,h,zap];rfl⟩
 omega
theorem zuk (K:Nat->List Nat) (m a b:Nat) (J:a<m) (hb:b<m):nameOf K m a<nameOf K m b <-> lessB (K a) (K b)=true:=by
 refine ⟨λh=>?_,zia K m a b J⟩;cases U:lessB (K a) (K b) with
 | true=>rfl
 | false =>
  cases I:lessB (K b) (K a) with
  | true=>have:=zia K m b a hb I;omega
  | false =>
   have:=zaI _ _ U I;unfold nameOf at h;rw [this] at h;omega
theorem zpb (K:Nat->List Nat) (m a b:Nat) (I:a<m) (hb:b<m):nameOf K m a=nameOf K m b <-> K a=K b:=by
 constructor
 ·intro h;refine zaI _ _ ?_ ?_
  ·cases hc:lessB (K a) (K b) with
   | false=>rfl
   | true=>have:=zia K m a b I hc;omega
  cases hc:lessB (K b) (K a) with
  | false=>rfl
  | true=>have:=zia K m b a hb hc;omega
 intro h;unfold nameOf;rw [h]
def tkey (l:List Nat) (k:Nat):List Nat:=tri l (plc l.length k)
def red (l:List Nat):List Nat:=(List.range (numP l.length)).map (nameOf (tkey l) (numP l.length))
theorem zan (l:List Nat):(red l).length=numP l.length:=by simp [red]
theorem zd1 (l:List Nat) (k:Nat) (hk:k<(red l).length):(red l)[k]=nameOf (tkey l) (numP l.length) k:=by simp [red]
theorem zdA (l:List Nat):∀ x ∈ red l,1<=x:=by
 intro x I;simp only [red,List.mem_map] at I;obtain ⟨k,_,rfl⟩:=I;unfold nameOf;omega
theorem zul (K:Nat->List Nat) (m k:Nat) (hk:k<m):nameOf K m k<=m:=by
 unfold nameOf;have:(List.range m).countP (λj=>firstK K j && lessB (K j) (K k))<m:=by
  have I:=List.countP_le_length (p:=λj=>firstK K j && lessB (K j) (K k)) (l:=List.range m);rw [List.length_range] at I;refine Nat.lt_of_le_of_ne I λU=>?_;have J:=List.countP_eq_length.1 (U.trans (List.length_range (n:=m)).symm) k (List.mem_range.2 hk);rw [zap,Bool.and_false] at J;cases J
 omega
theorem zdB (l:List Nat):∀ x ∈ red l,x<=numP l.length:=by
 intro x I;simp only [red,List.mem_map,List.mem_range] at I;obtain ⟨k,hk,rfl⟩:=I;exact zul _ _ _ hk
theorem zrE (l:List Nat) (V:∀ x ∈ l,1<=x) (a b:Nat) (X:a<=l.length) (hb:b<=l.length) (U:a≠b) (h:tri l a=tri l b):a+2<l.length/\b+2<l.length:=by
 have J:∀ i,i<l.length->1<=at0 l i:=λi h=>by
  unfold at0;rw [List.getD_eq_getElem?_getD,List.getElem?_eq_getElem h];exact V _ (List.getElem_mem h)
 have I:∀ i,l.length<=i->at0 l i=0:=λi h=>by unfold at0;rw [List.getD_eq_getElem?_getD,List.getElem?_eq_none h];rfl
 simp only [tri,List.cons.injEq,and_true] at h;obtain ⟨e0,e1,e2⟩:=h;have d:∀ i j,at0 l i=at0 l j->(i<l.length <-> j<l.length):=by
  intro i j e;constructor
  ·intro hi;rcases Nat.lt_or_ge j l.length with h | h
   ·exact h
   have:=J i hi;have:=I j h;omega
  intro K;rcases Nat.lt_or_ge i l.length with h | h
  ·exact h
  have:=J j K;have:=I i h;omega
 have Y:=d _ _ e0;have Z:=d _ _ e1;have d2:=d _ _ e2;omega
theorem zpc (l:List Nat) (V:∀ x ∈ l,1<=x):∀ (d k k':Nat),k<numP l.length->k'<numP l.length->l.length<=plc l.length k+d->Ord.sl (red l) k k'=Ord.sl l (plc l.length k) (plc l.length k')
 | d,k,k',hk,hk',hd=>by
  have hl:=zan l;rw [Ord.zkC (red l) k k' vd vd,zwb l V,zd1,zd1];have e1:decide (nameOf (tkey l) (numP l.length) k<nameOf (tkey l) (numP l.length) k')=lessB (tri l (plc l.length k)) (tri l (plc l.length k')):=by
   rw [Bool.eq_iff_iff,decide_eq_true_eq];exact zuk _ _ _ _ hk hk'
  have e2:decide (nameOf (tkey l) (numP l.length) k=nameOf (tkey l) (numP l.length) k')=decide (tri l (plc l.length k)=tri l (plc l.length k')):=by
   rw [Bool.eq_iff_iff,decide_eq_true_eq,decide_eq_true_eq];exact zpb _ _ _ _ hk hk'
  rw [e1,e2];by_cases ht:tri l (plc l.length k)=tri l (plc l.length k')
  ·congr 2;by_cases J:k=k'
   ·subst J;rw [Ord.zcV,Ord.zcV]
   have hp:=zcW l.length k hk;have X:=zcW l.length k' hk';have Y:plc l.length k≠plc l.length k':=λh=>J (zh9 _ _ _ hk hk' h);obtain ⟨z1,Z⟩:=zrE l V _ _ hp.2.2 X.2.2 Y ht;rcases zh_ _ _ hk z1 with ⟨n1,U⟩ | ⟨n1,U⟩
   ·rcases zh_ _ _ hk' Z with ⟨I,K⟩ | ⟨I,K⟩
    ·match d with
     | 0=>omega
     | d+1=>rw [zpc l V d (k+1) (k'+1) n1 I vd,U,K]
    rw [I,Ord.zpa (red l) _ _ vd,K,Ord.zpa l _ _ (Nat.le_refl _)]
   rcases zh_ _ _ hk' Z with ⟨I,K⟩ | ⟨I,K⟩
   ·rw [n1,U,Ord.zlM (red l) _ _ vd,Ord.zlM l _ _ (Nat.le_refl _),decide_eq_true vd,decide_eq_true vd]
   omega
  rw [decide_eq_false ht];rfl
/-! ### How many names -/
def many (l:List Nat):Nat:=(red l).foldl max 0
theorem zdC (x:Nat):∀ (l:List Nat) (a:Nat),l.foldl max a<=x <-> a<=x /\ ∀ y ∈ l,y<=x
 | [],a=>by simp
 | b :: l,a=>by
  rw [List.foldl_cons,zdC x l];simp only [List.mem_cons,forall_eq_or_imp,Nat.max_le,and_assoc]
theorem zgB (l:List Nat) (x:Nat) (h:∀ y ∈ red l,y<=x) (hx:x ∈ red l\/x=0):many l=x:=by
 have J:many l<=x:=(zdC x _ _).2 ⟨Nat.zero_le _,h⟩;have I:=(zdC (many l) (red l) 0).1 (Nat.le_refl _);rcases hx with hx | hx
 ·have:=I.2 x hx;omega
 omega
theorem zib (l e:List Nat) (K:e.Perm (List.range (numP l.length))) (hs:∀ i j,i<j->j<e.length->lessB (tkey l (e.getD j 0)) (tkey l (e.getD i 0))=false) (Y:0<e.length) :
  many l=1+Ord.ups (λa b=>lessB (tkey l a) (tkey l b)) e (e.length-1):=by
 have U:=zdy (tkey l) _ e K hs;have I:∀ a,a<numP l.length -> ∃ i,i<e.length/\e.getD i 0=a:=by
  intro a X;obtain ⟨i,hi,rfl⟩:=List.getElem_of_mem (K.mem_iff.2 (List.mem_range.2 X));exact ⟨i,hi,by rw [List.getD_eq_getElem?_getD,List.getElem?_eq_getElem hi];rfl⟩
 have J:∀ i,i<e.length->e.getD i 0<numP l.length:=λi hi=>by
  rw [List.getD_eq_getElem?_getD,List.getElem?_eq_getElem hi];exact List.mem_range.1 (K.mem_iff.1 (List.getElem_mem hi))
 refine zgB l _ (λy V=>?_) (.inl ?_)
 ·simp only [red,List.mem_map,List.mem_range] at V;obtain ⟨k,hk,rfl⟩:=V;obtain ⟨i,hi,rfl⟩:=I k hk;unfold nameOf;rw [<- U i hi];have:=Ord.zlQ (λa b=>lessB (tkey l a) (tkey l b)) e i (e.length-1) vd;omega
 simp only [red,List.mem_map,List.mem_range];exact ⟨e.getD (e.length-1) 0,J _ vd,by unfold nameOf;rw [<- U _ vd]⟩
theorem zpd (R:Nat->Nat->Bool) (e:List Nat):∀ i,Ord.ups R e i<=i
 | 0=>Nat.le_refl _
 | i+1=>by rw [Ord.ups];have:=zpd R e i;split <;> omega
theorem zkD (R:Nat->Nat->Bool) (e:List Nat):∀ i,Ord.ups R e i=i -> ∀ j,j<=i->Ord.ups R e j=j
 | 0,h,j,hj=>by
  obtain rfl:j=0:=by omega
  rfl
 | i+1,h,j,hj=>by
  rw [Ord.ups] at h;have I:=zpd R e i;rcases Nat.lt_or_ge j (i+1) with h' | h'
  ·refine zkD R e i ?_ j vd;split at h <;> omega
  obtain rfl:j=i+1:=by omega
  rw [Ord.ups];exact h
theorem bottom (l e o:List Nat) (K:e.Perm (List.range (numP l.length))) (hs:∀ i j,i<j->j<e.length->lessB (tkey l (e.getD j 0)) (tkey l (e.getD i 0))=false) (hm:many l=numP l.length)
  (ho:o.length=numP l.length) (Z:∀ k,k<numP l.length->o.getD ((red l).getD k 0-1) 0=k):Ord.SortedE (red l) o:=by
 have ac:e.length=numP l.length:=by rw [K.length_eq,List.length_range]
 have hn:=zdy (tkey l) _ e K hs;have J:∀ i,i<e.length->e.getD i 0<numP l.length:=λi hi=>by
  rw [List.getD_eq_getElem?_getD,List.getElem?_eq_getElem hi];exact List.mem_range.1 (K.mem_iff.1 (List.getElem_mem hi))
 have I:∀ i,i<e.length->nameOf (tkey l) (numP l.length) (e.getD i 0)=i+1:=by
  intro i hi;have ag:=zib l e K hs vd;have:=zkD (λa b=>lessB (tkey l a) (tkey l b)) e (e.length-1) vd i vd;unfold nameOf;rw [<- hn i hi,this];omega
 have Y:o=e:=by
  refine List.ext_getElem vd λi h1 U=>?_;have:=Z (e.getD i 0) (J i U);rw [List.getD_eq_getElem?_getD (l:=red l),List.getElem?_eq_getElem (by rw [zan];exact J i U),Option.getD_some,zd1,I i U,Nat.add_sub_cancel] at this;rw [List.getD_eq_getElem?_getD,List.getElem?_eq_getElem h1,Option.getD_some,List.getD_eq_getElem?_getD,List.getElem?_eq_getElem U,Option.getD_some] at this;exact this
 subst Y;refine ⟨by rw [zan];exact K,List.pairwise_iff_getElem.2 λi j hi V ae=>?_⟩;have X:o[i]=o.getD i 0:=by rw [List.getD_eq_getElem?_getD,List.getElem?_eq_getElem hi];rfl
 have aa:o[j]=o.getD j 0:=by rw [List.getD_eq_getElem?_getD,List.getElem?_eq_getElem V];rfl
 rw [X,aa,Ord.zkC (red l) _ _ (by rw [zan];exact J i hi) (by rw [zan];exact J j V),zd1,zd1,I i hi,I j V,decide_eq_true vd];rfl
end Skew
end
section
open Num Loser
namespace Skew
/-! ### Ranks -/
structure RkI (n:Nat) (e:List Nat) (i:Nat) (r:List Int):Prop where
  len:r.length=n+3
  at_:∀ j,j<i->r.getD (plc n (e.getD j 0)) 0=((j+1:Nat):Int)
  no:∀ p,(∀ j,j<i->plc n (e.getD j 0)≠p)->r.getD p 0=0
theorem zlT (r:List Int) (k p:Nat) (x:Int) (hk:k<r.length):(r.set k x).getD p 0=if p=k then x else r.getD p 0:=by
 rw [List.getD_eq_getElem?_getD,List.getD_eq_getElem?_getD,List.getElem?_set];by_cases h:p=k
 ·subst h;rw [if_pos rfl,if_pos hk,if_pos rfl];rfl
 rw [if_neg (Ne.symm h),if_neg h]
theorem RkI.start (n:Nat) (e:List Nat):RkI n e 0 (List.replicate (n+3) 0) :=
 ⟨by simp,λj h=>absurd h (Nat.not_lt_zero _),λp _=>by
  rw [List.getD_eq_getElem?_getD];by_cases h:p<n+3
  ·simp [h]
  simp [h]⟩
theorem RkI.step {n:Nat} {e:List Nat} {i:Nat} {r:List Int} (h:RkI n e i r) (Y:e.Perm (List.range (numP n))) (hi:i<e.length):RkI n e (i+1) (r.set (plc n (e.getD i 0)) ((i+1:Nat):Int)):=by
 have I:∀ i,i<e.length->e.getD i 0<numP n:=λi hi=>by
  rw [List.getD_eq_getElem?_getD,List.getElem?_eq_getElem hi];exact List.mem_range.1 (Y.mem_iff.1 (List.getElem_mem hi))
 have hb:=(zcW n _ (I i hi)).2.2;have K:e.Nodup:=Y.nodup_iff.2 List.nodup_range;have V:∀ j,j<i->plc n (e.getD j 0)≠plc n (e.getD i 0):=λj U X=>by
  have:=zh9 n _ _ (I j vd) (I i hi) X;rw [List.getD_eq_getElem?_getD,List.getElem?_eq_getElem vd,List.getD_eq_getElem?_getD,List.getElem?_eq_getElem hi,Option.getD_some,Option.getD_some] at this;exact absurd this (List.pairwise_iff_getElem.1 K j i vd hi U)
 refine ⟨by rw [List.length_set];exact h.len,λj U=>?_,λp J=>?_⟩
 ·rw [zlT _ _ _ _ (by rw [h.len];omega)];rcases Nat.lt_or_ge j i with h' | h'
  ·rw [if_neg (V j h'),h.at_ j h']
  obtain rfl:j=i:=by omega
  rw [if_pos rfl]
 rw [zlT _ _ _ _ (by rw [h.len];omega),if_neg (λe=>J i vd e.symm),h.no p (λj U=>J j vd)]
def Rk (l e:List Nat) (r:List Int):Prop:=RkI l.length e e.length r
theorem zum (l e:List Nat) (r:List Int) (h1:∀ x ∈ l,1<=x) (he:Ord.SortedE (red l) e) (hr:Rk l e r) (p q:Nat) (hp:p<=l.length) (hq:q<=l.length) (K:p=l.length\/p % 3≠0) (aa:q=l.length\/q % 3≠0) (Y:p≠q) :
  r.getD p 0<r.getD q 0 <-> Ord.sl l p q=true:=by
 have an:e.length=numP l.length:=by rw [he.len,zan]
 have U:∀ i,i<e.length->e.getD i 0<numP l.length:=λi hi=>by
  rw [List.getD_eq_getElem?_getD,List.getElem?_eq_getElem hi,<- zan];exact he.lt (List.getElem_mem hi)
 have X:∀ a,a<numP l.length -> ∃ i,i<e.length/\e.getD i 0=a:=by
  intro a ha;obtain ⟨i,hi,rfl⟩:=List.getElem_of_mem (he.1.mem_iff.2 (List.mem_range.2 (by rw [zan];exact ha)));exact ⟨i,hi,by rw [List.getD_eq_getElem?_getD,List.getElem?_eq_getElem hi];rfl⟩
 have hs:∀ p,p<=l.length->(p=l.length\/p % 3≠0)->(∃ j,j<e.length/\plc l.length (e.getD j 0)=p/\r.getD p 0=((j+1:Nat):Int))\/(p=l.length/\r.getD p 0=0):=by
  intro p hp K;by_cases hx:p<endP l.length/\p % 3≠0
  ·obtain ⟨k,hk,rfl⟩:=zlS _ _ hx.1 hx.2;obtain ⟨j,I,rfl⟩:=X k hk;exact .inl ⟨j,I,rfl,hr.at_ j I⟩
  have ah:p=l.length:=by
   rcases K with h | h
   ·exact h
   unfold endP at hx;split at hx <;> omega
  refine .inr ⟨ah,hr.no p λj I ag=>?_⟩;have:=zcW l.length _ (U j I);rw [ag] at this;exact hx ⟨this.1,this.2.1⟩
 rcases hs p hp K with ⟨i,hi,ep,ri⟩ | ⟨ep,ri⟩
 ·rcases hs q hq aa with ⟨j,I,J,V⟩ | ⟨J,V⟩
  ·rw [ri,V,<- ep,<- J,<- zpc l h1 l.length _ _ (U i hi) (U j I) vd];have Z:=List.pairwise_iff_getElem.1 he.2;have gi:e.getD i 0=e[i]:=(by rw [List.getD_eq_getElem?_getD,List.getElem?_eq_getElem hi];rfl);have gj:e.getD j 0=e[j]:=(by rw [List.getD_eq_getElem?_getD,List.getElem?_eq_getElem I];rfl);rw [gi,gj];rcases Nat.lt_trichotomy i j with h | h | h
   ·rw [Z i j hi I h];constructor
    ·intro _;rfl
    intro _;omega
   ·subst h;exact absurd (ep.symm.trans J) Y
   rw [Ord.zh8 _ _ _ (Z j i I hi h)];constructor
   ·intro h';omega
   intro h';cases h'
  rw [ri,V,J,Ord.zpa l _ _ (Nat.le_refl _)];constructor
  ·intro h';omega
  intro h';cases h'
 rcases hs q hq aa with ⟨j,I,J,V⟩ | ⟨J,V⟩
 ·rw [ri,V,ep,Ord.zlM l _ _ (Nat.le_refl _)];constructor
  ·intro _;rw [decide_eq_true_eq];omega
  intro _;omega
 exact absurd (ep.trans J.symm) Y
theorem zlU (l e:List Nat) (r:List Int) (I:∀ x ∈ l,1<=x) (K:Ord.SortedE (red l) e) (U:Rk l e r) (a b:Nat) (Y:a<l.length) (hb:b<l.length) (V:a % 3≠2) (X:b % 3≠2) (J:a≠b) :
  Ord.sl l a b=true <-> at0 l a<at0 l b\/at0 l a=at0 l b/\r.getD (a+1) 0<r.getD (b+1) 0:=by
 rw [zum l e r I K U (a+1) (b+1) vd vd vd vd vd,zht l I a b];simp
theorem zsL (l e:List Nat) (r:List Int) (V:∀ x ∈ l,1<=x) (he:Ord.SortedE (red l) e) (hr:Rk l e r) (a b:Nat) (ha:a<l.length) (hb:b<l.length) (ae:a % 3≠1) (af:b % 3≠1) (Z:a≠b) :
  Ord.sl l a b=true <-> at0 l a<at0 l b\/at0 l a=at0 l b/\(at0 l (a+1)<at0 l (b+1)\/at0 l (a+1)=at0 l (b+1)/\r.getD (a+2) 0<r.getD (b+2) 0):=by
 have U:∀ i,i<l.length->1<=at0 l i:=λi h=>by
  unfold at0;rw [List.getD_eq_getElem?_getD,List.getElem?_eq_getElem h];exact V _ (List.getElem_mem h)
 have K:∀ i,l.length<=i->at0 l i=0:=λi h=>by unfold at0;rw [List.getD_eq_getElem?_getD,List.getElem?_eq_none h];rfl
 rw [zht l V a b,zht l V (a+1) (b+1)];have I:at0 l (a+1)=at0 l (b+1)->(Ord.sl l (a+2) (b+2)=true <-> r.getD (a+2) 0<r.getD (b+2) 0):=by
  intro ag;have X:a+1<l.length:=by
   rcases Nat.lt_or_ge (a+1) l.length with h | h
   ·exact h
   have:=K _ h;rcases Nat.lt_or_ge (b+1) l.length with h' | h'
   ·have:=U _ h';omega
   omega
  have aa:b+1<l.length:=by
   rcases Nat.lt_or_ge (b+1) l.length with h | h
   ·exact h
   have:=K _ h;have:=U _ X;omega
  exact (zum l e r V he hr (a+2) (b+2) vd vd vd vd vd).symm
 simp only [Bool.or_eq_true,decide_eq_true_eq,Bool.and_eq_true];constructor
 ·rintro (h | ⟨h,J | ⟨J,Y⟩⟩)
  ·exact .inl h
  ·exact .inr ⟨h,.inl J⟩
  exact .inr ⟨h,.inr ⟨J,(I J).1 Y⟩⟩
 rintro (h | ⟨h,J | ⟨J,Y⟩⟩)
 ·exact .inl h
 ·exact .inr ⟨h,.inl J⟩
 exact .inr ⟨h,.inr ⟨J,(I J).2 Y⟩⟩

/-! ### The merge -/
def mg (l:List Nat):List Nat->List Nat->List Nat
  | [],zs=>zs
  | k :: ks,zs=>if l.length<=plc l.length k then mg l ks zs else zs.takeWhile (λz=>!Ord.sl l (plc l.length k) z) ++ plc l.length k :: mg l ks (zs.dropWhile (λz=>!Ord.sl l (plc l.length k) z))
def smp (l:List Nat) (e:List Nat):List Nat:=(e.map (plc l.length)).filter (λp=>decide (p<l.length))
theorem zlV (l:List Nat) (k:Nat) (ks:List Nat):smp l (k :: ks)=if l.length<=plc l.length k then smp l ks else plc l.length k :: smp l ks:=by
 unfold smp;rw [List.map_cons,List.filter_cons];by_cases h:l.length<=plc l.length k
 ·rw [if_pos h,if_neg (by simp;omega)]
 rw [if_neg h,if_pos (by simp;omega)]
theorem zic (l:List Nat):∀ (ks zs:List Nat),(mg l ks zs).Perm (smp l ks ++ zs)
 | [],zs=>List.Perm.refl _
 | k :: ks,zs=>by
  rw [mg,zlV];split
  ·exact zic l ks zs
  refine (List.perm_middle).trans ?_;rw [List.cons_append];refine List.Perm.cons _ ?_;refine ((zic l ks _).append_left _).trans ?_;refine (List.perm_append_comm_assoc _ _ _).trans ?_;rw [List.takeWhile_append_dropWhile]
theorem zgC (l:List Nat):∀ (ks zs:List Nat),(smp l ks).Pairwise (λa b=>Ord.sl l a b=true)->zs.Pairwise (λa b=>Ord.sl l a b=true)->(∀ a ∈ smp l ks,∀ z ∈ zs,Ord.sl l a z=false->Ord.sl l z a=true) ->
  (mg l ks zs).Pairwise (λa b=>Ord.sl l a b=true)
 | [],zs,_,h,_=>h
 | k :: ks,zs,ha,hz,hx=>by
  rw [mg];rw [zlV] at ha hx;split
  ·rename_i hk;rw [if_pos hk] at ha hx;exact zgC l ks zs ha hz hx
  rename_i hk;rw [if_neg hk] at ha hx;obtain ⟨Y,Z⟩:=List.pairwise_cons.1 ha;have I:=List.takeWhile_append_dropWhile (p:=λz=>!Ord.sl l (plc l.length k) z) (l:=zs);have hT:∀ z ∈ zs.takeWhile (λz=>!Ord.sl l (plc l.length k) z),Ord.sl l z (plc l.length k)=true:=by
   intro z hzm;have hm:z ∈ zs:=(by rw [<- I];exact List.mem_append_left _ hzm);have hb:=List.all_takeWhile (p:=λz=>!Ord.sl l (plc l.length k) z) (l:=zs);have:=List.all_eq_true.1 hb z hzm;refine hx _ (List.mem_cons_self ..) z hm ?_;simpa using this
  have K:=hz;rw [<- I] at K;obtain ⟨p1,p2,p3⟩:=List.pairwise_append.1 K;have hD:∀ z ∈ zs.dropWhile (λz=>!Ord.sl l (plc l.length k) z),Ord.sl l (plc l.length k) z=true:=by
   intro z hzm;cases hd:zs.dropWhile (λz=>!Ord.sl l (plc l.length k) z) with
   | nil=>rw [hd] at hzm;cases hzm
   | cons d D =>
    have h0:Ord.sl l (plc l.length k) d=true:=by
     have:=List.head?_dropWhile_not (λz=>!Ord.sl l (plc l.length k) z) zs;rw [hd] at this;simpa using this
    rw [hd] at hzm p2;rcases List.mem_cons.1 hzm with rfl | hzm
    ·exact h0
    exact Ord.zfQ l _ _ _ h0 ((List.pairwise_cons.1 p2).1 z hzm)
  have X:∀ y ∈ mg l ks (zs.dropWhile (λz=>!Ord.sl l (plc l.length k) z)),y ∈ smp l ks\/y ∈ zs.dropWhile (λz=>!Ord.sl l (plc l.length k) z):=λy hy=>List.mem_append.1 ((zic l ks _).mem_iff.1 hy);have J:∀ z ∈ zs.dropWhile (λz=>!Ord.sl l (plc l.length k) z),z ∈ zs:=λz h=>by rw [<- I];exact List.mem_append_right _ h
  have ih:=zgC l ks (zs.dropWhile (λz=>!Ord.sl l (plc l.length k) z)) Z p2 (λa h z aa=>hx a (List.mem_cons_of_mem _ h) z (J z aa));have V:∀ y ∈ mg l ks (zs.dropWhile (λz=>!Ord.sl l (plc l.length k) z)),Ord.sl l (plc l.length k) y=true:=λy hy=>by
   rcases X y hy with h | h
   ·exact Y y h
   exact hD y h
  refine List.pairwise_append.2 ⟨p1,List.pairwise_cons.2 ⟨V,ih⟩,λz U y hy=>?_⟩;rcases List.mem_cons.1 hy with rfl | hy
  ·exact hT z U
  exact Ord.zfQ l _ _ _ (hT z U) (V y hy)
theorem zgD {a b:List Nat} (I:a.Nodup) (hb:b.Nodup) (h:∀ x,x ∈ a <-> x ∈ b):a.Perm b:=by
 rw [List.perm_iff_count];intro x;have hc:∀ c:List Nat,c.Nodup->c.count x=if x ∈ c then 1 else 0:=λc hc=>by
  split
  ·rename_i hm;have K:=List.nodup_iff_count.1 hc x;have J:=List.count_pos_iff.2 hm;omega
  rename_i hm;exact List.count_eq_zero.2 hm
 rw [hc a I,hc b hb];simp only [h x]
theorem zwN (l e zs:List Nat) (h1:∀ x ∈ l,1<=x) (he:Ord.SortedE (red l) e) (hz:zs.Perm (restP 0 l.length)) (Y:zs.Pairwise (λa b=>Ord.sl l a b=true)):Ord.SortedE l (mg l e zs):=by
 have I:∀ k ∈ e,k<numP l.length:=λk hk=>by rw [<- zan];exact he.lt hk
 have K:∀ z,z ∈ zs <-> z<l.length/\z % 3=0:=λz=>by
  rw [hz.mem_iff];unfold restP;simp
 have J:∀ p,p ∈ smp l e <-> p<l.length/\p % 3≠0:=λp=>by
  unfold smp;simp only [List.mem_filter,List.mem_map,decide_eq_true_eq];constructor
  ·rintro ⟨⟨k,hk,rfl⟩,h⟩;exact ⟨h,(zcW _ _ (I k hk)).2.1⟩
  rintro ⟨h,Z⟩;obtain ⟨k,hk,rfl⟩:=zlS l.length p (by unfold endP;split <;> omega) Z;exact ⟨⟨k,he.1.mem_iff.2 (List.mem_range.2 (by rw [zan];exact hk)),rfl⟩,h⟩
 have ad:(e.map (plc l.length)).Pairwise (λa b=>Ord.sl l a b=true):=by
  rw [List.pairwise_map];refine List.Pairwise.imp_of_mem ?_ he.2;intro a b U hb ae;rw [<- zpc l h1 l.length a b (I a U) (I b hb) vd];exact ae
 have X:(smp l e).Pairwise (λa b=>Ord.sl l a b=true):=ad.filter _;have V:∀ c:List Nat,c.Pairwise (λa b=>Ord.sl l a b=true)->c.Nodup:=λc hc=>by
  refine List.Pairwise.imp ?_ hc;intro a b h af;subst af;rw [Ord.zcV] at h;cases h
 refine ⟨(zic l e zs).trans (zgD (List.nodup_append.2 ⟨V _ X,V _ Y,λa U b hb=>by have:=(J a).1 U;have:=(K b).1 hb;omega⟩) List.nodup_range λx=>?_),zgC l e zs X Y λa U z ac h=>?_⟩
 ·rw [List.mem_append,J,K,List.mem_range];omega
 have h2:=(J a).1 U;have Z:=(K z).1 ac;cases hc:Ord.sl l z a with
 | true=>rfl
 | false=>have:=Ord.zfR l a z h2.1 Z.1 h hc;omega
theorem zkE (l e:List Nat) (r:List Int) (h1:∀ x ∈ l,1<=x) (he:Ord.SortedE (red l) e) (hr:Rk l e r) (zs:List Nat) (Z:zs.Perm (restP 0 l.length))
  (hs:∀ i j,i<j->j<zs.length -> ¬ (at0 l (zs.getD j 0)<at0 l (zs.getD i 0)\/at0 l (zs.getD j 0)=at0 l (zs.getD i 0)/\r.getD (zs.getD j 0+1) 0<r.getD (zs.getD i 0+1) 0)):zs.Pairwise (λa b=>Ord.sl l a b=true):=by
 have K:∀ z,z ∈ zs <-> z<l.length/\z % 3=0:=λz=>by
  rw [Z.mem_iff];unfold restP;simp
 have V:zs.Nodup:=Z.nodup_iff.2 (by unfold restP;exact List.nodup_range.filter _);refine List.pairwise_iff_getElem.2 λi j hi U J=>?_;have h:=hs i j J U;have gi:zs.getD i 0=zs[i]:=by rw [List.getD_eq_getElem?_getD,List.getElem?_eq_getElem hi];rfl
 have gj:zs.getD j 0=zs[j]:=by rw [List.getD_eq_getElem?_getD,List.getElem?_eq_getElem U];rfl
 rw [gi,gj] at h;have Y:=(K _).1 (List.getElem_mem hi);have X:=(K _).1 (List.getElem_mem U);have I:zs[i]≠zs[j]:=List.pairwise_iff_getElem.1 V i j hi U J;rw [<- zlU l e r h1 he hr _ _ X.1 Y.1 vd vd (Ne.symm I)] at h;cases hc:Ord.sl l zs[i] zs[j] with
 | true=>rfl
 | false =>
  cases hd:Ord.sl l zs[j] zs[i] with
  | true=>exact absurd hd h
  | false=>exact absurd (Ord.zfR l _ _ Y.1 X.1 hc hd) I
/-! ### Levels -/
theorem few (n:Nat) (h:4<=n):numP n<n:=by
 have:=zhs n;unfold numP;omega
theorem zjo (l:List Nat) (V:∀ x ∈ l,1<=x) (h:l.length<=3):many l=numP l.length:=by
 have hl:=zan l;have K:=zfk l.length;unfold endP at K;rcases Nat.lt_trichotomy l.length 3 with h3 | h3 | h3
 ·rcases Nat.eq_zero_or_pos l.length with h0 | h0
  ·have hm:numP l.length=0:=(by rw [K];split <;> omega);exact zgB l _ (zdB l) (.inr hm)
  have hm:numP l.length=1:=by rw [K];split <;> omega
  refine zgB l _ (zdB l) (.inl ?_);have U:(red l)[0]'vd ∈ red l:=List.getElem_mem _;have V:=zdB l _ U;have h2:=zdA l _ U;rw [hm] at V ⊢;have:(red l)[0]'vd=1:=by omega
  rw [this] at U;exact U
 ·have hm:numP l.length=2:=by rw [K];split <;> omega
  have hk:tkey l 0≠tkey l 1:=by
   unfold tkey;rw [zdz _ 0 vd,zdz _ 1 vd];unfold endP;rw [h3];intro e;obtain ⟨x,y,z,rfl⟩ : ∃ x y z,l = [x,y,z]:=by
    match l,h3 with
    | [x,y,z],_=>exact ⟨x,y,z,rfl⟩
   have hz:1<=z:=V z (by simp);simp [tri,at0] at e;omega
  have e:=zpb (tkey l) (numP l.length) 0 1 vd vd;have J:(red l)[0]'vd ∈ red l:=List.getElem_mem _;have I:(red l)[1]'vd ∈ red l:=List.getElem_mem _;have Y:=zdB l _ J;have a2:=zdA l _ J;have Z:=zdB l _ I;have b2:=zdA l _ I;have X:(red l)[0]'vd≠(red l)[1]'vd:=by
   rw [zd1,zd1];exact λh=>hk (e.1 h)
  refine zgB l _ (zdB l) (.inl ?_);rw [hm] at Y Z ⊢;by_cases h:(red l)[0]'vd=2
  ·rw [h] at J;exact J
  have:(red l)[1]'vd=2:=by omega
  rw [this] at I;exact I
 omega
theorem zjp (l:List Nat) (I:∀ x ∈ l,1<=x) (h:many l≠numP l.length):(red l).length<l.length:=by
 rw [zan];refine few _ ?_;rcases Nat.lt_or_ge l.length 4 with h' | h'
 ·exact absurd (zjo l I vd) h
 exact h'
end Skew
end
section
open Num Loser
open Sto (SortedR)
namespace Skew
def firstsN (n:Nat):Nat:=(n+1) / 3+if n % 3=1 then 1 else 0
def needS (n:Nat):Nat:=firstsN n+n / 3
theorem zbD (n:Nat):needS n=numP n:=by
 rw [zfk];unfold needS firstsN endP;split <;> omega
def isW (n i:Nat):Bool:=decide (i % 3≠0) && !(decide (i=n) && decide (i % 3≠1))
def atW (n i:Nat):Nat:=if i % 3=2 then i / 3+firstsN n else i / 3
def rowW (l:List Nat) (i:Nat):List Nat:=[at0 l i,at0 l (i+1),at0 l (i+2),atW l.length i]
def rowsW (l:List Nat) (m:Nat):List (List Nat):=((List.range m).filter (isW l.length)).map (rowW l)
theorem zfl (l:List Nat) (m:Nat):rowsW l (m+1)=rowsW l m ++ if isW l.length m=true then [rowW l m] else []:=by
 unfold rowsW;rw [List.range_succ,List.filter_append,List.map_append];congr 1;by_cases h:isW l.length m=true
 ·simp [h]
 simp [h]
def zid (l:List Nat) (k:Nat):List Nat:=tkey l k ++ [k]
theorem zwc (n k:Nat) (hk:k<numP n):atW n (plc n k)=k:=by
 have h:=zfk n;rw [zdz n k hk];unfold atW firstsN;rcases zen n with ⟨e,I⟩ | ⟨e,I⟩ <;> rw [e] at h ⊢ <;> split <;> split <;> (try split) <;> omega
theorem zwO (n i:Nat):(i<n+1/\isW n i=true) <-> (i<endP n/\i % 3≠0):=by
 unfold isW;rcases zen n with ⟨e,I⟩ | ⟨e,I⟩ <;> rw [e] <;> simp only [Bool.and_eq_true,Bool.not_eq_true',Bool.and_eq_false_iff,decide_eq_true_eq,decide_eq_false_iff_not] <;> omega
theorem zhu (n:Nat):(List.range (numP n)).map (plc n)=places n:=List.ext_getElem (by simp [numP]) λi J I=>by
 rw [List.getElem_map,List.getElem_range];unfold plc;rw [List.getD_eq_getElem?_getD,List.getElem?_eq_getElem I];rfl
theorem zjq (l:List Nat):(rowsW l (l.length+1)).Perm ((List.range (numP l.length)).map (zid l)):=by
 have K:(List.range (numP l.length)).map (zid l)=(places l.length).map (rowW l):=by
  rw [<- zhu,List.map_map];refine List.map_congr_left λk hk=>?_;show tri l (plc l.length k) ++ [k]=rowW l (plc l.length k);unfold rowW;rw [zwc _ _ (List.mem_range.1 hk)];rfl
 rw [K];have I:(places l.length).Nodup:=by
  rw [<- zhu];rw [List.Nodup,List.pairwise_map,List.pairwise_iff_getElem];intro i j hi J U e;simp only [List.length_range] at hi J;rw [List.getElem_range,List.getElem_range] at e;have:=zh9 _ _ _ hi J e;omega
 refine List.Perm.map _ (zgD (List.nodup_range.filter _) I λi=>?_);rw [List.mem_filter,List.mem_range,zwO,zm3]
theorem zeO (l:List Nat):(rowsW l (l.length+1)).length=needS l.length:=by rw [(zjq l).length_eq,zbD];simp
/-! ### Names -/
def cntN (out:List (List Nat)):Nat->Nat
  | 0=>0
  | k+1=>cntN out k+if k=0\/(out.getD (k-1) []).take 3≠(out.getD k []).take 3 then 1 else 0
def rowN (out:List (List Nat)) (i:Nat):List Nat:=[(out.getD i []).getD 3 0,cntN out (i+1)]
def rowsN (out:List (List Nat)) (k:Nat):List (List Nat):=(List.range k).map (rowN out)
theorem zm4 (out:List (List Nat)) (k:Nat):rowsN out (k+1)=rowsN out k ++ [rowN out k]:=by unfold rowsN;rw [List.range_succ,List.map_append];rfl
theorem zcX (out:List (List Nat)) (k:Nat):(rowsN out k).length=k:=by simp [rowsN]
theorem zrF (out:List (List Nat)) (k i:Nat) (h:i<(rowsN out k).length):(rowsN out k)[i]=rowN out i:=by simp [rowsN]
theorem zlW:∀ (x y:List Nat) (a b:Nat),x.length=y.length->lessB (y ++ [b]) (x ++ [a])=false->lessB y x=false
 | [],[],_,_,_,_=>rfl
 | u :: x,v :: y,a,b,hl,h=>by
  simp only [List.cons_append,lessB,Bool.or_eq_false_iff,Bool.and_eq_false_iff] at h ⊢;refine ⟨h.1,h.2.imp (λh=>h) λh=>zlW x y a b (by simpa using hl) h⟩
 | [],_ :: _,_,_,hl,_=>by simp at hl
 | _ :: _,[],_,_,hl,_=>by simp at hl
theorem zrG {l:List Nat} {out:List (List Nat)} (Y:out.Perm (rowsW l (l.length+1))) (hs:SortedR out) :
  ∃ e:List Nat,e.Perm (List.range (numP l.length))/\out=e.map (zid l) /\ ∀ i j,i<j->j<e.length->lessB (tkey l (e.getD j 0)) (tkey l (e.getD i 0))=false:=by
 have J:=Y.trans (zjq l);refine ⟨out.map (λx=>x.getD 3 0),?_,?_,?_⟩
 ·have:=J.map (λx=>x.getD 3 0);rw [List.map_map] at this;refine this.trans (List.Perm.of_eq ?_)
  conv=>rhs;rw [<- List.map_id (List.range (numP l.length))]
  exact List.map_congr_left λk _=>rfl
 ·rw [List.map_map]
  conv=>lhs;rw [<- List.map_id out]
  refine List.map_congr_left λx X=>?_;obtain ⟨k,_,rfl⟩:=List.mem_map.1 (J.mem_iff.1 X);rfl
 intro i j K I;rw [List.length_map] at I;have V:=List.pairwise_iff_getElem.1 hs i j vd I K;have key:∀ (z:Nat) (U:z<out.length),out[z]=zid l ((out.map λx=>x.getD 3 0).getD z 0):=λz U=>by
  rw [List.getD_eq_getElem?_getD,List.getElem?_map,List.getElem?_eq_getElem U];obtain ⟨k,_,e⟩:=List.mem_map.1 (J.mem_iff.1 (List.getElem_mem U));rw [<- e];rfl
 rw [key i vd,key j I] at V;exact zlW _ _ _ _ rfl V
theorem zpe {l e:List Nat} (hs:∀ i j,i<j->j<e.length->lessB (tkey l (e.getD j 0)) (tkey l (e.getD i 0))=false):∀ i,i<e.length->cntN (e.map (zid l)) (i+1)=1+Ord.ups (λa b=>lessB (tkey l a) (tkey l b)) e i
 | 0,_=>rfl
 | i+1,hi=>by
  rw [cntN,zpe hs i vd,Ord.ups];have key:∀ z,z<e.length->((e.map (zid l)).getD z []).take 3=tkey l (e.getD z 0):=λz I=>by
   rw [List.getD_eq_getElem?_getD,List.getElem?_map,List.getElem?_eq_getElem I,List.getD_eq_getElem?_getD,List.getElem?_eq_getElem I];rfl
  rw [show i+1-1=i from rfl,key i vd,key (i+1) hi];have h:=hs i (i+1) (Nat.lt_succ_self i) hi;cases q:lessB (tkey l (e.getD i 0)) (tkey l (e.getD (i+1) 0)) with
  | true=>rw [if_pos (.inr λe2=>by rw [e2,zap] at q;cases q),if_pos rfl,Nat.add_assoc]
  | false=>rw [if_neg (λh'=>h'.elim (λh=>by omega) λh'=>h' (zaI _ _ q h)),if_neg (by simp)];rfl
theorem redD (l:List Nat) (k:Nat) (hk:k<numP l.length):(red l).getD k 0=nameOf (tkey l) (numP l.length) k:=by
 rw [List.getD_eq_getElem?_getD,List.getElem?_eq_getElem (by rw [zan];exact hk)];exact zd1 l k _
theorem zm5 {l e:List Nat} (K:e.Perm (List.range (numP l.length))) (hs:∀ i j,i<j->j<e.length->lessB (tkey l (e.getD j 0)) (tkey l (e.getD i 0))=false):rowsN (e.map (zid l)) e.length=e.map λk=>[k,(red l).getD k 0]:=by
 refine List.ext_getElem (by rw [zcX,List.length_map]) λi I U=>?_;have I:i<e.length:=by rw [zcX] at I;exact I
 have J:e[i]<numP l.length:=List.mem_range.1 (K.mem_iff.1 (List.getElem_mem I));rw [zrF,List.getElem_map];unfold rowN;rw [zpe hs i I,zdy (tkey l) _ e K hs i I,redD l _ J];have e1:(e.map (zid l)).getD i []=zid l e[i]:=by rw [List.getD_eq_getElem?_getD,List.getElem?_map,List.getElem?_eq_getElem I];rfl
 have e2:e.getD i 0=e[i]:=by rw [List.getD_eq_getElem?_getD,List.getElem?_eq_getElem I];rfl
 rw [e1,e2];rfl
theorem zrH {l e:List Nat} {out:List (List Nat)} (U:e.Perm (List.range (numP l.length))) (I:out.Perm (e.map λk=>[k,(red l).getD k 0])) (hs:SortedR out):out=(List.range (numP l.length)).map λk=>[k,(red l).getD k 0]:=by
 refine List.Perm.eq_of_pairwise (le:=λa b=>lessB b a=false) (λa b _ _ J V=>zaI _ _ V J) hs ?_ (I.trans (U.map _));rw [List.pairwise_map,List.pairwise_iff_getElem];intro i j hi X K;rw [List.getElem_range,List.getElem_range,lessB,decide_eq_false vd,decide_eq_false vd];rfl
theorem zun {l:List Nat}:((List.range (numP l.length)).map λk=>[k,(red l).getD k 0]).map (λx=>[x.getD 1 0])=(red l).map λx=>[x]:=by
 rw [List.map_map];refine List.ext_getElem (by simp [zan]) λi J I=>?_;rw [List.getElem_map,List.getElem_range,List.getElem_map];have:i<(red l).length:=by simpa using I
 show [(red l).getD i 0]=_;rw [List.getD_eq_getElem?_getD,List.getElem?_eq_getElem this];rfl
end Skew
end
section
open Go.RowKit Go.Shelf
namespace Mv
theorem vZ {P:tz} {N:Nat} {E:Env} {S:Mem} {dst:Option Nat} {ty:tx} {pos:String} {aft:Array Edge} {gd:Option (Nat × Bool)} {T e:tx} {x lo:tw} {K:IntKind} {b o len n l:Nat} (J:P.underlying T=some (.array len e)) (U:sizeT P e=some n) (V:ev E x=some (.pointer (some ⟨b,o,none⟩))) (I:ev E lo=some (.int K (l:Int))) (hl:l<len) :
  ACalm P N ⟨dst,.slice T x (some lo) none none,ty,pos,aft,gd⟩ E S (.slice (some ⟨b,o+l*n,none⟩) (len-l) (len-l)):=λc w g X=>by
 have e1:(Instr.sliceBounds false len len (some (c.eval lo)) none none).run P w = .ok (l,len,len) w:=by
  unfold Instr.sliceBounds;simp [g.ev I,zbN _ _ rfl (Int.natCast_nonneg l) (show ((l:Nat):Int)<=len by omega) w]
 simp only [execOp,g.ev V,Instr.sliceAt,Sem.run_bind,run_underlying J w,Instr.sureAddr,Option.map_some,Option.map_none,e1,Result.andThen_ok,zaM U w,Sem.run_pure,zaz];split
 ·omega
 rfl
end Mv
open Mv Disk Num
namespace Sto
open Skew (at0 isW atW rowW rowsW firstsN needS)
def oneL (l:List Nat):List (List Nat):=l.map λx=>[x]
theorem zag (l:List Nat):(oneL l).length=l.length:=List.length_map ..
theorem zgE (l:List Nat) {i:Nat} (h:i<l.length):(oneL l)[i]'(by rw [zag];exact h) = [l[i]]:=by unfold oneL;rw [List.getElem_map]
theorem zlX {l:List Nat} (h:∀ z ∈ l,z<Num.top) (i:Nat):at0 l i<Num.top:=by
 unfold Skew.at0;rw [List.getD_eq_getElem?_getD];by_cases q:i<l.length
 ·rw [List.getElem?_eq_getElem q];exact h _ (List.getElem_mem q)
 rw [List.getElem?_eq_none vd];decide
theorem zpf (l:List Nat) {i:Nat} (h:i<l.length):at0 l i=l[i]:=by unfold Skew.at0;rw [List.getD_eq_getElem?_getD,List.getElem?_eq_getElem h];rfl
theorem zsM (l:List Nat) {i:Nat} (h:l.length<=i):at0 l i=0:=by unfold Skew.at0;rw [List.getD_eq_getElem?_getD,List.getElem?_eq_none h];rfl
section
variable {l:List Nat}
theorem zpg {l:List Nat} (hl:∀ z ∈ l,z<Num.top) (hc:l.length<=4096) {j:Nat} (K:j<=l.length):(rowW l j).length=4 /\ ∀ z ∈ rowW l j,z<Num.top:=by
 refine ⟨rfl,λz I=>?_⟩;have J:atW l.length j<Num.top:=by
  refine Nat.lt_of_lt_of_le (show atW l.length j<65536 from ?_) (by decide);unfold Skew.atW Skew.firstsN;split <;> (try split) <;> omega
 unfold Skew.rowW at I;simp only [List.mem_cons,List.not_mem_nil,or_false] at I;rcases I with rfl | rfl | rfl | rfl
 ·exact zlX hl _
 ·exact zlX hl _
 ·exact zlX hl _
 exact J
theorem zhv (l:List Nat) (i:Nat):∀ k,(rowsW l i).length<=(rowsW l (i+k)).length
 | 0=>Nat.le_refl _
 | k+1=>by
  refine Nat.le_trans (zhv l i k) ?_;rw [show i+(k+1)=i+k+1 from rfl,Skew.zfl,List.length_append];exact Nat.le_add_right _ _
theorem zrI (l:List Nat) {i:Nat} (hi:i<=l.length) (h:isW l.length i=true):(rowsW l i).length<needS l.length:=by
 have:=zhv l (i+1) (l.length-i);rw [Skew.zfl,if_pos h,List.length_append,List.length_singleton,show i+1+(l.length-i)=l.length+1 from by omega,Skew.zeO] at this;omega
variable {g:Cx} {B:List (Nat × Blk)} {F:List Fl} {H A C:List Sh} {T:Mem} {n p q i w k:Nat} {fn s:tt} {z:Bool}
theorem zgF (hl:∀ z ∈ l,z<Num.top):RowsOK 1 (oneL l):=λr J=>by
 obtain ⟨z,K,rfl⟩:=List.mem_map.1 J;exact ⟨rfl,λy I=>by rw [List.mem_singleton.1 I];exact hl z K⟩
theorem zph {j:Nat} (I:Op g B F (A ++ rdR q fn 1 (oneL l) (min j l.length) z :: C) n T) {bq:Nat} (hb:(bq,rpB q) ∈ B) (hl:∀ z ∈ l,1<=z/\z<Num.top) (hc:l.length<=4096) (hn:n+5<=16384) (hH:(A ++ C).length<=7) :
  ACall prog 250 #[.pointer (some ⟨bq,0,none⟩)] T λv T'=>v = .tuple #[.int .u64 (at0 l j:Nat),.nilIface] /\ ∃ z',Op g B F (A ++ rdR q fn 1 (oneL l) (min (j+1) l.length) z' :: C) (n+5) T':=by
 have V:=I.o.mem _ hb;unfold rpB at V;by_cases K:j<l.length
 ·have Z:=(hl _ (List.getElem_mem K)).1;rw [Nat.min_eq_left (Nat.le_of_lt K)] at I;have U:=zel _ I (zgF λz Z=>(hl z Z).2) (Nat.le_refl 1) (by decide) (by rw [zag];omega) (by rw [zag];exact K) hn hH;rw [zgE l K] at U;rw [zpf l K,Nat.min_eq_left K];generalize l[j]=z at *;refine k_E1 27 func250 ?_;refine r9_ ?_;refine ca_ rfl (U) ?_;rintro _ T1 ⟨b,rfl,J⟩;have Y:=J.o.1;(simp only [List.map_cons,List.map_nil] at Y;unfold nU at Y);refine r16_ ?_;refine cF_ ?_;refine r9_ ?_;refine cF_ ?_;refine r13_ ?_;refine ⟨_,T1,⟨_,_,rfl,⟨_,_,rfl,rfl,rfl⟩,rfl⟩,zae,?_⟩;exact ⟨rfl,false,J.tl⟩
 rw [zsM l vd,show min (j+1) l.length=(oneL l).length from by rw [zag];omega];rw [show min j l.length=(oneL l).length from by rw [zag];omega] at I;have U:=zb2 _ I (Nat.le_refl 1) (by decide) (by rw [zag];omega);obtain ⟨f0,h0,X⟩:=Op.rq _ I;unfold rdB at X;dsimp only at X;refine k_E1 27 func250 ?_;refine r9_ ?_;refine cp_ rfl (U) ?_;refine r7_ ?_;refine kw_ [0,1,2,3,4] ?_;refine r9_ ?_;refine cT_ ?_;refine r6_ ?_;refine cp_ rfl (zaj _ _) ?_;refine r7_ ?_;refine ⟨_,T,⟨_,_,rfl,⟨_,_,rfl,rfl,rfl⟩,rfl⟩,zae,?_⟩;exact ⟨rfl,z,I.mono vd⟩
theorem zpi {b7 b12 b11 j tot:Nat} {out:List (List Nat)} (I:Op g B F (rdR p fn 1 (oneL l) i z :: wtR q s 4 out k :: H) n T) (h7:(b7,rpB p) ∈ B) (an:(b12,⟨31,[.int .u64 (firstsN l.length:Nat)],1⟩) ∈ B) (ao:(b11,bxB q) ∈ B) (hl:∀ z ∈ l,z<Num.top) (hc:l.length<=4096) (hj:j<=l.length) (hk:k=Rec.needN 4 tot) (ho:isW l.length j=true->out.length<tot) (ht:tot<=65536) (hn:n+20<=16384) (hH:H.length<=5) :
  ACall prog 227 #[.int .u64 (j:Nat),.agg #[.int .u64 (at0 l j:Nat),.int .u64 (at0 l (j+1):Nat),.int .u64 (at0 l (j+2):Nat)],.pointer (some ⟨b7,0,none⟩),.pointer (some ⟨b12,0,none⟩),.pointer (some ⟨b11,0,none⟩)] T λv T'=>v = .nilIface/\Op g B F (rdR p fn 1 (oneL l) i z :: wtR q s 4 (out ++ if isW l.length j=true then [rowW l j] else []) k :: H) (n+20) T':=by
 have o7:=I.o.mem _ h7;have X:=I.o.mem _ an;have V:=I.o.mem _ ao;obtain ⟨f0,h0,Y⟩:=Op.rq [] I;unfold rpB at o7;unfold bxB at V;unfold rdB at Y;dsimp only at Y;rw [zag] at Y;have aE:firstsN l.length<=4096:=by unfold Skew.firstsN;split <;> omega
 have af:=zpg hl hc hj;have ad:∀ {r1 r2:Nat} {k1:Blk} (cs:List tu),cs=(rowW l j).map nU->isW l.length j=true->Fresh T r1->Fresh (T.set r1 k1) r2->ACall prog 49 #[self q,.slice (some ⟨r2,0,none⟩) 4 4] ((T.set r1 k1).set r2 ⟨31,cs,4⟩) λrv T'=>rv = .int .i64 0/\Op g B F (rdR p fn 1 (oneL l) i z :: wtR q s 4 (out ++ if isW l.length j=true then [rowW l j] else []) k :: H) (n+20) T':=λ{r1 r2 k1} cs au hw g1 g2=>by
  rw [if_pos hw,<- zaX];exact (zbT [_] (rowW l j) tot (I.new g1 k1) g2 au af.1 af.2 (by decide) (by decide) hk (ho hw) ht hn (by show H.length+1<=7;omega)).mono λrv T' ⟨e,J⟩=>⟨e,J.tl⟩
 by_cases hw:isW l.length j=true
 ·have hW:=hw;have aB:((j / 3:Nat):Int)=(j:Int) / 3:=rfl;unfold Skew.isW at hw;simp only [Bool.and_eq_true,Bool.not_eq_true',Bool.and_eq_false_iff,decide_eq_true_eq,decide_eq_false_iff_not] at hw;rcases (show (j≠l.length/\j % 3=1)\/(j≠l.length/\j % 3=2)\/(j=l.length/\j % 3=1) from by omega) with ⟨e0,e1⟩ | ⟨e0,e1⟩ | ⟨rfl,e1⟩
  ·skip
   refine k_E5 44 func227 ?_;refine r2_ ?_;refine vA (cs:=[_,_,_]) (zab rfl) rfl ?_;intro b6 f6;have U:=f6
   repeat ((with_reducible replace U:=zaa U);obtain ⟨U,_⟩:=U)
   have:=U.ne o7;have:=U.ne' o7
   have:=U.ne X;have:=U.ne' X
   have:=U.ne V;have:=U.ne' V
   have:=U.ne Y;have:=U.ne' Y
   refine nl_ ?_;refine r21_ ?_;refine cF_ ?_;refine r6_ ?_;refine rC (vh rfl rfl (zaf (c:=false) (zaJ _ _) (decide_eq_false vd))) ?_;refine r8_ ?_;refine cF_ ?_;refine r8_ ?_;refine cF_ ?_;refine r13_ ?_;refine vD (cs:=[_,_,_,_]) (zab rfl) zaq rfl rfl rfl rfl ?_;intro ag Z;have K:=Z
   repeat ((with_reducible replace K:=zaa K);obtain ⟨K,_⟩:=K)
   have:=K.ne o7;have:=K.ne' o7
   have:=K.ne X;have:=K.ne' X
   have:=K.ne V;have:=K.ne' V
   have:=K.ne Y;have:=K.ne' Y
   refine ca_ rfl (ad _ (by unfold Skew.rowW Skew.atW nU;rw [if_neg vd];rfl) hW f6 Z) ?_;rintro _ T1 ⟨rfl,J⟩;refine cp_ rfl (zaj _ _) ?_;refine r3_ ?_;refine kw_ [0,1,2,3,4,6,7,8,11,26] ?_;refine s1_ ?_;refine ⟨_,T1,⟨_,_,rfl,rfl,rfl⟩,zae,?_⟩;exact ⟨rfl,J⟩
  ·skip
   refine k_E5 44 func227 ?_;refine r2_ ?_;refine vA (cs:=[_,_,_]) (zab rfl) rfl ?_;intro b6 f6;have U:=f6
   repeat ((with_reducible replace U:=zaa U);obtain ⟨U,_⟩:=U)
   have:=U.ne o7;have:=U.ne' o7
   have:=U.ne X;have:=U.ne' X
   have:=U.ne V;have:=U.ne' V
   have:=U.ne Y;have:=U.ne' Y
   refine nl_ ?_;refine r21_ ?_;refine cF_ ?_;refine r6_ ?_;refine rC (vh rfl rfl (zaf (c:=false) (zaJ _ _) (decide_eq_false vd))) ?_;refine r8_ ?_;refine cF_ ?_;refine r8_ ?_;refine cT_ ?_;refine r8_ ?_;refine kw_ [0,1,2,3,4,6,7,8,11,26] ?_;refine r10_ ?_;refine vD (cs:=[_,_,_,_]) (zab rfl) zaq rfl rfl rfl rfl ?_;intro ag Z;have K:=Z
   repeat ((with_reducible replace K:=zaa K);obtain ⟨K,_⟩:=K)
   have:=K.ne o7;have:=K.ne' o7
   have:=K.ne X;have:=K.ne' X
   have:=K.ne V;have:=K.ne' V
   have:=K.ne Y;have:=K.ne' Y
   refine ca_ rfl (ad _ (by unfold Skew.rowW Skew.atW nU;rw [if_pos e1];rfl) hW f6 Z) ?_;rintro _ T1 ⟨rfl,J⟩;refine cp_ rfl (zaj _ _) ?_;refine r4_ ?_;refine ⟨_,T1,⟨_,_,rfl,rfl,rfl⟩,zae,?_⟩;exact ⟨rfl,J⟩
  skip
  refine k_E5 44 func227 ?_;refine r2_ ?_;refine vA (cs:=[_,_,_]) (zab rfl) rfl ?_;intro b6 f6;have U:=f6
  repeat ((with_reducible replace U:=zaa U);obtain ⟨U,_⟩:=U)
  have:=U.ne o7;have:=U.ne' o7
  have:=U.ne X;have:=U.ne' X
  have:=U.ne V;have:=U.ne' V
  have:=U.ne Y;have:=U.ne' Y
  refine nl_ ?_;refine r21_ ?_;refine cF_ ?_;refine r6_ ?_;refine rC (vh rfl rfl (zaf (c:=true) (zaJ _ _) (decide_eq_true rfl))) ?_;refine r3_ ?_
  first|refine k_q 21 ?_|refine rG 21 (vh rfl rfl (zaf (c:=false) (zfW _ _) (by rw [decide_eq_true vd];rfl))) ?_
  refine r4_ ?_;refine cF_ ?_;refine r8_ ?_;refine kw_ [0,1,2,3,4,6,7,8,11,26] ?_;refine cF_ ?_;refine r13_ ?_;refine vD (cs:=[_,_,_,_]) (zab rfl) zaq rfl rfl rfl rfl ?_;intro ag Z;have K:=Z
  repeat ((with_reducible replace K:=zaa K);obtain ⟨K,_⟩:=K)
  have:=K.ne o7;have:=K.ne' o7
  have:=K.ne X;have:=K.ne' X
  have:=K.ne V;have:=K.ne' V
  have:=K.ne Y;have:=K.ne' Y
  refine ca_ rfl (ad _ (by unfold Skew.rowW Skew.atW nU;rw [if_neg vd];rfl) hW f6 Z) ?_;rintro _ T1 ⟨rfl,J⟩;refine cp_ rfl (zaj _ _) ?_;refine r4_ ?_;refine ⟨_,T1,⟨_,_,rfl,rfl,rfl⟩,zae,?_⟩;exact ⟨rfl,J⟩
 rw [if_neg hw,List.append_nil];have am:j % 3=0\/(j=l.length/\j % 3=2):=by
  unfold Skew.isW at hw;simp only [Bool.and_eq_true,Bool.not_eq_true',Bool.and_eq_false_iff,decide_eq_true_eq,decide_eq_false_iff_not] at hw;omega
 rcases am with e0 | ⟨rfl,e1⟩
 ·skip
  refine k_E5 44 func227 ?_;refine r2_ ?_;refine vA (cs:=[_,_,_]) (zab rfl) rfl ?_;intro b6 f6;have U:=f6
  repeat ((with_reducible replace U:=zaa U);obtain ⟨U,_⟩:=U)
  have:=U.ne o7;have:=U.ne' o7
  have:=U.ne X;have:=U.ne' X
  have:=U.ne V;have:=U.ne' V
  have:=U.ne Y;have:=U.ne' Y
  refine nl_ ?_;refine r21_ ?_;refine cT_ ?_;refine r2_ ?_;refine cT_ ?_;refine r8_ ?_;refine ⟨_,T,⟨_,_,rfl,rfl,rfl⟩,zae,?_⟩;exact ⟨rfl,I.mono vd⟩
 skip
 refine k_E5 44 func227 ?_;refine r2_ ?_;refine vA (cs:=[_,_,_]) (zab rfl) rfl ?_;intro b6 f6;have U:=f6
 repeat ((with_reducible replace U:=zaa U);obtain ⟨U,_⟩:=U)
 have:=U.ne o7;have:=U.ne' o7
 have:=U.ne X;have:=U.ne' X
 have:=U.ne V;have:=U.ne' V
 have:=U.ne Y;have:=U.ne' Y
 refine nl_ ?_;refine r21_ ?_;refine kw_ [0,1,2,3,4,6,7,8,11] ?_;refine cF_ ?_;refine r6_ ?_;refine rC (vh rfl rfl (zaf (c:=true) (zaJ _ _) (decide_eq_true rfl))) ?_;refine r3_ ?_
 first|refine k_q 21 ?_|refine rG 21 (vh rfl rfl (zaf (c:=true) (zfW _ _) (by rw [Bool.not_eq_true',decide_eq_false_iff_not];omega))) ?_
 refine r4_ ?_;refine cT_ ?_;refine r8_ ?_;refine ⟨_,T,⟨_,_,rfl,rfl,rfl⟩,zae,?_⟩;exact ⟨rfl,I.mono vd⟩
def u3 (x y z:Nat):List tu:=[.int .u64 (x:Nat),.int .u64 (y:Nat),.int .u64 (z:Nat)]
structure WiX where
  T:Mem
  z:Bool
theorem zpj {b7 b12 b11:Nat} (I:Op g B F (rdR p fn 1 (oneL l) 0 true :: wtR q s 4 [] (Rec.needN 4 (needS l.length)) :: H) 0 T) (h7:(b7,rpB p) ∈ B) (af:(b12,⟨31,[.int .u64 (firstsN l.length:Nat)],1⟩) ∈ B) (ag:(b11,bxB q) ∈ B) (hl:∀ z ∈ l,1<=z/\z<Num.top) (hc:l.length<=60) (hH:H.length<=4) :
  ACall prog 226 #[self p,.func (.func 227) #[] #[.pointer (some ⟨b7,0,none⟩),.pointer (some ⟨b12,0,none⟩),.pointer (some ⟨b11,0,none⟩)]] T λv T'=>v = .nilIface/\Op g B F (wtR q s 4 (rowsW l (l.length+1)) (Rec.needN 4 (needS l.length)) :: H) 2000 T':=by
 have az:needS l.length<=100:=by unfold Skew.needS Skew.firstsN;split <;> omega
 refine k_E2 61 func226 ?_;refine r2_ ?_;refine vo (zab rfl) rfl rfl ?_;intro K f2;refine nl_ ?_;refine r5_ ?_;refine ARun.alloc (zab rfl) zbY ?_;intro V f5;refine nl_ ?_;refine r2_ ?_;have I2:=(I.new f2 (rpB p)).new f5 ⟨306,u3 0 0 0,3⟩;generalize ad:(T.set K (rpB p)).set V ⟨306,u3 0 0 0,3⟩=T2 at I2;refine AWP.less T2 (by rw [<- ad];exact Mem.Less.refl _) ?_;have hm:∀ {y:Nat × Blk} {k:Blk},y ∈ B->y ∈ (V,k) :: (K,rpB p) :: B:=λh=>List.mem_cons_of_mem _ (List.mem_cons_of_mem _ h);refine r13_ ?_;refine AWP.loop (X:=WiX × Nat) (λX=>[(1,.func (.func 227) #[] #[.pointer (some ⟨b7,0,none⟩),.pointer (some ⟨b12,0,none⟩),.pointer (some ⟨b11,0,none⟩)]),(2,.pointer (some ⟨K,0,none⟩)),(5,.pointer (some ⟨V,0,none⟩)),(6,.func (.func 250) #[] #[.pointer (some ⟨K,0,none⟩)]),(15,.int .i64 (X.2:Nat))]) (λX=>X.1.T) (λX=>X.2<=2/\Op g ((V,⟨306,u3 0 (if 1<=X.2 then at0 l 0 else 0) (if 2<=X.2 then at0 l 1 else 0),3⟩) :: (K,rpB p) :: B) F (rdR p fn 1 (oneL l) (min X.2 l.length) X.1.z :: wtR q s 4 [] (Rec.needN 4 (needS l.length)) :: H) (5*X.2) X.1.T) (λX=>2-X.2) ((⟨T2,true⟩,0)) ⟨rfl,rfl,rfl,rfl,rfl,trivial⟩ (Mem.Less.refl _) (⟨Nat.zero_le _,by rw [Nat.zero_min];exact I2⟩) ?_;rintro ⟨⟨T3,z3⟩,j⟩ ⟨hj,J⟩;(try dsimp only at *);clear I I2;replace hj:j<=2:=hj;replace J:Op g ((V,⟨306,u3 0 (if 1<=j then at0 l 0 else 0) (if 2<=j then at0 l 1 else 0),3⟩) :: (K,rpB p) :: B) F (rdR p fn 1 (oneL l) (min j l.length) z3 :: wtR q s 4 [] (Rec.needN 4 (needS l.length)) :: H) (5*j) T3:=J;have Y:=zph (A:=[]) J (bq:=K) (by simp) hl vd vd (by show H.length+1<=7;omega);obtain rfl | rfl | rfl:j=0\/j=1\/j=2:=by omega
 ·refine r6_ ?_;refine cT_ ?_;refine r13_ ?_;refine vn (zab rfl) znG rfl rfl (Y) ?_;rintro _ T4 ⟨rfl,z4,J⟩;have Z:=J.o.1;refine r11_ ?_;refine rC (vh rfl rfl Er.neNil) ?_;refine r2_ ?_;refine cF_ ?_;refine r7_ ?_;refine vm rfl rfl zaw rfl Z (show 1<3 by decide) rfl ?_;refine nm_ ?_;refine r3_ ?_;refine kw_ [1,2,5,6,15,16,7,8,9,24] ?_;refine r5_ ?_;refine ⟨(⟨T4.set V ⟨306,u3 0 (at0 l 0) 0,3⟩,z4⟩,1),?_,?_,?_,?_⟩<;>try dsimp only
  ·exact ⟨rfl,rfl,rfl,rfl,rfl,trivial⟩
  ·exact Mem.Less.refl _
  ·exact ⟨by decide,J.put [] ⟨306,u3 0 (at0 l 0) 0,3⟩⟩
  decide
 ·refine r6_ ?_;refine cT_ ?_;refine r13_ ?_;refine vn (zab rfl) znG rfl rfl (Y) ?_;rintro _ T4 ⟨rfl,z4,J⟩;have Z:=J.o.1;refine r11_ ?_;refine rC (vh rfl rfl Er.neNil) ?_;refine r2_ ?_;refine cF_ ?_;refine r7_ ?_;refine vm rfl rfl zaw rfl Z (show 2<3 by decide) rfl ?_;refine nm_ ?_;refine r8_ ?_;refine ⟨(⟨T4.set V ⟨306,u3 0 (at0 l 0) (at0 l 1),3⟩,z4⟩,2),?_,?_,?_,?_⟩<;>try dsimp only
  ·exact ⟨rfl,rfl,rfl,rfl,rfl,trivial⟩
  ·exact Mem.Less.refl _
  ·exact ⟨by decide,J.put [] ⟨306,u3 0 (at0 l 0) (at0 l 1),3⟩⟩
  decide
 clear Y;refine r6_ ?_;refine cF_ ?_;refine r12_ ?_;refine AWP.loop (X:=WiX × Nat × Nat) (λX=>[(1,.func (.func 227) #[] #[.pointer (some ⟨b7,0,none⟩),.pointer (some ⟨b12,0,none⟩),.pointer (some ⟨b11,0,none⟩)]),(2,.pointer (some ⟨K,0,none⟩)),(5,.pointer (some ⟨V,0,none⟩)),(6,.func (.func 250) #[] #[.pointer (some ⟨K,0,none⟩)]),(10,.int .u64 (X.2.1:Nat))]) (λX=>X.1.T) (λX=>X.2.1<=l.length+1/\Op g ((V,⟨306,u3 X.2.2 (at0 l X.2.1) (at0 l (X.2.1+1)),3⟩) :: (K,rpB p) :: B) F (rdR p fn 1 (oneL l) (min (X.2.1+2) l.length) X.1.z :: wtR q s 4 (rowsW l X.2.1) (Rec.needN 4 (needS l.length)) :: H) (10+25*X.2.1) X.1.T) (λX=>l.length+1-X.2.1) ((⟨T3,z3⟩,0,0)) ⟨rfl,rfl,rfl,rfl,rfl,trivial⟩ (Mem.Less.refl _) (⟨Nat.zero_le _,J⟩) ?_;rintro ⟨⟨T5,z5⟩,i,v0⟩ ⟨hi,J⟩;(try dsimp only at *);replace hi:i<=l.length+1:=hi;replace J:Op g ((V,⟨306,u3 v0 (at0 l i) (at0 l (i+1)),3⟩) :: (K,rpB p) :: B) F (rdR p fn 1 (oneL l) (min (i+2) l.length) z5 :: wtR q s 4 (rowsW l i) (Rec.needN 4 (needS l.length)) :: H) (10+25*i) T5:=J;obtain ⟨Z,o2,-⟩:=J.o;obtain ⟨f0,h0,oq⟩:=Op.rq [] J
 (unfold rdB at oq;dsimp only at oq;rw [zag] at oq;unfold rpB at o2)
 by_cases aa:i<=l.length
 ·refine r11_ ?_;refine kw_ [1,2,5,6,10,36] ?_;refine cT_ ?_;refine r5_ ?_;refine dr_ [i0_,i1_,o2_] [2] ?_;refine s1_ ?_;refine dP (hc:=λ_=>vZ (l:=1) underlying306 zaw rfl rfl (by decide)) (h:=?_);refine zac rfl ?_;refine vQ (n:=1) (q:=2) (news:=[.int .u64 (at0 l i:Nat),.int .u64 (at0 l (i+1):Nat)]) (zab rfl) zaq rfl Z (Nat.zero_le _) rfl rfl (vq Z 1 _ (λj v hj=>by rw [show 1+j=j+1 from Nat.add_comm 1 j];exact hj)) rfl (by simp [Value.oneCell']) (.inl (show 2<=3 by decide)) ?_;have J:=J.put [] ⟨306,u3 (at0 l i) (at0 l (i+1)) (at0 l (i+1)),3⟩;refine zad ⟨nz_,?_⟩;refine r5_ ?_;have U:=zph (A:=[]) J (bq:=K) (by simp) hl vd vd (by show H.length+1<=7;omega);refine vn (zab rfl) znG rfl rfl (U) ?_;rintro _ T7 ⟨rfl,z7,J⟩;clear U;have aj:=J.o.1;refine r11_ ?_;refine rC (vh rfl rfl Er.neNil) ?_;refine r2_ ?_;refine cF_ ?_;refine r6_ ?_;refine vm rfl rfl zaw rfl aj (show 2<3 by decide) rfl ?_;refine nm_ ?_;refine r2_ ?_;have J:=J.put [] ⟨306,u3 (at0 l i) (at0 l (i+1)) (at0 l (i+2)),3⟩;have aF:=J.o.1;have ak:=zpi (tot:=needS l.length) J (hm h7) (hm af) (hm ag) (λz hz=>(hl z hz).2) vd aa rfl (λhw=>zrI l aa hw) vd vd vd;refine r5_ ?_;refine vn (zab rfl) zvp rfl rfl (ak) ?_;rintro _ T9 ⟨rfl,J⟩;rw [<- Skew.zfl] at J;refine r3_ ?_;refine kw_ [1,2,5,6,10,36,11,12,48,13] ?_;refine r3_ ?_;refine rC (vh rfl rfl Er.neNil) ?_;refine r2_ ?_;refine cF_ ?_;refine r9_ ?_;refine ⟨(⟨T9,z7⟩,i+1,at0 l i),?_,?_,?_,?_⟩<;>try dsimp only
  ·exact ⟨rfl,rfl,rfl,rfl,rfl,trivial⟩
  ·exact Mem.Less.refl _
  ·exact ⟨by omega,J⟩
  omega
 obtain rfl:i=l.length+1:=by omega
 refine r11_ ?_;refine cF_ ?_;refine r8_ ?_;have U:=zbd [] J;refine ca_ rfl (U) ?_;rintro _ T6 ⟨_,f6,J⟩;clear U;refine r8_ ?_;refine ⟨_,T6,⟨_,_,rfl,rfl,rfl⟩,zae,?_⟩;exact ⟨rfl,(J.tl.tl.tl).mono vd⟩
end
end Sto
end
section
open Go.RowKit Go.Shelf
open Mv Disk Num
namespace Sto
def bxE:Blk:=⟨52,[.nilIface],1⟩
section
variable {g:Cx} {B:List (Nat × Blk)} {F:List Fl} {H:List Sh} {T:Mem} {q w k:Nat} {s fn:tt} {rows:List (List Nat)}
theorem zpk (I:Op g B F (wtR q s 1 [] (Rec.needN 1 rows.length) :: H) 0 T) (j:Nat) (hj:j<w) (hf:flR fn w rows ∈ F) (hW:∀ h ∈ H,h.isW=true) (hr:RowsOK w rows) (h1:1<=w) (h8:w<=8) (hc:rows.length<=100) (hH:H.length<=4) :
  ACall prog 196 #[self g.k,.string fn,.int .i64 (j:Nat),self q] T λv T'=>v = .nilIface/\Op g B (flR s 1 (rows.map λr=>[r.getD j 0]) :: F) H 0 T':=by
 refine vI (args:=[self g.k,.string fn,.int .i64 (j:Nat),self q]) (rs:=[.cell 8 52]) 50 [(0,self g.k),(1,.string fn),(2,.int .i64 (j:Nat)),(3,self q)] func196 rfl rfl (Nat.le_of_ble_eq_true rfl) rfl ⟨rfl,rfl,rfl,rfl,trivial⟩ ?_;refine vj (rs:=[.cell 8 52]) rfl ?_;refine s1_ ?_;refine vo (zab rfl) rfl rfl ?_;intro b6 f6;refine nl_ ?_;refine vo (zab rfl) rfl rfl ?_;intro b7 f7;refine nl_ ?_;refine ARun.alloc (zab rfl) za_ ?_;intro b8 f8;refine nl_ ?_;refine r2_ ?_;have I:=((I.new f6 ⟨3,[.int .i64 (j:Nat)],1⟩).new f7 (bxB q)).new f8 bxE;refine vj (rs:=[.cell 8 52]) rfl ?_;refine r3_ ?_;have K:=zcI I hf h1 h8 (by show rows.length<=_;omega) (List.forall_mem_cons.2 ⟨.inl rfl,λh hh=>.inl (hW h hh)⟩);refine ca_ rfl (K) ?_;rintro _ T1 ⟨p,rfl,I⟩;clear K;refine r7_ ?_;refine kM_ [0,1,2,3,6,7,8,9,10] ?_;refine vj (rs:=[.cell 8 52]) rfl ?_;refine r3_ ?_;refine rC (vh rfl rfl Er.neNil) ?_;refine r2_ ?_;refine cF_ ?_;refine r2_ ?_;refine vO ?_;refine AWPM.seq ?_;refine r2_ ?_;refine ca_ rfl (zgx T1 p) ?_;rintro _ S9 ⟨bq,rfl,fq,h9⟩;rw [h9];clear h9 S9;intro S0 w0 e w1 af hg;refine wpIn_block ?_;refine zdg (N:=50) (p1:=25) bq 0 45 (λk=>wtR q s 1 ((rows.take k).map λr=>[r.getD j 0]) (Rec.needN 1 rows.length) :: H) (λ_ B'=>B'=(bq,rpB p) :: (b8,bxE) :: (b7,bxB q) :: (b6,⟨3,[.int .i64 (j:Nat)],1⟩) :: B) [(6,_),(7,_),(8,_),(9,_),(24,_)] [(7,_),(8,_),(9,_)] (hg.sub ⟨rfl,rfl,rfl,rfl,rfl,trivial⟩) rfl (zab rfl) h1 h8 hc hr (by decide) (λ_=>by show H.length+1<=7;omega) (λ_ _ e=>by rw [e];exact List.mem_cons_self ..) ⟨true,_,rfl,I.new fq (rpB p)⟩ af ⟨rfl,rfl,rfl,trivial⟩ (rs:=[.cell 8 52]) (λ_ _ h=>h) rfl ?round ?done
 case round =>
  rintro l k gb _ M hk rfl J;obtain ⟨og,-,-,Y,p6,-⟩:=J.o;have Z:=hr _ (List.getElem_mem hk);have aa:=zrx (λr:List Nat=>[r.getD j 0]) rows hk;have ae:=zry (λr:List Nat=>[r.getD j 0]) rows (Nat.le_of_lt hk);generalize rows[k]=V at *;have X:j<V.length:=by rw [Z.1];exact hj
  have hz:V.getD j 0=V[j]:=by rw [List.getD_eq_getElem?_getD,List.getElem?_eq_getElem X];rfl
  rw [hz] at aa;have ag:=Z.2 _ (List.getElem_mem X);unfold bxB at Y;refine GWP.region ?_;refine r3_ ?_;refine kG_ [25,6,7,8,9,11] ?_;refine GWP.block ?_;refine GWP.seq ?_;refine GWP.draw [i0_,i1_,i2_,i3_,i4_,o5_,o6_,o7_,i8_] [6,7] mixed (by kernel_rfl) ?_;refine r4_ ?_;refine dC (hc:=Calm.load zbE rfl (v:=nU V[j]) (zbZ (g:=nU) j X og vd)) (h:=?_);refine zac rfl ?_;refine vk (zab rfl) zaq rfl rfl ?_;intro ay ac;have U:=ac
  repeat ((with_reducible replace U:=zaa U);obtain ⟨U,_⟩:=U)
  have:=U.ne p6;have:=U.ne' p6
  have:=U.ne Y;have:=U.ne' Y
  refine zad ⟨ny_,?_⟩;refine zac rfl ?_;have K:=zbT [_] [V[j]] rows.length J ac rfl rfl (by simpa using ag) (by decide) (by decide) rfl (by rw [ae];exact hk) vd vd (by show H.length+1<=7;omega);refine ca_ rfl (K) ?_;rintro _ M2 ⟨rfl,J⟩;clear K;refine zad ⟨nz_,?_⟩;refine zac rfl ?_;refine cp_ rfl (zaj _ _) ?_;refine zad ⟨nz_,?_⟩;refine r3_ ?_;refine kG_ [25,6,7,8,9,11,12] ?_;refine GWP.seq ?_;refine GWP.region ?_;refine s1_ ?_;refine rC (vh rfl rfl Er.neNil) ?_;refine r2_ ?_;refine kG_ [25,6,7,8,9,11,12,35] ?_;refine GWP.condF rfl (by first|rfl|(simp;done)|(simp;omega)) ?_;refine GWP.skip ?_;refine s1_ ?_;exact ⟨rfl,false,_,rfl,by rw [aa,<- zaX];exact (J.tl).mono vd⟩
 case done =>
  rintro D z0 _ M rfl J;refine GWP.seq ?_;refine GWP.region ?_;refine s1_ ?_;have K:=zbd [] J;refine ca_ rfl (K) ?_;rintro _ M2 ⟨rfl,f,J⟩;clear K;obtain ⟨oq,-,p8,Y,-⟩:=J.o
  (unfold rdB at oq;dsimp only at oq;unfold bxB at Y)
  refine r2_ ?_;refine kG_ [7,8,9] ?_;refine GWP.seq ?_;refine GWP.seq ?_;refine GWP.region ?_;refine r4_ ?_;refine cp_ rfl (zaj _ _) ?_;refine r3_ ?_;refine kG_ [7,8,9,13] ?_;refine GWP.seq ?_;refine GWP.region ?_;refine s1_ ?_;refine rC (vh rfl rfl Er.neNil) ?_;refine r2_ ?_;refine kG_ [7,8,9,13,45] ?_;refine GWP.condF rfl (by first|rfl|(simp;done)|(simp;omega)) ?_;refine GWP.skip ?_;refine s1_ ?_;refine GWP.seq ?_;refine GWP.region ?_;refine s1_ ?_;have K:=zbK [] (c':=rows.length) J (by simp) (by decide) rfl vd vd;refine ca_ rfl (K) ?_;rintro _ M3 ⟨rfl,J⟩;clear K;refine cp_ rfl (zaj _ _) ?_;obtain ⟨-,-,p8,-⟩:=J.o;unfold bxE at p8;refine st_ p8 ?_;refine r2_ ?_;refine kG_ [7,8,9,13,45] ?_;refine GWP.ret ?_;refine ⟨_,M3,⟨_,_,_,rfl,.inl ⟨zaV,rd_⟩,rfl,rfl⟩,(by rw [vB _ _ _ p8];exact Mem.Less.refl _),?_⟩;exact ⟨rfl,by unfold flR;rw [List.length_map];rw [List.take_length] at J;exact J.tl.tl.tl.tl.tl⟩
end
end Sto
end
section
open Go.RowKit Go.Shelf
open Mv Disk Num Loser
namespace Sto
open Run (nameS sizeN)
theorem Use.any {x:Pl} {s:tt} (h:Use x s 0 0) (f:Nat):Use x s f 0 :=
 ⟨λi hi hh I=>by rw [h.pins i hi hh I,if_neg (λh=>absurd h.1 (Nat.lt_irrefl 0)),if_neg (λh=>absurd h.1 (Nat.lt_irrefl 0))],λJ=>absurd J (Nat.lt_irrefl 0),h.z0⟩
theorem Sh.ok.stays {x y:Pl} {h:Sh} (I:h.ok x) (J:Stays x y):h.ok y:=by
 cases h with
 | rd=>exact Has.stays I J
 | wt=>exact ⟨I.1.stays J,(J.n _).trans I.2.1,I.2.2⟩
def Cx.ls (g:Cx) (ll:List Int) (lc:Nat):Cx:={ g with ll:=ll,lc:=lc }
section
variable {g:Cx} {B:List (Nat × Blk)} {F:List Fl} {H:List Sh} {fr:Nat->Nat × Nat} {S T T':Mem} {x y:Pl} {o:Option (Nat × Nat)} {ts:List tt} {n lc:Nat} {ll:List Int}
theorem OpS.all0 (I:OpS g B F H fr S T x o ts n) (hi:∀ h ∈ H,h.new):∀ s,Use x s 0 0:=λs=>by
 by_cases q:∃ h ∈ H,s=h.nm
 ·obtain ⟨h,hh,rfl⟩:=q;obtain ⟨_,J,_,K,_⟩:=I.hh h hh;rw [K (hi h hh)] at J;exact J.z
 exact I.uo s λh hh e=>q ⟨h,hh,e⟩
theorem OpS.pool (I:OpS g B F H fr S T x o ts n) (hi:∀ h ∈ H,h.new) (hA:ArS S g.a g.p g.b g.c y T') (hp:Ps y n) (hs:Stays x y) (hc:n=0 -> ∀ j,j<y.fr.length->(atF y j).dirty=false) (V:∀ s,Use x s 0 0->Use y s 0 0) (J:Sto.nb y.fr<=lc) (K:∀ j,j<y.fr.length->(atF y j).leased=true->(j:Int) ∈ ll) (hm:lc+8<=g.m):Op (g.ls ll lc) B F H n T' :=
 have X:=I.all0 hi
 ⟨fr,S,y,o,ts,{
  ar:=hA,ps:=hp,cl:=hc,ln:=hs.l.trans I.ln,gm:=I.gm,lm:=hm,sz:=hs.z.trans I.sz,wo:=I.wo,tn:=I.tn,ti:=I.ti,ro:=I.ro,hb:=I.hb,bn:=I.bn,qn:=I.qn,nn:=I.nn,nf:=I.nf
  n4:=λs=>by rw [hs.n];exact I.n4 s
  nb:=Nat.le_trans J (Nat.le_add_left _ _)
  le:=K
  uo:=λs _=>V s (X s)
  hh:=λh hh=>by
   obtain ⟨h1,h2,Y,U,Z⟩:=I.hh h hh;refine ⟨h1,?_,Y.stays hs,U,Z⟩;rw [U (hi h hh)];exact (V _ (X _)).any _
  fs:=λf hf=>(I.fs f hf).stays hs
  di:=λs=>by rw [hs.n];exact I.di s }⟩
theorem sum0:∀ l:List Nat,(∀ z ∈ l,z=0)->l.sum=0
 | [],_=>rfl
 | x :: l,h=>by rw [List.sum_cons,h x (List.mem_cons_self ..),sum0 l λz I=>h z (List.mem_cons_of_mem _ I)]
theorem OpS.hld0 (I:OpS g B F H fr S T x o ts n) (hi:∀ h ∈ H,h.new):hld fr H=0 :=
 sum0 _ λz J=>by
  obtain ⟨h,hh,rfl⟩:=List.mem_map.1 J;rw [(I.hh h hh).2.2.2.1 (hi h hh)];rfl
theorem OpS.nb0 (I:OpS g B F H fr S T x o ts n) (hi:∀ h ∈ H,h.new) (hl:g.lc=0):Sto.nb x.fr=0:=by
 have J:=I.nb;rw [I.hld0 hi,hl] at J;omega
theorem zlY (I:Op g B F H 0 T) (hi:∀ h ∈ H,h.new) (hl:g.lc=0) :
  ACall prog 142 #[self g.a,.int .i64 ((g.m:Int)-8)] T λv T'=>∃ V gc l,v = .tuple #[.slice (some ⟨V,0,none⟩) (g.m-8) gc,.int .i64 0]/\l.length=g.m-8/\Op (g.ls l (g.m-8)) ((V,⟨3,l.flatMap i64s,gc*1⟩) :: B) F H 0 T':=by
 obtain ⟨fr,S,x,o,ts,I⟩:=I;have ac:=I.nb0 hi hl;have ak:=I.gm;have an:=I.ln;obtain ⟨y,l,h1,h2,h3,Z,h5,h6,h7,h8⟩:=zrk (k:=g.m-8) I.ps (by decide) (I.cl rfl) vd;have K:=zd0 I.ar (λk oE oW ok=>zoK g.a g.p g.b g.c x ((g.m:Int)-8) k S oE oW ok (zfh I.ps));rw [show ((g.m-8:Nat):Int)=(g.m:Int)-8 from by omega] at h1;rw [h1] at K;refine K.mono λv T' ⟨v',hv,i2,X,ad,ol,U,J,hr,hT⟩=>?_;subst hr;dsimp only at U J hv hT;rw [h2] at J hv;obtain ⟨V,gc,rfl⟩:=J.some vd;obtain ⟨Y,_⟩:=J.own V gc rfl;refine ⟨V,gc,l,hv,h2,?_⟩;rw [hT];exact (I.pool hi ⟨i2,X,ad,U,rfl⟩ h3 Z (λ_=>h5) h6 vd (λj hj e=>(h8 j (by rw [<- Z.l];exact hj) e).resolve_left λe2=>zt4 I.ps ac (by rw [<- Z.l];exact hj) e2) vd).new Y _
theorem zjr {i:Int} {l:List Int} (I:Op (g.ls (i :: l) lc) B F H n T) (hi:∀ h ∈ H,h.new) :
  ACall prog 145 #[self g.a,.int .i64 i] T λv T'=>Op (g.ls l lc) B F H n T':=by
 obtain ⟨fr,S,x,o,ts,I⟩:=I;obtain ⟨z,e,U,Y,J⟩:=zvI I.ps i;have K:=zd0 I.ar (λk oE oW ok=>zmT g.a g.p g.b g.c x i k S oE oW ok (zfh I.ps));rw [U] at K;refine K.mono λv T' ⟨_,X⟩=>?_;have:=I.pool (ll:=l) (lc:=lc) hi X Y J (λh=>zvX U J.l (I.cl h)) (λs=>zt3 U J.l) (Nat.le_trans (zvZ U J.l) (Nat.le_trans I.nb (by show hld fr H+lc<=lc;rw [I.hld0 hi];omega))) (λj V e2=>by
  obtain ⟨e3,e4⟩:=zvY I.ps U J.l (by rw [<- J.l];exact V) e2;exact (List.mem_cons.1 (I.le j (by rw [<- J.l];exact V) e3)).resolve_left e4) I.lm
 exact this
theorem Op.unl (I:Op (g.ls [] lc) B F H n T) (hi:∀ h ∈ H,h.new) (V:g.ll = []/\g.lc=0):Op g B F H n T:=by
 obtain ⟨fr,S,x,o,ts,I⟩:=I;have K:=zt5 I.ps (λj U e=>by cases I.le j U e) (I.all0 hi);have e:g=g.ls [] 0:=by cases g;obtain ⟨rfl,rfl⟩:=V;rfl
 rw [e];have J:=I.gm;exact ⟨fr,S,x,o,ts,{ I with nb:=by rw [K];exact Nat.zero_le _,lm:=by show 0+8<=_;have:24<=g.m:=J.1;exact Nat.le_trans (by decide) this }⟩
/-! ### Records that were read, each in a block of its own -/
def rowB (w:Nat) (rs:List (Nat × List Nat)):List (Nat × Blk):=rs.map λy=>(y.1,⟨31,y.2.map nU,w⟩)
def rowV (w:Nat) (y:Nat × List Nat):tu:=.slice (some ⟨y.1,0,none⟩) w w
structure GaX where
  M:Mem
  o:Option (Nat × Nat)
  rs:List (Nat × List Nat)
  z:Bool
theorem zpl {q w i0 N:Nat} {s:tt} {rows:List (List Nat)} {z:Bool} (I:Op g B F (rdR q s w rows i0 z :: H) n T) (hr:RowsOK w rows) (h1:1<=w) (h8:w<=8) (hc:rows.length<=65536) (ak:i0<=rows.length) (hN:N<=16384) (hn:n+5*w*rows.length<=16384) (hH:H.length<=6) :
  ACall prog 252 #[self q,.int .i64 (N:Nat)] T λv T'=>∃ M o rs,v=outV o rs.length/\T'=outN 1 M o 161 (rs.reverse.map (rowV w))/\OkO M o rs.length/\rs.length=min N (rows.length-i0)/\rs.reverse.map (·.2)=(rows.drop i0).take rs.length/\Op g (rowB w rs ++ B) F (rdR q s w rows (i0+rs.length) true :: H) (n+5*w*rs.length+1) M:=by
 refine k_E2 26 func252 ?_;refine r12_ ?_;refine AWP.loop (X:=GaX) (λX=>[(0,self q),(1,.int .i64 (N:Nat)),(5,outV X.o X.rs.length)]) (λX=>outN 1 X.M X.o 161 (X.rs.reverse.map (rowV w))) (λX=>Op g (rowB w X.rs ++ B) F (rdR q s w rows (i0+X.rs.length) X.z :: H) (n+5*w*X.rs.length) X.M/\OkO X.M X.o X.rs.length/\X.rs.length<=N/\i0+X.rs.length<=rows.length/\X.rs.reverse.map (·.2)=(rows.drop i0).take X.rs.length) (λX=>N-X.rs.length) (⟨T,none,[],z⟩) ⟨rfl,rfl,rfl,trivial⟩ (Mem.Less.refl _) (⟨I,zcb _,Nat.zero_le _,ak,rfl⟩) ?_;rintro ⟨M,o,rs,z⟩ ⟨I,Z,ad,hi,Y⟩;(try dsimp only at *);replace I:Op g (rowB w rs ++ B) F (rdR q s w rows (i0+rs.length) z :: H) (n+5*w*rs.length) M:=I;replace Z:OkO M o rs.length:=Z;replace ad:rs.length<=N:=ad;replace hi:i0+rs.length<=rows.length:=hi;replace Y:rs.reverse.map (·.2)=(rows.drop i0).take rs.length:=Y;obtain ⟨pa,ca,ah⟩:=zbk Z;have af:5*w*rs.length<=5*w*rows.length:=Nat.mul_le_mul_left _ vd;by_cases q1:rs.length<N
 ·refine r4_ ?_;refine rC (vV underlying346 (congrArg some ah)) ?_;refine r4_ ?_;refine cT_ ?_;by_cases q2:i0+rs.length<rows.length
  ·have af:5*w*(rs.length+1)<=5*w*rows.length:=Nat.mul_le_mul_left _ vd;rw [Nat.mul_add,Nat.mul_one] at af;refine r6_ ?_;have K:=(zel [] I hr h1 h8 hc q2 vd (by show H.length<=7;omega)).frameO (n:=1) (e:=161) (cs:=rs.reverse.map (rowV w)) Z;refine ca_ rfl (K) ?_;rintro _ S1 ⟨M2,⟨b,rfl,J⟩,V,U⟩;clear K;rw [U];clear U S1;refine r14_ ?_;refine cF_ ?_;have ac:=zb6 (e:=161) (cs:=rs.reverse.map (rowV w)) V (by rw [List.length_map,List.length_reverse,Nat.mul_one]);refine r5_ ?_;refine vk (zab rfl) zf4 rfl rfl ?_;intro aq ai;refine vH (n:=1) (o:=o) (k:=rs.length) (m:=1) (cs:=rs.reverse.map (rowV w)) (news:=[rowV w (b,rows[i0+rs.length])]) (zab rfl) zf4 rfl rfl (by rw [List.length_map,List.length_reverse,Nat.mul_one]) V (ac.temp ai) rfl (zeY (vf _ _ _) List.prefix_rfl) rfl (λv hv=>by rw [List.mem_singleton.1 hv];rfl) vd vd ?_;intro o2 aj;refine r4_ ?_;refine ⟨⟨M2,o2,(b,rows[i0+rs.length]) :: rs,false⟩,?_,?_,?_,?_⟩<;>try dsimp only
   ·exact ⟨rfl,rfl,by rw [List.length_cons];rfl,trivial⟩
   ·(rw [List.reverse_cons,List.map_append];exact Mem.Less.refl _)
   ·exact ⟨by rw [List.length_cons,<- Nat.add_assoc,Nat.mul_add,Nat.mul_one,<- Nat.add_assoc];exact J,by rw [List.length_cons];exact aj,q1,q2,by rw [List.reverse_cons,List.map_append,Y,List.length_cons,List.take_succ_eq_append_getElem (by rw [List.length_drop];omega),List.getElem_drop];rfl⟩
   (show N-(rs.length+1)<N-rs.length;omega)
  have e2:i0+rs.length=rows.length:=by omega
  rw [e2] at I;refine r6_ ?_;have K:=(zb2 [] I h1 h8 hc).frameO (n:=1) (e:=161) (cs:=rs.reverse.map (rowV w)) Z;refine ca_ rfl (K) ?_;rintro _ S1 ⟨Sa,⟨rfl,ag⟩,V,U⟩;clear K;rw [U,ag];clear U S1 ag V Sa;refine r14_ ?_;refine kw_ [0,1,5,11,6,7,18] ?_;refine cT_ ?_;refine r9_ ?_;have K:=(zh3 [] I).frameO (n:=1) (e:=161) (cs:=rs.reverse.map (rowV w)) Z;refine ca_ rfl (K) ?_;rintro _ S1 ⟨Sa,⟨_,J⟩,V,U⟩;clear K;rw [U];clear U S1;refine r9_ ?_;refine ⟨_,_,⟨_,_,rfl,rfl,rfl⟩,Mem.Less.refl _,?_⟩;exact ⟨Sa,o,rs,rfl,rfl,V,by omega,Y,by rw [e2];exact J⟩
 refine r4_ ?_;refine rC (vV underlying346 (congrArg some ah)) ?_;refine r4_ ?_;refine cF_ ?_;refine r8_ ?_;have K:=(zh3 [] I).frameO (n:=1) (e:=161) (cs:=rs.reverse.map (rowV w)) Z;refine ca_ rfl (K) ?_;rintro _ S1 ⟨Sa,⟨_,J⟩,V,U⟩;clear K;rw [U];clear U S1;refine r8_ ?_;refine kw_ [0,1,5,11,4] ?_;refine s1_ ?_;refine ⟨_,_,⟨_,_,rfl,rfl,rfl⟩,Mem.Less.refl _,?_⟩;exact ⟨Sa,o,rs,rfl,rfl,V,by omega,Y,J⟩
structure PoX where
  T:Mem
  k:Nat
theorem zuo {q w cc room gs:Nat} {s:tt} {rs:List (Nat × List Nat)} {M:Mem} (I:Op g (rowB w rs ++ B) F (wtR q s w [] (Rec.needN w rs.length) :: H) n M) (hg:Fresh M gs) (hr:∀ y ∈ rs,y.2.length=w /\ ∀ z ∈ y.2,z<Num.top) (h1:1<=w) (h8:w<=8) (hc:rs.length<=65536) (hn:n+5*w*rs.length<=16128) (hH:H.length<=6) :
  ACall prog 253 #[self q,.slice (some ⟨gs,0,none⟩) rs.length cc] (M.set gs ⟨161,rs.reverse.map (rowV w),room⟩) λv T'=>v = .nilIface /\ ∃ out,out.Perm (rs.reverse.map (·.2))/\SortedR out/\Op g B (flR s w out :: F) H 0 T':=by
 have hD:=λ{N F H n} (J:Op g (rowB w rs ++ B) F H n N)=>zcT (S:=M) (T:=N) (D:=rs.map (·.1)) (λk hk=>by
  obtain ⟨y,hy,rfl⟩:=List.mem_map.1 hk;have hm:(y.1,(⟨31,y.2.map nU,w⟩ : Blk)) ∈ rowB w rs ++ B:=List.mem_append_left _ (List.mem_map_of_mem hy);exact (J.o.mem _ hm).trans (I.o.mem _ hm).symm) (J.ro.trans I.ro.symm)
 obtain ⟨V,v1,v2⟩:=rowVs (R:=pickM M (rs.map (·.1))) (rs.reverse.map (rowV w)) (rs.reverse.map (·.2)) (by simp) λi h=>by
  have hi:i<rs.reverse.length:=by simpa using h
  have hm:rs.reverse[i] ∈ rs:=List.mem_reverse.1 (List.getElem_mem hi);rw [List.getElem_map,List.getD_eq_getElem?_getD,List.getElem?_map,List.getElem?_eq_getElem hi];refine zei (hr _ hm).1 h8 ((zaW (List.mem_map_of_mem hm)).trans (I.o.mem _ (List.mem_append_left _ (List.mem_map_of_mem hm))))
 have vl:V.length=rs.length:=by have:=congrArg List.length v2;simpa using this
 have Y:=zrh V (hD I) gs cc room hg vd;rw [vl,v1] at Y;refine k_E2 27 func253 ?_;refine r8_ ?_;refine ca_ rfl (Y) ?_;rintro _ S1 ⟨rfl,K,s1,s2,U⟩;rw [U];clear U S1;have u1:(K.map (·.l)).Perm (rs.reverse.map (·.2)):=by rw [<- v2];exact s1.map _
 have ul:K.length=rs.length:=by rw [s1.length_eq,vl]
 have al:∀ i (hi:i<K.length),K[i].l.length=w /\ ∀ n ∈ K[i].l,n<Num.top:=λi hi=>by
  obtain ⟨y,hy,e⟩:=List.mem_map.1 (u1.mem_iff.1 (List.mem_map_of_mem (f:=(·.l)) (List.getElem_mem hi)));rw [<- e];exact hr y (List.mem_reverse.1 hy)
 clear s1 v1 v2 Y;refine r11_ ?_;refine AWP.loop (X:=PoX) (λX=>[(0,self q),(10,.slice (some ⟨gs,0,none⟩) rs.length cc),(11,.int .i64 (rs.length:Nat)),(12,.int .i64 (X.k:Nat))]) (λX=>X.T.set gs ⟨161,K.map RowV.v,room⟩) (λX=>Op g (rowB w rs ++ B) F (wtR q s w ((K.map (·.l)).take X.k) (Rec.needN w rs.length) :: H) (n+5*w*X.k) X.T/\Fresh X.T gs/\X.k<=rs.length) (λX=>rs.length-X.k) (⟨M,0⟩) ⟨rfl,rfl,rfl,rfl,trivial⟩ (Mem.Less.refl _) (⟨I,hg,Nat.zero_le _⟩) ?_;rintro ⟨T,k⟩ ⟨J,hf,hk⟩;(try dsimp only at *);replace J:Op g (rowB w rs ++ B) F (wtR q s w ((K.map (·.l)).take k) (Rec.needN w rs.length) :: H) (n+5*w*k) T:=J;replace hf:Fresh T gs:=hf;replace hk:k<=rs.length:=hk;by_cases q1:k<rs.length
 ·have aa:k<K.length:=by omega
  obtain ⟨e1,e2⟩:=al k aa;have ak:5*w*(k+1)<=5*w*rs.length:=Nat.mul_le_mul_left _ q1;rw [Nat.mul_add,Nat.mul_one] at ak;have aj:((K.map (·.l)).take k).length=k:=by rw [List.length_take,List.length_map];omega
  refine r6_ ?_;refine cT_ ?_;refine r7_ ?_;refine rC (Calm.load zdo rfl (v:=K[k].v) (zbP (vf _ _ _) (by show (K.map RowV.v)[0+(k:Int).toNat*1]?=_;rw [show 0+(k:Int).toNat*1=k from by omega,List.getElem?_map,List.getElem?_eq_getElem aa];rfl))) ?_;refine r7_ ?_;have Z:=(zlI [] J K[k].v K[k].l rs.length (K[k].h.less (hD J)) e1 e2 h1 h8 rfl (by rw [aj];exact q1) hc vd (by show H.length<=7;omega)).frame (r:=⟨161,K.map RowV.v,room⟩) hf;refine ca_ rfl (Z) ?_;rintro _ S1 ⟨Sa,⟨rfl,J⟩,ac,U⟩;clear Z;rw [U];clear U S1;refine cp_ rfl (zaj _ _) ?_;refine r6_ ?_;refine rC (vh rfl rfl Er.neNil) ?_;refine r2_ ?_;refine cF_ ?_;refine r8_ ?_;refine ⟨⟨Sa,k+1⟩,?_,?_,?_,?_⟩<;>try dsimp only
  ·exact ⟨rfl,rfl,rfl,rfl,trivial⟩
  ·exact Mem.Less.refl _
  ·exact ⟨by rw [List.take_succ_eq_append_getElem (by rw [List.length_map];exact aa),List.getElem_map,<- zaX,Nat.mul_add,Nat.mul_one,<- Nat.add_assoc];exact J,ac,q1⟩
  omega
 obtain rfl:k=rs.length:=by omega
 rw [List.take_of_length_le (by rw [List.length_map];omega)] at J;have ad:(K.map (·.l)).length=rs.length:=by rw [List.length_map,ul]
 refine r6_ ?_;refine cF_ ?_;refine r8_ ?_;have Z:=(zbK [] J (c':=rs.length) (by rw [if_neg vd,ad]) h8 rfl hc vd).frame (r:=⟨161,K.map RowV.v,room⟩) hf;refine ca_ rfl (Z) ?_;rintro _ S1 ⟨Sa,⟨rfl,J⟩,ac,U⟩;clear Z;rw [U];clear U S1;refine cp_ rfl (zaj _ _) ?_;refine r3_ ?_;refine kw_ [0,10,11,12,13,4] ?_;refine s1_ ?_;refine ⟨_,Sa,⟨_,_,rfl,rfl,rfl⟩,vi _ _ _ ac.1,?_⟩;exact ⟨rfl,K.map (·.l),u1,s2,by unfold flR;rw [ad];exact J.sub (List.sublist_append_right _ _)⟩
end
end Sto
end
section
open Go.RowKit Go.Shelf
open Mv Disk Num Loser
namespace Sto
open Run (nameS sizeN)
def runF (p:tt) (w:Nat):List (List (List Nat))->List Fl
  | []=>[]
  | r :: l=>flR (nameS p l.length) w r :: runF p w l
theorem zlZ (p:tt) (w:Nat):∀ l,(runF p w l).length=l.length
 | []=>rfl
 | _ :: l=>congrArg (·+1) (zlZ p w l)
theorem zpm {p:tt} {w:Nat}:∀ {l:List (List (List Nat))} {f:Fl},f ∈ runF p w l -> ∃ j,j<l.length/\f.n=nameS p j
 | _ :: l,f,h=>by
  rcases List.mem_cons.1 h with rfl | h
  ·exact ⟨l.length,Nat.lt_succ_self _,rfl⟩
  obtain ⟨j,I,J⟩:=zpm h;exact ⟨j,Nat.lt_succ_of_lt I,J⟩
structure RuY where
  M:Mem
  dn:List (List (List Nat))
  i0:Nat
section
variable {g:Cx} {B:List (Nat × Blk)} {F:List Fl} {H:List Sh} {T:Mem} {q w kk:Nat} {fn:tt} {rows:List (List Nat)}
theorem zpn {k:Nat} {dn:List (List (List Nat))} {p:tt} (I:(nms F H).any (pfx p)=false) (hk:dn.length<=k) (J:k<=9999):nameS p k ∉ nms (runF p w dn ++ F) H:=λhm=>by
 unfold nms at hm I;rw [List.map_append,List.append_assoc] at hm;rcases List.mem_append.1 hm with hm | hm
 ·obtain ⟨f,K,e⟩:=List.mem_map.1 hm;obtain ⟨j,V,U⟩:=zpm K;have:=zgw vd J (U.symm.trans e);omega
 have:=List.any_eq_false.1 I _ hm;rw [zlH] at this;exact this rfl
theorem zup (I:Op g B F (rdR q fn w rows 0 true :: H) 0 T) (hi:∀ h ∈ H,h.new) (hg:g.ll = []/\g.lc=0) (hp:(nms F H).any (pfx (nameS nT kk))=false) (hr:RowsOK w rows) (h1:1<=w) (h8:w<=6) (hc:rows.length<=60) (h2:rows.length<=2*sizeN g.m w) (hl:F.length+H.length<=26) (hH:H.length<=5) :
  ACall prog 233 #[self g.k,self q,.string (nameS nT kk)] T λv T'=>∃ dn,v = .tuple #[.int .i64 (List.length dn:Nat),.nilIface]/\dn.flatten.Perm rows/\(∀ r ∈ dn,SortedR r/\RowsOK w r)/\dn.length<=2/\Op g B (runF (nameS nT kk) w dn ++ F) H 0 T':=by
 obtain ⟨an,aj⟩:=I.gm;have aq:=Run.zrd g.m w;have hN:=Run.zre an (show w<=8 by omega) h1;have aH:=Run.ztY g.m w aj;have au:=zlY I (List.forall_mem_cons.2 ⟨rfl,hi⟩) hg.2;obtain ⟨tm,oT⟩:=I.wk;obtain ⟨x0,i1,am,az⟩:=I.ark;obtain ⟨f0,h0,V⟩:=Op.rq [] I;have aL:(nameS nT kk).size=5:=zeL kk;unfold wkB at oT;unfold arB at am;unfold rdB at V;dsimp only at V;rw [az] at am;generalize sizeN g.m w=N at *;refine k_E3 120 func233 ?_;refine r26_ ?_;refine cp_ rfl (aq _ an aj h1 vd) ?_;refine r15_ ?_;refine ca_ rfl (au) ?_;rintro _ T1 ⟨gl,gc,l,rfl,aM,I⟩;obtain ⟨f0,h0,V⟩:=Op.rq [] I
 (unfold rdB at V;dsimp only at V)
 refine r14_ ?_;refine cF_ ?_;refine r18_ ?_;refine kw_ [0,1,2,6,7,8,9,11,12,51,13,14] ?_;refine s1_ ?_;refine AWP.loop (X:=RuY) (λX=>[(0,self g.k),(1,self q),(2,.string (nameS nT kk)),(9,.int .i64 (N:Nat)),(11,.slice (some ⟨gl,0,none⟩) (g.m-8) gc),(13,.int .i64 (X.dn.length:Nat)),(14,.int .i64 ((rows.length:Int)-((X.dn.length*N:Nat):Int)))]) (λX=>X.M) (λX=>X.i0=min (X.dn.length*N) rows.length/\Op (g.ls l (g.m-8)) ((gl,⟨3,l.flatMap i64s,gc*1⟩) :: B) (runF (nameS nT kk) w X.dn ++ F) (rdR q fn w rows X.i0 true :: H) 0 X.M/\X.dn.flatten.Perm (rows.take X.i0)/\(∀ r ∈ X.dn,SortedR r/\RowsOK w r)/\X.dn.length<=2) (λX=>rows.length-X.i0) (⟨T1,[],0⟩) ⟨rfl,rfl,rfl,rfl,rfl,rfl,zah (by simp),trivial⟩ (Mem.Less.refl _) (⟨by simp,I,.refl _,λr hr=>(by cases hr),Nat.zero_le _⟩) ?_;rintro ⟨M,dn,i0⟩ ⟨e0,J,U,Y,Z⟩;(try dsimp only at *);clear I V;replace e0:i0=min (dn.length*N) rows.length:=e0;replace J:Op (g.ls l (g.m-8)) ((gl,⟨3,l.flatMap i64s,gc*1⟩) :: B) (runF (nameS nT kk) w dn ++ F) (rdR q fn w rows i0 true :: H) 0 M:=J;replace U:dn.flatten.Perm (rows.take i0):=U;replace Y:∀ r ∈ dn,SortedR r/\RowsOK w r:=Y;replace Z:dn.length<=2:=Z;by_cases q1:i0<rows.length
 ·have aB:i0=dn.length*N:=by omega
  have aT:dn.length<=1:=by
   by_cases q:dn.length<=1
   ·exact q
   have e:dn.length=2:=(by omega);rw [e] at aB;omega
  refine r7_ ?_;refine cT_ ?_;refine r8_ ?_;have K:=zpl (N:=N) J hr h1 vd vd vd vd (by have:=Nat.mul_le_mul (show 5*w<=30 by omega) hc;omega) vd;refine ca_ rfl (K) ?_;rintro _ S1 ⟨M,o,rs,rfl,ac,ho,e1,e2,J⟩;clear K;rw [ac];clear ac S1;obtain ⟨gs,cs,rfl⟩:=ho.some vd;obtain ⟨ag,aP⟩:=ho.own gs cs rfl;have av:=J.off ag;have J:=J.new ag ⟨161,rs.reverse.map (rowV w),cs*1⟩;obtain ⟨f1,ac,V⟩:=Op.rq [] J
  (unfold rdB at V;dsimp only at V)
  refine r3_ ?_;refine AWP.less (M.set gs ⟨161,rs.reverse.map (rowV w),cs*1⟩) (Mem.Less.refl _) ?_;have ay:rs.length<=60:=by omega
  have aN:=Nat.mul_le_mul (show 5*w<=30 by omega) ay;have aA:Rec.needN w rs.length<=40:=by unfold Rec.needN;rw [zgt h1];omega
  have aD:∀ y ∈ rs,y.2.length=w /\ ∀ z ∈ y.2,z<Num.top:=λy hy=>hr _ (List.mem_of_mem_drop (List.mem_of_mem_take (by rw [<- e2];exact List.mem_map_of_mem (List.mem_reverse.2 hy))));refine r7_ ?_;refine cp_ rfl (zaj _ _) ?_;refine r6_ ?_;refine rC (vh rfl rfl Er.neNil) ?_;refine r2_ ?_;refine cF_ ?_;refine r6_ ?_;refine cp_ rfl (Run.zfL (nameS nT kk) dn.length _ vd vd vd) ?_;refine r7_ ?_;refine kw_ [0,1,2,9,11,13,14,60,15,16,73,17] ?_;refine r11_ ?_;have K:=zde J (s:=nameS (nameS nT kk) dn.length) (zlD vd _) (zh4 _ _) (zpn (H:=rdR q fn w rows (i0+rs.length) true :: H) hp (Nat.le_refl _) vd) vd vd aA (by rw [List.length_append,zlZ];show dn.length+F.length+(H.length+1)<=30;omega);refine ca_ rfl (K) ?_;rintro _ T2 ⟨qw,rfl,J,_⟩;clear K;refine r11_ ?_;refine rC (vh rfl rfl Er.eqNil) ?_;refine r2_ ?_;refine cT_ ?_;obtain ⟨M2,J,hf,aw⟩:=J.del av;rw [aw];refine r3_ ?_;have K:=zuo (cc:=cs) (room:=cs*1) J hf aD h1 vd vd vd (by show H.length+1<=6;omega);refine ca_ rfl (K) ?_;rintro _ T3 ⟨rfl,out,aa,aC,J⟩;clear K;refine r7_ ?_;refine rC (vh rfl rfl Er.neNil) ?_;refine r2_ ?_;refine cF_ ?_;rw [e2] at aa;have al:RowsOK w out:=λr hm=>hr r (List.mem_of_mem_drop (List.mem_of_mem_take (aa.mem_iff.1 hm)));refine r9_ ?_;refine kw_ [0,1,2,9,11,13,14,60,15,16,73,17,19,20,96,101] ?_;refine r7_ ?_;refine ⟨⟨T3,out :: dn,i0+rs.length⟩,?_,?_,?_,?_⟩<;>try dsimp only
  ·exact ⟨rfl,rfl,rfl,rfl,rfl,zah (by rw [List.length_cons];simp),zah (by rw [List.length_cons,Nat.add_mul,Nat.one_mul];omega),trivial⟩
  ·exact Mem.Less.refl _
  ·exact ⟨by rw [List.length_cons,Nat.add_mul,Nat.one_mul];omega,J,by rw [List.flatten_cons,List.take_add];exact List.perm_append_comm.trans (U.append aa),List.forall_mem_cons.2 ⟨⟨aC,al⟩,Y⟩,by rw [List.length_cons];omega⟩
  omega
 have e3:i0=rows.length:=by omega
 rw [e3,List.take_length] at U;refine r7_ ?_;refine cF_ ?_;obtain ⟨fz,J⟩:=zdx [] J;replace J:=J.tl;refine r14_ ?_;refine AWP.loop (X:=Mem × Nat) (λX=>[(0,self g.k),(13,.int .i64 (dn.length:Nat)),(106,.slice (some ⟨gl,0,none⟩) (g.m-8) gc),(107,.int .i64 ((g.m-8:Nat):Int)),(108,.int .i64 (X.2:Nat))]) (λX=>X.1) (λX=>Op (g.ls (l.drop X.2) (g.m-8)) ((gl,⟨3,l.flatMap i64s,gc*1⟩) :: B) (runF (nameS nT kk) w dn ++ F) H 0 X.1/\X.2<=g.m-8) (λX=>g.m-8-X.2) ((M,0)) ⟨rfl,rfl,rfl,rfl,rfl,trivial⟩ (Mem.Less.refl _) (⟨J,Nat.zero_le _⟩) ?_;rintro ⟨M3,i⟩ ⟨J,ak⟩;(try dsimp only at *);replace J:Op (g.ls (l.drop i) (g.m-8)) ((gl,⟨3,l.flatMap i64s,gc*1⟩) :: B) (runF (nameS nT kk) w dn ++ F) H 0 M3:=J;replace ak:i<=g.m-8:=ak;by_cases q2:i<g.m-8
 ·have ah:i<l.length:=by omega
  obtain ⟨tm,ow⟩:=J.wk;replace ow:M3.own g.k=some (wkB g.a g.u tm):=ow;have og:=J.o.1;rw [List.drop_eq_getElem_cons ah] at J
  (unfold wkB at ow)
  obtain ⟨li,ae⟩ : ∃ li,li=l[i]:=⟨_,rfl⟩;rw [<- ae] at J;refine r6_ ?_;refine cT_ ?_;refine r7_ ?_;refine rC (Calm.load zbM rfl (v:=.int .i64 li) (zbP og (by show (l.flatMap i64s)[0+(i:Int).toNat*1]?=_;have:=zdH zhZ l i ah 0 (.int .i64 li) (by rw [ae];rfl);rw [show i*1+0=0+(i:Int).toNat*1 from by omega] at this;exact this))) ?_;refine r9_ ?_;have K:=zjr J hi;refine ca_ rfl (K) ?_;rintro _ T4 J;clear K;refine r8_ ?_;refine ⟨(T4,i+1),?_,?_,?_,?_⟩<;>try dsimp only
  ·exact ⟨rfl,rfl,rfl,rfl,rfl,trivial⟩
  ·exact Mem.Less.refl _
  ·exact ⟨J,q2⟩
  (show g.m-8-(i+1)<g.m-8-i;omega)
 refine r6_ ?_;refine cF_ ?_;rw [List.drop_eq_nil_of_le vd] at J;refine r13_ ?_;refine ⟨_,M3,⟨_,_,rfl,⟨_,_,rfl,rfl,rfl⟩,rfl⟩,zae,?_⟩;exact ⟨dn,rfl,U,Y,Z,(J.unl hi hg).tl⟩
end
end Sto
end
section
open Go.RowKit Go.Shelf
open Mv Disk Num Loser
namespace Sto
structure Sr where
  q:Nat
  b:Nat
  s:tt
  rows:List (List Nat)
  c:Nat
  k:Option Nat
  l:tu
  z:Bool
def Sr.i (r:Sr):Nat:=if r.k.isSome then r.c+1 else r.c
def Sr.h (w:Nat) (r:Sr):Sh:=rdR r.q r.s w r.rows r.i r.z
def Sr.sb (r:Sr):Nat × Blk:=(r.b,srB r.q r.l)
def Sr.v (w:Nat) (r:Sr):tu :=
  match r.k with
  | none=>.slice none 0 0
  | some b=>.slice (some ⟨b,0,none⟩) w w
def Sr.kb (w:Nat) (r:Sr):List (Nat × Blk) :=
  match r.k with
  | none=>[]
  | some b=>[(b,⟨31,(r.rows.getD r.c []).map nU,w⟩)]
structure Sr.ok (w:Nat) (r:Sr):Prop where
  ro:RowsOK w r.rows
  so:SortedR r.rows
  cl:r.c<=r.rows.length
  ks:r.k.isSome=true->r.c<r.rows.length/\r.l=r.v w
  kn:r.k=none->r.c=r.rows.length\/r.l = .slice none 0 0
def MgB (B:List (Nat × Blk)) (w:Nat) (R:List Sr):List (Nat × Blk):=R.flatMap (Sr.kb w) ++ (R.map Sr.sb ++ B)
def MgO (g:Cx) (B:List (Nat × Blk)) (F:List Fl) (H:List Sh) (w:Nat) (R:List Sr) (n:Nat) (T:Mem):Prop:=Op g (MgB B w R) F (R.map (Sr.h w) ++ H) n T
structure Sr.next (r r':Sr):Prop where
  q:r'.q=r.q
  b:r'.b=r.b
  s:r'.s=r.s
  rows:r'.rows=r.rows
  c:r'.c=r.i
  k:r'.k.isSome=decide (r.i<r.rows.length)
  z:r'.k=none->r'.z=true
theorem zrJ {α : Type} {R:List α} {i:Nat} (hi:i<R.length):∃ l1 l2,R=l1 ++ R[i] :: l2/\(∀ r',R.set i r'=l1 ++ r' :: l2) :=
 ⟨R.take i,R.drop (i+1),by rw [<- List.drop_eq_getElem_cons hi,List.take_append_drop],λr'=>by rw [List.set_eq_take_append_cons_drop,if_pos hi]⟩
section
variable {g:Cx} {B:List (Nat × Blk)} {F:List Fl} {H A C:List Sh} {T:Mem} {n w i:Nat} {R:List Sr}
theorem zgG {w:Nat} {l1 l2:List Sr} {r:Sr}:MgB B w (l1 ++ r :: l2)=l1.flatMap (Sr.kb w) ++ (r.kb w ++ (l2.flatMap (Sr.kb w) ++ (l1.map Sr.sb ++ r.sb :: (l2.map Sr.sb ++ B)))):=by
 unfold MgB;simp only [List.flatMap_append,List.flatMap_cons,List.map_append,List.map_cons,List.append_assoc,List.cons_append]
theorem zpo (I:MgO g B F H w R n T) (hi:i<R.length) (K:R[i].ok w) (h1:1<=w) (h8:w<=8) (hc:R[i].rows.length<=100) (hn:n+5*w<=16384) (hl:R.length+H.length<=7) :
  ACall prog 277 #[self R[i].b] T λv T'=>∃ r',R[i].next r'/\r'.ok w/\v = .tuple #[r'.v w,.nilIface]/\MgO g (R[i].kb w ++ B) F H w (R.set i r') (n+5*w) T':=by
 obtain ⟨l1,l2,eR,eS⟩:=zrJ hi;generalize R[i]=r at *;simp only [eS];have au:=congrArg List.length eR;rw [List.length_append,List.length_cons] at au;unfold MgO at I ⊢;rw [eR,zgG,List.map_append,List.map_cons,List.append_assoc,List.cons_append] at I;have U:r.sb ∈ l1.flatMap (Sr.kb w) ++ (r.kb w ++ (l2.flatMap (Sr.kb w) ++ (l1.map Sr.sb ++ r.sb :: (l2.map Sr.sb ++ B)))):=by simp
 have am:(l1.map (Sr.h w) ++ (l2.map (Sr.h w) ++ H)).length<=7:=by simp only [List.length_append,List.length_map];omega
 have os:T.own r.b=some (srB r.q r.l):=I.o.mem _ U;unfold srB at os;by_cases q:r.i<r.rows.length
 ·have aj:=zel _ (show Op g _ F (l1.map (Sr.h w) ++ rdR r.q r.s w r.rows r.i r.z :: (l2.map (Sr.h w) ++ H)) n T from I) K.ro h1 h8 vd q hn am;obtain ⟨ao,aC⟩:=K.ro _ (List.getElem_mem q);have av:∀ {b:Nat} {T1:Mem},Op g ((b,⟨31,r.rows[r.i].map nU,w⟩) :: (l1.flatMap (Sr.kb w) ++ (r.kb w ++ (l2.flatMap (Sr.kb w) ++ (l1.map Sr.sb ++ r.sb :: (l2.map Sr.sb ++ B)))))) F (l1.map (Sr.h w) ++ rdR r.q r.s w r.rows (r.i+1) false :: (l2.map (Sr.h w) ++ H)) (n+5*w) T1 -> ∃ r',r.next r'/\r'.ok w/\Value.tuple #[.slice (some ⟨b,0,none⟩) w w,.nilIface] = .tuple #[r'.v w,.nilIface]/\Op g (MgB (r.kb w ++ B) w (l1 ++ r' :: l2)) F ((l1 ++ r' :: l2).map (Sr.h w) ++ H) (n+5*w) (T1.set r.b ⟨356,[self r.q,.slice (some ⟨b,0,none⟩) w w],2⟩):=λ{b T1} J=>by
   have J2:=Op.put ((b,⟨31,r.rows[r.i].map nU,w⟩) :: (l1.flatMap (Sr.kb w) ++ (r.kb w ++ (l2.flatMap (Sr.kb w) ++ l1.map Sr.sb)))) (r:=r.b) (k:=srB r.q r.l) (B:=l2.map Sr.sb ++ B) (by have h:=J;rw [show r.sb=(r.b,srB r.q r.l) from rfl] at h;simpa only [List.cons_append,List.append_assoc] using h) ⟨356,[self r.q,.slice (some ⟨b,0,none⟩) w w],2⟩;refine ⟨{ r with c:=r.i,k:=some b,l:=.slice (some ⟨b,0,none⟩) w w,z:=false },⟨rfl,rfl,rfl,rfl,rfl,(decide_eq_true q).symm,λe=>by cases e⟩,⟨K.ro,K.so,Nat.le_of_lt q,λ_=>⟨q,rfl⟩,λe=>by cases e⟩,rfl,?_⟩;rw [zgG,List.map_append,List.map_cons,List.append_assoc,List.cons_append];have V:Sr.kb w { r with c:=r.i,k:=some b,l:=.slice (some ⟨b,0,none⟩) w w,z:=false } = [(b,⟨31,r.rows[r.i].map nU,w⟩)]:=by
    show [(b,(⟨_,(r.rows.getD r.i []).map nU,w⟩ : Blk))]=_;rw [List.getD_eq_getElem?_getD,List.getElem?_eq_getElem q];rfl
   rw [V,List.singleton_append];refine J2.perm ?_ (.refl _) (.refl _);rw [show Sr.sb { r with c:=r.i,k:=some b,l:=.slice (some ⟨b,0,none⟩) w w,z:=false }=(r.b,⟨356,[self r.q,.slice (some ⟨b,0,none⟩) w w],2⟩) from rfl];simp only [List.cons_append,List.append_assoc];refine List.Perm.trans (List.Perm.cons _ (List.Perm.append_left _ ?_)) List.perm_middle.symm;have:=List.perm_append_comm_assoc (r.kb w) (l2.flatMap (Sr.kb w) ++ (l1.map Sr.sb ++ (r.b,⟨356,[self r.q,.slice (some ⟨b,0,none⟩) w w],2⟩) :: l2.map Sr.sb)) B;simpa only [List.cons_append,List.append_assoc] using this
  refine k_E1 48 func277 ?_;refine r12_ ?_;refine ca_ rfl (aj) ?_;rintro _ T1 ⟨b,rfl,J⟩;have Y:T1.own r.b=some (srB r.q r.l):=J.o.mem _ (List.mem_cons_of_mem _ U);have af:RowR T1 (.slice (some ⟨b,0,none⟩) w w) r.rows[r.i]:=zei ao h8 J.o.1;have Z:r.l = .slice none 0 0 \/ ∃ X last,r.l = .slice (some ⟨X,0,none⟩) w w/\RowR T1 r.l last/\lessB r.rows[r.i] last=false:=by
   cases V:r.k with
   | none=>exact .inl ((K.kn V).resolve_left (λe=>by unfold Sr.i at q;rw [V] at q;simp at q;omega))
   | some X =>
    obtain ⟨e1,e2⟩:=K.ks (by rw [V];rfl);have e3:r.v w = .slice (some ⟨X,0,none⟩) w w:=(by unfold Sr.v;rw [V]);refine .inr ⟨X,r.rows[r.c],e2.trans e3,?_,?_⟩
    ·rw [e2,e3];refine zei (K.ro _ (List.getElem_mem e1)).1 h8 (J.o.mem (X,⟨31,r.rows[r.c].map nU,w⟩) ?_);have:(X,(⟨31,r.rows[r.c].map nU,w⟩ : Blk)) ∈ r.kb w:=by
      unfold Sr.kb;rw [V,List.getD_eq_getElem?_getD,List.getElem?_eq_getElem e1];exact List.mem_singleton.2 rfl
     simp [this]
    have ah:r.i=r.c+1:=(by unfold Sr.i;rw [V];rfl);simp only [ah];exact List.pairwise_iff_getElem.1 K.so r.c (r.c+1) e1 vd vd
  replace J:=av J;unfold srB at Y;refine r14_ ?_;refine cF_ ?_;rcases Z with aa | ⟨X,last,aa,ae,an⟩
  ·rw [aa] at Y;refine r20_ ?_;refine cF_ ?_;refine r18_ ?_;refine kw_ [0,2,3,4,5,15,41] ?_;refine s1_ ?_;refine ⟨_,_,⟨_,_,rfl,⟨_,_,rfl,rfl,rfl⟩,rfl⟩,Mem.Less.refl _,?_⟩;exact J.imp λr' h=>h
  rw [aa] at Y ae;refine r16_ ?_;refine vC 5 true 34 rfl (zab rfl) rfl (zab rfl) zvt rfl (zos r.rows[r.i] last _ _ _ af ae) ?_;rintro _ S9 ⟨rfl,h9⟩;rw [h9,an];clear h9 S9;refine r3_ ?_;refine cF_ ?_;refine r19_ ?_;refine ⟨_,_,⟨_,_,rfl,⟨_,_,rfl,rfl,rfl⟩,rfl⟩,Mem.Less.refl _,?_⟩;exact J.imp λr' h=>h
 have e:r.i=r.rows.length:=by
  have h1:=K.cl;unfold Sr.i at q ⊢;split at q
  ·next h=>have:=(K.ks h).1;rw [if_pos h];omega
  next h=>rw [if_neg h];omega
 have I:Op g _ F (l1.map (Sr.h w) ++ rdR r.q r.s w r.rows r.i r.z :: (l2.map (Sr.h w) ++ H)) n T:=I;rw [e] at I;have ad:∀ {M:Mem},Op g (l1.flatMap (Sr.kb w) ++ (r.kb w ++ (l2.flatMap (Sr.kb w) ++ (l1.map Sr.sb ++ r.sb :: (l2.map Sr.sb ++ B))))) F (l1.map (Sr.h w) ++ rdR r.q r.s w r.rows r.rows.length true :: (l2.map (Sr.h w) ++ H)) (n+1) M -> ∃ r',r.next r'/\r'.ok w/\Value.tuple #[.slice none 0 0,.nilIface] = .tuple #[r'.v w,.nilIface]/\Op g (MgB (r.kb w ++ B) w (l1 ++ r' :: l2)) F ((l1 ++ r' :: l2).map (Sr.h w) ++ H) (n+5*w) M:=λ{M} J=>by
  refine ⟨{ r with c:=r.i,k:=none,z:=true },⟨rfl,rfl,rfl,rfl,rfl,(decide_eq_false q).symm,λ_=>rfl⟩,⟨K.ro,K.so,Nat.le_of_eq e,(λh=>absurd h (by simp)),λ_=>.inl e⟩,rfl,?_⟩;rw [zgG,List.map_append,List.map_cons,List.append_assoc,List.cons_append,show Sr.h w { r with c:=r.i,k:=none,z:=true }=rdR r.q r.s w r.rows r.rows.length true from by unfold Sr.h Sr.i;show rdR _ _ _ _ r.i _=_;rw [e]];refine (J.perm (List.Perm.append_left _ ?_) (.refl _) (.refl _)).mono vd;have:=List.perm_append_comm_assoc (r.kb w) (l2.flatMap (Sr.kb w) ++ (l1.map Sr.sb ++ r.sb :: l2.map Sr.sb)) B;simp only [List.cons_append,List.append_assoc] at this;exact this
 have ai:=zb2 _ I h1 h8 vd;have al:=zh3 _ I;refine k_E1 48 func277 ?_;refine r12_ ?_;refine cp_ rfl (ai) ?_;refine r14_ ?_;refine kw_ [0,2,3,4,5,15] ?_;refine cT_ ?_;refine r6_ ?_;refine ca_ rfl (al) ?_;rintro _ M ⟨_,J⟩;obtain ⟨f0,h0,oq⟩:=Op.rq _ J
 (unfold rdB at oq;dsimp only at oq)
 have aq:M.own r.b=some (srB r.q r.l):=J.o.mem _ U;unfold srB at aq;refine r11_ ?_;refine cp_ rfl (zaj _ _) ?_;refine r6_ ?_;refine ⟨_,M,⟨_,_,rfl,⟨_,_,rfl,rfl,rfl⟩,rfl⟩,zae,?_⟩;exact ad J
theorem zwd {q bo k:Nat} {s:tt} {out:List (List Nat)} {tot:Nat} (I:Op g B F (A ++ wtR q s w out k :: C) n T) (hb:(bo,bxB q) ∈ B) (v:tu) (K:List Nat) (U:RowR T v K) (V:K.length=w /\ ∀ z ∈ K,z<Num.top) (h1:1<=w) (Z:w<=8) (hk:k=Rec.needN w tot) (ho:out.length<tot) (ht:tot<=65536) (hn:n+5*w<=16384) (hl:(A ++ C).length<=7) :
  ACall prog 258 #[v,.pointer (some ⟨bo,0,none⟩)] T λY T'=>Y = .nilIface/\Op g B F (A ++ wtR q s w (out ++ [K]) k :: C) (n+5*w) T':=by
 have X:=zlI A I v K tot U V.1 V.2 h1 Z hk ho ht hn hl;rw [zaX] at X;have ob:=I.o.mem _ hb;unfold bxB at ob;obtain ⟨va,vc,rfl,_⟩:=id U;refine k_E2 8 func258 ?_;refine r9_ ?_;refine ca_ rfl (X) ?_;rintro _ T1 ⟨rfl,J⟩;refine cp_ rfl (zaj _ _) ?_;refine r4_ ?_;refine ⟨_,T1,⟨_,_,rfl,rfl,rfl⟩,zae,?_⟩;exact ⟨rfl,J⟩
end
end Sto
end
section
open Go.RowKit Go.Shelf
open Mv Disk Num Loser
namespace Sto
def Sr.rem (r:Sr):List (List Nat):=r.rows.drop r.c
theorem Sr.one (w:Nat) (r:Sr):(r.v w).cells = #[r.v w]/\(r.v w).oneCell'=true:=by
 unfold Sr.v;cases r.k <;> exact ⟨rfl,rfl⟩
def Sr.at_ (w:Nat) (r:Sr):Prop:=r.ok w/\r.k.isSome=decide (r.c<r.rows.length)/\(r.k=none->r.z=true)
def kyB (w:Nat) (R:List Sr):Blk:=⟨161,R.map (Sr.v w),R.length⟩
section
variable {g:Cx} {B:List (Nat × Blk)} {F:List Fl} {H:List Sh} {T:Mem} {n w:Nat} {R:List Sr}
theorem zl0 {r:Sr} (I:MgO g B F H w R n T) (X:r ∈ R) (K:r.at_ w) (U:w<=8):RowR T (r.v w) (r.rem.headD []):=by
 obtain ⟨V,hk,_⟩:=K;unfold Sr.rem;cases J:r.k with
 | none =>
  rw [J] at hk;have hk : ¬ r.c<r.rows.length:=of_decide_eq_false hk.symm;rw [List.drop_eq_nil_of_le vd];unfold Sr.v;rw [J];exact Sl.nil _ _ _
 | some b =>
  rw [J] at hk;have hk:r.c<r.rows.length:=of_decide_eq_true hk.symm;rw [List.drop_eq_getElem_cons hk];unfold Sr.v;rw [J];refine zei (V.ro _ (List.getElem_mem hk)).1 U (Op.o I |>.mem (b,⟨31,r.rows[r.c].map nU,w⟩) (List.mem_append_left _ (List.mem_flatMap.2 ⟨r,X,?_⟩)));unfold Sr.kb;rw [J,List.getD_eq_getElem?_getD,List.getElem?_eq_getElem hk];exact List.mem_singleton.2 rfl
theorem MgO.mem {y:Nat × Blk} (I:MgO g B F H w R n T) (J:y ∈ B):T.own y.1=some y.2:=Op.o I |>.mem y (List.mem_append_right _ (List.mem_append_right _ J))
theorem zfm (R:List Sr):(hds (R.map Sr.rem)).length=R.length:=by unfold hds;simp
theorem zsN (R:List Sr) {i:Nat} (h:i<R.length) (h':i<(hds (R.map Sr.rem)).length):(hds (R.map Sr.rem))[i]=R[i].rem.headD []:=by unfold hds;simp
theorem zpp {b:Nat} (I:MgO g B F H w R n T) (hb:(b,kyB w R) ∈ B) (J:∀ r ∈ R,r.at_ w) (K:w<=8) (hl:R.length<=8):SlOf RowR T (.slice (some ⟨b,0,none⟩) R.length R.length) (hds (R.map Sr.rem)) :=
 ⟨R.map (Sr.v w),by rw [zfm];simp,vL (g:=λx:tu=>x) (r:=kyB w R) (I.mem hb) (by rw [show (R.map (Sr.v w)).map (λx:tu=>x)=R.map (Sr.v w) from List.map_id _];exact List.prefix_rfl) (by simp) (Nat.le_refl _) vd,λi U V=>by
  have hi:i<R.length:=by rwa [zfm] at U
  rw [zsN R hi,List.getElem_map];exact zl0 I (List.getElem_mem hi) (J _ (List.getElem_mem hi)) K⟩
theorem MgO.put {b:Nat} {k:Blk} (I:MgO g ((b,k) :: B) F H w R n T) (k':Blk):MgO g ((b,k') :: B) F H w R n (T.set b k'):=by
 unfold MgO MgB at *;rw [<- List.append_assoc] at *;exact Op.put _ I k'
theorem zwe {α : Type} {x y z : α} {X C:List α}:(X ++ x :: y :: z :: C).Perm (x :: y :: z :: (X ++ C)) :=
 (List.perm_middle).trans ((List.perm_middle.trans (List.perm_middle.cons _)).cons _)
theorem zpq {x y z:Nat × Blk}:(MgB (x :: y :: z :: B) w R).Perm (x :: y :: z :: MgB B w R):=by
 unfold MgB;rw [<- List.append_assoc,<- List.append_assoc];exact zwe
theorem MgO.new {b:Nat} (I:MgO g B F H w R n T) (hb:Fresh T b) (k:Blk):MgO g ((b,k) :: B) F H w R n (T.set b k):=by
 unfold MgO MgB at *;refine (Op.new I hb k).perm ?_ (.refl _) (.refl _);rw [<- List.append_assoc,<- List.append_assoc];exact List.perm_middle.symm
structure MfX where
  M:Mem
  R:List Sr
  i:Nat
structure MrX where
  M:Mem
  R:List Sr
  out:List (List Nat)
theorem mem3 {α : Type} {x a b c : α} {C:List α} (h:x ∈ C):x ∈ a :: b :: c :: C:=List.mem_cons_of_mem _ (List.mem_cons_of_mem _ (List.mem_cons_of_mem _ h))
theorem zl1 {α β : Type} (f : α->List β) {R:List α} {r : α} (h:r ∈ R):(f r).length<=(R.flatMap f).length:=by
 rw [List.flatMap_def];exact (List.sublist_flatten_of_mem (List.mem_map_of_mem h)).length_le
theorem zl2 {α β : Type} (f : α -> β) {R:List α} {i:Nat} (hi:i<R.length) {x : α} (h:f x=f R[i]):(R.set i x).map f=R.map f:=by
 rw [List.map_set,h];exact List.ext_getElem (by simp) λj I J=>by
  by_cases e:i=j
  ·subst e;simp
  simp [List.getElem_set_ne e]
theorem zwf {gs gc bo qw tot:Nat} {s:tt} (I:MgO g B F (wtR qw s w [] (Rec.needN w tot) :: H) w R 0 T) (av:(gs,⟨357,R.map (λr=>self r.b),gc⟩) ∈ B) (bF:(bo,bxB qw) ∈ B) (hR:∀ r ∈ R,r.ok w/\r.c=0/\r.k=none) (bT:1<=R.length) (hl:R.length+H.length<=6) (aM:(R.flatMap (·.rows)).length=tot) (ht:tot<=60) (h1:1<=w) (h8:w<=6) :
  ACall prog 257 #[.slice (some ⟨gs,0,none⟩) R.length gc,.func (.func 258) #[] #[.pointer (some ⟨bo,0,none⟩)]] T λv T'=>v = .nilIface /\ ∃ R' out,out.Perm (R.flatMap (·.rows))/\SortedR out/\(∀ r ∈ R',r.z=true)/\MgO g B F (wtR qw s w out (Rec.needN w tot) :: H) w R' 4000 T':=by
 have og:T.own gs=some ⟨357,R.map (λr=>self r.b),gc⟩:=I.mem av;have aF:madeL [Value.slice none 0 0] R.length=R.map (Sr.v w):=by
  rw [zbw];refine List.ext_getElem (by simp) λi h1 h2=>?_;have hi:i<R.length:=by simpa using h2
  rw [List.getElem_replicate,List.getElem_map];unfold Sr.v;rw [(hR _ (List.getElem_mem hi)).2.2]
 have a0:∀ r ∈ R,r.rows.length<=60:=λr hr=>by
  have:=zl1 (λx:Sr=>x.rows) hr;omega
 refine k_E2 75 func257 ?_;refine r9_ ?_;refine ARun.makeSlice (zab rfl) zf4 rfl rfl vd vd vd vd ?_;intro U aK;have aw:=aK
 repeat ((with_reducible replace aw:=zaa aw);obtain ⟨aw,_⟩:=aw)
 refine r3_ ?_;simp only [Nat.mul_one,Int.toNat_natCast,aF];have I:=I.new aK (kyB w R);refine r9_ ?_;refine AWP.loop (X:=MfX) (λX=>[(0,.slice (some ⟨gs,0,none⟩) R.length gc),(1,.func (.func 258) #[] #[.pointer (some ⟨bo,0,none⟩)]),(5,.slice (some ⟨U,0,none⟩) R.length R.length),(19,.slice (some ⟨gs,0,none⟩) R.length gc),(20,.int .i64 (R.length:Nat)),(21,.int .i64 (X.i:Nat))]) (λX=>X.M) (λX=>MgO g ((U,kyB w X.R) :: B) F (wtR qw s w [] (Rec.needN w tot) :: H) w X.R (5*w*X.i) X.M/\X.i<=R.length/\X.R.map (·.b)=R.map (·.b)/\X.R.map (·.rows)=R.map (·.rows) /\ ∀ j (h:j<X.R.length),X.R[j].ok w/\X.R[j].c=0/\(j<X.i->X.R[j].at_ w)/\(X.i<=j->X.R[j].k=none)) (λX=>R.length-X.i) (⟨T.set U (kyB w R),R,0⟩) ⟨rfl,rfl,rfl,rfl,rfl,rfl,trivial⟩ (Mem.Less.refl _) (⟨I,Nat.zero_le _,rfl,rfl,λj h=>⟨(hR _ (List.getElem_mem h)).1,(hR _ (List.getElem_mem h)).2.1,λe=>absurd e (Nat.not_lt_zero _),λ_=>(hR _ (List.getElem_mem h)).2.2⟩⟩) ?_;rintro ⟨M,K,i⟩ ⟨J,hi,eb,er,ha⟩;(try dsimp only at *);clear I;replace J:MgO g ((U,kyB w K) :: B) F (wtR qw s w [] (Rec.needN w tot) :: H) w K (5*w*i) M:=J;replace hi:i<=R.length:=hi;replace eb:K.map (·.b)=R.map (·.b):=eb;replace er:K.map (·.rows)=R.map (·.rows):=er;replace ha:∀ j (h:j<K.length),K[j].ok w/\K[j].c=0/\(j<i->K[j].at_ w)/\(i<=j->K[j].k=none):=ha;have Y:K.length=R.length:=by have:=congrArg List.length eb;simpa using this
 have og:M.own gs=some ⟨357,R.map (λr=>self r.b),gc⟩:=J.mem (List.mem_cons_of_mem _ av);by_cases q:i<R.length
 ·have ae:i<K.length:=by omega
  obtain ⟨a1,a2,a3,a4⟩:=ha i ae;have cc:5*w*i<=30*6:=Nat.mul_le_mul vd vd;have aH:K[i].b=R[i].b:=by have:=congrArg (·[i]?) eb;simpa [ae,q] using this
  have aE:K[i].rows=R[i].rows:=by have:=congrArg (·[i]?) er;simpa [ae,q] using this
  have ak:=zpo J ae a1 h1 vd (by rw [aE];have:=a0 _ (List.getElem_mem q);omega) vd (by show K.length+(H.length+1)<=7;omega);rw [aH] at ak;refine r6_ ?_;refine cT_ ?_;refine r8_ ?_;refine rC (Calm.load zdq rfl (v:=self R[i].b) (zbZ (g:=λr:Sr=>self r.b) i q og vd)) ?_;refine r7_ ?_;refine ca_ rfl (ak) ?_;rintro _ T2 ⟨r',n1,n2,rfl,J⟩;rw [show K[i].kb w = [] from by unfold Sr.kb;rw [a4 (Nat.le_refl _)],List.nil_append] at J;refine r11_ ?_;refine rC (vh rfl rfl Er.neNil) ?_;refine r2_ ?_;refine cF_ ?_;obtain ⟨o1,o2⟩:=r'.one w;have aY:T2.own U=some (kyB w K):=J.mem (List.mem_cons_self ..);refine r7_ ?_;refine vm rfl rfl zfZ o1 aY (by show 0+(i:Int).toNat*1<(K.map (Sr.v w)).length;rw [List.length_map];omega) o2 ?_;refine nm_ ?_;refine r3_ ?_;refine kw_ [0,1,5,19,20,21,22,6,7,8,9,32] ?_;have J:=J.put (kyB w (K.set i r'));have bk:(⟨(kyB w K).elem,(kyB w K).cells.set ((i:Int).toNat*1) (r'.v w),(kyB w K).room⟩ : Blk)=kyB w (K.set i r'):=by
   unfold kyB;rw [List.length_set,List.map_set,show (i:Int).toNat*1=i from by omega]
  have h5:∀ j (h:j<(K.set i r').length),(K.set i r')[j].ok w/\(K.set i r')[j].c=0/\(j<i+1->(K.set i r')[j].at_ w)/\(i+1<=j->(K.set i r')[j].k=none):=λj hj=>by
   rw [List.length_set] at hj;by_cases e:i=j
   ·subst e;have e2:K[i].i=0:=(by unfold Sr.i;rw [a4 (Nat.le_refl _),a2];rfl);have e3:=n1.c;rw [e2] at e3;rw [List.getElem_set_self];exact ⟨n2,e3,λ_=>⟨n2,by rw [n1.k,e2,e3,n1.rows],n1.z⟩,λh=>absurd h vd⟩
   rw [List.getElem_set_ne e];obtain ⟨b1,b2,b3,b4⟩:=ha j hj;exact ⟨b1,b2,λh=>b3 vd,λh=>b4 vd⟩
  refine r5_ ?_;refine ⟨⟨T2.set U (kyB w (K.set i r')),K.set i r',i+1⟩,?_,?_,?_,?_⟩<;>try dsimp only
  ·exact ⟨rfl,rfl,rfl,rfl,rfl,rfl,trivial⟩
  ·(rw [<- bk];exact Mem.Less.refl _)
  ·exact ⟨by rw [Nat.mul_add,Nat.mul_one];exact J,q,by rw [zl2 _ ae n1.b];exact eb,by rw [zl2 _ ae n1.rows];exact er,h5⟩
  omega
 obtain rfl:i=R.length:=by omega
 have Z:∀ r ∈ K,r.at_ w:=λr hr=>by
  obtain ⟨j,hj,rfl⟩:=List.getElem_of_mem hr;exact (ha j hj).2.2.1 vd
 have ba:∀ r ∈ K,r.c=0:=λr hr=>by
  obtain ⟨j,hj,rfl⟩:=List.getElem_of_mem hr;exact (ha j hj).2.1
 have aC:K.map Sr.rem=R.map (·.rows):=by
  rw [<- er];exact List.map_congr_left λr hr=>by unfold Sr.rem;rw [ba r hr,List.drop_zero]
 have ad:MgI (R.flatMap (·.rows)) (K.map Sr.rem) []:=by
  rw [aC,List.flatMap_def];have aA:∀ r ∈ R.map (·.rows),∃ r0 ∈ R,r=r0.rows:=λr hr=>by obtain ⟨r0,h0,e⟩:=List.mem_map.1 hr;exact ⟨r0,h0,e.symm⟩
  refine MgI.start (rem:=R.map (·.rows)) (λr hr=>?_) λr hr y hy=>?_
  ·obtain ⟨r0,h0,rfl⟩:=aA r hr;exact (hR r0 h0).1.so
  obtain ⟨r0,h0,rfl⟩:=aA r hr;have:=((hR r0 h0).1.ro y hy).1;intro e;rw [e] at this;simp at this;omega
 have af:=zpp J (List.mem_cons_self ..) Z vd vd;rw [Y] at af;refine r6_ ?_;refine cF_ ?_;have aO:=λ{p:Nat} (h:Fresh M p)=>Op.off J h;have bl:offR g U:=I.off aK;refine r8_ ?_;refine ca_ rfl (zt7 _ _ M af (by rw [zfm];omega) (by rw [zfm];omega)) ?_;rintro _ S9 ⟨p,q2,hp,hq,bu,rfl,h9⟩;rw [h9];clear h9 S9;rw [zfm,Y];have J2:=(J.new hq (intB (treeOf (hds (K.map Sr.rem))) R.length)).new (zai hp (Ne.symm bu)) (treeB (.slice (some ⟨U,0,none⟩) R.length R.length) (.slice (some ⟨q2,0,none⟩) R.length R.length));obtain ⟨op,oq⟩ : offR g p/\offR g q2:=⟨aO hp,aO hq⟩;generalize (M.set q2 (intB (treeOf (hds (K.map Sr.rem))) R.length)).set p (treeB (.slice (some ⟨U,0,none⟩) R.length R.length) (.slice (some ⟨q2,0,none⟩) R.length R.length))=M2 at *;refine r4_ ?_;refine AWP.loop (X:=MrX) (λX=>[(0,.slice (some ⟨gs,0,none⟩) R.length gc),(1,.func (.func 258) #[] #[.pointer (some ⟨bo,0,none⟩)]),(10,.pointer (some ⟨p,0,none⟩))]) (λX=>X.M) (λX=>MgO g ((p,treeB (.slice (some ⟨U,0,none⟩) R.length R.length) (.slice (some ⟨q2,0,none⟩) R.length R.length)) :: (q2,intB (treeOf (hds (X.R.map Sr.rem))) R.length) :: (U,kyB w X.R) :: B) F (wtR qw s w X.out (Rec.needN w tot) :: H) w X.R (5*w*(R.length+2*X.out.length)) X.M/\MgI (R.flatMap (·.rows)) (X.R.map Sr.rem) X.out/\X.R.map (·.b)=R.map (·.b)/\X.R.map (·.rows)=R.map (·.rows) /\ ∀ r ∈ X.R,r.at_ w) (λX=>tot-X.out.length) (⟨M2,K,[]⟩) ⟨rfl,rfl,rfl,trivial⟩ (Mem.Less.refl _) (⟨J2,ad,eb,er,Z⟩) ?_;rintro ⟨M,K,out⟩ ⟨J,ad,eb,er,Z⟩;(try dsimp only at *);clear af aC ba ha J2;replace J:MgO g ((p,treeB (.slice (some ⟨U,0,none⟩) R.length R.length) (.slice (some ⟨q2,0,none⟩) R.length R.length)) :: (q2,intB (treeOf (hds (K.map Sr.rem))) R.length) :: (U,kyB w K) :: B) F (wtR qw s w out (Rec.needN w tot) :: H) w K (5*w*(R.length+2*out.length)) M:=J;replace ad:MgI (R.flatMap (·.rows)) (K.map Sr.rem) out:=ad;replace eb:K.map (·.b)=R.map (·.b):=eb;replace er:K.map (·.rows)=R.map (·.rows):=er;replace Z:∀ r ∈ K,r.at_ w:=Z;have Y:K.length=R.length:=by have:=congrArg List.length eb;simpa using this
 have aZ:=zfm K;have og:M.own gs=some ⟨357,R.map (λr=>self r.b),gc⟩:=J.mem (mem3 av);have oP:M.own p=some (treeB (.slice (some ⟨U,0,none⟩) R.length R.length) (.slice (some ⟨q2,0,none⟩) R.length R.length)):=J.mem (List.mem_cons_self ..);have oQ:M.own q2=some (intB (treeOf (hds (K.map Sr.rem))) R.length):=J.mem (List.mem_cons_of_mem _ (List.mem_cons_self ..));have oK:M.own U=some (kyB w K):=J.mem (List.mem_cons_of_mem _ (List.mem_cons_of_mem _ (List.mem_cons_self ..)));have af:=zpp J (b:=U) (by simp) Z vd vd;rw [Y] at af;have a9:=zro p _ _ (hds (K.map Sr.rem)) M oP ⟨af,zt8 oQ (by rw [zaS,aZ,Y]) (Nat.le_refl _) vd⟩ vd;have a6:=ad.pm.length_eq;rw [List.length_append,aM] at a6;have b9:5*w*(R.length+2*out.length)<=30*(R.length+2*out.length):=Nat.mul_le_mul_right _ vd;by_cases q:key (hds (K.map Sr.rem)) (win (hds (K.map Sr.rem)) 1) = []
 ·obtain ⟨d1,d2⟩:=ad.done (by rw [List.length_map];omega) q;refine r4_ ?_;refine ca_ rfl (a9) ?_;rintro _ S9 ⟨rfl,h9⟩;rw [h9,decide_eq_false (λh=>h q)];clear h9 S9;refine r14_ ?_;refine cT_ ?_;have bC:∀ r ∈ K,r.z=true:=λr hr=>(Z r hr).2.2 (by
   have h1:=(Z r hr).2.1;have h2:=d2 _ (List.mem_map_of_mem hr);unfold Sr.rem at h2;rw [List.drop_eq_nil_iff] at h2;rw [decide_eq_false vd] at h1;cases ek:r.k with
   | none=>rfl
   | some b=>rw [ek] at h1;cases h1)
  refine r10_ ?_;refine ⟨_,M,⟨_,_,rfl,rfl,rfl⟩,zae,?_⟩;exact ⟨rfl,K,out,d1,ad.os,bC,((Op.perm J zpq (.refl _) (.refl _)).tl.tl.tl).mono vd⟩
 obtain ⟨hw,x,t,ex,cm,a5⟩:=ad.step (by rw [List.length_map];omega) q;rw [List.length_map] at hw;rw [List.getElem_map] at ex;refine r4_ ?_;refine ca_ rfl (a9) ?_;rintro _ S9 ⟨rfl,h9⟩;rw [h9,decide_eq_true q];clear h9 S9;have ca:=congrArg List.length (show hds (K.map Sr.rem)=hds (K.map Sr.rem) from rfl);generalize bj:win (hds (K.map Sr.rem)) 1=V at *;have an:V<R.length:=by omega
 have aH:K[V].b=R[V].b:=by have:=congrArg (·[V]?) eb;simpa [hw,an] using this
 have aE:K[V].rows=R[V].rows:=by have:=congrArg (·[V]?) er;simpa [hw,an] using this
 have ax:=Z _ (List.getElem_mem hw);have ay:=zl0 J (List.getElem_mem hw) ax vd;rw [ex] at ay;have aq:K[V].c<K[V].rows.length:=by
  have:=congrArg List.length ex;unfold Sr.rem at this;rw [List.length_drop,List.length_cons] at this;omega
 obtain ⟨b0,aD⟩ : ∃ b0,K[V].k=some b0:=by
  have:=ax.2.1;rw [decide_eq_true aq] at this;exact Option.isSome_iff_exists.1 this
 have aG:K[V].rows[K[V].c]=x/\K[V].rows.drop (K[V].c+1)=t:=by
  unfold Sr.rem at ex;rw [List.drop_eq_getElem_cons aq] at ex;exact List.cons.inj ex
 have bc:x.length=w /\ ∀ z ∈ x,z<Num.top:=by rw [<- aG.1];exact ax.1.ro _ (List.getElem_mem aq)
 have bt:out.length<tot:=by
  have h1:=(List.sublist_flatten_of_mem (List.mem_map_of_mem (f:=Sr.rem) (List.getElem_mem hw))).length_le;rw [ex,List.length_cons] at h1;omega
 have bm:(bo,bxB qw) ∈ MgB ((p,treeB (.slice (some ⟨U,0,none⟩) R.length R.length) (.slice (some ⟨q2,0,none⟩) R.length R.length)) :: (q2,intB (treeOf (hds (K.map Sr.rem))) R.length) :: (U,kyB w K) :: B) w K:=List.mem_append_right _ (List.mem_append_right _ (mem3 bF));have bG:=zwd J bm (K[V].v w) x ay bc h1 vd rfl bt vd vd (by rw [List.length_append,List.length_map];omega);unfold treeB at oP;refine r14_ ?_;refine kw_ [0,1,10,11,12,47] ?_;refine cF_ ?_;refine r13_ ?_;refine rC (Calm.load zdo rfl (v:=K[V].v w) (zbZ (g:=Sr.v w) V hw oK vd)) ?_;refine vn (zab rfl) zvs rfl rfl (bG) ?_;rintro _ T2 ⟨rfl,J2⟩;refine r6_ ?_;refine rC (vh rfl rfl Er.neNil) ?_;refine r2_ ?_;refine cF_ ?_;have ak:=zpo (show MgO g _ F (wtR qw s w (out ++ [x]) (Rec.needN w tot) :: H) w K _ T2 from J2) hw ax.1 h1 vd (by rw [aE];have:=a0 _ (List.getElem_mem an);omega) vd (by show K.length+(H.length+1)<=7;omega);rw [aH] at ak;have og:T2.own gs=some ⟨357,R.map (λr=>self r.b),gc⟩:=MgO.mem J2 (mem3 av);refine r7_ ?_;refine rC (Calm.load zdq rfl (v:=self R[V].b) (zbZ (g:=λr:Sr=>self r.b) V an og vd)) ?_;refine ca_ rfl (ak) ?_;rintro _ T3 ⟨r',n1,n2,rfl,J3⟩;refine r11_ ?_;refine rC (vh rfl rfl Er.neNil) ?_;refine r2_ ?_;refine cF_ ?_;have az:r'.at_ w:=⟨n2,by rw [n1.k,n1.c,n1.rows],n1.z⟩;have bi:r'.rem=t:=by unfold Sr.rem;rw [n1.c,n1.rows,<- aG.2];unfold Sr.i;rw [aD];rfl
 have bz:(b0,(⟨31,x.map nU,w⟩ : Blk)) ∈ K[V].kb w:=by
  unfold Sr.kb;rw [aD,List.getD_eq_getElem?_getD,List.getElem?_eq_getElem aq,Option.getD_some,aG.1];exact List.mem_singleton.2 rfl
 generalize K[V].kb w=Kb at *;have J3:Op g ((p,treeB (.slice (some ⟨U,0,none⟩) R.length R.length) (.slice (some ⟨q2,0,none⟩) R.length R.length)) :: (q2,intB (treeOf (hds (K.map Sr.rem))) R.length) :: (U,kyB w K) :: MgB (Kb ++ B) w (K.set V r')) F ((K.set V r').map (Sr.h w) ++ wtR qw s w (out ++ [x]) (Rec.needN w tot) :: H) (5*w*(R.length+2*out.length)+5*w+5*w) T3:=Op.perm J3 (by
  unfold MgB;simp only [<- List.append_assoc];exact zwe) (.refl _) (.refl _)
 obtain ⟨M1,JA,fp,bD⟩:=J3.del op;obtain ⟨M2,JB,fq,bH⟩:=JA.del oq;obtain ⟨M3,JC,fb,bv⟩:=JB.del bl;clear J3 JA JB;subst bD bH bv;obtain ⟨bh,aP⟩:=zaa fp;obtain ⟨a7,aU⟩:=zaa bh;obtain ⟨aW,aR⟩:=zaa fq;have hF:LosF M3 U q2 p:=⟨fb,aW,a7,Ne.symm aR,Ne.symm aU,Ne.symm aP⟩;have a8:(K.map (Sr.v w)).set V (r'.v w)=(K.set V r').map (Sr.v w):=(List.map_set ..).symm;have br:(hds (K.map Sr.rem)).set V (r'.rem.headD [])=hds ((K.set V r').map Sr.rem):=by rw [List.map_set,zt9]
 have bE:(K.set V r').length=K.length:=List.length_set;have au:=zjk U q2 p (hds (K.map Sr.rem)) (K.map (Sr.v w)) R.length R.length (r'.rem.headD []) (r'.v w) M3 hF (by rw [aZ,List.length_map]) vd vd vd (Nat.le_refl _) (λj h1 h2=>by
  have hj:j<K.length:=by omega
  rw [zsN K hj,List.getElem_map];by_cases e:V=j
  ·subst e;rw [ex];unfold Sr.v;rw [aD];exact zei bc.1 vd (MgO.mem JC (List.mem_append_left _ bz))
  have h3:(K.set V r')[j]'vd=K[j]:=List.getElem_set_ne e _;have:=zl0 JC (List.getElem_mem (show j<(K.set V r').length by omega)) (by rw [h3];exact Z _ (List.getElem_mem hj)) vd;rwa [h3] at this) (zl0 JC (List.mem_iff_getElem.2 ⟨V,by rw [List.length_set];exact hw,List.getElem_set_self ..⟩) az vd)
 rw [bj,a8,br] at au
 (unfold losM at au;rw [<- Y] at au)
 have J4:=((MgO.new JC fb ⟨161,(K.set V r').map (Sr.v w),K.length⟩).new (zai aW aR) ⟨3,(treeOf (hds ((K.set V r').map Sr.rem))).map (λx=>Value.int .i64 x),K.length⟩).new (zai (zai a7 aU) aP) ⟨385,[.slice (some ⟨U,0,none⟩) K.length K.length,.slice (some ⟨q2,0,none⟩) K.length K.length],2⟩
 (unfold treeB intB kyB;rw [<- Y])
 refine r5_ ?_;refine ca_ rfl (au) ?_;rintro _ S9 h9;rw [h9];clear h9 S9;obtain ⟨M9,aN⟩ : ∃ M9,M9=(((M3.set U ⟨161,(K.set V r').map (Sr.v w),K.length⟩).set q2 ⟨3,(treeOf (hds ((K.set V r').map Sr.rem))).map (λx=>Value.int .i64 x),K.length⟩).set p ⟨385,[.slice (some ⟨U,0,none⟩) K.length K.length,.slice (some ⟨q2,0,none⟩) K.length K.length],2⟩):=⟨_,rfl⟩;rw [<- aN];have aB:MgO g ((p,⟨385,[.slice (some ⟨U,0,none⟩) K.length K.length,.slice (some ⟨q2,0,none⟩) K.length K.length],2⟩) :: (q2,⟨3,(treeOf (hds ((K.set V r').map Sr.rem))).map (λx=>Value.int .i64 x),K.length⟩) :: (U,⟨161,(K.set V r').map (Sr.v w),K.length⟩) :: B) F (wtR qw s w (out ++ [x]) (Rec.needN w tot) :: H) w (K.set V r') (5*w*(R.length+2*(out ++ [x]).length)) M9:=by
  rw [aN];rw [List.length_append,List.length_singleton,show 5*w*(R.length+2*(out.length+1))=5*w*(R.length+2*out.length)+5*w+5*w from by rw [show R.length+2*(out.length+1)=R.length+2*out.length+1+1 from by omega,Nat.mul_add,Nat.mul_add,Nat.mul_one]];exact Op.sub J4 (by unfold MgB;exact (List.Sublist.refl _).append ((List.Sublist.refl _).append ((((List.sublist_append_right _ _).cons_cons _).cons_cons _).cons_cons _)))
 have h6:∀ r ∈ K.set V r',r.at_ w:=λr hr=>by
  rcases List.mem_or_eq_of_mem_set hr with h | rfl
  ·exact Z r h
  exact az
 refine r3_ ?_;refine ⟨⟨M9,K.set V r',out ++ [x]⟩,?_,?_,?_,?_⟩<;>try dsimp only
 ·exact ⟨rfl,rfl,rfl,trivial⟩
 ·exact Mem.Less.refl _
 ·exact ⟨by rw [bE];rw [<- Y] at aB;exact aB,by rw [List.map_set,bi];exact a5,by rw [zl2 _ hw n1.b];exact eb,by rw [zl2 _ hw n1.rows];exact er,h6⟩
 (rw [List.length_append];show tot-(out.length+1)<tot-out.length;omega)
end
end Sto
end
section
open Go.RowKit Go.Shelf
open Mv Disk Num Loser
namespace Sto
def memR (r:RO):Mem:=⟨λ_=>none,r⟩
def errK (g:Cx):Prop:=∃ eu ev,(memR g.ro).Knows ⟨2,0,none⟩ [.iface eu ev]
theorem tp {g:Cx} {B:List (Nat × Blk)} {F:List Fl} {H:List Sh} {T:Mem} {n:Nat} {J:tx} {ev:tu} (I:Op g B F H n T) (h:(memR g.ro).Knows ⟨2,0,none⟩ [.iface J ev]):T.Knows ⟨2,0,none⟩ [.iface J ev] :=
 h.less ⟨λ_ _ e=>(by cases e),I.ro.symm⟩
def srO (q b:Nat) (f:tt × List (List Nat)):Sr:=⟨q,b,f.1,f.2,0,none,.slice none 0 0,true⟩
theorem zuq (M:Mem) (w ct:tu) (bo I:Nat) (h:M.own bo=some (bxB I)) :
  ACall prog 237 #[w,ct,.pointer (some ⟨bo,0,none⟩)] M λv J=>v = .tuple #[self I,.nilIface]/\J=M:=by
 unfold bxB at h;refine k_E3 8 func237 ?_;refine r14_ ?_;refine ⟨_,M,⟨_,_,rfl,⟨_,_,rfl,rfl,rfl⟩,rfl⟩,zae,?_⟩;exact ⟨rfl,rfl⟩
theorem zwg (S:Mem) (o:Option (Nat × Nat)) (e:tx) (cs:List tu):outN 1 S o e cs=outM S o e cs:=by
 cases o with
 | none=>rfl
 | some q=>show S.set q.1 ⟨e,cs,q.2*1⟩=S.set q.1 ⟨e,cs,q.2⟩;rw [Nat.mul_one]
structure MsX where
  M:Mem
  o:Option (Nat × Nat)
  R:List Sr
section
variable {g:Cx} {B:List (Nat × Blk)} {F:List Fl} {H:List Sh} {T:Mem} {n w:Nat} {R:List Sr}
theorem MgO.snoc {q b:Nat} {f:tt × List (List Nat)} (I:Op g ((b,srB q (.slice none 0 0)) :: MgB B w R) F (rdR q f.1 w f.2 0 true :: (R.map (Sr.h w) ++ H)) n T):MgO g B F H w (R ++ [srO q b f]) n T:=by
 refine Op.perm I ?_ (.refl _) ?_
 ·unfold MgB;rw [List.flatMap_append,List.map_append,<- List.append_assoc];show (_ :: (R.flatMap (Sr.kb w) ++ R.map Sr.sb) ++ B).Perm _;simp only [List.append_assoc,List.map_cons,List.map_nil,List.flatMap_cons,List.flatMap_nil,List.cons_append];show ((b,srB q (.slice none 0 0)) :: (R.flatMap (Sr.kb w) ++ (R.map Sr.sb ++ B))).Perm (R.flatMap (Sr.kb w) ++ (R.map Sr.sb ++ (b,srB q (.slice none 0 0)) :: B));rw [<- List.append_assoc,<- List.append_assoc];exact List.perm_middle.symm
 rw [List.map_append,List.append_assoc];exact List.perm_middle.symm
theorem zm6 {nb cn tot:Nat} {fs:List (tt × List (List Nat))} (I:Op g B F H 0 T) (hb:(nb,⟨9,fs.map (λf=>.string f.1),cn⟩) ∈ B) (hF:∀ f ∈ fs,flR f.1 w f.2 ∈ F) (aF:(fs.map (·.1)).Nodup) (hW:∀ h ∈ H,h.isW=true) (aN:1<=fs.length) (hl:fs.length<=6) (af:(fs.flatMap (·.2)).length=tot) (ht:tot<=60) (h1:1<=w) (h8:w<=6) :
  ACall prog 256 #[self g.k,.slice (some ⟨nb,0,none⟩) fs.length cn] T λv T'=>∃ gs gc R,v = .tuple #[.slice (some ⟨gs,0,none⟩) R.length gc,.int .u64 (tot:Nat),.nilIface]/\R.map (λr=>(r.s,r.rows))=fs/\(∀ r ∈ R,r.c=0/\r.k=none/\r.l = .slice none 0 0)/\MgO g ((gs,⟨357,R.map (λr=>self r.b),gc⟩) :: B) F H w R 0 T':=by
 have aw:∀ f ∈ fs,f.2.length<=60:=λf hf=>by
  have:=zl1 (λx:tt × List (List Nat)=>x.2) hf;omega
 refine k_E2 63 func256 ?_;refine r31_ ?_;refine AWP.loop (X:=MsX) (λX=>[(0,self g.k),(7,outV X.o X.R.length),(8,.int .u64 (((fs.take X.R.length).flatMap (·.2)).length:Nat)),(9,.nilIface),(14,.slice (some ⟨nb,0,none⟩) fs.length cn),(15,.int .i64 (fs.length:Nat)),(16,.int .i64 (X.R.length:Nat))]) (λX=>outM X.M X.o 357 (X.R.map (λr=>self r.b))) (λX=>MgO g B F H w X.R 0 X.M/\OkO X.M X.o X.R.length/\X.R.length<=fs.length/\X.R.map (λr=>(r.s,r.rows))=fs.take X.R.length /\ ∀ r ∈ X.R,r.c=0/\r.k=none/\r.l = .slice none 0 0) (λX=>fs.length-X.R.length) (⟨T,none,[]⟩) ⟨rfl,rfl,rfl,rfl,rfl,rfl,rfl,trivial⟩ (Mem.Less.refl _) (⟨I,zcb _,Nat.zero_le _,rfl,λr hr=>(by cases hr)⟩) ?_;rintro ⟨M,o,R⟩ ⟨J,ho,hi,eR,hz⟩;(try dsimp only at *);clear I;replace J:MgO g B F H w R 0 M:=J;replace ho:OkO M o R.length:=ho;replace hi:R.length<=fs.length:=hi;replace eR:R.map (λr=>(r.s,r.rows))=fs.take R.length:=eR;replace hz:∀ r ∈ R,r.c=0/\r.k=none/\r.l = .slice none 0 0:=hz;by_cases q:R.length<fs.length
 ·have al:fs[R.length] ∈ fs:=List.getElem_mem q;have V:fs.take (R.length+1)=fs.take R.length ++ [fs[R.length]]:=List.take_succ_eq_append_getElem q;have au:((fs.take (R.length+1)).flatMap (·.2)).length<=60:=by
   have:=congrArg (λl=>(l.flatMap λx:tt × List (List Nat)=>x.2).length) (List.take_append_drop (R.length+1) fs);simp only [List.flatMap_append,List.length_append] at this;omega
  rw [V,List.flatMap_append,List.length_append] at au;have ax:∀ h ∈ R.map (Sr.h w) ++ H,h.isW=true\/h.nm≠fs[R.length].1:=λh hh=>by
   rcases List.mem_append.1 hh with hh | hh
   ·refine .inr ?_;obtain ⟨r,hr,rfl⟩:=List.mem_map.1 hh;obtain ⟨j,hj,rfl⟩:=List.getElem_of_mem hr;have e:=congrArg (·[j]?) eR;simp only [List.getElem?_map,List.getElem?_eq_getElem hj,List.getElem?_take_of_lt hj,Option.map_some] at e;rw [List.getElem?_eq_getElem vd] at e;show R[j].s≠_;rw [show R[j].s=fs[j].1 from congrArg Prod.fst (Option.some.inj e)];intro e2;have:=(List.getElem_inj (i:=j) (j:=R.length) (h₀:=by rw [List.length_map];omega) (h₁:=by rw [List.length_map];omega) aF).1 (by simpa using e2);omega
   exact .inl (hW h hh)
  have aG:=aw _ al;have az:(outM M o 357 (R.map (λr=>self r.b))).own nb=some ⟨9,fs.map (λf=>.string f.1),cn⟩:=(zbg (e:=357) (cs:=R.map (λr=>self r.b)) ho).own (J.mem hb);refine r6_ ?_;refine cT_ ?_;refine r7_ ?_;refine rC (Calm.load zaQ rfl (v:=.string fs[R.length].1) (zbZ (g:=λf:tt × List (List Nat)=>.string f.1) R.length q az vd)) ?_;have U:=zcI (f:=flR fs[R.length].1 w fs[R.length].2) J (hF _ al) h1 (by show w<=8;omega) (by show fs[R.length].2.length<=_;omega) ax;have U:=U.frameO (n:=1) (e:=357) (cs:=R.map (λr:Sr=>self r.b)) ho;rw [zwg] at U;refine r7_ ?_;refine ca_ rfl (U) ?_;rintro _ S1 ⟨M2,⟨p,rfl,J⟩,aB,an⟩;rw [an,zwg];clear an S1;refine r11_ ?_;refine rC (vh rfl rfl Er.neNil) ?_;refine r2_ ?_;refine cF_ ?_;refine r7_ ?_;refine vA (cs:=[_,_]) (zab rfl) rfl ?_;intro b32 aa;refine nl_ ?_;rw [zpU _ _ _ _ _ _ (zbV aa).2];refine vk (zab rfl) ziw rfl rfl ?_;intro aL aq;refine vJ (zab rfl) ziw rfl (by rw [List.length_map]) (zc3 (aB.set (zbV aa).2) (by rw [List.length_map]) aq) rfl (news:=[self b32]) rds_ rfl vd (by simp [Value.oneCell',self]) vd vd ?_;intro ai Y ao;obtain ⟨aA,aK⟩:=ao.own _ _ rfl;have J:MgO g B F H w (R ++ [srO p b32 fs[R.length]]) 0 (M2.set b32 (srB p (.slice none 0 0))):=MgO.snoc (Op.new J (zbV aa).1 (srB p (.slice none 0 0)));unfold srB at J;have JV:=J.new aA ⟨357,R.map (λr=>self r.b) ++ [self b32],Y⟩;obtain ⟨MG,Z⟩ : ∃ MG,(M2.set b32 ⟨356,[self p,.slice none 0 0],2⟩).set ai ⟨357,R.map (λr=>self r.b) ++ [self b32],Y⟩=MG:=⟨_,rfl⟩;rw [Z] at JV;obtain ⟨r0,K,e0⟩ : ∃ r0 K,R ++ [srO p b32 fs[R.length]]=r0 :: K:=by cases R <;> exact ⟨_,_,rfl⟩
  have aC:R.map (λr=>self r.b) ++ [self b32]=self r0.b :: K.map (λr=>self r.b):=by have:=congrArg (List.map λr:Sr=>self r.b) e0;simpa [srO] using this
  have aO:r0.l = .slice none 0 0:=by
   have:r0 ∈ R ++ [srO p b32 fs[R.length]]:=(by rw [e0];exact List.mem_cons_self ..);rcases List.mem_append.1 this with h | h
   ·exact (hz _ h).2.2
   rw [List.mem_singleton.1 h];rfl
  obtain ⟨fp,hp,oq⟩:=Op.rq (R.map (Sr.h w)) (show Op g _ F (R.map (Sr.h w) ++ .rd p fs[R.length].1 w fs[R.length].2.length _ _ true :: H) 0 _ from by have h:=JV;unfold MgO at h;rw [List.map_append,List.append_assoc] at h;exact h);rw [e0] at JV;obtain ⟨f0,h0,aj⟩:=Op.rq [] (show Op g _ F (.rd r0.q r0.s w r0.rows.length _ _ r0.z :: (K.map (Sr.h w) ++ H)) 0 _ from JV);have ag:=Op.o JV |>.mem r0.sb (List.mem_append_right _ (List.mem_append_left _ (List.mem_map_of_mem (List.mem_cons_self ..))))
  have ob:=MgO.mem JV (List.mem_cons_self ..);rw [aC] at ob
  (unfold Sr.sb srB at ag;dsimp only at ag ob;unfold rdB at oq aj;dsimp only at oq aj)
  refine r3_ ?_;refine AWP.less MG (by rw [<- Z];exact Mem.Less.refl _) ?_;have aE:∀ r ∈ R ++ [srO p b32 fs[R.length]],r.c=0/\r.k=none/\r.l = .slice none 0 0:=λr hr=>by
   rcases List.mem_append.1 hr with h | h
   ·exact hz _ h
   rw [List.mem_singleton.1 h];exact ⟨rfl,rfl,rfl⟩
  refine r2_ ?_;refine dr_ [i0_,i1_,i2_,i3_,i4_,i5_,i6_,i7_,i8_,i9_,i10_,i11_,i12_,i13_] [] ?_;refine r16_ ?_;refine kw_ [0,7,8,9,14,15,16,17,11,12,13,27,48] ?_;refine cF_ ?_;refine r19_ ?_;refine cF_ ?_;refine r8_ ?_;refine ⟨⟨M2.set b32 ⟨356,[self p,.slice none 0 0],2⟩,some (ai,Y),R ++ [srO p b32 fs[R.length]]⟩,?_,?_,?_,?_⟩<;>try dsimp only
  ·exact ⟨rfl,by rw [List.length_append];rfl,by rw [List.length_append,List.length_singleton,V,List.flatMap_append,List.length_append];simp;rfl,rfl,rfl,rfl,by rw [List.length_append];rfl,trivial⟩
  ·(rw [List.map_append,<- Z];exact Mem.Less.refl _)
  ·exact ⟨J,by rw [List.length_append];exact ao,by rw [List.length_append];exact q,by rw [List.map_append,eR,List.length_append,List.length_singleton,V];rfl,aE⟩
  (rw [List.length_append];show fs.length-(R.length+1)<fs.length-R.length;omega)
 have ah:R.length=fs.length:=by omega
 obtain ⟨gs,gc,rfl⟩:=ho.some vd;obtain ⟨ay,_⟩:=ho.own gs gc rfl;rw [ah,List.take_length] at eR;refine r6_ ?_;refine cF_ ?_;refine r16_ ?_;refine ⟨_,_,⟨_,_,rfl,⟨_,_,rfl,⟨_,_,rfl,rfl,rfl⟩,rfl⟩,rfl⟩,Mem.Less.refl _,?_⟩;exact ⟨gs,gc,R,by unfold outV;rw [<- af];simp [ah];rfl,eR,hz,J.new ay _⟩
theorem zpr:∀ (R:List Sr) {B:List (Nat × Blk)},Op g B F (R.map (Sr.h w) ++ H) n T->(∀ r ∈ R,r.z=true)->Op g B F H n T
 | [],_,I,_=>I
 | r :: R,B,I,hz=>by
  have e:=hz r (List.mem_cons_self ..);have I:Op g B F (.rd r.q r.s w r.rows.length (5*w*r.i) (r.rows.flatMap recB) r.z :: (R.map (Sr.h w) ++ H)) n T:=I;rw [e] at I;obtain ⟨f,I⟩:=zdx [] I;exact zpr R I.tl λr J=>hz r (List.mem_cons_of_mem _ J)
theorem zur {nb cn bo Y tot:Nat} {s:tt} {fs:List (tt × List (List Nat))} (I:Op g B F (wtR Y s w [] (Rec.needN w tot) :: H) 0 T) (hE:errK g) (hb:(nb,⟨9,fs.map (λf=>.string f.1),cn⟩) ∈ B) (aa:(bo,bxB Y) ∈ B) (hF:∀ f ∈ fs,flR f.1 w f.2 ∈ F/\RowsOK w f.2/\SortedR f.2) (ak:(fs.map (·.1)).Nodup) (hW:∀ h ∈ H,h.isW=true) (ag:1<=fs.length) (hl:fs.length+H.length<=6) (U:(fs.flatMap (·.2)).length=tot) (ht:tot<=60) (h1:1<=w) (h8:w<=6) :
  ACall prog 236 #[self g.k,.slice (some ⟨nb,0,none⟩) fs.length cn,.func (.func 237) #[] #[.pointer (some ⟨bo,0,none⟩)]] T λv T'=>v = .nilIface /\ ∃ out,out.Perm (fs.flatMap (·.2))/\SortedR out/\Op g B (flR s w out :: F) H 0 T':=by
 obtain ⟨eu,ev,hE⟩:=hE;have ah:=zm6 I hb (λf hf=>(hF f hf).1) ak (List.forall_mem_cons.2 ⟨rfl,hW⟩) ag vd U ht h1 h8;refine k_E3 52 func236 ?_;refine r9_ ?_;refine ca_ rfl (ah) ?_;rintro _ T1 ⟨gs,gc,R,rfl,eR,hz,J⟩;have ai:R.length=fs.length:=by have:=congrArg List.length eR;simpa using this
 have ao:∀ r ∈ R,r.ok w/\r.c=0/\r.k=none:=λr hr=>by
  obtain ⟨z1,z2,z3⟩:=hz r hr;have hm:(r.s,r.rows) ∈ fs:=by rw [<- eR];exact List.mem_map_of_mem (f:=λr:Sr=>(r.s,r.rows)) hr
  exact ⟨⟨(hF _ hm).2.1,(hF _ hm).2.2,by omega,(λe=>by rw [z2] at e;cases e),λ_=>.inr z3⟩,z1,z2⟩
 have Z:R.flatMap (·.rows)=fs.flatMap (·.2):=by rw [<- eR,List.flatMap_map]
 obtain ⟨r0,K,e0⟩ : ∃ r0 K,R=r0 :: K:=by
  cases R with
  | nil=>simp at ai;omega
  | cons a b=>exact ⟨_,_,rfl⟩
 have og:=J.mem (List.mem_cons_self ..);have ac:T1.own r0.b=some (srB r0.q r0.l):=Op.o J |>.mem r0.sb (List.mem_append_right _ (List.mem_append_left _ (List.mem_map_of_mem (by rw [e0];exact List.mem_cons_self ..))))
 obtain ⟨f0,h0,oq⟩:=Op.rq [] (show Op g _ F (.rd r0.q r0.s w r0.rows.length _ _ r0.z :: (K.map (Sr.h w) ++ _)) 0 _ from by have h:=J;unfold MgO at h;rw [e0] at h;exact h);have af:=zuq T1 (.int .i64 (w:Nat)) (.int .u64 (tot:Nat)) bo Y (J.mem (List.mem_cons_of_mem _ aa));dsimp only at og;rw [show R.map (λr=>self r.b)=self r0.b :: K.map (λr=>self r.b) from by rw [e0];rfl] at og
 (unfold rdB at oq;dsimp only at oq;unfold srB at ac)
 refine r13_ ?_;refine rC (vh rfl rfl Er.neNil) ?_;refine r2_ ?_;refine cF_ ?_;refine r15_ ?_;refine vn (zab rfl) zvr rfl rfl (af) ?_;rintro _ S9 ⟨rfl,h9⟩;rw [h9];clear h9 S9;refine r3_ ?_;refine ARun.alloc (zab rfl) zbo ?_;intro am ae;refine nl_ ?_;refine r4_ ?_;have J:=J.new ae (bxB Y);have ad:=zwf J (gs:=gs) (gc:=gc) (bo:=am) (by simp) (by simp) ao vd vd (by rw [Z];exact U) ht h1 h8;refine r4_ ?_;refine rC (vh rfl rfl Er.neNil) ?_;refine r2_ ?_;refine cF_ ?_;refine r6_ ?_;refine ca_ rfl (ad) ?_;rintro _ T2 ⟨rfl,R',out,p1,p2,p3,J⟩;have pb:=J.mem (List.mem_cons_self ..);have aD:=tp J hE;rw [Z] at p1;have X:out.length=tot:=by rw [p1.length_eq,U]
 have J:=zpr (H:=wtR Y s w out (Rec.needN w tot) :: H) R' J p3;unfold bxB at pb;dsimp only at pb;refine r3_ ?_;refine kw_ [0,1,2,6,7,8,9,19,10,37] ?_;refine r5_ ?_;refine cp_ rfl (Er.isNil eu ev _) ?_;refine r2_ ?_;refine cF_ ?_;refine r6_ ?_;refine rC (vh rfl rfl Er.neNil) ?_;refine r2_ ?_;refine cF_ ?_;refine r5_ ?_;have V:=zbK [] J (c':=tot) (by rw [if_neg vd,X]) vd rfl vd (by decide);refine ca_ rfl (V) ?_;rintro _ T3 ⟨rfl,J⟩;clear V;refine cp_ rfl (zaj _ _) ?_;refine r4_ ?_;refine ⟨_,T3,⟨_,_,rfl,rfl,rfl⟩,zae,?_⟩;exact ⟨rfl,out,p1,p2,by unfold flR;rw [X];exact Op.sub J (by unfold MgB;exact (((List.sublist_cons_self _ _).trans (List.sublist_cons_self _ _)).trans (List.sublist_append_right _ _)).trans (List.sublist_append_right _ _))⟩
end
end Sto
end
section
open Go.RowKit
open Mv
/-! ### A scope through which the run goes without a goto -/
def Mv.AnoGoto (Q:Exit->Env->Mem->Prop):Exit->Env->Mem->Prop
  | .goto _=>λ_ _=>False
  | e=>Q e
section
variable {P:tz} {N:Nat} {Q:Exit->Env->Mem->Prop} {E:Env} {S:Mem}
theorem Mv.AWP.scope {c:Code} (h:AWP P N c (AnoGoto Q) E S):AWP P N (.scope c) Q E S:=λa w U K =>
 wp_scope_straight (wp_mono (h a w U K) λe X V ⟨I,J,k,g,s⟩=>by
  cases e with
  | goto l=>exact k.elim
  | normal=>exact ⟨I,J,k,g,s⟩
  | exit id=>exact ⟨I,J,k,g,s⟩
  | ret=>exact ⟨I,J,k,g,s⟩
  | panic c=>exact ⟨I,J,k,g,s⟩
  | outgrown=>exact ⟨I,J,k,g,s⟩)
theorem Mv.AWP.label {l:Nat} (h:Q .normal E S):AWP P N (.label l) Q E S:=λa w J I=>wp_label ⟨E,S,h,J,Step.refl I⟩
theorem Mv.ano_ret (h:Q .ret E S):AnoGoto Q .ret E S:=h
end
end
section
open Go.RowKit Go.Shelf
open Mv Disk Num Loser
namespace Sto
open Run (nameS sizeN)
def tmF (bw bs_:Nat):tu:=.func (.func 228) #[] #[.pointer (some ⟨bw,0,none⟩),.pointer (some ⟨bs_,0,none⟩)]
def wpB (k:Nat):Blk:=⟨50,[self k],1⟩
def nmB (s:tt):Blk:=⟨9,[.string s],1⟩
def runs (p:tt):List (List (List Nat))->List (tt × List (List Nat))
  | []=>[]
  | r :: l=>runs p l ++ [(nameS p l.length,r)]
theorem zl3 (p:tt):∀ l,(runs p l).length=l.length
 | []=>rfl
 | r :: l=>by unfold runs;rw [List.length_append,zl3 p l];rfl
theorem zps (p:tt):∀ l,(runs p l).map (·.1)=names p l.length
 | []=>rfl
 | r :: l=>by unfold runs;rw [List.map_append,zps p l,List.length_cons,zhp];rfl
theorem zjs (p:tt):∀ l:List (List (List Nat)),((runs p l).flatMap (·.2)).Perm l.flatten
 | []=>.refl _
 | r :: l=>by
  unfold runs;rw [List.flatMap_append,List.flatten_cons];simp only [List.flatMap_cons,List.flatMap_nil,List.append_nil];exact List.perm_append_comm.trans ((zjs p l).append_left _)
theorem zie (p:tt):∀ {l:List (List (List Nat))} {f:tt × List (List Nat)},f ∈ runs p l->f.2 ∈ l
 | r :: l,f,h=>by
  rcases List.mem_append.1 h with h | h
  ·exact List.mem_cons_of_mem _ (zie p h)
  rw [List.mem_singleton.1 h];exact List.mem_cons_self ..
theorem zrK (p:tt) {n:Nat} (h:n<=9999):(names p n).Nodup:=by
 unfold names;rw [List.nodup_iff_pairwise_ne,List.pairwise_map];refine (List.nodup_iff_pairwise_ne.1 List.nodup_range).imp_of_mem λ{a b} J hb I e=>I ?_;rw [List.mem_range] at J hb;exact zgw vd vd e
def fl2 (w:Nat) (f:tt × List (List Nat)):Fl:=flR f.1 w f.2
theorem zsO (p:tt) (w:Nat):∀ l,(runF p w l).Perm ((runs p l).map (fl2 w))
 | []=>.refl _
 | r :: l=>by
  unfold runs runF;rw [List.map_append];exact ((zsO p w l).cons _).trans (List.perm_append_comm (l₁:=[_]))
section
variable {g:Cx} {B:List (Nat × Blk)} {F:List Fl} {H:List Sh} {T:Mem} {n w:Nat} {s fn:tt} {rows:List (List Nat)}
theorem zif {bw bs_ c:Nat} (I:Op g B F H n T) (U:(bw,wpB g.k) ∈ B) (K:(bs_,nmB s) ∈ B) (hs:nm s) (ht:tld s=true) (Y:s ∉ nms F H) (Z:w<=8) (hc:c<=65536) (hk:Rec.needN w c<=40) (hl:F.length+H.length<=30) :
  ACall prog 228 #[.int .i64 (w:Nat),.int .u64 (c:Nat),.pointer (some ⟨bw,0,none⟩),.pointer (some ⟨bs_,0,none⟩)] T λv T'=>∃ q,v = .tuple #[self q,.nilIface]/\Op g B F (.wt q s w 0 [] (Rec.needN w c) :: H) n T' /\ ∀ h ∈ H,T'.own h.q=T.own h.q:=by
 have V:=zde I hs ht Y Z hc hk hl;have o1:=I.o.mem _ U;have o2:=I.o.mem _ K;unfold wpB at o1;unfold nmB at o2;refine k_E4 15 func228 ?_;refine r12_ ?_;refine ca_ rfl (V) ?_;rintro _ X ⟨q,rfl,J,hk⟩;refine r7_ ?_;refine ⟨_,X,⟨_,_,rfl,⟨_,_,rfl,rfl,rfl⟩,rfl⟩,zae,?_⟩;exact ⟨q,rfl,J,hk⟩
theorem zkF (T:Mem) (k:Nat) (s:tt):ACall prog 194 #[self k,.string s] T λr T'=>∃ bw bs_,r=tmF bw bs_/\Fresh T bw/\Fresh (T.set bw (wpB k)) bs_/\T'=(T.set bw (wpB k)).set bs_ (nmB s):=by
 unfold tmF wpB nmB;refine k_E2 6 func194 ?_;refine r2_ ?_;refine vo (zab rfl) rfl rfl ?_;intro K J;refine nl_ ?_;refine vo (zab rfl) rfl rfl ?_;intro I U;refine nl_ ?_;refine r10_ ?_;refine ⟨_,_,⟨_,_,rfl,rfl,rfl⟩,Mem.Less.refl _,?_⟩;exact ⟨K,I,rfl,J,U,rfl⟩
theorem zrL {nb cn:Nat} {fs:List (tt × List (List Nat))} (I:Op g B (fs.map (fl2 w) ++ F) H 0 T) (hb:(nb,⟨9,fs.map (λf=>.string f.1),cn⟩) ∈ B) (V:∀ f ∈ fs,tld f.1=true) (Y:∀ h ∈ H,h.isW=true) (hl:fs.length+F.length+H.length<=60) :
  ACall prog 238 #[self g.k,.slice (some ⟨nb,0,none⟩) fs.length cn] T λv T'=>v = .nilIface/\Op g B F H 0 T':=by
 refine k_E2 21 func238 ?_;refine r14_ ?_;refine AWP.loop (X:=Mem × Nat) (λX=>[(0,self g.k),(8,.slice (some ⟨nb,0,none⟩) fs.length cn),(9,.int .i64 (fs.length:Nat)),(10,.int .i64 (X.2:Nat))]) (λX=>X.1) (λX=>Op g B ((fs.drop X.2).map (fl2 w) ++ F) H 0 X.1/\X.2<=fs.length) (λX=>fs.length-X.2) ((T,0)) ⟨rfl,rfl,rfl,rfl,trivial⟩ (Mem.Less.refl _) (⟨I,Nat.zero_le _⟩) ?_;rintro ⟨M,i⟩ ⟨J,hi⟩;(try dsimp only at *);replace J:Op g B ((fs.drop i).map (fl2 w) ++ F) H 0 M:=J;replace hi:i<=fs.length:=hi;by_cases q:i<fs.length
 ·have on:=J.o.mem _ hb;have hm:=List.getElem_mem q;rw [List.drop_eq_getElem_cons q,List.map_cons] at J;have K:=zbL [] (f:=fl2 w fs[i]) J (V _ hm) Y (by show ((fs.drop (i+1)).map (fl2 w) ++ F).length+_<=60;rw [List.length_append,List.length_map,List.length_drop];omega);refine r6_ ?_;refine cT_ ?_;refine r7_ ?_;refine rC (Calm.load zaQ rfl (v:=.string fs[i].1) (zbZ (g:=λf:tt × List (List Nat)=>.string f.1) i q on vd)) ?_;refine r7_ ?_;refine ca_ rfl (K) ?_;rintro _ U ⟨rfl,J⟩;refine r6_ ?_;refine rC (vh rfl rfl Er.neNil) ?_;refine r2_ ?_;refine cF_ ?_;refine r8_ ?_;refine ⟨(U,i+1),?_,?_,?_,?_⟩<;>try dsimp only
  ·exact ⟨rfl,rfl,rfl,rfl,trivial⟩
  ·exact Mem.Less.refl _
  ·exact ⟨J,q⟩
  (show fs.length-(i+1)<fs.length-i;omega)
 refine r6_ ?_;refine cF_ ?_;rw [List.drop_eq_nil_of_le vd] at J;refine r11_ ?_;refine ⟨_,M,⟨_,_,rfl,rfl,rfl⟩,zae,?_⟩;exact ⟨rfl,J⟩
structure SoX where
  T:Mem
  b:Nat
  q:Nat
theorem zus {bw bs_:Nat} (I:Op g B F H 0 T) (hi:Idle H) (hg:g.ll = []/\g.lc=0) (hE:errK g) (hf:flR fn w rows ∈ F) (aT:(bw,wpB g.k) ∈ B) (aN:(bs_,nmB s) ∈ B) (hs:nm s) (ht:tld s=true) (aU:s ∉ nms F H) (hr:RowsOK w rows) (h1:1<=w) (h8:w<=6) (hc:rows.length<=60) (h2:rows.length<=2*sizeN g.m w) (hl:F.length+H.length<=24) (hH:H.length<=3) :
  ACall prog 201 #[self g.k,.string fn,tmF bw bs_] T λv T'=>v = .nilIface /\ ∃ out,out.Perm rows/\SortedR out/\Op g B (flR s w out :: F) H 0 T':=by
 obtain ⟨aE,aq⟩:=I.gm;have ax:=zcI I hf h1 (by show w<=8;omega) (by show rows.length<=_;omega) λh hh=>.inl (hi.w h hh);have aQ:Rec.needN w rows.length<=40:=by
  have:=Nat.mul_le_mul (show 5*w<=30 by omega) hc;unfold Rec.needN;rw [zgt h1];omega
 unfold tmF;refine k_E3 114 func201 ?_;refine r5_ ?_;refine AWP.scope ?_;refine r4_ ?_;refine ca_ rfl (ax) ?_;rintro _ T1 ⟨q,rfl,I⟩;obtain ⟨f0,h0,oq⟩:=Op.rq [] I
 (unfold rdB at oq;dsimp only at oq)
 have af:=λ{B':List (Nat × Blk)} {M:Mem} (J:Op g B' F (rdR q fn w rows 0 true :: H) 0 M) (hB:∀ y ∈ B,y ∈ B')=>zif (c:=rows.length) J (hB _ aT) (hB _ aN) hs ht aU vd vd aQ (by show F.length+(H.length+1)<=30;omega);replace I:Op g B F (rdR q fn w rows 0 true :: H) 0 T1:=I;refine r11_ ?_;refine rC (vh rfl rfl Er.neNil) ?_;refine r2_ ?_;refine cF_ ?_;obtain ⟨Y,mq,ah⟩ : ∃ Y:Mem,Y.own q=_ /\ ∀ U:Mem,U.own q=T1.own q->U.ro=T1.ro->Y.Less U:=⟨pickM T1 [q],(zaW (by simp)).trans oq,λU h1 h4=>zcT (λk hk=>by rw [List.mem_singleton.1 hk];exact h1) h4⟩;have aI:Y.Less T1:=ah _ rfl rfl;refine r3_ ?_;refine AWP.join (X:=SoX) (λX=>[(0,self g.k),(7,self q),(8,.nilIface),(9,.pointer (some ⟨X.b,0,none⟩))]) (λX=>X.T) (λX=>Op g ((X.b,bxB X.q) :: B) F (wtR X.q s w [] (Rec.needN w rows.length) :: rdR q fn w rows 0 true :: H) 0 X.T) ?_ ?_
 ·refine uj (Y) [] mixed zae ?_;refine dgp 0 rfl rfl (λ_=>Calm.move rfl) ?_;refine dgp 1 rfl rfl (λ_=>Calm.move rfl) ?_;refine dgp 2 rfl rfl (λ_=>Calm.nilCheck rfl) ?_;refine dgp 3 rfl rfl (λ_=>Calm.fieldAddr zdV rfl) ?_;refine dgl 4 rfl rfl (ld_ zbM rfl) ?_;refine dgp 5 rfl rfl (λ_=>Calm.move rfl) ?_;refine dgp 6 rfl rfl (λ_=>Calm.nilCheck rfl) ?_;refine dgp 7 rfl rfl (λ_=>Calm.fieldAddr zcC rfl) ?_;refine dgl 8 rfl rfl (ld_ zbE rfl) ?_;refine DG.two 9 13 (by kernel_rfl) rfl ?_ rfl ?_
  ·refine vn (zab rfl) zk2 rfl rfl (af I (λ_ h=>h)) ?_;rintro _ T2 ⟨V,rfl,J,ae⟩;have aw:Y.Less T2:=ah _ (ae _ (List.mem_cons_self ..)) (J.ro.trans I.ro.symm);refine zad ⟨ny_,?_⟩;refine dgp 10 rfl rfl (λ_=>Calm.move rfl) ?_;refine dgp 11 rfl rfl (λ_=>Calm.extract rfl rfl) ?_;refine dgp 12 rfl rfl (λ_=>Calm.extract rfl rfl) ?_;refine DG.only 13 (by kernel_rfl) rfl ?_;refine ARun.alloc (zab rfl) zbo ?_;intro K f9;refine nl_ ?_;have aL:Y.own K=none:=zh2 aw f9.1;refine zad ⟨ny_,?_⟩;refine DG.only 14 (by kernel_rfl) rfl ?_;refine s1_ ?_;refine zad ⟨ny_,?_⟩;refine dgp 15 rfl rfl (λ_=>Calm.assign rfl) ?_;refine uf (by kernel_rfl) ?_;refine ⟨⟨T2.set K (bxB V),K,V⟩,?_,?_,?_⟩<;>try dsimp only
   ·exact J.new f9 (bxB V)
   ·exact ⟨rfl,rfl,rfl,rfl,trivial⟩
   exact Mem.Less.refl _
  refine ARun.alloc (zab rfl) zbo ?_;intro K f9;refine nl_ ?_;have aL:Y.own K=none:=zh2 aI f9.1;have J:=I.new f9 ⟨56,[.pointer none],1⟩;refine zad ⟨ny_,?_⟩;refine DG.only 9 (by kernel_rfl) rfl ?_;refine vn (zab rfl) zk2 rfl rfl (af J (λ_ h=>List.mem_cons_of_mem _ h)) ?_;rintro _ T2 ⟨V,rfl,J,ae⟩;have aw:Y.Less T2:=ah _ ((ae _ (List.mem_cons_self ..)).trans (vg _ _ (f9.ne oq))) (J.ro.trans I.ro.symm);have o9:=J.o.1;refine zad ⟨ny_,?_⟩;refine dgp 10 rfl rfl (λ_=>Calm.move rfl) ?_;refine dgp 11 rfl rfl (λ_=>Calm.extract rfl rfl) ?_;refine dgp 12 rfl rfl (λ_=>Calm.extract rfl rfl) ?_;refine DG.only 14 (by kernel_rfl) rfl ?_;refine st_ o9 ?_;refine zad ⟨ny_,?_⟩;refine dgp 15 rfl rfl (λ_=>Calm.assign rfl) ?_;refine uf (by kernel_rfl) ?_;refine ⟨⟨T2.set K (bxB V),K,V⟩,?_,?_,?_⟩<;>try dsimp only
  ·exact J.put [] (bxB V)
  ·exact ⟨rfl,rfl,rfl,rfl,trivial⟩
  exact Mem.Less.refl _
 rintro ⟨T2,K,V⟩ J;intro _ _ au ay;(try dsimp only at *);refine zbO ?_;refine AWP.sub _ au (AWP.less _ ay ?_);clear au ay;replace J:Op g ((K,bxB V) :: B) F (wtR V s w [] (Rec.needN w rows.length) :: rdR q fn w rows 0 true :: H) 0 T2:=J;refine r4_ ?_;refine rC (vh rfl rfl Er.neNil) ?_;refine r2_ ?_;refine cF_ ?_;obtain ⟨kk,ad,av⟩:=zo6 J (by show F.length+(H.length+2)<=30;omega);refine r5_ ?_;refine cp_ rfl (av) ?_;have ad:(nms F (wtR V s w [] (Rec.needN w rows.length) :: H)).any (pfx (nameS nT kk))=false:=ad;have am:=zup (J.perm (.refl _) (.refl _) (List.Perm.swap ..)) (Idle.cons hi).n hg ad hr h1 h8 hc h2 (by show F.length+(H.length+1)<=26;omega) (by show H.length+1<=5;omega);refine r8_ ?_;refine ca_ rfl (am) ?_;rintro _ Z ⟨dn,rfl,an,aA,a4,J⟩;clear am ax af;refine r7_ ?_;refine kw_ [0,7,8,9,41,10,11] ?_;refine r4_ ?_;refine rC (vh rfl rfl Er.neNil) ?_;refine r2_ ?_;refine cF_ ?_;have J:Op g ((K,bxB V) :: B) ((runs (nameS nT kk) dn).map (fl2 w) ++ F) (wtR V s w [] (Rec.needN w rows.length) :: H) 0 Z:=J.perm (.refl _) ((zsO _ w dn).append (.refl _)) (.refl _);have aK:=zl3 (nameS nT kk) dn;have ag:=zps (nameS nT kk) dn;have a7:=zeL kk;refine r15_ ?_;refine AWP.loop (X:=Nat × Option (Nat × Nat)) (λx=>[(0,self g.k),(9,.pointer (some ⟨K,0,none⟩)),(10,.string (nameS nT kk)),(12,outV x.2 x.1),(55,.int .i64 (dn.length:Nat)),(56,.int .i64 (x.1:Nat))]) (λx=>outM Z x.2 9 ((names (nameS nT kk) x.1).map .string)) (λx=>x.1<=dn.length/\OkO Z x.2 x.1/\(x.1=0->x.2=none)) (λx=>dn.length-x.1) ((0,none)) ⟨rfl,rfl,rfl,rfl,rfl,rfl,trivial⟩ (Mem.Less.refl _) (⟨Nat.zero_le _,zcb _,λ_=>rfl⟩) ?_;rintro ⟨i,o2⟩ ⟨aC,ho,h0⟩;(try dsimp only at *);replace aC:i<=dn.length:=aC;replace ho:OkO Z o2 i:=ho;replace h0:i=0->o2=none:=h0;by_cases q1:i<dn.length
 ·refine r6_ ?_;refine cT_ ?_;refine r14_ ?_;refine cp_ rfl (Run.zfL (nameS nT kk) i _ vd vd vd) ?_;refine r10_ ?_;refine vk (zab rfl) za3 rfl rfl ?_;intro bf aP;refine vJ (zab rfl) za3 rfl (by rw [List.length_map,zjl]) (zc3 ho (by rw [List.length_map,zjl]) aP) rfl (news:=[_]) rds_ rfl vd (by simp [Value.oneCell']) vd vd ?_;intro bn cn aO;refine r9_ ?_;refine ⟨(i+1,some (bn,cn)),?_,?_,?_,?_⟩<;>try dsimp only
  ·exact ⟨rfl,rfl,rfl,rfl,rfl,rfl,trivial⟩
  ·show Mem.Less (outM _ _ _ _) _;rw [zhp,List.map_append];exact Mem.Less.refl _
  ·exact ⟨q1,aO,λe=>by omega⟩
  omega
 obtain rfl:i=dn.length:=by omega
 by_cases q2:dn.length=0
 ·obtain rfl:o2=none:=h0 q2;obtain rfl:dn = []:=List.eq_nil_of_length_eq_zero q2;obtain rfl:rows = []:=List.nil_perm.1 an;obtain ⟨tm,ow⟩:=J.wk;obtain ⟨x4,i4,oA,ac⟩:=J.ark;have ob:=J.o.1
  (unfold arB at oA;rw [ac] at oA;unfold wkB at ow;unfold bxB at ob)
  refine AWP.less Z (Mem.Less.refl _) ?_;refine r6_ ?_;refine cF_ ?_;refine r15_ ?_;refine cp_ rfl (zsJ g.m _ aE aq) ?_;refine r7_ ?_;refine kw_ [0,9,10,12,55,56,57,16] ?_;refine s1_ ?_;refine AWP.label ?_;refine r3_ ?_;refine AWP.loop (X:=Unit) (λ_=>[(0,self g.k),(9,.pointer (some ⟨K,0,none⟩)),(12,.slice none 0 0)]) (λ_=>Z) (λ_=>0<1) (λ_=>0) (()) ⟨rfl,rfl,rfl,trivial⟩ (Mem.Less.refl _) (Nat.zero_lt_one) ?_;rintro _ hz;(try dsimp only at *);refine r11_ ?_;refine cT_ ?_;refine r3_ ?_;have al:=zbK [] J (c':=0) (by simp) vd rfl vd (by decide);refine ca_ rfl (al) ?_;rintro _ T5 ⟨rfl,J⟩;clear al;refine cp_ rfl (zaj _ _) ?_;refine r10_ ?_;refine ano_ret ?_;refine ⟨_,T5,⟨_,_,rfl,rfl,rfl⟩,zae,?_⟩;exact ⟨rfl,[],.refl _,List.Pairwise.nil,J.tl⟩
 obtain ⟨gn,cn,rfl⟩:=ho.some vd;obtain ⟨aV,bd⟩:=ho.own gn cn rfl;have eN:(names (nameS nT kk) dn.length).map Value.string=(runs (nameS nT kk) dn).map (λf=>.string f.1):=by rw [<- ag,List.map_map];rfl
 rw [eN];have J:=J.new aV ⟨9,(runs (nameS nT kk) dn).map (λf=>.string f.1),cn⟩;rw [<- aK];have aJ:∀ f ∈ runs (nameS nT kk) dn,tld f.1=true:=λf hm=>by
  have:f.1 ∈ names (nameS nT kk) dn.length:=by rw [<- ag];exact List.mem_map_of_mem hm
  obtain ⟨j,hj,e⟩:=List.mem_map.1 this;rw [<- e];exact zh4 _ _
 have aD:((runs (nameS nT kk) dn).flatMap (·.2)).Perm rows:=(zjs _ dn).trans an;have aM:=zur (fs:=runs (nameS nT kk) dn) (nb:=gn) (cn:=cn) (bo:=K) J hE (by simp) (by simp) (λf hm=>⟨List.mem_append_left _ (List.mem_map_of_mem (f:=fl2 w) hm),(aA _ (zie _ hm)).2,(aA _ (zie _ hm)).1⟩) (by rw [ag];exact zrK _ vd) hi.w vd vd aD.length_eq vd h1 h8;obtain ⟨tm,ow⟩:=J.wk;obtain ⟨x4,i4,oA,ac⟩:=J.ark
 (unfold arB at oA;rw [ac] at oA;unfold wkB at ow)
 refine AWP.less (Z.set gn ⟨9,(runs (nameS nT kk) dn).map (λf=>.string f.1),cn⟩) (Mem.Less.refl _) ?_;refine r6_ ?_;refine cF_ ?_;refine r15_ ?_;refine cp_ rfl (zsJ g.m _ aE aq) ?_;refine r8_ ?_;refine AWP.label ?_;refine r3_ ?_;refine AWP.loop (X:=Unit) (λ_=>[(0,self g.k),(9,.pointer (some ⟨K,0,none⟩)),(12,.slice (some ⟨gn,0,none⟩) (runs (nameS nT kk) dn).length cn),(16,.int .i64 ((g.m-6:Nat):Int))]) (λ_=>Z.set gn ⟨9,(runs (nameS nT kk) dn).map (λf=>.string f.1),cn⟩) (λ_=>0<1) (λ_=>0) (()) ⟨rfl,rfl,rfl,rfl,trivial⟩ (Mem.Less.refl _) (Nat.zero_lt_one) ?_;rintro _ hz;(try dsimp only at *);refine r11_ ?_;refine cF_ ?_;refine r9_ ?_;refine kw_ [0,9,12,16,82,89] ?_;refine cT_ ?_;refine r12_ ?_;refine ca_ rfl (aM) ?_;rintro _ T5 ⟨rfl,out,o1,o2,J⟩;refine r7_ ?_;refine rC (vh rfl rfl Er.neNil) ?_;refine r2_ ?_;refine cF_ ?_;have aR:=zrL (fs:=runs (nameS nT kk) dn) (w:=w) (F:=flR s w out :: F) (nb:=gn) (cn:=cn) (J.perm (.refl _) List.perm_middle.symm (.refl _)) (by simp) (λf hm=>(aJ f hm)) hi.w (by show _+(F.length+1)+_<=60;omega);refine r6_ ?_;refine ca_ rfl (aR) ?_;rintro _ T6 ⟨rfl,J⟩;refine r4_ ?_;refine ano_ret ?_;refine ⟨_,T6,⟨_,_,rfl,rfl,rfl⟩,zae,?_⟩;exact ⟨rfl,out,o1.trans aD,o2,J.tl.tl⟩
theorem zeo (A:List Fl) (I:Op g B (A ++ flR fn w rows :: F) H 0 T) (hi:Idle H) (hg:g.ll = []/\g.lc=0) (hE:errK g) (V:tld fn=true) (hr:RowsOK w rows) (h1:1<=w) (h8:w<=6) (hc:rows.length<=60) (h2:rows.length<=2*sizeN g.m w) (hl:(A ++ flR fn w rows :: F).length+H.length<=24) (hH:H.length<=3) :
  ∃ s,nm s/\tld s=true/\s ∉ nms (A ++ flR fn w rows :: F) H/\ACall prog 153 #[self g.k,.string fn] T λv T'=>v = .tuple #[.string s,.nilIface] /\ ∃ out,out.Perm rows/\SortedR out/\Op g B (flR s w out :: (A ++ F)) H 0 T':=by
 obtain ⟨s,s1,Z,Y,X⟩:=zb4 I vd;refine ⟨s,s1,Z,Y,?_⟩;refine k_E2 23 func153 ?_;refine r9_ ?_;refine cp_ rfl (X) ?_;refine r10_ ?_;refine ca_ rfl (zkF T g.k s) ?_;rintro _ S1 ⟨bw,bs_,rfl,f1,f2,U⟩;rw [U];clear U S1;have K:=zus (bw:=bw) (bs_:=bs_) (fn:=fn) (s:=s) ((I.new f1 (wpB g.k)).new f2 (nmB s)) hi hg hE (by simp) (by simp) (by simp) s1 Z Y hr h1 h8 hc h2 hl hH;refine ca_ rfl (K) ?_;rintro _ T2 ⟨rfl,out,o1,o2,J⟩;clear K;refine r6_ ?_;refine rC (vh rfl rfl Er.neNil) ?_;refine r2_ ?_;refine cF_ ?_;rw [List.length_append,List.length_cons] at hl;refine r7_ ?_;have K:=zbL (flR s w out :: A) (f:=flR fn w rows) J V hi.w (by simp only [List.length_append,List.length_cons];omega);refine ca_ rfl (K) ?_;rintro _ T3 ⟨rfl,J⟩;clear K;refine r5_ ?_;refine ⟨_,T3,⟨_,_,rfl,⟨_,_,rfl,rfl,rfl⟩,rfl⟩,zae,?_⟩;exact ⟨rfl,out,o1,o2,J.tl.tl⟩
end
end Sto
end
section
open Go.RowKit Go.Shelf
open Mv Disk Num
namespace Sto
open Skew (firstsN needS)
theorem zrM (n:Nat) (S:Mem) (h:n<=65536):ACall prog 230 #[.int .u64 (n:Nat)] S λr S'=>r = .int .u64 ((if n % 3=1 then 1 else 0:Nat):Int)/\S'=S:=by
 by_cases q:n % 3=1
 ·rw [if_pos q];refine k_E1 6 func230 ?_;refine r13_ ?_;refine cT_ ?_;refine r7_ ?_;refine ⟨_,S,⟨_,_,rfl,rfl,rfl⟩,zae,?_⟩;exact ⟨rfl,rfl⟩
 rw [if_neg q];refine k_E1 6 func230 ?_;refine r13_ ?_;refine cF_ ?_;refine r8_ ?_;refine ⟨_,S,⟨_,_,rfl,rfl,rfl⟩,zae,?_⟩;exact ⟨rfl,rfl⟩
theorem zjt (n:Nat) (S:Mem) (h:n<=65536):ACall prog 197 #[.int .u64 (n:Nat)] S λr S'=>r = .int .u64 (firstsN n:Nat)/\S'=S:=by
 have I:=λS=>zrM n S h;have hk:(if n % 3=1 then 1 else 0:Nat)<=1:=by split <;> omega
 unfold Skew.firstsN;generalize (if n % 3=1 then 1 else 0:Nat)=k at *;refine k_E1 9 func197 ?_;refine r11_ ?_;refine cp_ rfl (I _) ?_;refine r5_ ?_;refine ⟨_,S,⟨_,_,rfl,rfl,rfl⟩,zae,?_⟩;exact ⟨congrArg (λz=>Value.int .u64 z) vd,rfl⟩
theorem zfn (n:Nat) (S:Mem) (h:n<=65536):ACall prog 149 #[.int .u64 (n:Nat)] S λr S'=>r = .tuple #[.int .u64 (needS n:Nat),.int .i64 0]/\S'=S:=by
 have I:=λS=>zjt n S h;have hk:firstsN n<=65536:=by unfold Skew.firstsN;split <;> omega
 unfold Skew.needS;generalize firstsN n=k at *;refine k_E1 15 func149 ?_;refine r13_ ?_;refine cF_ ?_;refine r5_ ?_;refine cp_ rfl (I _) ?_;refine r16_ ?_;refine ⟨_,S,⟨_,_,rfl,⟨_,_,rfl,rfl,rfl⟩,rfl⟩,zae,?_⟩;exact ⟨congrArg (λz=>Value.tuple #[.int .u64 z,.int .i64 0]) vd,rfl⟩
theorem zrN (a b:List Nat) (va vb:tu) (S:Mem) (ha:Sl 1 u64s S va a) (hb:Sl 1 u64s S vb b) (K:a.length=b.length) :
  ACall prog 229 #[va,vb] S λr S'=>r = .bool (decide (a=b))/\S'=S:=by
 obtain ⟨pa,ca,rfl,aj,ay,ac⟩:=ha;obtain ⟨pb,cb,rfl,ao,ax,Y⟩:=hb;refine k_E2 26 func229 ?_;refine r15_ ?_;refine cF_ ?_;refine r11_ ?_;refine AWP.loop (X:=Nat) (λx=>[(0,.slice pa a.length ca),(1,.slice pb b.length cb),(12,.int .i64 a.length),(13,.int .i64 x)]) (λx=>S) (λx=>x<=a.length /\ ∀ j (hj:j<a.length) (J:j<b.length),j<x->a[j]=b[j]) (λx=>a.length-x) (0) ⟨rfl,rfl,rfl,rfl,trivial⟩ (Mem.Less.refl _) (⟨Nat.zero_le _,λ_ _ _ h=>absurd h (Nat.not_lt_zero _)⟩) ?_;rintro i ⟨aq,hq⟩;(try dsimp only at *);refine r6_ ?_;refine vu rfl (λhl=>?_) (λhl=>?_)
 ·have hl:i<a.length:=by have:=of_decide_eq_true hl;omega
  have I:i<b.length:=by omega
  obtain ⟨b0,off,rfl,aa⟩:=ac.resolve_left (by intro h;rw [h] at hl;exact absurd hl (Nat.not_lt_zero _));obtain ⟨b1,ag,rfl,V⟩:=Y.resolve_left (by intro h;rw [h] at I;exact absurd I (Nat.not_lt_zero _));have Z:=aa i hl;have U:=V i I;unfold u64s at Z U;by_cases c1:a[i]=b[i]
  ·refine r10_ ?_;refine s1_ ?_;refine dr_ [i0_,i1_,i2_,i3_,i4_,i5_,i6_,i7_,i8_] [] ?_;refine r11_ ?_;refine cF_ ?_;refine r8_ ?_;refine ⟨i+1,?_,?_,?_,?_⟩<;>try dsimp only
   ·exact ⟨rfl,rfl,rfl,rfl,trivial⟩
   ·exact Mem.Less.refl _
   ·exact ⟨hl,λj hj J av=>by rcases Nat.lt_or_ge j i with h | h;exact hq j hj J h;obtain rfl:j=i:=vd;exact c1⟩
   omega
  refine r10_ ?_;refine kw_ [0,1,12,13,14,5] ?_;refine s1_ ?_;refine dr_ [i0_,i1_,i2_,i3_,i4_,i5_,i6_,i7_,i8_] [] ?_;refine r11_ ?_;refine cT_ ?_;refine r11_ ?_;refine ⟨_,S,⟨_,_,rfl,rfl,rfl⟩,zae,?_⟩;exact ⟨by rw [decide_eq_false (λe=>c1 (by subst e;rfl))];rfl,rfl⟩
 have hl:i=a.length:=by have:=of_decide_eq_false hl;omega
 refine r11_ ?_;refine ⟨_,S,⟨_,_,rfl,rfl,rfl⟩,zae,?_⟩;exact ⟨by rw [decide_eq_true (List.ext_getElem K λj h1 h2=>hq j h1 h2 vd)];rfl,rfl⟩
theorem Op.nd {g:Cx} {B:List (Nat × Blk)} {F:List Fl} {H:List Sh} {n:Nat} {T:Mem} (I:Op g B F H n T):(B.map (·.1)).Nodup:=by
 obtain ⟨fr,S,x,o,ts,I⟩:=I;exact I.bn
theorem Op.newV {g:Cx} {B:List (Nat × Blk)} {F:List Fl} {H:List Sh} {n r:Nat} {T:Mem} (I:Op g B F H n T) (J:Fresh T r) (k:Blk):∃ M,M.Less (T.set r k)/\Op g ((r,k) :: B) F H n M:=⟨_,Mem.Less.refl _,I.new J k⟩
theorem zig {S:Mem} {D:List Nat} {k:Nat} (h:k ∉ D):(pickM S D).own k=none:=if_neg h
end Sto
end
section
open Go.RowKit Go.Shelf
open Mv Disk Num
namespace Sto
open Skew (at0 isW atW rowW rowsW firstsN needS cntN rowN rowsN)
def cnB (k:Nat):Blk:=⟨31,[.int .u64 (k:Nat)],1⟩
def lsB (v:tu):Blk:=⟨161,[v],1⟩
section
variable {g:Cx} {B:List (Nat × Blk)} {F:List Fl} {H:List Sh} {T:Mem} {w bw bs_:Nat} {s fn:tt} {rows:List (List Nat)} {l:List Nat}
theorem zdD {c:Nat} (I:1<=w) (J:w<=6) (hc:c<=60):Rec.needN w c<=40:=by
 have:=Nat.mul_le_mul (show 5*w<=30 by omega) hc;unfold Rec.needN;rw [zgt I];omega
theorem zm7 (I:Op g B F H 0 T) (hf:flR fn 1 (oneL l) ∈ F) (hW:∀ h ∈ H,h.isW=true) (ad:(bw,wpB g.k) ∈ B) (Z:(bs_,nmB s) ∈ B) (hs:nm s) (ht:tld s=true) (ac:s ∉ nms F H) (hl:∀ z ∈ l,1<=z/\z<Num.top) (hc:l.length<=60) (ag:F.length+H.length<=28) (hH:H.length<=4) :
  ACall prog 193 #[self g.k,.string fn,tmF bw bs_] T λv T'=>v = .nilIface/\Op g B (flR s 4 (rowsW l (l.length+1)) :: F) H 0 T':=by
 have aa:needS l.length<=60:=by unfold Skew.needS Skew.firstsN;split <;> omega
 have Y:=zdf I hf rfl (by show (oneL l).length<=_;rw [zag];omega) λh hh=>.inl (hW h hh);unfold tmF;refine k_E3 53 func193 ?_;refine r9_ ?_;refine ca_ rfl (Y) ?_;rintro _ T1 ⟨p,rfl,I⟩;refine r3_ ?_;refine ARun.alloc (zab rfl) zgU ?_;intro b7 f7;refine nl_ ?_;refine r4_ ?_;have I:=I.new f7 (rpB p);obtain ⟨f0,h0,U⟩:=Op.rq [] I
 (unfold rdB rpB at U;dsimp only at U;rw [show (flR fn 1 (oneL l)).c=l.length from zag l] at U)
 refine r4_ ?_;refine rC (vh rfl rfl Er.neNil) ?_;refine r2_ ?_;refine cF_ ?_;refine r8_ ?_;refine cp_ rfl (zfn _ _ vd) ?_;refine r11_ ?_;have J:=zif (bw:=bw) (bs_:=bs_) (s:=s) (c:=needS l.length) (w:=4) I (by simp [ad]) (by simp [Z]) hs ht ac (by decide) vd (zdD (by decide) (by decide) aa) (by show F.length+(H.length+1)<=30;omega);refine vn (zab rfl) zk2 rfl rfl (J) ?_;rintro _ T3 ⟨q,rfl,I,_⟩;clear J;refine r3_ ?_;refine ARun.alloc (zab rfl) zbo ?_;intro b11 ae;refine nl_ ?_;refine r4_ ?_;obtain ⟨T4,l4,I⟩:=I.newV ae (bxB q);refine AWP.less T4 l4 ?_;obtain ⟨f1,h1,U⟩:=Op.rq [_] I
 (unfold rdB at U;dsimp only at U;rw [show (flR fn 1 (oneL l)).c=l.length from zag l] at U)
 refine r4_ ?_;refine rC (vh rfl rfl Er.neNil) ?_;refine r2_ ?_;refine kw_ [0,1,2,6,7,8,20,9,11,37] ?_;refine cF_ ?_;have V:=I.o.2.1;unfold rpB at V;refine r8_ ?_;refine cp_ rfl (zjt _ _ vd) ?_;refine ARun.alloc (zab rfl) zbn ?_;intro b12 X;have K:=X
 repeat ((with_reducible replace K:=zaa K);obtain ⟨K,_⟩:=K)
 have:=K.ne V;have:=K.ne' V
 have:=K.ne U;have:=K.ne' U
 refine nl_ ?_;refine r3_ ?_;have I:=(I.new X (cnB (firstsN l.length))).perm (.refl _) (.refl _) (List.Perm.swap ..);have V:=I.o.2.2.1;unfold rpB cnB at V;refine r4_ ?_;have J:=zpj (b7:=b7) (b12:=b12) (b11:=b11) I (by simp) (by simp [cnB]) (by simp) hl hc hH;refine ca_ rfl (J) ?_;rintro _ T4 ⟨rfl,I⟩;clear J;refine r7_ ?_;refine rC (vh rfl rfl Er.neNil) ?_;refine r2_ ?_;refine cF_ ?_;have af:=I.o.2.1;unfold bxB at af;refine r5_ ?_;have J:=zbK [] I (c':=needS l.length) (by rw [if_neg (by decide)];exact (Skew.zeO l).symm) (by decide) rfl vd (by decide);refine ca_ rfl (J) ?_;rintro _ T5 ⟨rfl,I⟩;clear J;refine cp_ rfl (zaj _ _) ?_;refine r4_ ?_;refine ⟨_,T5,⟨_,_,rfl,rfl,rfl⟩,zae,?_⟩;exact ⟨rfl,by unfold flR;rw [Skew.zeO];exact I.tl.tl.tl⟩
theorem zpt {k:Nat} (hk:k<rows.length):rowN rows k = [rows[k].getD 3 0,cntN rows (k+1)]/\cntN rows (k+1)=cntN rows k+if k=0\/(rows.getD (k-1) []).take 3≠rows[k].take 3 then 1 else 0:=by
 have I:rows.getD k []=rows[k]:=by rw [List.getD_eq_getElem?_getD,List.getElem?_eq_getElem hk];rfl
 exact ⟨by unfold Skew.rowN;rw [I],by rw [Skew.cntN,I]⟩
theorem zl4:∀ z,cntN rows z<=z
 | 0=>Nat.le_refl 0
 | z+1=>by have:=zl4 z;rw [Skew.cntN];split <;> omega
theorem zrO (I:Op g B F H 0 T) (hf:flR fn 4 rows ∈ F) (hW:∀ h ∈ H,h.isW=true) (a1:(bw,wpB g.k) ∈ B) (aU:(bs_,nmB s) ∈ B) (hs:nm s) (ht:tld s=true) (a0:s ∉ nms F H) (hr:RowsOK 4 rows) (hc:rows.length<=60) (a6:F.length+H.length<=28) (hH:H.length<=4) :
  ACall prog 195 #[self g.k,.string fn,tmF bw bs_] T λv T'=>v = .tuple #[.int .u64 (cntN rows rows.length:Nat),.nilIface]/\Op g B (flR s 2 (rowsN rows rows.length) :: F) H 0 T':=by
 unfold tmF;refine vI (args:=[self g.k,.string fn,.func (.func 228) #[] #[.pointer (some ⟨bw,0,none⟩),.pointer (some ⟨bs_,0,none⟩)]]) (rs:=[.cell 6 31,.cell 7 52]) 78 [(0,self g.k),(1,.string fn),(2,.func (.func 228) #[] #[.pointer (some ⟨bw,0,none⟩),.pointer (some ⟨bs_,0,none⟩)])] func195 rfl rfl (Nat.le_of_ble_eq_true rfl) rfl ⟨rfl,rfl,rfl,trivial⟩ ?_;refine vj (rs:=[.cell 6 31,.cell 7 52]) rfl ?_;refine s1_ ?_;refine ARun.alloc (zab rfl) zbn ?_;intro b6 f6;refine nl_ ?_;refine ARun.alloc (zab rfl) za_ ?_;intro b7 f7;refine nl_ ?_;refine r2_ ?_;have I:=(I.new f6 (cnB 0)).new f7 bxE;refine vj (rs:=[.cell 6 31,.cell 7 52]) rfl ?_;refine r3_ ?_;have U:=zcI I hf (show 1<=4 by decide) (show 4<=8 by decide) (show rows.length<=65536 by omega) (λh hh=>.inl (hW h hh));refine ca_ rfl (U) ?_;rintro _ T1 ⟨p,rfl,I⟩;clear U;obtain ⟨f0,h0,oq⟩:=Op.rq [] I
 (unfold rdB at oq;dsimp only [flR] at oq)
 refine r7_ ?_;refine kM_ [0,1,2,6,7,8,9] ?_;refine vj (rs:=[.cell 6 31,.cell 7 52]) rfl ?_;refine r3_ ?_;refine rC (vh rfl rfl Er.neNil) ?_;refine r2_ ?_;refine cF_ ?_;refine r2_ ?_;refine vj (rs:=[.cell 6 31,.cell 7 52]) rfl ?_;refine r6_ ?_;have U:=zif (bw:=bw) (bs_:=bs_) (s:=s) (c:=rows.length) (w:=2) I (by simp [a1]) (by simp [aU]) hs ht a0 (by decide) vd (zdD (by decide) (by decide) hc) (by show F.length+(H.length+1)<=30;omega);refine vn (zab rfl) zk2 rfl rfl (U) ?_;rintro _ T3 ⟨q,rfl,I,_⟩;clear U;refine r3_ ?_;refine ARun.alloc (zab rfl) zbo ?_;intro K aM;refine nl_ ?_;refine r4_ ?_;refine kM_ [0,1,2,6,7,8,9,23,10] ?_;have I:=I.new aM (bxB q);refine vj (rs:=[.cell 6 31,.cell 7 52]) rfl ?_;refine r3_ ?_;refine rC (vh rfl rfl Er.neNil) ?_;refine r2_ ?_;refine cF_ ?_;refine r2_ ?_;refine vj (rs:=[.cell 6 31,.cell 7 52]) rfl ?_;refine s1_ ?_;refine ARun.alloc (zab rfl) zbn ?_;intro b11 a2;refine nl_ ?_;refine r3_ ?_;have I:=I.new a2 (cnB 0);refine vj (rs:=[.cell 6 31,.cell 7 52]) rfl ?_;refine s1_ ?_;refine ARun.alloc (zab rfl) zf0 ?_;intro b12 aR;refine nl_ ?_;refine r2_ ?_;have I:=(I.new aR (lsB (.slice none 0 0))).perm (.refl _) (.refl _) (List.Perm.swap ..);refine vO ?_;refine AWPM.seq ?_;refine r2_ ?_;refine ca_ rfl (zgx _ p) ?_;rintro _ S9 ⟨bq,rfl,fq,h9⟩;rw [h9];clear h9 S9;intro S0 w0 e w1 aZ hg;refine wpIn_block ?_;refine zdg (N:=78) (p1:=39) bq 0 30 (λk=>wtR q s 2 (rowsN rows k) (Rec.needN 2 rows.length) :: H) (λk B'=>∃ lv Bl,B'=(b12,lsB lv) :: (b11,cnB (cntN rows k)) :: (Bl ++ (bq,rpB p) :: (K,bxB q) :: (b7,bxE) :: (b6,cnB 0) :: B)/\((k=0/\lv = .slice none 0 0)\/(k≠0 /\ ∃ g0,lv = .slice (some ⟨g0,0,none⟩) 3 4/\Bl = [(g0,⟨31,(rows.getD (k-1) []).map nU,4⟩)]))) [(6,_),(7,_),(8,_),(10,_),(11,_),(12,_),(38,_)] [(6,_),(7,_),(8,_),(10,_),(11,_)] (hg.sub ⟨rfl,rfl,rfl,rfl,rfl,rfl,rfl,trivial⟩) rfl (zab rfl) (by decide) (by decide) vd hr (by decide) (λ_=>by show H.length+1<=7;omega) (λ_ _ ⟨_,_,e,_⟩=>by rw [e];simp) ⟨true,_,⟨_,[],rfl,.inl ⟨rfl,rfl⟩⟩,(I.new fq (rpB p)).perm ((List.Perm.swap ..).trans ((List.Perm.swap ..).cons _)) (.refl _) (.refl _)⟩ aZ ⟨rfl,rfl,rfl,rfl,rfl,trivial⟩ (rs:=[.cell 6 31,.cell 7 52]) (λ_ _ h=>h) rfl ?round ?done
 case round =>
  rintro l k gb _ M hk ⟨lv,Bl,rfl,aj⟩ J;rw [Nat.zero_add] at J;have pg:=J.o.1;have aI:=J.o.2.1;have aw:=J.o.2.2.1;have aQ:=J.o.mem (K,bxB q) (by simp);obtain ⟨bg,aO⟩:=hr _ (List.getElem_mem hk);obtain ⟨aH,Z⟩:=zpt hk;have ao:=zl4 (rows:=rows) (k+1);have a4:=zl4 (rows:=rows) k;have aY:rows.getD (k+1-1) []=rows[k]:=by rw [Nat.add_sub_cancel,List.getD_eq_getElem?_getD,List.getElem?_eq_getElem hk];rfl
  generalize rows[k]=V at *;have aX:V.getD 3 0=V[3]'vd:=by rw [List.getD_eq_getElem?_getD,List.getElem?_eq_getElem vd];rfl
  have aG:=aO _ (List.getElem_mem (show 3<V.length by omega));have aq:Sl 1 u64s M (.slice (some ⟨gb,0,none⟩) 3 4) (V.take 3):=vL (g:=nU) (r:=⟨31,V.map nU,4⟩) pg (by rw [List.map_take];exact List.take_prefix _ _) (by rw [List.length_take];omega) (by decide) (by decide);have ai:k≠0 -> ∃ g0,lv = .slice (some ⟨g0,0,none⟩) 3 4/\((rows.getD (k-1) []).take 3).length=3/\Sl 1 u64s M (.slice (some ⟨g0,0,none⟩) 3 4) ((rows.getD (k-1) []).take 3):=λh0=>by
   obtain ⟨_,g0,e1,e2⟩:=aj.resolve_left λh=>h0 h.1;have e3:(rows.getD (k-1) []).length=4:=by
    rw [List.getD_eq_getElem?_getD,List.getElem?_eq_getElem (show k-1<rows.length by omega)];exact (hr _ (List.getElem_mem (show k-1<rows.length by omega))).1
   exact ⟨g0,e1,by rw [List.length_take];omega,vL (g:=nU) (r:=⟨31,(rows.getD (k-1) []).map nU,4⟩) (J.o.mem (g0,⟨31,(rows.getD (k-1) []).map nU,4⟩) (by rw [e2];simp)) (by rw [List.map_take];exact List.take_prefix _ _) (by rw [List.length_take];omega) (by decide) (by decide)⟩
  obtain ⟨bb,af⟩ : ∃ bb,bb=decide (k=0\/(rows.getD (k-1) []).take 3≠V.take 3):=⟨_,rfl⟩;unfold bxB at aQ;unfold cnB at aw;unfold lsB at aI;refine GWP.region ?_;refine r3_ ?_;refine kG_ [39,6,7,8,10,11,12,13] ?_;refine GWP.block ?_;refine GWP.seq ?_;refine GWP.seq ?_;refine GWP.join (X:=Unit) (λ_=>[(13,.slice (some ⟨gb,0,none⟩) 4 4),(10,.pointer (some ⟨K,0,none⟩)),(11,.pointer (some ⟨b11,0,none⟩)),(12,.pointer (some ⟨b12,0,none⟩)),(48,.bool bb)]) (λ_=>M) (λ_=>0<1) ?_ ?_
  ·rcases aj with ⟨rfl,rfl⟩ | ⟨au,_⟩
   ·refine GWP.draw [i0_,i1_,i2_,i3_,i4_,i5_,o6_,i7_,i8_] [6] mixed (by kernel_rfl) ?_;refine r6_ ?_;refine zac rfl ?_;refine s1_ ?_;refine zad ⟨nz_,?_⟩;refine r3_ ?_;refine ⟨(),?_,?_,?_⟩<;>try dsimp only
    ·exact Nat.zero_lt_one
    ·exact ⟨rfl,rfl,rfl,rfl,(by rw [af,decide_eq_true (.inl rfl)];rfl),trivial⟩
    exact Mem.Less.refl _
   obtain ⟨g0,rfl,aJ,aW⟩:=ai au;refine GWP.draw [i0_,i1_,i2_,i3_,i4_,i5_,o6_,i7_,i8_] [6] mixed (by kernel_rfl) ?_;refine r5_ ?_
   first|refine k_d ?_|refine dG (hc:=λ_=>vK 3 underlying161 zaw rfl rfl rfl (by decide)) (h:=?_)
   refine zac rfl ?_;refine vC 2 false 42 rfl (zab rfl) rfl (zab rfl) zvq rfl (zrN _ _ _ _ _ aW aq (by rw [aJ,List.length_take];omega)) ?_;rintro _ S9 ⟨rfl,h9⟩;rw [h9];clear h9 S9;refine zad ⟨nz_,?_⟩;refine r3_ ?_;refine ⟨(),?_,?_,?_⟩<;>try dsimp only
   ·exact Nat.zero_lt_one
   ·exact ⟨rfl,rfl,rfl,rfl,congrArg (λz=>some (Value.bool z)) (show (!decide ((rows.getD (k-1) []).take 3=V.take 3))=bb from by rw [af,<- decide_not];exact decide_eq_decide.2 ⟨.inr,λh=>h.resolve_left au⟩),trivial⟩
   exact Mem.Less.refl _
  rintro _ _;intro _ _ ac ad;(try dsimp only at *);refine zbO ?_;refine GWP.sub _ ac (GWP.less _ ad ?_);clear ac ad;refine GWP.join (X:=Mem) (λ_=>[(13,.slice (some ⟨gb,0,none⟩) 4 4),(10,.pointer (some ⟨K,0,none⟩)),(11,.pointer (some ⟨b11,0,none⟩)),(12,.pointer (some ⟨b12,0,none⟩))]) (λX=>X) (λX=>Op g ((gb,⟨31,V.map nU,4⟩) :: (b12,lsB lv) :: (b11,cnB (cntN rows (k+1))) :: (Bl ++ (bq,rpB p) :: (K,bxB q) :: (b7,bxE) :: (b6,cnB 0) :: B)) F (rdR p fn 4 rows (k+1) false :: wtR q s 2 (rowsN rows k) (Rec.needN 2 rows.length) :: H) (30*k+5*4) X) ?_ ?_
  ·by_cases hq:k=0\/(rows.getD (k-1) []).take 3≠V.take 3
   ·rw [af,decide_eq_true hq];rw [if_pos hq] at Z;refine GWP.condT rfl (by first|rfl|(simp;done)|(simp;omega)) ?_;refine GWP.region ?_;refine r2_ ?_;refine st_ aw ?_;refine s1_ ?_;refine ⟨M.set b11 (cnB (cntN rows (k+1))),?_,?_,?_⟩<;>try dsimp only
    ·exact J.put [_,_] (cnB (cntN rows (k+1)))
    ·exact ⟨rfl,rfl,rfl,rfl,trivial⟩
    (rw [Z];exact Mem.Less.refl _)
   rw [af,decide_eq_false hq];replace Z:cntN rows (k+1)=cntN rows k:=(by rw [Z,if_neg hq];rfl);refine GWP.condF rfl (by first|rfl|(simp;done)|(simp;omega)) ?_;refine GWP.skip ?_;refine ⟨M,?_,?_,?_⟩<;>try dsimp only
   ·(rw [Z];exact J)
   ·exact ⟨rfl,rfl,rfl,rfl,trivial⟩
   exact Mem.Less.refl _
  rintro M2 J;intro _ _ ac ad;(try dsimp only at *);refine zbO ?_;refine GWP.sub _ ac (GWP.less _ ad ?_);clear ac ad;have ay:=J.o.2.1;unfold lsB at ay;refine GWP.seq ?_;refine GWP.region ?_;refine s1_ ?_;refine rC (vK 3 underlying161 zaw rfl rfl rfl (by decide)) ?_;refine st_ ay ?_;refine r2_ ?_;refine kG_ [13,10,11,12] ?_;have J:=J.put [_] (lsB (.slice (some ⟨gb,0,none⟩) 3 4));have ig:=J.o.1;have al:=J.o.2.2.1;have ah:=J.o.mem (K,bxB q) (by simp)
  (unfold bxB at ah;unfold cnB at al)
  refine GWP.less (M2.set b12 (lsB (.slice (some ⟨gb,0,none⟩) 3 4))) (Mem.Less.refl _) ?_;generalize M2.set b12 (lsB (.slice (some ⟨gb,0,none⟩) 3 4))=M3 at *;refine GWP.seq ?_;refine GWP.draw [i0_,i1_,i2_,i3_,i4_,o5_,o6_,o7_,i8_] [6,7] mixed (by kernel_rfl) ?_;refine r3_ ?_;refine dC (hc:=Calm.load zbE rfl (v:=nU (V[3]'vd)) (zbZ (g:=nU) 3 vd ig vd)) (h:=?_);refine s1_ ?_;refine zac rfl ?_;refine vD (cs:=[_,_]) (zab rfl) zaq rfl rfl rfl rfl ?_;intro bm an;have Y:=an
  repeat ((with_reducible replace Y:=zaa Y);obtain ⟨Y,_⟩:=Y)
  have:=Y.ne ah;have:=Y.ne' ah
  have:=Y.ne al;have:=Y.ne' al
  refine zad ⟨ny_,?_⟩;refine zac rfl ?_;have U:=zbT [_] [V[3]'vd,cntN rows (k+1)] rows.length J an rfl rfl (by simp only [List.mem_cons,List.not_mem_nil,or_false];rintro z (rfl | rfl);exact aG;exact Nat.lt_of_le_of_lt ao (Nat.lt_of_lt_of_le (show k+1<1000 by omega) (by decide))) (by decide) (by decide) rfl (by rw [Skew.zcX];exact hk) vd vd (by show H.length+1<=7;omega);refine ca_ rfl (U) ?_;rintro _ M5 ⟨rfl,J⟩;clear U;refine zad ⟨nz_,?_⟩;refine zac rfl ?_;refine cp_ rfl (zaj _ _) ?_;refine zad ⟨nz_,?_⟩;refine r3_ ?_;refine kG_ [13,10,11,12,14] ?_;refine GWP.seq ?_;refine GWP.region ?_;refine s1_ ?_;refine rC (vh rfl rfl Er.neNil) ?_;refine r2_ ?_;refine kG_ [13,10,11,12,14,62] ?_;refine GWP.condF rfl (by first|rfl|(simp;done)|(simp;omega)) ?_;refine GWP.skip ?_;refine s1_ ?_;exact ⟨rfl,false,_,⟨_,[(gb,⟨31,V.map nU,4⟩)],rfl,.inr ⟨Nat.succ_ne_zero k,gb,rfl,by rw [aY]⟩⟩,by rw [Skew.zm4,aH,aX,<- zaX];exact ((J.sub (((List.sublist_append_right _ _).cons_cons _).cons_cons _ |>.cons_cons _)).perm ((List.Perm.swap ..).trans ((List.Perm.swap ..).cons _)) (.refl _) (.refl _)).mono vd⟩
 case done =>
  rintro D z0 _ M ⟨lv,Bl,rfl,aj⟩ J;replace J:=J.sub (((List.sublist_append_right Bl _).cons_cons _).cons_cons _);refine GWP.seq ?_;refine GWP.region ?_;refine s1_ ?_;have U:=zbd [] J;refine ca_ rfl (U) ?_;rintro _ M2 ⟨rfl,f,J⟩;clear U;have oq:=J.o.1;have aP:=J.o.2.2.1;have aF:=J.o.mem (K,bxB q) (by simp)
  (unfold rdB at oq;dsimp only at oq)
  refine r2_ ?_;refine kG_ [6,7,8,10,11] ?_;refine GWP.seq ?_;refine GWP.seq ?_;refine GWP.region ?_;refine r4_ ?_;refine cp_ rfl (zaj _ _) ?_;refine r3_ ?_;refine kG_ [6,7,8,10,11,15] ?_;refine GWP.seq ?_;refine GWP.region ?_;refine s1_ ?_;refine rC (vh rfl rfl Er.neNil) ?_;refine r2_ ?_;refine kG_ [6,7,8,10,11,15,72] ?_;refine GWP.condF rfl (by first|rfl|(simp;done)|(simp;omega)) ?_;have nd:=J.nd;simp only [List.map_cons,List.nodup_cons,List.mem_cons,not_or] at nd;have bi:(pickM M2 [K,b11]).own b6=none:=zig (by simp only [List.mem_cons,List.not_mem_nil,or_false,not_or];omega);have bl:(pickM M2 [K,b11]).own b7=none:=zig (by simp only [List.mem_cons,List.not_mem_nil,or_false,not_or];omega);have av:=λ{F' H' n' T'} (J':Op g _ F' H' n' T')=>J.pick J' [(K,bxB q),(b11,cnB (cntN rows rows.length))] (by simp);have a3:(pickM M2 [K,b11]).own K=_:=(zaW (by simp)).trans aF;have aL:(pickM M2 [K,b11]).own b11=_:=(zaW (by simp)).trans aP
  (unfold bxB at a3;unfold cnB at aL)
  have bk:(pickM M2 [K,b11]).Less M2:=av J;refine GWP.skip ?_;refine s1_ ?_;refine GWP.seq ?_;refine GWP.drawS (pickM M2 [K,b11]) zae [i0_,i1_,o2_,o3_,o4_,o5_] [] mixed (by kernel_rfl) ?_;refine r2_ ?_;refine zac rfl ?_;have U:=zbK [] J (c':=rows.length) (by rw [if_neg (by decide),Skew.zcX]) (by decide) rfl vd vd;refine ca_ rfl (U) ?_;rintro _ M3 ⟨rfl,J⟩;clear U;have be:(pickM M2 [K,b11]).Less M3:=av J;refine zad ⟨ny_,?_⟩;refine zac rfl ?_;refine cp_ rfl (zaj _ _) ?_;have p6:=J.o.mem (b6,cnB 0) (by simp);have p7:=J.o.mem (b7,bxE) (by simp);have aA:=zlE p7 p6 (by show ¬ 52=31;decide)
  (unfold cnB at p6;unfold bxE at p7)
  refine zad ⟨ny_,?_⟩;refine zac rfl ?_;refine st_ p6 ?_;refine zad ⟨ny_,?_⟩;refine zac rfl ?_;refine st_ ((vg _ _ aA).trans p7) ?_;refine zad ⟨ny_,?_⟩;refine r2_ ?_;refine kG_ [6,7,8,10,11,15,72] ?_;refine GWP.ret ?_;refine ⟨_,M3.set b6 (cnB (cntN rows rows.length)),⟨_,_,_,rfl,.inl ⟨zbE,rd_⟩,⟨_,_,_,rfl,.inl ⟨zaV,rd_⟩,rfl,rfl⟩,rfl⟩,(by rw [vB _ _ _ ((vg _ _ aA).trans p7)];exact Mem.Less.refl _),?_⟩;exact ⟨rfl,by unfold flR;rw [Skew.zcX];exact (J.put [_,_,_,_,_,_] (cnB (cntN rows rows.length))).tl.tl.tl.tl.tl.tl.tl⟩
end
end Sto
end
section
open Go.RowKit Go.Shelf
open Mv Disk Num
namespace Sto
open Skew (at0 isW atW rowW rowsW firstsN needS cntN rowN rowsN red)
open Run (sizeN)
section
variable {g:Cx} {B B0:List (Nat × Blk)} {F:List Fl} {H:List Sh} {T:Mem} {s fn:tt} {l:List Nat} {f:tA} {caps:List tu}
theorem zdi {m w c:Nat} (hm:24<=m) (I:1<=w) (J:w<=6) (hc:c<=60):c<=2*sizeN m w:=by
 unfold Run.sizeN;have U:64*16<=64*(m-8):=Nat.mul_le_mul_left _ vd;have K:30<=64*(m-8) / (5*w):=(Nat.le_div_iff_mul_le vd).2 (Nat.le_trans (Nat.mul_le_mul_left 30 (show 5*w<=30 by omega)) vd);omega
theorem zrP (hl:∀ z ∈ l,z<Num.top) (hc:l.length<=4096):RowsOK 4 (rowsW l (l.length+1)):=λr I=>by
 obtain ⟨i,hi,rfl⟩:=List.mem_map.1 I;have h:=List.mem_filter.1 hi;rw [List.mem_range] at h;exact zpg hl hc vd
theorem zrQ {out:List (List Nat)} (I:RowsOK 4 out) (hc:out.length<=100):RowsOK 2 (rowsN out out.length):=λr hm=>by
 obtain ⟨i,hi,rfl⟩:=List.mem_map.1 hm;rw [List.mem_range] at hi;refine ⟨rfl,λz hz=>?_⟩;unfold Skew.rowN at hz;rcases List.mem_cons.1 hz with rfl | hz
 ·rw [List.getD_eq_getElem?_getD (l:=out),List.getElem?_eq_getElem hi,Option.getD_some];have J:=I _ (List.getElem_mem hi);rw [List.getD_eq_getElem?_getD,List.getElem?_eq_getElem vd];exact J.2 _ (List.getElem_mem _)
 rw [List.mem_singleton.1 hz];exact Nat.lt_of_le_of_lt (zl4 (i+1)) (Nat.lt_of_lt_of_le (show i+1<1000 by omega) (by decide))
theorem zdE {w:Nat} {a b:List (List Nat)} (h:a.Perm b) (hb:RowsOK w b):RowsOK w a:=λr I=>hb r (h.mem_iff.1 I)
theorem zut (I:Op g B F H 0 T) (hi:Idle H) (hg:g.ll = []/\g.lc=0) (hE:errK g) (hf:flR fn 1 (oneL l) ∈ F) (X:Opn g B0 f caps s) (aA:∀ y ∈ B0,y ∈ B) (aC:s ∉ nms F H) (hl:∀ z ∈ l,1<=z/\z<Num.top) (hc:l.length<=60) (aG:F.length+H.length<=18) (hH:H.length<=2) :
  ACall prog 147 #[self g.k,.string fn,.func (.func f) #[] caps.toArray] T λv T'=>∃ nn:Nat,v = .tuple #[.int .u64 nn,.nilIface]/\Op g B (flR s 1 (oneL (red l)) :: F) H 0 T':=by
 have ae:=I.gm;have aW:needS l.length<=41:=by unfold Skew.needS Skew.firstsN;split <;> omega
 have az:=Skew.zeO l;have ag:=zrP (λz hz=>(hl z hz).2) (show l.length<=4096 by omega);have al:=zdf I hf rfl (by show (oneL l).length<=_;rw [zag];omega) λh hh=>.inl (hi.w h hh);refine k_E3 103 func147 ?_;refine r10_ ?_;refine ca_ rfl (al) ?_;rintro _ T1 ⟨p,rfl,I⟩;obtain ⟨f0,I⟩:=zdx [] I;have oq:=I.o.1
 (unfold rdB at oq;dsimp only at oq;rw [show (flR fn 1 (oneL l)).c=l.length from zag l] at oq)
 refine r11_ ?_;refine rC (vh rfl rfl Er.neNil) ?_;refine r2_ ?_;refine cF_ ?_;refine r8_ ?_;refine cp_ rfl (zfn _ _ vd) ?_;obtain ⟨ay,X⟩:=X (w:=1) (c:=needS l.length) aC (by decide) vd (zdD (by decide) (by decide) vd) (show F.length+H.length<=30 by omega);refine r11_ ?_;refine vn (zab rfl) ay rfl rfl (X (λy hy=>List.mem_cons_of_mem _ (aA y hy)) I) ?_;rintro _ T2 ⟨q,rfl,I⟩;replace I:=I.tl;replace hi:=Idle.cons hi (q:=q) (s:=s) (w:=1) (c:=0) (k:=Rec.needN 1 (needS l.length));have aP:(Sh.wt q s 1 0 [] (Rec.needN 1 (needS l.length)) :: H).length=H.length+1:=rfl;refine r11_ ?_;refine rC (vh rfl rfl Er.neNil) ?_;refine r2_ ?_;refine kw_ [0,1,2,6,7,8,9,26,10,12,43] ?_;refine cF_ ?_;obtain ⟨s1,a1,a2,a3,Y⟩:=zb4 I vd;refine r5_ ?_;refine cp_ rfl (Y) ?_;refine r10_ ?_;refine ca_ rfl (zkF T2 g.k s1) ?_;rintro _ S9 ⟨c1,c2,rfl,e1,e2,h9⟩;rw [h9];clear h9 S9;have J:=zm7 (bw:=c1) (bs_:=c2) (s:=s1) ((I.new e1 (wpB g.k)).new e2 (nmB s1)) hf hi.w (by simp) (by simp) a1 a2 a3 hl hc vd vd;refine ca_ rfl (J) ?_;rintro _ T5 ⟨rfl,I⟩;clear J;replace I:=I.tl.tl;obtain ⟨s2,b1,b2,b3,Z⟩:=zeo [] I hi hg hE a2 ag (by decide) (by decide) vd (zdi ae.1 (by decide) (by decide) vd) (by simp only [List.append_eq,List.nil_append,List.length_cons];omega) vd;refine r6_ ?_;refine rC (vh rfl rfl Er.neNil) ?_;refine r2_ ?_;refine cF_ ?_;refine r6_ ?_;refine ca_ rfl (Z) ?_;rintro _ T6 ⟨rfl,out,V,aB,I⟩;have av:=V.length_eq;have ai:=zdE V ag;refine r11_ ?_;refine rC (vh rfl rfl Er.neNil) ?_;refine r2_ ?_;refine kw_ [0,1,2,6,7,8,9,26,10,12,43,13,14,54,15,63] ?_;refine cF_ ?_;obtain ⟨s3,c1,c2,c3,Y⟩:=zb4 I (by simp only [List.append_eq,List.nil_append,List.length_cons] at *;omega);refine r5_ ?_;refine cp_ rfl (Y) ?_;refine r9_ ?_;refine ca_ rfl (zkF T6 g.k s3) ?_;rintro _ S9 ⟨d1,d2,rfl,e1,e2,h9⟩;rw [h9];clear h9 S9;have J:=zrO (bw:=d1) (bs_:=d2) (s:=s3) ((I.new e1 (wpB g.k)).new e2 (nmB s3)) (List.mem_cons_self ..) hi.w (by simp) (by simp) c1 c2 c3 ai vd (by simp only [List.append_eq,List.nil_append,List.length_cons] at *;omega) vd;refine ca_ rfl (J) ?_;rintro _ T7 ⟨rfl,I⟩;clear J;replace I:=I.tl.tl;refine r11_ ?_;refine rC (vh rfl rfl Er.eqNil) ?_;refine r2_ ?_;refine cT_ ?_;refine r3_ ?_;have J:=zbL [_] I b2 hi.w (by simp only [List.append_eq,List.length_append,List.length_cons,List.length_nil,List.nil_append] at *;omega);refine ca_ rfl (J) ?_;rintro _ T8 ⟨rfl,I⟩;clear J;have ao:=Skew.zcX out out.length;have ah:=zrQ ai vd;obtain ⟨s4,d1,d2,d3,Z⟩:=zeo [] I hi hg hE c2 ah (by decide) (by decide) vd (zdi ae.1 (by decide) (by decide) vd) (by simp only [List.append_eq,List.nil_append,List.length_cons] at *;omega) vd;refine r7_ ?_;refine rC (vh rfl rfl Er.neNil) ?_;refine r2_ ?_;refine kw_ [0,1,2,6,7,8,9,26,10,12,43,13,14,54,15,63,16,17,77,82] ?_;refine cF_ ?_;refine r6_ ?_;refine ca_ rfl (Z) ?_;rintro _ aO ⟨rfl,U,K,ac,I⟩;have aa:U.length=needS l.length:=by rw [K.length_eq,ao,av,az]
 have aj:(U.map λr=>[r.getD 1 0])=oneL (red l):=by
  obtain ⟨e,af,rfl,ax⟩:=Skew.zrG V aB;rw [List.length_map,Skew.zm5 af ax] at K;rw [Skew.zrH af K ac];exact Skew.zun
 refine r11_ ?_;refine rC (vh rfl rfl Er.eqNil) ?_;refine r2_ ?_;refine cT_ ?_;refine r4_ ?_;have J:=zpk (s:=s) (rows:=U) (by rw [aa];exact I) 1 (by decide) (List.mem_cons_self ..) (λh hh=>hi.w h (List.mem_cons_of_mem _ hh)) (zdE K ah) (by decide) (by decide) vd vd;refine ca_ rfl (J) ?_;rintro _ aQ ⟨rfl,I⟩;clear J;rw [aj] at I;refine r7_ ?_;refine rC (vh rfl rfl Er.neNil) ?_;refine r2_ ?_;refine cF_ ?_;refine r7_ ?_;have J:=zbL [_] I d2 (λh hh=>hi.w h (List.mem_cons_of_mem _ hh)) (by simp only [List.append_eq,List.length_append,List.length_cons,List.length_nil,List.nil_append] at *;omega);refine ca_ rfl (J) ?_;rintro _ am ⟨rfl,I⟩;clear J;refine r4_ ?_;refine kw_ [0,1,2,6,7,8,9,26,10,12,43,13,14,54,15,63,16,17,77,82,18,91,97] ?_;refine s1_ ?_;refine ⟨_,am,⟨_,_,rfl,⟨_,_,rfl,rfl,rfl⟩,rfl⟩,zae,?_⟩;exact ⟨_,rfl,I⟩
end
end Sto
end
section
open Go.RowKit Go.Shelf
open Mv Disk Num
namespace Sto
open Skew (needS firstsN numP plc)
def lwB (k:Nat):Blk:=⟨115,[self k],1⟩
section
variable {g:Cx} {B:List (Nat × Blk)} {F:List Fl} {H:List Sh} {T:Mem} {n w c lw:Nat} {en:tt} {e:List Nat}
theorem Op.vl (I:Op g B F H n T):∃ M,M.Less T/\Op g B F H n M:=⟨T,Mem.Less.refl _,I⟩
theorem zpu (m:Nat) (S:Mem) (h:24<=m) (I:m<=256):ACall prog 95 #[.int .i64 (m:Nat)] S λr S'=>r = .int .u64 ((64*(m-8) / 40:Nat):Int)/\S'=S:=by
 refine k_E1 8 func95 ?_;refine r16_ ?_;refine ⟨_,S,⟨_,_,rfl,rfl,rfl⟩,zae,?_⟩;exact ⟨congrArg (λz=>Value.int .u64 z) vd,rfl⟩
theorem zih (I:Op g B F H n T) (Z:(lw,lwB g.k) ∈ B) (Y:w<=8) (hc:c<=65536) (hk:Rec.needN w c<=40) (hl:F.length+H.length<=30) :
  ∃ s,nm s/\tld s=true/\s ∉ nms F H/\ACall prog 100 #[self lw,.int .i64 (w:Nat),.int .u64 (c:Nat)] T λv T'=>∃ q,v = .tuple #[.string s,self q,.nilIface]/\Op g B F (.wt q s w 0 [] (Rec.needN w c) :: H) n T':=by
 obtain ⟨s,V,X,U,K⟩:=zb4 I hl;refine ⟨s,V,X,U,?_⟩;have ow:=I.o.mem _ Z;unfold lwB at ow;refine k_E3 31 func100 ?_;refine r13_ ?_;refine cp_ rfl (K) ?_;refine r12_ ?_;have J:=zde I V X U Y hc hk hl;refine ca_ rfl (J) ?_;rintro _ T1 ⟨q,rfl,I,_⟩;clear J;refine r18_ ?_;refine ⟨_,T1,⟨_,_,rfl,⟨_,_,rfl,⟨_,_,rfl,rfl,rfl⟩,rfl⟩,rfl⟩,zae,?_⟩;exact ⟨q,rfl,I⟩
theorem zrR (k n:Nat) (S:Mem) (X:n<=60) (hk:k<numP n):ACall prog 198 #[.int .u64 (k:Nat),.int .u64 (n:Nat)] S λr S'=>r = .int .u64 (plc n k:Nat)/\S'=S:=by
 have J:=Skew.zbD n;have hs:needS n-n / 3=firstsN n:=by unfold Skew.needS;omega
 have V:firstsN n=(Skew.endP n+1) / 3:=by
  unfold Skew.firstsN;rcases Skew.zen n with ⟨e,h⟩ | ⟨e,h⟩ <;> rw [e] <;> split <;> omega
 have K:n / 3<=needS n:=by unfold Skew.needS;omega
 rw [<- J] at hk;have U:needS n<=60:=by unfold Skew.needS Skew.firstsN;split <;> omega
 have I:=Skew.zdz n k (by rw [<- J];exact hk);rw [<- V] at I;by_cases q:k<firstsN n
 ·rw [I,if_pos q];refine k_E2 28 func198 ?_;refine r8_ ?_;refine cp_ rfl (zfn _ _ vd) ?_;refine r24_ ?_;refine cT_ ?_;refine r10_ ?_;refine ⟨_,S,⟨_,_,rfl,rfl,rfl⟩,zae,?_⟩;exact ⟨congrArg (λz=>Value.int .u64 z) vd,rfl⟩
 rw [I,if_neg q];refine k_E2 28 func198 ?_;refine r8_ ?_;refine cp_ rfl (zfn _ _ vd) ?_;refine r7_ ?_;refine kw_ [0,1,4,5] ?_;refine r17_ ?_;refine cF_ ?_;refine r13_ ?_;refine ⟨_,S,⟨_,_,rfl,rfl,rfl⟩,zae,?_⟩;exact ⟨congrArg (λz=>Value.int .u64 z) vd,rfl⟩
def rowsP (n:Nat) (e:List Nat) (k:Nat):List (List Nat):=(List.range k).map λi=>[plc n (e.getD i 0),i+1]
theorem zm8 (n:Nat) (e:List Nat) (k:Nat):rowsP n e (k+1)=rowsP n e k ++ [[plc n (e.getD k 0),k+1]]:=by unfold rowsP;rw [List.range_succ,List.map_append];rfl
theorem zcY (n:Nat) (e:List Nat) (k:Nat):(rowsP n e k).length=k:=by simp [rowsP]
theorem zl5 {n:Nat} {e:List Nat} (X:n<=60) (I:e.Perm (List.range (numP n))):RowsOK 2 (rowsP n e e.length):=λr J=>by
 obtain ⟨i,hi,rfl⟩:=List.mem_map.1 J;rw [List.mem_range] at hi;have hl:=I.length_eq;rw [List.length_range] at hl;have hm:e.getD i 0<numP n:=by
  rw [List.getD_eq_getElem?_getD,List.getElem?_eq_getElem hi];exact List.mem_range.1 (I.mem_iff.1 (List.getElem_mem hi))
 have V:=(Skew.zcW n _ hm).2.2;have Y:=Skew.zbD n;have U:needS n<=60:=by unfold Skew.needS Skew.firstsN;split <;> omega
 refine ⟨rfl,λz K=>?_⟩;simp only [List.mem_cons,List.not_mem_nil,or_false] at K;exact Nat.lt_of_lt_of_le (show z<1000 by omega) (by decide)
theorem zpv (I:Op g B F H 0 T) (hi:Idle H) (hg:g.ll = []/\g.lc=0) (hE:errK g) (hw:(lw,lwB g.k) ∈ B) (hf:flR en 1 (oneL e) ∈ F) (hn:n<=60) (he:e.Perm (List.range (numP n))) (aY:F.length+H.length<=18) (hH:H.length<=3) :
  ACall prog 151 #[self lw,.string en,.int .u64 (n:Nat)] T λv T'=>∃ s out,v = .tuple #[.string s,.nilIface]/\nm s/\tld s=true/\s ∉ nms F H/\out.Perm (rowsP n e e.length)/\SortedR out/\Op g B (flR s 2 out :: F) H 0 T':=by
 have aI:=I.gm;have ad:e.length=needS n:=by rw [he.length_eq,List.length_range,Skew.zbD]
 have aT:needS n<=60:=by unfold Skew.needS Skew.firstsN;split <;> omega
 have ag:∀ z ∈ e,z<needS n:=λz hz=>by rw [Skew.zbD];exact List.mem_range.1 (he.mem_iff.1 hz)
 have aw:=zl5 hn he;have be:=zdf I hf rfl (by show (oneL e).length<=_;rw [zag];omega) λh hh=>.inl (hi.w h hh);have al:(flR en 1 (oneL e)).c=needS n:=(zag e).trans ad;refine vI (args:=[self lw,.string en,.int .u64 (n:Nat)]) (rs:=[.cell 6 9,.cell 7 52]) 101 [(0,self lw),(1,.string en),(2,.int .u64 (n:Nat))] func151 rfl rfl (Nat.le_of_ble_eq_true rfl) rfl ⟨rfl,rfl,rfl,trivial⟩ ?_;refine vj (rs:=[.cell 6 9,.cell 7 52]) rfl ?_;refine s1_ ?_;refine vo (zab rfl) rfl rfl ?_;intro b5 f5;refine nl_ ?_;refine ARun.alloc (zab rfl) za7 ?_;intro b6 f6;refine nl_ ?_;refine ARun.alloc (zab rfl) za_ ?_;intro b7 f7;refine nl_ ?_;refine r2_ ?_;have I:=((I.new f5 (cnB n)).new f6 (nmB ByteArray.empty)).new f7 bxE;obtain ⟨T0,l0,I⟩:=I.vl;refine AWPM.less T0 l0 ?_;have ow:=I.o.mem (lw,lwB g.k) (by simp [hw]);unfold lwB at ow;refine vj (rs:=[.cell 6 9,.cell 7 52]) rfl ?_;refine r6_ ?_;have K:=zdf I hf rfl (by rw [al];omega) (λh hh=>.inl (hi.w h hh));refine ca_ rfl (K) ?_;rintro _ T1 ⟨p,rfl,I⟩;clear K;have o5:=I.o.mem (b5,cnB n) (by simp);unfold cnB at o5;refine r7_ ?_;refine kM_ [0,1,2,5,6,7,8,9] ?_;refine vj (rs:=[.cell 6 9,.cell 7 52]) rfl ?_;refine r3_ ?_;refine rC (vh rfl rfl Er.neNil) ?_;refine r2_ ?_;refine cF_ ?_;refine r2_ ?_;refine vj (rs:=[.cell 6 9,.cell 7 52]) rfl ?_;refine r2_ ?_;refine cp_ rfl (zfn _ _ vd) ?_;refine r3_ ?_;refine ARun.alloc (zab rfl) zbn ?_;intro aM aB;refine nl_ ?_;refine r4_ ?_;refine kM_ [0,1,2,5,6,7,8,9,29,10] ?_;have I:=I.new aB (cnB (needS n));obtain ⟨T4,l4,I⟩:=I.vl;refine AWPM.less T4 l4 ?_;have aC:=I.o.1;obtain ⟨f0,h0,oq⟩:=Op.rq [] I
 (unfold rdB at oq;dsimp only at oq;rw [al] at oq;unfold cnB at aC)
 refine vj (rs:=[.cell 6 9,.cell 7 52]) rfl ?_;refine s1_ ?_;refine dr_ [i0_,i1_,i2_,i3_,i4_,i5_] [] ?_;refine r8_ ?_;refine cF_ ?_;obtain ⟨s,a1,a2,a3,ay⟩:=zih (w:=2) (c:=needS n) (lw:=lw) I (by simp [hw]) (by decide) vd (zdD (by decide) (by decide) aT) (by show F.length+(H.length+1)<=30;omega);refine r2_ ?_;refine vj (rs:=[.cell 6 9,.cell 7 52]) rfl ?_;refine r3_ ?_;refine ca_ rfl (ay) ?_;rintro _ T2 ⟨q,rfl,I⟩;refine r4_ ?_;refine ARun.alloc (zab rfl) zbo ?_;intro ak aD;refine nl_ ?_;refine r5_ ?_;refine kM_ [0,1,2,5,6,7,8,9,29,10,41,13,12] ?_;have I:=I.new aD (bxB q);refine vj (rs:=[.cell 6 9,.cell 7 52]) rfl ?_;refine r3_ ?_;refine rC (vh rfl rfl Er.neNil) ?_;refine r2_ ?_;refine cF_ ?_;refine r2_ ?_;refine vj (rs:=[.cell 6 9,.cell 7 52]) rfl ?_;refine s1_ ?_;refine ARun.alloc (zab rfl) zbn ?_;intro aL au;refine nl_ ?_;refine r3_ ?_;have I:=(I.new au (cnB 0)).perm (.refl _) (.refl _) (List.Perm.swap ..);refine vO ?_;refine AWPM.seq ?_;refine r2_ ?_;refine ca_ rfl (zgx _ p) ?_;rintro _ S9 ⟨bq,rfl,fq,h9⟩;rw [h9];clear h9 S9;intro S0 w0 e' w1 aR aO;refine wpIn_block ?_;refine zdg (N:=101) (p1:=55) bq 0 15 (λk=>wtR q s 2 (rowsP n e k) (Rec.needN 2 (needS n)) :: H) (λk B'=>B'=(aL,cnB k) :: (bq,rpB p) :: (ak,bxB q) :: (aM,cnB (needS n)) :: (b7,bxE) :: (b6,nmB ByteArray.empty) :: (b5,cnB n) :: B) [(0,_),(5,_),(6,_),(7,_),(8,_),(10,_),(12,_),(13,_),(14,_),(54,_)] [(0,_),(6,_),(7,_),(8,_),(12,_),(13,_)] (aO.sub ⟨rfl,rfl,rfl,rfl,rfl,rfl,rfl,rfl,rfl,rfl,trivial⟩) rfl (zab rfl) (by decide) (by decide) (rows:=oneL e) (by rw [zag];omega) (zgF λz hz=>Nat.lt_of_lt_of_le (show z<1000 from by have:=ag z hz;omega) (by decide)) (by decide) (λ_=>by show H.length+1<=7;omega) (λ_ _ e=>by rw [e];simp) ⟨true,_,rfl,(I.new fq (rpB p)).perm (List.Perm.swap ..) (.refl _) (.refl _)⟩ aR ⟨rfl,rfl,rfl,rfl,rfl,rfl,trivial⟩ (rs:=[.cell 6 9,.cell 7 52]) (λ_ _ h=>h) rfl ?round ?done
 case round =>
  rintro l k gb _ M hk rfl J;rw [zag] at hk;have ae:(oneL e)[k]'(by rw [zag];exact hk) = [e[k]]:=zgE e hk;rw [ae] at J;have hz:=ag _ (List.getElem_mem hk);have aJ:e.getD k 0=e[k]:=by rw [List.getD_eq_getElem?_getD,List.getElem?_eq_getElem hk];rfl
  have ah:=zm8 n e k;rw [aJ] at ah;have bb:=(Skew.zcW n e[k] (by rw [<- Skew.zbD];exact hz)).2.2;generalize e[k]=z at *;have pg:=J.o.1;have az:=J.o.2.1;have aF:=J.o.2.2.2.2.1;have aG:=J.o.2.2.2.1;have p5:=J.o.mem (b5,cnB n) (by simp);have pg:M.own gb=some ⟨31,[nU z],1⟩:=pg;unfold cnB at az aF p5;unfold bxB at aG;unfold nU at pg;obtain ⟨M1,l1,J⟩:=(J.put [_] (cnB (k+1))).vl;obtain ⟨V,X,-⟩:=J.o;have Z:=J.o.2.2.2.2.1;have Y:=J.o.2.2.2.1;have q5:=J.o.mem (b5,cnB n) (by simp);(try dsimp only [List.map_cons,List.map_nil] at V)
  (unfold cnB at X Z q5;unfold bxB at Y;unfold nU at V)
  refine GWP.region ?_;refine r3_ ?_;refine kG_ [55,0,5,6,7,8,10,12,13,14,15] ?_;refine GWP.block ?_;refine GWP.seq ?_;refine GWP.region ?_;refine r5_ ?_;refine kG_ [55,0,5,6,7,8,10,12,13,14,15] ?_;refine GWP.less M1 l1 ?_;refine GWP.seq ?_;refine GWP.seq ?_;refine GWP.draw [i0_,i1_,i2_,i3_,i4_] [] mixed (by kernel_rfl) ?_;refine r7_ ?_;refine kG_ [55,0,5,6,7,8,10,12,13,14,15,62] ?_;refine GWP.condF rfl (by first|rfl|(simp;done)|(simp;omega)) ?_;refine GWP.skip ?_;refine s1_ ?_;refine GWP.seq ?_;refine GWP.draw [i0_,i1_,i2_,i3_,i4_,i6_,o5_,o7_,o8_,o9_,i10_] [8,9] mixed (by kernel_rfl) ?_;refine r6_ ?_;refine zac rfl ?_;have K:=zrR z n M1 hn (by rw [<- Skew.zbD];exact hz);refine ca_ rfl (K) ?_;rintro _ S9 ⟨rfl,h9⟩;clear K;rw [h9];clear h9 S9;refine zad ⟨ny_,?_⟩;refine zac rfl ?_;refine vD (cs:=[_,_]) (zab rfl) zaq rfl rfl rfl rfl ?_;intro a0 af;have U:=af
  repeat ((with_reducible replace U:=zaa U);obtain ⟨U,_⟩:=U)
  have:=U.ne V;have:=U.ne' V
  have:=U.ne X;have:=U.ne' X
  have:=U.ne Z;have:=U.ne' Z
  have:=U.ne q5;have:=U.ne' q5
  have:=U.ne Y;have:=U.ne' Y
  refine zad ⟨ny_,?_⟩;refine zac rfl ?_;have K:=zbT [_] [plc n z,k+1] (needS n) J af rfl rfl (λy hy=>by simp only [List.mem_cons,List.not_mem_nil,or_false] at hy;exact Nat.lt_of_lt_of_le (show y<1000 by omega) (by decide)) (by decide) (by decide) rfl (by rw [zcY];omega) vd vd (by show H.length+1<=7;omega);refine ca_ rfl (K) ?_;rintro _ M2 ⟨rfl,J⟩;clear K;refine zad ⟨nz_,?_⟩;refine zac rfl ?_;refine cp_ rfl (zaj _ _) ?_;refine zad ⟨nz_,?_⟩;refine r3_ ?_;refine kG_ [55,0,5,6,7,8,10,12,13,14,15,62,16] ?_;refine GWP.seq ?_;refine GWP.region ?_;refine s1_ ?_;refine rC (vh rfl rfl Er.neNil) ?_;refine r2_ ?_;refine kG_ [55,0,5,6,7,8,10,12,13,14,15,62,16,75] ?_;refine GWP.condF rfl (by first|rfl|(simp;done)|(simp;omega)) ?_;refine GWP.skip ?_;refine s1_ ?_;exact ⟨rfl,false,_,rfl,by rw [ah,<- zaX];exact (J.tl).mono vd⟩
 case done =>
  rintro D z0 _ M rfl J;rw [zag] at J;refine GWP.seq ?_;refine GWP.region ?_;refine s1_ ?_;have K:=zbd [] J;refine ca_ rfl (K) ?_;rintro _ M2 ⟨rfl,f,J⟩;clear K;have oq:=J.o.1;have aH:=J.o.mem (ak,bxB q) (by simp)
  (unfold rdB at oq;dsimp only at oq;unfold bxB at aH)
  refine r2_ ?_;refine kG_ [0,6,7,8,12,13] ?_;refine GWP.seq ?_;refine GWP.seq ?_;refine GWP.region ?_;refine r4_ ?_;refine cp_ rfl (zaj _ _) ?_;refine r3_ ?_;refine kG_ [0,6,7,8,12,13,17] ?_;refine GWP.seq ?_;refine GWP.region ?_;refine s1_ ?_;refine rC (vh rfl rfl Er.neNil) ?_;refine r2_ ?_;refine kG_ [0,6,7,8,12,13,17,85] ?_;refine GWP.condF rfl (by first|rfl|(simp;done)|(simp;omega)) ?_;refine GWP.skip ?_;refine s1_ ?_;refine GWP.seq ?_;refine GWP.seq ?_;refine GWP.region ?_;refine s1_ ?_;have K:=zbK [] J (c':=e.length) (by rw [if_neg (by decide),zcY]) (by decide) (by rw [ad]) vd vd;refine ca_ rfl (K) ?_;rintro _ M3 ⟨rfl,J⟩;clear K;refine cp_ rfl (zaj _ _) ?_;refine r3_ ?_;refine kG_ [0,6,7,8,12,13,17,85,18] ?_;refine GWP.seq ?_;refine GWP.region ?_;refine s1_ ?_;refine rC (vh rfl rfl Er.neNil) ?_;refine r2_ ?_;refine kG_ [0,6,7,8,12,13,17,85,18,91] ?_;refine GWP.condF rfl (by first|rfl|(simp;done)|(simp;omega)) ?_;have aA:(⟨s,2,e.length,(rowsP n e e.length).flatMap recB⟩ : Fl)=flR s 2 (rowsP n e e.length):=by unfold flR;rw [zcY]
  rw [aA] at J;obtain ⟨s2,c1,c2,c3,aK⟩:=zeo [] J hi hg hE a2 aw (by decide) (by decide) (by rw [zcY];omega) (zdi aI.1 (by decide) (by decide) (by rw [zcY];omega)) (by simp only [List.append_eq,List.nil_append,List.length_cons] at *;omega) (by show H.length<=3;omega);have ow:=J.o.mem (lw,lwB g.k) (by simp [hw]);unfold lwB at ow;refine GWP.skip ?_;refine s1_ ?_;refine GWP.seq ?_;refine GWP.region ?_;refine r5_ ?_;refine ca_ rfl (aK) ?_;rintro _ M4 ⟨rfl,out,o1,o2,J⟩;have p6:=J.o.mem (b6,nmB ByteArray.empty) (by simp);have p7:=J.o.mem (b7,bxE) (by simp);have aj:=zlE p7 p6 (by show ¬ 52=9;decide)
  (unfold nmB at p6;unfold bxE at p7)
  refine r2_ ?_;refine st_ p6 ?_;refine st_ ((vg _ _ aj).trans p7) ?_;refine r2_ ?_;refine kG_ [0,6,7,8,12,13,17,85,18,91] ?_;refine GWP.ret ?_;refine ⟨_,M4.set b6 (nmB s2),⟨_,_,_,rfl,.inl ⟨zaQ,rd_⟩,⟨_,_,_,rfl,.inl ⟨zaV,rd_⟩,rfl,rfl⟩,rfl⟩,(by show Mem.Less _ ((M4.set b6 ⟨9,[.string s2],1⟩).set b7 ⟨52,[.nilIface],1⟩);rw [vB _ _ _ ((vg _ _ aj).trans p7)];exact Mem.Less.refl _),?_⟩;exact ⟨s2,out,rfl,c1,c2,λhm=>c3 (List.mem_cons_of_mem _ hm),o1,o2,(J.put [_,_,_,_,_,_] (nmB s2)).tl.tl.tl.tl.tl.tl.tl.tl⟩
end
end Sto
end
end Go.Proofs.YtbgjkpkakoggbaaGreatDoor
