/-
  Texts that belong together: MemN, DiskMath, Types, Disk1, Disk2, DiskMath2, Disk3, Disk4, Disk5, Disk6, Disk7, Disk8, Shelf, Disk9, Disk10, Disk11, Disk12, Disk13, Disk14, Disk15, Disk16, Disk17, DiskMath3, Disk18, Disk19, Disk20, DiskR0.
-/
import Derived.Test.YtopiogkolaelnaaGreatDoorBSw1
import Derived.Lib.Overlaps
import Derived.Shelf.Strings.Builder1
import Derived.Shelf.Small.Bits
import Derived.Shelf.Bits.Mul64
import Derived.Shelf.Strings.Repeat
import Derived.Ground.SlsfProg
import Derived.Shelf.SlSortCmp.Whole1
import Derived.Test.YtopiogkolaelnaaGreatDoorProg
set_option maxHeartbeats 8000000
set_option maxRecDepth 100000
set_option linter.unusedVariables false
set_option linter.unusedSimpArgs false
set_option linter.unusedSectionVars false
namespace Go.Proofs.YtopiogkolaelnaaGreatDoor
open _root_.Go.Proofs.Tryz
section
open Go.RowKit
namespace Mv
/-! ### Less is known of blocks -/
def Mem.Shr (S' S:Mem):Prop:=(∀ b r',S'.own b=some r' -> ∃ r,S.own b=some r/\r.elem=r'.elem/\r'.cells <+: r.cells/\r'.room<=r.room)/\S'.ro=S.ro
theorem View.shr {S S':Mem} {w:tv} (h:View S w) (C:S'.Shr S):View S' w :=
 ⟨λb r' J=>by
  obtain ⟨r,A,I,Q,W⟩:=C.1 b r' J;obtain ⟨cur,fz,e1,e2,e3,e4⟩:=h.own b r A;exact ⟨cur,fz,by rw [<- I];exact e1,Q.trans e2,Nat.le_trans W e3,by rw [<- I];exact e4⟩,λa v H=>by
  rw [C.2] at H;refine ⟨(h.ro a v H).1,?_⟩;cases e:S'.own a.block with
  | none=>rfl
  | some r =>
   obtain ⟨U,A,_⟩:=C.1 _ _ e;(rw [(h.ro a v H).2] at A;cases A),h.fzOf C.2 (λk V _=>by
  cases e:S'.own k with
  | none=>rfl
  | some r =>
   obtain ⟨U,A,_⟩:=C.1 _ _ e;rw [V] at A;cases A) λ_ _ _=>rfl⟩
theorem Step.shrL {S S0 S':Mem} {w w':tv} (h:Step S0 w S' w') (C:S0.Shr S) (hs:∀ k,S.own k≠none->S0.own k≠none):Step S w S' w' :=
 ⟨h.view,h.os,h.tape,h.output,h.size,λk H J=>h.block k H (by
  cases e:S0.own k with
  | none=>rfl
  | some r=>obtain ⟨I,A,_⟩:=C.1 _ _ e;rw [J] at A;cases A),λk H=>by
  rcases h.dom k H with x | x
  ·left;intro e;cases e0:S0.own k with
   | none=>exact x e0
   | some r=>obtain ⟨I,A,_⟩:=C.1 _ _ e0;rw [e] at A;cases A
  ·exact .inr x,λa v Q=>by
  rcases h.ro a v Q with x | x | x
  ·exact .inl (by rw [<- C.2];exact x)
  ·refine .inr (.inl λe=>?_);cases e0:S0.own a.block with
   | none=>exact x e0
   | some r=>obtain ⟨I,A,_⟩:=C.1 _ _ e0;rw [e] at A;cases A
  exact .inr (.inr x)⟩
theorem zjp {S:Mem} {b:Nat} {e:tx} {cs cs':List tu} {m m':Nat} (h:cs' <+: cs) (C:m'<=m):(S.set b ⟨e,cs',m'⟩).Shr (S.set b ⟨e,cs,m⟩) :=
 ⟨λk r' A=>by
  by_cases x:k=b
  ·subst x;rw [vf] at A ⊢;cases A;exact ⟨_,rfl,rfl,h,C⟩
  rw [vg _ _ x] at A ⊢;exact ⟨r',A,rfl,List.prefix_rfl,Nat.le_refl _⟩,rfl⟩
theorem zne {S:Mem} {b:Nat} {r r':Blk}:∀ k,(S.set b r).own k≠none->(S.set b r').own k≠none:=λk A=>by
 by_cases x:k=b
 ·subst x;rw [vf];simp
 rw [vg _ _ x] at A ⊢;exact A
theorem AWP.cut {P:tz} {N:Nat} {c:Code} {Q:Exit->Env->Mem->Prop} {E:Env} {S:Mem} {b:Nat} {e:tx} {cs cs':List tu} {m m':Nat} (h:cs' <+: cs) (C:m'<=m) (H:AWP P N c Q E (S.set b ⟨e,cs',m'⟩)):AWP P N c Q E (S.set b ⟨e,cs,m⟩):=λa w U I =>
 wp_mono (H a w U (I.shr (zjp h C))) λ_ _ _ ⟨E',S',J,A,hs⟩=>⟨E',S',J,A,hs.shrL (zjp h C) zne⟩
def outN (n:Nat) (S:Mem) (o:Option (Nat × Nat)) (e:tx) (cs:List tu):Mem:=match o with
  | none=>S
  | some (b,c)=>S.set b ⟨e,cs,c*n⟩
theorem zbr {n:Nat} {S:Mem} {o:Option (Nat × Nat)} {k:Nat} {e:tx} {cs:List tu} (h:OkO S o k):S.Less (outN n S o e cs):=by
 cases o with
 | none=>exact Mem.Less.refl _
 | some q=>exact vh _ _ _ (h.own q.1 q.2 rfl).1.1
theorem zaN {n:Nat} {S:Mem} {o:Option (Nat × Nat)} {e:tx} {cs:List tu} {b:Nat} (h:Fresh (outN n S o e cs) b):Fresh S b /\ ∀ q c,o=some (q,c)->b≠q:=by
 cases o with
 | none=>exact ⟨h,λq c x=>by cases x⟩
 | some q=>obtain ⟨A,C⟩:=zaa h;exact ⟨A,λH c x=>by cases x;exact C⟩
section
variable {P:tz} {N:Nat} {ops:Array Oper} {E:Env} {S:Mem} {K:Env->Mem->Prop}
variable {ty:tx} {pos:String} {aft:Array Edge} {gd:Option (Nat × Bool)}
theorem uy {os:List Oper} {T e:tx} {n y:Nat} {z:List tu} {Y x2:tw} {b k c:Nat} {xs news:List tu} {U:Addr} {m X d:Nat} (hn:d<N) (hT:slT P T=some (e,n,y,z)) (hz:z.length=n)
  (hx:ev E Y=some (.slice (some ⟨b,0,none⟩) k c)) (hb:S.own b=some ⟨e,xs,c*n⟩) (Q:xs.length=k*n)
  (hy:ev E x2=some (.slice (some U) m X)) (C:S.Knows U news) (H:news.length=m*n) (h1:∀ v ∈ news,v.oneCell'=true) (W:(k+m)*y<=140737488355328) (au:k+m<=9223372036854775807)
  (h:∀ b' c',Fresh (S.del b) b'->k+m<=c'->ARun P N ops os K ((d,.slice (some ⟨b',0,none⟩) (k+m) c') :: E) ((S.del b).set b' ⟨e,xs ++ news,c'*n⟩)) :
  ARun P N ops (⟨some d,.call ⟨.builtin .append,#[Y,x2],#[T,T]⟩,ty,pos,aft,none⟩ :: os) K E S:=λa w g I=>by
 rw [if_pos (by simp [Region.wanted])];obtain ⟨hu,i,v,e1,e2,rfl,rfl,rfl⟩:=za4 hT;have ac:v.cells.size=i.size:=by simpa using hz
 have aa:(execOp a.eval ⟨some d,.call ⟨.builtin .append,#[Y,x2],#[T,T]⟩,ty,pos,aft,none⟩).run P w=((Builtin.append_ #[T,T] ty #[.slice (some ⟨b,0,none⟩) k c,.slice (some U) m X]).run P w).andThen λv w'=>.ok (.value v) w':=by
  simp [execOp,resolve,invoke,builtin,g.ev hx,g.ev hy]
 unfold Oper.wp;rw [aa];by_cases A:k+m<=c
 ·obtain ⟨q1,q2⟩:=zbp (P:=P) I hb (vs:=news) (o:=k*i.size) (by simp [Q]) (.inr (by simp only [H];rw [<- Nat.add_mul];exact Nat.mul_le_mul_right _ A)) h1;have hf:=run_firstCells_some (P:=P) w i.size m U m X news H (λj u V=>C w I j u V);have hr:(Builtin.append_ #[T,T] ty #[.slice (some ⟨b,0,none⟩) k c,.slice (some U) m X]).run P w = .ok (.slice (some ⟨b,0,none⟩) (k+m) c) (w.setCells b (k*i.size) news):=by
   simp [Builtin.append_,run_underlying hu,sizeOf,typeInfo,e1,Builtin.lenOf,A,hf,zaE,q1]
  rw [hr];have aj:spl xs (k*i.size) news=xs ++ news:=by
   unfold spl;rw [List.take_of_length_le vd,List.drop_of_length_le vd,List.append_nil]
  simp only [aj] at q2;refine ⟨_,_,h b c (zft (λa v ha=>(I.ro a v ha).2) hb) A,g.put hn _,?_⟩;rw [del_set];exact q2
 have J:Builtin.nextslicecap (k+m) c*i.bytes<=281474976710656:=growslice_fits vd W;have hr:=run_append_grow (P:=P) w T ty e i v hu e1 e2 ⟨b,0,none⟩ k c xs Q (λj u V=>I.rd (by rw [zaE,Nat.zero_add,zdv hb];exact V)) U m X news H (λj u V=>C w I j u V) vd vd J;rw [hr];have ad:=grownCap_ge w (k+m) c e;have ag:View S w.drew:=I.drawn _;have ae:=vH ag e (xs.toArray ++ news.toArray ++ Builtin.zeroCells v.cells (grownCap w (k+m) c e-(k+m))) (xs ++ news) (grownCap w (k+m) c e*i.size) (by simp [List.append_assoc]) (by
  simp only [Array.size_append,List.size_toArray,size_zeroCells,ac,Q,H,<- Nat.add_mul];exact Nat.mul_le_mul_right _ vd)
 refine ⟨_,_,h w.heap.size (grownCap w (k+m) c e) (I.freshAt.less (Less.del S b)) ad,g.put hn _,?_⟩;exact ((Step.drawn I _).trans ae).less (zaI S b _ _)
theorem uA {os:List Oper} {T e:tx} {n y:Nat} {z:List tu} {J Y:tw} {news:List tu} {I:Addr} {m c2 d:Nat} (hn:d<N) (hT:slT P T=some (e,n,y,z)) (hz:z.length=n)
  (hx:ev E J=some (.slice none 0 0)) (hy:ev E Y=some (.slice (some I) m c2)) (A:S.Knows I news) (C:news.length=m*n) (hm:0<m) (ac:m*y<=140737488355328) (af:m<=9223372036854775807)
  (h:∀ b' c',Fresh S b'->m<=c'->ARun P N ops os K ((d,.slice (some ⟨b',0,none⟩) m c') :: E) (S.set b' ⟨e,news,c'*n⟩)) :
  ARun P N ops (⟨some d,.call ⟨.builtin .append,#[J,Y],#[T,T]⟩,ty,pos,aft,none⟩ :: os) K E S:=λa w g H=>by
 rw [if_pos (by simp [Region.wanted])];obtain ⟨hu,i,v,e1,e2,rfl,rfl,rfl⟩:=za4 hT;have U:v.cells.size=i.size:=by simpa using hz
 have Q:(execOp a.eval ⟨some d,.call ⟨.builtin .append,#[J,Y],#[T,T]⟩,ty,pos,aft,none⟩).run P w=((Builtin.append_ #[T,T] ty #[.slice none 0 0,.slice (some I) m c2]).run P w).andThen λv w'=>.ok (.value v) w':=by
  simp [execOp,resolve,invoke,builtin,g.ev hx,g.ev hy]
 unfold Oper.wp;rw [Q,run_append_nil (P:=P) w T ty e i v hu e1 e2 I m c2 news C (λj u hj=>A w H j u hj) hm vd vd];have V:=grownCap_ge w m 0 e;have X:View S w.drew:=H.drawn _;have W:=vH X e (news.toArray ++ Builtin.zeroCells v.cells (grownCap w m 0 e-m)) news (grownCap w m 0 e*i.size) (by simp) (by
  simp only [Array.size_append,List.size_toArray,size_zeroCells,U,C,<- Nat.add_mul];exact Nat.mul_le_mul_right _ vd)
 exact ⟨_,_,h w.heap.size (grownCap w m 0 e) H.freshAt V,g.put hn _,(Step.drawn H _).trans W⟩
theorem uD {os:List Oper} {T e:tx} {n y:Nat} {z:List tu} {Q V:tw} {b o k c:Nat} {r:Blk} {news:List tu} {I:Addr} {m J d:Nat} (hn:d<N) (hT:slT P T=some (e,n,y,z))
  (hx:ev E Q=some (.slice (some ⟨b,o,none⟩) k c)) (hb:S.own b=some r) (ho:o+k*n<=r.cells.length)
  (hy:ev E V=some (.slice (some I) m J)) (C:S.Knows I news) (W:news.length=m*n) (h1:∀ v ∈ news,v.oneCell'=true) (A:k+m<=c) (H:o+k*n+news.length<=r.cells.length\/o+k*n+news.length<=r.room)
  (h:ARun P N ops os K ((d,.slice (some ⟨b,o,none⟩) (k+m) c) :: E) (S.set b ⟨r.elem,spl r.cells (o+k*n) news,r.room⟩)) :
  ARun P N ops (⟨some d,.call ⟨.builtin .append,#[Q,V],#[T,T]⟩,ty,pos,aft,none⟩ :: os) K E S:=λa w g X=>by
 rw [if_pos (by simp [Region.wanted])];obtain ⟨hu,i,v,e1,e2,rfl,rfl,rfl⟩:=za4 hT;have U:(execOp a.eval ⟨some d,.call ⟨.builtin .append,#[Q,V],#[T,T]⟩,ty,pos,aft,none⟩).run P w=((Builtin.append_ #[T,T] ty #[.slice (some ⟨b,o,none⟩) k c,.slice (some I) m J]).run P w).andThen λv w'=>.ok (.value v) w':=by
  simp [execOp,resolve,invoke,builtin,g.ev hx,g.ev hy]
 unfold Oper.wp;rw [U];obtain ⟨Y,q2⟩:=zbp (P:=P) X hb (vs:=news) (o:=o+k*i.size) ho H h1;have hf:=run_firstCells_some (P:=P) w i.size m I m J news W (λj u hj=>C w X j u hj);have hr:(Builtin.append_ #[T,T] ty #[.slice (some ⟨b,o,none⟩) k c,.slice (some I) m J]).run P w = .ok (.slice (some ⟨b,o,none⟩) (k+m) c) (w.setCells b (o+k*i.size) news):=by
  simp [Builtin.append_,run_underlying hu,sizeOf,typeInfo,e1,Builtin.lenOf,A,hf,zaE,Y]
 rw [hr];exact ⟨_,_,h,g.put hn _,q2⟩
theorem vU {os:List Oper} {T I e:tx} {n y:Nat} {z:List tu} {Q V:tw} {b o k c:Nat} {r:Blk} {news:List tu} {H:Addr} {m J q d:Nat} (hn:d<N) (hT:slT P T=some (e,n,y,z))
  (hx:ev E Q=some (.slice (some ⟨b,o,none⟩) k c)) (hb:S.own b=some r) (ho:o<=r.cells.length)
  (hy:ev E V=some (.slice (some H) m J)) (hq:q=min m k) (A:S.Knows H news) (W:news.length=q*n) (h1:∀ v ∈ news,v.oneCell'=true) (C:o+news.length<=r.cells.length\/o+news.length<=r.room)
  (h:ARun P N ops os K ((d,.int .i64 (q:Int)) :: E) (S.set b ⟨r.elem,spl r.cells o news,r.room⟩)) :
  ARun P N ops (⟨some d,.call ⟨.builtin .copy,#[Q,V],#[T,I]⟩,ty,pos,aft,none⟩ :: os) K E S:=λa w g Y=>by
 rw [if_pos (by simp [Region.wanted])];obtain ⟨hu,i,v,e1,e2,rfl,rfl,rfl⟩:=za4 hT;have U:(execOp a.eval ⟨some d,.call ⟨.builtin .copy,#[Q,V],#[T,I]⟩,ty,pos,aft,none⟩).run P w=((Builtin.copy_ #[T,I] ty #[.slice (some ⟨b,o,none⟩) k c,.slice (some H) m J]).run P w).andThen λv w'=>.ok (.value v) w':=by
  simp [execOp,resolve,invoke,builtin,g.ev hx,g.ev hy]
 unfold Oper.wp;rw [U];obtain ⟨q1,q2⟩:=zbp (P:=P) Y hb (vs:=news) (o:=o) ho C h1;have hf:=run_firstCells_some (P:=P) w i.size q H m J news W (λj u hj=>A w Y j u hj);have X:Nat.min m k=q:=hq.symm;have hr:(Builtin.copy_ #[T,I] ty #[.slice (some ⟨b,o,none⟩) k c,.slice (some H) m J]).run P w = .ok (.int .i64 (q:Int)) (w.setCells b o news):=by
  simp [Builtin.copy_,run_underlying hu,sizeOf,typeInfo,e1,Builtin.lenOf,X,hf,q1,goInt]
 rw [hr];exact ⟨_,_,h,g.put hn _,q2⟩
theorem v_ {os:List Oper} {T e:tx} {n y:Nat} {z:List tu} {I:tw} {b o k c:Nat} {r:Blk} (hT:slT P T=some (e,n,y,z)) (X:z.length=n) (J:∀ v ∈ z,v.oneCell'=true)
  (hx:ev E I=some (.slice (some ⟨b,o,none⟩) k c)) (hb:S.own b=some r) (ho:o<=r.cells.length) (H:o+k*n<=r.cells.length\/o+k*n<=r.room)
  (h:∀ zs:List tu,zs.length=k*n->ARun P N ops os K E (S.set b ⟨r.elem,spl r.cells o zs,r.room⟩)) :
  ARun P N ops (⟨none,.call ⟨.builtin .clear,#[I],#[T]⟩,ty,pos,aft,none⟩ :: os) K E S:=λa w g hv=>by
 rw [if_pos (by simp [Region.wanted])];obtain ⟨C,i,v,e1,e2,rfl,rfl,rfl⟩:=za4 hT;have U:v.cells.size=i.size:=by simpa using X
 have Q:(execOp a.eval ⟨none,.call ⟨.builtin .clear,#[I],#[T]⟩,ty,pos,aft,none⟩).run P w=((Builtin.clear_ #[T] ty #[.slice (some ⟨b,o,none⟩) k c]).run P w).andThen λv w'=>.ok (.value v) w':=by
  simp [execOp,resolve,invoke,builtin,g.ev hx]
 unfold Oper.wp;rw [Q];have A:(Builtin.zeroCells v.cells k).toList.length=k*i.size:=by rw [Array.length_toList,size_zeroCells,U]
 have h1:∀ u ∈ (Builtin.zeroCells v.cells k).toList,u.oneCell'=true:=λu C=>by
  simp only [Builtin.zeroCells,Array.toList_map,List.mem_map,Array.toList_range,List.mem_range] at C;obtain ⟨j,hj,rfl⟩:=C;have hp:0<v.cells.size:=by
   rcases Nat.eq_zero_or_pos v.cells.size with h0 | h0
   ·rw [h0] at hj;omega
   exact h0
  have W:j % v.cells.size<v.cells.size:=Nat.mod_lt _ hp;have e0:v.cells[j % v.cells.size]! = v.cells[j % v.cells.size]:=getElem!_pos v.cells _ W;rw [e0];exact J _ (by simp)
 obtain ⟨Y,q2⟩:=zbp (P:=P) hv hb (vs:=(Builtin.zeroCells v.cells k).toList) (o:=o) ho (by rw [A];exact H) h1;have hr:(Builtin.clear_ #[T] ty #[.slice (some ⟨b,o,none⟩) k c]).run P w = .ok (.tuple #[]) (w.setCells b o (Builtin.zeroCells v.cells k).toList):=by
  by_cases hk:k=0
  ·subst hk;have:(Builtin.zeroCells v.cells 0).toList = []:=(by apply List.eq_nil_of_length_eq_zero;rw [A];simp);rw [this];simp [Builtin.clear_,run_underlying C,World.setCells]
  obtain ⟨k',rfl⟩ : ∃ k',k=k'+1:=⟨k-1,by omega⟩;have V:(zeroValue e).run P w = .ok v w:=by simp [zeroValue,typeInfo,e1,e2]
  simp [Builtin.clear_,run_underlying C,V,Y]
 rw [hr];exact ⟨_,_,h _ A,g.put0 _,q2⟩
theorem Calm.cap {T e:tx} {x:tw} {a:Option Addr} {k c:Nat} {dst:Option Nat} (A:P.underlying T=some (.slice e)) (C:ev E x=some (.slice a k c)):ACalm P N ⟨dst,.call ⟨.builtin .cap,#[x],#[T]⟩,ty,pos,aft,gd⟩ E S (.int .i64 (c:Int)):=λH w g I=>by
 simp [execOp,resolve,invoke,builtin,g.ev C,Builtin.cap_,run_underlying A,goInt]
end
/-! ### Appending to a slice of one's own -/
def Src (M:Mem) (v:tu) (m:Nat) (news:List tu):Prop:=∃ A c,v = .slice A m c/\(m=0 \/ ∃ a,A=some a/\M.Knows a news)
theorem Src.less {M C:Mem} {v:tu} {m:Nat} {news:List tu} (h:Src M v m news) (H:M.Less C):Src C v m news:=by
 obtain ⟨A,c,e,h⟩:=h;exact ⟨A,c,e,h.imp id λ⟨a,e2,k⟩=>⟨a,e2,k.less H⟩⟩
theorem zas {α : Type} {n:Nat} {f : α->List tu} (C:∀ x,(f x).length=n) (l:List α):(l.flatMap f).length=l.length*n:=by
 induction l with
 | nil=>simp
 | cons x l A=>rw [List.flatMap_cons,List.length_append,C,A,List.length_cons,Nat.succ_mul,Nat.add_comm]
theorem zgs {α : Type} {n:Nat} {f : α->List tu} (C:∀ x,(f x).length=n):∀ (l:List α) (j:Nat) (v:tu),(l.flatMap f)[j]?=some v -> ∃ (i q:Nat) (h:i<l.length),j=i*n+q/\q<n/\(f l[i])[q]?=some v
 | [],j,v,h=>by simp at h
 | x :: l,j,v,h=>by
  rw [List.flatMap_cons] at h;by_cases A:j<(f x).length
  ·rw [List.getElem?_append_left A] at h;rw [C] at A;exact ⟨0,j,by simp,by omega,A,h⟩
  rw [List.getElem?_append_right vd] at h;rw [C] at A h;obtain ⟨i,q,hi,e,I,H⟩:=zgs C l (j-n) v h;exact ⟨i+1,q,by simpa using hi,by rw [Nat.succ_mul];omega,I,by simpa using H⟩
theorem tr {α : Type} {n:Nat} {f : α->List tu} (A:∀ x,(f x).length=n) {S:Mem} {b off:Nat} {len cap:Nat} {l:List α} (h:Sl n f S (.slice (some ⟨b,off,none⟩) len cap) l):S.Knows ⟨b,off,none⟩ (l.flatMap f):=λw H j v C=>by
 obtain ⟨i,q,hi,rfl,J,I⟩:=zgs A l j v C;have:=h.at1 i hi w H q v I;rw [zaE] at this ⊢;rw [<- this];congr 2;omega
theorem Sl.src {α : Type} {n:Nat} {f : α->List tu} (A:∀ x,(f x).length=n) {S:Mem} {v:tu} {l:List α} (h:Sl n f S v l):Src S v l.length (l.flatMap f):=by
 obtain ⟨a,c,rfl,_,_,C⟩:=id h;refine ⟨a,c,rfl,?_⟩;rcases C with rfl | ⟨b,off,rfl,_⟩
 ·left;rfl
 right;exact ⟨_,rfl,tr A h⟩
theorem zfy {S:Mem} {b c:Nat} {r:Blk} {news:List tu} {m:Nat} (h:S.own b=some r) (hc:news <+: r.cells):Src S (.slice (some ⟨b,0,none⟩) m c) m news:=⟨_,c,rfl,.inr ⟨_,rfl,(zgr h hc).knows⟩⟩
structure AppN (n:Nat) (M S:Mem) (o:Option (Nat × Nat)) (e:TypeId) (cs:List Value):Prop where
  nil:o=none->cs = []/\S.Less M
  own:∀ b c,o=some (b,c)->M.own b=some ⟨e,cs,c*n⟩/\S.Less (M.del b)
theorem zch {n:Nat} {S:Mem} {o:Option (Nat × Nat)} {k:Nat} {e:tx} {cs:List tu} (h:OkO S o k) (C:cs.length=k*n):AppN n (outN n S o e cs) S o e cs:=by
 refine ⟨λA=>?_,λb c A=>?_⟩
 ·subst A;exact ⟨List.eq_nil_of_length_eq_zero (by rw [C,h.nil rfl,Nat.zero_mul]),Mem.Less.refl _⟩
 subst A;refine ⟨vf _ _ _,?_⟩;rw [show (outN n S (some (b,c)) e cs).del b=S from zdU (zkF (h.own b c rfl).1)];exact Mem.Less.refl _
theorem AppN.temp {n:Nat} {M S:Mem} {o:Option (Nat × Nat)} {e:tx} {cs:List tu} {t:Nat} {r:Blk} (h:AppN n M S o e cs) (H:Fresh M t):AppN n (M.set t r) S o e cs:=by
 refine ⟨λA=>⟨(h.nil A).1,(h.nil A).2.trans (vh _ _ _ H.1)⟩,λb c A=>?_⟩;obtain ⟨Q,U⟩:=h.own b c A;have I:=H.ne Q;refine ⟨(vg _ _ I).trans Q,U.trans ⟨λk r' C=>?_,rfl⟩⟩;have J:k≠b:=λe=>by subst e;simp [Mem.del] at C
 rw [vj _ J] at C ⊢;exact (vg _ _ (Ne.symm (H.ne' C))).trans C
section
variable {P:tz} {N:Nat} {ops:Array Oper} {E:Env} {S M:Mem} {K:Env->Mem->Prop}
variable {ty:tx} {pos:String} {aft:Array Edge} {gd:Option (Nat × Bool)}
theorem vJ {os:List Oper} {T e:tx} {n y:Nat} {z:List tu} {x1 x2:tw} {o:Option (Nat × Nat)} {k m d:Nat} {cs news:List tu} {v:tu} (W:d<N) (Y:slT P T=some (e,n,y,z)) (hz:z.length=n)
  (X:ev E x1=some (outV o k)) (aa:cs.length=k*n) (H:OkO S o k) (C:AppN n M S o e cs) (V:ev E x2=some v) (hv:Src M v m news) (Q:news.length=m*n) (h1:∀ v ∈ news,v.oneCell'=true) (I:(k+m)*y<=140737488355328) (ae:k+m<=9223372036854775807)
  (h:∀ o',OkO S o' (k+m)->ARun P N ops os K ((d,outV o' (k+m)) :: E) (outN n S o' e (cs ++ news))) :
  ARun P N ops (⟨some d,.call ⟨.builtin .append,#[x1,x2],#[T,T]⟩,ty,pos,aft,none⟩ :: os) K E M:=by
 obtain ⟨A,c2,rfl,hv⟩:=hv;by_cases hm:m=0
 ·subst hm;obtain rfl:news = []:=List.eq_nil_of_length_eq_zero (by rw [Q,Nat.zero_mul]);have h2:=h o H;rw [Nat.add_zero,List.append_nil] at h2;refine v7 (K:=λE' S'=>ARun P N ops os K E' S') ?_;cases o with
  | none =>
   have h0:=H.nil rfl;subst h0;exact ud (os:=[]) W Y (Nat.le_refl 0) X V ⟨S,(C.nil rfl).2,h2⟩
  | some q =>
   obtain ⟨b,c⟩:=q;obtain ⟨p1,p2⟩:=C.own b c rfl;refine ud (os:=[]) W Y (H.own b c rfl).2 X V ⟨_,?_,h2⟩;refine ⟨λk' r J=>?_,p2.2⟩;by_cases ek:k'=b
   ·subst ek;rw [show (outN n S (some (k',c)) e cs).own k'=_ from vf _ _ _] at J;rw [p1];exact J
   rw [show (outN n S (some (b,c)) e cs).own k'=_ from vg _ _ ek] at J;have:=p2.1 _ _ J;rwa [vj _ ek] at this
 obtain ⟨a2,rfl,J⟩:=hv.resolve_left hm;cases o with
 | none =>
  have h0:=H.nil rfl;subst h0;obtain ⟨q1,U⟩:=C.nil rfl;subst q1;refine v7 (K:=λE' S'=>ARun P N ops os K E' S') ?_;refine uA (os:=[]) W Y hz X V J Q vd (by simpa using I) vd λb c hb hc=>?_;refine ⟨S.set b ⟨e,news,c*n⟩,Less.set U _ _,?_⟩;have:=h (some (b,c)) ⟨(λx=>by cases x),λb' c' x=>by cases x;exact ⟨hb.less U,by omega⟩⟩;simpa [outN,outV] using this
 | some q =>
  obtain ⟨b0,c0⟩:=q;obtain ⟨q1,U⟩:=C.own b0 c0 rfl;refine v7 (K:=λE' S'=>ARun P N ops os K E' S') ?_;refine uy (os:=[]) W Y hz X q1 aa V J Q h1 I ae λb c hb hc=>?_;refine ⟨S.set b ⟨e,cs ++ news,c*n⟩,Less.set U _ _,?_⟩;exact h (some (b,c)) ⟨(λx=>by cases x),λb' c' x=>by cases x;exact ⟨hb.less U,hc⟩⟩
end
theorem zc8 {α : Type} {n:Nat} {f : α->List tu} (C:∀ x,(f x).length=n) {S:Mem} {o:Option (Nat × Nat)} {e:tx} {l:List α} {k:Nat} (h:OkO S o k) (A:l.length=k) (H:k<=9223372036854775807):Sl n f (outN n S o e (l.flatMap f)) (outV o k) l:=by
 subst A;cases o with
 | none=>obtain rfl:l = []:=List.eq_nil_of_length_eq_zero (h.nil rfl);exact Sl.nil _ _ _
 | some q=>exact Sl.own (r:=⟨e,l.flatMap f,q.2*n⟩) (vf _ _ _) C List.prefix_rfl rfl (h.own _ _ rfl).2 H
def OwnR {α : Type} (n:Nat) (f : α->List tu) (e:tx) (l:List α) (S:Mem) (r:tu) (S':Mem):Prop:=∃ o,OkO S o l.length/\r=outV o l.length/\S'=outN n S o e (l.flatMap f)
section
variable {P:tz} {N:Nat} {ops:Array Oper} {E:Env} {S:Mem} {K:Env->Mem->Prop}
variable {ty:tx} {pos:String} {aft:Array Edge} {gd:Option (Nat × Bool)}
theorem uE {os : List Oper} {f : tA} {fn : Func} {T tR e : tx} {n : Nat} {xs : List tw} {I : Array tx} {t b J Q la X lb cb d : Nat} {r H : Blk} (hn : d < N) (hf : P.funcs[f]? = some fn) (C : (fn.name == "runtime.NumGoroutine") = false) (hb : fn.body.isNone = true)
  (W:Extern.findNext fn=none) (he:Extern.find fn=some (Extern.SlicesOverlaps.overlaps #[T,T] #[tR])) (ht:P.underlying T=some (.slice e)) (hz:sizeT P e=some n) (hx:evs E xs=some [.slice (some ⟨t,J,none⟩) la X,.slice (some ⟨b,Q,none⟩) lb cb])
  (h1:S.own t=some r) (Y:r.elem≠5) (al:J<r.cells.length) (h2:S.own b=some H) (ao:0<H.cells.length) (V:t≠b)
  (h:ARun P N ops os K ((d,.bool false) :: E) S):ARun P N ops (⟨some d,.call ⟨.value (.func f),xs.toArray,I⟩,ty,pos,aft,none⟩ :: os) K E S:=λa w g U=>by
 rw [if_pos (by simp [Region.wanted])];unfold Oper.wp;have hc:execOp a.eval ⟨some d,.call ⟨.value (.func f),xs.toArray,I⟩,ty,pos,aft,none⟩=callFunc f #[.slice (some ⟨t,J,none⟩) la X,.slice (some ⟨b,Q,none⟩) lb cb]:=by
  rw [execOp_call_go];simp [g.evs hx]
 obtain ⟨cur,fz,e1,e2,e3,e4⟩:=U.own t r h1;obtain ⟨A,aw,k1,k2,k3,k4⟩:=U.own b H h2;have aj:r.cells.length<=cur.size:=by have:=e2.length_le;simpa using this
 have ah:H.cells.length<=A.size:=by have:=k2.length_le;simpa using this
 have hr:=Lib.run_overlaps_apart (P:=P) w T tR e ht n (λw=>zaZ hz w) ⟨t,J,none⟩ ⟨b,Q,none⟩ la X lb cb V r.elem H.elem cur.size A.size (by simp [World.shape?,e1]) (by simp [World.shape?,k1]) vd
  (by have:=e4 J (.inl vd);simpa [World.frozen?,e1] using this) (by have:=e4 cur.size (.inr ⟨rfl,Y⟩);simpa [World.frozen?,e1] using this)
 rw [hc,run_callFunc_extern hf C hb W he,hr];exact ⟨_,_,h,g.put hn _,Step.refl U⟩
theorem uB {os:List Oper} {T X e:tx} {n y:Nat} {z:List tu} {x1 x2:tw} {k c m:Nat} {xs:List tu} {A:Addr} {d:Nat} (hn:d<N) (hT:slT P T=some (e,n,y,z)) (hz:z.length=n) (ah:P.underlying X=some (.int .i64))
  (hx:ev E x1=some (.slice (some A) k c)) (U:xs.length=k*n) (hk:S.Knows A xs) (hy:ev E x2=some (.int .i64 (m:Int))) (am:c<k+m) (I:(k+m)*y<=140737488355328) (aB:k+m<=9223372036854775807)
  (h:∀ b' c' zs,Fresh S b'->k+m<=c'->zs.length=m*n->ARun P N ops os K ((d,.slice (some ⟨b',0,none⟩) (k+m) c') :: E) (S.set b' ⟨e,xs ++ zs,c'*n⟩)) :
  ARun P N ops (⟨some d,.call ⟨.builtin .append,#[x1,x2],#[T,X]⟩,ty,pos,aft,none⟩ :: os) K E S:=λa w g hv=>by
 rw [if_pos (by simp [Region.wanted])];obtain ⟨hu,i,v,e1,e2,rfl,rfl,rfl⟩:=za4 hT;have Y:v.cells.size=i.size:=by simpa using hz
 have aj:(execOp a.eval ⟨some d,.call ⟨.builtin .append,#[x1,x2],#[T,X]⟩,ty,pos,aft,none⟩).run P w=((Builtin.append_ #[T,X] ty #[.slice (some A) k c,.int .i64 (m:Int)]).run P w).andThen λv w'=>.ok (.value v) w':=by
  simp [execOp,resolve,invoke,builtin,g.ev hx,g.ev hy]
 unfold Oper.wp;rw [aj];have av:Builtin.nextslicecap (k+m) c*i.bytes<=281474976710656:=growslice_fits vd I;have hf:=run_firstCells_some (P:=P) w i.size k A k c xs U (λj u hj=>hk w hv j u hj);have hw:IntKind.i64.wrap (m:Int)=(m:Int):=IntWalk.i64_in _ vd;have ag:=run_firstCells_some (P:=P) w.drew i.size k A k c xs U (λj u hj=>by have:=hk w hv j u hj;simpa using this);have af : ¬ ((m:Int)<0):=by omega
 have ad:max (m:Int) 0=(m:Int):=by omega
 have aE:m*i.bytes<=140737488355328:=Nat.le_trans (Nat.mul_le_mul_right _ vd) I;have aa : ¬ (281474976710656<(m:Int)*(i.bytes:Int)):=by
  have:((m*i.bytes:Nat):Int)<=140737488355328:=by omega
  rw [Int.natCast_mul] at this;omega
 have W : ¬ (k+m<=c):=by omega
 have H : ¬ (9223372036854775807<((k:Int)+(m:Int))):=by omega
 have C : ¬ (281474976710656<Builtin.nextslicecap (k+m) c*i.bytes):=by omega
 obtain ⟨J,an,ae⟩ : ∃ J:Array tu,(if m*i.size=0 then (#[] : Array tu) else Builtin.zeroCells v.cells m)=J/\J.size=m*i.size:=by
  by_cases V:m*i.size=0
  ·exact ⟨#[],by rw [if_pos V],by simp [V]⟩
  exact ⟨_,by rw [if_neg V],by rw [size_zeroCells,Y]⟩
 have hr:(Builtin.append_ #[T,X] ty #[.slice (some A) k c,.int .i64 (m:Int)]).run P w = .ok (.slice (some ⟨w.heap.size,0,none⟩) (k+m) (grownCap w (k+m) c e)) (w.drew.alloc (.cells (xs.toArray ++ J ++ Builtin.zeroCells v.cells (grownCap w (k+m) c e-(k+m))) e)):=by
  subst an;by_cases V:m*i.size=0
  ·have Q:=V;simp [Builtin.append_,run_underlying hu,run_underlying ah,sizeOf,typeInfo,zeroValue,e1,e2,asInt,asIntOf,hw,ad,af,aa,W,H,C,Q,Question.forced,ag,newRow,grownCap]
  have Q:=V;simp [Builtin.append_,run_underlying hu,run_underlying ah,sizeOf,typeInfo,zeroValue,e1,e2,asInt,asIntOf,hw,ad,af,aa,W,H,C,Q,Question.forced,ag,newRow,grownCap]
 rw [hr];have ak:=grownCap_ge w (k+m) c e;have aq:View S w.drew:=hv.drawn _;have al:=vH aq e (xs.toArray ++ J ++ Builtin.zeroCells v.cells (grownCap w (k+m) c e-(k+m))) (xs ++ J.toList) (grownCap w (k+m) c e*i.size) (by simp [List.append_assoc]) (by
  simp only [Array.size_append,List.size_toArray,size_zeroCells,Y,U,ae,<- Nat.add_mul];exact Nat.mul_le_mul_right _ vd)
 exact ⟨_,_,h w.heap.size (grownCap w (k+m) c e) J.toList hv.freshAt ak (by simpa using ae),g.put hn _,(Step.drawn hv _).trans al⟩
end
section
variable {P:tz} {N:Nat} {E:Env} {S:Mem} {dst:Option Nat} {ty:tx} {pos:String} {aft:Array Edge} {gd:Option (Nat × Bool)}
theorem vE {T e:tx} {x lo:tw} {J:IntKind} {j:Int} {b o len cap n:Nat} (l:Nat) (Q:P.underlying T=some (.slice e)) (H:sizeT P e=some n) (C:ev E x=some (.slice (some ⟨b,o,none⟩) len cap)) (A:ev E lo=some (.int J j)) (I:j=(l:Int)) (V:l<=len) (U:l<cap) :
  ACalm P N ⟨dst,.slice T x (some lo) none none,ty,pos,aft,gd⟩ E S (.slice (some ⟨b,o+l*n,none⟩) (len-l) (cap-l)):=by
 subst I;have:=vX (S:=S) (N:=N) (dst:=dst) (ty:=ty) (pos:=pos) (aft:=aft) (gd:=gd) Q H C (zaU cap cap) (by simp) (zaU len cap) (zb1 0 len A vd vd);rw [Int.toNat_natCast,if_neg vd] at this;exact this
theorem vM {T e:tx} {x hi:tw} {J:IntKind} {j:Int} {b o len cap n:Nat} (h:Nat) (Q:P.underlying T=some (.slice e)) (H:sizeT P e=some n) (I:ev E x=some (.slice (some ⟨b,o,none⟩) len cap)) (A:ev E hi=some (.int J j)) (C:j=(h:Int)) (U:h<=cap) :
  ACalm P N ⟨dst,.slice T x none (some hi) none,ty,pos,aft,gd⟩ E S (.slice (some ⟨b,o,none⟩) h cap):=by
 subst C;have:=vZ (S:=S) (N:=N) (dst:=dst) (ty:=ty) (pos:=pos) (aft:=aft) (gd:=gd) Q H I (zaU cap cap) (by simp) (zb1 len cap A vd vd);rw [Int.toNat_natCast] at this;exact this
end
end Mv
end
section
open Go.RowKit
namespace Disk
/-! ### Texts in order -/
theorem znf (a:List UInt8):Op.bytesLess a a=false:=by
 induction a with
 | nil=>rfl
 | cons x a A=>simp [Op.bytesLess,A]
theorem zkI:∀ (a b c:List UInt8),Op.bytesLess a b=true->Op.bytesLess b c=true->Op.bytesLess a c=true
 | _,_,[],_,h=>by simp [Op.bytesLess] at h
 | [],_,_ :: _,_,_=>rfl
 | x :: a,[],z :: c,h,_=>by simp [Op.bytesLess] at h
 | x :: a,y :: b,z :: c,C,A=>by
  simp only [Op.bytesLess,Bool.or_eq_true,Bool.and_eq_true,decide_eq_true_eq,beq_iff_eq] at C A ⊢;rcases C with C | ⟨rfl,C⟩
  ·rcases A with A | ⟨rfl,A⟩
   ·left;exact UInt8.lt_trans C A
   left;exact C
  rcases A with A | ⟨rfl,A⟩
  ·left;exact A
  right;exact ⟨rfl,zkI a b c C A⟩
theorem zsr:∀ (a b:List UInt8),a≠b->Op.bytesLess a b=false->Op.bytesLess b a=true
 | [],[],h,_=>absurd rfl h
 | [],_ :: _,_,h=>by simp [Op.bytesLess] at h
 | _ :: _,[],_,_=>rfl
 | x :: a,y :: b,hne,h=>by
  simp only [Op.bytesLess,Bool.or_eq_false_iff,Bool.and_eq_false_iff,decide_eq_false_iff_not,Bool.or_eq_true,Bool.and_eq_true,decide_eq_true_eq,beq_iff_eq] at h ⊢;by_cases e:x=y
  ·subst e;right;refine ⟨rfl,zsr a b (λe=>hne (by rw [e])) ?_⟩;rcases h.2 with h2 | h2
   ·simp at h2
   exact h2
  left;have A:=h.1;rcases Nat.lt_trichotomy x.toNat y.toNat with h' | h' | h'
  ·exact absurd (UInt8.lt_iff_toNat_lt.2 h') A
  ·exact absurd (UInt8.toNat_inj.1 h') e
  exact UInt8.lt_iff_toNat_lt.2 h'
def lt (a b:tt):Bool:=Op.bytesLess a.data.toList b.data.toList
theorem lt_irrefl (a:tt):lt a a=false:=znf _
theorem lt_trans {a b c:tt} (h:lt a b=true) (k:lt b c=true):lt a c=true:=zkI _ _ _ h k
theorem zss {a b:tt} (A:a≠b) (h:lt a b=false):lt b a=true:=zsr _ _ (λe=>A (Mv.zbG e)) h
theorem zwU {a b:tt} (h:lt a b=true):a≠b:=λe=>by subst e;rw [lt_irrefl] at h;cases h
theorem zqo {a b:tt} (h:lt a b=true):lt b a=false:=by
 cases h':lt b a with
 | false=>rfl
 | true=>have:=lt_trans h h';rw [lt_irrefl] at this;cases this
/-! ### What a disk is -/
abbrev Ext:=tt × tt
abbrev Wr:=tt × Int × tt
def extF (x:Ext):List tu:=[.string x.1,.string x.2]
def wrF (x:Wr):List tu:=[.string x.1,.int .i64 x.2.1,.string x.2.2]
structure D where
  size:Int
  ext:List Ext
  waits:List Wr
  fuse:Int
  down:Bool
def D0:D:=⟨0,[],[],0,false⟩
def sec (x:Ext):Nat:=x.2.size / 64
def used:List Ext->Nat
  | []=>0
  | x :: l=>sec x+used l
theorem za_ (l m:List Ext):used (l ++ m)=used l+used m:=by
 induction l with
 | nil=>simp [used]
 | cons x l A=>simp only [List.cons_append,used,A];omega
def nm (s:tt):Prop:=s.size≠0/\s.size<=16
instance (s:ByteArray):Decidable (nm s):=by unfold nm;infer_instance
def eok (x:Ext):Prop:=nm x.1/\x.2.size≠0/\x.2.size % 64=0
instance (x:Ext):Decidable (eok x):=by unfold eok;infer_instance
def Asc (l:List Ext):Prop:=l.Pairwise λx y=>lt x.1 y.1=true
def wok (l:List Ext) (w:Wr):Prop:=∃ x ∈ l,x.1=w.1/\0<=w.2.1/\w.2.1<sec x/\w.2.2.size=64
structure ERight (l:List Ext) (size:Int):Prop where
  ok:∀ x ∈ l,eok x
  asc:Asc l
  us:(used l:Int)<=size
structure Right (d:D):Prop where
  s0:0<=d.size
  s1:d.size<=16384
  wl:d.waits.length<=16384
  fu : -1<=d.fuse
  ex:ERight d.ext d.size
  wr:∀ w ∈ d.waits,wok d.ext w
theorem zc9 {x:Ext} (h:eok x):1<=sec x/\x.2.size=64*sec x:=by
 obtain ⟨_,A,C⟩:=h;unfold sec;omega
theorem zng {l:List Ext} (h:∀ x ∈ l,eok x):l.length<=used l:=by
 induction l with
 | nil=>simp [used]
 | cons x l A =>
  have H:=(zc9 (h x (by simp))).1;have I:=A λy C=>h y (by simp [C]);simp only [used,List.length_cons];omega
theorem zkJ {l:List Ext} {x:Ext} (h:x ∈ l):sec x<=used l:=by
 induction l with
 | nil=>cases h
 | cons y l A =>
  simp only [used];rcases List.mem_cons.1 h with rfl | h
  ·omega
  have:=A h;omega
noncomputable def chkD (d:D):Int:=by
  classical exact if Right d then 0 else 2
theorem zkK {d:D} (h:Right d):chkD d=0:=by unfold chkD;exact if_pos h
theorem zcr {d:D} (h : ¬ Right d):chkD d=2:=by unfold chkD;exact if_neg h
theorem znh (d:D):(chkD d=0/\Right d)\/(chkD d=2 /\ ¬ Right d):=by
 by_cases h:Right d
 ·exact .inl ⟨zkK h,h⟩
 exact .inr ⟨zcr h,h⟩
/-! ### Where an extent is -/
def pos (l:List Ext) (s:tt):Nat:=(l.takeWhile λx=>lt x.1 s).length
def has (l:List Ext) (s:tt):Bool:=l.any λx=>decide (x.1=s)
theorem zba {l:List Ext} {s:tt}:has l s=true <-> ∃ x ∈ l,x.1=s:=by simp [has]
theorem zni (l:List Ext) (s:tt):pos l s<=l.length:=by
 unfold pos;exact (List.takeWhile_prefix _).length_le
theorem zqp {x:Ext} {l:List Ext} (h:Asc (x :: l)):Asc l:=(List.pairwise_cons.1 h).2
theorem zdF {l:List Ext} (h:Asc l) {i j:Nat} (C:j<l.length) (A:i<j):lt l[i].1 l[j].1=true:=List.pairwise_iff_getElem.1 h i j vd C A
theorem zjq {l:List Ext} {s:tt} {k:Nat} (A:k<=l.length) (I:∀ i (h:i<l.length),i<k->lt l[i].1 s=true) (C:∀ (h:k<l.length),lt l[k].1 s=false):pos l s=k:=by
 induction l generalizing k with
 | nil=>simp at A;subst A;rfl
 | cons x l J =>
  unfold pos;cases k with
  | zero =>
   have:=C (by simp);simp only [List.getElem_cons_zero] at this;rw [List.takeWhile_cons,this];rfl
  | succ k =>
   have H:=I 0 (by simp) vd;simp only [List.getElem_cons_zero] at H;rw [List.takeWhile_cons,H];simp only [if_true,List.length_cons];have:=J (k:=k) (by simpa using A) (λi h hi=>by have:=I (i+1) (by simpa using h) vd;simpa using this) (λh=>by have:=C (by simpa using h);simpa using this);unfold pos at this;omega
theorem zvq {l:List Ext} {s:tt} {i:Nat} (hi:i<l.length) (h:i<pos l s):lt l[i].1 s=true:=by
 unfold pos at h;have A:=List.takeWhile_prefix (l:=l) (λx=>lt x.1 s);have H:(l.takeWhile λx=>lt x.1 s)[i]=l[i]:=List.IsPrefix.getElem A h;have C:=List.all_takeWhile (p:=λx:Ext=>lt x.1 s) (l:=l);have:=List.all_eq_true.1 C _ (List.getElem_mem h);rw [H] at this;exact this
theorem zvr {l:List Ext} {s:tt} (h:pos l s<l.length):lt l[pos l s].1 s=false:=by
 induction l with
 | nil=>simp at h
 | cons x l H =>
  by_cases C:lt x.1 s=true
  ·have e:pos (x :: l) s=pos l s+1:=(by unfold pos;rw [List.takeWhile_cons,C];rfl);simp only [e,List.getElem_cons_succ];exact H (by rw [e] at h;simpa using h)
  have A:lt x.1 s=false:=by simpa using C
  have e:pos (x :: l) s=0:=by unfold pos;rw [List.takeWhile_cons,A];rfl
  simp only [e,List.getElem_cons_zero];exact A
theorem zex {l:List Ext} (C:Asc l) (s:tt):has l s=true <-> ∃ h:pos l s<l.length,l[pos l s].1=s:=by
 constructor
 ·intro h;obtain ⟨x,H,rfl⟩:=zba.1 h;obtain ⟨j,A,rfl⟩:=List.getElem_of_mem H;have e:pos l l[j].1=j:=zjq vd (λi h hi=>zdF C A hi) (λh=>lt_irrefl _);exact ⟨by rw [e];exact A,by simp only [e]⟩
 rintro ⟨h,e⟩;exact zba.2 ⟨_,List.getElem_mem h,e⟩
theorem zjr {l:List Ext} (A:Asc l) {j:Nat} (C:j<l.length):pos l l[j].1=j:=zjq vd (λi h hi=>zdF A C hi) (λh=>lt_irrefl _)
theorem znj {l:List Ext} (A:Asc l) {x y:Ext} (H:x ∈ l) (I:y ∈ l) (h:x.1=y.1):x=y:=by
 obtain ⟨i,hi,rfl⟩:=List.getElem_of_mem H;obtain ⟨j,C,rfl⟩:=List.getElem_of_mem I;have J:=zjr A hi;have Q:=zjr A C;rw [h] at J;have:i=j:=by omega
 subst this;rfl
end Disk
end
section
open Mv
namespace Mv
theorem mixed:prog.follows .mixedOrders=true:=by kernel_rfl
instance : TMix prog := ⟨mixed⟩
theorem zaq:plainT prog 3=true:=by kernel_rfl
theorem zbk:sizeT prog 3=some 1:=by kernel_rfl
theorem zig:zeroT prog 3=some [.int .i64 0]:=by kernel_rfl
theorem zbV:plainT prog 4=true:=by kernel_rfl
theorem zfz:sizeT prog 4=some 1:=by kernel_rfl
theorem zlR:plainT prog 5=true:=by kernel_rfl
theorem zci:sizeT prog 5=some 1:=by kernel_rfl
theorem zaB:plainT prog 9=true:=by kernel_rfl
theorem zbP:sizeT prog 9=some 1:=by kernel_rfl
theorem zaA:strT prog 9=true:=by kernel_rfl
theorem zfA:zeroT prog 9=some [.string ByteArray.empty]:=by kernel_rfl
theorem zbW:plainT prog 22=true:=by kernel_rfl
theorem zcA:sizeT prog 22=some 1:=by kernel_rfl
theorem zlS:zeroT prog 22=some [.slice none 0 0]:=by kernel_rfl
theorem zbi:slT prog 22=some (27,1,8,[.int .u64 0]):=by kernel_rfl
theorem zbX:plainT prog 24=true:=by kernel_rfl
theorem zdl:sizeT prog 24=some 1:=by kernel_rfl
theorem zey:zeroT prog 24=some [.int .i64 0]:=by kernel_rfl
theorem zcS:slT prog 26=some (22,1,24,[.slice none 0 0]):=by kernel_rfl
theorem zaf:plainT prog 27=true:=by kernel_rfl
theorem zai:sizeT prog 27=some 1:=by kernel_rfl
theorem zez:zeroT prog 27=some [.int .u64 0]:=by kernel_rfl
theorem zfB:plainT prog 28=true:=by kernel_rfl
theorem zeA:sizeT prog 28=some 1:=by kernel_rfl
theorem zbC:slT prog 28=some (179,2,32,[.string ByteArray.empty,.string ByteArray.empty]):=by kernel_rfl
theorem zfC:plainT prog 29=true:=by kernel_rfl
theorem zdm:sizeT prog 29=some 1:=by kernel_rfl
theorem zdW:slT prog 29=some (183,3,40,[.string ByteArray.empty,.int .i64 0,.string ByteArray.empty]):=by kernel_rfl
theorem zax:aggT prog 31=true:=by kernel_rfl
theorem zdX:fieldT prog 31 1=some (1,0+1):=by kernel_rfl
theorem zdY:fieldT prog 31 2=some (2,0+1):=by kernel_rfl
theorem zar:sizeT prog 31=some 5:=by kernel_rfl
theorem zaC:zeroT prog 31=some [.int .i64 0,.slice none 0 0,.slice none 0 0,.int .i64 0,.bool false]:=by kernel_rfl
theorem zfD:aggT prog 36=true:=by kernel_rfl
theorem zeB:sizeT prog 36=some 3:=by kernel_rfl
theorem zcB:zeroT prog 36=some [.int .u64 0,.int .u64 0,.int .i64 0]:=by kernel_rfl
theorem zfE:plainT prog 41=true:=by kernel_rfl
theorem zeC:zeroT prog 41=some [.slice none 0 0]:=by kernel_rfl
theorem zat:slT prog 41=some (3,1,8,[.int .i64 0]):=by kernel_rfl
theorem zfF:aggT prog 48=true:=by kernel_rfl
theorem zeD:sizeT prog 48=some 2:=by kernel_rfl
theorem zeE:zeroT prog 48=some [.string ByteArray.empty,.int .i64 0]:=by kernel_rfl
theorem zaQ:plainT prog 57=true:=by kernel_rfl
theorem zeF:sizeT prog 57=some 1:=by kernel_rfl
theorem zbn:slT prog 57=some (5,1,1,[.int .u8 0]):=by kernel_rfl
theorem zbs:bytesT prog 57=some 5:=by kernel_rfl
theorem zgt:zeroT prog 59=some [.pointer none,.slice none 0 0]:=by kernel_rfl
theorem zdG:plainT prog 63=true:=by kernel_rfl
theorem zgu:sizeT prog 63=some 1:=by kernel_rfl
theorem zgv:zeroT prog 63=some [.nilIface]:=by kernel_rfl
theorem zlT:zeroT prog 68=some [.pointer none]:=by kernel_rfl
theorem zcj:plainT prog 73=true:=by kernel_rfl
theorem zgw:sizeT prog 73=some 1:=by kernel_rfl
theorem zcC:zeroT prog 73=some [.pointer none]:=by kernel_rfl
theorem zdH:plainT prog 85=true:=by kernel_rfl
theorem zfG:plainT prog 86=true:=by kernel_rfl
theorem zdZ:fieldT prog 88 0=some (0,0+1):=by kernel_rfl
theorem zd0:fieldT prog 88 1=some (1,0+1):=by kernel_rfl
theorem zcs:fieldT prog 107 0=some (0,4+1):=by kernel_rfl
theorem zgx:aggT prog 108=true:=by kernel_rfl
theorem zlU:arrT prog 108=some (1,[.int .u8 0,.int .u8 0,.int .u8 0,.int .u8 0,.int .u8 0]):=by kernel_rfl
theorem zdI:sizeT prog 108=some 5:=by kernel_rfl
theorem zcT:zeroT prog 108=some [.int .u8 0,.int .u8 0,.int .u8 0,.int .u8 0,.int .u8 0]:=by kernel_rfl
theorem ze0:plainT prog 117=true:=by kernel_rfl
theorem zfH:sizeT prog 118=some 1:=by kernel_rfl
theorem za1:slT prog 118=some (9,1,16,[.string ByteArray.empty]):=by kernel_rfl
theorem zjs:zeroT prog 125=some [.pointer none]:=by kernel_rfl
theorem zdw:fieldT prog 130 2=some (2,0+1):=by kernel_rfl
theorem zct:fieldT prog 130 3=some (3,0+1):=by kernel_rfl
theorem zcu:fieldT prog 130 7=some (7,0+1):=by kernel_rfl
theorem znk:slT prog 142=some (257,7,72,[.string ByteArray.empty,.int .i64 0,.string ByteArray.empty,.int .i64 0,.bool false,.int .u64 0,.bool false]):=by kernel_rfl
theorem zjt:zeroT prog 148=some [.nilFunc]:=by kernel_rfl
theorem zgy:aggT prog 157=true:=by kernel_rfl
theorem zlV:arrT prog 157=some (1,[.int .u64 0,.int .u64 0,.int .u64 0]):=by kernel_rfl
theorem zfI:sizeT prog 157=some 3:=by kernel_rfl
theorem zcU:zeroT prog 157=some [.int .u64 0,.int .u64 0,.int .u64 0]:=by kernel_rfl
theorem zju:zeroT prog 159=some [.nilFunc]:=by kernel_rfl
theorem zjv:zeroT prog 169=some [.string ByteArray.empty,.int .i64 0]:=by kernel_rfl
theorem zdx:fieldT prog 179 1=some (1,0+1):=by kernel_rfl
theorem zay:sizeT prog 179=some 2:=by kernel_rfl
theorem zbH:zeroT prog 179=some [.string ByteArray.empty,.string ByteArray.empty]:=by kernel_rfl
theorem zb2:fieldT prog 183 0=some (0,0+1):=by kernel_rfl
theorem zb3:fieldT prog 183 1=some (1,0+1):=by kernel_rfl
theorem zdy:fieldT prog 183 2=some (2,0+1):=by kernel_rfl
theorem zaR:sizeT prog 183=some 3:=by kernel_rfl
theorem zbI:zeroT prog 183=some [.string ByteArray.empty,.int .i64 0,.string ByteArray.empty]:=by kernel_rfl
theorem zjw:zeroT prog 243=some [.int .u8 0,.int .u8 0,.int .u8 0,.int .u8 0]:=by kernel_rfl
theorem zbJ:sizeT prog 257=some 7:=by kernel_rfl
theorem zaH:zeroT prog 257=some [.string ByteArray.empty,.int .i64 0,.string ByteArray.empty,.int .i64 0,.bool false,.int .u64 0,.bool false]:=by kernel_rfl
theorem zih:slT prog 320=some (325,1,8,[.pointer none]):=by kernel_rfl
theorem zjx:zeroT prog 339=some [.int .u64 0]:=by kernel_rfl
theorem zwV:goFn prog 12=true:=by kernel_rfl
theorem ztl:goFn prog 15=true:=by kernel_rfl
theorem zwW:goFn prog 16=true:=by kernel_rfl
theorem zwX:goFn prog 24=true:=by kernel_rfl
theorem zwY:goFn prog 37=true:=by kernel_rfl
theorem zwZ:goFn prog 44=true:=by kernel_rfl
theorem zjy:goFn prog 53=true:=by kernel_rfl
theorem zvs:goFn prog 70=true:=by kernel_rfl
theorem zqq:goFn prog 71=true:=by kernel_rfl
theorem zw0:goFn prog 73=true:=by kernel_rfl
theorem zvt:goFn prog 79=true:=by kernel_rfl
theorem ztm:goFn prog 80=true:=by kernel_rfl
theorem zvu:goFn prog 85=true:=by kernel_rfl
theorem zw1:goFn prog 91=true:=by kernel_rfl
theorem znl:goFn prog 101=true:=by kernel_rfl
theorem zvv:goFn prog 103=true:=by kernel_rfl
theorem znm:goFn prog 108=true:=by kernel_rfl
theorem zvw:goFn prog 113=true:=by kernel_rfl
theorem znn:goFn prog 114=true:=by kernel_rfl
theorem zno:goFn prog 115=true:=by kernel_rfl
theorem zkL:goFn prog 116=true:=by kernel_rfl
theorem zst:goFn prog 119=true:=by kernel_rfl
theorem zvx:goFn prog 120=true:=by kernel_rfl
theorem znp:goFn prog 121=true:=by kernel_rfl
theorem znq:goFn prog 124=true:=by kernel_rfl
theorem zvy:goFn prog 131=true:=by kernel_rfl
theorem zvz:goFn prog 132=true:=by kernel_rfl
theorem zsu:goFn prog 134=true:=by kernel_rfl
theorem zvA:goFn prog 135=true:=by kernel_rfl
theorem zc_:goFn prog 138=true:=by kernel_rfl
theorem zvB:goFn prog 146=true:=by kernel_rfl
theorem zgz:goFn prog 147=true:=by kernel_rfl
theorem zsv:goFn prog 149=true:=by kernel_rfl
theorem zvC:goFn prog 152=true:=by kernel_rfl
theorem zsw:goFn prog 164=true:=by kernel_rfl
theorem znr:goFn prog 166=true:=by kernel_rfl
theorem zvD:goFn prog 175=true:=by kernel_rfl
theorem zns:goFn prog 179=true:=by kernel_rfl
theorem zvE:goFn prog 236=true:=by kernel_rfl
theorem zsx:goFn prog 238=true:=by kernel_rfl
theorem zvF:goFn prog 259=true:=by kernel_rfl
theorem zvG:goFn prog 279=true:=by kernel_rfl
instance : TPlain prog 3 := ⟨zaq⟩
instance : TSize prog 3 1 := ⟨zbk⟩
instance : TPlain prog 4 := ⟨zbV⟩
instance : TSize prog 5 1 := ⟨zci⟩
instance : TPlain prog 9 := ⟨zaB⟩
instance : TSize prog 9 1 := ⟨zbP⟩
instance : TStr prog 9 := ⟨zaA⟩
instance : TPlain prog 22 := ⟨zbW⟩
instance : TSize prog 22 1 := ⟨zcA⟩
instance : TPlain prog 24 := ⟨zbX⟩
instance : TSize prog 24 1 := ⟨zdl⟩
instance : TPlain prog 26 := ⟨by kernel_rfl⟩
instance : TPlain prog 27 := ⟨zaf⟩
instance : TSize prog 27 1 := ⟨zai⟩
instance : TPlain prog 28 := ⟨zfB⟩
instance : TSize prog 28 1 := ⟨zeA⟩
instance : TPlain prog 29 := ⟨zfC⟩
instance : TSize prog 29 1 := ⟨zdm⟩
instance : TAgg prog 31 := ⟨zax⟩
instance : TBld prog 31 ([(0, 1), (1, 1), (2, 1), (3, 1), (4, 1)], [.int .i64 0, .slice none 0 0, .slice none 0 0, .int .i64 0, .bool false]) := ⟨by kernel_rfl⟩
instance : TField prog 31 0 0 0 := ⟨by kernel_rfl⟩
instance : TField prog 31 1 1 0 := ⟨zdX⟩
instance : TField prog 31 2 2 0 := ⟨zdY⟩
instance : TField prog 31 3 3 0 := ⟨by kernel_rfl⟩
instance : TField prog 31 4 4 0 := ⟨by kernel_rfl⟩
instance : TSize prog 31 5 := ⟨zar⟩
instance : TAgg prog 36 := ⟨zfD⟩
instance : TBld prog 36 ([(0, 1), (1, 1), (2, 1)], [.int .u64 0, .int .u64 0, .int .i64 0]) := ⟨by kernel_rfl⟩
instance : TField prog 36 0 0 0 := ⟨by kernel_rfl⟩
instance : TField prog 36 1 1 0 := ⟨by kernel_rfl⟩
instance : TField prog 36 2 2 0 := ⟨by kernel_rfl⟩
instance : TSize prog 36 3 := ⟨zeB⟩
instance : TPlain prog 41 := ⟨zfE⟩
instance : TSize prog 41 1 := ⟨by kernel_rfl⟩
instance : TAgg prog 48 := ⟨zfF⟩
instance : TBld prog 48 ([(0, 1), (1, 1)], [.string ByteArray.empty, .int .i64 0]) := ⟨by kernel_rfl⟩
instance : TField prog 48 0 0 0 := ⟨by kernel_rfl⟩
instance : TField prog 48 1 1 0 := ⟨by kernel_rfl⟩
instance : TSize prog 48 2 := ⟨zeD⟩
instance : TPlain prog 56 := ⟨by kernel_rfl⟩
instance : TSize prog 56 1 := ⟨by kernel_rfl⟩
instance : TPlain prog 57 := ⟨zaQ⟩
instance : TField prog 59 0 0 0 := ⟨by kernel_rfl⟩
instance : TField prog 59 1 1 0 := ⟨by kernel_rfl⟩
instance : TPlain prog 63 := ⟨zdG⟩
instance : TPlain prog 68 := ⟨by kernel_rfl⟩
instance : TSize prog 68 1 := ⟨by kernel_rfl⟩
instance : TPlain prog 73 := ⟨zcj⟩
instance : TSize prog 73 1 := ⟨zgw⟩
instance : TPlain prog 85 := ⟨zdH⟩
instance : TPlain prog 86 := ⟨zfG⟩
instance : TBld prog 88 ([(0, 1), (1, 1)], [.slice none 0 0, .slice none 0 0]) := ⟨by kernel_rfl⟩
instance : TField prog 88 0 0 0 := ⟨zdZ⟩
instance : TField prog 88 1 1 0 := ⟨zd0⟩
instance : TSize prog 88 2 := ⟨by kernel_rfl⟩
instance : TBld prog 97 ([(0, 1), (1, 1), (2, 1)], [.slice none 0 0, .int .u64 0, .int .i64 0]) := ⟨by kernel_rfl⟩
instance : TField prog 97 0 0 0 := ⟨by kernel_rfl⟩
instance : TField prog 97 1 1 0 := ⟨by kernel_rfl⟩
instance : TField prog 97 2 2 0 := ⟨by kernel_rfl⟩
instance : TSize prog 97 3 := ⟨by kernel_rfl⟩
instance : TPlain prog 103 := ⟨by kernel_rfl⟩
instance : TBld prog 107 ([(0, 5)], [.int .i64 0, .slice none 0 0, .slice none 0 0, .int .i64 0, .bool false]) := ⟨by kernel_rfl⟩
instance : TField prog 107 0 0 4 := ⟨zcs⟩
instance : TSize prog 107 5 := ⟨by kernel_rfl⟩
instance : TAgg prog 108 := ⟨zgx⟩
instance : TSize prog 108 5 := ⟨zdI⟩
instance : TPlain prog 117 := ⟨ze0⟩
instance : TSize prog 117 1 := ⟨by kernel_rfl⟩
instance : TPlain prog 118 := ⟨by kernel_rfl⟩
instance : TBld prog 120 ([(0, 1), (1, 5), (6, 1), (7, 3)], [.pointer none, .int .i64 0, .slice none 0 0, .slice none 0 0, .int .i64 0, .bool false, .slice none 0 0, .int .u64 0, .int .u64 0, .int .i64 0]) := ⟨by kernel_rfl⟩
instance : TField prog 120 0 0 0 := ⟨by kernel_rfl⟩
instance : TField prog 120 1 1 4 := ⟨by kernel_rfl⟩
instance : TField prog 120 2 6 0 := ⟨by kernel_rfl⟩
instance : TField prog 120 3 7 2 := ⟨by kernel_rfl⟩
instance : TSize prog 120 10 := ⟨by kernel_rfl⟩
instance : TPlain prog 125 := ⟨by kernel_rfl⟩
instance : TSize prog 125 1 := ⟨by kernel_rfl⟩
instance : TBld prog 130 ([(0, 1), (1, 1), (2, 1), (3, 1), (4, 1), (5, 1), (6, 1), (7, 1)], [.pointer none, .string ByteArray.empty, .int .i64 0, .int .u64 0, .int .i64 0, .int .i64 0, .int .i64 0, .int .i64 0]) := ⟨by kernel_rfl⟩
instance : TField prog 130 0 0 0 := ⟨by kernel_rfl⟩
instance : TField prog 130 1 1 0 := ⟨by kernel_rfl⟩
instance : TField prog 130 2 2 0 := ⟨zdw⟩
instance : TField prog 130 3 3 0 := ⟨zct⟩
instance : TField prog 130 4 4 0 := ⟨by kernel_rfl⟩
instance : TField prog 130 5 5 0 := ⟨by kernel_rfl⟩
instance : TField prog 130 6 6 0 := ⟨by kernel_rfl⟩
instance : TField prog 130 7 7 0 := ⟨zcu⟩
instance : TSize prog 130 8 := ⟨by kernel_rfl⟩
instance : TPlain prog 142 := ⟨by kernel_rfl⟩
instance : TBld prog 144 ([(0, 1), (1, 1), (2, 1), (3, 1), (4, 1), (5, 1)], [.pointer none, .slice none 0 0, .int .u64 0, .int .u64 0, .int .u64 0, .int .i64 0]) := ⟨by kernel_rfl⟩
instance : TField prog 144 0 0 0 := ⟨by kernel_rfl⟩
instance : TField prog 144 1 1 0 := ⟨by kernel_rfl⟩
instance : TField prog 144 2 2 0 := ⟨by kernel_rfl⟩
instance : TField prog 144 3 3 0 := ⟨by kernel_rfl⟩
instance : TField prog 144 4 4 0 := ⟨by kernel_rfl⟩
instance : TField prog 144 5 5 0 := ⟨by kernel_rfl⟩
instance : TSize prog 144 6 := ⟨by kernel_rfl⟩
instance : TPlain prog 148 := ⟨by kernel_rfl⟩
instance : TSize prog 148 1 := ⟨by kernel_rfl⟩
instance : TAgg prog 157 := ⟨zgy⟩
instance : TSize prog 157 3 := ⟨zfI⟩
instance : TPlain prog 159 := ⟨by kernel_rfl⟩
instance : TSize prog 159 1 := ⟨by kernel_rfl⟩
instance : TAgg prog 169 := ⟨by kernel_rfl⟩
instance : TBld prog 169 ([(0, 2)], [.string ByteArray.empty, .int .i64 0]) := ⟨by kernel_rfl⟩
instance : TField prog 169 0 0 1 := ⟨by kernel_rfl⟩
instance : TSize prog 169 2 := ⟨by kernel_rfl⟩
instance : TAgg prog 179 := ⟨by kernel_rfl⟩
instance : TBld prog 179 ([(0, 1), (1, 1)], [.string ByteArray.empty, .string ByteArray.empty]) := ⟨by kernel_rfl⟩
instance : TField prog 179 0 0 0 := ⟨by kernel_rfl⟩
instance : TField prog 179 1 1 0 := ⟨zdx⟩
instance : TSize prog 179 2 := ⟨zay⟩
instance : TAgg prog 183 := ⟨by kernel_rfl⟩
instance : TBld prog 183 ([(0, 1), (1, 1), (2, 1)], [.string ByteArray.empty, .int .i64 0, .string ByteArray.empty]) := ⟨by kernel_rfl⟩
instance : TField prog 183 0 0 0 := ⟨zb2⟩
instance : TField prog 183 1 1 0 := ⟨zb3⟩
instance : TField prog 183 2 2 0 := ⟨zdy⟩
instance : TSize prog 183 3 := ⟨zaR⟩
instance : TBld prog 206 ([(0, 1), (1, 1), (2, 1), (3, 1), (4, 1), (5, 1), (6, 1)], [.pointer none, .string ByteArray.empty, .int .i64 0, .int .u64 0, .int .i64 0, .int .i64 0, .int .i64 0]) := ⟨by kernel_rfl⟩
instance : TField prog 206 0 0 0 := ⟨by kernel_rfl⟩
instance : TField prog 206 1 1 0 := ⟨by kernel_rfl⟩
instance : TField prog 206 2 2 0 := ⟨by kernel_rfl⟩
instance : TField prog 206 3 3 0 := ⟨by kernel_rfl⟩
instance : TField prog 206 4 4 0 := ⟨by kernel_rfl⟩
instance : TField prog 206 5 5 0 := ⟨by kernel_rfl⟩
instance : TField prog 206 6 6 0 := ⟨by kernel_rfl⟩
instance : TSize prog 206 7 := ⟨by kernel_rfl⟩
instance : TAgg prog 257 := ⟨by kernel_rfl⟩
instance : TBld prog 257 ([(0, 1), (1, 1), (2, 1), (3, 1), (4, 1), (5, 1), (6, 1)], [.string ByteArray.empty, .int .i64 0, .string ByteArray.empty, .int .i64 0, .bool false, .int .u64 0, .bool false]) := ⟨by kernel_rfl⟩
instance : TField prog 257 0 0 0 := ⟨by kernel_rfl⟩
instance : TField prog 257 1 1 0 := ⟨by kernel_rfl⟩
instance : TField prog 257 2 2 0 := ⟨by kernel_rfl⟩
instance : TField prog 257 3 3 0 := ⟨by kernel_rfl⟩
instance : TField prog 257 4 4 0 := ⟨by kernel_rfl⟩
instance : TField prog 257 5 5 0 := ⟨by kernel_rfl⟩
instance : TField prog 257 6 6 0 := ⟨by kernel_rfl⟩
instance : TSize prog 257 7 := ⟨zbJ⟩
instance : TBld prog 324 ([(0, 1), (1, 1)], [.pointer none, .slice none 0 0]) := ⟨by kernel_rfl⟩
instance : TField prog 324 0 0 0 := ⟨by kernel_rfl⟩
instance : TField prog 324 1 1 0 := ⟨by kernel_rfl⟩
instance : TSize prog 324 2 := ⟨by kernel_rfl⟩
instance : TPlain prog 325 := ⟨by kernel_rfl⟩
instance : TSize prog 325 1 := ⟨by kernel_rfl⟩
instance : TPlain prog 339 := ⟨by kernel_rfl⟩
instance : TSize prog 339 1 := ⟨by kernel_rfl⟩
instance : TBld prog 360 ([(0, 1), (1, 1)], [.slice none 0 0, .slice none 0 0]) := ⟨by kernel_rfl⟩
instance : TField prog 360 0 0 0 := ⟨by kernel_rfl⟩
instance : TField prog 360 1 1 0 := ⟨by kernel_rfl⟩
instance : TSize prog 360 2 := ⟨by kernel_rfl⟩
instance : TBld prog 362 ([(0, 2)], [.slice none 0 0, .slice none 0 0]) := ⟨by kernel_rfl⟩
instance : TField prog 362 0 0 1 := ⟨by kernel_rfl⟩
instance : TSize prog 362 2 := ⟨by kernel_rfl⟩
instance : TGo prog 4 := ⟨by kernel_rfl⟩
instance : TGo prog 5 := ⟨by kernel_rfl⟩
instance : TGo prog 6 := ⟨by kernel_rfl⟩
instance : TGo prog 7 := ⟨by kernel_rfl⟩
instance : TGo prog 8 := ⟨by kernel_rfl⟩
instance : TGo prog 9 := ⟨by kernel_rfl⟩
instance : TGo prog 10 := ⟨by kernel_rfl⟩
instance : TGo prog 11 := ⟨by kernel_rfl⟩
instance : TGo prog 13 := ⟨by kernel_rfl⟩
instance : TGo prog 14 := ⟨by kernel_rfl⟩
instance : TGo prog 17 := ⟨by kernel_rfl⟩
instance : TGo prog 18 := ⟨by kernel_rfl⟩
instance : TGo prog 20 := ⟨by kernel_rfl⟩
instance : TGo prog 22 := ⟨by kernel_rfl⟩
instance : TGo prog 23 := ⟨by kernel_rfl⟩
instance : TGo prog 25 := ⟨by kernel_rfl⟩
instance : TGo prog 26 := ⟨by kernel_rfl⟩
instance : TGo prog 27 := ⟨by kernel_rfl⟩
instance : TGo prog 28 := ⟨by kernel_rfl⟩
instance : TGo prog 29 := ⟨by kernel_rfl⟩
instance : TGo prog 30 := ⟨by kernel_rfl⟩
instance : TGo prog 31 := ⟨by kernel_rfl⟩
instance : TGo prog 32 := ⟨by kernel_rfl⟩
instance : TGo prog 33 := ⟨by kernel_rfl⟩
instance : TGo prog 34 := ⟨by kernel_rfl⟩
instance : TGo prog 35 := ⟨by kernel_rfl⟩
instance : TGo prog 36 := ⟨by kernel_rfl⟩
instance : TGo prog 38 := ⟨by kernel_rfl⟩
instance : TGo prog 39 := ⟨by kernel_rfl⟩
instance : TGo prog 40 := ⟨by kernel_rfl⟩
instance : TGo prog 41 := ⟨by kernel_rfl⟩
instance : TGo prog 42 := ⟨by kernel_rfl⟩
instance : TGo prog 43 := ⟨by kernel_rfl⟩
instance : TGo prog 45 := ⟨by kernel_rfl⟩
instance : TGo prog 47 := ⟨by kernel_rfl⟩
instance : TGo prog 48 := ⟨by kernel_rfl⟩
instance : TGo prog 49 := ⟨by kernel_rfl⟩
instance : TGo prog 50 := ⟨by kernel_rfl⟩
instance : TGo prog 51 := ⟨by kernel_rfl⟩
instance : TGo prog 52 := ⟨by kernel_rfl⟩
instance : TGo prog 53 := ⟨zjy⟩
instance : TGo prog 54 := ⟨by kernel_rfl⟩
instance : TGo prog 55 := ⟨by kernel_rfl⟩
instance : TGo prog 56 := ⟨by kernel_rfl⟩
instance : TGo prog 57 := ⟨by kernel_rfl⟩
instance : TGo prog 58 := ⟨by kernel_rfl⟩
instance : TGo prog 59 := ⟨by kernel_rfl⟩
instance : TGo prog 60 := ⟨by kernel_rfl⟩
instance : TGo prog 61 := ⟨by kernel_rfl⟩
instance : TGo prog 62 := ⟨by kernel_rfl⟩
instance : TGo prog 63 := ⟨by kernel_rfl⟩
instance : TGo prog 64 := ⟨by kernel_rfl⟩
instance : TGo prog 65 := ⟨by kernel_rfl⟩
instance : TGo prog 66 := ⟨by kernel_rfl⟩
instance : TGo prog 68 := ⟨by kernel_rfl⟩
instance : TGo prog 69 := ⟨by kernel_rfl⟩
instance : TGo prog 70 := ⟨zvs⟩
instance : TGo prog 71 := ⟨zqq⟩
instance : TGo prog 72 := ⟨by kernel_rfl⟩
instance : TGo prog 74 := ⟨by kernel_rfl⟩
instance : TGo prog 75 := ⟨by kernel_rfl⟩
instance : TGo prog 76 := ⟨by kernel_rfl⟩
instance : TGo prog 77 := ⟨by kernel_rfl⟩
instance : TGo prog 78 := ⟨by kernel_rfl⟩
instance : TGo prog 80 := ⟨ztm⟩
instance : TGo prog 81 := ⟨by kernel_rfl⟩
instance : TGo prog 83 := ⟨by kernel_rfl⟩
instance : TGo prog 84 := ⟨by kernel_rfl⟩
instance : TGo prog 86 := ⟨by kernel_rfl⟩
instance : TGo prog 87 := ⟨by kernel_rfl⟩
instance : TGo prog 88 := ⟨by kernel_rfl⟩
instance : TGo prog 89 := ⟨by kernel_rfl⟩
instance : TGo prog 90 := ⟨by kernel_rfl⟩
instance : TGo prog 92 := ⟨by kernel_rfl⟩
instance : TGo prog 93 := ⟨by kernel_rfl⟩
instance : TGo prog 94 := ⟨by kernel_rfl⟩
instance : TGo prog 96 := ⟨by kernel_rfl⟩
instance : TGo prog 97 := ⟨by kernel_rfl⟩
instance : TGo prog 98 := ⟨by kernel_rfl⟩
instance : TGo prog 99 := ⟨by kernel_rfl⟩
instance : TGo prog 100 := ⟨by kernel_rfl⟩
instance : TGo prog 101 := ⟨znl⟩
instance : TGo prog 102 := ⟨by kernel_rfl⟩
instance : TGo prog 104 := ⟨by kernel_rfl⟩
instance : TGo prog 105 := ⟨by kernel_rfl⟩
instance : TGo prog 106 := ⟨by kernel_rfl⟩
instance : TGo prog 107 := ⟨by kernel_rfl⟩
instance : TGo prog 108 := ⟨znm⟩
instance : TGo prog 109 := ⟨by kernel_rfl⟩
instance : TGo prog 110 := ⟨by kernel_rfl⟩
instance : TGo prog 111 := ⟨by kernel_rfl⟩
instance : TGo prog 112 := ⟨by kernel_rfl⟩
instance : TGo prog 114 := ⟨znn⟩
instance : TGo prog 115 := ⟨zno⟩
instance : TGo prog 117 := ⟨by kernel_rfl⟩
instance : TGo prog 118 := ⟨by kernel_rfl⟩
instance : TGo prog 121 := ⟨znp⟩
instance : TGo prog 122 := ⟨by kernel_rfl⟩
instance : TGo prog 123 := ⟨by kernel_rfl⟩
instance : TGo prog 125 := ⟨by kernel_rfl⟩
instance : TGo prog 129 := ⟨by kernel_rfl⟩
instance : TGo prog 130 := ⟨by kernel_rfl⟩
instance : TGo prog 133 := ⟨by kernel_rfl⟩
instance : TGo prog 136 := ⟨by kernel_rfl⟩
instance : TGo prog 137 := ⟨by kernel_rfl⟩
instance : TGo prog 138 := ⟨zc_⟩
instance : TGo prog 140 := ⟨by kernel_rfl⟩
instance : TGo prog 141 := ⟨by kernel_rfl⟩
instance : TGo prog 142 := ⟨by kernel_rfl⟩
instance : TGo prog 143 := ⟨by kernel_rfl⟩
instance : TGo prog 144 := ⟨by kernel_rfl⟩
instance : TGo prog 147 := ⟨zgz⟩
instance : TGo prog 148 := ⟨by kernel_rfl⟩
instance : TGo prog 150 := ⟨by kernel_rfl⟩
instance : TGo prog 151 := ⟨by kernel_rfl⟩
instance : TGo prog 155 := ⟨by kernel_rfl⟩
instance : TGo prog 156 := ⟨by kernel_rfl⟩
instance : TGo prog 161 := ⟨by kernel_rfl⟩
instance : TGo prog 162 := ⟨by kernel_rfl⟩
instance : TGo prog 163 := ⟨by kernel_rfl⟩
instance : TGo prog 165 := ⟨by kernel_rfl⟩
instance : TGo prog 167 := ⟨by kernel_rfl⟩
instance : TGo prog 168 := ⟨by kernel_rfl⟩
instance : TGo prog 169 := ⟨by kernel_rfl⟩
instance : TGo prog 170 := ⟨by kernel_rfl⟩
instance : TGo prog 171 := ⟨by kernel_rfl⟩
instance : TGo prog 172 := ⟨by kernel_rfl⟩
instance : TGo prog 174 := ⟨by kernel_rfl⟩
instance : TGo prog 176 := ⟨by kernel_rfl⟩
instance : TGo prog 178 := ⟨by kernel_rfl⟩
instance : TGo prog 179 := ⟨zns⟩
instance : TGo prog 180 := ⟨by kernel_rfl⟩
instance : TGo prog 181 := ⟨by kernel_rfl⟩
instance : TGo prog 182 := ⟨by kernel_rfl⟩
instance : TGo prog 187 := ⟨by kernel_rfl⟩
instance : TGo prog 189 := ⟨by kernel_rfl⟩
instance : TGo prog 190 := ⟨by kernel_rfl⟩
instance : TGo prog 196 := ⟨by kernel_rfl⟩
instance : TGo prog 197 := ⟨by kernel_rfl⟩
instance : TGo prog 198 := ⟨by kernel_rfl⟩
instance : TGo prog 199 := ⟨by kernel_rfl⟩
instance : TGo prog 200 := ⟨by kernel_rfl⟩
instance : TGo prog 201 := ⟨by kernel_rfl⟩
instance : TGo prog 202 := ⟨by kernel_rfl⟩
instance : TGo prog 203 := ⟨by kernel_rfl⟩
instance : TGo prog 205 := ⟨by kernel_rfl⟩
instance : TGo prog 213 := ⟨by kernel_rfl⟩
instance : TGo prog 217 := ⟨by kernel_rfl⟩
instance : TGo prog 221 := ⟨by kernel_rfl⟩
instance : TGo prog 222 := ⟨by kernel_rfl⟩
instance : TGo prog 223 := ⟨by kernel_rfl⟩
instance : TGo prog 224 := ⟨by kernel_rfl⟩
instance : TGo prog 225 := ⟨by kernel_rfl⟩
instance : TGo prog 226 := ⟨by kernel_rfl⟩
instance : TGo prog 227 := ⟨by kernel_rfl⟩
instance : TGo prog 228 := ⟨by kernel_rfl⟩
instance : TGo prog 229 := ⟨by kernel_rfl⟩
instance : TGo prog 230 := ⟨by kernel_rfl⟩
instance : TGo prog 231 := ⟨by kernel_rfl⟩
instance : TGo prog 234 := ⟨by kernel_rfl⟩
instance : TGo prog 235 := ⟨by kernel_rfl⟩
instance : TGo prog 237 := ⟨by kernel_rfl⟩
instance : TGo prog 245 := ⟨by kernel_rfl⟩
instance : TGo prog 246 := ⟨by kernel_rfl⟩
instance : TGo prog 247 := ⟨by kernel_rfl⟩
instance : TGo prog 248 := ⟨by kernel_rfl⟩
instance : TGo prog 249 := ⟨by kernel_rfl⟩
instance : TGo prog 256 := ⟨by kernel_rfl⟩
instance : TGo prog 257 := ⟨by kernel_rfl⟩
instance : TGo prog 258 := ⟨by kernel_rfl⟩
instance : TGo prog 260 := ⟨by kernel_rfl⟩
instance : TGo prog 261 := ⟨by kernel_rfl⟩
instance : TGo prog 262 := ⟨by kernel_rfl⟩
instance : TGo prog 265 := ⟨by kernel_rfl⟩
instance : TGo prog 266 := ⟨by kernel_rfl⟩
instance : TGo prog 267 := ⟨by kernel_rfl⟩
instance : TGo prog 268 := ⟨by kernel_rfl⟩
instance : TGo prog 269 := ⟨by kernel_rfl⟩
instance : TGo prog 273 := ⟨by kernel_rfl⟩
instance : TGo prog 275 := ⟨by kernel_rfl⟩
instance : TGo prog 276 := ⟨by kernel_rfl⟩
instance : TGo prog 277 := ⟨by kernel_rfl⟩
instance : TGo prog 280 := ⟨by kernel_rfl⟩
instance : TUnd prog 2 (.int .i64) := ⟨underlying2⟩
instance : TUnd prog 3 (.int .i64) := ⟨underlying3⟩
instance : TUnd prog 4 (.bool) := ⟨underlying4⟩
instance : TUnd prog 5 (.int .u8) := ⟨underlying5⟩
instance : TUnd prog 6 (.int .u8) := ⟨underlying6⟩
instance : TUnd prog 9 (.string) := ⟨underlying9⟩
instance : TUnd prog 10 (.string) := ⟨underlying10⟩
instance : TUnd prog 11 (.string) := ⟨underlying11⟩
instance : TUnd prog 12 (.int .u64) := ⟨underlying12⟩
instance : TUnd prog 21 (.int .i32) := ⟨underlying21⟩
instance : TUnd prog 22 (.slice 27) := ⟨underlying22⟩
instance : TUnd prog 24 (.int .i64) := ⟨underlying24⟩
instance : TUnd prog 26 (.slice 22) := ⟨underlying26⟩
instance : TUnd prog 27 (.int .u64) := ⟨underlying27⟩
instance : TUnd prog 28 (.slice 179) := ⟨underlying28⟩
instance : TUnd prog 29 (.slice 183) := ⟨underlying29⟩
instance : TUnd prog 41 (.slice 3) := ⟨underlying41⟩
instance : TUnd prog 57 (.slice 5) := ⟨underlying57⟩
instance : TUnd prog 86 (.slice 27) := ⟨underlying86⟩
instance : TUnd prog 108 (.array 5 5) := ⟨underlying108⟩
instance : TUnd prog 118 (.slice 9) := ⟨underlying118⟩
instance : TUnd prog 142 (.slice 257) := ⟨underlying142⟩
instance : TUnd prog 157 (.array 3 27) := ⟨underlying157⟩
instance : TUnd prog 167 (.int .u64) := ⟨underlying167⟩
instance : TUnd prog 239 (.int .u32) := ⟨underlying239⟩
instance : TUnd prog 243 (.array 4 5) := ⟨underlying243⟩
instance : TUnd prog 262 (.int .u64) := ⟨underlying262⟩
instance : TUnd prog 267 (.int .u8) := ⟨underlying267⟩
instance : TUnd prog 280 (.slice 63) := ⟨underlying280⟩
instance : TUnd prog 284 (.array 256 4) := ⟨underlying284⟩
instance : TUnd prog 285 (.array 256 4) := ⟨underlying285⟩
instance : TUnd prog 291 (.int .i64) := ⟨underlying291⟩
instance : TUnd prog 320 (.slice 325) := ⟨underlying320⟩
instance : TUnd prog 339 (.int .u64) := ⟨underlying339⟩
instance : TUnd prog 371 (.array 256 5) := ⟨underlying371⟩
instance : TUnd prog 374 (.array 16 373) := ⟨underlying374⟩
instance : TUnd prog 388 (.array 0 16) := ⟨underlying388⟩
instance : TUnd prog 392 (.int .u8) := ⟨underlying392⟩
instance : TUnd prog 394 (.int .i32) := ⟨underlying394⟩
instance : TUnd prog 395 (.int .i32) := ⟨underlying395⟩
instance : TUnd prog 406 (.int .u16) := ⟨underlying406⟩
instance : TUnd prog 409 (.slice 412) := ⟨underlying409⟩
instance : TUnd prog 410 (.int .i32) := ⟨underlying410⟩
end Mv
end
section
open Go.RowKit
open Mv Disk
def strs (s:tt):List tu:=[.string s]
def cmpI (a b:tt):Int:=if a=b then 0 else if lt a b=true then -1 else 1
theorem zkM (a b:tt):Op.bytesLess a.data.toList b.data.toList=lt a b:=rfl
theorem zjz (s:tt):(s=ByteArray.empty) <-> s.size=0:=⟨λh=>by rw [h];rfl,λh=>by
 apply zbG;have:=za6 s;rw [h] at this;rw [List.eq_nil_of_length_eq_zero this];rfl⟩
def bad (s:tt):Bool:=decide (s.size=0\/16<s.size)
theorem ztn {s:tt}:bad s=true <-> ¬ nm s:=by unfold bad nm;rw [decide_eq_true_eq];omega
theorem zvH {s:tt}:bad s=false <-> nm s:=by unfold bad nm;rw [decide_eq_false_iff_not];omega
theorem zjA (s:tt) (S:Mem):ACall prog 152 #[.string s] S λr S'=>r = .bool (bad s)/\S'=S:=by
 by_cases A:s.size=0
 ·have e:(decide (s=ByteArray.empty))=true:=decide_eq_true ((zjz s).2 A);refine k_E1 10 func152 ?_;refine r8_ ?_;refine rC (vi rfl rfl (zag (zaw _ _) e)) ?_;refine r9_ ?_;refine ⟨_,S,⟨_,_,rfl,rfl,rfl⟩,zae,?_⟩;exact ⟨by rw [show bad s=true from decide_eq_true (.inl A)];rfl,rfl⟩
 have e:(decide (s=ByteArray.empty))=false:=decide_eq_false (λh=>A ((zjz s).1 h));refine k_E1 10 func152 ?_;refine r8_ ?_;refine rC (vi rfl rfl (zag (zaw _ _) e)) ?_;refine r9_ ?_;refine ⟨_,S,⟨_,_,rfl,rfl,rfl⟩,zae,?_⟩;exact ⟨congrArg Value.bool (decide_eq_decide.2 vd),rfl⟩
theorem zlW (v:tu) (l:List tt) (S:Mem) (W:Sl 1 strs S v l) :
  ACall prog 180 #[v,.func (.func 152) #[] #[]] S λr S'=>(∃ n:Int,r = .int .i64 n/\(0<=n <-> ∃ s ∈ l,¬ nm s))/\S'=S:=by
 obtain ⟨a,cap,rfl,I,h2,Q⟩:=id W;refine k_E2 19 func180 ?_;refine r14_ ?_;refine AWP.loop (X:=Nat) (λx=>[(0,.slice a l.length cap),(1,.func (.func 152) #[] #[]),(7,.int .i64 l.length),(8,.int .i64 x)]) (λx=>S) (λx=>x<=l.length /\ ∀ j (h:j<l.length),j<x->nm l[j]) (λx=>l.length-x) (0) ⟨rfl,rfl,rfl,rfl,trivial⟩ (Mem.Less.refl _) (⟨Nat.zero_le _,λj _ h=>absurd h (Nat.not_lt_zero _)⟩) ?_;rintro i ⟨hi,A⟩;(try dsimp only at *);refine r6_ ?_;refine vp rfl (λhc=>?_) (λhc=>?_)
 ·have hc:i<l.length:=by have:=of_decide_eq_true hc;omega
  obtain ⟨b,off,rfl,V⟩:=Q.resolve_left (λe=>by subst e;simp at hc);have H:=V i hc;unfold strs at H;refine r17_ ?_;refine vq (zab rfl) zvC rfl rfl (zjA l[i] _) ?_;rintro _ Y ⟨rfl,I⟩;rw [I];clear I Y;refine r2_ ?_;refine vp rfl (λC=>?_) (λC=>?_)
  ·refine r6_ ?_;refine r6_ ?_;refine ⟨_,S,⟨_,_,rfl,rfl,rfl⟩,zae,?_⟩;exact ⟨⟨i,rfl,by constructor;exact λ_=>⟨_,List.getElem_mem hc,ztn.1 C⟩;omega⟩,rfl⟩
  refine r8_ ?_;refine ⟨i+1,?_,?_,?_,?_⟩<;>try dsimp only
  ·exact ⟨rfl,rfl,rfl,rfl,trivial⟩
  ·exact zae
  ·exact ⟨hc,λj h J=>by rcases Nat.lt_or_ge j i with h' | h';exact A j h h';obtain rfl:j=i:=vd;exact zvH.1 C⟩
  omega
 have hc:i=l.length:=by have:=of_decide_eq_false hc;omega
 refine r11_ ?_;refine ⟨_,S,⟨_,_,rfl,rfl,rfl⟩,zae,?_⟩;exact ⟨⟨-1,rfl,by constructor;omega;rintro ⟨s,hs,U⟩;obtain ⟨j,J,rfl⟩:=List.getElem_of_mem hs;exact absurd (A j J vd) U⟩,rfl⟩
theorem zhm (v:tu) (l:List tt) (S:Mem) (C:Sl 1 strs S v l) :
  ACall prog 151 #[v,.func (.func 152) #[] #[]] S λr S'=>(∃ t:Bool,r = .bool t/\(t=true <-> ∃ s ∈ l,¬ nm s))/\S'=S:=by
 refine k_E2 9 func151 ?_;refine r9_ ?_;refine ca_ rfl (zlW v l _ C) ?_;rintro _ H ⟨⟨n,rfl,I⟩,A⟩;rw [A];clear A H;refine r5_ ?_;refine ⟨_,S,⟨_,_,rfl,rfl,rfl⟩,zae,?_⟩;exact ⟨⟨decide (0<=n),rfl,by rw [decide_eq_true_eq];exact I⟩,rfl⟩
theorem zbm (v:tu) (l:List tt) (S:Mem) (H:Sl 1 strs S v l) :
  ACall prog 97 #[v] S λr S'=>(∃ t:Bool,r = .bool t/\(t=true <-> ∀ s ∈ l,nm s))/\S'=S:=by
 refine k_E1 6 func97 ?_;refine r8_ ?_;refine ca_ rfl (zhm v l _ H) ?_;rintro _ I ⟨⟨t,rfl,C⟩,A⟩;rw [A];clear A I;refine r5_ ?_;refine ⟨_,S,⟨_,_,rfl,rfl,rfl⟩,zae,?_⟩;exact ⟨⟨!t,rfl,by cases t <;> simp at C ⊢ <;> exact C⟩,rfl⟩
theorem zdn (s:tt) (S:Mem):ACall prog 213 #[.string s] S λr S'=>r = .bool false/\S'=S:=by
 refine k_E1 6 func213 ?_;refine r9_ ?_;refine rC (vi rfl rfl (zag (zaP _ _) (zaM rfl))) ?_;refine r4_ ?_;refine ⟨_,S,⟨_,_,rfl,rfl,rfl⟩,zae,?_⟩;exact ⟨rfl,rfl⟩
theorem zii (a b:tt) (S:Mem):ACall prog 150 #[.string a,.string b] S λr S'=>r = .int .i64 (cmpI a b)/\S'=S:=by
 unfold cmpI;by_cases e:a=b
 ·subst e;rw [if_pos rfl];refine k_E2 20 func150 ?_;refine r8_ ?_;refine cp_ rfl (zdn a _) ?_;refine r6_ ?_;refine cp_ rfl (zdn a _) ?_;refine r9_ ?_;refine cF_ ?_;refine r8_ ?_;refine cF_ ?_;refine r7_ ?_;refine rC (vi rfl rfl (zag (zcR _ _) (lt_irrefl a))) ?_;refine r2_ ?_;refine cF_ ?_;refine r7_ ?_;refine rC (vi rfl rfl (zag (zdD _ _) (by rw [zkM,lt_irrefl,decide_eq_true rfl];first | done | rfl))) ?_;refine r2_ ?_;refine cF_ ?_;refine r8_ ?_;refine ⟨_,S,⟨_,_,rfl,rfl,rfl⟩,zae,?_⟩;exact ⟨rfl,rfl⟩
 rw [if_neg e];by_cases h:lt a b=true
 ·rw [if_pos h];refine k_E2 20 func150 ?_;refine r8_ ?_;refine cp_ rfl (zdn a _) ?_;refine r3_ ?_;refine kw_ [0,1,4,5] ?_;refine r3_ ?_;refine cp_ rfl (zdn b _) ?_;refine r9_ ?_;refine cF_ ?_;refine r8_ ?_;refine cF_ ?_;refine r7_ ?_;refine rC (vi rfl rfl (zag (zcR _ _) h)) ?_;refine r2_ ?_;refine cT_ ?_;refine r7_ ?_;refine ⟨_,S,⟨_,_,rfl,rfl,rfl⟩,zae,?_⟩;exact ⟨rfl,rfl⟩
 have h':lt a b=false:=by simpa using h
 rw [if_neg h];refine k_E2 20 func150 ?_;refine r8_ ?_;refine cp_ rfl (zdn a _) ?_;refine r6_ ?_;refine cp_ rfl (zdn b _) ?_;refine r9_ ?_;refine cF_ ?_;refine r8_ ?_;refine cF_ ?_;refine r7_ ?_;refine rC (vi rfl rfl (zag (zcR _ _) h')) ?_;refine r2_ ?_;refine kw_ [0,1,4,5,6,11,13,16] ?_;refine cF_ ?_;refine r7_ ?_;refine rC (vi rfl rfl (zag (zdD _ _) (by rw [zkM,h',decide_eq_false e];first | done | rfl))) ?_;refine r2_ ?_;refine cT_ ?_;refine r7_ ?_;refine ⟨_,S,⟨_,_,rfl,rfl,rfl⟩,zae,?_⟩;exact ⟨rfl,rfl⟩
theorem zgA (x:Ext) (s:tt) (S:Mem):ACall prog 149 #[.agg #[.string x.1,.string x.2],.string s] S λr S'=>r = .int .i64 (cmpI x.1 s)/\S'=S:=by
 refine k_E2 9 func149 ?_;refine r2_ ?_;refine vD (cs:=[_,_]) (zab rfl) rfl ?_;intro H C;have A:=C
 repeat ((with_reducible replace A:=zaa A);obtain ⟨A,_⟩:=A)
 refine nl_ ?_;refine r8_ ?_;refine cp_ rfl (zii x.1 s _) ?_;refine r4_ ?_;refine ⟨_,S,⟨_,_,rfl,rfl,rfl⟩,zae,?_⟩;exact ⟨rfl,rfl⟩
theorem zkN {a b:tt}:cmpI a b<0 <-> lt a b=true:=by
 unfold cmpI;by_cases e:a=b
 ·subst e;rw [if_pos rfl,lt_irrefl];simp
 rw [if_neg e];by_cases h:lt a b=true
 ·rw [if_pos h];simp [h]
 rw [if_neg h];simp [h]
theorem znt {a b:tt}:cmpI a b=0 <-> a=b:=by
 unfold cmpI;by_cases e:a=b
 ·rw [if_pos e];simp [e]
 rw [if_neg e];by_cases h:lt a b=true
 ·rw [if_pos h];simp [e]
 rw [if_neg h];simp [e]
theorem zjB (v:tu) (l:List Ext) (s:tt) (S:Mem) (hl:Sl 2 extF S v l) (ha:Asc l) (hn:l.length<=1048576) :
  ACall prog 148 #[v,.string s,.func (.func 149) #[] #[]] S λr S'=>r = .tuple #[.int .i64 (pos l s:Nat),.bool (has l s)]/\S'=S:=by
 obtain ⟨a,cap,rfl,J,h2,h3⟩:=id hl;refine k_E3 49 func148 ?_;refine r22_ ?_;refine AWP.loop (X:=Nat × Nat) (λx=>[(0,.slice a l.length cap),(1,.string s),(2,.func (.func 149) #[] #[]),(8,.int .i64 l.length),(9,.int .i64 x.1),(10,.int .i64 x.2)]) (λx=>S) (λx=>x.1<=x.2/\x.2<=l.length/\(∀ j (h:j<l.length),j<x.1->lt l[j].1 s=true) /\ ∀ j (h:j<l.length),x.2<=j->lt l[j].1 s=false) (λx=>x.2-x.1) ((0,l.length)) ⟨rfl,rfl,rfl,rfl,rfl,rfl,trivial⟩ (Mem.Less.refl _) (⟨Nat.zero_le _,Nat.le_refl _,λj _ h=>absurd h (Nat.not_lt_zero _),λj h h'=>absurd h (Nat.not_lt.2 h')⟩) ?_;rintro ⟨i,j⟩ ⟨aj,hj,W,aa⟩;(try dsimp only at *);refine r8_ ?_;refine vp rfl (λhc=>?_) (λhc=>?_)
 ·have hc:i<j:=by have:=of_decide_eq_true hc;omega
  obtain ⟨b,off,rfl,hk⟩:=h3.resolve_left (λe=>by subst e;simp at hj;omega);obtain ⟨m,hm⟩ : ∃ m,(i+j) / 2=m:=⟨_,rfl⟩;have U:m<l.length:=by omega
  have I:=hk m U;unfold extF at I;have e1:IntKind.i64.wrap (((i:Int)+(j:Int)) / 2 ^ (1:Int).toNat)=(m:Int):=by rw [show (2:Int) ^ (1:Int).toNat=2 from rfl,IntWalk.i64_in _ vd];omega
  refine r14_ ?_;rw [e1];refine r8_ ?_;refine vq (zab rfl) zsv rfl rfl (zgA l[m] s _) ?_;rintro _ S1 ⟨rfl,J⟩;rw [J];clear J S1;refine r3_ ?_;refine kw_ [0,1,2,8,9,10,17,11,31] ?_;refine vp rfl (λA=>?_) (λA=>?_)
  ·have A:lt l[m].1 s=true:=zkN.1 (of_decide_eq_true A);have V:∀ k (h:k<l.length),k<m+1->lt l[k].1 s=true:=λk h ad=>by rcases Nat.lt_or_ge k m with h' | h';exact lt_trans (zdF ha U h') A;obtain rfl:k=m:=vd;exact A
   refine r7_ ?_;refine ⟨(m+1,j),?_,?_,?_,?_⟩<;>try dsimp only
   ·exact ⟨rfl,rfl,rfl,rfl,rfl,rfl,trivial⟩
   ·exact zae
   ·exact ⟨by omega,hj,V,aa⟩
   omega
  have A:lt l[m].1 s=false:=by have:=of_decide_eq_false A;rw [zkN] at this;simpa using this
  have Y:∀ k (h:k<l.length),m<=k->lt l[k].1 s=false:=λk h ad=>by rcases Nat.lt_or_ge m k with h' | h';(cases hq:lt l[k].1 s with | false=>rfl | true=>have:=lt_trans (zdF ha h h') hq;rw [A] at this;cases this);obtain rfl:k=m:=vd;exact A
  refine r6_ ?_;refine ⟨(i,m),?_,?_,?_,?_⟩<;>try dsimp only
  ·exact ⟨rfl,rfl,rfl,rfl,rfl,rfl,trivial⟩
  ·exact zae
  ·exact ⟨by omega,by omega,W,Y⟩
  omega
 have hc:i=j:=by have:=of_decide_eq_false hc;omega
 subst hc;have Q:pos l s=i:=zjq hj W (λh=>aa i h (Nat.le_refl _));have hh:=zex ha s;by_cases C:i<l.length
 ·obtain ⟨b,off,rfl,hk⟩:=h3.resolve_left (λe=>by subst e;simp at C);have I:=hk i C;unfold extF at I;refine r18_ ?_;refine rUn 39 ?_;refine vq (zab rfl) zsv rfl rfl (zgA l[i] s _) ?_;rintro _ S1 ⟨rfl,J⟩;rw [J];clear J S1;have H:decide (cmpI l[i].1 s=0)=has l s:=by rw [Bool.eq_iff_iff,decide_eq_true_eq,znt,hh];constructor;exact λe=>⟨by rw [Q];exact C,by simp only [Q];exact e⟩;exact λ⟨_,e⟩=>by simpa only [Q] using e
  refine r7_ ?_;refine ⟨_,S,⟨_,_,rfl,⟨_,_,rfl,rfl,rfl⟩,rfl⟩,zae,?_⟩;exact ⟨by rw [Q,<- H];rfl,rfl⟩
 have H:has l s=false:=by cases h:has l s with | false=>rfl | true=>obtain ⟨h',_⟩:=hh.1 h;rw [Q] at h';omega
 refine r26_ ?_;refine ⟨_,S,⟨_,_,rfl,⟨_,_,rfl,rfl,rfl⟩,rfl⟩,zae,?_⟩;exact ⟨by rw [Q,H];rfl,rfl⟩
theorem zbA (v:tu) (l:List Ext) (s:tt) (S:Mem) (A:Sl 2 extF S v l) (C:Asc l) (H:l.length<=1048576) :
  ACall prog 96 #[v,.string s] S λr S'=>r = .tuple #[.int .i64 (pos l s:Nat),.bool (has l s)]/\S'=S:=by
 refine k_E2 11 func96 ?_;refine r10_ ?_;refine cp_ rfl (zjB v l s _ A C H) ?_;refine r7_ ?_;refine ⟨_,S,⟨_,_,rfl,⟨_,_,rfl,rfl,rfl⟩,rfl⟩,zae,?_⟩;exact ⟨rfl,rfl⟩
theorem zbt (x:Ext) (S:Mem) (H:x.2.size<=9223372036854775807):ACall prog 147 #[.agg #[.string x.1,.string x.2]] S λr S'=>r = .int .i64 (sec x:Nat)/\S'=S:=by
 refine k_E1 7 func147 ?_;refine r2_ ?_;refine vD (cs:=[_,_]) (zab rfl) rfl ?_;intro C f1;have A:=f1
 repeat ((with_reducible replace A:=zaa A);obtain ⟨A,_⟩:=A)
 refine nl_ ?_;refine r13_ ?_;refine ⟨_,S,⟨_,_,rfl,rfl,rfl⟩,zae,?_⟩;exact ⟨val_int (by unfold sec;omega),rfl⟩
end
section
open Go.RowKit
namespace Disk
theorem zqr {x:tt} (h:x.size≠0):lt ByteArray.empty x=true:=by
 unfold lt;cases e:x.data.toList with
 | nil=>have:=Mv.za6 x;rw [e] at this;simp at this;omega
 | cons a l=>rfl
theorem zb4 {α : Type} {l:List α} {i:Nat} (h:i<l.length):l.take (i+1)=l.take i ++ [l[i]]:=by
 rw [List.take_add_one,List.getElem?_eq_getElem h];rfl
def lastN (l:List Ext):Nat->tt
  | 0=>ByteArray.empty
  | i+1=>(l[i]?.map (·.1)).getD ByteArray.empty
theorem zeG {l:List Ext} {i:Nat} (h:i<l.length):lastN l (i+1)=l[i].1:=by
 simp [lastN,List.getElem?_eq_getElem h]
structure Upto (l:List Ext) (size:Int) (i:Nat):Prop where
  ok:∀ x ∈ l.take i,eok x
  asc:Asc (l.take i)
  us:(used (l.take i):Int)<=size
theorem znu (l:List Ext) {size:Int} (h:0<=size):Upto l size 0:=⟨λx h=>by simp at h,by simp [Asc],by simpa [used] using h⟩
theorem zqs {l:List Ext} {size:Int} (h:Upto l size l.length):ERight l size:=by
 obtain ⟨C,H,A⟩:=h;rw [List.take_length] at C H A;exact ⟨C,H,A⟩
theorem znv {l:List Ext} {size:Int} {i:Nat} (h:Upto l size i) (hi:i<l.length) (U:eok l[i]) (A:lt (lastN l i) l[i].1=true) (V:(used (l.take i):Int)+sec l[i]<=size):Upto l size (i+1):=by
 have e:=zb4 hi;refine ⟨λx hx=>?_,?_,?_⟩
 ·rw [e,List.mem_append] at hx;rcases hx with hx | hx
  ·exact h.ok x hx
  rw [List.mem_singleton.1 hx];exact U
 ·rw [e];unfold Asc;rw [List.pairwise_append];refine ⟨h.asc,by simp,λa J b H=>?_⟩;rw [List.mem_singleton.1 H];obtain ⟨j,Q,rfl⟩:=List.getElem_of_mem J;have I:j<i:=by simp at Q;omega
  cases i with
  | zero=>omega
  | succ i =>
   rw [zeG vd] at A;by_cases C:j=i
   ·subst C;simpa using A
   have:=zdF h.asc (i:=j) (j:=i) (by simp;omega) vd;simp only [List.getElem_take] at this ⊢;exact lt_trans this A
 rw [e,za_];simp only [used];omega
theorem zqt {l:List Ext} {size:Int} (h:ERight l size) {i:Nat} (hi:i<l.length):eok l[i]/\lt (lastN l i) l[i].1=true/\(used (l.take i):Int)+sec l[i]<=size:=by
 refine ⟨h.ok _ (List.getElem_mem hi),?_,?_⟩
 ·cases i with
  | zero=>exact zqr (h.ok _ (List.getElem_mem hi)).1.1
  | succ i=>rw [zeG vd];exact zdF h.asc hi vd
 have A:=h.us;have e:l=l.take (i+1) ++ l.drop (i+1):=(List.take_append_drop _ _).symm;rw [e,za_,zb4 hi,za_] at A;simp only [used] at A;omega
end Disk
end
section
open Go.RowKit
open Mv Disk
theorem zcv {S:Mem} {b:Nat} {e:tx} {s:tt} (h:S.own b=some ⟨e,[.string s],1⟩):Sl 1 strs S (.slice (some ⟨b,0,none⟩) 1 1) [s] :=
 vN (g:=λs:tt=>.string s) h List.prefix_rfl rfl (by decide) (by decide)
theorem zvI {a b:tt} (h:lt a b=true):(Op.bytesLess b.data.toList a.data.toList || decide (b=a))=false:=by
 rw [zkM,zqo h,decide_eq_false (Ne.symm (zwU h))];rfl
theorem zto {a b:tt} (h:lt a b=false):(Op.bytesLess b.data.toList a.data.toList || decide (b=a))=true:=by
 rw [zkM];by_cases e:b=a
 ·rw [decide_eq_true e,Bool.or_true]
 rw [zss (Ne.symm e) h];rfl
theorem zbK {p:tt->Prop} {s:tt}:(∀ x ∈ [s],p x) <-> p s:=by simp
theorem zij (v:tu) (l:List Ext) (size:Int) (S:Mem) (hl:Sl 2 extF S v l) (h0:0<=size) (I:size<=16384) (hz:∀ x ∈ l,x.2.size<=140737488351232) :
  ACall prog 146 #[v,.int .i64 size] S λr S'=>(∃ t:Bool,r = .bool t/\(t=true <-> ERight l size))/\S'=S:=by
 obtain ⟨a,cap,rfl,ax,aw,al⟩:=id hl;refine k_E2 46 func146 ?_;refine r19_ ?_;refine AWP.loop (X:=Nat) (λx=>[(1,.int .i64 (size-used (l.take x))),(5,.string (lastN l x)),(8,.slice a l.length cap),(9,.int .i64 l.length),(10,.int .i64 x)]) (λx=>S) (λx=>x<=l.length/\Upto l size x) (λx=>l.length-x) (0) ⟨zan (by simp [used]),rfl,rfl,rfl,rfl,trivial⟩ (Mem.Less.refl _) (⟨Nat.zero_le _,znu l h0⟩) ?_;rintro i ⟨hi,ac⟩;(try dsimp only at *);refine r6_ ?_;refine vp rfl (λhc=>?_) (λhc=>?_)
 ·have hc:i<l.length:=by have:=of_decide_eq_true hc;omega
  obtain ⟨b,off,rfl,hk⟩:=al.resolve_left (λe=>by subst e;simp at hc);have ai:=hk i hc;have ay:=hz _ (List.getElem_mem hc);have au:=ac.us;have Q:=λh:ERight l size=>zqt h hc;have ah:used (l.take (i+1))=used (l.take i)+sec l[i]:=by rw [zb4 hc,za_];simp [used]
  have aj:=zeG hc;have ak:=znv ac hc;generalize hx:l[i]=x at *;unfold extF at ai;have av:sec x<=140737488351232:=by unfold sec;omega
  by_cases q1:nm x.1
  ·by_cases q2:lt (lastN l i) x.1=true
   ·have J:=zvI q2;by_cases q3:x.2.size=0
    ·refine r8_ ?_;refine ARun.alloc (zab rfl) zbH ?_;intro b7 U;have C:=U
     repeat ((with_reducible replace C:=zaa C);obtain ⟨C,_⟩:=C)
     refine nl_ ?_;refine r8_ ?_;refine vu (zab rfl) za1 rfl rfl ?_;intro V H;have A:=H
     repeat ((with_reducible replace A:=zaa A);obtain ⟨A,_⟩:=A)
     refine ca_ rfl (zbm _ [x.1] _ (zcv own_)) ?_;rintro _ Y ⟨⟨t,rfl,W⟩,I⟩;rw [I];clear I Y;obtain rfl:t=true:=W.2 (zbK.2 q1);refine r5_ ?_
     first|refine k_q 19 ?_|refine rG 19 (vi rfl rfl (zag (zcg _ _) J)) ?_
     refine r4_ ?_
     first|refine k_q 25 ?_|refine rG 25 (vi rfl rfl (zag (zaw _ _) (decide_eq_true ((zjz _).2 q3)))) ?_
     refine r10_ ?_;refine cT_ ?_;refine r12_ ?_;refine ⟨_,S,⟨_,_,rfl,rfl,rfl⟩,zae,?_⟩;exact ⟨⟨false,rfl,by simp;exact λh=>(Q h).1.2.1 q3⟩,rfl⟩
    by_cases q4:x.2.size % 64=0
    ·refine r8_ ?_;refine ARun.alloc (zab rfl) zbH ?_;intro b7 U;have C:=U
     repeat ((with_reducible replace C:=zaa C);obtain ⟨C,_⟩:=C)
     refine nl_ ?_;refine r8_ ?_;refine vu (zab rfl) za1 rfl rfl ?_;intro V H;have A:=H
     repeat ((with_reducible replace A:=zaa A);obtain ⟨A,_⟩:=A)
     refine ca_ rfl (zbm _ [x.1] _ (zcv own_)) ?_;rintro _ Y ⟨⟨t,rfl,W⟩,I⟩;rw [I];clear I Y;obtain rfl:t=true:=W.2 (zbK.2 q1);refine r5_ ?_
     first|refine k_q 19 ?_|refine rG 19 (vi rfl rfl (zag (zcg _ _) J)) ?_
     refine r4_ ?_
     first|refine k_q 25 ?_|refine rG 25 (vi rfl rfl (zag (zaw _ _) (decide_eq_false (λe=>q3 ((zjz _).1 e))))) ?_
     refine r10_ ?_;refine cF_ ?_;refine r7_ ?_;refine cp_ rfl (zbt x _ vd) ?_;refine r4_ ?_;refine kw_ [1,5,8,9,10,11,7,36] ?_;refine r6_ ?_;refine vp rfl (λq5=>?_) (λq5=>?_)
     ·refine r12_ ?_;refine ⟨_,S,⟨_,_,rfl,rfl,rfl⟩,zae,?_⟩;exact ⟨⟨false,rfl,by simp;exact λh=>absurd (Q h).2.2 (by have:=of_decide_eq_true q5;omega)⟩,rfl⟩
     have q5:=of_decide_eq_false q5;refine r14_ ?_;refine ⟨i+1,?_,?_,?_,?_⟩<;>try dsimp only
     ·exact ⟨zan (by rw [ah];omega),zp3 aj.symm,rfl,rfl,rfl,trivial⟩
     ·exact zae
     ·exact ⟨hc,ak ⟨q1,q3,q4⟩ q2 vd⟩
     omega
    refine r8_ ?_;refine ARun.alloc (zab rfl) zbH ?_;intro b7 U;have C:=U
    repeat ((with_reducible replace C:=zaa C);obtain ⟨C,_⟩:=C)
    refine nl_ ?_;refine r8_ ?_;refine vu (zab rfl) za1 rfl rfl ?_;intro V H;have A:=H
    repeat ((with_reducible replace A:=zaa A);obtain ⟨A,_⟩:=A)
    refine ca_ rfl (zbm _ [x.1] _ (zcv own_)) ?_;rintro _ Y ⟨⟨t,rfl,W⟩,I⟩;rw [I];clear I Y;obtain rfl:t=true:=W.2 (zbK.2 q1);refine r5_ ?_
    first|refine k_q 19 ?_|refine rG 19 (vi rfl rfl (zag (zcg _ _) J)) ?_
    refine r4_ ?_
    first|refine k_q 25 ?_|refine rG 25 (vi rfl rfl (zag (zaw _ _) (decide_eq_false (λe=>q3 ((zjz _).1 e))))) ?_
    refine r10_ ?_;refine cT_ ?_;refine r12_ ?_;refine ⟨_,S,⟨_,_,rfl,rfl,rfl⟩,zae,?_⟩;exact ⟨⟨false,rfl,by simp;exact λh=>q4 (Q h).1.2.2⟩,rfl⟩
   have J:=zto (Bool.eq_false_iff.2 q2);refine r8_ ?_;refine ARun.alloc (zab rfl) zbH ?_;intro b7 U;have C:=U
   repeat ((with_reducible replace C:=zaa C);obtain ⟨C,_⟩:=C)
   refine nl_ ?_;refine r3_ ?_;refine kw_ [1,5,8,9,10,11,7] ?_;refine r5_ ?_;refine vu (zab rfl) za1 rfl rfl ?_;intro V H;have A:=H
   repeat ((with_reducible replace A:=zaa A);obtain ⟨A,_⟩:=A)
   refine ca_ rfl (zbm _ [x.1] _ (zcv own_)) ?_;rintro _ Y ⟨⟨t,rfl,W⟩,I⟩;rw [I];clear I Y;obtain rfl:t=true:=W.2 (zbK.2 q1);refine r5_ ?_
   first|refine k_q 19 ?_|refine rG 19 (vi rfl rfl (zag (zcg _ _) J)) ?_
   refine r15_ ?_;refine cT_ ?_;refine r12_ ?_;refine ⟨_,S,⟨_,_,rfl,rfl,rfl⟩,zae,?_⟩;exact ⟨⟨false,rfl,by simp;exact λh=>q2 (Q h).2.1⟩,rfl⟩
  refine r8_ ?_;refine ARun.alloc (zab rfl) zbH ?_;intro b7 U;have C:=U
  repeat ((with_reducible replace C:=zaa C);obtain ⟨C,_⟩:=C)
  refine nl_ ?_;refine r8_ ?_;refine vu (zab rfl) za1 rfl rfl ?_;intro V H;have A:=H
  repeat ((with_reducible replace A:=zaa A);obtain ⟨A,_⟩:=A)
  refine ca_ rfl (zbm _ [x.1] _ (zcv own_)) ?_;rintro _ Y ⟨⟨t,rfl,W⟩,I⟩;rw [I];clear I Y;obtain rfl:t=false:=Bool.eq_false_iff.2 (λe=>q1 (zbK.1 (W.1 e)));refine r21_ ?_;refine cT_ ?_;refine r12_ ?_;refine ⟨_,S,⟨_,_,rfl,rfl,rfl⟩,zae,?_⟩;exact ⟨⟨false,rfl,by simp;exact λh=>q1 (Q h).1.1⟩,rfl⟩
 have hc:i=l.length:=by have:=of_decide_eq_false hc;omega
 subst hc;refine r11_ ?_;refine ⟨_,S,⟨_,_,rfl,rfl,rfl⟩,zae,?_⟩;exact ⟨⟨true,rfl,by simp;exact zqs ac⟩,rfl⟩
theorem ztp {l:List Ext} (C:Asc l) {w:Wr} {p:Nat} (A:p<l.length) (e:l[p].1=w.1):wok l w <-> 0<=w.2.1/\w.2.1<sec l[p]/\w.2.2.size=64:=by
 constructor
 ·rintro ⟨x,H,e2,h⟩;have:x=l[p]:=znj C H (List.getElem_mem A) (e2.trans e.symm);subst this;exact h
 intro h;exact ⟨l[p],List.getElem_mem A,e,h⟩
theorem ztq {l:List Ext} {w:Wr} (h:wok l w):has l w.1=true:=by
 obtain ⟨x,A,e,_⟩:=h;exact zba.2 ⟨x,A,e⟩
def DkR (S:Mem) (v:tu) (d:D):Prop:=∃ pe ce pw cw,v = .agg #[.int .i64 d.size,.slice pe d.ext.length ce,.slice pw d.waits.length cw,.int .i64 d.fuse,.bool d.down]/\Sl 2 extF S (.slice pe d.ext.length ce) d.ext/\Sl 3 wrF S (.slice pw d.waits.length cw) d.waits
theorem DkR.less {S S':Mem} {v:tu} {d:D} (h:DkR S v d) (A:S.Less S'):DkR S' v d:=by
 obtain ⟨I,C,J,Q,e,U,H⟩:=h;exact ⟨I,C,J,Q,e,U.less A,H.less A⟩
structure Dz (d:D):Prop where
  s0 : -9223372036854775808<=d.size
  s1:d.size<=9223372036854775807
  f0 : -9223372036854775808<=d.fuse
  f1:d.fuse<=9223372036854775807
  el:d.ext.length<=4398046511104
  wl:d.waits.length<=3518437208883
  ez:∀ x ∈ d.ext,x.1.size<=140737488351232/\x.2.size<=140737488351232
  wz:∀ w ∈ d.waits,w.1.size<=140737488351232 /\ -9223372036854775808<=w.2.1/\w.2.1<=9223372036854775807/\w.2.2.size<=140737488351232
theorem zlX (v:tu) (d:D) (S:Mem) (hd:DkR S v d) (Y:Dz d) :
  ACall prog 94 #[v] S λr S'=>r = .int .i64 (chkD d)/\S'=S:=by
 obtain ⟨pe,ce,pw,cw,rfl,hE,hW⟩:=hd;obtain ⟨size,ext,waits,fuse,down⟩:=d;have V:=λx hx=>(Y.ez x hx).2;have au:=Y.s0;have aA:=Y.s1;have aB:=Y.f0;have am:=Y.f1
 simp only at hE hW V au aA aB am ⊢;obtain ⟨_,_,az,aI,aW,aC⟩:=id hE;obtain ⟨_,_,ak,aT,aG,aj⟩:=id hW;cases az;cases ak;refine k_E1 74 func94 ?_;refine r2_ ?_;refine k_b5 rfl ?_;intro b1 f1;have g1:=f1
 repeat ((with_reducible replace g1:=zaa g1);obtain ⟨g1,_⟩:=g1)
 refine nl_ ?_;refine r3_ ?_;refine named (S:=S) (b:=b1) g1.1 ?_;intro T1 A ag;replace hE:=hE.less A;replace hW:=hW.less A;by_cases q1:size<0
 ·refine r32_ ?_;refine cT_ ?_;refine r7_ ?_;refine ⟨_,S,⟨_,_,rfl,rfl,rfl⟩,A.trans zae,?_⟩;exact ⟨by rw [zcr (λh=>absurd h.s0 (by simp only;omega))];rfl,rfl⟩
 by_cases q2:16384<size
 ·refine r32_ ?_;refine cT_ ?_;refine r7_ ?_;refine ⟨_,S,⟨_,_,rfl,rfl,rfl⟩,A.trans zae,?_⟩;exact ⟨by rw [zcr (λh=>absurd h.s1 (by simp only;omega))];rfl,rfl⟩
 by_cases q3:16384<waits.length
 ·refine r32_ ?_;refine cT_ ?_;refine r7_ ?_;refine ⟨_,S,⟨_,_,rfl,rfl,rfl⟩,A.trans zae,?_⟩;exact ⟨by rw [zcr (λh=>absurd h.wl (by simp only;omega))];rfl,rfl⟩
 by_cases q4:fuse < -1
 ·refine r32_ ?_;refine cT_ ?_;refine r7_ ?_;refine ⟨_,S,⟨_,_,rfl,rfl,rfl⟩,A.trans zae,?_⟩;exact ⟨by rw [zcr (λh=>absurd h.fu (by simp only;omega))];rfl,rfl⟩
 refine r27_ ?_;refine vv 19 false 26 rfl (zab rfl) rfl (zab rfl) zvB rfl (zij _ ext size _ hE vd vd V) ?_;rintro _ W ⟨⟨t,rfl,ht⟩,H⟩;rw [H];clear H W;refine r4_ ?_;refine kw_ [0,1,2,33] ?_;by_cases I:ERight ext size
 ·obtain rfl:t=true:=ht.2 I;refine cF_ ?_;have aV:=zng I.ok;have aM:=I.us;refine r12_ ?_;refine AWP.loop (X:=Nat) (λx=>[(1,.pointer (some ⟨b1,0,none⟩)),(35,.slice pw waits.length cw),(36,.int .i64 waits.length),(37,.int .i64 x)]) (λx=>T1) (λx=>x<=waits.length /\ ∀ j (h:j<waits.length),j<x->wok ext waits[j]) (λx=>waits.length-x) (0) ⟨rfl,rfl,rfl,rfl,trivial⟩ (Mem.Less.refl _) (⟨Nat.zero_le _,λj _ h=>absurd h (Nat.not_lt_zero _)⟩) ?_;rintro i ⟨hi,Q⟩;(try dsimp only at *);refine r6_ ?_;refine vp rfl (λhc=>?_) (λhc=>?_)
  ·have hc:i<waits.length:=(by have:=of_decide_eq_true hc;omega);obtain ⟨b,off,rfl,hk⟩:=aj.resolve_left (λe=>by subst e;simp at hc);have av:=(hk i hc).less A;have aL:=Y.wz _ (List.getElem_mem hc);have J : ¬ wok ext waits[i] -> ¬ Right ⟨size,ext,waits,fuse,down⟩:=λh h'=>h (h'.wr _ (List.getElem_mem hc));have U:wok ext waits[i] -> ∀ j (h:j<waits.length),j<i+1->wok ext waits[j]:=λhw j h hj=>by rcases Nat.lt_or_ge j i with h' | h';exact Q j h h';obtain rfl:j=i:=vd;exact hw
   have an:=zex I.asc waits[i].1;have ao:=ztq (l:=ext) (w:=waits[i]);have C:=λ(p:Nat) (hp:p<ext.length) (e:ext[p].1=(waits[i]'hc).1)=>ztp I.asc hp e;generalize waits[i]=w at *;unfold wrF at av;refine r8_ ?_;refine ARun.alloc (zab rfl) zbI ?_;intro b4 f4;have g4:=f4
   repeat ((with_reducible replace g4:=zaa g4);obtain ⟨g4,_⟩:=g4)
   have:=g4.ne ag;have:=g4.ne' ag
   refine nl_ ?_;refine r9_ ?_;refine cp_ rfl (zbA _ ext w.1 _ (hE.less zae) I.asc vd) ?_;refine r7_ ?_;by_cases q6:has ext w.1=true
   ·obtain ⟨hp,aq⟩:=an.1 q6;obtain ⟨be,oe,ae,ax⟩:=aC.resolve_left (λe=>by subst e;simp at hp);subst ae;have aw:=(ax _ hp).less A;have aH:=V _ (List.getElem_mem hp);replace C:=C _ hp aq;rw [q6];generalize aK:pos ext w.1=p at *;generalize aP:ext[p]=x at *;unfold extF at aw;have aO:sec x<=140737488351232:=(by unfold sec;omega);by_cases q7:w.2.1<0
    ·refine s1_ ?_;refine dr_ [i0_,i1_,i2_,i3_,i4_,i5_,i6_,i7_,i8_,i9_,i10_,i11_,i12_,i13_,i14_,o15_,i16_,i17_,i18_,i19_,i20_,i21_,i22_,i23_] [] ?_;refine r15_ ?_;refine zac rfl ?_;refine s1_ ?_;refine zad ⟨ny_,?_⟩;refine r10_ ?_;refine cT_ ?_;refine r11_ ?_;refine ⟨_,S,⟨_,_,rfl,rfl,rfl⟩,A.trans zae,?_⟩;exact ⟨by rw [zcr (J (λh=>absurd (C.1 h).1 vd))];rfl,rfl⟩
    by_cases q8:(sec x:Int)<=w.2.1
    ·refine s1_ ?_;refine dr_ [i0_,i1_,i2_,i3_,i4_,i5_,i6_,i7_,i8_,i9_,i10_,i11_,i12_,i13_,i14_,o15_,i16_,i17_,i18_,i19_,i20_,i21_,i22_,i23_] [] ?_;refine r15_ ?_;refine zac rfl ?_;refine vv 7 false 56 rfl (zab rfl) rfl (zab rfl) zgz rfl (zbt x _ vd) ?_;rintro _ W ⟨rfl,H⟩;rw [H];clear H W;refine zad ⟨ny_,?_⟩;refine r10_ ?_;refine kw_ [1,35,36,37,38,4,5,6,72] ?_;refine cT_ ?_;refine r11_ ?_;refine ⟨_,S,⟨_,_,rfl,rfl,rfl⟩,A.trans zae,?_⟩;exact ⟨by rw [zcr (J (λh=>absurd (C.1 h).2.1 vd))];rfl,rfl⟩
    by_cases q9:w.2.2.size=64
    ·refine s1_ ?_;refine dr_ [i0_,i1_,i2_,i3_,i4_,i5_,i6_,i7_,i8_,i9_,i10_,i11_,i12_,i13_,i14_,o15_,i16_,i17_,i18_,i19_,i20_,i21_,i22_,i23_] [] ?_;refine r15_ ?_;refine zac rfl ?_;refine vv 7 false 56 rfl (zab rfl) rfl (zab rfl) zgz rfl (zbt x _ vd) ?_;rintro _ W ⟨rfl,H⟩;rw [H];clear H W;refine zad ⟨ny_,?_⟩;refine r10_ ?_;refine cF_ ?_;refine r8_ ?_;refine ⟨i+1,?_,?_,?_,?_⟩<;>try dsimp only
     ·exact ⟨rfl,rfl,rfl,rfl,trivial⟩
     ·exact zae
     ·exact ⟨hc,U (C.2 ⟨by omega,by omega,q9⟩)⟩
     omega
    refine s1_ ?_;refine dr_ [i0_,i1_,i2_,i3_,i4_,i5_,i6_,i7_,i8_,i9_,i10_,i11_,i12_,i13_,i14_,o15_,i16_,i17_,i18_,i19_,i20_,i21_,i22_,i23_] [] ?_;refine r15_ ?_;refine zac rfl ?_;refine vv 7 false 56 rfl (zab rfl) rfl (zab rfl) zgz rfl (zbt x _ vd) ?_;rintro _ W ⟨rfl,H⟩;rw [H];clear H W;refine zad ⟨ny_,?_⟩;refine r10_ ?_;refine cT_ ?_;refine r11_ ?_;refine ⟨_,S,⟨_,_,rfl,rfl,rfl⟩,A.trans zae,?_⟩;exact ⟨by rw [zcr (J (λh=>q9 (C.1 h).2.2))];rfl,rfl⟩
   rw [Bool.eq_false_iff.2 q6];refine s1_ ?_;refine dr_ [i0_,i1_,i2_,i3_,i4_,i5_,i6_,i7_,i8_,i9_,i10_,i11_,i12_,i13_,i14_,o15_,i16_,i17_,i18_,i19_,i20_,i21_,i22_,i23_] [] ?_;refine r15_ ?_;refine zac rfl ?_;refine s1_ ?_;refine zad ⟨ny_,?_⟩;refine r10_ ?_;refine cT_ ?_;refine r11_ ?_;refine ⟨_,S,⟨_,_,rfl,rfl,rfl⟩,A.trans zae,?_⟩;exact ⟨by rw [zcr (J (λh=>q6 (ao h)))];rfl,rfl⟩
  have hc:i=waits.length:=by have:=of_decide_eq_false hc;omega
  refine r11_ ?_;refine ⟨_,S,⟨_,_,rfl,rfl,rfl⟩,A.trans zae,?_⟩;exact ⟨by rw [zkK ⟨by simp only;omega,by simp only;omega,by simp only;omega,by simp only;omega,I,λw hw=>by obtain ⟨j,hj,rfl⟩:=List.getElem_of_mem hw;exact Q j hj (by have h':j<waits.length:=hj;omega)⟩];rfl,rfl⟩
 obtain rfl:t=false:=Bool.eq_false_iff.2 (λe=>I (ht.1 e));refine cT_ ?_;refine r7_ ?_;refine ⟨_,S,⟨_,_,rfl,rfl,rfl⟩,A.trans zae,?_⟩;exact ⟨by rw [zcr (λh=>I h.ex)];rfl,rfl⟩
theorem zbd (x:Ext):(extF x).length=2:=rfl
theorem zcD (x:Wr):(wrF x).length=3:=rfl
theorem zfJ (l:List Ext):∀ v ∈ l.flatMap extF,v.oneCell'=true:=λv C=>by
 obtain ⟨x,_,A⟩:=List.mem_flatMap.1 C;simp only [extF,List.mem_cons,List.not_mem_nil,or_false] at A;rcases A with rfl | rfl <;> rfl
theorem zsy (l:List Wr):∀ v ∈ l.flatMap wrF,v.oneCell'=true:=λv C=>by
 obtain ⟨x,_,A⟩:=List.mem_flatMap.1 C;simp only [wrF,List.mem_cons,List.not_mem_nil,or_false] at A;rcases A with rfl | rfl | rfl <;> rfl
abbrev extT:tx:=179
abbrev wrT:tx:=183
theorem zjC (v:tu) (l:List Ext) (S:Mem) (I:Sl 2 extF S v l) (U:l.length<=4398046511104) :
  ACall prog 106 #[v] S (OwnR 2 extF extT l S):=by
 obtain ⟨a,cap,rfl,W,V,J⟩:=id I;refine k_E1 8 func106 ?_;cases a
 ·refine r12_ ?_;refine cT_ ?_;obtain rfl:l = []:=J.resolve_right (λ⟨b,off,e,_⟩=>by cases e);refine r7_ ?_;refine ⟨_,S,⟨_,_,rfl,rfl,rfl⟩,zae,?_⟩;exact ⟨none,zbO S,rfl,rfl⟩
 refine r12_ ?_;refine cF_ ?_;refine r4_ ?_;refine uh (zab rfl) zbC ?_;intro Q C;have A:=C
 repeat ((with_reducible replace A:=zaa A);obtain ⟨A,_⟩:=A)
 refine s1_ ?_;refine vJ (n:=2) (o:=some (Q,0)) (k:=0) (m:=l.length) (cs:=[]) (zab rfl) zbC rfl rfl rfl (zbE C (Nat.le_refl _)) (zch (zbE C (Nat.le_refl 0)) rfl) rfl ((I.less zae).src zbd) (zas zbd l) (zfJ l) vd vd ?_;intro o H;rw [Nat.zero_add] at H ⊢;refine r4_ ?_;refine ⟨_,_,⟨_,_,rfl,rfl,rfl⟩,Mem.Less.refl _,?_⟩;exact ⟨o,H,rfl,rfl⟩
theorem zjD (v:tu) (l:List Wr) (S:Mem) (I:Sl 3 wrF S v l) (U:l.length<=3518437208883) :
  ACall prog 107 #[v] S (OwnR 3 wrF wrT l S):=by
 obtain ⟨a,cap,rfl,W,V,J⟩:=id I;refine k_E1 8 func107 ?_;cases a
 ·refine r12_ ?_;refine cT_ ?_;obtain rfl:l = []:=J.resolve_right (λ⟨b,off,e,_⟩=>by cases e);refine r7_ ?_;refine ⟨_,S,⟨_,_,rfl,rfl,rfl⟩,zae,?_⟩;exact ⟨none,zbO S,rfl,rfl⟩
 refine r12_ ?_;refine cF_ ?_;refine r4_ ?_;refine uh (zab rfl) zdW ?_;intro Q C;have A:=C
 repeat ((with_reducible replace A:=zaa A);obtain ⟨A,_⟩:=A)
 refine s1_ ?_;refine vJ (n:=3) (o:=some (Q,0)) (k:=0) (m:=l.length) (cs:=[]) (zab rfl) zdW rfl rfl rfl (zbE C (Nat.le_refl _)) (zch (zbE C (Nat.le_refl 0)) rfl) rfl ((I.less zae).src zcD) (zas zcD l) (zsy l) vd vd ?_;intro o H;rw [Nat.zero_add] at H ⊢;refine r4_ ?_;refine ⟨_,_,⟨_,_,rfl,rfl,rfl⟩,Mem.Less.refl _,?_⟩;exact ⟨o,H,rfl,rfl⟩
theorem zbj {S:Mem} {o:Option (Nat × Nat)} {n:Nat} (h:OkO S o n):∃ a c,outV o n = .slice a n c:=by
 cases o with
 | none=>rw [h.nil rfl];exact ⟨none,0,rfl⟩
 | some q=>exact ⟨_,q.2,rfl⟩
def dkV (d:D) (oE oW:Option (Nat × Nat)):tu:=.agg #[.int .i64 d.size,outV oE d.ext.length,outV oW d.waits.length,.int .i64 d.fuse,.bool d.down]
def dkM (S:Mem) (d:D) (oE oW:Option (Nat × Nat)):Mem:=outN 3 (outN 2 S oE extT (d.ext.flatMap extF)) oW wrT (d.waits.flatMap wrF)
structure OkD (S:Mem) (d:D) (oE oW:Option (Nat × Nat)):Prop where
  e:OkO S oE d.ext.length
  w:OkO (outN 2 S oE extT (d.ext.flatMap extF)) oW d.waits.length
theorem OkD.less {S:Mem} {d:D} {oE oW:Option (Nat × Nat)} (h:OkD S d oE oW):S.Less (dkM S d oE oW):=(zbr h.e).trans (zbr h.w)
theorem OkD.dk {S:Mem} {d:D} {oE oW:Option (Nat × Nat)} (h:OkD S d oE oW) (J:d.ext.length<=9223372036854775807) (Q:d.waits.length<=9223372036854775807):DkR (dkM S d oE oW) (dkV d oE oW) d:=by
 have H:=zc8 zbd (e:=extT) h.e rfl J;have C:=zc8 zcD (e:=wrT) h.w rfl Q;obtain ⟨a,c,e⟩:=zbj h.e;obtain ⟨I,c',A⟩:=zbj h.w;rw [e] at H;rw [A] at C;exact ⟨a,c,I,c',by unfold dkV;rw [e,A],H.less (zbr h.w),C⟩
theorem zkO (v:tu) (d:D) (S:Mem) (hd:DkR S v d) (ac:d.ext.length<=4398046511104) (ad:d.waits.length<=3518437208883) :
  ACall prog 54 #[v] S λr S'=>∃ oE oW,OkD S d oE oW/\r=dkV d oE oW/\S'=dkM S d oE oW:=by
 obtain ⟨pe,ce,pw,cw,rfl,hE,hW⟩:=hd;refine k_E1 12 func54 ?_;refine r2_ ?_;refine k_b5 rfl ?_;intro b1 f1;have g1:=f1
 repeat ((with_reducible replace g1:=zaa g1);obtain ⟨g1,_⟩:=g1)
 refine nl_ ?_;refine ARun.alloc (zab rfl) zaC ?_;intro b2 f2;have Y:=f2
 repeat ((with_reducible replace Y:=zaa Y);obtain ⟨Y,_⟩:=Y)
 refine nl_ ?_;refine r3_ ?_;refine dr_ [i0_,i1_,i3_,i4_,o2_,i6_,o5_,o7_,i8_,o9_] [7,9] ?_;refine r4_ ?_;refine zac rfl ?_;refine ca_ rfl (((zjC _ d.ext S hE ac).frame f1).frame f2) ?_;rintro _ S1 ⟨Sa,⟨M,⟨oE,H,rfl,hM⟩,ag,A⟩,W,U⟩;rw [U,A];rw [A] at W;clear U S1 A Sa;obtain ⟨qe,de,J⟩:=zbj H;rw [J];have X:S.Less M:=by rw [hM];exact zbr H
 have ae:Sl 3 wrF M (.slice pw d.waits.length cw) d.waits:=hW.less X;refine zad ⟨ny_,?_⟩;refine s1_ ?_;refine zac rfl ?_;refine ca_ rfl (((zjD _ d.waits M ae ad).frame ag).frame W) ?_;rintro _ S1 ⟨Sa,⟨M2,⟨oW,I,rfl,Q⟩,ak,A⟩,C,U⟩;rw [U,A];rw [A] at C;clear U S1 A Sa;obtain ⟨av,_⟩:=zaa C;obtain ⟨qw,dw,V⟩:=zbj I;rw [V];have al:S.Less M2:=X.trans (by rw [Q];exact zbr I);refine zad ⟨ny_,?_⟩;refine zac rfl ?_;refine s1_ ?_;refine zad ⟨nz_,?_⟩;refine s1_ ?_;refine zac rfl ?_;refine s1_ ?_;refine zad ⟨nz_,?_⟩;refine r9_ ?_;refine ⟨_,M2,⟨_,_,_,rfl,.inr ⟨zax,[_,_,_,_,_],zar,rds_,rfl⟩,rfl,rfl⟩,zae,?_⟩;exact ⟨oE,oW,⟨H,by rw [<- hM];exact I⟩,by unfold dkV;rw [J,V];rfl,by rw [Q,hM];rfl⟩
def DkRes (p:D × Int) (S:Mem) (r:tu) (S':Mem):Prop:=∃ v,r = .tuple #[v,.int .i64 p.2]/\S.Less S'/\DkR S' v p.1
theorem zkP (S:Mem):DkR S (.agg #[.int .i64 0,.slice none 0 0,.slice none 0 0,.int .i64 0,.bool false]) D0:=⟨none,0,none,0,rfl,Sl.nil _ _ _,Sl.nil _ _ _⟩
def makeD (n:Int):D × Int:=if n<0\/16384<n then (D0,1) else (⟨n,[],[],-1,false⟩,0)
theorem znw (n:Int) (S:Mem):ACall prog 6 #[.int .i64 n] S (DkRes (makeD n) S):=by
 unfold makeD;by_cases J:n<0
 ·rw [if_pos (.inl J)];refine k_E1 13 func6 ?_;refine r2_ ?_;refine ARun.alloc (zab rfl) zaC ?_;intro H C;have A:=C
  repeat ((with_reducible replace A:=zaa A);obtain ⟨A,_⟩:=A)
  refine nl_ ?_;refine r14_ ?_;refine cT_ ?_;refine r9_ ?_;refine ⟨_,S,⟨_,_,_,rfl,.inr ⟨zax,[_,_,_,_,_],zar,rds_,rfl⟩,⟨_,_,rfl,rfl,rfl⟩,rfl⟩,zae,?_⟩;exact ⟨_,rfl,Mem.Less.refl _,zkP S⟩
 by_cases I:16384<n
 ·rw [if_pos (.inr I)];refine k_E1 13 func6 ?_;refine r2_ ?_;refine ARun.alloc (zab rfl) zaC ?_;intro H C;have A:=C
  repeat ((with_reducible replace A:=zaa A);obtain ⟨A,_⟩:=A)
  refine nl_ ?_;refine r14_ ?_;refine cT_ ?_;refine r9_ ?_;refine ⟨_,S,⟨_,_,_,rfl,.inr ⟨zax,[_,_,_,_,_],zar,rds_,rfl⟩,⟨_,_,rfl,rfl,rfl⟩,rfl⟩,zae,?_⟩;exact ⟨_,rfl,Mem.Less.refl _,zkP S⟩
 rw [if_neg vd];refine k_E1 13 func6 ?_;refine r2_ ?_;refine ARun.alloc (zab rfl) zaC ?_;intro H C;have A:=C
 repeat ((with_reducible replace A:=zaa A);obtain ⟨A,_⟩:=A)
 refine nl_ ?_;refine r14_ ?_;refine kw_ [0,2,3,9] ?_;refine cF_ ?_;refine r11_ ?_;refine ⟨_,S,⟨_,_,_,rfl,.inr ⟨zax,[_,_,_,_,_],zar,rds_,rfl⟩,⟨_,_,rfl,rfl,rfl⟩,rfl⟩,zae,?_⟩;exact ⟨_,rfl,Mem.Less.refl _,none,0,none,0,rfl,Sl.nil _ _ _,Sl.nil _ _ _⟩
def devM (S:Mem) (p:Nat) (d:D) (oE oW:Option (Nat × Nat)):Mem:=(dkM S d oE oW).set p ⟨107,[.int .i64 d.size,outV oE d.ext.length,outV oW d.waits.length,.int .i64 d.fuse,.bool d.down],5⟩
structure OkV (S:Mem) (p:Nat) (d:D) (oE oW:Option (Nat × Nat)):Prop where
  dk:OkD S d oE oW
  fr:Fresh (dkM S d oE oW) p
noncomputable def openD (d:D):D × Int:=if chkD d=0 then (d,if d.down=true then 10 else 0) else (D0,2)
def OpenR (p:D × Int) (S:Mem) (r:tu) (S':Mem):Prop:=∃ b oE oW,OkV S b p.1 oE oW/\r = .tuple #[.pointer (some ⟨b,0,none⟩),.int .i64 p.2]/\S'=devM S b p.1 oE oW
theorem zd1 (v:tu) (d:D) (S:Mem) (hd:DkR S v d) (hz:Dz d) :
  ACall prog 43 #[v] S (OpenR (openD d) S):=by
 have A:=λM h=>zlX v d M h hz;have ad:=λM h=>zkO v d M h hz.el hz.wl;obtain ⟨pe,ce,pw,cw,rfl,hE,hW⟩:=id hd;unfold openD;rcases znh d with ⟨X,hR⟩ | ⟨X,hR⟩
 ·rw [if_pos X];refine k_E1 21 func43 ?_;refine r2_ ?_;refine k_b5 rfl ?_;intro b1 f1;have Q:=f1
  repeat ((with_reducible replace Q:=zaa Q);obtain ⟨Q,_⟩:=Q)
  refine nl_ ?_;refine r8_ ?_;refine ca_ rfl (A _ (hd.less zae)) ?_;rintro _ S1 ⟨rfl,U⟩;rw [U,X];clear U S1;refine r9_ ?_;refine cF_ ?_;refine r5_ ?_;refine ca_ rfl ((ad S hd).frame f1) ?_;rintro _ S1 ⟨M,⟨oE,oW,H,rfl,Y⟩,ac,U⟩;rw [U];clear U S1;have al:S.Less M:=by rw [Y];exact H.less
  unfold dkV;obtain ⟨qe,de,V⟩:=zbj H.e;obtain ⟨qw,dw,W⟩:=zbj H.w;rw [V,W];refine s1_ ?_;refine k_b5 rfl ?_;intro J ah;have C:=ah
  repeat ((with_reducible replace C:=zaa C);obtain ⟨C,_⟩:=C)
  refine nl_ ?_;refine r10_ ?_;refine vp rfl (λhb=>?_) (λhb=>?_)
  ·refine r7_ ?_;refine kw_ [0,1,2,3,4,9,5,18] ?_;refine r2_ ?_;refine ⟨_,M.set J _,⟨_,_,rfl,⟨_,_,rfl,rfl,rfl⟩,rfl⟩,Less.set (vh _ _ _ ac.1) _ _,?_⟩;exact ⟨J,oE,oW,⟨H,by rw [<- Y];exact C⟩,by rw [if_pos hb];rfl,by unfold devM;rw [V,W,<- Y]⟩
  refine r9_ ?_;refine s1_ ?_;refine ⟨_,M.set J _,⟨_,_,rfl,⟨_,_,rfl,rfl,rfl⟩,rfl⟩,Less.set (vh _ _ _ ac.1) _ _,?_⟩;exact ⟨J,oE,oW,⟨H,by rw [<- Y];exact C⟩,by rw [if_neg (Bool.eq_false_iff.1 hb)];rfl,by unfold devM;rw [V,W,<- Y]⟩
 rw [if_neg (by rw [X];decide)];refine k_E1 21 func43 ?_;refine r2_ ?_;refine k_b5 rfl ?_;intro b1 f1;have Q:=f1
 repeat ((with_reducible replace Q:=zaa Q);obtain ⟨Q,_⟩:=Q)
 refine nl_ ?_;refine r8_ ?_;refine ca_ rfl (A _ (hd.less zae)) ?_;rintro _ S1 ⟨rfl,U⟩;rw [U,X];clear U S1;refine r9_ ?_;refine cT_ ?_;refine r3_ ?_;refine k_b5 rfl ?_;intro aa ag;have I:=ag
 repeat ((with_reducible replace I:=zaa I);obtain ⟨I,_⟩:=I)
 refine nl_ ?_;refine r7_ ?_;refine ⟨_,S.set aa _,⟨_,_,rfl,⟨_,_,rfl,rfl,rfl⟩,rfl⟩,Less.set (vh _ _ _ f1.1) _ _,?_⟩;exact ⟨aa,none,none,⟨⟨zbO _,zbO _⟩,I⟩,rfl,rfl⟩
def RdV (M:Mem) (p:Nat) (d:D):Prop:=∃ qe de qw dw,M.own p=some ⟨107,[.int .i64 d.size,.slice qe d.ext.length de,.slice qw d.waits.length dw,.int .i64 d.fuse,.bool d.down],5⟩/\Sl 2 extF M (.slice qe d.ext.length de) d.ext/\Sl 3 wrF M (.slice qw d.waits.length dw) d.waits
theorem RdV.less {M C:Mem} {p:Nat} {d:D} (h:RdV M p d) (A:M.Less C):RdV C p d:=by
 obtain ⟨J,U,qw,Q,V,I,H⟩:=h;exact ⟨J,U,qw,Q,A.own V,I.less A,H.less A⟩
theorem OkV.rd {S:Mem} {p:Nat} {d:D} {oE oW:Option (Nat × Nat)} (h:OkV S p d oE oW) (Q:d.ext.length<=9223372036854775807) (U:d.waits.length<=9223372036854775807):RdV (devM S p d oE oW) p d:=by
 obtain ⟨a,c,e⟩:=zbj h.dk.e;obtain ⟨J,c',C⟩:=zbj h.dk.w;have I:=zc8 zbd (e:=extT) h.dk.e rfl Q;have A:=zc8 zcD (e:=wrT) h.dk.w rfl U;rw [e] at I;rw [C] at A;have H:(dkM S d oE oW).Less (devM S p d oE oW):=vh _ _ _ h.fr.1;refine ⟨a,c,J,c',?_,(I.less (zbr h.dk.w)).less H,A.less H⟩;unfold devM;rw [e,C];exact vf _ _ _
theorem OkV.less {S:Mem} {p:Nat} {d:D} {oE oW:Option (Nat × Nat)} (h:OkV S p d oE oW):S.Less (devM S p d oE oW):=h.dk.less.trans (vh _ _ _ h.fr.1)
theorem zbl {d:D} (h:Right d):d.ext.length<=16384/\used d.ext<=16384:=by
 have C:=zng h.ex.ok;have H:=h.ex.us;have A:=h.s1;omega
theorem zcE {d:D} (h:Right d) {x:Ext} (A:x ∈ d.ext):sec x<=16384/\x.2.size=64*sec x/\1<=sec x:=by
 have H:=zkJ A;have I:=zbl h;have C:=zc9 (h.ex.ok x A);omega
theorem zcV (d:D):(openD d=(D0,2) /\ ¬ Right d)\/(openD d=(d,10)/\Right d/\d.down=true)\/(openD d=(d,0)/\Right d/\d.down=false):=by
 unfold openD;rcases znh d with ⟨C,A⟩ | ⟨C,A⟩
 ·right;rw [if_pos C];cases H:d.down with
  | true=>left;exact ⟨rfl,A,rfl⟩
  | false=>right;exact ⟨rfl,A,rfl⟩
 left;rw [if_neg (by rw [C];decide)];exact ⟨rfl,A⟩
theorem znx {l:List Ext} {i:Nat} (h:i<l.length):used (l.take (i+1))=used (l.take i)+sec l[i]:=by rw [zb4 h,za_];simp [used]
theorem zik (l:List Ext) (i:Nat):used (l.take i)<=used l:=by
 have:=za_ (l.take i) (l.drop i);rw [List.take_append_drop] at this;omega
theorem zkQ (p:Nat) (d:D) (M:Mem) (h:RdV M p d) (C:Right d):ACall prog 98 #[.pointer (some ⟨p,0,none⟩)] M λr S'=>r = .int .i64 (d.size-used d.ext)/\S'=M:=by
 obtain ⟨V,de,qw,dw,Q,hE,hW⟩:=h;obtain ⟨_,_,I,W,ai,J⟩:=id hE;cases I;have aa:=zbl C;have ag:=C.s0;have aj:=C.s1
 refine k_E1 27 func98 ?_;refine r28_ ?_;refine AWP.loop (X:=Nat) (λx=>[(3,.int .i64 (d.size-used (d.ext.take x))),(15,.slice V d.ext.length de),(16,.int .i64 d.ext.length),(17,.int .i64 x)]) (λx=>M) (λx=>x<=d.ext.length) (λx=>d.ext.length-x) (0) ⟨zan (by simp [used]),rfl,rfl,rfl,trivial⟩ (Mem.Less.refl _) (Nat.zero_le _) ?_;rintro i hi;(try dsimp only at *);refine r6_ ?_;refine vp rfl (λhc=>?_) (λhc=>?_)
 ·have hc:i<d.ext.length:=by have:=of_decide_eq_true hc;omega
  obtain ⟨b,off,rfl,Y⟩:=J.resolve_left (λe=>by rw [e] at hc;simp at hc);have H:=Y i hc;have U:=znx hc;have af:=zik d.ext (i+1);have ad:=zcE C (List.getElem_mem hc);generalize d.ext[i]=x at *;unfold extF at H;refine r8_ ?_;refine ARun.alloc (zab rfl) zbH ?_;intro b5 f5;have A:=f5
  repeat ((with_reducible replace A:=zaa A);obtain ⟨A,_⟩:=A)
  have:=A.ne Q;have:=A.ne' Q
  refine nl_ ?_;refine r6_ ?_;refine cp_ rfl (zbt x _ vd) ?_;refine r10_ ?_;refine ⟨i+1,?_,?_,?_,?_⟩<;>try dsimp only
  ·exact ⟨zan vd,rfl,rfl,rfl,trivial⟩
  ·exact zae
  ·exact hc
  omega
 have hc:i=d.ext.length:=by have:=of_decide_eq_false hc;omega
 subst hc;rw [List.take_length];refine r11_ ?_;refine kw_ [3,15,16,17,18,2] ?_;refine s1_ ?_;refine ⟨_,M,⟨_,_,rfl,rfl,rfl⟩,zae,?_⟩;exact ⟨rfl,rfl⟩
noncomputable def roomD (d:D):Int × Int:=if (openD d).2≠0 then (0,(openD d).2) else (d.size-used d.ext,0)
def exOf (l:List Ext) (s:tt):Ext:=l.getD (pos l s) (ByteArray.empty,ByteArray.empty)
theorem zjE {l:List Ext} {s:tt} (h:pos l s<l.length):exOf l s=l[pos l s]:=by simp [exOf,List.getD,List.getElem?_eq_getElem h]
noncomputable def sectorsD (d:D) (s:tt):Int × Int:=if (openD d).2≠0 then (0,(openD d).2) else if has d.ext s=true then ((sec (exOf d.ext s):Nat),0) else (0,3)
def placeD (d:D) (s:tt) (k:Int):Nat × Int:=if has d.ext s=true then (if k<0\/(sec (exOf d.ext s):Int)<=k then (0,1) else (pos d.ext s,0)) else (0,3)
theorem zil (p:Nat) (d:D) (s:tt) (i:Int) (M:Mem) (h:RdV M p d) (Q:Right d):ACall prog 101 #[.pointer (some ⟨p,0,none⟩),.string s,.int .i64 i] M λr S'=>r = .tuple #[.int .i64 ((placeD d s i).1:Nat),.int .i64 (placeD d s i).2]/\S'=M:=by
 obtain ⟨qe,de,qw,dw,hp,J,ah⟩:=h;have U:=zex Q.ex.asc s;unfold placeD;by_cases q:has d.ext s=true
 ·obtain ⟨H,he⟩:=U.1 q;have af:=zcE Q (List.getElem_mem H);have C:=zbA _ d.ext s M J Q.ex.asc (Nat.le_trans (zbl Q).1 (by decide));rw [if_pos q,zjE H];obtain ⟨_,_,W,Y,ag,X⟩:=id J;cases W;obtain ⟨b,off,rfl,hk⟩:=X.resolve_left (λe=>by rw [e] at H;simp at H);have V:=hk _ H;generalize ad:pos d.ext s=k at *;generalize d.ext[k]=x at *;unfold extF at V;by_cases q1:i<0
  ·rw [if_pos (.inl q1)];refine k_E3 40 func101 ?_;refine r14_ ?_;refine ca_ rfl (C) ?_;rintro _ I ⟨rfl,A⟩;rw [A,q];clear A I;refine r16_ ?_;refine cF_ ?_;refine r20_ ?_;refine cT_ ?_;refine r9_ ?_;refine ⟨_,M,⟨_,_,rfl,⟨_,_,rfl,rfl,rfl⟩,rfl⟩,zae,?_⟩;exact ⟨rfl,rfl⟩
  by_cases q2:(sec x:Int)<=i
  ·rw [if_pos (.inr q2)];refine k_E3 40 func101 ?_;refine r14_ ?_;refine ca_ rfl (C) ?_;rintro _ I ⟨rfl,A⟩;rw [A,q];clear A I;refine r16_ ?_;refine kw_ [0,1,2,6,7,8,9,20] ?_;refine cF_ ?_;refine r14_ ?_;refine vv 2 false 26 rfl (zab rfl) rfl (zab rfl) zgz rfl (zbt x _ vd) ?_;rintro _ I ⟨rfl,A⟩;rw [A];clear A I;refine r5_ ?_;refine cT_ ?_;refine r9_ ?_;refine ⟨_,M,⟨_,_,rfl,⟨_,_,rfl,rfl,rfl⟩,rfl⟩,zae,?_⟩;exact ⟨rfl,rfl⟩
  rw [if_neg vd];refine k_E3 40 func101 ?_;refine r14_ ?_;refine ca_ rfl (C) ?_;rintro _ I ⟨rfl,A⟩;rw [A,q];clear A I;refine r16_ ?_;refine cF_ ?_;refine r14_ ?_;refine vv 2 false 26 rfl (zab rfl) rfl (zab rfl) zgz rfl (zbt x _ vd) ?_;rintro _ I ⟨rfl,A⟩;rw [A];clear A I;refine r5_ ?_;refine cF_ ?_;refine r10_ ?_;refine kw_ [0,1,2,6,7,8,9,20,23] ?_;refine s1_ ?_;refine ⟨_,M,⟨_,_,rfl,⟨_,_,rfl,rfl,rfl⟩,rfl⟩,zae,?_⟩;exact ⟨rfl,rfl⟩
 rw [if_neg q];refine k_E3 40 func101 ?_;refine r14_ ?_;refine ca_ rfl (zbA _ d.ext s _ J Q.ex.asc (Nat.le_trans (zbl Q).1 (by decide))) ?_;rintro _ I ⟨rfl,A⟩;rw [A,Bool.eq_false_iff.2 q];clear A I;refine r16_ ?_;refine cT_ ?_;refine r9_ ?_;refine ⟨_,M,⟨_,_,rfl,⟨_,_,rfl,rfl,rfl⟩,rfl⟩,zae,?_⟩;exact ⟨rfl,rfl⟩
theorem zjF {A Y X B:List tu} {k:Nat} (H:A.length=k) (C:Y.length=X.length):spl (A ++ (Y ++ B)) k X=A ++ (X ++ B):=by
 subst H;unfold spl;rw [List.take_left,<- List.drop_drop,List.drop_left,<- C,List.drop_left,List.append_assoc]
theorem zny {A Y X:List tu} {k:Nat} (C:A.length=k) (H:Y.length<=X.length):spl (A ++ Y) k X=A ++ X:=by
 subst C;unfold spl;rw [List.take_left,List.drop_of_length_le (by rw [List.length_append];omega),List.append_nil]
theorem zfK {α : Type} {n:Nat} {f : α->List tu} (l:List α) (i:Nat):l.flatMap f=(l.take i).flatMap f ++ (l.drop i).flatMap f:=by
 rw [<- List.flatMap_append,List.take_append_drop]
theorem zlY {A D X:List tu} {i:Nat} (C:A.length=i*2) (H:X.length=2) (I:2<=D.length):spl (spl (A ++ D) (0+(i+1)*2) D) (0+i*2) X=A ++ (X ++ D):=by
 have e:spl (A ++ D) (0+(i+1)*2) D=A ++ (D.take 2 ++ D):=by
  have e1:A ++ D=(A ++ D.take 2) ++ D.drop 2:=by rw [List.append_assoc,List.take_append_drop]
  rw [e1,zny (by simp [C];omega) (by simp),List.append_assoc]
 rw [e];exact zjF vd (by simp [H];omega)
theorem zlZ {A D X zs:List tu} {i:Nat} (H:A.length=i*2) (C:X.length=2) (I:zs.length=2+D.length):spl (spl (A ++ zs) (0+i*2) X) (0+(i+1)*2) D=A ++ (X ++ D):=by
 have e:spl (A ++ zs) (0+i*2) X=(A ++ X) ++ zs.drop 2:=by
  have e1:A ++ zs=A ++ (zs.take 2 ++ zs.drop 2):=by rw [List.take_append_drop]
  rw [e1,zjF vd (by simp [C];omega),List.append_assoc]
 rw [e,zny (by simp [H,C];omega) (by simp;omega),List.append_assoc]
def insAt (l:List Ext) (i:Nat) (x:Ext):List Ext:=l.take i ++ x :: l.drop i
theorem zkR (l:List Ext) (i:Nat) (x:Ext):(insAt l i x).flatMap extF=(l.take i).flatMap extF ++ (extF x ++ (l.drop i).flatMap extF):=by
 unfold insAt;rw [List.flatMap_append,List.flatMap_cons]
theorem znz {l:List Ext} {i:Nat} (h:i<=l.length) (x:Ext):(insAt l i x).length=l.length+1:=by
 unfold insAt;simp;omega
theorem ztr (B:Mem) (o:Option (Nat × Nat)) (l:List Ext) (i:Nat) (x:Ext) (t:Nat) (Q:OkO B o l.length) (ht:Fresh (outN 2 B o extT (l.flatMap extF)) t) (hi:i<=l.length) (ao:l.length<=16384) :
  ACall prog 99 #[outV o l.length,.int .i64 (i:Int),.slice (some ⟨t,0,none⟩) 1 1] ((outN 2 B o extT (l.flatMap extF)).set t ⟨extT,extF x,2⟩) λr S'=>∃ o',OkO B o' (l.length+1)/\r=outV o' (l.length+1)/\S'=outN 2 B o' extT ((insAt l i x).flatMap extF):=by
 have C:=zas zbd l;have I:∀ v ∈ extF x,v.oneCell'=true:=λv hv=>zfJ [x] v (by simpa using hv);have J:AppN 2 ((outN 2 B o extT (l.flatMap extF)).set t ⟨extT,extF x,2⟩) B o extT (l.flatMap extF):=(zch Q C).temp ht;by_cases aj:i=l.length
 ·subst aj;have he:(insAt l l.length x).flatMap extF=l.flatMap extF ++ extF x:=by rw [zkR];simp
  rw [he];cases o with
  | none =>
   obtain rfl:l = []:=List.eq_nil_of_length_eq_zero (Q.nil rfl);refine k_E3 95 func99 ?_;refine r26_ ?_;refine cF_ ?_;refine r17_ ?_;refine kw_ [0,1,2,6,7,16,8,22] ?_;refine cT_ ?_;refine r4_ ?_;refine vJ (n:=2) (o:=none) (k:=0) (m:=1) (cs:=[]) (zab rfl) zbC rfl rfl C Q J rfl (zfy (vf _ _ _) List.prefix_rfl) rfl I vd vd ?_;intro o' V;refine r5_ ?_;refine ⟨_,_,⟨_,_,rfl,rfl,rfl⟩,Mem.Less.refl _,?_⟩;exact ⟨o',V,rfl,rfl⟩
  | some q =>
   obtain ⟨b,c⟩:=q;have hc:=(Q.own b c rfl).2;refine k_E3 95 func99 ?_;refine r26_ ?_;refine cF_ ?_;refine r9_ ?_;refine kw_ [0,1,2,6,7,16,8] ?_;refine r8_ ?_;refine cT_ ?_;refine r4_ ?_;refine vJ (n:=2) (o:=some (b,c)) (k:=l.length) (m:=1) (cs:=l.flatMap extF) (zab rfl) zbC rfl rfl C Q J rfl (zfy (vf _ _ _) List.prefix_rfl) rfl I vd vd ?_;intro o' V;refine r5_ ?_;refine ⟨_,_,⟨_,_,rfl,rfl,rfl⟩,Mem.Less.refl _,?_⟩;exact ⟨o',V,rfl,rfl⟩
 obtain ⟨⟨b,c⟩,rfl⟩ : ∃ q,o=some q:=by
  cases o with
  | none=>have:=Q.nil rfl;omega
  | some q=>exact ⟨q,rfl⟩
 have hc:=(Q.own b c rfl).2;have ak:=(Q.own b c rfl).1;obtain ⟨ax,am⟩:=zaa ht;have hA:=zas zbd (l.take i);have U:=zas zbd (l.drop i);rw [List.length_take,Nat.min_eq_left hi] at hA;rw [List.length_drop] at U;have A:=zfK (n:=2) (f:=extF) l i;have ai:(spl (l.flatMap extF) (0+(i+1)*2) ((l.drop i).flatMap extF)).length=l.length*2+2:=by
  unfold spl;simp only [List.length_append,List.length_take,List.length_drop,C,U];omega
 rw [zkR];dsimp only [outN,outV];by_cases W:l.length+1<=c
 ·skip
  refine k_E3 95 func99 ?_;refine r26_ ?_;refine kw_ [0,1,2,6,7,16] ?_;refine cF_ ?_;refine r17_ ?_;refine cF_ ?_;refine r9_ ?_;refine rC (Calm.cap underlying28 rfl) ?_;refine r3_ ?_;refine cF_ ?_;refine r8_ ?_;refine rC (vM (l.length+1) underlying28 zay rfl rfl vd vd) ?_;refine r11_ ?_;refine rC (vE (i+1) underlying28 zay rfl rfl vd vd vd) ?_;refine uE (T:=28) (tR:=4) (zab rfl) func153 rfl rfl rfl rfl underlying28 zay rfl (vf _ _ _) (Nat.ne_of_beq_eq_false rfl) (show 0<2 from by decide) own_ (by simp only [C];omega) am ?_;refine r3_ ?_;refine kw_ [0,1,2,6,7,16,8,22,31,68] ?_;refine cT_ ?_;refine s1_ ?_;refine dr_ [i0_,i1_,i2_,i3_,i4_,i5_,i6_,i7_,o8_] [8] ?_;refine r4_ ?_;refine dP (hc:=λ_=>vE (i+1) underlying28 zay rfl rfl vd vd vd) (h:=?_);refine r2_ ?_;refine dP (hc:=λ_=>vE (i) underlying28 zay rfl rfl vd vd vd) (h:=?_);refine zac rfl ?_;refine vU (n:=2) (q:=l.length-i) (news:=(l.drop i).flatMap extF) (zab rfl) zbC rfl own_ (by simp only [C];omega) rfl vd (vA (r:=⟨extT,l.flatMap extF,c*2⟩) own_ _ _ (λj v X=>by simp only;rw [A,List.getElem?_append_right vd,<- X];congr 1;omega)) U (zfJ _) (.inr (by simp only [U];omega)) ?_;refine zad ⟨nz_,?_⟩;refine r6_ ?_;refine rC (vE (i) underlying28 zay rfl rfl vd vd vd) ?_;refine s1_ ?_;refine vU (n:=2) (q:=1) (news:=extF x) (zab rfl) zbC rfl own_ (by simp only [ai];omega) rfl vd (vA (r:=⟨extT,extF x,2⟩) own_ 0 _ (λj v X=>by rw [Nat.zero_add];exact X)) rfl I (.inr (by simp only [zbd];omega)) ?_;refine r10_ ?_;refine ⟨_,B.set b ⟨extT,spl (spl (l.flatMap extF) (0+(i+1)*2) ((l.drop i).flatMap extF)) (0+i*2) (extF x),c*2⟩,⟨_,_,rfl,rfl,rfl⟩,zae,?_⟩;exact ⟨some (b,c),zbE ak W,rfl,by rw [A,zlY hA rfl (by rw [U];omega)]⟩
 skip
 refine k_E3 95 func99 ?_;refine r19_ ?_;refine kw_ [0,1,2,6,7] ?_;refine r7_ ?_;refine cF_ ?_;refine r17_ ?_;refine cF_ ?_;refine r9_ ?_;refine rC (Calm.cap underlying28 rfl) ?_;refine r3_ ?_;refine cT_ ?_;refine r4_ ?_;refine rC (vM (i) underlying28 zay rfl rfl vd vd) ?_;refine r5_ ?_;refine uB (k:=i) (m:=l.length+1-i) (xs:=(l.take i).flatMap extF) (c:=c) (zab rfl) zbC rfl underlying3 rfl hA ((zgr (r:=⟨extT,l.flatMap extF,c*2⟩) own_ (by rw [A];exact List.prefix_append _ _)).knows) (congrArg some (congrArg (Value.int .i64) vd)) vd vd vd ?_;intro b' c' zs ac au ae;obtain ⟨ah,af⟩:=zaa ac;obtain ⟨ad,aa⟩:=zaa ah;have an:=Ne.symm aa;have al:=Ne.symm af;have H:(((l.take i).flatMap extF) ++ zs).length=l.length*2+2:=by simp only [List.length_append,hA,ae];omega
 refine r3_ ?_;refine kw_ [0,1,2,6,7,16,8,22,31,9] ?_;refine r4_ ?_;refine rC (vE (i) underlying28 zay rfl rfl vd vd vd) ?_;refine s1_ ?_;refine vU (n:=2) (q:=1) (news:=extF x) (zab rfl) zbC rfl (vf _ _ _) (by simp only [H];omega) rfl vd (vA (r:=⟨extT,extF x,2⟩) own_ 0 _ (λj v X=>by rw [Nat.zero_add];exact X)) rfl I (.inl (by simp only [H,zbd];omega)) ?_;have Y:(spl ((l.take i).flatMap extF ++ zs) (0+i*2) (extF x)).length=l.length*2+2:=by rw [zer _ _ _ (by simp only [H,zbd];omega),H]
 refine r3_ ?_;refine dr_ [i0_,i1_,i2_,i3_,i4_,i5_,i6_,i7_,o8_] [8] ?_;refine r4_ ?_;refine dP (hc:=λ_=>vE (i+1) underlying28 zay rfl rfl vd vd vd) (h:=?_);refine r2_ ?_;refine dP (hc:=λ_=>vE (i) underlying28 zay rfl rfl vd vd vd) (h:=?_);refine zac rfl ?_;refine vU (n:=2) (q:=l.length-i) (news:=(l.drop i).flatMap extF) (zab rfl) zbC rfl (vf _ _ _) (by simp only [Y];omega) rfl vd (vA (r:=⟨extT,l.flatMap extF,c*2⟩) own_ _ _ (λj v X=>by simp only;rw [A,List.getElem?_append_right vd,<- X];congr 1;omega)) U (zfJ _) (.inl (by simp only [Y,U];omega)) ?_;refine zad ⟨nz_,?_⟩;refine r10_ ?_;refine ⟨_,B.set b' ⟨extT,spl (spl ((l.take i).flatMap extF ++ zs) (0+i*2) (extF x)) (0+(i+1)*2) ((l.drop i).flatMap extF),c'*2⟩,⟨_,_,rfl,rfl,rfl⟩,zae,?_⟩;exact ⟨some (b',c'),zbE ad vd,congrArg (λn=>Value.slice (some ⟨b',0,none⟩) n c') vd,by rw [zlZ hA rfl (by rw [U,ae];omega)]⟩
theorem zbD {n:Nat} {S:Mem} {o:Option (Nat × Nat)} {e:tx} {cs:List tu} {b:Nat} {r:Blk} (h:∀ q c,o=some (q,c)->q≠b):outN n (S.set b r) o e cs=(outN n S o e cs).set b r:=by
 cases o with
 | none=>rfl
 | some q=>exact vC _ _ _ (Ne.symm (h _ _ rfl))
theorem zim {n m:Nat} {S:Mem} {o o':Option (Nat × Nat)} {e C:tx} {cs cs':List tu} (h:∀ q c A c',o=some (q,c)->o'=some (A,c')->q≠A):outN n (outN m S o' C cs') o e cs=outN m (outN n S o e cs) o' C cs':=by
 cases o with
 | none=>rfl
 | some q =>
  cases o' with
  | none=>rfl
  | some A=>exact vC _ _ _ (Ne.symm (h _ _ _ _ rfl rfl))
theorem zda {n:Nat} {S:Mem} {o:Option (Nat × Nat)} {e:tx} {cs:List tu} {b:Nat} {r:Blk} (A:S.own b=some r) (h:∀ q c,o=some (q,c)->q≠b):(outN n S o e cs).own b=some r:=by
 cases o with
 | none=>exact A
 | some q=>exact (vg _ _ (Ne.symm (h _ _ rfl))).trans A
theorem zbv {n:Nat} {S:Mem} {o:Option (Nat × Nat)} {e:tx} {cs:List tu} {b:Nat} (A:Fresh S b) (h:∀ q c,o=some (q,c)->q≠b):Fresh (outN n S o e cs) b:=by
 cases o with
 | none=>exact A
 | some q=>exact zam A (Ne.symm (h _ _ rfl))
def devB (d:D) (oE oW:Option (Nat × Nat)):Blk:=⟨107,[.int .i64 d.size,outV oE d.ext.length,outV oW d.waits.length,.int .i64 d.fuse,.bool d.down],5⟩
theorem zcw (S:Mem) (p:Nat) (d:D) (oE oW:Option (Nat × Nat)):devM S p d oE oW=(outN 3 (outN 2 S oE extT (d.ext.flatMap extF)) oW wrT (d.waits.flatMap wrF)).set p (devB d oE oW):=rfl
structure Apart (S:Mem) (p:Nat) (oE oW:Option (Nat × Nat)):Prop where
  e:∀ b c,oE=some (b,c)->Fresh S b/\b≠p
  w:∀ b c,oW=some (b,c)->Fresh S b/\b≠p
  ew:∀ b c b' c',oE=some (b,c)->oW=some (b',c')->b≠b'
  p:Fresh S p
structure Fits (d:D) (oE oW:Option (Nat × Nat)):Prop where
  e0:oE=none->d.ext.length=0
  w0:oW=none->d.waits.length=0
  e:∀ b c,oE=some (b,c)->d.ext.length<=c
  w:∀ b c,oW=some (b,c)->d.waits.length<=c
theorem OkV.apart {S:Mem} {p:Nat} {d:D} {oE oW:Option (Nat × Nat)} (h:OkV S p d oE oW):Apart S p oE oW:=by
 obtain ⟨J,H⟩:=zaN h.fr;obtain ⟨A,I⟩:=zaN J;exact ⟨λb c e=>⟨(h.dk.e.own b c e).1,Ne.symm (I b c e)⟩,λb c e=>⟨(zaN (h.dk.w.own b c e).1).1,Ne.symm (H b c e)⟩,λb c b' c' e C=>Ne.symm ((zaN (h.dk.w.own b' c' C).1).2 b c e),A⟩
theorem OkV.fits {S:Mem} {p:Nat} {d:D} {oE oW:Option (Nat × Nat)} (h:OkV S p d oE oW):Fits d oE oW:=⟨h.dk.e.nil,h.dk.w.nil,λb c e=>(h.dk.e.own b c e).2,λb c e=>(h.dk.w.own b c e).2⟩
theorem zgB {S:Mem} {p:Nat} {d:D} {oE oW:Option (Nat × Nat)} (h:Apart S p oE oW) (f:Fits d oE oW):OkV S p d oE oW :=
 ⟨⟨⟨f.e0,λb c e=>⟨(h.e b c e).1,f.e b c e⟩⟩,⟨f.w0,λb c e=>⟨zbv (h.w b c e).1 (λq c' A=>h.ew q c' b c A e),f.w b c e⟩⟩⟩,zbv (zbv h.p (λq c e=>(h.e q c e).2)) (λq c e=>(h.w q c e).2)⟩
def baseE (S:Mem) (p:Nat) (d:D) (oW:Option (Nat × Nat)) (r:Blk):Mem:=(outN 3 S oW wrT (d.waits.flatMap wrF)).set p r
theorem zin {S:Mem} {p:Nat} {d:D} {oE oW:Option (Nat × Nat)} (h:Apart S p oE oW) (r:Blk):outN 2 (baseE S p d oW r) oE extT (d.ext.flatMap extF)=(outN 3 (outN 2 S oE extT (d.ext.flatMap extF)) oW wrT (d.waits.flatMap wrF)).set p r:=by
 unfold baseE;rw [zbD (λq c e=>(h.e q c e).2),zim (λq c C c' e A=>h.ew q c C c' e A)]
theorem zio {S:Mem} {p:Nat} {d:D} {oE oW:Option (Nat × Nat)} (h:Apart S p oE oW) (f:Fits d oE oW) (r:Blk):OkO (baseE S p d oW r) oE d.ext.length :=
 ⟨f.e0,λb c e=>⟨zam (zbv (h.e b c e).1 (λq c' A=>Ne.symm (h.ew b c q c' e A))) (h.e b c e).2,f.e b c e⟩⟩
theorem zjG {S:Mem} {p:Nat} {d:D} {oE A oW:Option (Nat × Nat)} {r:Blk} {k:Nat} (h:Apart S p oE oW) (h':OkO (baseE S p d oW r) A k):Apart S p A oW :=
 ⟨λb c e=>by
  obtain ⟨C,H⟩:=zaa (h'.own b c e).1;exact ⟨(zaN C).1,H⟩,h.w,λb c b' c' e I=>by
  obtain ⟨C,H⟩:=zaa (h'.own b c e).1;exact (zaN C).2 b' c' I,h.p⟩
theorem zsz {S:Mem} {p:Nat} {d d':D} {oE A oW:Option (Nat × Nat)} {r:Blk} {k:Nat} (f:Fits d oE oW) (h':OkO (baseE S p d oW r) A k) (H:d'.ext.length=k) (C:d'.waits=d.waits):Fits d' A oW :=
 ⟨λe=>by rw [H];exact h'.nil e,λe=>by rw [C];exact f.w0 e,λb c e=>by rw [H];exact (h'.own b c e).2,λb c e=>by rw [C];exact f.w b c e⟩
theorem znA {S:Mem} {p:Nat} {d d':D} {oE A oW:Option (Nat × Nat)} {r:Blk} {k:Nat} (h:Apart S p oE oW) (h':OkO (baseE S p d oW r) A k) (I:d'.waits=d.waits):(outN 2 (baseE S p d oW r) A extT (d'.ext.flatMap extF)).set p (devB d' A oW)=devM S p d' A oW:=by
 have C:=zjG h h';rw [zcw];unfold baseE;rw [zbD (λq c e=>(C.e q c e).2),Mem.set_set,zim (λq c J c' e H=>C.ew q c J c' e H),I]
def baseW (S:Mem) (p:Nat) (d:D) (oE:Option (Nat × Nat)) (r:Blk):Mem:=(outN 2 S oE extT (d.ext.flatMap extF)).set p r
theorem zsA {S:Mem} {p:Nat} {d:D} {oE oW:Option (Nat × Nat)} (h:Apart S p oE oW) (r:Blk):outN 3 (baseW S p d oE r) oW wrT (d.waits.flatMap wrF)=(outN 3 (outN 2 S oE extT (d.ext.flatMap extF)) oW wrT (d.waits.flatMap wrF)).set p r:=by
 unfold baseW;rw [zbD (λq c e=>(h.w q c e).2)]
theorem ziq {S:Mem} {p:Nat} {d:D} {oE oW:Option (Nat × Nat)} (h:Apart S p oE oW) (f:Fits d oE oW) (r:Blk):OkO (baseW S p d oE r) oW d.waits.length :=
 ⟨f.w0,λb c e=>⟨zam (zbv (h.w b c e).1 (λq c' A=>h.ew q c' b c A e)) (h.w b c e).2,f.w b c e⟩⟩
theorem zhn {S:Mem} {p:Nat} {d:D} {oE oW A:Option (Nat × Nat)} {r:Blk} {k:Nat} (h:Apart S p oE oW) (h':OkO (baseW S p d oE r) A k):Apart S p oE A :=
 ⟨h.e,λb c e=>by
  obtain ⟨C,H⟩:=zaa (h'.own b c e).1;exact ⟨(zaN C).1,H⟩,λb c b' c' e I=>by
  obtain ⟨C,H⟩:=zaa (h'.own b' c' I).1;exact Ne.symm ((zaN C).2 b c e),h.p⟩
theorem zsB {S:Mem} {p:Nat} {d d':D} {oE oW A:Option (Nat × Nat)} {r:Blk} {k:Nat} (f:Fits d oE oW) (h':OkO (baseW S p d oE r) A k) (H:d'.waits.length=k) (C:d'.ext=d.ext):Fits d' oE A :=
 ⟨λe=>by rw [C];exact f.e0 e,λe=>by rw [H];exact h'.nil e,λb c e=>by rw [C];exact f.e b c e,λb c e=>by rw [H];exact (h'.own b c e).2⟩
theorem znB {S:Mem} {p:Nat} {d d':D} {oE oW A:Option (Nat × Nat)} {r:Blk} {k:Nat} (h:Apart S p oE oW) (h':OkO (baseW S p d oE r) A k) (H:d'.ext=d.ext):(outN 3 (baseW S p d oE r) A wrT (d'.waits.flatMap wrF)).set p (devB d' oE A)=devM S p d' oE A:=by
 have C:=zhn h h';rw [zcw];unfold baseW;rw [zbD (λq c e=>(C.w q c e).2),Mem.set_set,H]
theorem zdo (o:Option (Nat × Nat)) (n:Nat):(outV o n).cells = #[outV o n]:=by cases o <;> rfl
theorem zfa (o:Option (Nat × Nat)) (n:Nat):(outV o n).oneCell'=true:=by cases o <;> rfl
end
end Go.Proofs.YtopiogkolaelnaaGreatDoor
namespace Go.Proofs
open Go.Shelf
def Tryz.lays125_ren:Go.Shelf.Ren:=⟨λ| 125=>137 | 128=>204 | 129=>37 | n=>n,λ| 46=>167 | 3=>3 | 51=>239 | 53=>27 | 4=>4 | 5=>5 | 9=>9 | n=>n,λ| n=>n⟩
theorem Tryz.lays125:Go.Proofs.Lays.n125 Tryz.prog Tryz.lays125_ren:={
 mixed:=by kernel_rfl
 f125:=Tryz.func137.trans (congrArg some (by kernel_rfl))
 f128:=Tryz.func204.trans (congrArg some (by kernel_rfl))
 f129:=Tryz.func37.trans (congrArg some (by kernel_rfl))
 t3:=Tryz.underlying3
 a3:=Tryz.isAgg3
 z3:=Tryz.sizeOf3
 v3:=Tryz.zeroValue3
 t4:=Tryz.underlying4
 a4:=Tryz.isAgg4
 z4:=Tryz.sizeOf4
 v4:=Tryz.zeroValue4
 t5:=Tryz.underlying5
 a5:=Tryz.isAgg5
 z5:=Tryz.sizeOf5
 v5:=Tryz.zeroValue5
 t9:=Tryz.underlying9
 a9:=Tryz.isAgg9
 z9:=Tryz.sizeOf9
 v9:=Tryz.zeroValue9
 t46:=Tryz.underlying167
 a46:=Tryz.isAgg167
 z46:=Tryz.sizeOf167
 v46:=Tryz.zeroValue167
 t51:=Tryz.underlying239
 a51:=Tryz.isAgg239
 z51:=Tryz.sizeOf239
 v51:=Tryz.zeroValue239
 t53:=Tryz.underlying27
 a53:=Tryz.isAgg27
 z53:=Tryz.sizeOf27
 v53:=Tryz.zeroValue27 }
theorem Tryz.bits_Len (x:Int) (w:World) (A:0<=x) (C:x<=18446744073709551615) :
  Calls Tryz.prog 137 #[.int .u64 x] w λe w'=>e = .returned (.int .i64 (Lib.bitLen x.toNat))/\w'=w:=Any.bits_Len Tryz.lays125 x w A C
def Tryz.lays212_ren:Go.Shelf.Ren:=⟨λ| 212=>155 | 263=>215 | 264=>216 | n=>n,λ| 46=>167 | 51=>239 | 146=>303 | 53=>27 | 148=>305 | n=>n,λ| n=>n⟩
theorem Tryz.lays212:Go.Proofs.Lays.n212 Tryz.prog Tryz.lays212_ren:={
 mixed:=by kernel_rfl
 f212:=Tryz.func155.trans (congrArg some (by kernel_rfl))
 f263:=Tryz.func215.trans (congrArg some (by kernel_rfl))
 f264:=Tryz.func216.trans (congrArg some (by kernel_rfl))
 t46:=Tryz.underlying167
 a46:=Tryz.isAgg167
 z46:=Tryz.sizeOf167
 v46:=Tryz.zeroValue167
 t51:=Tryz.underlying239
 a51:=Tryz.isAgg239
 z51:=Tryz.sizeOf239
 v51:=Tryz.zeroValue239
 t53:=Tryz.underlying27
 a53:=Tryz.isAgg27
 z53:=Tryz.sizeOf27
 v53:=Tryz.zeroValue27
 t146:=Tryz.underlying303
 a146:=Tryz.isAgg303
 z146:=Tryz.sizeOf303
 v146:=Tryz.zeroValue303
 t148:=Tryz.underlying305
 a148:=Tryz.isAgg305
 z148:=Tryz.sizeOf305
 v148:=Tryz.zeroValue305 }
open Go.RowKit Go.Lib in
theorem Tryz.bits_Mul (x y:Nat) (C:x<18446744073709551616) (A:y<18446744073709551616) (w:World) :
  Calls Tryz.prog 155 #[.int .u64 x,.int .u64 y] w λe w'=>e = .returned (.tuple #[.int .u64 ((x*y / 18446744073709551616:Nat):Int),.int .u64 ((x*y % 18446744073709551616:Nat):Int)])/\w'=w:=Any.bits_Mul Tryz.lays212 x y C A w
def Tryz.lays105_ren:Go.Shelf.Ren:=⟨λ| 105=>100 | 212=>155 | 99=>156 | 165=>157 | 166=>19 | 170=>158 | 169=>21 | 263=>215 | 264=>216 | 206=>217 | 240=>46 | 241=>218 | 276=>95 | 277=>254 | n=>n,λ| 9=>9 | 3=>3 | 4=>4 | 20=>20 | 0=>0 | 46=>167 | 109=>234 | 5=>5 | 72=>59 | 76=>64 | 51=>239 | 146=>303 | 53=>27 | 148=>305 | 70=>56 | 37=>57 | 75=>63 | 127=>116 | 164=>173 | 80=>67 | n=>n,λ| n=>n⟩
theorem Tryz.lays105:Go.Proofs.Lays.n105 Tryz.prog Tryz.lays105_ren:={
 mixed:=by kernel_rfl
 f99:=Tryz.func156.trans (congrArg some (by kernel_rfl))
 f105:=Tryz.func100.trans (congrArg some (by kernel_rfl))
 f165:=Tryz.func157.trans (congrArg some (by kernel_rfl))
 f166:=Tryz.func19.trans (congrArg some (by kernel_rfl))
 f169:=Tryz.func21.trans (congrArg some (by kernel_rfl))
 f170:=Tryz.func158.trans (congrArg some (by kernel_rfl))
 f206:=Tryz.func217.trans (congrArg some (by kernel_rfl))
 f212:=Tryz.func155.trans (congrArg some (by kernel_rfl))
 f240:=Tryz.func46.trans (congrArg some (by kernel_rfl))
 f241:=Tryz.func218.trans (congrArg some (by kernel_rfl))
 f263:=Tryz.func215.trans (congrArg some (by kernel_rfl))
 f264:=Tryz.func216.trans (congrArg some (by kernel_rfl))
 f276:=Tryz.func95.trans (congrArg some (by kernel_rfl))
 f277:=Tryz.func254.trans (congrArg some (by kernel_rfl))
 t0:=Tryz.underlying0
 a0:=Tryz.isAgg0
 z0:=Tryz.sizeOf0
 v0:=Tryz.zeroValue0
 t3:=Tryz.underlying3
 a3:=Tryz.isAgg3
 z3:=Tryz.sizeOf3
 v3:=Tryz.zeroValue3
 t4:=Tryz.underlying4
 a4:=Tryz.isAgg4
 z4:=Tryz.sizeOf4
 v4:=Tryz.zeroValue4
 t5:=Tryz.underlying5
 a5:=Tryz.isAgg5
 z5:=Tryz.sizeOf5
 v5:=Tryz.zeroValue5
 t9:=Tryz.underlying9
 a9:=Tryz.isAgg9
 z9:=Tryz.sizeOf9
 v9:=Tryz.zeroValue9
 t20:=Tryz.underlying20
 a20:=Tryz.isAgg20
 z20:=Tryz.sizeOf20
 v20:=Tryz.zeroValue20
 t37:=Tryz.underlying57
 a37:=Tryz.isAgg57
 z37:=Tryz.sizeOf57
 v37:=Tryz.zeroValue57
 t46:=Tryz.underlying167
 a46:=Tryz.isAgg167
 z46:=Tryz.sizeOf167
 v46:=Tryz.zeroValue167
 t51:=Tryz.underlying239
 a51:=Tryz.isAgg239
 z51:=Tryz.sizeOf239
 v51:=Tryz.zeroValue239
 t53:=Tryz.underlying27
 a53:=Tryz.isAgg27
 z53:=Tryz.sizeOf27
 v53:=Tryz.zeroValue27
 t70:=Tryz.underlying56
 a70:=Tryz.isAgg56
 z70:=Tryz.sizeOf56
 v70:=Tryz.zeroValue56
 t72:=Tryz.underlying59
 a72:=Tryz.isAgg59
 z72:=Tryz.sizeOf59
 v72:=Tryz.zeroValue59
 t75:=Tryz.underlying63
 a75:=Tryz.isAgg63
 z75:=Tryz.sizeOf63
 v75:=Tryz.zeroValue63
 t76:=Tryz.underlying64
 a76:=Tryz.isAgg64
 z76:=Tryz.sizeOf64
 v76:=Tryz.zeroValue64
 t109:=Tryz.underlying234
 a109:=Tryz.isAgg234
 z109:=Tryz.sizeOf234
 v109:=Tryz.zeroValue234
 t127:=Tryz.underlying116
 a127:=Tryz.isAgg116
 z127:=Tryz.sizeOf116
 v127:=Tryz.zeroValue116
 t146:=Tryz.underlying303
 a146:=Tryz.isAgg303
 z146:=Tryz.sizeOf303
 v146:=Tryz.zeroValue303
 t148:=Tryz.underlying305
 a148:=Tryz.isAgg305
 z148:=Tryz.sizeOf305
 v148:=Tryz.zeroValue305
 t164:=Tryz.underlying173
 a164:=Tryz.isAgg173
 z164:=Tryz.sizeOf173
 v164:=Tryz.zeroValue173 }
theorem Tryz.Builder_Extra_105:Builder.Extra Tryz.prog Tryz.lays105_ren:={
 sizeBuilder:=by kernel_rfl
 liesBuilder:=by kernel_rfl
 t5:=Tryz.underlying5
 a5:=Tryz.isAgg5
 z5:=Tryz.sizeOf5
 v5:=Tryz.zeroValue5
 infoByte:=by kernel_rfl
 cellsByte:=by kernel_rfl
 sizeByte:=by kernel_rfl
 neB5:=by decide }
open Go.RowKit Go.Lib in
theorem Tryz.strings_Repeat_main (s:ByteArray) (c:Nat) (w:World) (C:2<=c) (hc:c<=9223372036854775807) (A:s.size*c<=140737488355328) (H:0<s.size) :
  Calls Tryz.prog 100 #[.string s,.int .i64 c] w λe w'=>e = .returned (.string ⟨(Lib.repeatL s.data.toList c).toArray⟩)/\Below w.heap.size w w':=Any.strings_Repeat_main Tryz.lays105 Tryz.Builder_Extra_105 s c w C hc A H
open Go.RowKit Go.Lib in
theorem Tryz.strings_Repeat (s:ByteArray) (c:Nat) (w:World) (hc:c<=9223372036854775807) (A:s.size*c<=140737488355328) :
  Calls Tryz.prog 100 #[.string s,.int .i64 c] w λe w'=>e = .returned (.string ⟨(Lib.repeatL s.data.toList c).toArray⟩)/\Below w.heap.size w w':=Any.strings_Repeat Tryz.lays105 Tryz.Builder_Extra_105 s c w hc A
def Tryz.laysSlF6_f81_ren:Go.Shelf.Ren:=⟨λ| 6=>81 | 15=>137 | 14=>141 | 28=>204 | 29=>37 | 20=>205 | 21=>206 | 22=>207 | 23=>208 | 24=>209 | 25=>210 | 26=>211 | 27=>212 | 46=>250 | 47=>246 | 48=>247 | 49=>251 | 50=>252 | 57=>274 | n=>n,λ| 22=>41 | 24=>3 | 25=>162 | 3=>3 | 39=>167 | 0=>0 | 53=>239 | 55=>27 | 4=>4 | 46=>292 | 45=>291 | 50=>154 | 5=>5 | 9=>9 | 66=>339 | 70=>343 | 76=>365 | 77=>366 | n=>n,λ| n=>n⟩
theorem Tryz.laysSlF6_f81:Go.Proofs.SlLaysF.n6 Tryz.prog Tryz.laysSlF6_f81_ren:={
 mixed:=by kernel_rfl
 f6:=⟨Tryz.f81.name,by decide,Tryz.func81.trans (congrArg some (by kernel_rfl))⟩
 f14:=⟨Tryz.f141.name,by decide,Tryz.func141.trans (congrArg some (by kernel_rfl))⟩
 f15:=Tryz.func137.trans (congrArg some (by kernel_rfl))
 f20:=⟨Tryz.f205.name,by decide,Tryz.func205.trans (congrArg some (by kernel_rfl))⟩
 f21:=⟨Tryz.f206.name,by decide,Tryz.func206.trans (congrArg some (by kernel_rfl))⟩
 f22:=⟨Tryz.f207.name,by decide,Tryz.func207.trans (congrArg some (by kernel_rfl))⟩
 f23:=⟨Tryz.f208.name,by decide,Tryz.func208.trans (congrArg some (by kernel_rfl))⟩
 f24:=⟨Tryz.f209.name,by decide,Tryz.func209.trans (congrArg some (by kernel_rfl))⟩
 f25:=⟨Tryz.f210.name,by decide,Tryz.func210.trans (congrArg some (by kernel_rfl))⟩
 f26:=⟨Tryz.f211.name,by decide,Tryz.func211.trans (congrArg some (by kernel_rfl))⟩
 f27:=⟨Tryz.f212.name,by decide,Tryz.func212.trans (congrArg some (by kernel_rfl))⟩
 f28:=Tryz.func204.trans (congrArg some (by kernel_rfl))
 f29:=Tryz.func37.trans (congrArg some (by kernel_rfl))
 f46:=⟨Tryz.f250.name,by decide,Tryz.func250.trans (congrArg some (by kernel_rfl))⟩
 f47:=Tryz.func246.trans (congrArg some (by kernel_rfl))
 f48:=Tryz.func247.trans (congrArg some (by kernel_rfl))
 f49:=⟨Tryz.f251.name,by decide,Tryz.func251.trans (congrArg some (by kernel_rfl))⟩
 f50:=⟨Tryz.f252.name,by decide,Tryz.func252.trans (congrArg some (by kernel_rfl))⟩
 f57:=⟨Tryz.f274.name,by decide,Tryz.func274.trans (congrArg some (by kernel_rfl))⟩
 t0:=Tryz.underlying0
 a0:=Tryz.isAgg0
 z0:=Tryz.sizeOf0
 v0:=Tryz.zeroValue0
 t3:=Tryz.underlying3
 a3:=Tryz.isAgg3
 z3:=Tryz.sizeOf3
 v3:=Tryz.zeroValue3
 t4:=Tryz.underlying4
 a4:=Tryz.isAgg4
 z4:=Tryz.sizeOf4
 v4:=Tryz.zeroValue4
 t5:=Tryz.underlying5
 a5:=Tryz.isAgg5
 z5:=Tryz.sizeOf5
 v5:=Tryz.zeroValue5
 t9:=Tryz.underlying9
 a9:=Tryz.isAgg9
 z9:=Tryz.sizeOf9
 v9:=Tryz.zeroValue9
 t22:=Tryz.underlying41
 a22:=Tryz.isAgg41
 z22:=Tryz.sizeOf41
 v22:=Tryz.zeroValue41
 a24:=Tryz.isAgg3
 z24:=Tryz.sizeOf3
 t25:=Tryz.underlying162
 a25:=Tryz.isAgg162
 z25:=Tryz.sizeOf162
 v25:=Tryz.zeroValue162
 t39:=Tryz.underlying167
 a39:=Tryz.isAgg167
 z39:=Tryz.sizeOf167
 v39:=Tryz.zeroValue167
 t45:=Tryz.underlying291
 a45:=Tryz.isAgg291
 z45:=Tryz.sizeOf291
 v45:=Tryz.zeroValue291
 t46:=Tryz.underlying292
 a46:=Tryz.isAgg292
 z46:=Tryz.sizeOf292
 v46:=Tryz.zeroValue292
 t50:=Tryz.underlying154
 a50:=Tryz.isAgg154
 z50:=Tryz.sizeOf154
 v50:=Tryz.zeroValue154
 t53:=Tryz.underlying239
 a53:=Tryz.isAgg239
 z53:=Tryz.sizeOf239
 v53:=Tryz.zeroValue239
 t55:=Tryz.underlying27
 a55:=Tryz.isAgg27
 z55:=Tryz.sizeOf27
 v55:=Tryz.zeroValue27
 t66:=Tryz.underlying339
 a66:=Tryz.isAgg339
 z66:=Tryz.sizeOf339
 v66:=Tryz.zeroValue339
 t70:=Tryz.underlying343
 a70:=Tryz.isAgg343
 z70:=Tryz.sizeOf343
 v70:=Tryz.zeroValue343
 t76:=Tryz.underlying365
 a76:=Tryz.isAgg365
 z76:=Tryz.sizeOf365
 v76:=Tryz.zeroValue365
 t77:=Tryz.underlying366
 a77:=Tryz.isAgg366
 z77:=Tryz.sizeOf366
 v77:=Tryz.zeroValue366 }
def Tryz.laysSlF6_f262_ren:Go.Shelf.Ren:=⟨λ| 6=>262 | 15=>137 | 14=>278 | 28=>204 | 29=>37 | 20=>286 | 21=>287 | 22=>288 | 23=>289 | 24=>290 | 25=>291 | 26=>292 | 27=>293 | 46=>295 | 47=>246 | 48=>247 | 49=>296 | 50=>297 | 57=>299 | n=>n,λ| 22=>26 | 24=>22 | 25=>161 | 3=>3 | 39=>167 | 0=>0 | 53=>239 | 55=>27 | 4=>4 | 46=>292 | 45=>291 | 50=>154 | 5=>5 | 9=>9 | 66=>339 | 70=>343 | 76=>365 | 77=>366 | n=>n,λ| n=>n⟩
theorem Tryz.laysSlF6_f262:Go.Proofs.SlLaysF.n6 Tryz.prog Tryz.laysSlF6_f262_ren:={
 mixed:=by kernel_rfl
 f6:=⟨Tryz.f262.name,by decide,Tryz.func262.trans (congrArg some (by kernel_rfl))⟩
 f14:=⟨Tryz.f278.name,by decide,Tryz.func278.trans (congrArg some (by kernel_rfl))⟩
 f15:=Tryz.func137.trans (congrArg some (by kernel_rfl))
 f20:=⟨Tryz.f286.name,by decide,Tryz.func286.trans (congrArg some (by kernel_rfl))⟩
 f21:=⟨Tryz.f287.name,by decide,Tryz.func287.trans (congrArg some (by kernel_rfl))⟩
 f22:=⟨Tryz.f288.name,by decide,Tryz.func288.trans (congrArg some (by kernel_rfl))⟩
 f23:=⟨Tryz.f289.name,by decide,Tryz.func289.trans (congrArg some (by kernel_rfl))⟩
 f24:=⟨Tryz.f290.name,by decide,Tryz.func290.trans (congrArg some (by kernel_rfl))⟩
 f25:=⟨Tryz.f291.name,by decide,Tryz.func291.trans (congrArg some (by kernel_rfl))⟩
 f26:=⟨Tryz.f292.name,by decide,Tryz.func292.trans (congrArg some (by kernel_rfl))⟩
 f27:=⟨Tryz.f293.name,by decide,Tryz.func293.trans (congrArg some (by kernel_rfl))⟩
 f28:=Tryz.func204.trans (congrArg some (by kernel_rfl))
 f29:=Tryz.func37.trans (congrArg some (by kernel_rfl))
 f46:=⟨Tryz.f295.name,by decide,Tryz.func295.trans (congrArg some (by kernel_rfl))⟩
 f47:=Tryz.func246.trans (congrArg some (by kernel_rfl))
 f48:=Tryz.func247.trans (congrArg some (by kernel_rfl))
 f49:=⟨Tryz.f296.name,by decide,Tryz.func296.trans (congrArg some (by kernel_rfl))⟩
 f50:=⟨Tryz.f297.name,by decide,Tryz.func297.trans (congrArg some (by kernel_rfl))⟩
 f57:=⟨Tryz.f299.name,by decide,Tryz.func299.trans (congrArg some (by kernel_rfl))⟩
 t0:=Tryz.underlying0
 a0:=Tryz.isAgg0
 z0:=Tryz.sizeOf0
 v0:=Tryz.zeroValue0
 t3:=Tryz.underlying3
 a3:=Tryz.isAgg3
 z3:=Tryz.sizeOf3
 v3:=Tryz.zeroValue3
 t4:=Tryz.underlying4
 a4:=Tryz.isAgg4
 z4:=Tryz.sizeOf4
 v4:=Tryz.zeroValue4
 t5:=Tryz.underlying5
 a5:=Tryz.isAgg5
 z5:=Tryz.sizeOf5
 v5:=Tryz.zeroValue5
 t9:=Tryz.underlying9
 a9:=Tryz.isAgg9
 z9:=Tryz.sizeOf9
 v9:=Tryz.zeroValue9
 t22:=Tryz.underlying26
 a22:=Tryz.isAgg26
 z22:=Tryz.sizeOf26
 v22:=Tryz.zeroValue26
 a24:=Tryz.isAgg22
 z24:=Tryz.sizeOf22
 t25:=Tryz.underlying161
 a25:=Tryz.isAgg161
 z25:=Tryz.sizeOf161
 v25:=Tryz.zeroValue161
 t39:=Tryz.underlying167
 a39:=Tryz.isAgg167
 z39:=Tryz.sizeOf167
 v39:=Tryz.zeroValue167
 t45:=Tryz.underlying291
 a45:=Tryz.isAgg291
 z45:=Tryz.sizeOf291
 v45:=Tryz.zeroValue291
 t46:=Tryz.underlying292
 a46:=Tryz.isAgg292
 z46:=Tryz.sizeOf292
 v46:=Tryz.zeroValue292
 t50:=Tryz.underlying154
 a50:=Tryz.isAgg154
 z50:=Tryz.sizeOf154
 v50:=Tryz.zeroValue154
 t53:=Tryz.underlying239
 a53:=Tryz.isAgg239
 z53:=Tryz.sizeOf239
 v53:=Tryz.zeroValue239
 t55:=Tryz.underlying27
 a55:=Tryz.isAgg27
 z55:=Tryz.sizeOf27
 v55:=Tryz.zeroValue27
 t66:=Tryz.underlying339
 a66:=Tryz.isAgg339
 z66:=Tryz.sizeOf339
 v66:=Tryz.zeroValue339
 t70:=Tryz.underlying343
 a70:=Tryz.isAgg343
 z70:=Tryz.sizeOf343
 v70:=Tryz.zeroValue343
 t76:=Tryz.underlying365
 a76:=Tryz.isAgg365
 z76:=Tryz.sizeOf365
 v76:=Tryz.zeroValue365
 t77:=Tryz.underlying366
 a77:=Tryz.isAgg366
 z77:=Tryz.sizeOf366
 v77:=Tryz.zeroValue366 }
open Go.RowKit Go.Lib Go.Sort in
theorem Tryz.slices_SortFunc_f81 {α : Type} [Inhabited α] (enc : α->Value) (U:OneCell enc) (cf : α -> α->Int) (J:SWO (ltOf cf)) (g:Nat) (cb:Array Value) (blk off cap:Nat) (d:Array α) (w:World) (Q:∀ args w,(callFunc g args).run Tryz.prog w = .ok (.enter g args) w) (A:CmpLays1 Tryz.prog g cb enc cf blk off d.size w) (I:Holds enc w blk off d) (C:blk<w.heap.size) (H:d.size<4611686018427387904) :
  Calls Tryz.prog 81 #[.slice (some ⟨blk,off,none⟩) d.size cap,.func (.func g) #[] cb] w λe w' =>
   e = .returned (.tuple #[]) /\ ∃ d' n os,PermIn 0 d.size d d'/\SortedIn (ltOf cf) 0 d.size d'/\w'=sortWorld enc w blk off n d' os:=Any.slices_SortFunc Tryz.laysSlF6_f81 enc U cf J g cb blk off cap d w Q A I C H
open Go.RowKit Go.Lib Go.Sort in
theorem Tryz.slices_SortFunc_f262 {α : Type} [Inhabited α] (enc : α->Value) (U:OneCell enc) (cf : α -> α->Int) (J:SWO (ltOf cf)) (g:Nat) (cb:Array Value) (blk off cap:Nat) (d:Array α) (w:World) (Q:∀ args w,(callFunc g args).run Tryz.prog w = .ok (.enter g args) w) (A:CmpLays1 Tryz.prog g cb enc cf blk off d.size w) (I:Holds enc w blk off d) (C:blk<w.heap.size) (H:d.size<4611686018427387904) :
  Calls Tryz.prog 262 #[.slice (some ⟨blk,off,none⟩) d.size cap,.func (.func g) #[] cb] w λe w' =>
   e = .returned (.tuple #[]) /\ ∃ d' n os,PermIn 0 d.size d d'/\SortedIn (ltOf cf) 0 d.size d'/\w'=sortWorld enc w blk off n d' os:=Any.slices_SortFunc Tryz.laysSlF6_f262 enc U cf J g cb blk off cap d w Q A I C H
end Go.Proofs
namespace Go.Proofs.YtopiogkolaelnaaGreatDoor
open _root_.Go.Proofs.Tryz
section
open Go.RowKit
open Mv Disk
def zeros (n:Nat):tt:=bs (List.replicate (64*n) 0)
theorem zeH (n:Nat):(zeros n).size=64*n:=by unfold zeros;rw [zaJ];simp
def newD (d:D) (s:tt) (n:Int):D × Int:=if ¬ nm s\/n<1 then (d,1) else if has d.ext s=true then (d,4) else if d.size-used d.ext<n then (d,8) else ({ d with ext:=insAt d.ext (pos d.ext s) (s,zeros n.toNat) },0)
def DevR (S:Mem) (p:Nat) (q:D × Int) (r:tu) (S':Mem):Prop:=∃ oE oW,OkV S p q.1 oE oW/\r = .int .i64 q.2/\S'=devM S p q.1 oE oW
theorem zfL (c:Nat):Lib.repeatL [0] c=List.replicate c (0:UInt8):=by
 induction c with
 | zero=>rfl
 | succ c A=>rw [List.replicate_succ,<- A];rfl
theorem zir (c:Nat) (S:Mem) (A:2<=c) (C:c<=140737488355328):ACall prog 100 #[.string ⟨#[0]⟩,.int .i64 (c:Int)] S λr S'=>r = .string (bs (List.replicate c 0))/\S'=S :=
 vR λw=>by
  have:=Tryz.strings_Repeat_main ⟨#[0]⟩ c w A vd (by show 1*c<=_;omega) (by decide);rw [show (⟨#[0]⟩ : tt).data.toList = [0] from rfl,zfL] at this;exact this
theorem zjH (p:Nat) (d:D) (s:tt) (n:Int) (S:Mem) (oE oW:Option (Nat × Nat)) (H:OkV S p d oE oW) (W:Right d) :
  ACall prog 48 #[.pointer (some ⟨p,0,none⟩),.string s,.int .i64 n] (devM S p d oE oW) (DevR S p (newD d s n)):=by
 have J:=zbl W;have an:=H.rd (Nat.le_trans J.1 (by decide)) (Nat.le_trans W.wl (by decide));have U:(devM S p d oE oW).own p=some (devB d oE oW):=vf _ _ _;have hE:Sl 2 extF (devM S p d oE oW) (outV oE d.ext.length) d.ext:=((zc8 zbd (e:=extT) H.dk.e rfl (Nat.le_trans J.1 (by decide))).less (zbr H.dk.w)).less (vh _ _ _ H.fr.1);have Y:=H.apart;have am:=H.fits;have az:=W.s0;have aA:=W.s1
 have ag:=zin Y (devB d oE oW) (d:=d);have au:=zio Y am (devB d oE oW);rw [<- zcw] at ag;generalize hM:devM S p d oE oW=M at *;unfold devB at U;unfold newD;by_cases q1:nm s
 ·by_cases q2:n<1
  ·rw [if_pos (.inr q2)];refine k_E3 52 func48 ?_;refine r13_ ?_;refine cp_ rfl (zbA _ d.ext s _ hE W.ex.asc (Nat.le_trans J.1 (by decide))) ?_;refine r12_ ?_;refine vu (zab rfl) za1 rfl rfl ?_;intro aa I;have A:=I
   repeat ((with_reducible replace A:=zaa A);obtain ⟨A,_⟩:=A)
   have:=A.ne U;have:=A.ne' U
   refine ca_ rfl (zbm _ [s] _ (zcv own_)) ?_;rintro _ Q ⟨⟨t,rfl,X⟩,C⟩;rw [C];clear C Q;obtain rfl:t=true:=X.2 (zbK.2 q1);refine r8_ ?_;refine cT_ ?_;refine r8_ ?_;refine ⟨_,M,⟨_,_,rfl,rfl,rfl⟩,zae,?_⟩;exact ⟨oE,oW,H,rfl,hM.symm⟩
  rw [if_neg (λh=>h.elim (λh=>h q1) q2)];by_cases q3:has d.ext s=true
  ·rw [if_pos q3];refine k_E3 52 func48 ?_;refine r13_ ?_;refine ca_ rfl (zbA _ d.ext s _ hE W.ex.asc (Nat.le_trans J.1 (by decide))) ?_;rintro _ Q ⟨rfl,C⟩;rw [C,q3];clear C Q;refine r12_ ?_;refine vu (zab rfl) za1 rfl rfl ?_;intro aa I;have A:=I
   repeat ((with_reducible replace A:=zaa A);obtain ⟨A,_⟩:=A)
   have:=A.ne U;have:=A.ne' U
   refine ca_ rfl (zbm _ [s] _ (zcv own_)) ?_;rintro _ Q ⟨⟨t,rfl,X⟩,C⟩;rw [C];clear C Q;obtain rfl:t=true:=X.2 (zbK.2 q1);refine r8_ ?_;refine cF_ ?_;refine r6_ ?_;refine kw_ [0,1,2,6,7,8,19,28] ?_;refine cT_ ?_;refine r8_ ?_;refine ⟨_,M,⟨_,_,rfl,rfl,rfl⟩,zae,?_⟩;exact ⟨oE,oW,H,rfl,hM.symm⟩
  rw [if_neg q3];have aj:=Bool.eq_false_iff.2 q3;by_cases q4:d.size-used d.ext<n
  ·rw [if_pos q4];refine k_E3 52 func48 ?_;refine r13_ ?_;refine ca_ rfl (zbA _ d.ext s _ hE W.ex.asc (Nat.le_trans J.1 (by decide))) ?_;rintro _ Q ⟨rfl,C⟩;rw [C,aj];clear C Q;refine r12_ ?_;refine vu (zab rfl) za1 rfl rfl ?_;intro aa I;have A:=I
   repeat ((with_reducible replace A:=zaa A);obtain ⟨A,_⟩:=A)
   have:=A.ne U;have:=A.ne' U
   refine ca_ rfl (zbm _ [s] _ (zcv own_)) ?_;rintro _ Q ⟨⟨t,rfl,X⟩,C⟩;rw [C];clear C Q;obtain rfl:t=true:=X.2 (zbK.2 q1);refine r8_ ?_;refine cF_ ?_;refine r6_ ?_;refine cF_ ?_;refine r4_ ?_;refine cp_ rfl (zkQ p d _ (an.less zae) W) ?_;refine r4_ ?_;refine cT_ ?_;refine r8_ ?_;refine ⟨_,M,⟨_,_,rfl,rfl,rfl⟩,zae,?_⟩;exact ⟨oE,oW,H,rfl,hM.symm⟩
  rw [if_neg q4];obtain ⟨m,rfl⟩ : ∃ m:Nat,n=m:=⟨n.toNat,by omega⟩;rw [Int.toNat_natCast];refine k_E3 52 func48 ?_;refine r13_ ?_;refine ca_ rfl (zbA _ d.ext s _ hE W.ex.asc (Nat.le_trans J.1 (by decide))) ?_;rintro _ Q ⟨rfl,C⟩;rw [C,aj];clear C Q;refine r7_ ?_;refine kw_ [0,1,2,6,7,8] ?_;refine r5_ ?_;refine vu (zab rfl) za1 rfl rfl ?_;intro aa I;have A:=I
  repeat ((with_reducible replace A:=zaa A);obtain ⟨A,_⟩:=A)
  have:=A.ne U;have:=A.ne' U
  refine ca_ rfl (zbm _ [s] _ (zcv own_)) ?_;rintro _ Q ⟨⟨t,rfl,X⟩,C⟩;rw [C];clear C Q;obtain rfl:t=true:=X.2 (zbK.2 q1);refine r8_ ?_;refine cF_ ?_;refine r6_ ?_;refine cF_ ?_;refine r4_ ?_;refine cp_ rfl (zkQ p d _ (an.less zae) W) ?_;refine r4_ ?_;refine cF_ ?_;refine AWP.less M zae ?_;refine r4_ ?_;refine dr_ [i0_,i1_,i2_,i3_,i4_,i5_,i6_,i7_,i8_,i9_,o10_,i11_,o12_,o13_,i14_,i15_,i16_,o17_] [13,17] ?_;refine r9_ ?_;refine dP (hc:=λ_=>Calm.as (v:=.int .i64 ((m:Int)*64)) (v':=.int .i64 ((64*m:Nat):Int)) (congrArg (Value.int .i64) vd) (vi rfl rfl (ze_ (IntWalk.i64_in _ vd)))) (h:=?_);refine zac rfl ?_;refine cp_ rfl (zir (64*m) _ vd vd) ?_;refine zad ⟨ny_,?_⟩;refine s1_ ?_;refine zac rfl ?_;refine uj (zab rfl) zbC rfl (by decide) (by decide) rfl rfl ?_;intro aw ah;have V:=ah
  repeat ((with_reducible replace V:=zaa V);obtain ⟨V,_⟩:=V)
  have:=V.ne U;have:=V.ne' U
  have ad:=ztr (baseE S p d oW (devB d oE oW)) oE d.ext (pos d.ext s) (s,zeros m) aw au (by rw [ag];exact ah) (zni _ _) J.1;rw [ag] at ad;refine zad ⟨ny_,?_⟩;refine zac rfl ?_;refine ca_ rfl (ad) ?_;rintro _ Q ⟨o',af,rfl,C⟩;rw [C];clear C Q;have ac:=zjG Y af;have ai:(outN 2 (baseE S p d oW (devB d oE oW)) o' extT ((insAt d.ext (pos d.ext s) (s,zeros m)).flatMap extF)).own p=some (devB d oE oW):=zda (vf _ _ _) (λq c e=>(ac.e q c e).2);have av:=znA (d':={ d with ext:=insAt d.ext (pos d.ext s) (s,zeros m) }) Y af rfl;have al:=znz (zni d.ext s) (s,zeros m);unfold devB at ai;refine zad ⟨nz_,?_⟩;refine r3_ ?_;refine zac rfl ?_;refine vk rfl rfl zeA (zdo _ _) ai (show 1<5 from by decide) (zfa _ _) ?_
  try simp only [k_ms,k_sz,k_ss,k_za,Nat.reduceAdd]
  refine zad ⟨nz_,?_⟩;refine r8_ ?_;refine ⟨_,devM S p _ o' oW,⟨_,_,rfl,rfl,rfl⟩,(by rw [<- av];unfold devB;rw [al];exact Mem.Less.refl _),?_⟩;exact ⟨o',oW,zgB ac (zsz am af al rfl),rfl,rfl⟩
 rw [if_pos (.inl q1)];refine k_E3 52 func48 ?_;refine r13_ ?_;refine cp_ rfl (zbA _ d.ext s _ hE W.ex.asc (Nat.le_trans J.1 (by decide))) ?_;refine r7_ ?_;refine kw_ [0,1,2,6,7,8] ?_;refine r5_ ?_;refine vu (zab rfl) za1 rfl rfl ?_;intro aa I;have A:=I
 repeat ((with_reducible replace A:=zaa A);obtain ⟨A,_⟩:=A)
 have:=A.ne U;have:=A.ne' U
 refine ca_ rfl (zbm _ [s] _ (zcv own_)) ?_;rintro _ Q ⟨⟨t,rfl,X⟩,C⟩;rw [C];clear C Q;obtain rfl:t=false:=Bool.eq_false_iff.2 (λe=>q1 (zbK.1 (X.1 e)));refine r8_ ?_;refine cT_ ?_;refine r8_ ?_;refine ⟨_,M,⟨_,_,rfl,rfl,rfl⟩,zae,?_⟩;exact ⟨oE,oW,H,rfl,hM.symm⟩
noncomputable def opened (d:D) (f:D × Int):D × Int:=if (openD d).2=0 then f else openD d
theorem zis {d:D} (A:Right d) (s:tt) (n:Int):(newD d s n).1.ext.length<=9223372036854775807/\(newD d s n).1.waits.length<=9223372036854775807:=by
 have H:=(zbl A).1;have I:=A.wl;have C:=znz (zni d.ext s) (s,zeros n.toNat);unfold newD
 repeat' split
 all_goals (constructor <;> simp only <;> omega)
theorem znC {A Y D:List tu} {k:Nat} (C:A.length=k):(A ++ D) <+: spl (A ++ Y) k D:=by
 subst C;unfold spl;rw [List.take_left];exact List.prefix_append _ _
theorem zkS {C Z zs:List tu} {k:Nat} (A:C.length=k) (h:C <+: Z):C <+: spl Z k zs:=by
 subst A;obtain ⟨Y,rfl⟩:=h;unfold spl;rw [List.take_left,List.append_assoc];exact List.prefix_append _ _
theorem znD {A X D zs:List tu} {i k:Nat} (H:A.length=i*2) (C:A.length+D.length=k):(A ++ D) <+: spl (spl (A ++ (X ++ D)) (0+i*2) D) k zs :=
 zkS (by rw [List.length_append];exact C) (znC vd)
theorem zl1 (l:List Ext) (i:Nat):(l.eraseIdx i).flatMap extF=(l.take i).flatMap extF ++ (l.drop (i+1)).flatMap extF:=by
 rw [List.eraseIdx_eq_take_drop_succ,List.flatMap_append]
theorem zcW {α : Type} {l:List α} {i:Nat} (h:i<l.length):l.drop i=l[i] :: l.drop (i+1):=List.drop_eq_getElem_cons h
section
variable {P:tz} {N:Nat} {E:Env} {S:Mem} {dst:Option Nat} {ty:tx} {pos:String} {aft:Array Edge} {gd:Option (Nat × Bool)}
theorem Mv.Calm.sliceLoHi {T e:tx} {x lo:tw} {hi:Option tw} {Q:IntKind} {j:Int} {b o len cap n h:Nat} (l:Nat) (U:P.underlying T=some (.slice e)) (C:sizeT P e=some n) (J:ev E x=some (.slice (some ⟨b,o,none⟩) len cap)) (A:ev E lo=some (.int Q j)) (I:j=(l:Int)) (H:bnd E hi len cap h) (V:l<=h) :
  ACalm P N ⟨dst,.slice T x (some lo) hi none,ty,pos,aft,gd⟩ E S (.slice (some ⟨b,if cap=l then o else o+l*n,none⟩) (h-l) (cap-l)):=by
 subst I;have:=vX (S:=S) (N:=N) (dst:=dst) (ty:=ty) (pos:=pos) (aft:=aft) (gd:=gd) U C J (zaU cap cap) (by simp) H (zb1 0 h A vd vd);rw [Int.toNat_natCast] at this;exact this
theorem Mv.Calm.sliceMid {T e:tx} {x lo hi:tw} {W I:IntKind} {j J:Int} {b o len cap n:Nat} (l h:Nat) (X:P.underlying T=some (.slice e)) (U:sizeT P e=some n) (V:ev E x=some (.slice (some ⟨b,o,none⟩) len cap)) (C:ev E lo=some (.int W j)) (Q:j=(l:Int)) (H:ev E hi=some (.int I J)) (A:J=(h:Int)) (Y:l<=h) (h2:h<=cap) (h3:l<cap) :
  ACalm P N ⟨dst,.slice T x (some lo) (some hi) none,ty,pos,aft,gd⟩ E S (.slice (some ⟨b,o+l*n,none⟩) (h-l) (cap-l)):=by
 subst A;have:=Calm.sliceLoHi (S:=S) (N:=N) (dst:=dst) (ty:=ty) (pos:=pos) (aft:=aft) (gd:=gd) l X U V C Q (zb1 len cap H vd vd) (by rw [Int.toNat_natCast];exact Y);rw [Int.toNat_natCast,if_neg vd] at this;exact this
end
theorem zts (B:Mem) (o:Option (Nat × Nat)) (l:List Ext) (i:Nat) (Q:OkO B o l.length) (hi:i<l.length) (W:l.length<=16384) :
  ACall prog 181 #[outV o l.length,.int .i64 (i:Int),.int .i64 ((i:Int)+1)] (outN 2 B o extT (l.flatMap extF)) λr S'=>OkO B o (l.length-1)/\r=outV o (l.length-1)/\S'=outN 2 B o extT ((l.eraseIdx i).flatMap extF):=by
 obtain ⟨⟨b,c⟩,rfl⟩ : ∃ q,o=some q:=by
  cases o with
  | none=>have:=Q.nil rfl;omega
  | some q=>exact ⟨q,rfl⟩
 have hc:=(Q.own b c rfl).2;have V:=(Q.own b c rfl).1;have C:=zas zbd l;have U:=zas zbd (l.take i);have I:=zas zbd (l.drop (i+1));rw [List.length_take,Nat.min_eq_left vd] at U;rw [List.length_drop] at I;have A:l.flatMap extF=(l.take i).flatMap extF ++ (extF l[i] ++ (l.drop (i+1)).flatMap extF):=by
  rw [zfK (n:=2) (f:=extF) l i,zcW hi,List.flatMap_cons]
 rw [zl1];dsimp only [outN,outV];refine k_E3 33 func181 ?_;refine r23_ ?_;refine cF_ ?_;refine r10_ ?_;refine dr_ [i0_,i1_,i2_,i3_,i4_,i5_,o6_,i7_] [6] ?_;refine r2_ ?_;refine dP (hc:=λ_=>vM i underlying28 zay rfl rfl rfl vd) (h:=?_);refine r2_ ?_;refine dP (hc:=λ_=>Calm.sliceLoHi (i+1) underlying28 zay rfl rfl vd (zaU _ _) vd) (h:=?_);refine zac rfl ?_;refine uD (n:=2) (k:=i) (m:=l.length-(i+1)) (news:=(l.drop (i+1)).flatMap extF) (zab rfl) zbC rfl (vf _ _ _) (by simp only [C];omega) rfl ?_ I (zfJ _) vd (.inl (by simp only [C,I];omega)) ?_
 ·by_cases H:i+1=l.length
  ·rw [show (l.drop (i+1)).flatMap extF = [] from List.eq_nil_of_length_eq_zero (by rw [I,H];simp)];exact λw _ j v h=>by simp at h
  rw [if_neg vd];exact vA (vf _ _ _) _ _ (λj v X=>by simp only;rw [A,List.getElem?_append_right vd,List.getElem?_append_right (by rw [zbd];omega),<- X];congr 1;rw [zbd];omega)
 have J:(spl (l.flatMap extF) (0+i*2) ((l.drop (i+1)).flatMap extF)).length=l.length*2:=by rw [zer _ _ _ (by rw [C,I];omega),C]
 refine zad ⟨nz_,?_⟩;refine r9_ ?_;refine rC (Calm.sliceMid (l.length-1) l.length underlying28 zay rfl rfl vd rfl rfl vd vd vd) ?_;refine v_ (k:=l.length-(l.length-1)) zbC rfl (by simp only [List.mem_cons,List.not_mem_nil,or_false];rintro v (rfl | rfl) <;> rfl) rfl (vf _ _ _) (by simp only [J];omega) (.inl (by simp only [J];omega)) ?_;intro zs Y;refine r2_ ?_;refine kw_ [0,1,2,6,16,7] ?_;rw [Mem.set_set,Mem.set_set];refine AWP.cut (cs':=(l.take i).flatMap extF ++ (l.drop (i+1)).flatMap extF) (m':=c*2) (by rw [A];exact znD U (by rw [U,I];omega)) (Nat.le_refl _) ?_;refine r7_ ?_;refine ⟨_,_,⟨_,_,rfl,rfl,rfl⟩,Mem.Less.refl _,?_⟩;exact ⟨zbE V vd,congrArg (λn=>Value.slice (some ⟨b,0,none⟩) n c) vd,rfl⟩
end
section
open Go.RowKit
open Mv Disk
def isN (s:tt) (w:Wr):Bool:=decide (w.1=s)
def filt (s:tt) (l:List Wr):List Wr:=l.filter λw=>!isN s w
theorem ze1 (w:Wr) (s:tt) (nb:Nat) (S:Mem) (H:S.Knows ⟨nb,0,none⟩ [.string s]) :
  ACall prog 238 #[.agg #[.string w.1,.int .i64 w.2.1,.string w.2.2],.pointer (some ⟨nb,0,none⟩)] S λr S'=>r = .bool (isN s w)/\S'=S:=by
 refine k_E2 8 func238 ?_;refine r2_ ?_;refine vD (cs:=[_,_,_]) (zab rfl) rfl ?_;intro I C;have A:=C
 repeat ((with_reducible replace A:=zaa A);obtain ⟨A,_⟩:=A)
 refine nl_ ?_;refine r13_ ?_;refine ⟨_,S,⟨_,_,rfl,rfl,rfl⟩,zae,?_⟩;exact ⟨rfl,rfl⟩
theorem zjI (v:tu) (l:List Wr) (s:tt) (nb:Nat) (S:Mem) (V:Sl 3 wrF S v l) (U:S.Knows ⟨nb,0,none⟩ [.string s]) :
  ACall prog 269 #[v,.func (.func 238) #[] #[.pointer (some ⟨nb,0,none⟩)]] S λr S'=>((r = .int .i64 (-1) /\ ∀ w ∈ l,isN s w=false) \/ ∃ i,∃ h:i<l.length,r = .int .i64 (i:Nat)/\isN s l[i]=true /\ ∀ w ∈ l.take i,isN s w=false)/\S'=S:=by
 obtain ⟨a,cap,rfl,I,Y,Q⟩:=id V;refine k_E2 19 func269 ?_;refine r14_ ?_;refine AWP.loop (X:=Nat) (λx=>[(0,.slice a l.length cap),(1,.func (.func 238) #[] #[.pointer (some ⟨nb,0,none⟩)]),(7,.int .i64 l.length),(8,.int .i64 x)]) (λx=>S) (λx=>x<=l.length /\ ∀ w ∈ l.take x,isN s w=false) (λx=>l.length-x) (0) ⟨rfl,rfl,rfl,rfl,trivial⟩ (Mem.Less.refl _) (⟨Nat.zero_le _,λw h=>by simp at h⟩) ?_;rintro i ⟨hi,A⟩;(try dsimp only at *);refine r6_ ?_;refine vp rfl (λhc=>?_) (λhc=>?_)
 ·have hc:i<l.length:=by have:=of_decide_eq_true hc;omega
  obtain ⟨b,off,rfl,J⟩:=Q.resolve_left (λe=>by subst e;simp at hc);have H:=J i hc;unfold wrF at H;refine r17_ ?_;refine vq (zab rfl) zsx rfl rfl (ze1 l[i] s nb _ U) ?_;rintro _ W ⟨rfl,I⟩;rw [I];clear I W;refine r2_ ?_;refine vp rfl (λC=>?_) (λC=>?_)
  ·refine r6_ ?_;refine r6_ ?_;refine ⟨_,S,⟨_,_,rfl,rfl,rfl⟩,zae,?_⟩;exact ⟨.inr ⟨i,hc,rfl,C,A⟩,rfl⟩
  refine r8_ ?_;refine ⟨i+1,?_,?_,?_,?_⟩<;>try dsimp only
  ·exact ⟨rfl,rfl,rfl,rfl,trivial⟩
  ·exact zae
  ·exact ⟨hc,λw hw=>by rw [zb4 hc,List.mem_append] at hw;rcases hw with hw | hw;exact A w hw;rw [List.mem_singleton.1 hw];exact C⟩
  omega
 have hc:i=l.length:=by have:=of_decide_eq_false hc;omega
 subst hc;rw [List.take_length] at A;refine r11_ ?_;refine ⟨_,S,⟨_,_,rfl,rfl,rfl⟩,zae,?_⟩;exact ⟨.inl ⟨rfl,A⟩,rfl⟩
theorem zho {s:tt} {l:List Wr} (h:∀ w ∈ l,isN s w=false):filt s l=l:=by
 unfold filt;rw [List.filter_eq_self];intro w A;rw [h w A];rfl
theorem zit (s:tt) (l:List Wr) (w:Wr):filt s (l ++ [w])=if isN s w=true then filt s l else filt s l ++ [w]:=by
 unfold filt;rw [List.filter_append];cases h:isN s w <;> simp [h]
theorem ztt (s:tt) (l:List Wr):(filt s l).length<=l.length:=List.length_filter_le _ _
theorem ziu {F G R W:List tu} {k:Nat} (C:F.length=k) (H:3<=G.length) (A:W.length=3):spl (F ++ (G ++ R)) k W=(F ++ W) ++ (G.drop 3 ++ R):=by
 have e:F ++ (G ++ R)=F ++ (G.take 3 ++ (G.drop 3 ++ R)):=by rw [<- List.append_assoc (G.take 3),List.take_append_drop]
 rw [e,zjF C (by simp [A];omega),List.append_assoc]
theorem znE {l:List Wr} {j:Nat} (h:j<l.length):(l.drop j).flatMap wrF=wrF l[j] ++ (l.drop (j+1)).flatMap wrF:=by rw [zcW h,List.flatMap_cons]
theorem zqu (B:Mem) (o:Option (Nat × Nat)) (l:List Wr) (s:tt) (nb:Nat) (V:OkO B o l.length) (Y:l.length<=16384) (hk:B.Knows ⟨nb,0,none⟩ [.string s]) :
  ACall prog 237 #[outV o l.length,.func (.func 238) #[] #[.pointer (some ⟨nb,0,none⟩)]] (outN 3 B o wrT (l.flatMap wrF)) λr S'=>OkO B o (filt s l).length/\r=outV o (filt s l).length/\S'=outN 3 B o wrT ((filt s l).flatMap wrF):=by
 have ay:=zas zcD l;have ao:=zc8 zcD (e:=wrT) V rfl (Nat.le_trans Y (by decide));have J:=zjI _ l s nb _ ao (hk.less (zbr V));by_cases I:∀ w ∈ l,isN s w=false
 ·rw [zho I];obtain ⟨a,c,ah⟩:=zbj V;rw [ah] at J ⊢;generalize hM:outN 3 B o wrT (l.flatMap wrF)=M at *;refine k_E2 42 func237 ?_;refine r9_ ?_;refine ca_ rfl (J) ?_;rintro _ S1 ⟨hr,U⟩;rw [U];clear U S1;obtain ⟨rfl,_⟩:=hr.resolve_right (λ⟨i,h,_,hi,_⟩=>by rw [I _ (List.getElem_mem h)] at hi;cases hi);refine r10_ ?_;refine cT_ ?_;refine r8_ ?_;refine ⟨_,M,⟨_,_,rfl,rfl,rfl⟩,zae,?_⟩;exact ⟨V,rfl,rfl⟩
 obtain ⟨⟨b,c⟩,rfl⟩ : ∃ q,o=some q:=by
  cases o with
  | none=>exact absurd (λw hw=>by rw [List.eq_nil_of_length_eq_zero (V.nil rfl)] at hw;cases hw) I
  | some q=>exact ⟨q,rfl⟩
 have hc:=(V.own b c rfl).2;have ak:=(V.own b c rfl).1;dsimp only [outN,outV] at J ⊢;refine k_E2 42 func237 ?_;refine r9_ ?_;refine ca_ rfl (J) ?_;rintro _ S1 ⟨hr,U⟩;rw [U];clear U S1;obtain ⟨i0,W,rfl,ai,aq⟩:=hr.resolve_left (λh=>I h.2);have Q:filt s (l.take (i0+1))=l.take i0:=by rw [zb4 W,zit,if_pos ai,zho aq]
 refine r10_ ?_;refine kw_ [0,1,4,5,12] ?_;refine cF_ ?_;refine r11_ ?_;refine AWP.loop (X:=Nat × List tu) (λx=>[(0,.slice (some ⟨b,0,none⟩) l.length c),(1,.func (.func 238) #[] #[.pointer (some ⟨nb,0,none⟩)]),(5,.int .i64 ((filt s (l.take x.1)).length:Nat)),(6,.int .i64 x.1)]) (λx=>B.set b ⟨wrT,(filt s (l.take x.1)).flatMap wrF ++ (x.2 ++ (l.drop x.1).flatMap wrF),c*3⟩) (λx=>x.1<=l.length/\(filt s (l.take x.1)).length<x.1/\((filt s (l.take x.1)).length*3+x.2.length=x.1*3)) (λx=>l.length-x.1) ((i0+1,wrF l[i0])) ⟨rfl,rfl,zan (by simp only [Q,List.length_take];omega),zan (by simp),trivial⟩ (by simp only [Q];rw [<- znE W,<- zfK (n:=3)];exact Mem.Less.refl _) (⟨W,by simp only [Q,List.length_take];omega,by simp only [Q,List.length_take,zcD];omega⟩) ?_;rintro ⟨j,G⟩ ⟨hj,au,hG⟩;(try dsimp only at *);obtain ⟨k,H⟩ : ∃ k,(filt s (l.take j)).length=k:=⟨_,rfl⟩;have hF:=zas zcD (filt s (l.take j));rw [H] at hF au hG;refine r9_ ?_;refine vp rfl (λhc=>?_) (λhc=>?_)
 ·have hc:j<l.length:=by have:=of_decide_eq_true hc;omega
  have hR:=znE hc;have ad:=zas zcD (l.drop j);rw [List.length_drop] at ad;have A:=zit s (l.take j) l[j];rw [<- zb4 hc] at A;have al:(B.set b ⟨wrT,(filt s (l.take j)).flatMap wrF ++ (G ++ (l.drop j).flatMap wrF),c*3⟩).Knows ⟨b,0+j*3,none⟩ (wrF l[j]):=vA (vf _ _ _) _ _ (λq v hq=>by simp only;rw [List.getElem?_append_right vd,List.getElem?_append_right vd,hR,List.getElem?_append_left (by have:=(List.getElem?_eq_some_iff.1 hq).1;omega),<- hq];congr 1;omega);generalize hw:l[j]=w at *;unfold wrF at al;refine r10_ ?_;refine ARun.alloc (zab rfl) zbI ?_;intro b7 f7;have g7:=f7
  repeat ((with_reducible replace g7:=zaa g7);obtain ⟨g7,_⟩:=g7)
  refine nl_ ?_;refine r7_ ?_;refine vq (zab rfl) zsx rfl rfl (ze1 w s nb _ (hk.less zae)) ?_;rintro _ S1 ⟨rfl,U⟩;rw [U];clear U S1;refine r3_ ?_;by_cases hb:isN s w=true
  ·rw [hb];rw [if_pos hb] at A;refine cF_ ?_;have C:(filt s (l.take (j+1))).flatMap wrF ++ ((G ++ wrF w) ++ (l.drop (j+1)).flatMap wrF)=(filt s (l.take j)).flatMap wrF ++ (G ++ (l.drop j).flatMap wrF):=(by rw [A,hR,List.append_assoc]);refine r9_ ?_;refine ⟨(j+1,G ++ wrF w),?_,?_,?_,?_⟩<;>try dsimp only
   ·exact ⟨rfl,rfl,zan (by rw [A]),rfl,trivial⟩
   ·simp only [C];exact zae
   ·exact ⟨hc,by simp only [A];omega,by simp only [A,List.length_append,zcD];omega⟩
   omega
  rw [Bool.eq_false_iff.2 hb];rw [if_neg hb] at A;refine cT_ ?_;rw [H];refine r6_ ?_;refine ARun.store rfl rfl zaR own_ (by show 0+k*3+3<=(_ ++ (_ ++ _):List tu).length;simp only [List.length_append,hF,ad];omega) (by simp [Value.cells,Value.oneCell']) ?_
  try simp only [k_ms,k_sz,k_ss,k_za,Nat.reduceAdd]
  refine r2_ ?_;refine kw_ [0,1,5,6,19,7,29] ?_;have C:(filt s (l.take (j+1))).flatMap wrF ++ ((G.drop 3 ++ wrF w) ++ (l.drop (j+1)).flatMap wrF)=spl ((filt s (l.take j)).flatMap wrF ++ (G ++ (l.drop j).flatMap wrF)) ((k:Int).toNat*3) (Value.agg #[.string w.1,.int .i64 w.2.1,.string w.2.2]).cells.toList:=by show _=spl _ _ (wrF w);rw [ziu vd vd rfl,A,hR,List.flatMap_append,List.append_assoc (G.drop 3)];simp
  refine r13_ ?_;refine ⟨(j+1,G.drop 3 ++ wrF w),?_,?_,?_,?_⟩<;>try dsimp only
  ·exact ⟨rfl,rfl,zan (by rw [A,List.length_append,H];simp),rfl,trivial⟩
  ·simp only [C];exact zae
  ·exact ⟨hc,by simp only [A,List.length_append,H];simp;omega,by simp only [A,List.length_append,List.length_drop,zcD,H];simp;omega⟩
  omega
 have hc:j=l.length:=by have:=of_decide_eq_false hc;omega
 subst hc;rw [List.take_length] at H hF;rw [List.take_length,List.drop_length,List.flatMap_nil,List.append_nil,H];have aa:((filt s l).flatMap wrF ++ G).length=l.length*3:=by rw [List.length_append,hF];omega
 refine r9_ ?_;refine rC (vE k underlying29 zaR rfl rfl rfl vd vd) ?_;refine v_ (k:=l.length-k) zdW rfl (by simp only [List.mem_cons,List.not_mem_nil,or_false];rintro v (rfl | rfl | rfl) <;> rfl) rfl (vf _ _ _) (by simp only [aa];omega) (.inl (by simp only [aa];omega)) ?_;intro zs az;refine r6_ ?_;refine rC (vM k underlying29 zaR rfl rfl rfl vd) ?_;refine r3_ ?_;rw [Mem.set_set];refine AWP.cut (cs':=(filt s l).flatMap wrF) (m':=c*3) (zkS vd (List.prefix_append _ _)) (Nat.le_refl _) ?_;refine s1_ ?_;refine ⟨_,_,⟨_,_,rfl,rfl,rfl⟩,Mem.Less.refl _,?_⟩;exact ⟨zbE ak vd,by rfl,rfl⟩
def forgetD (d:D) (s:tt):D:={ d with waits:=filt s d.waits }
theorem zl2 (p:Nat) (d:D) (s:tt) (S:Mem) (oE oW:Option (Nat × Nat)) (U:OkV S p d oE oW) (ae:d.waits.length<=16384) :
  ACall prog 182 #[.pointer (some ⟨p,0,none⟩),.string s] (devM S p d oE oW) λr S'=>r = .tuple #[]/\OkV S p (forgetD d s) oE oW/\S'=devM S p (forgetD d s) oE oW:=by
 have hp:(devM S p d oE oW).own p=some (devB d oE oW):=vf _ _ _;have A:=U.apart;have W:=U.fits;have C:=zsA A (devB d oE oW) (d:=d);have af:=ziq A W (devB d oE oW);rw [<- zcw] at C;generalize hM:devM S p d oE oW=M at *;unfold devB at hp;refine k_E2 15 func182 ?_;refine r2_ ?_;refine vB (zab rfl) rfl rfl ?_;intro V Y;have J:=Y
 repeat ((with_reducible replace J:=zaa J);obtain ⟨J,_⟩:=J)
 have:=J.ne hp;have:=J.ne' hp
 refine nl_ ?_;refine r2_ ?_;have nb:∀ q c,oW=some (q,c)->q≠V:=λq c e h=>by subst h;have:=Y.1;rw [<- C,e] at this;rw [show (outN 3 _ (some (q,c)) _ _).own q=_ from vf _ _ _] at this;cases this
 have H:=zqu ((baseW S p d oE (devB d oE oW)).set V ⟨9,[.string s],1⟩) oW d.waits s V (af.set (λq c e=>Ne.symm (nb q c e))) ae ((zkA (zcq (vf _ _ _) rfl) (zmT _ _)).knows);rw [zbD nb,C] at H;refine r8_ ?_;refine ca_ rfl (H) ?_;rintro _ S1 ⟨aa,rfl,h1⟩;rw [h1,zbD nb];clear h1 S1;have I:OkO (baseW S p d oE (devB d oE oW)) oW (filt s d.waits).length:=aa.unset;have Q:((outN 3 (baseW S p d oE (devB d oE oW)) oW wrT ((filt s d.waits).flatMap wrF)).set V ⟨9,[.string s],1⟩).own p=some (devB d oE oW):=(vg _ _ (by assumption)).trans (zda (vf _ _ _) (λq c e=>(A.w q c e).2));have ad:=znB (d':=forgetD d s) A I rfl;unfold devB at Q;refine r3_ ?_;refine vk rfl rfl zdm (zdo _ _) Q (show 2<5 from by decide) (zfa _ _) ?_
 try simp only [k_ms,k_sz,k_ss,k_za,Nat.reduceAdd]
 refine s1_ ?_;have X:Fresh (baseW S p d oE (devB d oE oW)) V:=(zaN (n:=3) (o:=oW) (e:=wrT) (cs:=d.waits.flatMap wrF) (by rw [C];exact Y)).1;refine ⟨_,devM S p (forgetD d s) oE oW,rfl,(by rw [<- ad];exact Less.set (vh _ _ _ (zbv X nb).1) _ _),?_⟩;exact ⟨rfl,zgB (zhn A I) (zsB W I rfl rfl),rfl⟩
def eraseD (d:D) (s:tt):D:={ d with ext:=d.ext.eraseIdx (pos d.ext s) }
theorem ziv {d:D} (s:tt) (h:pos d.ext s<d.ext.length):(eraseD d s).ext.length=d.ext.length-1:=by
 unfold eraseD;rw [List.length_eraseIdx_of_lt h]
theorem znF {S:Mem} {p:Nat} {d:D} {oE oW:Option (Nat × Nat)} {s:tt} (A:Apart S p oE oW) (H:Fits d oE oW) (h:pos d.ext s<d.ext.length) (C:OkO (baseE S p d oW (devB d oE oW)) oE (d.ext.length-1)) :
  OkV S p (eraseD d s) oE oW/\(outN 2 (baseE S p d oW (devB d oE oW)) oE extT ((d.ext.eraseIdx (pos d.ext s)).flatMap extF)).set p (devB (eraseD d s) oE oW)=devM S p (eraseD d s) oE oW/\(outN 2 (baseE S p d oW (devB d oE oW)) oE extT ((d.ext.eraseIdx (pos d.ext s)).flatMap extF)).own p=some (devB d oE oW) :=
 ⟨zgB (zjG A C) (zsz H C (ziv s h) rfl),znA (d':=eraseD d s) A C rfl,zda (vf _ _ _) (λq c e=>(A.e q c e).2)⟩
def freeD (d:D) (s:tt):D × Int:=if has d.ext s=true then (forgetD (eraseD d s) s,0) else (d,3)
theorem zqv (p:Nat) (d:D) (s:tt) (S:Mem) (oE oW:Option (Nat × Nat)) (A:OkV S p d oE oW) (hR:Right d) :
  ACall prog 125 #[.pointer (some ⟨p,0,none⟩),.string s] (devM S p d oE oW) (DevR S p (freeD d s)):=by
 have H:=zbl hR;have hp:(devM S p d oE oW).own p=some (devB d oE oW):=vf _ _ _;have hE:Sl 2 extF (devM S p d oE oW) (outV oE d.ext.length) d.ext:=((zc8 zbd (e:=extT) A.dk.e rfl (Nat.le_trans H.1 (by decide))).less (zbr A.dk.w)).less (vh _ _ _ A.fr.1);have Q:=A.apart;have aa:=A.fits;have Y:=zin Q (devB d oE oW) (d:=d);have ah:=zio Q aa (devB d oE oW);rw [<- zcw] at Y;have ag:=zex hR.ex.asc s;have al:=hR.wl;unfold freeD;by_cases q:has d.ext s=true
 ·obtain ⟨J,he⟩:=ag.1 q;rw [if_pos q];have I:=zts _ oE d.ext (pos d.ext s) ah J H.1;rw [Y] at I;have aj:=ziv s J;have V:=λai ak h=>zl2 p (eraseD d s) s S ai ak h al;generalize hM:devM S p d oE oW=M at *;unfold devB at hp;refine k_E2 35 func125 ?_;refine r13_ ?_;refine ca_ rfl (zbA _ d.ext s _ hE hR.ex.asc (Nat.le_trans H.1 (by decide))) ?_;rintro _ U ⟨rfl,C⟩;rw [C,q];clear C U;refine r14_ ?_;refine cF_ ?_;refine r13_ ?_;refine ca_ rfl (I) ?_;rintro _ U ⟨af,rfl,C⟩;rw [C];clear C U;obtain ⟨X,ae,W⟩:=znF Q aa J af;unfold devB at W;refine r3_ ?_;refine vk rfl rfl zeA (zdo _ _) W (show 1<5 from by decide) (zfa _ _) ?_
  try simp only [k_ms,k_sz,k_ss,k_za,Nat.reduceAdd]
  refine r2_ ?_;rw [<- aj];refine AWP.less (devM S p (eraseD d s) oE oW) (by rw [<- ae];exact Mem.Less.refl _) ?_;refine r4_ ?_;refine ca_ rfl (V oE oW X) ?_;rintro _ U ⟨rfl,ad,C⟩;rw [C];clear C U;refine r8_ ?_;refine ⟨_,_,⟨_,_,rfl,rfl,rfl⟩,Mem.Less.refl _,?_⟩;exact ⟨oE,oW,ad,rfl,rfl⟩
 rw [if_neg q];generalize hM:devM S p d oE oW=M at *;unfold devB at hp;refine k_E2 35 func125 ?_;refine r13_ ?_;refine ca_ rfl (zbA _ d.ext s _ hE hR.ex.asc (Nat.le_trans H.1 (by decide))) ?_;rintro _ U ⟨rfl,C⟩;rw [C,Bool.eq_false_iff.2 q];clear C U;refine r7_ ?_;refine kw_ [0,1,4,5,6] ?_;refine r7_ ?_;refine cT_ ?_;refine r7_ ?_;refine ⟨_,M,⟨_,_,rfl,rfl,rfl⟩,zae,?_⟩;exact ⟨oE,oW,A,rfl,hM.symm⟩
theorem znG {l:List Ext} {s:tt} {x:Ext} (C:pos l s<l.length) (H:l[pos l s].1=s) (hx:x ∈ l) (A:x.1≠s):x ∈ l.eraseIdx (pos l s):=by
 rw [List.eraseIdx_eq_take_drop_succ,List.mem_append];rw [<- List.take_append_drop (pos l s) l,List.mem_append] at hx;rcases hx with hx | hx
 ·exact .inl hx
 rw [zcW C] at hx;rcases List.mem_cons.1 hx with rfl | hx
 ·exact absurd H A
 exact .inr hx
theorem zl3 {l:List Ext} {i:Nat} (h:i<l.length):used (l.eraseIdx i)+sec l[i]=used l:=by
 have e:used l=used (l.take i ++ l.drop i):=by rw [List.take_append_drop]
 rw [e,List.eraseIdx_eq_take_drop_succ,zcW h,za_,za_];simp only [used];omega
theorem zjJ {l:List Ext} {size:Int} {i:Nat} (h:ERight l size) (hi:i<l.length):ERight (l.eraseIdx i) size :=
 ⟨λx A=>h.ok x (List.mem_of_mem_eraseIdx A),h.asc.sublist (List.eraseIdx_sublist l i),by have:=zl3 hi;have:=h.us;omega⟩
theorem zsC {s:tt} {w:Wr}:isN s w=false <-> w.1≠s:=by unfold isN;simp
theorem zl4 {d:D} {s:tt} (h:Right d) (V:has d.ext s=true):Right (forgetD (eraseD d s) s):=by
 obtain ⟨A,Q⟩:=(zex h.ex.asc s).1 V;refine ⟨h.s0,h.s1,Nat.le_trans (ztt _ _) h.wl,h.fu,zjJ h.ex A,λw W=>?_⟩;obtain ⟨C,H⟩:=List.mem_filter.1 W;have I:w.1≠s:=zsC.1 (by simpa using H);obtain ⟨x,U,e,J⟩:=h.wr w C;exact ⟨x,znG A Q U (by rw [e];exact I),e,J⟩
def freesD (d0:D):D->List tt->D × Int
  | d,[]=>(d,0)
  | d,s :: l=>if (freeD d s).2=0 then freesD d0 (freeD d s).1 l else (d0,(freeD d s).2)
theorem zaK {d:D} (h:Right d):d.ext.length<=9223372036854775807/\d.waits.length<=9223372036854775807:=⟨Nat.le_trans (zbl h).1 (by decide),Nat.le_trans h.wl (by decide)⟩
def addW (d:D) (w:Wr):D:={ d with waits:=d.waits ++ [w] }
def fuseD (d:D):D × Int:=if d.fuse=0 then ({ d with down:=true },10) else if 0<d.fuse then ({ d with fuse:=d.fuse-1 },0) else (d,0)
def writeD (d:D) (s:tt) (i:Int) (data:tt):D × Int:=if (placeD d s i).2≠0 then (d,(placeD d s i).2) else if data.size≠64 then (d,2) else if d.waits.length=16384 then (d,8) else fuseD (addW d (s,i,data))
theorem zqw (d:D) (w:Wr):(addW d w).waits.flatMap wrF=d.waits.flatMap wrF ++ wrF w:=by unfold addW;simp
theorem zfM (d:D) (w:Wr):(addW d w).waits.length=d.waits.length+1:=by unfold addW;simp
theorem zd2 (p:Nat) (d:D) (s:tt) (i:Int) (data:tt) (S:Mem) (oE oW:Option (Nat × Nat)) (A:OkV S p d oE oW) (hR:Right d) (ay:d.fuse<=9223372036854775807) :
  ACall prog 50 #[.pointer (some ⟨p,0,none⟩),.string s,.int .i64 i,.string data] (devM S p d oE oW) (DevR S p (writeD d s i data)):=by
 have H:=zaK hR;have aC:=hR.wl;have aD:=hR.fu;have I:=zil p d s i _ (A.rd H.1 H.2) hR;have hp:(devM S p d oE oW).own p=some (devB d oE oW):=vf _ _ _;have Q:=A.apart;have ag:=A.fits;have ae:=zsA Q (devB d oE oW) (d:=d);have ai:=ziq Q ag (devB d oE oW);rw [<- zcw] at ae;have ad:=zas zcD d.waits;have W:=zch (e:=wrT) ai ad;rw [ae] at W;have av:=zcw S p d oE oW;have am:∀ Y,(devM S p (addW d (s,i,data)) oE Y).own p=some (devB (addW d (s,i,data)) oE Y):=λY=>vf _ _ _;obtain ⟨qw,dw,af⟩:=zbj A.dk.w;generalize hM:devM S p d oE oW=M at *;unfold devB at hp;unfold writeD;by_cases q1:(placeD d s i).2=0
 ·rw [if_neg (λh=>h q1)];rw [q1] at I;by_cases q2:data.size=64
  ·rw [if_neg (λh=>h q2)];by_cases q3:d.waits.length=16384
   ·rw [if_pos q3];rw [af] at hp;refine k_E4 75 func50 ?_;refine r11_ ?_;refine cp_ rfl (I) ?_;refine r13_ ?_;refine cF_ ?_;refine r12_ ?_;refine cF_ ?_;refine r12_ ?_;refine cT_ ?_;refine r8_ ?_;refine ⟨_,M,⟨_,_,rfl,rfl,rfl⟩,zae,?_⟩;exact ⟨oE,oW,A,rfl,hM.symm⟩
   rw [if_neg q3];refine k_E4 75 func50 ?_;refine r11_ ?_;refine cp_ rfl (I) ?_;refine r7_ ?_;refine kw_ [0,1,2,3,8,10] ?_;refine r6_ ?_;refine cF_ ?_;refine r12_ ?_;refine cF_ ?_;refine r7_ ?_;refine rC ((by rw [af];exact vL underlying29 rfl)) ?_;refine r4_ ?_;refine cF_ ?_;refine r15_ ?_;refine uj (zab rfl) zdW rfl (by decide) (by decide) rfl rfl ?_;intro aA aa;have C:=aa
   repeat ((with_reducible replace C:=zaa C);obtain ⟨C,_⟩:=C)
   have:=C.ne hp;have:=C.ne' hp
   refine vJ (n:=3) (o:=oW) (k:=d.waits.length) (m:=1) (cs:=d.waits.flatMap wrF) (zab rfl) zdW rfl rfl ad ai (W.temp aa) rfl (zfy (vf _ _ _) List.prefix_rfl) rfl (λv hv=>zsy [(s,i,data)] v (by rw [List.flatMap_cons,List.flatMap_nil,List.append_nil];exact hv)) vd vd ?_;intro o' U;have ac:∀ cs,(outN 3 (baseW S p d oE (devB d oE oW)) o' wrT cs).own p=some (devB d oE oW):=λcs=>zda (vf _ _ _) (λq c e=>((zhn Q U).w q c e).2);have ah:=znB (d':=addW d (s,i,data)) Q U rfl;rw [zqw] at ah;unfold devB at ac;refine r3_ ?_;refine vk rfl rfl zdm (zdo _ _) (ac _) (show 2<5 from by decide) (zfa _ _) ?_
   try simp only [k_ms,k_sz,k_ss,k_za,Nat.reduceAdd]
   refine r2_ ?_;refine AWP.less (devM S p (addW d (s,i,data)) oE o') (by rw [<- ah];unfold devB;rw [zfM];exact Mem.Less.refl _) ?_;have V:=am o';have J:∀ d',d'.waits=(addW d (s,i,data)).waits->d'.ext=d.ext->OkV S p d' oE o':=λd' e1 e2=>zgB (zhn Q U) (zsB ag U (by rw [e1,zfM]) e2);unfold devB at V;simp only [show (addW d (s,i,data)).size=d.size from rfl,show (addW d (s,i,data)).fuse=d.fuse from rfl,show (addW d (s,i,data)).down=d.down from rfl] at V;have ao:(addW d (s,i,data)).fuse=d.fuse:=rfl;generalize X:devM S p (addW d (s,i,data)) oE o'=M2 at *;unfold fuseD;rw [ao];by_cases q4:d.fuse=0
   ·rw [if_pos q4];refine r13_ ?_;refine kw_ [0,1,2,3,8,10,19,21,25,48] ?_;refine cT_ ?_;refine r6_ ?_;refine vk rfl rfl zfz rfl V (show 4<5 from by decide) rfl ?_
    try simp only [k_ms,k_sz,k_ss,k_za,Nat.reduceAdd]
    refine r10_ ?_;refine ⟨_,devM S p { addW d (s,i,data) with down:=true } oE o',⟨_,_,rfl,rfl,rfl⟩,(by rw [<- X];unfold devM;rw [Mem.set_set];exact Mem.Less.refl _),?_⟩;exact ⟨oE,o',J _ rfl rfl,rfl,rfl⟩
   rw [if_neg q4];by_cases q5:0<d.fuse
   ·rw [if_pos q5];refine r13_ ?_;refine cF_ ?_;refine r11_ ?_;refine cT_ ?_;refine r10_ ?_;refine vk rfl rfl zbk rfl V (show 3<5 from by decide) rfl ?_
    try simp only [k_ms,k_sz,k_ss,k_za,Nat.reduceAdd]
    refine r9_ ?_;refine ⟨_,devM S p { addW d (s,i,data) with fuse:=d.fuse-1 } oE o',⟨_,_,rfl,rfl,rfl⟩,(by rw [<- X];unfold devM;rw [Mem.set_set];exact Mem.Less.refl _),?_⟩;exact ⟨oE,o',J _ rfl rfl,rfl,rfl⟩
   rw [if_neg q5];refine r13_ ?_;refine kw_ [0,1,2,3,8,10,19,21,25,48] ?_;refine cF_ ?_;refine r11_ ?_;refine cF_ ?_;refine r9_ ?_;refine ⟨_,devM S p (addW d (s,i,data)) oE o',⟨_,_,rfl,rfl,rfl⟩,(by rw [<- X];exact Mem.Less.refl _),?_⟩;exact ⟨oE,o',J _ rfl rfl,rfl,rfl⟩
  rw [if_pos q2];refine k_E4 75 func50 ?_;refine r11_ ?_;refine cp_ rfl (I) ?_;refine r13_ ?_;refine cF_ ?_;refine r12_ ?_;refine cT_ ?_;refine r8_ ?_;refine ⟨_,M,⟨_,_,rfl,rfl,rfl⟩,zae,?_⟩;exact ⟨oE,oW,A,rfl,hM.symm⟩
 rw [if_pos q1];have aB:(placeD d s i).2=1\/(placeD d s i).2=3:=by
  unfold placeD at q1 ⊢;repeat' split
  all_goals simp_all
 refine k_E4 75 func50 ?_;refine r11_ ?_;refine cp_ rfl (I) ?_;refine r7_ ?_;refine kw_ [0,1,2,3,8,10] ?_;refine r6_ ?_;refine cT_ ?_;refine r8_ ?_;refine ⟨_,M,⟨_,_,rfl,rfl,rfl⟩,zae,?_⟩;exact ⟨oE,oW,A,rfl,hM.symm⟩
theorem zkT {α : Type} {n:Nat} {f : α->List tu} (A:∀ x,(f x).length=n) (l:List α) (k:Nat) (y : α) (h:k<l.length) (q:Nat) (v:tu) (I:q<n) (H:(f l[k]).set q v=f y):(l.flatMap f).set (k*n+q) v=(l.set k y).flatMap f:=by
 have e1:l=l.take k ++ l[k] :: l.drop (k+1):=by rw [<- zcW h,List.take_append_drop]
 have e2:l.set k y=l.take k ++ y :: l.drop (k+1):=by rw [List.set_eq_take_append_cons_drop,if_pos h]
 rw [e2]
 conv=>lhs;rw [e1]
 rw [List.flatMap_append,List.flatMap_append,List.flatMap_cons,List.flatMap_cons];have C:=zas A (l.take k);rw [List.length_take,Nat.min_eq_left (Nat.le_of_lt h)] at C;rw [List.set_append_right _ _ vd,List.set_append_left _ _ (by rw [A];omega),show k*n+q-(List.flatMap f (List.take k l)).length=q from by omega,H]
theorem ziw {S:Mem} {b o:Nat} {cs:List tu} (h:S.Knows ⟨b,o,none⟩ cs) (k:Nat) {v:tu} (C:cs[k]?=some v):S.Knows ⟨b,o+k,none⟩ [v]:=λw H j u A=>by
 cases j with
 | zero =>
  simp only [List.getElem?_cons_zero,Option.some.injEq] at A;subst A;have:=h w H k v C;rw [zaE] at this ⊢;exact this
 | succ j=>simp at A
theorem zqx {S:Mem} {p:Nat} {d:D} {b c:Nat} {oW:Option (Nat × Nat)} (h:OkV S p d (some (b,c)) oW):(devM S p d (some (b,c)) oW).own b=some ⟨extT,d.ext.flatMap extF,c*2⟩:=by
 rw [zcw,<- zin h.apart];exact vf _ _ _
theorem zqy {S:Mem} {p:Nat} {d d':D} {b c:Nat} {oW:Option (Nat × Nat)} (h:OkV S p d (some (b,c)) oW) (A:d'.waits=d.waits) (H:d'.ext.length=d.ext.length) (Q:d'.size=d.size) (J:d'.fuse=d.fuse) (I:d'.down=d.down):(devM S p d (some (b,c)) oW).set b ⟨extT,d'.ext.flatMap extF,c*2⟩=devM S p d' (some (b,c)) oW/\OkV S p d' (some (b,c)) oW:=by
 have C:=h.fits;have e:devB d (some (b,c)) oW=devB d' (some (b,c)) oW:=by unfold devB;rw [A,H,Q,J,I]
 refine ⟨?_,zgB h.apart ⟨(λx=>by cases x),λx=>by rw [A];exact C.w0 x,λb c x=>by rw [H];exact C.e b c x,λb c x=>by rw [A];exact C.w b c x⟩⟩;rw [zcw,zcw,<- zin h.apart,<- zin h.apart,e];unfold baseE;rw [A];exact Mem.set_set _ _ _ _
theorem zjK {d:D} (A:Right d) (s:tt) (i:Int) (data:tt):(writeD d s i data).1.ext.length<=9223372036854775807/\(writeD d s i data).1.waits.length<=9223372036854775807:=by
 have h:=zaK A;have H:=A.wl;have C:=zfM d (s,i,data);unfold writeD fuseD
 repeat' split
 ·exact h
 ·exact h
 ·exact h
 all_goals exact ⟨h.1,by simp only;omega⟩
end
section
open Go.RowKit
namespace Disk
open Mv
def putS (x:tt) (w:Wr):tt:=bs (x.data.toList.take (64*w.2.1.toNat) ++ w.2.2.data.toList ++ x.data.toList.drop (64*w.2.1.toNat+64))
theorem znH {x:tt} {w:Wr} (C:64*w.2.1.toNat+64<=x.size) (A:w.2.2.size=64):(putS x w).size=x.size:=by
 unfold putS;rw [zaJ];simp only [List.length_append,List.length_take,List.length_drop,za6,A];omega
def accW (kp:Nat->Bool) (x:Ext) (l:List Wr):Nat->Option tt
  | 0=>none
  | n+1=>match l[n]? with
    | some w=>if w.1=x.1/\kp n=true then some (putS ((accW kp x l n).getD x.2) w) else accW kp x l n
    | none=>accW kp x l n
theorem zfN (kp:Nat->Bool) (x:Ext) (l:List Wr) (n:Nat) (h:n<l.length):accW kp x l (n+1)=if l[n].1=x.1/\kp n=true then some (putS ((accW kp x l n).getD x.2) l[n]) else accW kp x l n:=by
 rw [accW,List.getElem?_eq_getElem h]
def Fit (x:Ext) (l:List Wr):Prop:=∀ w ∈ l,w.1=x.1->0<=w.2.1/\64*w.2.1.toNat+64<=x.2.size/\w.2.2.size=64
theorem zfb {kp:Nat->Bool} {x:Ext} {l:List Wr} (C:Fit x l):∀ n,n<=l.length->((accW kp x l n).getD x.2).size=x.2.size
 | 0,_=>rfl
 | n+1,h=>by
  have A:=zfb (kp:=kp) C n vd;rw [zfN kp x l n vd];split
  ·rename_i hc;obtain ⟨_,H,I⟩:=C _ (List.getElem_mem (by omega:n<l.length)) hc.1;simp only [Option.getD_some];rw [znH (by rw [A];exact H) I];exact A
  exact A
def doneX (kp:Nat->Bool) (l:List Wr) (x:Ext):Ext:=(x.1,(accW kp x l l.length).getD x.2)
def settleD (d:D) (kp:Nat->Bool):D:={ d with ext:=d.ext.map (doneX kp d.waits),waits:=[] }
def mixE (kp:Nat->Bool) (w:List Wr) (l:List Ext) (i:Nat):List Ext:=(l.take i).map (doneX kp w) ++ l.drop i
theorem zqz (kp:Nat->Bool) (w:List Wr) (l:List Ext) (i:Nat):(mixE kp w l i).length=l.length:=by unfold mixE;simp;omega
theorem zix (kp:Nat->Bool) (w:List Wr) (l:List Ext):mixE kp w l 0=l:=by simp [mixE]
theorem zkU (kp:Nat->Bool) (w:List Wr) (l:List Ext):mixE kp w l l.length=l.map (doneX kp w):=by simp [mixE]
theorem znI (kp:Nat->Bool) (w:List Wr) (l:List Ext) (i:Nat) (h:i<l.length):mixE kp w l i=(l.take i).map (doneX kp w) ++ l[i] :: l.drop (i+1):=by unfold mixE;rw [List.drop_eq_getElem_cons h]
theorem zqA (kp:Nat->Bool) (w:List Wr) (l:List Ext) (i:Nat) (h:i<l.length) (h':i<(mixE kp w l i).length):(mixE kp w l i)[i]=l[i]:=by
 simp only [znI kp w l i h];rw [List.getElem_append_right (by simp;omega)];simp [Nat.min_eq_left (Nat.le_of_lt h)]
theorem znJ (kp:Nat->Bool) (w:List Wr) (l:List Ext) (i:Nat) (h:i<l.length):mixE kp w l (i+1)=(mixE kp w l i).set i (doneX kp w l[i]):=by
 rw [znI kp w l i h,List.set_append_right _ _ (by simp;omega)];unfold mixE;rw [zb4 h,List.map_append,List.append_assoc,List.length_map,List.length_take,Nat.min_eq_left (Nat.le_of_lt h),Nat.sub_self];rfl
theorem zfO {d:D} (h:Right d) {x:Ext} (H:x ∈ d.ext):Fit x d.waits:=λw J e=>by
 obtain ⟨y,A,e2,I,Q,C⟩:=h.wr w J;have:y=x:=znj h.ex.asc A H (e2.trans e);subst this;have:=(zc9 (h.ex.ok y A)).2;exact ⟨I,by omega,C⟩
end Disk
end
section
open Go.RowKit
open Mv Disk
section
variable {P:tz} {N:Nat} {ops:Array Oper} {E:Env} {S:Mem} {K:Env->Mem->Prop}
variable {ty:tx} {pos:String} {aft:Array Edge} {gd:Option (Nat × Bool)}
theorem Mv.ARun.copyStr {os:List Oper} {T C e:tx} {y:Nat} {z:List tu} {H Q:tw} {b o k c d:Nat} {r:Blk} {t:tt} (hn:d<N) (hT:slT P T=some (e,1,y,z))
  (hx:ev E H=some (.slice (some ⟨b,o,none⟩) k c)) (V:S.own b=some r) (hy:ev E Q=some (.string t)) (J:t.size<=k) (ho:o+t.size<=r.cells.length)
  (h:ARun P N ops os K ((d,.int .i64 (t.size:Int)) :: E) (S.set b ⟨r.elem,spl r.cells o (cellsB t.data.toList),r.room⟩)) :
  ARun P N ops (⟨some d,.call ⟨.builtin .copy,#[H,Q],#[T,C]⟩,ty,pos,aft,none⟩ :: os) K E S:=λa w g A=>by
 rw [if_pos (by simp [Region.wanted])];obtain ⟨hu,i,v,e1,e2,e3,e4,e5⟩:=za4 hT;have I:(execOp a.eval ⟨some d,.call ⟨.builtin .copy,#[H,Q],#[T,C]⟩,ty,pos,aft,none⟩).run P w=((Builtin.copy_ #[T,C] ty #[.slice (some ⟨b,o,none⟩) k c,.string t]).run P w).andThen λv w'=>.ok (.value v) w':=by
  simp [execOp,resolve,invoke,builtin,g.ev hx,g.ev hy]
 unfold Oper.wp;rw [I];obtain ⟨cur,fz,U,X,k3,k4⟩:=A.own b r V;have W:r.cells.length<=cur.size:=by have:=X.length_le;simpa using this
 have hl:(cellsB t.data.toList).length=t.size:=by rw [zaF,za6]
 obtain ⟨q1,Y⟩:=zbp (P:=P) A V (vs:=cellsB t.data.toList) (o:=o) vd (.inl (by rw [hl];exact ho)) (λv A=>by
  obtain ⟨x,_,rfl⟩:=List.mem_map.1 A;rfl)
 have hr:=run_copy_string (P:=P) w T C ty e b o k c t hu (λw=>by simp [Go.sizeOf,typeInfo,e1,e3]) J
  (λj hj=>by simp [World.cell?,U];omega) (λj hj=>by have:=k4 (o+j) (.inl vd);simpa [World.frozen?,U] using this)
 rw [hr];exact ⟨_,_,h,g.put hn _,Y⟩
end
theorem znK {l t:List UInt8} {k:Nat} (h:k+t.length<=l.length):spl (cellsB l) k (cellsB t)=cellsB (l.take k ++ t ++ l.drop (k+t.length)):=by
 unfold spl cellsB;simp only [List.map_append,List.map_take,List.map_drop,List.length_map]
theorem zgC {x:tt} {w:Wr} (h:64*w.2.1.toNat+64<=x.size) (A:w.2.2.size=64):spl (cellsB x.data.toList) (0+64*w.2.1.toNat*1) (cellsB w.2.2.data.toList)=cellsB (putS x w).data.toList:=by
 rw [show 0+64*w.2.1.toNat*1=64*w.2.1.toNat from by omega,znK (by rw [za6,za6,A];exact h),za6,A];unfold putS;rfl
end
section
open Go.RowKit
open Mv Disk
abbrev u8T:tx:=5
def OkB (M:Mem) (o:Option (Nat × Nat)) (n:Nat):Prop:=∀ b c,o=some (b,c)->Fresh M b/\n<=c
theorem zl5 (p:Nat) (d:D) (S:Mem) (oE oW:Option (Nat × Nat)) (ay:OkV S p d oE oW) (hR:Right d) (f:tA) (I:List tu) (aq:goFn prog f=true) (kp:Nat->Bool)
  (U:∀ (k:Nat) (M:Mem),k<d.waits.length->S.Less M->ACall prog f (([] : List tu) ++ [Value.int .i64 (k:Int)] ++ I).toArray M λr S'=>r = .bool (kp k)/\S'=M) :
  ACall prog 102 #[.pointer (some ⟨p,0,none⟩),.func (.func f) #[] I.toArray] (devM S p d oE oW) λr S'=>r = .tuple #[]/\OkV S p (settleD d kp) oE none/\S'=devM S p (settleD d kp) oE none:=by
 have bn:=zbl hR;have aC:=zaK hR;have bB:=hR.wl;have hp:(devM S p d oE oW).own p=some (devB d oE oW):=vf _ _ _;obtain ⟨qe,de,aZ⟩:=zbj ay.dk.e;obtain ⟨qw,dw,az⟩:=zbj ay.dk.w;have a8:=hp;unfold devB at a8;refine k_E2 73 func102 ?_;refine r8_ ?_;refine rC ((by rw [aZ];exact vL underlying28 rfl)) ?_;refine r4_ ?_;refine AWP.loop (X:=Nat) (λx=>[(0,.pointer (some ⟨p,0,none⟩)),(1,.func (.func f) #[] I.toArray),(13,outV oE d.ext.length),(14,.int .i64 d.ext.length),(15,.int .i64 x)]) (λx=>devM S p { d with ext:=mixE kp d.waits d.ext x } oE oW) (λx=>x<=d.ext.length/\OkV S p { d with ext:=mixE kp d.waits d.ext x } oE oW) (λx=>d.ext.length-x) (0) ⟨rfl,rfl,rfl,rfl,rfl,trivial⟩ (by rw [zix];exact Mem.Less.refl _) (⟨Nat.zero_le _,by rw [zix];exact ay⟩) ?_;rintro i ⟨hi,H⟩;(try dsimp only at *);have a4:=zqz kp d.waits d.ext i;have ad:(devM S p { d with ext:=mixE kp d.waits d.ext i } oE oW).own p=some (devB { d with ext:=mixE kp d.waits d.ext i } oE oW):=vf _ _ _;unfold devB at ad;simp only at ad;refine r6_ ?_;refine vp rfl (λhc=>?_) (λhc=>?_)
 ·have hc:i<d.ext.length:=by have:=of_decide_eq_true hc;omega
  obtain ⟨⟨b,c⟩,rfl⟩ : ∃ q,oE=some q:=by cases hq:oE with | none=>(have:=H.fits.e0 hq;simp only at this;omega) | some q=>exact ⟨q,rfl⟩
  have am:=zqx H;have aF:=zqA kp d.waits d.ext i hc vd;have J:=znJ kp d.waits d.ext i hc;have aJ:=List.getElem_mem hc;have ax:=zfO hR aJ;have bi:=zcE hR aJ;have aP:=λn h=>zfb (kp:=kp) ax n h;have al:=H.less;have aQ:Sl 3 wrF (devM S p { d with ext:=mixE kp d.waits d.ext i } (some (b,c)) oW) (outV oW d.waits.length) d.waits:=(zc8 zcD (e:=wrT) H.dk.w rfl aC.2).less (vh _ _ _ H.fr.1);rw [az] at aQ;have a2:(devM S p { d with ext:=mixE kp d.waits d.ext i } (some (b,c)) oW).Knows ⟨b,0+i*2,none⟩ (extF d.ext[i]):=vA am _ _ (λj v hj=>by have:=zdV zbd (mixE kp d.waits d.ext i) i vd j v (by rw [aF];exact hj);rw [<- this];congr 1;omega);have a7:doneX kp d.waits d.ext[i]=(d.ext[i].1,(accW kp d.ext[i] d.waits d.waits.length).getD d.ext[i].2):=rfl;rw [a7] at J;have aM:=zfN kp d.ext[i] d.waits;have aB:=λy=>zqy (d':={ d with ext:=(mixE kp d.waits d.ext i).set i y }) H rfl (by simp) rfl rfl rfl;have bc:0+i*2+1<((mixE kp d.waits d.ext i).flatMap extF).length:=by rw [zas zbd,a4];omega
  simp only at am aB;generalize bz:d.ext[i]=x at *;unfold extF at a2;generalize be:devM S p { d with ext:=mixE kp d.waits d.ext i } (some (b,c)) oW=Mi at *;refine r7_ ?_;refine rC (vK underlying28 zay rfl rfl vd vd) ?_;refine s1_ ?_;refine ARun.alloc (zab rfl) zbH ?_;intro b5 f5;have g5:=f5
  repeat ((with_reducible replace g5:=zaa g5);obtain ⟨g5,_⟩:=g5)
  refine nl_ ?_;refine r4_ ?_;have bf:=f5.ne ad;refine r13_ ?_;refine rC ((by rw [az];exact vL underlying29 rfl)) ?_;rw [az];refine r4_ ?_;refine AWP.loop (X:=Nat × Option (Nat × Nat)) (λy=>[(0,.pointer (some ⟨p,0,none⟩)),(1,.func (.func f) #[] I.toArray),(13,outV (some (b,c)) d.ext.length),(14,.int .i64 d.ext.length),(15,.int .i64 i),(4,.int .i64 i),(5,.pointer (some ⟨b5,0,none⟩)),(6,outV y.2 x.2.size),(24,.slice qw d.waits.length dw),(25,.int .i64 d.waits.length),(26,.int .i64 y.1)]) (λy=>outM (Mi.set b5 ⟨179,[.string x.1,.string x.2],2⟩) y.2 u8T (cellsB ((accW kp x d.waits y.1).getD x.2).data.toList)) (λy=>y.1<=d.waits.length/\OkB (Mi.set b5 ⟨179,[.string x.1,.string x.2],2⟩) y.2 x.2.size/\(y.2=none <-> accW kp x d.waits y.1=none)) (λy=>d.waits.length-y.1) ((0,none)) ⟨rfl,rfl,rfl,rfl,rfl,rfl,rfl,rfl,rfl,rfl,rfl,trivial⟩ (Mem.Less.refl _) (⟨Nat.zero_le _,(λb c e=>by cases e),by simp [accW]⟩) ?_;rintro ⟨k,ob⟩ ⟨hk,aa,af⟩;(try dsimp only at *);have W:=aP k hk;refine r6_ ?_;refine vp rfl (λC=>?_) (λC=>?_)
  ·have C:k<d.waits.length:=(by have:=of_decide_eq_true C;omega);obtain ⟨_,_,a6,bo,bm,a5⟩:=id aQ;cases a6;obtain ⟨bw,ow,rfl,aU⟩:=a5.resolve_left (λe=>by rw [e] at C;simp at C);have aA:=aU k C;have A:=aM k C;have aN:=ax _ (List.getElem_mem C);generalize hw:d.waits[k]=w at *;unfold wrF at aA;rcases ob with _ | ⟨bd,cd⟩
   ·have Q:accW kp x d.waits k=none:=af.1 rfl;rw [Q] at A W;simp only [Option.getD_none] at A W;have a3:(Mi.set b5 ⟨179,[.string x.1,.string x.2],2⟩).own b5=some ⟨179,[.string x.1,.string x.2],2⟩:=vf _ _ _;simp only [outM,outV];have Y:Mi.Less (Mi.set b5 ⟨179,[.string x.1,.string x.2],2⟩):=vh _ _ _ f5.1;have aH:=aA.less Y;refine r7_ ?_;refine rC (vK underlying29 zaR rfl rfl vd vd) ?_;refine s1_ ?_;refine ARun.alloc (zab rfl) zbI ?_;intro b8 f8;have g8:=f8
    repeat ((with_reducible replace g8:=zaa g8);obtain ⟨g8,_⟩:=g8)
    refine nl_ ?_;refine r4_ ?_;by_cases hn:w.1=x.1
    ·by_cases V:kp k=true
     ·rw [if_pos ⟨hn,V⟩] at A;obtain ⟨aX,aK,aG⟩:=aN hn;refine r7_ ?_;refine rC (vi rfl rfl (zag (zaP _ _) (zaM hn))) ?_;refine r3_ ?_;refine rUn 36 ?_;refine vq (first:=[]) (cap:=I) (zab rfl) aq rfl rfl (U k _ C (al.trans (Y.trans zae))) ?_;rintro _ S1 ⟨rfl,h1⟩;rw [h1,V];clear h1 S1;refine r4_ ?_;refine kw_ [0,1,13,14,15,4,5,6,24,25,26,27,8,7,41] ?_;refine cF_ ?_;refine r9_ ?_;refine cT_ ?_;refine r3_ ?_;refine uX (zab rfl) zaA zbs rfl ?_;intro ba a1 a9 aI;have ag:=a9
      repeat ((with_reducible replace ag:=zaa ag);obtain ⟨ag,_⟩:=ag)
      refine r3_ ?_;refine dr_ [i0_,i1_,i2_,i3_,i4_,i5_,i6_,o7_] [7] ?_;refine r4_ ?_;refine dP (hc:=λ_=>vE (64*w.2.1.toNat) underlying57 zci rfl rfl vd vd vd) (h:=?_);refine r2_ ?_;refine zac rfl ?_;refine ARun.copyStr (zab rfl) zbn rfl own_ rfl vd (by simp only [zaF,za6];omega) ?_;have aE:=zgC (x:=x.2) (w:=w) aK aG;refine zad ⟨nz_,?_⟩;refine r8_ ?_;refine ⟨(k+1,some (ba,a1)),?_,?_,?_,?_⟩<;>try dsimp only
      ·exact ⟨rfl,rfl,rfl,rfl,rfl,rfl,rfl,rfl,rfl,rfl,zan (by simp),trivial⟩
      ·simp only [A,Option.getD_some,<- aE,outM];exact zae
      ·exact ⟨C,λb' c' e=>by cases e;exact ⟨zam ag (by assumption),aI⟩,by simp [A]⟩
      omega
     rw [if_neg (λh=>V h.2)] at A;refine r7_ ?_;refine rC (vi rfl rfl (zag (zaP _ _) (zaM hn))) ?_;refine r3_ ?_;refine rUn 36 ?_;refine vq (first:=[]) (cap:=I) (zab rfl) aq rfl rfl (U k _ C (al.trans (Y.trans zae))) ?_;rintro _ S1 ⟨rfl,h1⟩;rw [h1,Bool.eq_false_iff.2 V];clear h1 S1;refine r4_ ?_;refine cT_ ?_;refine r9_ ?_;refine ⟨(k+1,none),?_,?_,?_,?_⟩<;>try dsimp only
     ·exact ⟨rfl,rfl,rfl,rfl,rfl,rfl,rfl,rfl,rfl,rfl,zan (by simp),trivial⟩
     ·(try simp only [A,outM,Option.getD_none,Option.getD_some]);exact zae
     ·exact ⟨C,aa,by simp [A]⟩
     omega
    rw [if_neg (λh=>hn h.1)] at A;refine r7_ ?_;refine rC (vi rfl rfl (zag (zaP _ _) (zbh hn))) ?_;refine r8_ ?_;refine kw_ [0,1,13,14,15,4,5,6,24,25,26,27,8,7,41] ?_;refine cT_ ?_;refine r9_ ?_;refine ⟨(k+1,none),?_,?_,?_,?_⟩<;>try dsimp only
    ·exact ⟨rfl,rfl,rfl,rfl,rfl,rfl,rfl,rfl,rfl,rfl,zan (by simp),trivial⟩
    ·(try simp only [A,outM,Option.getD_none,Option.getD_some]);exact zae
    ·exact ⟨C,aa,by simp [A]⟩
    omega
   obtain ⟨ao,aY⟩:=aa bd cd rfl;obtain ⟨ai,aj⟩:=zaa ao;have ah:=Ne.symm aj;obtain ⟨cur,Q⟩ : ∃ cur,accW kp x d.waits k=some cur:=by cases h:accW kp x d.waits k with | none=>exact absurd (af.2 h) (by simp) | some cur=>exact ⟨cur,rfl⟩
   rw [Q] at A W ⊢;simp only [Option.getD_some] at A W ⊢;have a3:((Mi.set b5 ⟨179,[.string x.1,.string x.2],2⟩).set bd ⟨u8T,cellsB cur.data.toList,cd⟩).own b5=some ⟨179,[.string x.1,.string x.2],2⟩:=(vg _ _ ah).trans (vf _ _ _);simp only [outM,outV];have Y:Mi.Less ((Mi.set b5 ⟨179,[.string x.1,.string x.2],2⟩).set bd ⟨u8T,cellsB cur.data.toList,cd⟩):=(vh _ _ _ f5.1).trans (vh _ _ _ ao.1);have aH:=aA.less Y;refine r7_ ?_;refine rC (vK underlying29 zaR rfl rfl vd vd) ?_;refine s1_ ?_;refine ARun.alloc (zab rfl) zbI ?_;intro b8 f8;have g8:=f8
   repeat ((with_reducible replace g8:=zaa g8);obtain ⟨g8,_⟩:=g8)
   refine nl_ ?_;refine r4_ ?_;by_cases hn:w.1=x.1
   ·by_cases V:kp k=true
    ·rw [if_pos ⟨hn,V⟩] at A;obtain ⟨aX,aK,aG⟩:=aN hn;refine r7_ ?_;refine rC (vi rfl rfl (zag (zaP _ _) (zaM hn))) ?_;refine r3_ ?_;refine rUn 36 ?_;refine vq (first:=[]) (cap:=I) (zab rfl) aq rfl rfl (U k _ C (al.trans (Y.trans zae))) ?_;rintro _ S1 ⟨rfl,h1⟩;rw [h1,V];clear h1 S1;refine r4_ ?_;refine cF_ ?_;refine r9_ ?_;refine cF_ ?_;refine r2_ ?_;refine dr_ [i0_,i1_,i2_,i3_,i4_,i5_,i6_,o7_] [7] ?_;refine r4_ ?_;refine dP (hc:=λ_=>vE (64*w.2.1.toNat) underlying57 zci rfl rfl vd vd vd) (h:=?_);refine r2_ ?_;refine zac rfl ?_;refine ARun.copyStr (zab rfl) zbn rfl own_ rfl vd (by simp only [zaF,za6];omega) ?_;have aE:=zgC (x:=cur) (w:=w) vd aG;refine zad ⟨nz_,?_⟩;refine r8_ ?_;refine ⟨(k+1,some (bd,cd)),?_,?_,?_,?_⟩<;>try dsimp only
     ·exact ⟨rfl,rfl,rfl,rfl,rfl,rfl,rfl,rfl,rfl,rfl,zan (by simp),trivial⟩
     ·simp only [A,Option.getD_some,<- aE,outM];exact zae
     ·exact ⟨C,aa,by simp [A]⟩
     omega
    rw [if_neg (λh=>V h.2)] at A;refine r7_ ?_;refine rC (vi rfl rfl (zag (zaP _ _) (zaM hn))) ?_;refine r3_ ?_;refine rUn 36 ?_;refine vq (first:=[]) (cap:=I) (zab rfl) aq rfl rfl (U k _ C (al.trans (Y.trans zae))) ?_;rintro _ S1 ⟨rfl,h1⟩;rw [h1,Bool.eq_false_iff.2 V];clear h1 S1;refine r4_ ?_;refine kw_ [0,1,13,14,15,4,5,6,24,25,26,27,8,7,41] ?_;refine cT_ ?_;refine r9_ ?_;refine ⟨(k+1,some (bd,cd)),?_,?_,?_,?_⟩<;>try dsimp only
    ·exact ⟨rfl,rfl,rfl,rfl,rfl,rfl,rfl,rfl,rfl,rfl,zan (by simp),trivial⟩
    ·(try simp only [A,outM,Option.getD_none,Option.getD_some]);exact zae
    ·exact ⟨C,aa,by simp [A]⟩
    omega
   rw [if_neg (λh=>hn h.1)] at A;refine r7_ ?_;refine rC (vi rfl rfl (zag (zaP _ _) (zbh hn))) ?_;refine r8_ ?_;refine cT_ ?_;refine r9_ ?_;refine ⟨(k+1,some (bd,cd)),?_,?_,?_,?_⟩<;>try dsimp only
   ·exact ⟨rfl,rfl,rfl,rfl,rfl,rfl,rfl,rfl,rfl,rfl,zan (by simp),trivial⟩
   ·(try simp only [A,outM,Option.getD_none,Option.getD_some]);exact zae
   ·exact ⟨C,aa,by simp [A]⟩
   omega
  have C:k=d.waits.length:=by have:=of_decide_eq_false C;omega
  rw [C] at af W ⊢;rcases ob with _ | ⟨bd,cd⟩
  ·have Q:accW kp x d.waits d.waits.length=none:=af.1 rfl;rw [Q,Option.getD_none,show ((x.1,x.2):Ext)=x from rfl,<- aF,List.set_getElem_self] at J;simp only [outM,outV];refine r11_ ?_;refine cF_ ?_;refine r8_ ?_;refine ⟨i+1,?_,?_,?_,?_⟩<;>try dsimp only
   ·exact ⟨rfl,rfl,rfl,rfl,rfl,trivial⟩
   ·simp only [J,be];exact zae
   ·exact ⟨hc,by simp only [J];exact H⟩
   omega
  obtain ⟨ao,aY⟩:=aa bd cd rfl;obtain ⟨ai,aj⟩:=zaa ao;have ah:=Ne.symm aj;obtain ⟨cur,Q⟩ : ∃ cur,accW kp x d.waits d.waits.length=some cur:=by cases h:accW kp x d.waits d.waits.length with | none=>exact absurd (af.2 h) (by simp) | some cur=>exact ⟨cur,rfl⟩
  rw [Q] at J W ⊢;simp only [Option.getD_some] at J W ⊢;have n1:=ai.ne ad;have n2:=ai.ne am;have n3:=f5.ne am;have bt:=Ne.symm n2;have br:=Ne.symm n3;have bb:=zkT zbd (mixE kp d.waits d.ext i) i (x.1,cur) vd 1 (.string cur) (by decide) (by rw [aF];rfl);simp only [outM,outV];refine r11_ ?_;refine cT_ ?_;refine dr_ [i0_,i1_,i2_,i3_,i4_,i5_,i6_,i7_,i8_,i9_,o10_] [10] ?_;refine r7_ ?_;refine dC (hc:=vT zbs zaA rfl (l:=cur.data.toList) (by rw [za6];exact W) (zb_ (r:=⟨u8T,cellsB cur.data.toList,cd⟩) (b:=bd) own_)) (h:=?_);refine dP (hc:=λ_=>vK underlying28 zay rfl rfl vd vd) (h:=?_);refine s1_ ?_;refine zac rfl ?_;refine vk rfl rfl zbP rfl (r:=⟨extT,(mixE kp d.waits d.ext i).flatMap extF,c*2⟩) own_ bc rfl ?_
  try simp only [k_ms,k_sz,k_ss,k_za,Nat.reduceAdd]
  refine zad ⟨nz_,?_⟩;refine r8_ ?_;refine ⟨i+1,?_,?_,?_,?_⟩<;>try dsimp only
  ·exact ⟨rfl,rfl,rfl,rfl,rfl,trivial⟩
  ·simp only [J];rw [<- (aB (x.1,cur)).1,<- bb];exact zae
  ·exact ⟨hc,by simp only [J];exact (aB (x.1,cur)).2⟩
  omega
 have hc:i=d.ext.length:=by have:=of_decide_eq_false hc;omega
 subst hc;rw [zkU] at H ad;simp only [zkU];refine r10_ ?_;refine vk rfl rfl zdm rfl ad (show 2<5 from by decide) rfl ?_
 try simp only [k_ms,k_sz,k_ss,k_za,Nat.reduceAdd]
 refine s1_ ?_;have aO:(devM S p (settleD d kp) oE none).Less ((devM S p { d with ext:=d.ext.map (doneX kp d.waits) } oE oW).set p ⟨107,[.int .i64 d.size,outV oE (d.ext.map (doneX kp d.waits)).length,.slice none 0 0,.int .i64 d.fuse,.bool d.down],5⟩):=by unfold devM;rw [Mem.set_set];show ((outN 2 S oE extT ((d.ext.map (doneX kp d.waits)).flatMap extF)).set p ⟨107,[.int .i64 d.size,outV oE (d.ext.map (doneX kp d.waits)).length,.slice none 0 0,.int .i64 d.fuse,.bool d.down],5⟩).Less _;exact Less.set (zbr H.dk.w) _ _
 have aV:=H.apart;have aR:=H.fits;refine ⟨_,devM S p (settleD d kp) oE none,rfl,aO,?_⟩;exact ⟨rfl,zgB ⟨aV.e,(λb c e=>by cases e),(λb c b' c' e e'=>by cases e'),aV.p⟩ ⟨aR.e0,λ_=>rfl,aR.e,(λb c e=>by cases e)⟩,rfl⟩
theorem znL (k:Int) (S:Mem):ACall prog 103 #[.int .i64 k] S λr S'=>r = .bool true/\S'=S:=by
 refine k_E1 3 func103 ?_;refine r11_ ?_;refine ⟨_,S,⟨_,_,rfl,rfl,rfl⟩,zae,?_⟩;exact ⟨rfl,rfl⟩
theorem zfc (p:Nat) (d:D) (S:Mem) (oE oW:Option (Nat × Nat)) (I:OkV S p d oE oW) (Q:Right d) :
  ACall prog 51 #[.pointer (some ⟨p,0,none⟩)] (devM S p d oE oW) λr S'=>∃ H A,OkV S p (settleD d λ_=>true) H A/\r = .tuple #[]/\S'=devM S p (settleD d λ_=>true) H A:=by
 have h:=zl5 p d S oE oW I Q 103 [] zvv (λ_=>true) (λk M _ _=>znL k M);generalize devM S p d oE oW=M at *;refine k_E1 4 func51 ?_;refine r2_ ?_;refine ca_ rfl (h) ?_;rintro _ U ⟨rfl,C,J⟩;rw [J];clear J U;refine s1_ ?_;refine ⟨_,_,rfl,Mem.Less.refl _,?_⟩;exact ⟨oE,none,C,rfl,rfl⟩
theorem zjL {d:D} (A:Right d) (kp:Nat->Bool):(settleD d kp).ext.length<=9223372036854775807/\(settleD d kp).waits.length<=9223372036854775807:=by
 have h:=zaK A;exact ⟨by show (List.map _ _).length<=_;rw [List.length_map];exact h.1,by show (0:Nat)<=_;exact Nat.zero_le _⟩
theorem zkV {l:List Ext} {s:tt}:has l s=false <-> ∀ x ∈ l,x.1≠s:=by
 rw [<- Bool.not_eq_true,zba];exact ⟨λh x A e=>h ⟨x,A,e⟩,λh ⟨x,A,e⟩=>h x A e⟩
def dropE (l:List Ext) (s:tt):List Ext:=l.filter λx=>decide (x.1≠s)
def lessD (d:D) (s:tt):D:={ d with ext:=dropE d.ext s,waits:=filt s d.waits }
theorem zgD {l:List Ext} {s:tt} (h:has l s=false):dropE l s=l :=
 List.filter_eq_self.2 λx A=>by simpa using zkV.1 h x A
theorem ztu {x:Ext} {l:List Ext} {s:tt} (h:lt x.1 s=true):pos (x :: l) s=pos l s+1:=by unfold pos;rw [List.takeWhile_cons,h];rfl
theorem zvJ {x:Ext} {l:List Ext} {s:tt} (h:lt x.1 s=false):pos (x :: l) s=0:=by unfold pos;rw [List.takeWhile_cons,h];rfl
theorem zhp (x:Ext) (l:List Ext) (s:tt):has (x :: l) s=(decide (x.1=s) || has l s):=rfl
theorem zcX {x:Ext} {l:List Ext} {s:tt} (h:x.1=s):dropE (x :: l) s=dropE l s:=by
 unfold dropE;rw [List.filter_cons,if_neg (by simpa using h)]
theorem zd3 {x:Ext} {l:List Ext} {s:tt} (h:x.1≠s):dropE (x :: l) s=x :: dropE l s:=by
 unfold dropE;rw [List.filter_cons,if_pos (by simpa using h)]
theorem zgE {x:Ext} {l:List Ext} (A:Asc (x :: l)):∀ y ∈ l,lt x.1 y.1=true:=(List.pairwise_cons.1 A).1
theorem zl6 {x:Ext} {l:List Ext} (A:Asc (x :: l)):has l x.1=false:=zkV.2 λy C e=>by
 have:=zgE A y C;rw [e,lt_irrefl] at this;cases this
theorem zl7 {x:Ext} {l:List Ext} {s:tt} (A:Asc (x :: l)) (h:has l s=true):lt x.1 s=true:=by
 obtain ⟨y,C,rfl⟩:=zba.1 h;exact zgE A y C
theorem zfP {l:List Ext} {s:tt} (A:Asc l) (h:has l s=true):dropE l s=l.eraseIdx (pos l s):=by
 induction l with
 | nil=>cases h
 | cons x l C =>
  by_cases e:x.1=s
  ·subst e;rw [zvJ (lt_irrefl _),zcX rfl,zgD (zl6 A)];rfl
  rw [zhp,decide_eq_false e,Bool.false_or] at h;rw [zd3 e,ztu (zl7 A h),C (zqp A) h];rfl
theorem zqB {l:List Ext} (A:Asc l) (s:tt):Asc (dropE l s):=List.Pairwise.filter _ A
theorem znM {d:D} {s:tt} (A:Right d) (h:has d.ext s=true):forgetD (eraseD d s) s=lessD d s:=by
 unfold forgetD eraseD lessD;rw [zfP A.ex.asc h]
theorem znN {d:D} {s:tt} (A:Right d) (h:has d.ext s=false):filt s d.waits=d.waits:=zho λw C=>zsC.2 λe=>by
 obtain ⟨x,H,e1,_⟩:=A.wr w C;exact zkV.1 h x H (e1.trans e)
/-! ### Writes that are done -/
theorem zhq {f:Ext->Ext} (C:∀ x,(f x).1=x.1) (l:List Ext) (s:tt):has (l.map f) s=has l s:=by
 induction l with
 | nil=>rfl
 | cons x l A=>rw [List.map_cons,zhp,zhp,A,C]
theorem znO {f:Ext->Ext} (A:∀ x,(f x).1=x.1) {l:List Ext} (h:Asc l):Asc (l.map f):=by
 unfold Asc at *;rw [List.pairwise_map];exact h.imp λ{a b} q=>by rw [A,A];exact q
end
end Go.Proofs.YtopiogkolaelnaaGreatDoor
