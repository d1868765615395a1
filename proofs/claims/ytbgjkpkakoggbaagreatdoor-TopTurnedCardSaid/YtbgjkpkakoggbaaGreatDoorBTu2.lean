/-
  Texts that belong together: MemN, DiskMath, Types, Disk1, Disk2, DiskMath2, Disk3, Disk4, Disk5, Disk6, Disk7, Disk8, Shelf, Disk9, Disk10, Disk11, Disk12, Disk13, Disk14, Disk15, Disk16, Disk17, DiskMath3, Disk18, Disk19, Disk20, DiskR0, Draw, DR10, DiskSee, Seq.
-/
import Derived.Test.YtbgjkpkakoggbaaGreatDoorBTu1
import Derived.Lib.Overlaps
import Derived.Shelf.Strings.Builder1
import Derived.Shelf.Small.Bits
import Derived.Shelf.Bits.Mul64
import Derived.Shelf.Strings.Repeat
import Derived.Test.YtbgjkpkakoggbaaGreatDoorProg
set_option maxHeartbeats 8000000
set_option maxRecDepth 100000
set_option linter.unusedVariables false
set_option linter.unusedSimpArgs false
set_option linter.unusedSectionVars false
namespace Go.Proofs.YtbgjkpkakoggbaaGreatDoor
open _root_.Go.Proofs.Tryz
section
open Go.RowKit
namespace Mv
/-! ### Less is known of blocks -/
def Mem.Shr (S' S:Mem):Prop:=(∀ b r',S'.own b=some r' -> ∃ r,S.own b=some r/\r.elem=r'.elem/\r'.cells <+: r.cells/\r'.room<=r.room)/\S'.ro=S.ro
theorem View.shr {S S':Mem} {w:tv} (h:View S w) (hl:S'.Shr S):View S' w :=
 ⟨λb r' hb=>by
  obtain ⟨r,C,J,Q,U⟩:=hl.1 b r' hb;obtain ⟨cur,fz,e1,e2,e3,e4⟩:=h.own b r C;exact ⟨cur,fz,by rw [<- J];exact e1,Q.trans e2,Nat.le_trans U e3,by rw [<- J];exact e4⟩,λa v I=>by
  rw [hl.2] at I;refine ⟨(h.ro a v I).1,?_⟩;cases e:S'.own a.block with
  | none=>rfl
  | some r =>
   obtain ⟨r0,C,_⟩:=hl.1 _ _ e;(rw [(h.ro a v I).2] at C;cases C),h.fzOf hl.2 (λk hk _=>by
  cases e:S'.own k with
  | none=>rfl
  | some r =>
   obtain ⟨r0,C,_⟩:=hl.1 _ _ e;rw [hk] at C;cases C) λ_ _ _=>rfl⟩
theorem Step.shrL {S S0 S':Mem} {w w':tv} (h:Step S0 w S' w') (hl:S0.Shr S) (hs:∀ k,S.own k≠none->S0.own k≠none):Step S w S' w' :=
 ⟨h.view,h.os,h.tape,h.output,h.size,λk hk J=>h.block k hk (by
  cases e:S0.own k with
  | none=>rfl
  | some r=>obtain ⟨r0,C,_⟩:=hl.1 _ _ e;rw [J] at C;cases C),λk hk=>by
  rcases h.dom k hk with x | x
  ·left;intro e;cases e0:S0.own k with
   | none=>exact x e0
   | some r=>obtain ⟨r0,C,_⟩:=hl.1 _ _ e0;rw [e] at C;cases C
  ·exact .inr x,λa v I=>by
  rcases h.ro a v I with x | x | x
  ·exact .inl (by rw [<- hl.2];exact x)
  ·refine .inr (.inl λe=>?_);cases e0:S0.own a.block with
   | none=>exact x e0
   | some r=>obtain ⟨r0,C,_⟩:=hl.1 _ _ e0;rw [e] at C;cases C
  exact .inr (.inr x)⟩
theorem zjM {S:Mem} {b:Nat} {e:tx} {cs cs':List tu} {m m':Nat} (h:cs' <+: cs) (hm:m'<=m):(S.set b ⟨e,cs',m'⟩).Shr (S.set b ⟨e,cs,m⟩) :=
 ⟨λk r' hk=>by
  by_cases x:k=b
  ·subst x;rw [vf] at hk ⊢;cases hk;exact ⟨_,rfl,rfl,h,hm⟩
  rw [vg _ _ x] at hk ⊢;exact ⟨r',hk,rfl,List.prefix_rfl,Nat.le_refl _⟩,rfl⟩
theorem znx {S:Mem} {b:Nat} {r r':Blk}:∀ k,(S.set b r).own k≠none->(S.set b r').own k≠none:=λk hk=>by
 by_cases x:k=b
 ·subst x;rw [vf];simp
 rw [vg _ _ x] at hk ⊢;exact hk
theorem AWP.cut {P:tz} {N:Nat} {c:Code} {Q:Exit->Env->Mem->Prop} {E:Env} {S:Mem} {b:Nat} {e:tx} {cs cs':List tu} {m m':Nat} (h:cs' <+: cs) (hm:m'<=m) (J:AWP P N c Q E (S.set b ⟨e,cs',m'⟩)):AWP P N c Q E (S.set b ⟨e,cs,m⟩):=λa w U I =>
 wp_mono (J a w U (I.shr (zjM h hm))) λ_ _ _ ⟨V,S',X,C,hs⟩=>⟨V,S',X,C,hs.shrL (zjM h hm) znx⟩
def outN (n:Nat) (S:Mem) (o:Option (Nat × Nat)) (e:tx) (cs:List tu):Mem:=match o with
  | none=>S
  | some (b,c)=>S.set b ⟨e,cs,c*n⟩
theorem za6 {n:Nat} {S:Mem} {o:Option (Nat × Nat)} {k:Nat} {e:tx} {cs:List tu} (h:OkO S o k):S.Less (outN n S o e cs):=by
 cases o with
 | none=>exact Mem.Less.refl _
 | some q=>exact vi _ _ _ (h.own q.1 q.2 rfl).1.1
theorem zaF {n:Nat} {S:Mem} {o:Option (Nat × Nat)} {e:tx} {cs:List tu} {b:Nat} (h:Fresh (outN n S o e cs) b):Fresh S b /\ ∀ q c,o=some (q,c)->b≠q:=by
 cases o with
 | none=>exact ⟨h,λq c x=>by cases x⟩
 | some q=>obtain ⟨I,C⟩:=zaa h;exact ⟨I,λJ c x=>by cases x;exact C⟩
section
variable {P:tz} {N:Nat} {ops:Array Oper} {E:Env} {S:Mem} {K:Env->Mem->Prop}
variable {ty:tx} {pos:String} {aft:Array Edge} {gd:Option (Nat × Bool)}
theorem ur {os:List Oper} {T e:tx} {n y:Nat} {z:List tu} {x1 x2:tw} {b k c:Nat} {xs news:List tu} {X:Addr} {m c2 d:Nat} (hn:d<N) (hT:slT P T=some (e,n,y,z)) (hz:z.length=n)
  (hx:ev E x1=some (.slice (some ⟨b,0,none⟩) k c)) (hb:S.own b=some ⟨e,xs,c*n⟩) (V:xs.length=k*n)
  (hy:ev E x2=some (.slice (some X) m c2)) (I:S.Knows X news) (J:news.length=m*n) (h1:∀ v ∈ news,v.oneCell'=true) (Y:(k+m)*y<=140737488355328) (ax:k+m<=9223372036854775807)
  (h:∀ b' c',Fresh (S.del b) b'->k+m<=c'->ARun P N ops os K ((d,.slice (some ⟨b',0,none⟩) (k+m) c') :: E) ((S.del b).set b' ⟨e,xs ++ news,c'*n⟩)) :
  ARun P N ops (⟨some d,.call ⟨.builtin .append,#[x1,x2],#[T,T]⟩,ty,pos,aft,none⟩ :: os) K E S:=λa w g Q=>by
 rw [if_pos (by simp [Region.wanted])];obtain ⟨hu,i,v,e1,e2,rfl,rfl,rfl⟩:=zaP hT;have ag:v.cells.size=i.size:=by simpa using hz
 have ak:(execOp a.eval ⟨some d,.call ⟨.builtin .append,#[x1,x2],#[T,T]⟩,ty,pos,aft,none⟩).run P w=((Builtin.append_ #[T,T] ty #[.slice (some ⟨b,0,none⟩) k c,.slice (some X) m c2]).run P w).andThen λv w'=>.ok (.value v) w':=by
  simp [execOp,resolve,invoke,builtin,g.ev hx,g.ev hy]
 unfold Oper.wp;rw [ak];by_cases C:k+m<=c
 ·obtain ⟨q1,q2⟩:=za1 (P:=P) Q hb (vs:=news) (o:=k*i.size) (by simp [V]) (.inr (by simp only [J];rw [<- Nat.add_mul];exact Nat.mul_le_mul_right _ C)) h1;have hf:=run_firstCells_some (P:=P) w i.size m X m c2 news J (λj u Z=>I w Q j u Z);have hr:(Builtin.append_ #[T,T] ty #[.slice (some ⟨b,0,none⟩) k c,.slice (some X) m c2]).run P w = .ok (.slice (some ⟨b,0,none⟩) (k+m) c) (w.setCells b (k*i.size) news):=by
   simp [Builtin.append_,run_underlying hu,sizeOf,typeInfo,e1,Builtin.lenOf,C,hf,zaz,q1]
  rw [hr];have aj:spl xs (k*i.size) news=xs ++ news:=by
   unfold spl;rw [List.take_of_length_le vd,List.drop_of_length_le vd,List.append_nil]
  simp only [aj] at q2;refine ⟨_,_,h b c (zfU (λa v ha=>(Q.ro a v ha).2) hb) C,g.put hn _,?_⟩;rw [del_set];exact q2
 have U:Builtin.nextslicecap (k+m) c*i.bytes<=281474976710656:=growslice_fits vd Y;have hr:=run_append_grow (P:=P) w T ty e i v hu e1 e2 ⟨b,0,none⟩ k c xs V (λj u Z=>Q.rd (by rw [zaz,Nat.zero_add,zeq hb];exact Z)) X m c2 news J (λj u Z=>I w Q j u Z) vd vd U;rw [hr];have ac:=grownCap_ge w (k+m) c e;have ae:View S w.drew:=Q.drawn _;have af:=vG ae e (xs.toArray ++ news.toArray ++ Builtin.zeroCells v.cells (grownCap w (k+m) c e-(k+m))) (xs ++ news) (grownCap w (k+m) c e*i.size) (by simp [List.append_assoc]) (by
  simp only [Array.size_append,List.size_toArray,size_zeroCells,ag,V,J,<- Nat.add_mul];exact Nat.mul_le_mul_right _ vd)
 refine ⟨_,_,h w.heap.size (grownCap w (k+m) c e) (Q.freshAt.less (Less.del S b)) ac,g.put hn _,?_⟩;exact ((Step.drawn Q _).trans af).less (zhA S b _ _)
theorem ut {os:List Oper} {T e:tx} {n y:Nat} {z:List tu} {Z x2:tw} {news:List tu} {J:Addr} {m c2 d:Nat} (hn:d<N) (hT:slT P T=some (e,n,y,z)) (hz:z.length=n)
  (hx:ev E Z=some (.slice none 0 0)) (hy:ev E x2=some (.slice (some J) m c2)) (C:S.Knows J news) (I:news.length=m*n) (hm:0<m) (ae:m*y<=140737488355328) (ak:m<=9223372036854775807)
  (h:∀ b' c',Fresh S b'->m<=c'->ARun P N ops os K ((d,.slice (some ⟨b',0,none⟩) m c') :: E) (S.set b' ⟨e,news,c'*n⟩)) :
  ARun P N ops (⟨some d,.call ⟨.builtin .append,#[Z,x2],#[T,T]⟩,ty,pos,aft,none⟩ :: os) K E S:=λa w g Q=>by
 rw [if_pos (by simp [Region.wanted])];obtain ⟨hu,i,v,e1,e2,rfl,rfl,rfl⟩:=zaP hT;have Y:v.cells.size=i.size:=by simpa using hz
 have ac:(execOp a.eval ⟨some d,.call ⟨.builtin .append,#[Z,x2],#[T,T]⟩,ty,pos,aft,none⟩).run P w=((Builtin.append_ #[T,T] ty #[.slice none 0 0,.slice (some J) m c2]).run P w).andThen λv w'=>.ok (.value v) w':=by
  simp [execOp,resolve,invoke,builtin,g.ev hx,g.ev hy]
 unfold Oper.wp;rw [ac,run_append_nil (P:=P) w T ty e i v hu e1 e2 J m c2 news I (λj u hj=>C w Q j u hj) hm vd vd];have U:=grownCap_ge w m 0 e;have V:View S w.drew:=Q.drawn _;have X:=vG V e (news.toArray ++ Builtin.zeroCells v.cells (grownCap w m 0 e-m)) news (grownCap w m 0 e*i.size) (by simp) (by
  simp only [Array.size_append,List.size_toArray,size_zeroCells,Y,I,<- Nat.add_mul];exact Nat.mul_le_mul_right _ vd)
 exact ⟨_,_,h w.heap.size (grownCap w m 0 e) Q.freshAt U,g.put hn _,(Step.drawn Q _).trans X⟩
theorem uu {os:List Oper} {T e:tx} {n y:Nat} {z:List tu} {X Y:tw} {b o k c:Nat} {r:Blk} {news:List tu} {J:Addr} {m U d:Nat} (hn:d<N) (hT:slT P T=some (e,n,y,z))
  (hx:ev E X=some (.slice (some ⟨b,o,none⟩) k c)) (hb:S.own b=some r) (ho:o+k*n<=r.cells.length)
  (hy:ev E Y=some (.slice (some J) m U)) (I:S.Knows J news) (V:news.length=m*n) (h1:∀ v ∈ news,v.oneCell'=true) (C:k+m<=c) (Q:o+k*n+news.length<=r.cells.length\/o+k*n+news.length<=r.room)
  (h:ARun P N ops os K ((d,.slice (some ⟨b,o,none⟩) (k+m) c) :: E) (S.set b ⟨r.elem,spl r.cells (o+k*n) news,r.room⟩)) :
  ARun P N ops (⟨some d,.call ⟨.builtin .append,#[X,Y],#[T,T]⟩,ty,pos,aft,none⟩ :: os) K E S:=λa w g hv=>by
 rw [if_pos (by simp [Region.wanted])];obtain ⟨hu,i,v,e1,e2,rfl,rfl,rfl⟩:=zaP hT;have Z:(execOp a.eval ⟨some d,.call ⟨.builtin .append,#[X,Y],#[T,T]⟩,ty,pos,aft,none⟩).run P w=((Builtin.append_ #[T,T] ty #[.slice (some ⟨b,o,none⟩) k c,.slice (some J) m U]).run P w).andThen λv w'=>.ok (.value v) w':=by
  simp [execOp,resolve,invoke,builtin,g.ev hx,g.ev hy]
 unfold Oper.wp;rw [Z];obtain ⟨q1,q2⟩:=za1 (P:=P) hv hb (vs:=news) (o:=o+k*i.size) ho Q h1;have hf:=run_firstCells_some (P:=P) w i.size m J m U news V (λj u hj=>I w hv j u hj);have hr:(Builtin.append_ #[T,T] ty #[.slice (some ⟨b,o,none⟩) k c,.slice (some J) m U]).run P w = .ok (.slice (some ⟨b,o,none⟩) (k+m) c) (w.setCells b (o+k*i.size) news):=by
  simp [Builtin.append_,run_underlying hu,sizeOf,typeInfo,e1,Builtin.lenOf,C,hf,zaz,q1]
 rw [hr];exact ⟨_,_,h,g.put hn _,q2⟩
theorem vQ {os:List Oper} {T Q e:tx} {n y:Nat} {z:List tu} {Y Z:tw} {b o k c:Nat} {r:Blk} {news:List tu} {I:Addr} {m U q d:Nat} (hn:d<N) (hT:slT P T=some (e,n,y,z))
  (hx:ev E Y=some (.slice (some ⟨b,o,none⟩) k c)) (hb:S.own b=some r) (ho:o<=r.cells.length)
  (hy:ev E Z=some (.slice (some I) m U)) (hq:q=min m k) (C:S.Knows I news) (X:news.length=q*n) (h1:∀ v ∈ news,v.oneCell'=true) (J:o+news.length<=r.cells.length\/o+news.length<=r.room)
  (h:ARun P N ops os K ((d,.int .i64 (q:Int)) :: E) (S.set b ⟨r.elem,spl r.cells o news,r.room⟩)) :
  ARun P N ops (⟨some d,.call ⟨.builtin .copy,#[Y,Z],#[T,Q]⟩,ty,pos,aft,none⟩ :: os) K E S:=λa w g hv=>by
 rw [if_pos (by simp [Region.wanted])];obtain ⟨hu,i,v,e1,e2,rfl,rfl,rfl⟩:=zaP hT;have aa:(execOp a.eval ⟨some d,.call ⟨.builtin .copy,#[Y,Z],#[T,Q]⟩,ty,pos,aft,none⟩).run P w=((Builtin.copy_ #[T,Q] ty #[.slice (some ⟨b,o,none⟩) k c,.slice (some I) m U]).run P w).andThen λv w'=>.ok (.value v) w':=by
  simp [execOp,resolve,invoke,builtin,g.ev hx,g.ev hy]
 unfold Oper.wp;rw [aa];obtain ⟨q1,q2⟩:=za1 (P:=P) hv hb (vs:=news) (o:=o) ho J h1;have hf:=run_firstCells_some (P:=P) w i.size q I m U news X (λj u hj=>C w hv j u hj);have V:Nat.min m k=q:=hq.symm;have hr:(Builtin.copy_ #[T,Q] ty #[.slice (some ⟨b,o,none⟩) k c,.slice (some I) m U]).run P w = .ok (.int .i64 (q:Int)) (w.setCells b o news):=by
  simp [Builtin.copy_,run_underlying hu,sizeOf,typeInfo,e1,Builtin.lenOf,V,hf,q1,goInt]
 rw [hr];exact ⟨_,_,h,g.put hn _,q2⟩
theorem ui {os:List Oper} {T e:tx} {n y:Nat} {z:List tu} {X:tw} {b o k c:Nat} {r:Blk} (hT:slT P T=some (e,n,y,z)) (hz:z.length=n) (Q:∀ v ∈ z,v.oneCell'=true)
  (hx:ev E X=some (.slice (some ⟨b,o,none⟩) k c)) (hb:S.own b=some r) (ho:o<=r.cells.length) (J:o+k*n<=r.cells.length\/o+k*n<=r.room)
  (h:∀ zs:List tu,zs.length=k*n->ARun P N ops os K E (S.set b ⟨r.elem,spl r.cells o zs,r.room⟩)) :
  ARun P N ops (⟨none,.call ⟨.builtin .clear,#[X],#[T]⟩,ty,pos,aft,none⟩ :: os) K E S:=λa w g hv=>by
 rw [if_pos (by simp [Region.wanted])];obtain ⟨I,i,v,e1,e2,rfl,rfl,rfl⟩:=zaP hT;have V:v.cells.size=i.size:=by simpa using hz
 have Y:(execOp a.eval ⟨none,.call ⟨.builtin .clear,#[X],#[T]⟩,ty,pos,aft,none⟩).run P w=((Builtin.clear_ #[T] ty #[.slice (some ⟨b,o,none⟩) k c]).run P w).andThen λv w'=>.ok (.value v) w':=by
  simp [execOp,resolve,invoke,builtin,g.ev hx]
 unfold Oper.wp;rw [Y];have C:(Builtin.zeroCells v.cells k).toList.length=k*i.size:=by rw [Array.length_toList,size_zeroCells,V]
 have h1:∀ u ∈ (Builtin.zeroCells v.cells k).toList,u.oneCell'=true:=λu I=>by
  simp only [Builtin.zeroCells,Array.toList_map,List.mem_map,Array.toList_range,List.mem_range] at I;obtain ⟨j,hj,rfl⟩:=I;have hp:0<v.cells.size:=by
   rcases Nat.eq_zero_or_pos v.cells.size with h0 | h0
   ·rw [h0] at hj;omega
   exact h0
  have U:j % v.cells.size<v.cells.size:=Nat.mod_lt _ hp;have e0:v.cells[j % v.cells.size]! = v.cells[j % v.cells.size]:=getElem!_pos v.cells _ U;rw [e0];exact Q _ (by simp)
 obtain ⟨q1,q2⟩:=za1 (P:=P) hv hb (vs:=(Builtin.zeroCells v.cells k).toList) (o:=o) ho (by rw [C];exact J) h1;have hr:(Builtin.clear_ #[T] ty #[.slice (some ⟨b,o,none⟩) k c]).run P w = .ok (.tuple #[]) (w.setCells b o (Builtin.zeroCells v.cells k).toList):=by
  by_cases hk:k=0
  ·subst hk;have:(Builtin.zeroCells v.cells 0).toList = []:=(by apply List.eq_nil_of_length_eq_zero;rw [C];simp);rw [this];simp [Builtin.clear_,run_underlying I,World.setCells]
  obtain ⟨k',rfl⟩ : ∃ k',k=k'+1:=⟨k-1,by omega⟩;have Z:(zeroValue e).run P w = .ok v w:=by simp [zeroValue,typeInfo,e1,e2]
  simp [Builtin.clear_,run_underlying I,Z,q1]
 rw [hr];exact ⟨_,_,h _ C,g.put0 _,q2⟩
theorem Calm.cap {T e:tx} {x:tw} {a:Option Addr} {k c:Nat} {dst:Option Nat} (C:P.underlying T=some (.slice e)) (I:ev E x=some (.slice a k c)):ACalm P N ⟨dst,.call ⟨.builtin .cap,#[x],#[T]⟩,ty,pos,aft,gd⟩ E S (.int .i64 (c:Int)):=λJ w g Q=>by
 simp [execOp,resolve,invoke,builtin,g.ev I,Builtin.cap_,run_underlying C,goInt]
end
/-! ### Appending to a slice of one's own -/
def Src (M:Mem) (v:tu) (m:Nat) (news:List tu):Prop:=∃ A c,v = .slice A m c/\(m=0 \/ ∃ a,A=some a/\M.Knows a news)
theorem Src.less {M C:Mem} {v:tu} {m:Nat} {news:List tu} (h:Src M v m news) (hl:M.Less C):Src C v m news:=by
 obtain ⟨A,c,e,h⟩:=h;exact ⟨A,c,e,h.imp id λ⟨a,e2,k⟩=>⟨a,e2,k.less hl⟩⟩
theorem zao {α : Type} {n:Nat} {f : α->List tu} (I:∀ x,(f x).length=n) (l:List α):(l.flatMap f).length=l.length*n:=by
 induction l with
 | nil=>simp
 | cons x l C=>rw [List.flatMap_cons,List.length_append,I,C,List.length_cons,Nat.succ_mul,Nat.add_comm]
theorem zgS {α : Type} {n:Nat} {f : α->List tu} (I:∀ x,(f x).length=n):∀ (l:List α) (j:Nat) (v:tu),(l.flatMap f)[j]?=some v -> ∃ (i q:Nat) (h:i<l.length),j=i*n+q/\q<n/\(f l[i])[q]?=some v
 | [],j,v,h=>by simp at h
 | x :: l,j,v,h=>by
  rw [List.flatMap_cons] at h;by_cases C:j<(f x).length
  ·rw [List.getElem?_append_left C] at h;rw [I] at C;exact ⟨0,j,by simp,by omega,C,h⟩
  rw [List.getElem?_append_right vd] at h;rw [I] at C h;obtain ⟨i,q,hi,e,Q,J⟩:=zgS I l (j-n) v h;exact ⟨i+1,q,by simpa using hi,by rw [Nat.succ_mul];omega,Q,by simpa using J⟩
theorem tq {α : Type} {n:Nat} {f : α->List tu} (J:∀ x,(f x).length=n) {S:Mem} {b off:Nat} {len cap:Nat} {l:List α} (h:Sl n f S (.slice (some ⟨b,off,none⟩) len cap) l):S.Knows ⟨b,off,none⟩ (l.flatMap f):=λw I j v C=>by
 obtain ⟨i,q,hi,rfl,U,Q⟩:=zgS J l j v C;have:=h.at1 i hi w I q v Q;rw [zaz] at this ⊢;rw [<- this];congr 2;omega
theorem Sl.src {α : Type} {n:Nat} {f : α->List tu} (I:∀ x,(f x).length=n) {S:Mem} {v:tu} {l:List α} (h:Sl n f S v l):Src S v l.length (l.flatMap f):=by
 obtain ⟨a,c,rfl,_,_,C⟩:=id h;refine ⟨a,c,rfl,?_⟩;rcases C with rfl | ⟨b,off,rfl,_⟩
 ·left;rfl
 right;exact ⟨_,rfl,tq I h⟩
theorem zeY {S:Mem} {b c:Nat} {r:Blk} {news:List tu} {m:Nat} (h:S.own b=some r) (hc:news <+: r.cells):Src S (.slice (some ⟨b,0,none⟩) m c) m news:=⟨_,c,rfl,.inr ⟨_,rfl,(zgR h hc).knows⟩⟩
structure AppN (n:Nat) (M S:Mem) (o:Option (Nat × Nat)) (e:TypeId) (cs:List Value):Prop where
  nil:o=none->cs = []/\S.Less M
  own:∀ b c,o=some (b,c)->M.own b=some ⟨e,cs,c*n⟩/\S.Less (M.del b)
theorem zb6 {n:Nat} {S:Mem} {o:Option (Nat × Nat)} {k:Nat} {e:tx} {cs:List tu} (h:OkO S o k) (I:cs.length=k*n):AppN n (outN n S o e cs) S o e cs:=by
 refine ⟨λC=>?_,λb c C=>?_⟩
 ·subst C;exact ⟨List.eq_nil_of_length_eq_zero (by rw [I,h.nil rfl,Nat.zero_mul]),Mem.Less.refl _⟩
 subst C;refine ⟨vf _ _ _,?_⟩;rw [show (outN n S (some (b,c)) e cs).del b=S from zet (zkW (h.own b c rfl).1)];exact Mem.Less.refl _
theorem AppN.temp {n:Nat} {M S:Mem} {o:Option (Nat × Nat)} {e:tx} {cs:List tu} {t:Nat} {r:Blk} (h:AppN n M S o e cs) (Q:Fresh M t):AppN n (M.set t r) S o e cs:=by
 refine ⟨λC=>⟨(h.nil C).1,(h.nil C).2.trans (vi _ _ _ Q.1)⟩,λb c C=>?_⟩;obtain ⟨U,V⟩:=h.own b c C;have I:=Q.ne U;refine ⟨(vg _ _ I).trans U,V.trans ⟨λk r' hk=>?_,rfl⟩⟩;have J:k≠b:=λe=>by subst e;simp [Mem.del] at hk
 rw [vv _ J] at hk ⊢;exact (vg _ _ (Ne.symm (Q.ne' hk))).trans hk
section
variable {P:tz} {N:Nat} {ops:Array Oper} {E:Env} {S M:Mem} {K:Env->Mem->Prop}
variable {ty:tx} {pos:String} {aft:Array Edge} {gd:Option (Nat × Bool)}
theorem vH {os:List Oper} {T e:tx} {n y:Nat} {z:List tu} {x1 x2:tw} {o:Option (Nat × Nat)} {k m d:Nat} {cs news:List tu} {v:tu} (X:d<N) (Z:slT P T=some (e,n,y,z)) (hz:z.length=n)
  (hx:ev E x1=some (outV o k)) (ai:cs.length=k*n) (I:OkO S o k) (C:AppN n M S o e cs) (Y:ev E x2=some v) (hv:Src M v m news) (Q:news.length=m*n) (h1:∀ v ∈ news,v.oneCell'=true) (J:(k+m)*y<=140737488355328) (af:k+m<=9223372036854775807)
  (h:∀ o',OkO S o' (k+m)->ARun P N ops os K ((d,outV o' (k+m)) :: E) (outN n S o' e (cs ++ news))) :
  ARun P N ops (⟨some d,.call ⟨.builtin .append,#[x1,x2],#[T,T]⟩,ty,pos,aft,none⟩ :: os) K E M:=by
 obtain ⟨A,c2,rfl,hv⟩:=hv;by_cases hm:m=0
 ·subst hm;obtain rfl:news = []:=List.eq_nil_of_length_eq_zero (by rw [Q,Nat.zero_mul]);have h2:=h o I;rw [Nat.add_zero,List.append_nil] at h2;refine v_ (K:=λV S'=>ARun P N ops os K V S') ?_;cases o with
  | none =>
   have h0:=I.nil rfl;subst h0;exact ud (os:=[]) X Z (Nat.le_refl 0) hx Y ⟨S,(C.nil rfl).2,h2⟩
  | some q =>
   obtain ⟨b,c⟩:=q;obtain ⟨p1,p2⟩:=C.own b c rfl;refine ud (os:=[]) X Z (I.own b c rfl).2 hx Y ⟨_,?_,h2⟩;refine ⟨λk' r hk=>?_,p2.2⟩;by_cases ek:k'=b
   ·subst ek;rw [show (outN n S (some (k',c)) e cs).own k'=_ from vf _ _ _] at hk;rw [p1];exact hk
   rw [show (outN n S (some (b,c)) e cs).own k'=_ from vg _ _ ek] at hk;have:=p2.1 _ _ hk;rwa [vv _ ek] at this
 obtain ⟨a2,rfl,hk⟩:=hv.resolve_left hm;cases o with
 | none =>
  have h0:=I.nil rfl;subst h0;obtain ⟨q1,U⟩:=C.nil rfl;subst q1;refine v_ (K:=λV S'=>ARun P N ops os K V S') ?_;refine ut (os:=[]) X Z hz hx Y hk Q vd (by simpa using J) vd λb c hb hc=>?_;refine ⟨S.set b ⟨e,news,c*n⟩,Less.set U _ _,?_⟩;have:=h (some (b,c)) ⟨(λx=>by cases x),λb' c' x=>by cases x;exact ⟨hb.less U,by omega⟩⟩;simpa [outN,outV] using this
 | some q =>
  obtain ⟨b0,c0⟩:=q;obtain ⟨q1,U⟩:=C.own b0 c0 rfl;refine v_ (K:=λV S'=>ARun P N ops os K V S') ?_;refine ur (os:=[]) X Z hz hx q1 ai Y hk Q h1 J af λb c hb hc=>?_;refine ⟨S.set b ⟨e,cs ++ news,c*n⟩,Less.set U _ _,?_⟩;exact h (some (b,c)) ⟨(λx=>by cases x),λb' c' x=>by cases x;exact ⟨hb.less U,hc⟩⟩
end
theorem zdm {α : Type} {n:Nat} {f : α->List tu} (C:∀ x,(f x).length=n) {S:Mem} {o:Option (Nat × Nat)} {e:tx} {l:List α} {k:Nat} (h:OkO S o k) (hl:l.length=k) (hm:k<=9223372036854775807):Sl n f (outN n S o e (l.flatMap f)) (outV o k) l:=by
 subst hl;cases o with
 | none=>obtain rfl:l = []:=List.eq_nil_of_length_eq_zero (h.nil rfl);exact Sl.nil _ _ _
 | some q=>exact Sl.own (r:=⟨e,l.flatMap f,q.2*n⟩) (vf _ _ _) C List.prefix_rfl rfl (h.own _ _ rfl).2 hm
def OwnR {α : Type} (n:Nat) (f : α->List tu) (e:tx) (l:List α) (S:Mem) (r:tu) (S':Mem):Prop:=∃ o,OkO S o l.length/\r=outV o l.length/\S'=outN n S o e (l.flatMap f)
section
variable {P:tz} {N:Nat} {ops:Array Oper} {E:Env} {S:Mem} {K:Env->Mem->Prop}
variable {ty:tx} {pos:String} {aft:Array Edge} {gd:Option (Nat × Bool)}
theorem ux {os : List Oper} {f : tA} {fn : Func} {T tR e : tx} {n : Nat} {xs : List tw} {U : Array tx} {t b Q Z la X lb cb d : Nat} {r J : Blk} (hn : d < N) (hf : P.funcs[f]? = some fn) (I : (fn.name == "runtime.NumGoroutine") = false) (hb : fn.body.isNone = true)
  (ad:Extern.findNext fn=none) (he:Extern.find fn=some (Extern.SlicesOverlaps.overlaps #[T,T] #[tR])) (ht:P.underlying T=some (.slice e)) (hz:sizeT P e=some n) (hx:evs E xs=some [.slice (some ⟨t,Q,none⟩) la X,.slice (some ⟨b,Z,none⟩) lb cb])
  (h1:S.own t=some r) (V:r.elem≠5) (av:Q<r.cells.length) (h2:S.own b=some J) (ah:0<J.cells.length) (Y:t≠b)
  (h:ARun P N ops os K ((d,.bool false) :: E) S):ARun P N ops (⟨some d,.call ⟨.value (.func f),xs.toArray,U⟩,ty,pos,aft,none⟩ :: os) K E S:=λa w g hv=>by
 rw [if_pos (by simp [Region.wanted])];unfold Oper.wp;have hc:execOp a.eval ⟨some d,.call ⟨.value (.func f),xs.toArray,U⟩,ty,pos,aft,none⟩=callFunc f #[.slice (some ⟨t,Q,none⟩) la X,.slice (some ⟨b,Z,none⟩) lb cb]:=by
  rw [execOp_call_go];simp [g.evs hx]
 obtain ⟨cur,fz,e1,e2,e3,e4⟩:=hv.own t r h1;obtain ⟨C,ae,k1,k2,k3,k4⟩:=hv.own b J h2;have aj:r.cells.length<=cur.size:=by have:=e2.length_le;simpa using this
 have an:J.cells.length<=C.size:=by have:=k2.length_le;simpa using this
 have hr:=Lib.run_overlaps_apart (P:=P) w T tR e ht n (λw=>zaM hz w) ⟨t,Q,none⟩ ⟨b,Z,none⟩ la X lb cb Y r.elem J.elem cur.size C.size (by simp [World.shape?,e1]) (by simp [World.shape?,k1]) vd
  (by have:=e4 Q (.inl vd);simpa [World.frozen?,e1] using this) (by have:=e4 cur.size (.inr ⟨rfl,V⟩);simpa [World.frozen?,e1] using this)
 rw [hc,run_callFunc_extern hf I hb ad he,hr];exact ⟨_,_,h,g.put hn _,Step.refl hv⟩
theorem uA {os:List Oper} {T Y e:tx} {n y:Nat} {z:List tu} {x1 x2:tw} {k c m:Nat} {xs:List tu} {A:Addr} {d:Nat} (hn:d<N) (hT:slT P T=some (e,n,y,z)) (hz:z.length=n) (ag:P.underlying Y=some (.int .i64))
  (hx:ev E x1=some (.slice (some A) k c)) (U:xs.length=k*n) (hk:S.Knows A xs) (hy:ev E x2=some (.int .i64 (m:Int))) (ak:c<k+m) (C:(k+m)*y<=140737488355328) (aE:k+m<=9223372036854775807)
  (h:∀ b' c' zs,Fresh S b'->k+m<=c'->zs.length=m*n->ARun P N ops os K ((d,.slice (some ⟨b',0,none⟩) (k+m) c') :: E) (S.set b' ⟨e,xs ++ zs,c'*n⟩)) :
  ARun P N ops (⟨some d,.call ⟨.builtin .append,#[x1,x2],#[T,Y]⟩,ty,pos,aft,none⟩ :: os) K E S:=λa w g hv=>by
 rw [if_pos (by simp [Region.wanted])];obtain ⟨hu,i,v,e1,e2,rfl,rfl,rfl⟩:=zaP hT;have ai:v.cells.size=i.size:=by simpa using hz
 have aw:(execOp a.eval ⟨some d,.call ⟨.builtin .append,#[x1,x2],#[T,Y]⟩,ty,pos,aft,none⟩).run P w=((Builtin.append_ #[T,Y] ty #[.slice (some A) k c,.int .i64 (m:Int)]).run P w).andThen λv w'=>.ok (.value v) w':=by
  simp [execOp,resolve,invoke,builtin,g.ev hx,g.ev hy]
 unfold Oper.wp;rw [aw];have am:Builtin.nextslicecap (k+m) c*i.bytes<=281474976710656:=growslice_fits vd C;have hf:=run_firstCells_some (P:=P) w i.size k A k c xs U (λj u hj=>hk w hv j u hj);have hw:IntKind.i64.wrap (m:Int)=(m:Int):=IntWalk.i64_in _ vd;have Z:=run_firstCells_some (P:=P) w.drew i.size k A k c xs U (λj u hj=>by have:=hk w hv j u hj;simpa using this);have aa : ¬ ((m:Int)<0):=by omega
 have ad:max (m:Int) 0=(m:Int):=by omega
 have aD:m*i.bytes<=140737488355328:=Nat.le_trans (Nat.mul_le_mul_right _ vd) C;have ac : ¬ (281474976710656<(m:Int)*(i.bytes:Int)):=by
  have:((m*i.bytes:Nat):Int)<=140737488355328:=by omega
  rw [Int.natCast_mul] at this;omega
 have ae : ¬ (k+m<=c):=by omega
 have J : ¬ (9223372036854775807<((k:Int)+(m:Int))):=by omega
 have I : ¬ (281474976710656<Builtin.nextslicecap (k+m) c*i.bytes):=by omega
 obtain ⟨Q,al,af⟩ : ∃ Q:Array tu,(if m*i.size=0 then (#[] : Array tu) else Builtin.zeroCells v.cells m)=Q/\Q.size=m*i.size:=by
  by_cases X:m*i.size=0
  ·exact ⟨#[],by rw [if_pos X],by simp [X]⟩
  exact ⟨_,by rw [if_neg X],by rw [size_zeroCells,ai]⟩
 have hr:(Builtin.append_ #[T,Y] ty #[.slice (some A) k c,.int .i64 (m:Int)]).run P w = .ok (.slice (some ⟨w.heap.size,0,none⟩) (k+m) (grownCap w (k+m) c e)) (w.drew.alloc (.cells (xs.toArray ++ Q ++ Builtin.zeroCells v.cells (grownCap w (k+m) c e-(k+m))) e)):=by
  subst al;by_cases X:m*i.size=0
  ·have V:=X;simp [Builtin.append_,run_underlying hu,run_underlying ag,sizeOf,typeInfo,zeroValue,e1,e2,asInt,asIntOf,hw,ad,aa,ac,ae,J,I,V,Question.forced,Z,newRow,grownCap]
  have V:=X;simp [Builtin.append_,run_underlying hu,run_underlying ag,sizeOf,typeInfo,zeroValue,e1,e2,asInt,asIntOf,hw,ad,aa,ac,ae,J,I,V,Question.forced,Z,newRow,grownCap]
 rw [hr];have aj:=grownCap_ge w (k+m) c e;have an:View S w.drew:=hv.drawn _;have aq:=vG an e (xs.toArray ++ Q ++ Builtin.zeroCells v.cells (grownCap w (k+m) c e-(k+m))) (xs ++ Q.toList) (grownCap w (k+m) c e*i.size) (by simp [List.append_assoc]) (by
  simp only [Array.size_append,List.size_toArray,size_zeroCells,ai,U,af,<- Nat.add_mul];exact Nat.mul_le_mul_right _ vd)
 exact ⟨_,_,h w.heap.size (grownCap w (k+m) c e) Q.toList hv.freshAt aj (by simpa using af),g.put hn _,(Step.drawn hv _).trans aq⟩
end
section
variable {P:tz} {N:Nat} {E:Env} {S:Mem} {dst:Option Nat} {ty:tx} {pos:String} {aft:Array Edge} {gd:Option (Nat × Bool)}
theorem vE {T e:tx} {x lo:tw} {Q:IntKind} {j:Int} {b o len cap n:Nat} (l:Nat) (I:P.underlying T=some (.slice e)) (U:sizeT P e=some n) (V:ev E x=some (.slice (some ⟨b,o,none⟩) len cap)) (C:ev E lo=some (.int Q j)) (J:j=(l:Int)) (X:l<=len) (Y:l<cap) :
  ACalm P N ⟨dst,.slice T x (some lo) none none,ty,pos,aft,gd⟩ E S (.slice (some ⟨b,o+l*n,none⟩) (len-l) (cap-l)):=by
 subst J;have:=vT (S:=S) (N:=N) (dst:=dst) (ty:=ty) (pos:=pos) (aft:=aft) (gd:=gd) I U V (zbb cap cap) (by simp) (zbb len cap) (zer 0 len C vd vd);rw [Int.toNat_natCast,if_neg vd] at this;exact this
theorem vK {T e:tx} {x hi:tw} {Q:IntKind} {j:Int} {b o len cap n:Nat} (h:Nat) (I:P.underlying T=some (.slice e)) (U:sizeT P e=some n) (V:ev E x=some (.slice (some ⟨b,o,none⟩) len cap)) (C:ev E hi=some (.int Q j)) (J:j=(h:Int)) (X:h<=cap) :
  ACalm P N ⟨dst,.slice T x none (some hi) none,ty,pos,aft,gd⟩ E S (.slice (some ⟨b,o,none⟩) h cap):=by
 subst J;have:=uD (S:=S) (N:=N) (dst:=dst) (ty:=ty) (pos:=pos) (aft:=aft) (gd:=gd) I U V (zbb cap cap) (by simp) (zer len cap C vd vd);rw [Int.toNat_natCast] at this;exact this
end
end Mv
end
section
open Go.RowKit
namespace Disk
/-! ### Texts in order -/
theorem zny (a:List UInt8):Op.bytesLess a a=false:=by
 induction a with
 | nil=>rfl
 | cons x a C=>simp [Op.bytesLess,C]
theorem zkZ:∀ (a b c:List UInt8),Op.bytesLess a b=true->Op.bytesLess b c=true->Op.bytesLess a c=true
 | _,_,[],_,h=>by simp [Op.bytesLess] at h
 | [],_,_ :: _,_,_=>rfl
 | x :: a,[],z :: c,h,_=>by simp [Op.bytesLess] at h
 | x :: a,y :: b,z :: c,I,C=>by
  simp only [Op.bytesLess,Bool.or_eq_true,Bool.and_eq_true,decide_eq_true_eq,beq_iff_eq] at I C ⊢;rcases I with I | ⟨rfl,I⟩
  ·rcases C with C | ⟨rfl,C⟩
   ·left;exact UInt8.lt_trans I C
   left;exact I
  rcases C with C | ⟨rfl,C⟩
  ·left;exact C
  right;exact ⟨rfl,zkZ a b c I C⟩
theorem zsg:∀ (a b:List UInt8),a≠b->Op.bytesLess a b=false->Op.bytesLess b a=true
 | [],[],h,_=>absurd rfl h
 | [],_ :: _,_,h=>by simp [Op.bytesLess] at h
 | _ :: _,[],_,_=>rfl
 | x :: a,y :: b,hne,h=>by
  simp only [Op.bytesLess,Bool.or_eq_false_iff,Bool.and_eq_false_iff,decide_eq_false_iff_not,Bool.or_eq_true,Bool.and_eq_true,decide_eq_true_eq,beq_iff_eq] at h ⊢;by_cases e:x=y
  ·subst e;right;refine ⟨rfl,zsg a b (λe=>hne (by rw [e])) ?_⟩;rcases h.2 with h2 | h2
   ·simp at h2
   exact h2
  left;have C:=h.1;rcases Nat.lt_trichotomy x.toNat y.toNat with h' | h' | h'
  ·exact absurd (UInt8.lt_iff_toNat_lt.2 h') C
  ·exact absurd (UInt8.toNat_inj.1 h') e
  exact UInt8.lt_iff_toNat_lt.2 h'
def lt (a b:tt):Bool:=Op.bytesLess a.data.toList b.data.toList
theorem lt_irrefl (a:tt):lt a a=false:=zny _
theorem lt_trans {a b c:tt} (h:lt a b=true) (k:lt b c=true):lt a c=true:=zkZ _ _ _ h k
theorem zsh {a b:tt} (C:a≠b) (h:lt a b=false):lt b a=true:=zsg _ _ (λe=>C (Mv.zbQ e)) h
theorem zwD {a b:tt} (h:lt a b=true):a≠b:=λe=>by subst e;rw [lt_irrefl] at h;cases h
theorem zqc {a b:tt} (h:lt a b=true):lt b a=false:=by
 cases h':lt b a with
 | false=>rfl
 | true=>have:=lt_trans h h';rw [lt_irrefl] at this;cases this
/-! ### What a disk is -/
abbrev Ext:=tt × tt
abbrev Wr:=tt × Int × tt
def extF (x:Ext):List tu:=[.string x.1,.string x.2]
def wrF (x:Wr):List tu:=[.string x.1,.int .i64 x.2.1,.string x.2.2]
structure D where
  size:Int
  ext:List Ext
  waits:List Wr
  fuse:Int
  down:Bool
def D0:D:=⟨0,[],[],0,false⟩
def sec (x:Ext):Nat:=x.2.size / 64
def used:List Ext->Nat
  | []=>0
  | x :: l=>sec x+used l
theorem zaU (l m:List Ext):used (l ++ m)=used l+used m:=by
 induction l with
 | nil=>simp [used]
 | cons x l C=>simp only [List.cons_append,used,C];omega
def nm (s:tt):Prop:=s.size≠0/\s.size<=16
instance (s:ByteArray):Decidable (nm s):=by unfold nm;infer_instance
def eok (x:Ext):Prop:=nm x.1/\x.2.size≠0/\x.2.size % 64=0
instance (x:Ext):Decidable (eok x):=by unfold eok;infer_instance
def Asc (l:List Ext):Prop:=l.Pairwise λx y=>lt x.1 y.1=true
def wok (l:List Ext) (w:Wr):Prop:=∃ x ∈ l,x.1=w.1/\0<=w.2.1/\w.2.1<sec x/\w.2.2.size=64
structure ERight (l:List Ext) (size:Int):Prop where
  ok:∀ x ∈ l,eok x
  asc:Asc l
  us:(used l:Int)<=size
structure Right (d:D):Prop where
  s0:0<=d.size
  s1:d.size<=16384
  wl:d.waits.length<=16384
  fu : -1<=d.fuse
  ex:ERight d.ext d.size
  wr:∀ w ∈ d.waits,wok d.ext w
theorem zdn {x:Ext} (h:eok x):1<=sec x/\x.2.size=64*sec x:=by
 obtain ⟨_,C,I⟩:=h;unfold sec;omega
theorem znz {l:List Ext} (h:∀ x ∈ l,eok x):l.length<=used l:=by
 induction l with
 | nil=>simp [used]
 | cons x l I =>
  have J:=(zdn (h x (by simp))).1;have Q:=I λy C=>h y (by simp [C]);simp only [used,List.length_cons];omega
theorem zk0 {l:List Ext} {x:Ext} (h:x ∈ l):sec x<=used l:=by
 induction l with
 | nil=>cases h
 | cons y l C =>
  simp only [used];rcases List.mem_cons.1 h with rfl | h
  ·omega
  have:=C h;omega
noncomputable def chkD (d:D):Int:=by
  classical exact if Right d then 0 else 2
theorem zk1 {d:D} (h:Right d):chkD d=0:=by unfold chkD;exact if_pos h
theorem zcB {d:D} (h : ¬ Right d):chkD d=2:=by unfold chkD;exact if_neg h
theorem znA (d:D):(chkD d=0/\Right d)\/(chkD d=2 /\ ¬ Right d):=by
 by_cases h:Right d
 ·exact .inl ⟨zk1 h,h⟩
 exact .inr ⟨zcB h,h⟩
/-! ### Where an extent is -/
def pos (l:List Ext) (s:tt):Nat:=(l.takeWhile λx=>lt x.1 s).length
def has (l:List Ext) (s:tt):Bool:=l.any λx=>decide (x.1=s)
theorem zaO {l:List Ext} {s:tt}:has l s=true <-> ∃ x ∈ l,x.1=s:=by simp [has]
theorem znB (l:List Ext) (s:tt):pos l s<=l.length:=by
 unfold pos;exact (List.takeWhile_prefix _).length_le
theorem zqd {x:Ext} {l:List Ext} (h:Asc (x :: l)):Asc l:=(List.pairwise_cons.1 h).2
theorem zd5 {l:List Ext} (h:Asc l) {i j:Nat} (I:j<l.length) (C:i<j):lt l[i].1 l[j].1=true:=List.pairwise_iff_getElem.1 h i j vd I C
theorem zjN {l:List Ext} {s:tt} {k:Nat} (hk:k<=l.length) (I:∀ i (h:i<l.length),i<k->lt l[i].1 s=true) (C:∀ (h:k<l.length),lt l[k].1 s=false):pos l s=k:=by
 induction l generalizing k with
 | nil=>simp at hk;subst hk;rfl
 | cons x l Q =>
  unfold pos;cases k with
  | zero =>
   have:=C (by simp);simp only [List.getElem_cons_zero] at this;rw [List.takeWhile_cons,this];rfl
  | succ k =>
   have J:=I 0 (by simp) vd;simp only [List.getElem_cons_zero] at J;rw [List.takeWhile_cons,J];simp only [if_true,List.length_cons];have:=Q (k:=k) (by simpa using hk) (λi h hi=>by have:=I (i+1) (by simpa using h) vd;simpa using this) (λh=>by have:=C (by simpa using h);simpa using this);unfold pos at this;omega
theorem zvi {l:List Ext} {s:tt} {i:Nat} (hi:i<l.length) (h:i<pos l s):lt l[i].1 s=true:=by
 unfold pos at h;have C:=List.takeWhile_prefix (l:=l) (λx=>lt x.1 s);have J:(l.takeWhile λx=>lt x.1 s)[i]=l[i]:=List.IsPrefix.getElem C h;have I:=List.all_takeWhile (p:=λx:Ext=>lt x.1 s) (l:=l);have:=List.all_eq_true.1 I _ (List.getElem_mem h);rw [J] at this;exact this
theorem zvj {l:List Ext} {s:tt} (h:pos l s<l.length):lt l[pos l s].1 s=false:=by
 induction l with
 | nil=>simp at h
 | cons x l J =>
  by_cases I:lt x.1 s=true
  ·have e:pos (x :: l) s=pos l s+1:=(by unfold pos;rw [List.takeWhile_cons,I];rfl);simp only [e,List.getElem_cons_succ];exact J (by rw [e] at h;simpa using h)
  have C:lt x.1 s=false:=by simpa using I
  have e:pos (x :: l) s=0:=by unfold pos;rw [List.takeWhile_cons,C];rfl
  simp only [e,List.getElem_cons_zero];exact C
theorem zeZ {l:List Ext} (I:Asc l) (s:tt):has l s=true <-> ∃ h:pos l s<l.length,l[pos l s].1=s:=by
 constructor
 ·intro h;obtain ⟨x,J,rfl⟩:=zaO.1 h;obtain ⟨j,C,rfl⟩:=List.getElem_of_mem J;have e:pos l l[j].1=j:=zjN vd (λi h hi=>zd5 I C hi) (λh=>lt_irrefl _);exact ⟨by rw [e];exact C,by simp only [e]⟩
 rintro ⟨h,e⟩;exact zaO.2 ⟨_,List.getElem_mem h,e⟩
theorem zjO {l:List Ext} (C:Asc l) {j:Nat} (I:j<l.length):pos l l[j].1=j:=zjN vd (λi h hi=>zd5 C I hi) (λh=>lt_irrefl _)
theorem znC {l:List Ext} (C:Asc l) {x y:Ext} (Q:x ∈ l) (U:y ∈ l) (h:x.1=y.1):x=y:=by
 obtain ⟨i,hi,rfl⟩:=List.getElem_of_mem Q;obtain ⟨j,I,rfl⟩:=List.getElem_of_mem U;have J:=zjO C hi;have V:=zjO C I;rw [h] at J;have:i=j:=by omega
 subst this;rfl
end Disk
end
section
open Mv
namespace Mv
theorem mixed:prog.follows .mixedOrders=true:=by kernel_rfl
instance : TMix prog := ⟨mixed⟩
theorem zbM:plainT prog 3=true:=by kernel_rfl
theorem zcn:sizeT prog 3=some 1:=by kernel_rfl
theorem zbW:plainT prog 4=true:=by kernel_rfl
theorem zeu:sizeT prog 4=some 1:=by kernel_rfl
theorem ze0:plainT prog 5=true:=by kernel_rfl
theorem zco:sizeT prog 5=some 1:=by kernel_rfl
theorem zaQ:plainT prog 9=true:=by kernel_rfl
theorem zcp:sizeT prog 9=some 1:=by kernel_rfl
theorem zaE:strT prog 9=true:=by kernel_rfl
theorem za7:zeroT prog 9=some [.string ByteArray.empty]:=by kernel_rfl
theorem ze1:sizeT prog 23=some 1:=by kernel_rfl
theorem zbz:slT prog 23=some (142,2,32,[.string ByteArray.empty,.string ByteArray.empty]):=by kernel_rfl
theorem zdJ:sizeT prog 24=some 1:=by kernel_rfl
theorem zev:slT prog 24=some (146,3,40,[.string ByteArray.empty,.int .i64 0,.string ByteArray.empty]):=by kernel_rfl
theorem zat:aggT prog 26=true:=by kernel_rfl
theorem zal:sizeT prog 26=some 5:=by kernel_rfl
theorem zas:zeroT prog 26=some [.int .i64 0,.slice none 0 0,.slice none 0 0,.int .i64 0,.bool false]:=by kernel_rfl
theorem zc5:plainT prog 27=true:=by kernel_rfl
theorem ze2:zeroT prog 27=some [.int .i64 0]:=by kernel_rfl
theorem zbE:plainT prog 31=true:=by kernel_rfl
theorem zaw:sizeT prog 31=some 1:=by kernel_rfl
theorem zbn:zeroT prog 31=some [.int .u64 0]:=by kernel_rfl
theorem zcq:aggT prog 33=true:=by kernel_rfl
theorem zaY:sizeT prog 33=some 3:=by kernel_rfl
theorem zaR:zeroT prog 33=some [.int .u64 0,.int .u64 0,.int .i64 0]:=by kernel_rfl
theorem zfY:aggT prog 43=true:=by kernel_rfl
theorem ze3:sizeT prog 43=some 2:=by kernel_rfl
theorem ze4:zeroT prog 43=some [.string ByteArray.empty,.int .i64 0]:=by kernel_rfl
theorem zdK:zeroT prog 50=some [.pointer none]:=by kernel_rfl
theorem zaV:plainT prog 52=true:=by kernel_rfl
theorem za_:zeroT prog 52=some [.nilIface]:=by kernel_rfl
theorem zgT:sizeT prog 56=some 1:=by kernel_rfl
theorem zbo:zeroT prog 56=some [.pointer none]:=by kernel_rfl
theorem zaH:plainT prog 71=true:=by kernel_rfl
theorem zdL:sizeT prog 71=some 1:=by kernel_rfl
theorem zbp:slT prog 71=some (5,1,1,[.int .u8 0]):=by kernel_rfl
theorem zbi:bytesT prog 71=some 5:=by kernel_rfl
theorem ze5:sizeT prog 90=some 1:=by kernel_rfl
theorem za3:slT prog 90=some (9,1,16,[.string ByteArray.empty]):=by kernel_rfl
theorem zgU:zeroT prog 97=some [.pointer none]:=by kernel_rfl
theorem zdV:fieldT prog 101 2=some (2,0+1):=by kernel_rfl
theorem zcC:fieldT prog 101 3=some (3,0+1):=by kernel_rfl
theorem znD:slT prog 110=some (219,7,72,[.string ByteArray.empty,.int .i64 0,.string ByteArray.empty,.int .i64 0,.bool false,.int .u64 0,.bool false]):=by kernel_rfl
theorem zfq:plainT prog 113=true:=by kernel_rfl
theorem zjP:zeroT prog 124=some [.pointer none,.slice none 0 0]:=by kernel_rfl
theorem zjQ:zeroT prog 133=some [.string ByteArray.empty,.int .i64 0]:=by kernel_rfl
theorem zav:sizeT prog 142=some 2:=by kernel_rfl
theorem zbF:zeroT prog 142=some [.string ByteArray.empty,.string ByteArray.empty]:=by kernel_rfl
theorem zbX:sizeT prog 146=some 3:=by kernel_rfl
theorem zbG:zeroT prog 146=some [.string ByteArray.empty,.int .i64 0,.string ByteArray.empty]:=by kernel_rfl
theorem zgV:aggT prog 148=true:=by kernel_rfl
theorem zmn:arrT prog 148=some (1,[.int .u8 0,.int .u8 0,.int .u8 0,.int .u8 0,.int .u8 0]):=by kernel_rfl
theorem zd6:sizeT prog 148=some 5:=by kernel_rfl
theorem zd7:zeroT prog 148=some [.int .u8 0,.int .u8 0,.int .u8 0,.int .u8 0,.int .u8 0]:=by kernel_rfl
theorem zdo:plainT prog 161=true:=by kernel_rfl
theorem zfZ:sizeT prog 161=some 1:=by kernel_rfl
theorem zf0:zeroT prog 161=some [.slice none 0 0]:=by kernel_rfl
theorem zaq:slT prog 161=some (31,1,8,[.int .u64 0]):=by kernel_rfl
theorem zf1:slT prog 175=some (179,2,24,[.string ByteArray.empty,.int .u64 0]):=by kernel_rfl
theorem ze6:aggT prog 179=true:=by kernel_rfl
theorem zc6:sizeT prog 179=some 2:=by kernel_rfl
theorem zc7:zeroT prog 179=some [.string ByteArray.empty,.int .u64 0]:=by kernel_rfl
theorem zbH:sizeT prog 219=some 7:=by kernel_rfl
theorem zay:zeroT prog 219=some [.string ByteArray.empty,.int .i64 0,.string ByteArray.empty,.int .i64 0,.bool false,.int .u64 0,.bool false]:=by kernel_rfl
theorem zfr:plainT prog 242=true:=by kernel_rfl
theorem zjR:zeroT prog 242=some [.slice none 0 0]:=by kernel_rfl
theorem zau:slT prog 242=some (3,1,8,[.int .i64 0]):=by kernel_rfl
theorem zjS:zeroT prog 256=some [.int .u8 0,.int .u8 0,.int .u8 0,.int .u8 0]:=by kernel_rfl
theorem ziv:slT prog 288=some (289,1,8,[.pointer none]):=by kernel_rfl
theorem zdp:plainT prog 289=true:=by kernel_rfl
theorem zfs:plainT prog 291=true:=by kernel_rfl
theorem zdW:fieldT prog 293 0=some (0,0+1):=by kernel_rfl
theorem zdX:fieldT prog 293 1=some (1,0+1):=by kernel_rfl
theorem zgW:aggT prog 305=true:=by kernel_rfl
theorem zf2:sizeT prog 305=some 2:=by kernel_rfl
theorem zf3:zeroT prog 305=some [.int .u64 0,.int .u64 0]:=by kernel_rfl
theorem ze7:aggT prog 306=true:=by kernel_rfl
theorem zmo:arrT prog 306=some (1,[.int .u64 0,.int .u64 0,.int .u64 0]):=by kernel_rfl
theorem zd8:sizeT prog 306=some 3:=by kernel_rfl
theorem zbY:zeroT prog 306=some [.int .u64 0,.int .u64 0,.int .u64 0]:=by kernel_rfl
theorem zdY:fieldT prog 308 0=some (0,1+1):=by kernel_rfl
theorem zdZ:fieldT prog 308 1=some (2,2+1):=by kernel_rfl
theorem zcD:fieldT prog 310 4=some (4,4+1):=by kernel_rfl
theorem zjT:zeroT prog 323=some [.nilFunc]:=by kernel_rfl
theorem znE:slT prog 340=some (27,1,8,[.int .i64 0]):=by kernel_rfl
theorem zf4:slT prog 346=some (161,1,24,[.slice none 0 0]):=by kernel_rfl
theorem ziw:slT prog 352=some (357,1,8,[.pointer none]):=by kernel_rfl
theorem zdq:plainT prog 357=true:=by kernel_rfl
theorem zwE:goFn prog 31=true:=by kernel_rfl
theorem zwF:goFn prog 66=true:=by kernel_rfl
theorem zs9:goFn prog 67=true:=by kernel_rfl
theorem zwG:goFn prog 79=true:=by kernel_rfl
theorem znF:goFn prog 109=true:=by kernel_rfl
theorem zvk:goFn prog 113=true:=by kernel_rfl
theorem zvl:goFn prog 117=true:=by kernel_rfl
theorem zix:goFn prog 118=true:=by kernel_rfl
theorem zsi:goFn prog 120=true:=by kernel_rfl
theorem zvm:goFn prog 123=true:=by kernel_rfl
theorem zsj:goFn prog 137=true:=by kernel_rfl
theorem zsk:goFn prog 157=true:=by kernel_rfl
theorem zvn:goFn prog 182=true:=by kernel_rfl
theorem zsl:goFn prog 202=true:=by kernel_rfl
theorem zsm:goFn prog 205=true:=by kernel_rfl
theorem zsn:goFn prog 217=true:=by kernel_rfl
theorem zso:goFn prog 218=true:=by kernel_rfl
theorem zvo:goFn prog 225=true:=by kernel_rfl
theorem zvp:goFn prog 227=true:=by kernel_rfl
theorem zk2:goFn prog 228=true:=by kernel_rfl
theorem zvq:goFn prog 229=true:=by kernel_rfl
theorem zvr:goFn prog 237=true:=by kernel_rfl
theorem znG:goFn prog 250=true:=by kernel_rfl
theorem zvs:goFn prog 258=true:=by kernel_rfl
theorem zvt:goFn prog 288=true:=by kernel_rfl
instance : TPlain prog 1 := ⟨by kernel_rfl⟩
instance : TSize prog 1 1 := ⟨by kernel_rfl⟩
instance : TPlain prog 2 := ⟨by kernel_rfl⟩
instance : TSize prog 2 1 := ⟨by kernel_rfl⟩
instance : TPlain prog 3 := ⟨zbM⟩
instance : TSize prog 3 1 := ⟨zcn⟩
instance : TPlain prog 4 := ⟨zbW⟩
instance : TSize prog 4 1 := ⟨zeu⟩
instance : TPlain prog 5 := ⟨ze0⟩
instance : TSize prog 5 1 := ⟨zco⟩
instance : TAgg prog 7 := ⟨by kernel_rfl⟩
instance : TBld prog 7 ([(0, 1), (1, 1), (2, 1), (3, 1)], [.int .i64 0, .int .i64 0, .bool false, .int .u8 0]) := ⟨by kernel_rfl⟩
instance : TField prog 7 0 0 0 := ⟨by kernel_rfl⟩
instance : TField prog 7 1 1 0 := ⟨by kernel_rfl⟩
instance : TField prog 7 2 2 0 := ⟨by kernel_rfl⟩
instance : TField prog 7 3 3 0 := ⟨by kernel_rfl⟩
instance : TSize prog 7 4 := ⟨by kernel_rfl⟩
instance : TPlain prog 9 := ⟨zaQ⟩
instance : TSize prog 9 1 := ⟨zcp⟩
instance : TStr prog 9 := ⟨zaE⟩
instance : TPlain prog 23 := ⟨by kernel_rfl⟩
instance : TSize prog 23 1 := ⟨ze1⟩
instance : TPlain prog 24 := ⟨by kernel_rfl⟩
instance : TSize prog 24 1 := ⟨zdJ⟩
instance : TAgg prog 26 := ⟨zat⟩
instance : TBld prog 26 ([(0, 1), (1, 1), (2, 1), (3, 1), (4, 1)], [.int .i64 0, .slice none 0 0, .slice none 0 0, .int .i64 0, .bool false]) := ⟨by kernel_rfl⟩
instance : TField prog 26 0 0 0 := ⟨by kernel_rfl⟩
instance : TField prog 26 1 1 0 := ⟨by kernel_rfl⟩
instance : TField prog 26 2 2 0 := ⟨by kernel_rfl⟩
instance : TField prog 26 3 3 0 := ⟨by kernel_rfl⟩
instance : TField prog 26 4 4 0 := ⟨by kernel_rfl⟩
instance : TSize prog 26 5 := ⟨zal⟩
instance : TPlain prog 27 := ⟨zc5⟩
instance : TSize prog 27 1 := ⟨by kernel_rfl⟩
instance : TPlain prog 31 := ⟨zbE⟩
instance : TSize prog 31 1 := ⟨zaw⟩
instance : TAgg prog 33 := ⟨zcq⟩
instance : TBld prog 33 ([(0, 1), (1, 1), (2, 1)], [.int .u64 0, .int .u64 0, .int .i64 0]) := ⟨by kernel_rfl⟩
instance : TField prog 33 0 0 0 := ⟨by kernel_rfl⟩
instance : TField prog 33 1 1 0 := ⟨by kernel_rfl⟩
instance : TField prog 33 2 2 0 := ⟨by kernel_rfl⟩
instance : TSize prog 33 3 := ⟨zaY⟩
instance : TAgg prog 43 := ⟨zfY⟩
instance : TBld prog 43 ([(0, 1), (1, 1)], [.string ByteArray.empty, .int .i64 0]) := ⟨by kernel_rfl⟩
instance : TField prog 43 0 0 0 := ⟨by kernel_rfl⟩
instance : TField prog 43 1 1 0 := ⟨by kernel_rfl⟩
instance : TSize prog 43 2 := ⟨ze3⟩
instance : TPlain prog 50 := ⟨by kernel_rfl⟩
instance : TSize prog 50 1 := ⟨by kernel_rfl⟩
instance : TPlain prog 52 := ⟨zaV⟩
instance : TSize prog 52 1 := ⟨by kernel_rfl⟩
instance : TPlain prog 56 := ⟨by kernel_rfl⟩
instance : TSize prog 56 1 := ⟨zgT⟩
instance : TPlain prog 59 := ⟨by kernel_rfl⟩
instance : TSize prog 59 1 := ⟨by kernel_rfl⟩
instance : TPlain prog 71 := ⟨zaH⟩
instance : TSize prog 71 1 := ⟨zdL⟩
instance : TBytes prog 71 5 := ⟨zbi⟩
instance : TBld prog 73 ([(0, 1), (1, 1), (2, 1)], [.slice none 0 0, .int .u64 0, .int .i64 0]) := ⟨by kernel_rfl⟩
instance : TField prog 73 0 0 0 := ⟨by kernel_rfl⟩
instance : TField prog 73 1 1 0 := ⟨by kernel_rfl⟩
instance : TField prog 73 2 2 0 := ⟨by kernel_rfl⟩
instance : TSize prog 73 3 := ⟨by kernel_rfl⟩
instance : TPlain prog 78 := ⟨by kernel_rfl⟩
instance : TSize prog 78 1 := ⟨by kernel_rfl⟩
instance : TAgg prog 82 := ⟨by kernel_rfl⟩
instance : TBld prog 82 ([(0, 5)], [.int .i64 0, .slice none 0 0, .slice none 0 0, .int .i64 0, .bool false]) := ⟨by kernel_rfl⟩
instance : TField prog 82 0 0 4 := ⟨by kernel_rfl⟩
instance : TSize prog 82 5 := ⟨by kernel_rfl⟩
instance : TPlain prog 89 := ⟨by kernel_rfl⟩
instance : TSize prog 89 1 := ⟨by kernel_rfl⟩
instance : TPlain prog 90 := ⟨by kernel_rfl⟩
instance : TSize prog 90 1 := ⟨ze5⟩
instance : TAgg prog 92 := ⟨by kernel_rfl⟩
instance : TBld prog 92 ([(0, 1), (1, 5), (6, 1), (7, 3)], [.pointer none, .int .i64 0, .slice none 0 0, .slice none 0 0, .int .i64 0, .bool false, .slice none 0 0, .int .u64 0, .int .u64 0, .int .i64 0]) := ⟨by kernel_rfl⟩
instance : TField prog 92 0 0 0 := ⟨by kernel_rfl⟩
instance : TField prog 92 1 1 4 := ⟨by kernel_rfl⟩
instance : TField prog 92 2 6 0 := ⟨by kernel_rfl⟩
instance : TField prog 92 3 7 2 := ⟨by kernel_rfl⟩
instance : TSize prog 92 10 := ⟨by kernel_rfl⟩
instance : TPlain prog 96 := ⟨by kernel_rfl⟩
instance : TSize prog 96 1 := ⟨by kernel_rfl⟩
instance : TPlain prog 97 := ⟨by kernel_rfl⟩
instance : TSize prog 97 1 := ⟨by kernel_rfl⟩
instance : TAgg prog 101 := ⟨by kernel_rfl⟩
instance : TBld prog 101 ([(0, 1), (1, 1), (2, 1), (3, 1), (4, 1), (5, 1), (6, 1), (7, 1)], [.pointer none, .string ByteArray.empty, .int .i64 0, .int .u64 0, .int .i64 0, .int .i64 0, .int .i64 0, .int .i64 0]) := ⟨by kernel_rfl⟩
instance : TField prog 101 0 0 0 := ⟨by kernel_rfl⟩
instance : TField prog 101 1 1 0 := ⟨by kernel_rfl⟩
instance : TField prog 101 2 2 0 := ⟨zdV⟩
instance : TField prog 101 3 3 0 := ⟨zcC⟩
instance : TField prog 101 4 4 0 := ⟨by kernel_rfl⟩
instance : TField prog 101 5 5 0 := ⟨by kernel_rfl⟩
instance : TField prog 101 6 6 0 := ⟨by kernel_rfl⟩
instance : TField prog 101 7 7 0 := ⟨by kernel_rfl⟩
instance : TSize prog 101 8 := ⟨by kernel_rfl⟩
instance : TPlain prog 110 := ⟨by kernel_rfl⟩
instance : TSize prog 110 1 := ⟨by kernel_rfl⟩
instance : TAgg prog 112 := ⟨by kernel_rfl⟩
instance : TBld prog 112 ([(0, 1), (1, 1), (2, 1), (3, 1), (4, 1), (5, 1)], [.pointer none, .slice none 0 0, .int .u64 0, .int .u64 0, .int .u64 0, .int .i64 0]) := ⟨by kernel_rfl⟩
instance : TField prog 112 0 0 0 := ⟨by kernel_rfl⟩
instance : TField prog 112 1 1 0 := ⟨by kernel_rfl⟩
instance : TField prog 112 2 2 0 := ⟨by kernel_rfl⟩
instance : TField prog 112 3 3 0 := ⟨by kernel_rfl⟩
instance : TField prog 112 4 4 0 := ⟨by kernel_rfl⟩
instance : TField prog 112 5 5 0 := ⟨by kernel_rfl⟩
instance : TSize prog 112 6 := ⟨by kernel_rfl⟩
instance : TPlain prog 113 := ⟨zfq⟩
instance : TSize prog 113 1 := ⟨by kernel_rfl⟩
instance : TAgg prog 115 := ⟨by kernel_rfl⟩
instance : TBld prog 115 ([(0, 1)], [.pointer none]) := ⟨by kernel_rfl⟩
instance : TField prog 115 0 0 0 := ⟨by kernel_rfl⟩
instance : TSize prog 115 1 := ⟨by kernel_rfl⟩
instance : TPlain prog 122 := ⟨by kernel_rfl⟩
instance : TSize prog 122 1 := ⟨by kernel_rfl⟩
instance : TField prog 124 0 0 0 := ⟨by kernel_rfl⟩
instance : TField prog 124 1 1 0 := ⟨by kernel_rfl⟩
instance : TAgg prog 133 := ⟨by kernel_rfl⟩
instance : TBld prog 133 ([(0, 2)], [.string ByteArray.empty, .int .i64 0]) := ⟨by kernel_rfl⟩
instance : TField prog 133 0 0 1 := ⟨by kernel_rfl⟩
instance : TSize prog 133 2 := ⟨by kernel_rfl⟩
instance : TAgg prog 142 := ⟨by kernel_rfl⟩
instance : TBld prog 142 ([(0, 1), (1, 1)], [.string ByteArray.empty, .string ByteArray.empty]) := ⟨by kernel_rfl⟩
instance : TField prog 142 0 0 0 := ⟨by kernel_rfl⟩
instance : TField prog 142 1 1 0 := ⟨by kernel_rfl⟩
instance : TSize prog 142 2 := ⟨zav⟩
instance : TAgg prog 146 := ⟨by kernel_rfl⟩
instance : TBld prog 146 ([(0, 1), (1, 1), (2, 1)], [.string ByteArray.empty, .int .i64 0, .string ByteArray.empty]) := ⟨by kernel_rfl⟩
instance : TField prog 146 0 0 0 := ⟨by kernel_rfl⟩
instance : TField prog 146 1 1 0 := ⟨by kernel_rfl⟩
instance : TField prog 146 2 2 0 := ⟨by kernel_rfl⟩
instance : TSize prog 146 3 := ⟨zbX⟩
instance : TAgg prog 148 := ⟨zgV⟩
instance : TSize prog 148 5 := ⟨zd6⟩
instance : TPlain prog 161 := ⟨zdo⟩
instance : TSize prog 161 1 := ⟨zfZ⟩
instance : TBld prog 163 ([(0, 1), (1, 1), (2, 1), (3, 1), (4, 1), (5, 1), (6, 1)], [.pointer none, .string ByteArray.empty, .int .i64 0, .int .u64 0, .int .i64 0, .int .i64 0, .int .i64 0]) := ⟨by kernel_rfl⟩
instance : TField prog 163 0 0 0 := ⟨by kernel_rfl⟩
instance : TField prog 163 1 1 0 := ⟨by kernel_rfl⟩
instance : TField prog 163 2 2 0 := ⟨by kernel_rfl⟩
instance : TField prog 163 3 3 0 := ⟨by kernel_rfl⟩
instance : TField prog 163 4 4 0 := ⟨by kernel_rfl⟩
instance : TField prog 163 5 5 0 := ⟨by kernel_rfl⟩
instance : TField prog 163 6 6 0 := ⟨by kernel_rfl⟩
instance : TSize prog 163 7 := ⟨by kernel_rfl⟩
instance : TPlain prog 175 := ⟨by kernel_rfl⟩
instance : TSize prog 175 1 := ⟨by kernel_rfl⟩
instance : TAgg prog 179 := ⟨ze6⟩
instance : TBld prog 179 ([(0, 1), (1, 1)], [.string ByteArray.empty, .int .u64 0]) := ⟨by kernel_rfl⟩
instance : TField prog 179 0 0 0 := ⟨by kernel_rfl⟩
instance : TField prog 179 1 1 0 := ⟨by kernel_rfl⟩
instance : TSize prog 179 2 := ⟨zc6⟩
instance : TAgg prog 219 := ⟨by kernel_rfl⟩
instance : TBld prog 219 ([(0, 1), (1, 1), (2, 1), (3, 1), (4, 1), (5, 1), (6, 1)], [.string ByteArray.empty, .int .i64 0, .string ByteArray.empty, .int .i64 0, .bool false, .int .u64 0, .bool false]) := ⟨by kernel_rfl⟩
instance : TField prog 219 0 0 0 := ⟨by kernel_rfl⟩
instance : TField prog 219 1 1 0 := ⟨by kernel_rfl⟩
instance : TField prog 219 2 2 0 := ⟨by kernel_rfl⟩
instance : TField prog 219 3 3 0 := ⟨by kernel_rfl⟩
instance : TField prog 219 4 4 0 := ⟨by kernel_rfl⟩
instance : TField prog 219 5 5 0 := ⟨by kernel_rfl⟩
instance : TField prog 219 6 6 0 := ⟨by kernel_rfl⟩
instance : TSize prog 219 7 := ⟨zbH⟩
instance : TPlain prog 242 := ⟨zfr⟩
instance : TSize prog 242 1 := ⟨by kernel_rfl⟩
instance : TPlain prog 288 := ⟨by kernel_rfl⟩
instance : TSize prog 288 1 := ⟨by kernel_rfl⟩
instance : TPlain prog 289 := ⟨zdp⟩
instance : TPlain prog 291 := ⟨zfs⟩
instance : TAgg prog 293 := ⟨by kernel_rfl⟩
instance : TBld prog 293 ([(0, 1), (1, 1)], [.slice none 0 0, .slice none 0 0]) := ⟨by kernel_rfl⟩
instance : TField prog 293 0 0 0 := ⟨zdW⟩
instance : TField prog 293 1 1 0 := ⟨zdX⟩
instance : TSize prog 293 2 := ⟨by kernel_rfl⟩
instance : TAgg prog 305 := ⟨zgW⟩
instance : TSize prog 305 2 := ⟨zf2⟩
instance : TAgg prog 306 := ⟨ze7⟩
instance : TSize prog 306 3 := ⟨zd8⟩
instance : TField prog 308 0 0 1 := ⟨zdY⟩
instance : TField prog 308 1 2 2 := ⟨zdZ⟩
instance : TBld prog 310 ([(0, 1), (1, 1), (2, 1), (3, 1), (4, 5)], [.pointer none, .pointer none, .int .u64 0, .slice none 0 0, .int .u64 0, .int .u64 0, .int .u64 0, .int .u64 0, .int .u64 0]) := ⟨by kernel_rfl⟩
instance : TField prog 310 0 0 0 := ⟨by kernel_rfl⟩
instance : TField prog 310 1 1 0 := ⟨by kernel_rfl⟩
instance : TField prog 310 2 2 0 := ⟨by kernel_rfl⟩
instance : TField prog 310 3 3 0 := ⟨by kernel_rfl⟩
instance : TField prog 310 4 4 4 := ⟨zcD⟩
instance : TSize prog 310 9 := ⟨by kernel_rfl⟩
instance : TPlain prog 323 := ⟨by kernel_rfl⟩
instance : TSize prog 323 1 := ⟨by kernel_rfl⟩
instance : TPlain prog 346 := ⟨by kernel_rfl⟩
instance : TBld prog 356 ([(0, 1), (1, 1)], [.pointer none, .slice none 0 0]) := ⟨by kernel_rfl⟩
instance : TField prog 356 0 0 0 := ⟨by kernel_rfl⟩
instance : TField prog 356 1 1 0 := ⟨by kernel_rfl⟩
instance : TSize prog 356 2 := ⟨by kernel_rfl⟩
instance : TPlain prog 357 := ⟨zdq⟩
instance : TSize prog 357 1 := ⟨by kernel_rfl⟩
instance : TBld prog 383 ([(0, 1), (1, 1)], [.slice none 0 0, .slice none 0 0]) := ⟨by kernel_rfl⟩
instance : TField prog 383 0 0 0 := ⟨by kernel_rfl⟩
instance : TField prog 383 1 1 0 := ⟨by kernel_rfl⟩
instance : TSize prog 383 2 := ⟨by kernel_rfl⟩
instance : TBld prog 385 ([(0, 2)], [.slice none 0 0, .slice none 0 0]) := ⟨by kernel_rfl⟩
instance : TField prog 385 0 0 1 := ⟨by kernel_rfl⟩
instance : TSize prog 385 2 := ⟨by kernel_rfl⟩
instance : TUnd prog 2 (.int .i64) := ⟨underlying2⟩
instance : TUnd prog 3 (.int .i64) := ⟨underlying3⟩
instance : TUnd prog 4 (.bool) := ⟨underlying4⟩
instance : TUnd prog 5 (.int .u8) := ⟨underlying5⟩
instance : TUnd prog 6 (.int .u8) := ⟨underlying6⟩
instance : TUnd prog 9 (.string) := ⟨underlying9⟩
instance : TUnd prog 10 (.string) := ⟨underlying10⟩
instance : TUnd prog 11 (.string) := ⟨underlying11⟩
instance : TUnd prog 12 (.int .u64) := ⟨underlying12⟩
instance : TUnd prog 21 (.int .i32) := ⟨underlying21⟩
instance : TUnd prog 23 (.slice 142) := ⟨underlying23⟩
instance : TUnd prog 24 (.slice 146) := ⟨underlying24⟩
instance : TUnd prog 27 (.int .i64) := ⟨underlying27⟩
instance : TUnd prog 31 (.int .u64) := ⟨underlying31⟩
instance : TUnd prog 71 (.slice 5) := ⟨underlying71⟩
instance : TUnd prog 90 (.slice 9) := ⟨underlying90⟩
instance : TUnd prog 110 (.slice 219) := ⟨underlying110⟩
instance : TUnd prog 131 (.int .u64) := ⟨underlying131⟩
instance : TUnd prog 148 (.array 5 5) := ⟨underlying148⟩
instance : TUnd prog 161 (.slice 31) := ⟨underlying161⟩
instance : TUnd prog 175 (.slice 179) := ⟨underlying175⟩
instance : TUnd prog 214 (.int .u32) := ⟨underlying214⟩
instance : TUnd prog 222 (.int .u64) := ⟨underlying222⟩
instance : TUnd prog 227 (.int .u8) := ⟨underlying227⟩
instance : TUnd prog 240 (.slice 52) := ⟨underlying240⟩
instance : TUnd prog 242 (.slice 3) := ⟨underlying242⟩
instance : TUnd prog 256 (.array 4 5) := ⟨underlying256⟩
instance : TUnd prog 265 (.array 256 4) := ⟨underlying265⟩
instance : TUnd prog 266 (.array 256 4) := ⟨underlying266⟩
instance : TUnd prog 288 (.slice 289) := ⟨underlying288⟩
instance : TUnd prog 291 (.slice 31) := ⟨underlying291⟩
instance : TUnd prog 305 (.array 2 31) := ⟨underlying305⟩
instance : TUnd prog 306 (.array 3 31) := ⟨underlying306⟩
instance : TUnd prog 340 (.slice 27) := ⟨underlying340⟩
instance : TUnd prog 346 (.slice 161) := ⟨underlying346⟩
instance : TUnd prog 352 (.slice 357) := ⟨underlying352⟩
instance : TUnd prog 361 (.array 256 5) := ⟨underlying361⟩
instance : TUnd prog 364 (.array 16 363) := ⟨underlying364⟩
instance : TUnd prog 368 (.int .i64) := ⟨underlying368⟩
instance : TUnd prog 387 (.int .u64) := ⟨underlying387⟩
instance : TUnd prog 409 (.array 0 16) := ⟨underlying409⟩
instance : TUnd prog 413 (.int .u8) := ⟨underlying413⟩
instance : TUnd prog 415 (.int .i32) := ⟨underlying415⟩
instance : TUnd prog 416 (.int .i32) := ⟨underlying416⟩
instance : TUnd prog 427 (.int .u16) := ⟨underlying427⟩
instance : TUnd prog 430 (.slice 433) := ⟨underlying430⟩
instance : TUnd prog 431 (.int .i32) := ⟨underlying431⟩
end Mv
end
section
open Go.RowKit
open Mv Disk
def strs (s:tt):List tu:=[.string s]
def cmpI (a b:tt):Int:=if a=b then 0 else if lt a b=true then -1 else 1
theorem zk3 (a b:tt):Op.bytesLess a.data.toList b.data.toList=lt a b:=rfl
theorem zjU (s:tt):(s=ByteArray.empty) <-> s.size=0:=⟨λh=>by rw [h];rfl,λh=>by
 apply zbQ;have:=za5 s;rw [h] at this;rw [List.eq_nil_of_length_eq_zero this];rfl⟩
def bad (s:tt):Bool:=decide (s.size=0\/16<s.size)
theorem zs_ {s:tt}:bad s=true <-> ¬ nm s:=by unfold bad nm;rw [decide_eq_true_eq];omega
theorem zvu {s:tt}:bad s=false <-> nm s:=by unfold bad nm;rw [decide_eq_false_iff_not];omega
theorem zjV (s:tt) (S:Mem):ACall prog 123 #[.string s] S λr S'=>r = .bool (bad s)/\S'=S:=by
 by_cases C:s.size=0
 ·have e:(decide (s=ByteArray.empty))=true:=decide_eq_true ((zjU s).2 C);refine k_E1 10 func123 ?_;refine r8_ ?_;refine rC (vh rfl rfl (zaf (zar _ _) e)) ?_;refine r9_ ?_;refine ⟨_,S,⟨_,_,rfl,rfl,rfl⟩,zae,?_⟩;exact ⟨by rw [show bad s=true from decide_eq_true (.inl C)];rfl,rfl⟩
 have e:(decide (s=ByteArray.empty))=false:=decide_eq_false (λh=>C ((zjU s).1 h));refine k_E1 10 func123 ?_;refine r8_ ?_;refine rC (vh rfl rfl (zaf (zar _ _) e)) ?_;refine r9_ ?_;refine ⟨_,S,⟨_,_,rfl,rfl,rfl⟩,zae,?_⟩;exact ⟨congrArg Value.bool (decide_eq_decide.2 vd),rfl⟩
theorem zmp (v:tu) (l:List tt) (S:Mem) (hl:Sl 1 strs S v l) :
  ACall prog 159 #[v,.func (.func 123) #[] #[]] S λr S'=>(∃ n:Int,r = .int .i64 n/\(0<=n <-> ∃ s ∈ l,¬ nm s))/\S'=S:=by
 obtain ⟨a,cap,rfl,I,Z,U⟩:=id hl;refine k_E2 19 func159 ?_;refine r14_ ?_;refine AWP.loop (X:=Nat) (λx=>[(0,.slice a l.length cap),(1,.func (.func 123) #[] #[]),(7,.int .i64 l.length),(8,.int .i64 x)]) (λx=>S) (λx=>x<=l.length /\ ∀ j (h:j<l.length),j<x->nm l[j]) (λx=>l.length-x) (0) ⟨rfl,rfl,rfl,rfl,trivial⟩ (Mem.Less.refl _) (⟨Nat.zero_le _,λj _ h=>absurd h (Nat.not_lt_zero _)⟩) ?_;rintro i ⟨hi,C⟩;(try dsimp only at *);refine r6_ ?_;refine vu rfl (λhc=>?_) (λhc=>?_)
 ·have hc:i<l.length:=by have:=of_decide_eq_true hc;omega
  obtain ⟨b,off,rfl,hk⟩:=U.resolve_left (λe=>by subst e;simp at hc);have J:=hk i hc;unfold strs at J;refine r17_ ?_;refine vn (zab rfl) zvm rfl rfl (zjV l[i] _) ?_;rintro _ Y ⟨rfl,I⟩;rw [I];clear I Y;refine r2_ ?_;refine vu rfl (λhb=>?_) (λhb=>?_)
  ·refine r6_ ?_;refine r6_ ?_;refine ⟨_,S,⟨_,_,rfl,rfl,rfl⟩,zae,?_⟩;exact ⟨⟨i,rfl,by constructor;exact λ_=>⟨_,List.getElem_mem hc,zs_.1 hb⟩;omega⟩,rfl⟩
  refine r8_ ?_;refine ⟨i+1,?_,?_,?_,?_⟩<;>try dsimp only
  ·exact ⟨rfl,rfl,rfl,rfl,trivial⟩
  ·exact zae
  ·exact ⟨hc,λj h Q=>by rcases Nat.lt_or_ge j i with h' | h';exact C j h h';obtain rfl:j=i:=vd;exact zvu.1 hb⟩
  omega
 have hc:i=l.length:=by have:=of_decide_eq_false hc;omega
 refine r11_ ?_;refine ⟨_,S,⟨_,_,rfl,rfl,rfl⟩,zae,?_⟩;exact ⟨⟨-1,rfl,by constructor;omega;rintro ⟨s,hs,V⟩;obtain ⟨j,Q,rfl⟩:=List.getElem_of_mem hs;exact absurd (C j Q vd) V⟩,rfl⟩
theorem zhD (v:tu) (l:List tt) (S:Mem) (hl:Sl 1 strs S v l) :
  ACall prog 122 #[v,.func (.func 123) #[] #[]] S λr S'=>(∃ t:Bool,r = .bool t/\(t=true <-> ∃ s ∈ l,¬ nm s))/\S'=S:=by
 refine k_E2 9 func122 ?_;refine r9_ ?_;refine ca_ rfl (zmp v l _ hl) ?_;rintro _ I ⟨⟨n,rfl,J⟩,C⟩;rw [C];clear C I;refine r5_ ?_;refine ⟨_,S,⟨_,_,rfl,rfl,rfl⟩,zae,?_⟩;exact ⟨⟨decide (0<=n),rfl,by rw [decide_eq_true_eq];exact J⟩,rfl⟩
theorem zba (v:tu) (l:List tt) (S:Mem) (hl:Sl 1 strs S v l) :
  ACall prog 73 #[v] S λr S'=>(∃ t:Bool,r = .bool t/\(t=true <-> ∀ s ∈ l,nm s))/\S'=S:=by
 refine k_E1 6 func73 ?_;refine r8_ ?_;refine ca_ rfl (zhD v l _ hl) ?_;rintro _ J ⟨⟨t,rfl,I⟩,C⟩;rw [C];clear C J;refine r5_ ?_;refine ⟨_,S,⟨_,_,rfl,rfl,rfl⟩,zae,?_⟩;exact ⟨⟨!t,rfl,by cases t <;> simp at I ⊢ <;> exact I⟩,rfl⟩
theorem zdM (s:tt) (S:Mem):ACall prog 173 #[.string s] S λr S'=>r = .bool false/\S'=S:=by
 refine k_E1 6 func173 ?_;refine r9_ ?_;refine rC (vh rfl rfl (zaf (zaT _ _) (za9 rfl))) ?_;refine r4_ ?_;refine ⟨_,S,⟨_,_,rfl,rfl,rfl⟩,zae,?_⟩;exact ⟨rfl,rfl⟩
theorem ziy (a b:tt) (S:Mem):ACall prog 121 #[.string a,.string b] S λr S'=>r = .int .i64 (cmpI a b)/\S'=S:=by
 unfold cmpI;by_cases e:a=b
 ·subst e;rw [if_pos rfl];refine k_E2 20 func121 ?_;refine r8_ ?_;refine cp_ rfl (zdM a _) ?_;refine r6_ ?_;refine cp_ rfl (zdM a _) ?_;refine r9_ ?_;refine cF_ ?_;refine r8_ ?_;refine cF_ ?_;refine r7_ ?_;refine rC (vh rfl rfl (zaf (zc4 _ _) (lt_irrefl a))) ?_;refine r2_ ?_;refine cF_ ?_;refine r7_ ?_;refine rC (vh rfl rfl (zaf (zd4 _ _) (by rw [zk3,lt_irrefl,decide_eq_true rfl];first | done | rfl))) ?_;refine r2_ ?_;refine cF_ ?_;refine r8_ ?_;refine ⟨_,S,⟨_,_,rfl,rfl,rfl⟩,zae,?_⟩;exact ⟨rfl,rfl⟩
 rw [if_neg e];by_cases h:lt a b=true
 ·rw [if_pos h];refine k_E2 20 func121 ?_;refine r8_ ?_;refine cp_ rfl (zdM a _) ?_;refine r3_ ?_;refine kw_ [0,1,4,5] ?_;refine r3_ ?_;refine cp_ rfl (zdM b _) ?_;refine r9_ ?_;refine cF_ ?_;refine r8_ ?_;refine cF_ ?_;refine r7_ ?_;refine rC (vh rfl rfl (zaf (zc4 _ _) h)) ?_;refine r2_ ?_;refine cT_ ?_;refine r7_ ?_;refine ⟨_,S,⟨_,_,rfl,rfl,rfl⟩,zae,?_⟩;exact ⟨rfl,rfl⟩
 have h':lt a b=false:=by simpa using h
 rw [if_neg h];refine k_E2 20 func121 ?_;refine r8_ ?_;refine cp_ rfl (zdM a _) ?_;refine r6_ ?_;refine cp_ rfl (zdM b _) ?_;refine r9_ ?_;refine cF_ ?_;refine r8_ ?_;refine cF_ ?_;refine r7_ ?_;refine rC (vh rfl rfl (zaf (zc4 _ _) h')) ?_;refine r2_ ?_;refine kw_ [0,1,4,5,6,11,13,16] ?_;refine cF_ ?_;refine r7_ ?_;refine rC (vh rfl rfl (zaf (zd4 _ _) (by rw [zk3,h',decide_eq_false e];first | done | rfl))) ?_;refine r2_ ?_;refine cT_ ?_;refine r7_ ?_;refine ⟨_,S,⟨_,_,rfl,rfl,rfl⟩,zae,?_⟩;exact ⟨rfl,rfl⟩
theorem zgX (x:Ext) (s:tt) (S:Mem):ACall prog 120 #[.agg #[.string x.1,.string x.2],.string s] S λr S'=>r = .int .i64 (cmpI x.1 s)/\S'=S:=by
 refine k_E2 9 func120 ?_;refine r2_ ?_;refine vA (cs:=[_,_]) (zab rfl) rfl ?_;intro J I;have C:=I
 repeat ((with_reducible replace C:=zaa C);obtain ⟨C,_⟩:=C)
 refine nl_ ?_;refine r8_ ?_;refine cp_ rfl (ziy x.1 s _) ?_;refine r4_ ?_;refine ⟨_,S,⟨_,_,rfl,rfl,rfl⟩,zae,?_⟩;exact ⟨rfl,rfl⟩
theorem zk4 {a b:tt}:cmpI a b<0 <-> lt a b=true:=by
 unfold cmpI;by_cases e:a=b
 ·subst e;rw [if_pos rfl,lt_irrefl];simp
 rw [if_neg e];by_cases h:lt a b=true
 ·rw [if_pos h];simp [h]
 rw [if_neg h];simp [h]
theorem znH {a b:tt}:cmpI a b=0 <-> a=b:=by
 unfold cmpI;by_cases e:a=b
 ·rw [if_pos e];simp [e]
 rw [if_neg e];by_cases h:lt a b=true
 ·rw [if_pos h];simp [e]
 rw [if_neg h];simp [e]
theorem zjW (v:tu) (l:List Ext) (s:tt) (S:Mem) (hl:Sl 2 extF S v l) (ha:Asc l) (hn:l.length<=1048576) :
  ACall prog 119 #[v,.string s,.func (.func 120) #[] #[]] S λr S'=>r = .tuple #[.int .i64 (pos l s:Nat),.bool (has l s)]/\S'=S:=by
 obtain ⟨a,cap,rfl,Q,h2,h3⟩:=id hl;refine k_E3 49 func119 ?_;refine r22_ ?_;refine AWP.loop (X:=Nat × Nat) (λx=>[(0,.slice a l.length cap),(1,.string s),(2,.func (.func 120) #[] #[]),(8,.int .i64 l.length),(9,.int .i64 x.1),(10,.int .i64 x.2)]) (λx=>S) (λx=>x.1<=x.2/\x.2<=l.length/\(∀ j (h:j<l.length),j<x.1->lt l[j].1 s=true) /\ ∀ j (h:j<l.length),x.2<=j->lt l[j].1 s=false) (λx=>x.2-x.1) ((0,l.length)) ⟨rfl,rfl,rfl,rfl,rfl,rfl,trivial⟩ (Mem.Less.refl _) (⟨Nat.zero_le _,Nat.le_refl _,λj _ h=>absurd h (Nat.not_lt_zero _),λj h h'=>absurd h (Nat.not_lt.2 h')⟩) ?_;rintro ⟨i,j⟩ ⟨ai,hj,Y,V⟩;(try dsimp only at *);refine r8_ ?_;refine vu rfl (λhc=>?_) (λhc=>?_)
 ·have hc:i<j:=by have:=of_decide_eq_true hc;omega
  obtain ⟨b,off,rfl,hk⟩:=h3.resolve_left (λe=>by subst e;simp at hj;omega);obtain ⟨m,hm⟩ : ∃ m,(i+j) / 2=m:=⟨_,rfl⟩;have ac:m<l.length:=by omega
  have J:=hk m ac;unfold extF at J;have e1:IntKind.i64.wrap (((i:Int)+(j:Int)) / 2 ^ (1:Int).toNat)=(m:Int):=by rw [show (2:Int) ^ (1:Int).toNat=2 from rfl,IntWalk.i64_in _ vd];omega
  refine r14_ ?_;rw [e1];refine r8_ ?_;refine vn (zab rfl) zsi rfl rfl (zgX l[m] s _) ?_;rintro _ S1 ⟨rfl,Q⟩;rw [Q];clear Q S1;refine r3_ ?_;refine kw_ [0,1,2,8,9,10,17,11,31] ?_;refine vu rfl (λhb=>?_) (λhb=>?_)
  ·have hb:lt l[m].1 s=true:=zk4.1 (of_decide_eq_true hb);have aa:∀ k (h:k<l.length),k<m+1->lt l[k].1 s=true:=λk h af=>by rcases Nat.lt_or_ge k m with h' | h';exact lt_trans (zd5 ha ac h') hb;obtain rfl:k=m:=vd;exact hb
   refine r7_ ?_;refine ⟨(m+1,j),?_,?_,?_,?_⟩<;>try dsimp only
   ·exact ⟨rfl,rfl,rfl,rfl,rfl,rfl,trivial⟩
   ·exact zae
   ·exact ⟨by omega,hj,aa,V⟩
   omega
  have hb:lt l[m].1 s=false:=by have:=of_decide_eq_false hb;rw [zk4] at this;simpa using this
  have Z:∀ k (h:k<l.length),m<=k->lt l[k].1 s=false:=λk h af=>by rcases Nat.lt_or_ge m k with h' | h';(cases hq:lt l[k].1 s with | false=>rfl | true=>have:=lt_trans (zd5 ha h h') hq;rw [hb] at this;cases this);obtain rfl:k=m:=vd;exact hb
  refine r6_ ?_;refine ⟨(i,m),?_,?_,?_,?_⟩<;>try dsimp only
  ·exact ⟨rfl,rfl,rfl,rfl,rfl,rfl,trivial⟩
  ·exact zae
  ·exact ⟨by omega,by omega,Y,Z⟩
  omega
 have hc:i=j:=by have:=of_decide_eq_false hc;omega
 subst hc;have U:pos l s=i:=zjN hj Y (λh=>V i h (Nat.le_refl _));have hh:=zeZ ha s;by_cases C:i<l.length
 ·obtain ⟨b,off,rfl,hk⟩:=h3.resolve_left (λe=>by subst e;simp at C);have J:=hk i C;unfold extF at J;refine r18_ ?_;refine rUn 39 ?_;refine vn (zab rfl) zsi rfl rfl (zgX l[i] s _) ?_;rintro _ S1 ⟨rfl,Q⟩;rw [Q];clear Q S1;have I:decide (cmpI l[i].1 s=0)=has l s:=by rw [Bool.eq_iff_iff,decide_eq_true_eq,znH,hh];constructor;exact λe=>⟨by rw [U];exact C,by simp only [U];exact e⟩;exact λ⟨_,e⟩=>by simpa only [U] using e
  refine r7_ ?_;refine ⟨_,S,⟨_,_,rfl,⟨_,_,rfl,rfl,rfl⟩,rfl⟩,zae,?_⟩;exact ⟨by rw [U,<- I];rfl,rfl⟩
 have I:has l s=false:=by cases h:has l s with | false=>rfl | true=>obtain ⟨h',_⟩:=hh.1 h;rw [U] at h';omega
 refine r26_ ?_;refine ⟨_,S,⟨_,_,rfl,⟨_,_,rfl,rfl,rfl⟩,rfl⟩,zae,?_⟩;exact ⟨by rw [U,I];rfl,rfl⟩
theorem zby (v:tu) (l:List Ext) (s:tt) (S:Mem) (hl:Sl 2 extF S v l) (C:Asc l) (I:l.length<=1048576) :
  ACall prog 72 #[v,.string s] S λr S'=>r = .tuple #[.int .i64 (pos l s:Nat),.bool (has l s)]/\S'=S:=by
 refine k_E2 11 func72 ?_;refine r10_ ?_;refine cp_ rfl (zjW v l s _ hl C I) ?_;refine r7_ ?_;refine ⟨_,S,⟨_,_,rfl,⟨_,_,rfl,rfl,rfl⟩,rfl⟩,zae,?_⟩;exact ⟨rfl,rfl⟩
theorem zbj (x:Ext) (S:Mem) (J:x.2.size<=9223372036854775807):ACall prog 118 #[.agg #[.string x.1,.string x.2]] S λr S'=>r = .int .i64 (sec x:Nat)/\S'=S:=by
 refine k_E1 7 func118 ?_;refine r2_ ?_;refine vA (cs:=[_,_]) (zab rfl) rfl ?_;intro I f1;have C:=f1
 repeat ((with_reducible replace C:=zaa C);obtain ⟨C,_⟩:=C)
 refine nl_ ?_;refine r13_ ?_;refine ⟨_,S,⟨_,_,rfl,rfl,rfl⟩,zae,?_⟩;exact ⟨val_int (by unfold sec;omega),rfl⟩
end
section
open Go.RowKit
namespace Disk
theorem zqe {x:tt} (h:x.size≠0):lt ByteArray.empty x=true:=by
 unfold lt;cases e:x.data.toList with
 | nil=>have:=Mv.za5 x;rw [e] at this;simp at this;omega
 | cons a l=>rfl
theorem zb3 {α : Type} {l:List α} {i:Nat} (h:i<l.length):l.take (i+1)=l.take i ++ [l[i]]:=by
 rw [List.take_add_one,List.getElem?_eq_getElem h];rfl
def lastN (l:List Ext):Nat->tt
  | 0=>ByteArray.empty
  | i+1=>(l[i]?.map (·.1)).getD ByteArray.empty
theorem ze8 {l:List Ext} {i:Nat} (h:i<l.length):lastN l (i+1)=l[i].1:=by
 simp [lastN,List.getElem?_eq_getElem h]
structure Upto (l:List Ext) (size:Int) (i:Nat):Prop where
  ok:∀ x ∈ l.take i,eok x
  asc:Asc (l.take i)
  us:(used (l.take i):Int)<=size
theorem znI (l:List Ext) {size:Int} (h:0<=size):Upto l size 0:=⟨λx h=>by simp at h,by simp [Asc],by simpa [used] using h⟩
theorem zqf {l:List Ext} {size:Int} (h:Upto l size l.length):ERight l size:=by
 obtain ⟨C,J,I⟩:=h;rw [List.take_length] at C J I;exact ⟨C,J,I⟩
theorem znJ {l:List Ext} {size:Int} {i:Nat} (h:Upto l size i) (hi:i<l.length) (U:eok l[i]) (I:lt (lastN l i) l[i].1=true) (X:(used (l.take i):Int)+sec l[i]<=size):Upto l size (i+1):=by
 have e:=zb3 hi;refine ⟨λx hx=>?_,?_,?_⟩
 ·rw [e,List.mem_append] at hx;rcases hx with hx | hx
  ·exact h.ok x hx
  rw [List.mem_singleton.1 hx];exact U
 ·rw [e];unfold Asc;rw [List.pairwise_append];refine ⟨h.asc,by simp,λa J b hb=>?_⟩;rw [List.mem_singleton.1 hb];obtain ⟨j,Q,rfl⟩:=List.getElem_of_mem J;have V:j<i:=by simp at Q;omega
  cases i with
  | zero=>omega
  | succ i =>
   rw [ze8 vd] at I;by_cases C:j=i
   ·subst C;simpa using I
   have:=zd5 h.asc (i:=j) (j:=i) (by simp;omega) vd;simp only [List.getElem_take] at this ⊢;exact lt_trans this I
 rw [e,zaU];simp only [used];omega
theorem zqg {l:List Ext} {size:Int} (h:ERight l size) {i:Nat} (hi:i<l.length):eok l[i]/\lt (lastN l i) l[i].1=true/\(used (l.take i):Int)+sec l[i]<=size:=by
 refine ⟨h.ok _ (List.getElem_mem hi),?_,?_⟩
 ·cases i with
  | zero=>exact zqe (h.ok _ (List.getElem_mem hi)).1.1
  | succ i=>rw [ze8 vd];exact zd5 h.asc hi vd
 have C:=h.us;have e:l=l.take (i+1) ++ l.drop (i+1):=(List.take_append_drop _ _).symm;rw [e,zaU,zb3 hi,zaU] at C;simp only [used] at C;omega
end Disk
end
section
open Go.RowKit
open Mv Disk
theorem zcE {S:Mem} {b:Nat} {e:tx} {s:tt} (h:S.own b=some ⟨e,[.string s],1⟩):Sl 1 strs S (.slice (some ⟨b,0,none⟩) 1 1) [s] :=
 vL (g:=λs:tt=>.string s) h List.prefix_rfl rfl (by decide) (by decide)
theorem zvv {a b:tt} (h:lt a b=true):(Op.bytesLess b.data.toList a.data.toList || decide (b=a))=false:=by
 rw [zk3,zqc h,decide_eq_false (Ne.symm (zwD h))];rfl
theorem zta {a b:tt} (h:lt a b=false):(Op.bytesLess b.data.toList a.data.toList || decide (b=a))=true:=by
 rw [zk3];by_cases e:b=a
 ·rw [decide_eq_true e,Bool.or_true]
 rw [zsh (Ne.symm e) h];rfl
theorem zcF {p:tt->Prop} {s:tt}:(∀ x ∈ [s],p x) <-> p s:=by simp
theorem ziz (v:tu) (l:List Ext) (size:Int) (S:Mem) (hl:Sl 2 extF S v l) (h0:0<=size) (Q:size<=16384) (hz:∀ x ∈ l,x.2.size<=140737488351232) :
  ACall prog 117 #[v,.int .i64 size] S λr S'=>(∃ t:Bool,r = .bool t/\(t=true <-> ERight l size))/\S'=S:=by
 obtain ⟨a,cap,rfl,au,aw,aj⟩:=id hl;refine k_E2 46 func117 ?_;refine r19_ ?_;refine AWP.loop (X:=Nat) (λx=>[(1,.int .i64 (size-used (l.take x))),(5,.string (lastN l x)),(8,.slice a l.length cap),(9,.int .i64 l.length),(10,.int .i64 x)]) (λx=>S) (λx=>x<=l.length/\Upto l size x) (λx=>l.length-x) (0) ⟨zah (by simp [used]),rfl,rfl,rfl,rfl,trivial⟩ (Mem.Less.refl _) (⟨Nat.zero_le _,znI l h0⟩) ?_;rintro i ⟨hi,ae⟩;(try dsimp only at *);refine r6_ ?_;refine vu rfl (λhc=>?_) (λhc=>?_)
 ·have hc:i<l.length:=by have:=of_decide_eq_true hc;omega
  obtain ⟨b,off,rfl,hk⟩:=aj.resolve_left (λe=>by subst e;simp at hc);have am:=hk i hc;have aq:=hz _ (List.getElem_mem hc);have ax:=ae.us;have U:=λh:ERight l size=>zqg h hc;have ai:used (l.take (i+1))=used (l.take i)+sec l[i]:=by rw [zb3 hc,zaU];simp [used]
  have ak:=ze8 hc;have al:=znJ ae hc;generalize hx:l[i]=x at *;unfold extF at am;have av:sec x<=140737488351232:=by unfold sec;omega
  by_cases q1:nm x.1
  ·by_cases q2:lt (lastN l i) x.1=true
   ·have V:=zvv q2;by_cases q3:x.2.size=0
    ·refine r8_ ?_;refine ARun.alloc (zab rfl) zbF ?_;intro b7 Z;have I:=Z
     repeat ((with_reducible replace I:=zaa I);obtain ⟨I,_⟩:=I)
     refine nl_ ?_;refine r8_ ?_;refine vk (zab rfl) za3 rfl rfl ?_;intro aa J;have C:=J
     repeat ((with_reducible replace C:=zaa C);obtain ⟨C,_⟩:=C)
     refine ca_ rfl (zba _ [x.1] _ (zcE own_)) ?_;rintro _ S1 ⟨⟨t,rfl,Y⟩,Q⟩;rw [Q];clear Q S1;obtain rfl:t=true:=Y.2 (zcF.2 q1);refine r5_ ?_
     first|refine k_q 19 ?_|refine rG 19 (vh rfl rfl (zaf (zcm _ _) V)) ?_
     refine r4_ ?_
     first|refine k_q 25 ?_|refine rG 25 (vh rfl rfl (zaf (zar _ _) (decide_eq_true ((zjU _).2 q3)))) ?_
     refine r10_ ?_;refine cT_ ?_;refine r12_ ?_;refine ⟨_,S,⟨_,_,rfl,rfl,rfl⟩,zae,?_⟩;exact ⟨⟨false,rfl,by simp;exact λh=>(U h).1.2.1 q3⟩,rfl⟩
    by_cases q4:x.2.size % 64=0
    ·refine r8_ ?_;refine ARun.alloc (zab rfl) zbF ?_;intro b7 Z;have I:=Z
     repeat ((with_reducible replace I:=zaa I);obtain ⟨I,_⟩:=I)
     refine nl_ ?_;refine r8_ ?_;refine vk (zab rfl) za3 rfl rfl ?_;intro aa J;have C:=J
     repeat ((with_reducible replace C:=zaa C);obtain ⟨C,_⟩:=C)
     refine ca_ rfl (zba _ [x.1] _ (zcE own_)) ?_;rintro _ S1 ⟨⟨t,rfl,Y⟩,Q⟩;rw [Q];clear Q S1;obtain rfl:t=true:=Y.2 (zcF.2 q1);refine r5_ ?_
     first|refine k_q 19 ?_|refine rG 19 (vh rfl rfl (zaf (zcm _ _) V)) ?_
     refine r4_ ?_
     first|refine k_q 25 ?_|refine rG 25 (vh rfl rfl (zaf (zar _ _) (decide_eq_false (λe=>q3 ((zjU _).1 e))))) ?_
     refine r10_ ?_;refine cF_ ?_;refine r7_ ?_;refine cp_ rfl (zbj x _ vd) ?_;refine r4_ ?_;refine kw_ [1,5,8,9,10,11,7,36] ?_;refine r6_ ?_;refine vu rfl (λq5=>?_) (λq5=>?_)
     ·refine r12_ ?_;refine ⟨_,S,⟨_,_,rfl,rfl,rfl⟩,zae,?_⟩;exact ⟨⟨false,rfl,by simp;exact λh=>absurd (U h).2.2 (by have:=of_decide_eq_true q5;omega)⟩,rfl⟩
     have q5:=of_decide_eq_false q5;refine r14_ ?_;refine ⟨i+1,?_,?_,?_,?_⟩<;>try dsimp only
     ·exact ⟨zah (by rw [ai];omega),zpT ak.symm,rfl,rfl,rfl,trivial⟩
     ·exact zae
     ·exact ⟨hc,al ⟨q1,q3,q4⟩ q2 vd⟩
     omega
    refine r8_ ?_;refine ARun.alloc (zab rfl) zbF ?_;intro b7 Z;have I:=Z
    repeat ((with_reducible replace I:=zaa I);obtain ⟨I,_⟩:=I)
    refine nl_ ?_;refine r8_ ?_;refine vk (zab rfl) za3 rfl rfl ?_;intro aa J;have C:=J
    repeat ((with_reducible replace C:=zaa C);obtain ⟨C,_⟩:=C)
    refine ca_ rfl (zba _ [x.1] _ (zcE own_)) ?_;rintro _ S1 ⟨⟨t,rfl,Y⟩,Q⟩;rw [Q];clear Q S1;obtain rfl:t=true:=Y.2 (zcF.2 q1);refine r5_ ?_
    first|refine k_q 19 ?_|refine rG 19 (vh rfl rfl (zaf (zcm _ _) V)) ?_
    refine r4_ ?_
    first|refine k_q 25 ?_|refine rG 25 (vh rfl rfl (zaf (zar _ _) (decide_eq_false (λe=>q3 ((zjU _).1 e))))) ?_
    refine r10_ ?_;refine cT_ ?_;refine r12_ ?_;refine ⟨_,S,⟨_,_,rfl,rfl,rfl⟩,zae,?_⟩;exact ⟨⟨false,rfl,by simp;exact λh=>q4 (U h).1.2.2⟩,rfl⟩
   have V:=zta (Bool.eq_false_iff.2 q2);refine r8_ ?_;refine ARun.alloc (zab rfl) zbF ?_;intro b7 Z;have I:=Z
   repeat ((with_reducible replace I:=zaa I);obtain ⟨I,_⟩:=I)
   refine nl_ ?_;refine r3_ ?_;refine kw_ [1,5,8,9,10,11,7] ?_;refine r5_ ?_;refine vk (zab rfl) za3 rfl rfl ?_;intro aa J;have C:=J
   repeat ((with_reducible replace C:=zaa C);obtain ⟨C,_⟩:=C)
   refine ca_ rfl (zba _ [x.1] _ (zcE own_)) ?_;rintro _ S1 ⟨⟨t,rfl,Y⟩,Q⟩;rw [Q];clear Q S1;obtain rfl:t=true:=Y.2 (zcF.2 q1);refine r5_ ?_
   first|refine k_q 19 ?_|refine rG 19 (vh rfl rfl (zaf (zcm _ _) V)) ?_
   refine r15_ ?_;refine cT_ ?_;refine r12_ ?_;refine ⟨_,S,⟨_,_,rfl,rfl,rfl⟩,zae,?_⟩;exact ⟨⟨false,rfl,by simp;exact λh=>q2 (U h).2.1⟩,rfl⟩
  refine r8_ ?_;refine ARun.alloc (zab rfl) zbF ?_;intro b7 Z;have I:=Z
  repeat ((with_reducible replace I:=zaa I);obtain ⟨I,_⟩:=I)
  refine nl_ ?_;refine r8_ ?_;refine vk (zab rfl) za3 rfl rfl ?_;intro aa J;have C:=J
  repeat ((with_reducible replace C:=zaa C);obtain ⟨C,_⟩:=C)
  refine ca_ rfl (zba _ [x.1] _ (zcE own_)) ?_;rintro _ S1 ⟨⟨t,rfl,Y⟩,Q⟩;rw [Q];clear Q S1;obtain rfl:t=false:=Bool.eq_false_iff.2 (λe=>q1 (zcF.1 (Y.1 e)));refine r21_ ?_;refine cT_ ?_;refine r12_ ?_;refine ⟨_,S,⟨_,_,rfl,rfl,rfl⟩,zae,?_⟩;exact ⟨⟨false,rfl,by simp;exact λh=>q1 (U h).1.1⟩,rfl⟩
 have hc:i=l.length:=by have:=of_decide_eq_false hc;omega
 subst hc;refine r11_ ?_;refine ⟨_,S,⟨_,_,rfl,rfl,rfl⟩,zae,?_⟩;exact ⟨⟨true,rfl,by simp;exact zqf ae⟩,rfl⟩
theorem ztb {l:List Ext} (I:Asc l) {w:Wr} {p:Nat} (C:p<l.length) (e:l[p].1=w.1):wok l w <-> 0<=w.2.1/\w.2.1<sec l[p]/\w.2.2.size=64:=by
 constructor
 ·rintro ⟨x,J,e2,h⟩;have:x=l[p]:=znC I J (List.getElem_mem C) (e2.trans e.symm);subst this;exact h
 intro h;exact ⟨l[p],List.getElem_mem C,e,h⟩
theorem ztc {l:List Ext} {w:Wr} (h:wok l w):has l w.1=true:=by
 obtain ⟨x,C,e,_⟩:=h;exact zaO.2 ⟨x,C,e⟩
def DkR (S:Mem) (v:tu) (d:D):Prop:=∃ pe ce pw cw,v = .agg #[.int .i64 d.size,.slice pe d.ext.length ce,.slice pw d.waits.length cw,.int .i64 d.fuse,.bool d.down]/\Sl 2 extF S (.slice pe d.ext.length ce) d.ext/\Sl 3 wrF S (.slice pw d.waits.length cw) d.waits
theorem DkR.less {S S':Mem} {v:tu} {d:D} (h:DkR S v d) (hl:S.Less S'):DkR S' v d:=by
 obtain ⟨C,V,J,Q,e,I,U⟩:=h;exact ⟨C,V,J,Q,e,I.less hl,U.less hl⟩
structure Dz (d:D):Prop where
  s0 : -9223372036854775808<=d.size
  s1:d.size<=9223372036854775807
  f0 : -9223372036854775808<=d.fuse
  f1:d.fuse<=9223372036854775807
  el:d.ext.length<=4398046511104
  wl:d.waits.length<=3518437208883
  ez:∀ x ∈ d.ext,x.1.size<=140737488351232/\x.2.size<=140737488351232
  wz:∀ w ∈ d.waits,w.1.size<=140737488351232 /\ -9223372036854775808<=w.2.1/\w.2.1<=9223372036854775807/\w.2.2.size<=140737488351232
theorem zmq (v:tu) (d:D) (S:Mem) (hd:DkR S v d) (hz:Dz d) :
  ACall prog 71 #[v] S λr S'=>r = .int .i64 (chkD d)/\S'=S:=by
 obtain ⟨pe,ce,pw,cw,rfl,hE,hW⟩:=hd;obtain ⟨size,ext,waits,fuse,down⟩:=d;have Y:=λx hx=>(hz.ez x hx).2;have aA:=hz.s0;have av:=hz.s1;have aC:=hz.f0;have ay:=hz.f1
 simp only at hE hW Y aA av aC ay ⊢;obtain ⟨_,_,aq,aP,aJ,aB⟩:=id hE;obtain ⟨_,_,au,aQ,aN,al⟩:=id hW;cases aq;cases au;refine k_E1 74 func71 ?_;refine r2_ ?_;refine k_b5 rfl ?_;intro b1 f1;have g1:=f1
 repeat ((with_reducible replace g1:=zaa g1);obtain ⟨g1,_⟩:=g1)
 refine nl_ ?_;refine r3_ ?_;refine named (S:=S) (b:=b1) g1.1 ?_;intro T1 C ah;replace hE:=hE.less C;replace hW:=hW.less C;by_cases q1:size<0
 ·refine r32_ ?_;refine cT_ ?_;refine r7_ ?_;refine ⟨_,S,⟨_,_,rfl,rfl,rfl⟩,C.trans zae,?_⟩;exact ⟨by rw [zcB (λh=>absurd h.s0 (by simp only;omega))];rfl,rfl⟩
 by_cases q2:16384<size
 ·refine r32_ ?_;refine cT_ ?_;refine r7_ ?_;refine ⟨_,S,⟨_,_,rfl,rfl,rfl⟩,C.trans zae,?_⟩;exact ⟨by rw [zcB (λh=>absurd h.s1 (by simp only;omega))];rfl,rfl⟩
 by_cases q3:16384<waits.length
 ·refine r32_ ?_;refine cT_ ?_;refine r7_ ?_;refine ⟨_,S,⟨_,_,rfl,rfl,rfl⟩,C.trans zae,?_⟩;exact ⟨by rw [zcB (λh=>absurd h.wl (by simp only;omega))];rfl,rfl⟩
 by_cases q4:fuse < -1
 ·refine r32_ ?_;refine cT_ ?_;refine r7_ ?_;refine ⟨_,S,⟨_,_,rfl,rfl,rfl⟩,C.trans zae,?_⟩;exact ⟨by rw [zcB (λh=>absurd h.fu (by simp only;omega))];rfl,rfl⟩
 refine r27_ ?_;refine vC 19 false 26 rfl (zab rfl) rfl (zab rfl) zvl rfl (ziz _ ext size _ hE vd vd Y) ?_;rintro _ S1 ⟨⟨t,rfl,ht⟩,J⟩;rw [J];clear J S1;refine r4_ ?_;refine kw_ [0,1,2,33] ?_;by_cases Q:ERight ext size
 ·obtain rfl:t=true:=ht.2 Q;refine cF_ ?_;have aM:=znz Q.ok;have aV:=Q.us;refine r12_ ?_;refine AWP.loop (X:=Nat) (λx=>[(1,.pointer (some ⟨b1,0,none⟩)),(35,.slice pw waits.length cw),(36,.int .i64 waits.length),(37,.int .i64 x)]) (λx=>T1) (λx=>x<=waits.length /\ ∀ j (h:j<waits.length),j<x->wok ext waits[j]) (λx=>waits.length-x) (0) ⟨rfl,rfl,rfl,rfl,trivial⟩ (Mem.Less.refl _) (⟨Nat.zero_le _,λj _ h=>absurd h (Nat.not_lt_zero _)⟩) ?_;rintro i ⟨hi,V⟩;(try dsimp only at *);refine r6_ ?_;refine vu rfl (λhc=>?_) (λhc=>?_)
  ·have hc:i<waits.length:=(by have:=of_decide_eq_true hc;omega);obtain ⟨b,off,rfl,hk⟩:=al.resolve_left (λe=>by subst e;simp at hc);have aE:=(hk i hc).less C;have aR:=hz.wz _ (List.getElem_mem hc);have U : ¬ wok ext waits[i] -> ¬ Right ⟨size,ext,waits,fuse,down⟩:=λh h'=>h (h'.wr _ (List.getElem_mem hc));have Z:wok ext waits[i] -> ∀ j (h:j<waits.length),j<i+1->wok ext waits[j]:=λhw j h hj=>by rcases Nat.lt_or_ge j i with h' | h';exact V j h h';obtain rfl:j=i:=vd;exact hw
   have ax:=zeZ Q.asc waits[i].1;have ao:=ztc (l:=ext) (w:=waits[i]);have I:=λ(p:Nat) (hp:p<ext.length) (e:ext[p].1=(waits[i]'hc).1)=>ztb Q.asc hp e;generalize waits[i]=w at *;unfold wrF at aE;refine r8_ ?_;refine ARun.alloc (zab rfl) zbG ?_;intro b4 f4;have g4:=f4
   repeat ((with_reducible replace g4:=zaa g4);obtain ⟨g4,_⟩:=g4)
   have:=g4.ne ah;have:=g4.ne' ah
   refine nl_ ?_;refine r9_ ?_;refine cp_ rfl (zby _ ext w.1 _ (hE.less zae) Q.asc vd) ?_;refine r7_ ?_;by_cases q6:has ext w.1=true
   ·obtain ⟨hp,aD⟩:=ax.1 q6;obtain ⟨be,oe,ag,an⟩:=aB.resolve_left (λe=>by subst e;simp at hp);subst ag;have az:=(an _ hp).less C;have aI:=Y _ (List.getElem_mem hp);replace I:=I _ hp aD;rw [q6];generalize aT:pos ext w.1=p at *;generalize aW:ext[p]=x at *;unfold extF at az;have aO:sec x<=140737488351232:=(by unfold sec;omega);by_cases q7:w.2.1<0
    ·refine s1_ ?_;refine dr_ [i0_,i1_,i2_,i3_,i4_,i5_,i6_,i7_,i8_,i9_,i10_,i11_,i12_,i13_,i14_,o15_,i16_,i17_,i18_,i19_,i20_,i21_,i22_,i23_] [] ?_;refine r15_ ?_;refine zac rfl ?_;refine s1_ ?_;refine zad ⟨ny_,?_⟩;refine r10_ ?_;refine cT_ ?_;refine r11_ ?_;refine ⟨_,S,⟨_,_,rfl,rfl,rfl⟩,C.trans zae,?_⟩;exact ⟨by rw [zcB (U (λh=>absurd (I.1 h).1 vd))];rfl,rfl⟩
    by_cases q8:(sec x:Int)<=w.2.1
    ·refine s1_ ?_;refine dr_ [i0_,i1_,i2_,i3_,i4_,i5_,i6_,i7_,i8_,i9_,i10_,i11_,i12_,i13_,i14_,o15_,i16_,i17_,i18_,i19_,i20_,i21_,i22_,i23_] [] ?_;refine r15_ ?_;refine zac rfl ?_;refine vC 7 false 56 rfl (zab rfl) rfl (zab rfl) zix rfl (zbj x _ vd) ?_;rintro _ S1 ⟨rfl,J⟩;rw [J];clear J S1;refine zad ⟨ny_,?_⟩;refine r10_ ?_;refine kw_ [1,35,36,37,38,4,5,6,72] ?_;refine cT_ ?_;refine r11_ ?_;refine ⟨_,S,⟨_,_,rfl,rfl,rfl⟩,C.trans zae,?_⟩;exact ⟨by rw [zcB (U (λh=>absurd (I.1 h).2.1 vd))];rfl,rfl⟩
    by_cases q9:w.2.2.size=64
    ·refine s1_ ?_;refine dr_ [i0_,i1_,i2_,i3_,i4_,i5_,i6_,i7_,i8_,i9_,i10_,i11_,i12_,i13_,i14_,o15_,i16_,i17_,i18_,i19_,i20_,i21_,i22_,i23_] [] ?_;refine r15_ ?_;refine zac rfl ?_;refine vC 7 false 56 rfl (zab rfl) rfl (zab rfl) zix rfl (zbj x _ vd) ?_;rintro _ S1 ⟨rfl,J⟩;rw [J];clear J S1;refine zad ⟨ny_,?_⟩;refine r10_ ?_;refine cF_ ?_;refine r8_ ?_;refine ⟨i+1,?_,?_,?_,?_⟩<;>try dsimp only
     ·exact ⟨rfl,rfl,rfl,rfl,trivial⟩
     ·exact zae
     ·exact ⟨hc,Z (I.2 ⟨by omega,by omega,q9⟩)⟩
     omega
    refine s1_ ?_;refine dr_ [i0_,i1_,i2_,i3_,i4_,i5_,i6_,i7_,i8_,i9_,i10_,i11_,i12_,i13_,i14_,o15_,i16_,i17_,i18_,i19_,i20_,i21_,i22_,i23_] [] ?_;refine r15_ ?_;refine zac rfl ?_;refine vC 7 false 56 rfl (zab rfl) rfl (zab rfl) zix rfl (zbj x _ vd) ?_;rintro _ S1 ⟨rfl,J⟩;rw [J];clear J S1;refine zad ⟨ny_,?_⟩;refine r10_ ?_;refine cT_ ?_;refine r11_ ?_;refine ⟨_,S,⟨_,_,rfl,rfl,rfl⟩,C.trans zae,?_⟩;exact ⟨by rw [zcB (U (λh=>q9 (I.1 h).2.2))];rfl,rfl⟩
   rw [Bool.eq_false_iff.2 q6];refine s1_ ?_;refine dr_ [i0_,i1_,i2_,i3_,i4_,i5_,i6_,i7_,i8_,i9_,i10_,i11_,i12_,i13_,i14_,o15_,i16_,i17_,i18_,i19_,i20_,i21_,i22_,i23_] [] ?_;refine r15_ ?_;refine zac rfl ?_;refine s1_ ?_;refine zad ⟨ny_,?_⟩;refine r10_ ?_;refine cT_ ?_;refine r11_ ?_;refine ⟨_,S,⟨_,_,rfl,rfl,rfl⟩,C.trans zae,?_⟩;exact ⟨by rw [zcB (U (λh=>q6 (ao h)))];rfl,rfl⟩
  have hc:i=waits.length:=by have:=of_decide_eq_false hc;omega
  refine r11_ ?_;refine ⟨_,S,⟨_,_,rfl,rfl,rfl⟩,C.trans zae,?_⟩;exact ⟨by rw [zk1 ⟨by simp only;omega,by simp only;omega,by simp only;omega,by simp only;omega,Q,λw hw=>by obtain ⟨j,hj,rfl⟩:=List.getElem_of_mem hw;exact V j hj (by have h':j<waits.length:=hj;omega)⟩];rfl,rfl⟩
 obtain rfl:t=false:=Bool.eq_false_iff.2 (λe=>Q (ht.1 e));refine cT_ ?_;refine r7_ ?_;refine ⟨_,S,⟨_,_,rfl,rfl,rfl⟩,C.trans zae,?_⟩;exact ⟨by rw [zcB (λh=>Q h.ex)];rfl,rfl⟩
theorem zaZ (x:Ext):(extF x).length=2:=rfl
theorem zcJ (x:Wr):(wrF x).length=3:=rfl
theorem zf5 (l:List Ext):∀ v ∈ l.flatMap extF,v.oneCell'=true:=λv I=>by
 obtain ⟨x,_,C⟩:=List.mem_flatMap.1 I;simp only [extF,List.mem_cons,List.not_mem_nil,or_false] at C;rcases C with rfl | rfl <;> rfl
theorem zsp (l:List Wr):∀ v ∈ l.flatMap wrF,v.oneCell'=true:=λv I=>by
 obtain ⟨x,_,C⟩:=List.mem_flatMap.1 I;simp only [wrF,List.mem_cons,List.not_mem_nil,or_false] at C;rcases C with rfl | rfl | rfl <;> rfl
abbrev extT:tx:=142
abbrev wrT:tx:=146
theorem zjX (v:tu) (l:List Ext) (S:Mem) (hl:Sl 2 extF S v l) (Y:l.length<=4398046511104) :
  ACall prog 83 #[v] S (OwnR 2 extF extT l S):=by
 obtain ⟨a,cap,rfl,V,X,Q⟩:=id hl;refine k_E1 8 func83 ?_;cases a
 ·refine r12_ ?_;refine cT_ ?_;obtain rfl:l = []:=Q.resolve_right (λ⟨b,off,e,_⟩=>by cases e);refine r7_ ?_;refine ⟨_,S,⟨_,_,rfl,rfl,rfl⟩,zae,?_⟩;exact ⟨none,zcb S,rfl,rfl⟩
 refine r12_ ?_;refine cF_ ?_;refine r4_ ?_;refine uv (zab rfl) zbz ?_;intro U I;have C:=I
 repeat ((with_reducible replace C:=zaa C);obtain ⟨C,_⟩:=C)
 refine s1_ ?_;refine vH (n:=2) (o:=some (U,0)) (k:=0) (m:=l.length) (cs:=[]) (zab rfl) zbz rfl rfl rfl (zcA I (Nat.le_refl _)) (zb6 (zcA I (Nat.le_refl 0)) rfl) rfl ((hl.less zae).src zaZ) (zao zaZ l) (zf5 l) vd vd ?_;intro o J;rw [Nat.zero_add] at J ⊢;refine r4_ ?_;refine ⟨_,_,⟨_,_,rfl,rfl,rfl⟩,Mem.Less.refl _,?_⟩;exact ⟨o,J,rfl,rfl⟩
theorem zjY (v:tu) (l:List Wr) (S:Mem) (hl:Sl 3 wrF S v l) (Y:l.length<=3518437208883) :
  ACall prog 84 #[v] S (OwnR 3 wrF wrT l S):=by
 obtain ⟨a,cap,rfl,V,X,Q⟩:=id hl;refine k_E1 8 func84 ?_;cases a
 ·refine r12_ ?_;refine cT_ ?_;obtain rfl:l = []:=Q.resolve_right (λ⟨b,off,e,_⟩=>by cases e);refine r7_ ?_;refine ⟨_,S,⟨_,_,rfl,rfl,rfl⟩,zae,?_⟩;exact ⟨none,zcb S,rfl,rfl⟩
 refine r12_ ?_;refine cF_ ?_;refine r4_ ?_;refine uv (zab rfl) zev ?_;intro U I;have C:=I
 repeat ((with_reducible replace C:=zaa C);obtain ⟨C,_⟩:=C)
 refine s1_ ?_;refine vH (n:=3) (o:=some (U,0)) (k:=0) (m:=l.length) (cs:=[]) (zab rfl) zev rfl rfl rfl (zcA I (Nat.le_refl _)) (zb6 (zcA I (Nat.le_refl 0)) rfl) rfl ((hl.less zae).src zcJ) (zao zcJ l) (zsp l) vd vd ?_;intro o J;rw [Nat.zero_add] at J ⊢;refine r4_ ?_;refine ⟨_,_,⟨_,_,rfl,rfl,rfl⟩,Mem.Less.refl _,?_⟩;exact ⟨o,J,rfl,rfl⟩
theorem zbk {S:Mem} {o:Option (Nat × Nat)} {n:Nat} (h:OkO S o n):∃ a c,outV o n = .slice a n c:=by
 cases o with
 | none=>rw [h.nil rfl];exact ⟨none,0,rfl⟩
 | some q=>exact ⟨_,q.2,rfl⟩
def dkV (d:D) (oE oW:Option (Nat × Nat)):tu:=.agg #[.int .i64 d.size,outV oE d.ext.length,outV oW d.waits.length,.int .i64 d.fuse,.bool d.down]
def dkM (S:Mem) (d:D) (oE oW:Option (Nat × Nat)):Mem:=outN 3 (outN 2 S oE extT (d.ext.flatMap extF)) oW wrT (d.waits.flatMap wrF)
structure OkD (S:Mem) (d:D) (oE oW:Option (Nat × Nat)):Prop where
  e:OkO S oE d.ext.length
  w:OkO (outN 2 S oE extT (d.ext.flatMap extF)) oW d.waits.length
theorem OkD.less {S:Mem} {d:D} {oE oW:Option (Nat × Nat)} (h:OkD S d oE oW):S.Less (dkM S d oE oW):=(za6 h.e).trans (za6 h.w)
theorem OkD.dk {S:Mem} {d:D} {oE oW:Option (Nat × Nat)} (h:OkD S d oE oW) (Q:d.ext.length<=9223372036854775807) (U:d.waits.length<=9223372036854775807):DkR (dkM S d oE oW) (dkV d oE oW) d:=by
 have C:=zdm zaZ (e:=extT) h.e rfl Q;have J:=zdm zcJ (e:=wrT) h.w rfl U;obtain ⟨a,c,e⟩:=zbk h.e;obtain ⟨V,c',I⟩:=zbk h.w;rw [e] at C;rw [I] at J;exact ⟨a,c,V,c',by unfold dkV;rw [e,I],C.less (za6 h.w),J⟩
theorem zk5 (v:tu) (d:D) (S:Mem) (hd:DkR S v d) (ae:d.ext.length<=4398046511104) (ai:d.waits.length<=3518437208883) :
  ACall prog 44 #[v] S λr S'=>∃ oE oW,OkD S d oE oW/\r=dkV d oE oW/\S'=dkM S d oE oW:=by
 obtain ⟨pe,ce,pw,cw,rfl,hE,hW⟩:=hd;refine k_E1 12 func44 ?_;refine r2_ ?_;refine k_b5 rfl ?_;intro b1 f1;have g1:=f1
 repeat ((with_reducible replace g1:=zaa g1);obtain ⟨g1,_⟩:=g1)
 refine nl_ ?_;refine ARun.alloc (zab rfl) zas ?_;intro b2 f2;have g2:=f2
 repeat ((with_reducible replace g2:=zaa g2);obtain ⟨g2,_⟩:=g2)
 refine nl_ ?_;refine r3_ ?_;refine dr_ [i0_,i1_,i3_,i4_,o2_,i6_,o5_,o7_,i8_,o9_] [7,9] ?_;refine r4_ ?_;refine zac rfl ?_;refine ca_ rfl (((zjX _ d.ext S hE ae).frame f1).frame f2) ?_;rintro _ S1 ⟨Sa,⟨M,⟨oE,J,rfl,hM⟩,ag,C⟩,Y,U⟩;rw [U,C];rw [C] at Y;clear U S1 C Sa;obtain ⟨qe,de,X⟩:=zbk J;rw [X];have Z:S.Less M:=by rw [hM];exact za6 J
 have af:Sl 3 wrF M (.slice pw d.waits.length cw) d.waits:=hW.less Z;refine zad ⟨ny_,?_⟩;refine s1_ ?_;refine zac rfl ?_;refine ca_ rfl (((zjY _ d.waits M af ai).frame ag).frame Y) ?_;rintro _ S1 ⟨Sa,⟨M2,⟨oW,Q,rfl,V⟩,al,C⟩,I,U⟩;rw [U,C];rw [C] at I;clear U S1 C Sa;obtain ⟨aq,_⟩:=zaa I;obtain ⟨qw,dw,aa⟩:=zbk Q;rw [aa];have an:S.Less M2:=Z.trans (by rw [V];exact za6 Q);refine zad ⟨ny_,?_⟩;refine zac rfl ?_;refine s1_ ?_;refine zad ⟨nz_,?_⟩;refine s1_ ?_;refine zac rfl ?_;refine s1_ ?_;refine zad ⟨nz_,?_⟩;refine r9_ ?_;refine ⟨_,M2,⟨_,_,_,rfl,.inr ⟨zat,[_,_,_,_,_],zal,rds_,rfl⟩,rfl,rfl⟩,zae,?_⟩;exact ⟨oE,oW,⟨J,by rw [<- hM];exact Q⟩,by unfold dkV;rw [X,aa];rfl,by rw [V,hM];rfl⟩
def DkRes (p:D × Int) (S:Mem) (r:tu) (S':Mem):Prop:=∃ v,r = .tuple #[v,.int .i64 p.2]/\S.Less S'/\DkR S' v p.1
theorem zk6 (S:Mem):DkR S (.agg #[.int .i64 0,.slice none 0 0,.slice none 0 0,.int .i64 0,.bool false]) D0:=⟨none,0,none,0,rfl,Sl.nil _ _ _,Sl.nil _ _ _⟩
def makeD (n:Int):D × Int:=if n<0\/16384<n then (D0,1) else (⟨n,[],[],-1,false⟩,0)
theorem znK (n:Int) (S:Mem):ACall prog 5 #[.int .i64 n] S (DkRes (makeD n) S):=by
 unfold makeD;by_cases Q:n<0
 ·rw [if_pos (.inl Q)];refine k_E1 13 func5 ?_;refine r2_ ?_;refine ARun.alloc (zab rfl) zas ?_;intro J I;have C:=I
  repeat ((with_reducible replace C:=zaa C);obtain ⟨C,_⟩:=C)
  refine nl_ ?_;refine r14_ ?_;refine cT_ ?_;refine r9_ ?_;refine ⟨_,S,⟨_,_,_,rfl,.inr ⟨zat,[_,_,_,_,_],zal,rds_,rfl⟩,⟨_,_,rfl,rfl,rfl⟩,rfl⟩,zae,?_⟩;exact ⟨_,rfl,Mem.Less.refl _,zk6 S⟩
 by_cases U:16384<n
 ·rw [if_pos (.inr U)];refine k_E1 13 func5 ?_;refine r2_ ?_;refine ARun.alloc (zab rfl) zas ?_;intro J I;have C:=I
  repeat ((with_reducible replace C:=zaa C);obtain ⟨C,_⟩:=C)
  refine nl_ ?_;refine r14_ ?_;refine cT_ ?_;refine r9_ ?_;refine ⟨_,S,⟨_,_,_,rfl,.inr ⟨zat,[_,_,_,_,_],zal,rds_,rfl⟩,⟨_,_,rfl,rfl,rfl⟩,rfl⟩,zae,?_⟩;exact ⟨_,rfl,Mem.Less.refl _,zk6 S⟩
 rw [if_neg vd];refine k_E1 13 func5 ?_;refine r2_ ?_;refine ARun.alloc (zab rfl) zas ?_;intro J I;have C:=I
 repeat ((with_reducible replace C:=zaa C);obtain ⟨C,_⟩:=C)
 refine nl_ ?_;refine r14_ ?_;refine kw_ [0,2,3,9] ?_;refine cF_ ?_;refine r11_ ?_;refine ⟨_,S,⟨_,_,_,rfl,.inr ⟨zat,[_,_,_,_,_],zal,rds_,rfl⟩,⟨_,_,rfl,rfl,rfl⟩,rfl⟩,zae,?_⟩;exact ⟨_,rfl,Mem.Less.refl _,none,0,none,0,rfl,Sl.nil _ _ _,Sl.nil _ _ _⟩
def devM (S:Mem) (p:Nat) (d:D) (oE oW:Option (Nat × Nat)):Mem:=(dkM S d oE oW).set p ⟨82,[.int .i64 d.size,outV oE d.ext.length,outV oW d.waits.length,.int .i64 d.fuse,.bool d.down],5⟩
structure OkV (S:Mem) (p:Nat) (d:D) (oE oW:Option (Nat × Nat)):Prop where
  dk:OkD S d oE oW
  fr:Fresh (dkM S d oE oW) p
noncomputable def openD (d:D):D × Int:=if chkD d=0 then (d,if d.down=true then 10 else 0) else (D0,2)
def OpenR (p:D × Int) (S:Mem) (r:tu) (S':Mem):Prop:=∃ b oE oW,OkV S b p.1 oE oW/\r = .tuple #[.pointer (some ⟨b,0,none⟩),.int .i64 p.2]/\S'=devM S b p.1 oE oW
theorem zew (v:tu) (d:D) (S:Mem) (hd:DkR S v d) (hz:Dz d) :
  ACall prog 36 #[v] S (OpenR (openD d) S):=by
 have C:=λM h=>zmq v d M h hz;have ac:=λM h=>zk5 v d M h hz.el hz.wl;obtain ⟨pe,ce,pw,cw,rfl,hE,hW⟩:=id hd;unfold openD;rcases znA d with ⟨hk,hR⟩ | ⟨hk,hR⟩
 ·rw [if_pos hk];refine k_E1 21 func36 ?_;refine r2_ ?_;refine k_b5 rfl ?_;intro b1 f1;have V:=f1
  repeat ((with_reducible replace V:=zaa V);obtain ⟨V,_⟩:=V)
  refine nl_ ?_;refine r8_ ?_;refine ca_ rfl (C _ (hd.less zae)) ?_;rintro _ S1 ⟨rfl,X⟩;rw [X,hk];clear X S1;refine r9_ ?_;refine cF_ ?_;refine r5_ ?_;refine ca_ rfl ((ac S hd).frame f1) ?_;rintro _ S1 ⟨M,⟨oE,oW,Q,rfl,hM⟩,aa,X⟩;rw [X];clear X S1;have ak:S.Less M:=by rw [hM];exact Q.less
  unfold dkV;obtain ⟨qe,de,Y⟩:=zbk Q.e;obtain ⟨qw,dw,Z⟩:=zbk Q.w;rw [Y,Z];refine s1_ ?_;refine k_b5 rfl ?_;intro U ag;have I:=ag
  repeat ((with_reducible replace I:=zaa I);obtain ⟨I,_⟩:=I)
  refine nl_ ?_;refine r10_ ?_;refine vu rfl (λhb=>?_) (λhb=>?_)
  ·refine r7_ ?_;refine kw_ [0,1,2,3,4,9,5,18] ?_;refine r2_ ?_;refine ⟨_,M.set U _,⟨_,_,rfl,⟨_,_,rfl,rfl,rfl⟩,rfl⟩,Less.set (vi _ _ _ aa.1) _ _,?_⟩;exact ⟨U,oE,oW,⟨Q,by rw [<- hM];exact I⟩,by rw [if_pos hb];rfl,by unfold devM;rw [Y,Z,<- hM]⟩
  refine r9_ ?_;refine s1_ ?_;refine ⟨_,M.set U _,⟨_,_,rfl,⟨_,_,rfl,rfl,rfl⟩,rfl⟩,Less.set (vi _ _ _ aa.1) _ _,?_⟩;exact ⟨U,oE,oW,⟨Q,by rw [<- hM];exact I⟩,by rw [if_neg (Bool.eq_false_iff.1 hb)];rfl,by unfold devM;rw [Y,Z,<- hM]⟩
 rw [if_neg (by rw [hk];decide)];refine k_E1 21 func36 ?_;refine r2_ ?_;refine k_b5 rfl ?_;intro b1 f1;have V:=f1
 repeat ((with_reducible replace V:=zaa V);obtain ⟨V,_⟩:=V)
 refine nl_ ?_;refine r8_ ?_;refine ca_ rfl (C _ (hd.less zae)) ?_;rintro _ S1 ⟨rfl,X⟩;rw [X,hk];clear X S1;refine r9_ ?_;refine cT_ ?_;refine r3_ ?_;refine k_b5 rfl ?_;intro b11 ah;have J:=ah
 repeat ((with_reducible replace J:=zaa J);obtain ⟨J,_⟩:=J)
 refine nl_ ?_;refine r7_ ?_;refine ⟨_,S.set b11 _,⟨_,_,rfl,⟨_,_,rfl,rfl,rfl⟩,rfl⟩,Less.set (vi _ _ _ f1.1) _ _,?_⟩;exact ⟨b11,none,none,⟨⟨zcb _,zcb _⟩,J⟩,rfl,rfl⟩
def RdV (M:Mem) (p:Nat) (d:D):Prop:=∃ qe de qw dw,M.own p=some ⟨82,[.int .i64 d.size,.slice qe d.ext.length de,.slice qw d.waits.length dw,.int .i64 d.fuse,.bool d.down],5⟩/\Sl 2 extF M (.slice qe d.ext.length de) d.ext/\Sl 3 wrF M (.slice qw d.waits.length dw) d.waits
theorem RdV.less {M C:Mem} {p:Nat} {d:D} (h:RdV M p d) (hl:M.Less C):RdV C p d:=by
 obtain ⟨X,J,U,dw,Q,V,I⟩:=h;exact ⟨X,J,U,dw,hl.own Q,V.less hl,I.less hl⟩
theorem OkV.rd {S:Mem} {p:Nat} {d:D} {oE oW:Option (Nat × Nat)} (h:OkV S p d oE oW) (Q:d.ext.length<=9223372036854775807) (U:d.waits.length<=9223372036854775807):RdV (devM S p d oE oW) p d:=by
 obtain ⟨a,c,e⟩:=zbk h.dk.e;obtain ⟨V,c',I⟩:=zbk h.dk.w;have C:=zdm zaZ (e:=extT) h.dk.e rfl Q;have J:=zdm zcJ (e:=wrT) h.dk.w rfl U;rw [e] at C;rw [I] at J;have hl:(dkM S d oE oW).Less (devM S p d oE oW):=vi _ _ _ h.fr.1;refine ⟨a,c,V,c',?_,(C.less (za6 h.dk.w)).less hl,J.less hl⟩;unfold devM;rw [e,I];exact vf _ _ _
theorem OkV.less {S:Mem} {p:Nat} {d:D} {oE oW:Option (Nat × Nat)} (h:OkV S p d oE oW):S.Less (devM S p d oE oW):=h.dk.less.trans (vi _ _ _ h.fr.1)
theorem za8 {d:D} (h:Right d):d.ext.length<=16384/\used d.ext<=16384:=by
 have C:=znz h.ex.ok;have J:=h.ex.us;have I:=h.s1;omega
theorem zcK {d:D} (h:Right d) {x:Ext} (C:x ∈ d.ext):sec x<=16384/\x.2.size=64*sec x/\1<=sec x:=by
 have I:=zk0 C;have Q:=za8 h;have J:=zdn (h.ex.ok x C);omega
theorem zdN (d:D):(openD d=(D0,2) /\ ¬ Right d)\/(openD d=(d,10)/\Right d/\d.down=true)\/(openD d=(d,0)/\Right d/\d.down=false):=by
 unfold openD;rcases znA d with ⟨hk,C⟩ | ⟨hk,C⟩
 ·right;rw [if_pos hk];cases I:d.down with
  | true=>left;exact ⟨rfl,C,rfl⟩
  | false=>right;exact ⟨rfl,C,rfl⟩
 left;rw [if_neg (by rw [hk];decide)];exact ⟨rfl,C⟩
theorem znL {l:List Ext} {i:Nat} (h:i<l.length):used (l.take (i+1))=used (l.take i)+sec l[i]:=by rw [zb3 h,zaU];simp [used]
theorem ziA (l:List Ext) (i:Nat):used (l.take i)<=used l:=by
 have:=zaU (l.take i) (l.drop i);rw [List.take_append_drop] at this;omega
theorem zk7 (p:Nat) (d:D) (M:Mem) (h:RdV M p d) (I:Right d):ACall prog 74 #[.pointer (some ⟨p,0,none⟩)] M λr S'=>r = .int .i64 (d.size-used d.ext)/\S'=M:=by
 obtain ⟨qe,de,qw,dw,V,hE,hW⟩:=h;obtain ⟨_,_,J,ae,Z,Q⟩:=id hE;cases J;have ag:=za8 I;have ah:=I.s0;have ac:=I.s1
 refine k_E1 27 func74 ?_;refine r28_ ?_;refine AWP.loop (X:=Nat) (λx=>[(3,.int .i64 (d.size-used (d.ext.take x))),(15,.slice qe d.ext.length de),(16,.int .i64 d.ext.length),(17,.int .i64 x)]) (λx=>M) (λx=>x<=d.ext.length) (λx=>d.ext.length-x) (0) ⟨zah (by simp [used]),rfl,rfl,rfl,trivial⟩ (Mem.Less.refl _) (Nat.zero_le _) ?_;rintro i hi;(try dsimp only at *);refine r6_ ?_;refine vu rfl (λhc=>?_) (λhc=>?_)
 ·have hc:i<d.ext.length:=by have:=of_decide_eq_true hc;omega
  obtain ⟨b,off,rfl,hk⟩:=Q.resolve_left (λe=>by rw [e] at hc;simp at hc);have U:=hk i hc;have Y:=znL hc;have aa:=ziA d.ext (i+1);have ad:=zcK I (List.getElem_mem hc);generalize d.ext[i]=x at *;unfold extF at U;refine r8_ ?_;refine ARun.alloc (zab rfl) zbF ?_;intro b5 f5;have C:=f5
  repeat ((with_reducible replace C:=zaa C);obtain ⟨C,_⟩:=C)
  have:=C.ne V;have:=C.ne' V
  refine nl_ ?_;refine r6_ ?_;refine cp_ rfl (zbj x _ vd) ?_;refine r10_ ?_;refine ⟨i+1,?_,?_,?_,?_⟩<;>try dsimp only
  ·exact ⟨zah vd,rfl,rfl,rfl,trivial⟩
  ·exact zae
  ·exact hc
  omega
 have hc:i=d.ext.length:=by have:=of_decide_eq_false hc;omega
 subst hc;rw [List.take_length];refine r11_ ?_;refine kw_ [3,15,16,17,18,2] ?_;refine s1_ ?_;refine ⟨_,M,⟨_,_,rfl,rfl,rfl⟩,zae,?_⟩;exact ⟨rfl,rfl⟩
noncomputable def roomD (d:D):Int × Int:=if (openD d).2≠0 then (0,(openD d).2) else (d.size-used d.ext,0)
def exOf (l:List Ext) (s:tt):Ext:=l.getD (pos l s) (ByteArray.empty,ByteArray.empty)
theorem zjZ {l:List Ext} {s:tt} (h:pos l s<l.length):exOf l s=l[pos l s]:=by simp [exOf,List.getD,List.getElem?_eq_getElem h]
noncomputable def sectorsD (d:D) (s:tt):Int × Int:=if (openD d).2≠0 then (0,(openD d).2) else if has d.ext s=true then ((sec (exOf d.ext s):Nat),0) else (0,3)
def placeD (d:D) (s:tt) (k:Int):Nat × Int:=if has d.ext s=true then (if k<0\/(sec (exOf d.ext s):Int)<=k then (0,1) else (pos d.ext s,0)) else (0,3)
theorem ziB (p:Nat) (d:D) (s:tt) (i:Int) (M:Mem) (h:RdV M p d) (V:Right d):ACall prog 77 #[.pointer (some ⟨p,0,none⟩),.string s,.int .i64 i] M λr S'=>r = .tuple #[.int .i64 ((placeD d s i).1:Nat),.int .i64 (placeD d s i).2]/\S'=M:=by
 obtain ⟨qe,de,qw,dw,hp,U,ai⟩:=h;have Y:=zeZ V.ex.asc s;unfold placeD;by_cases q:has d.ext s=true
 ·obtain ⟨J,he⟩:=Y.1 q;have af:=zcK V (List.getElem_mem J);have I:=zby _ d.ext s M U V.ex.asc (Nat.le_trans (za8 V).1 (by decide));rw [if_pos q,zjZ J];obtain ⟨_,_,X,ag,ad,Z⟩:=id U;cases X;obtain ⟨b,off,rfl,hk⟩:=Z.resolve_left (λe=>by rw [e] at J;simp at J);have aa:=hk _ J;generalize ah:pos d.ext s=k at *;generalize d.ext[k]=x at *;unfold extF at aa;by_cases q1:i<0
  ·rw [if_pos (.inl q1)];refine k_E3 40 func77 ?_;refine r14_ ?_;refine ca_ rfl (I) ?_;rintro _ Q ⟨rfl,C⟩;rw [C,q];clear C Q;refine r16_ ?_;refine cF_ ?_;refine r20_ ?_;refine cT_ ?_;refine r9_ ?_;refine ⟨_,M,⟨_,_,rfl,⟨_,_,rfl,rfl,rfl⟩,rfl⟩,zae,?_⟩;exact ⟨rfl,rfl⟩
  by_cases q2:(sec x:Int)<=i
  ·rw [if_pos (.inr q2)];refine k_E3 40 func77 ?_;refine r14_ ?_;refine ca_ rfl (I) ?_;rintro _ Q ⟨rfl,C⟩;rw [C,q];clear C Q;refine r16_ ?_;refine kw_ [0,1,2,6,7,8,9,20] ?_;refine cF_ ?_;refine r14_ ?_;refine vC 2 false 26 rfl (zab rfl) rfl (zab rfl) zix rfl (zbj x _ vd) ?_;rintro _ Q ⟨rfl,C⟩;rw [C];clear C Q;refine r5_ ?_;refine cT_ ?_;refine r9_ ?_;refine ⟨_,M,⟨_,_,rfl,⟨_,_,rfl,rfl,rfl⟩,rfl⟩,zae,?_⟩;exact ⟨rfl,rfl⟩
  rw [if_neg vd];refine k_E3 40 func77 ?_;refine r14_ ?_;refine ca_ rfl (I) ?_;rintro _ Q ⟨rfl,C⟩;rw [C,q];clear C Q;refine r16_ ?_;refine cF_ ?_;refine r14_ ?_;refine vC 2 false 26 rfl (zab rfl) rfl (zab rfl) zix rfl (zbj x _ vd) ?_;rintro _ Q ⟨rfl,C⟩;rw [C];clear C Q;refine r5_ ?_;refine cF_ ?_;refine r10_ ?_;refine kw_ [0,1,2,6,7,8,9,20,23] ?_;refine s1_ ?_;refine ⟨_,M,⟨_,_,rfl,⟨_,_,rfl,rfl,rfl⟩,rfl⟩,zae,?_⟩;exact ⟨rfl,rfl⟩
 rw [if_neg q];refine k_E3 40 func77 ?_;refine r14_ ?_;refine ca_ rfl (zby _ d.ext s _ U V.ex.asc (Nat.le_trans (za8 V).1 (by decide))) ?_;rintro _ Q ⟨rfl,C⟩;rw [C,Bool.eq_false_iff.2 q];clear C Q;refine r16_ ?_;refine cT_ ?_;refine r9_ ?_;refine ⟨_,M,⟨_,_,rfl,⟨_,_,rfl,rfl,rfl⟩,rfl⟩,zae,?_⟩;exact ⟨rfl,rfl⟩
theorem zj0 {A Y X B:List tu} {k:Nat} (hk:A.length=k) (hl:Y.length=X.length):spl (A ++ (Y ++ B)) k X=A ++ (X ++ B):=by
 subst hk;unfold spl;rw [List.take_left,<- List.drop_drop,List.drop_left,<- hl,List.drop_left,List.append_assoc]
theorem znM {A Y X:List tu} {k:Nat} (hk:A.length=k) (hl:Y.length<=X.length):spl (A ++ Y) k X=A ++ X:=by
 subst hk;unfold spl;rw [List.take_left,List.drop_of_length_le (by rw [List.length_append];omega),List.append_nil]
theorem zf6 {α : Type} {n:Nat} {f : α->List tu} (l:List α) (i:Nat):l.flatMap f=(l.take i).flatMap f ++ (l.drop i).flatMap f:=by
 rw [<- List.flatMap_append,List.take_append_drop]
theorem zmr {A D X:List tu} {i:Nat} (I:A.length=i*2) (C:X.length=2) (J:2<=D.length):spl (spl (A ++ D) (0+(i+1)*2) D) (0+i*2) X=A ++ (X ++ D):=by
 have e:spl (A ++ D) (0+(i+1)*2) D=A ++ (D.take 2 ++ D):=by
  have e1:A ++ D=(A ++ D.take 2) ++ D.drop 2:=by rw [List.append_assoc,List.take_append_drop]
  rw [e1,znM (by simp [I];omega) (by simp),List.append_assoc]
 rw [e];exact zj0 vd (by simp [C];omega)
theorem zms {A D X zs:List tu} {i:Nat} (I:A.length=i*2) (C:X.length=2) (J:zs.length=2+D.length):spl (spl (A ++ zs) (0+i*2) X) (0+(i+1)*2) D=A ++ (X ++ D):=by
 have e:spl (A ++ zs) (0+i*2) X=(A ++ X) ++ zs.drop 2:=by
  have e1:A ++ zs=A ++ (zs.take 2 ++ zs.drop 2):=by rw [List.take_append_drop]
  rw [e1,zj0 vd (by simp [C];omega),List.append_assoc]
 rw [e,znM (by simp [I,C];omega) (by simp;omega),List.append_assoc]
def insAt (l:List Ext) (i:Nat) (x:Ext):List Ext:=l.take i ++ x :: l.drop i
theorem zk8 (l:List Ext) (i:Nat) (x:Ext):(insAt l i x).flatMap extF=(l.take i).flatMap extF ++ (extF x ++ (l.drop i).flatMap extF):=by
 unfold insAt;rw [List.flatMap_append,List.flatMap_cons]
theorem znN {l:List Ext} {i:Nat} (h:i<=l.length) (x:Ext):(insAt l i x).length=l.length+1:=by
 unfold insAt;simp;omega
theorem ztd (B:Mem) (o:Option (Nat × Nat)) (l:List Ext) (i:Nat) (x:Ext) (t:Nat) (X:OkO B o l.length) (ht:Fresh (outN 2 B o extT (l.flatMap extF)) t) (hi:i<=l.length) (au:l.length<=16384) :
  ACall prog 75 #[outV o l.length,.int .i64 (i:Int),.slice (some ⟨t,0,none⟩) 1 1] ((outN 2 B o extT (l.flatMap extF)).set t ⟨extT,extF x,2⟩) λr S'=>∃ o',OkO B o' (l.length+1)/\r=outV o' (l.length+1)/\S'=outN 2 B o' extT ((insAt l i x).flatMap extF):=by
 have I:=zao zaZ l;have Q:∀ v ∈ extF x,v.oneCell'=true:=λv hv=>zf5 [x] v (by simpa using hv);have V:AppN 2 ((outN 2 B o extT (l.flatMap extF)).set t ⟨extT,extF x,2⟩) B o extT (l.flatMap extF):=(zb6 X I).temp ht;by_cases al:i=l.length
 ·subst al;have he:(insAt l l.length x).flatMap extF=l.flatMap extF ++ extF x:=by rw [zk8];simp
  rw [he];cases o with
  | none =>
   obtain rfl:l = []:=List.eq_nil_of_length_eq_zero (X.nil rfl);refine k_E3 95 func75 ?_;refine r26_ ?_;refine cF_ ?_;refine r17_ ?_;refine kw_ [0,1,2,6,7,16,8,22] ?_;refine cT_ ?_;refine r4_ ?_;refine vH (n:=2) (o:=none) (k:=0) (m:=1) (cs:=[]) (zab rfl) zbz rfl rfl I X V rfl (zeY (vf _ _ _) List.prefix_rfl) rfl Q vd vd ?_;intro o' aa;refine r5_ ?_;refine ⟨_,_,⟨_,_,rfl,rfl,rfl⟩,Mem.Less.refl _,?_⟩;exact ⟨o',aa,rfl,rfl⟩
  | some q =>
   obtain ⟨b,c⟩:=q;have hc:=(X.own b c rfl).2;refine k_E3 95 func75 ?_;refine r26_ ?_;refine cF_ ?_;refine r9_ ?_;refine kw_ [0,1,2,6,7,16,8] ?_;refine r8_ ?_;refine cT_ ?_;refine r4_ ?_;refine vH (n:=2) (o:=some (b,c)) (k:=l.length) (m:=1) (cs:=l.flatMap extF) (zab rfl) zbz rfl rfl I X V rfl (zeY (vf _ _ _) List.prefix_rfl) rfl Q vd vd ?_;intro o' aa;refine r5_ ?_;refine ⟨_,_,⟨_,_,rfl,rfl,rfl⟩,Mem.Less.refl _,?_⟩;exact ⟨o',aa,rfl,rfl⟩
 obtain ⟨⟨b,c⟩,rfl⟩ : ∃ q,o=some q:=by
  cases o with
  | none=>have:=X.nil rfl;omega
  | some q=>exact ⟨q,rfl⟩
 have hc:=(X.own b c rfl).2;have am:=(X.own b c rfl).1;obtain ⟨az,an⟩:=zaa ht;have hA:=zao zaZ (l.take i);have U:=zao zaZ (l.drop i);rw [List.length_take,Nat.min_eq_left hi] at hA;rw [List.length_drop] at U;have C:=zf6 (n:=2) (f:=extF) l i;have ak:(spl (l.flatMap extF) (0+(i+1)*2) ((l.drop i).flatMap extF)).length=l.length*2+2:=by
  unfold spl;simp only [List.length_append,List.length_take,List.length_drop,I,U];omega
 rw [zk8];dsimp only [outN,outV];by_cases Y:l.length+1<=c
 ·skip
  refine k_E3 95 func75 ?_;refine r26_ ?_;refine kw_ [0,1,2,6,7,16] ?_;refine cF_ ?_;refine r17_ ?_;refine cF_ ?_;refine r9_ ?_;refine rC (Calm.cap underlying23 rfl) ?_;refine r3_ ?_;refine cF_ ?_;refine r8_ ?_;refine rC (vK (l.length+1) underlying23 zav rfl rfl vd vd) ?_;refine r11_ ?_;refine rC (vE (i+1) underlying23 zav rfl rfl vd vd vd) ?_;refine ux (T:=23) (tR:=4) (zab rfl) func124 rfl rfl rfl rfl underlying23 zav rfl (vf _ _ _) (Nat.ne_of_beq_eq_false rfl) (show 0<2 from by decide) own_ (by simp only [I];omega) an ?_;refine r3_ ?_;refine kw_ [0,1,2,6,7,16,8,22,31,68] ?_;refine cT_ ?_;refine s1_ ?_;refine dr_ [i0_,i1_,i2_,i3_,i4_,i5_,i6_,i7_,o8_] [8] ?_;refine r4_ ?_;refine dP (hc:=λ_=>vE (i+1) underlying23 zav rfl rfl vd vd vd) (h:=?_);refine r2_ ?_;refine dP (hc:=λ_=>vE (i) underlying23 zav rfl rfl vd vd vd) (h:=?_);refine zac rfl ?_;refine vQ (n:=2) (q:=l.length-i) (news:=(l.drop i).flatMap extF) (zab rfl) zbz rfl own_ (by simp only [I];omega) rfl vd (vq (r:=⟨extT,l.flatMap extF,c*2⟩) own_ _ _ (λj v Z=>by simp only;rw [C,List.getElem?_append_right vd,<- Z];congr 1;omega)) U (zf5 _) (.inr (by simp only [U];omega)) ?_;refine zad ⟨nz_,?_⟩;refine r6_ ?_;refine rC (vE (i) underlying23 zav rfl rfl vd vd vd) ?_;refine s1_ ?_;refine vQ (n:=2) (q:=1) (news:=extF x) (zab rfl) zbz rfl own_ (by simp only [ak];omega) rfl vd (vq (r:=⟨extT,extF x,2⟩) own_ 0 _ (λj v Z=>by rw [Nat.zero_add];exact Z)) rfl Q (.inr (by simp only [zaZ];omega)) ?_;refine r10_ ?_;refine ⟨_,B.set b ⟨extT,spl (spl (l.flatMap extF) (0+(i+1)*2) ((l.drop i).flatMap extF)) (0+i*2) (extF x),c*2⟩,⟨_,_,rfl,rfl,rfl⟩,zae,?_⟩;exact ⟨some (b,c),zcA am Y,rfl,by rw [C,zmr hA rfl (by rw [U];omega)]⟩
 skip
 refine k_E3 95 func75 ?_;refine r19_ ?_;refine kw_ [0,1,2,6,7] ?_;refine r7_ ?_;refine cF_ ?_;refine r17_ ?_;refine cF_ ?_;refine r9_ ?_;refine rC (Calm.cap underlying23 rfl) ?_;refine r3_ ?_;refine cT_ ?_;refine r4_ ?_;refine rC (vK (i) underlying23 zav rfl rfl vd vd) ?_;refine r5_ ?_;refine uA (k:=i) (m:=l.length+1-i) (xs:=(l.take i).flatMap extF) (c:=c) (zab rfl) zbz rfl underlying3 rfl hA ((zgR (r:=⟨extT,l.flatMap extF,c*2⟩) own_ (by rw [C];exact List.prefix_append _ _)).knows) (congrArg some (congrArg (Value.int .i64) vd)) vd vd vd ?_;intro b' c' zs ad ax ah;obtain ⟨ac,af⟩:=zaa ad;obtain ⟨ai,ae⟩:=zaa ac;have aq:=Ne.symm ae;have ao:=Ne.symm af;have J:(((l.take i).flatMap extF) ++ zs).length=l.length*2+2:=by simp only [List.length_append,hA,ah];omega
 refine r3_ ?_;refine kw_ [0,1,2,6,7,16,8,22,31,9] ?_;refine r4_ ?_;refine rC (vE (i) underlying23 zav rfl rfl vd vd vd) ?_;refine s1_ ?_;refine vQ (n:=2) (q:=1) (news:=extF x) (zab rfl) zbz rfl (vf _ _ _) (by simp only [J];omega) rfl vd (vq (r:=⟨extT,extF x,2⟩) own_ 0 _ (λj v Z=>by rw [Nat.zero_add];exact Z)) rfl Q (.inl (by simp only [J,zaZ];omega)) ?_;have ag:(spl ((l.take i).flatMap extF ++ zs) (0+i*2) (extF x)).length=l.length*2+2:=by rw [zeU _ _ _ (by simp only [J,zaZ];omega),J]
 refine r3_ ?_;refine dr_ [i0_,i1_,i2_,i3_,i4_,i5_,i6_,i7_,o8_] [8] ?_;refine r4_ ?_;refine dP (hc:=λ_=>vE (i+1) underlying23 zav rfl rfl vd vd vd) (h:=?_);refine r2_ ?_;refine dP (hc:=λ_=>vE (i) underlying23 zav rfl rfl vd vd vd) (h:=?_);refine zac rfl ?_;refine vQ (n:=2) (q:=l.length-i) (news:=(l.drop i).flatMap extF) (zab rfl) zbz rfl (vf _ _ _) (by simp only [ag];omega) rfl vd (vq (r:=⟨extT,l.flatMap extF,c*2⟩) own_ _ _ (λj v Z=>by simp only;rw [C,List.getElem?_append_right vd,<- Z];congr 1;omega)) U (zf5 _) (.inl (by simp only [ag,U];omega)) ?_;refine zad ⟨nz_,?_⟩;refine r10_ ?_;refine ⟨_,B.set b' ⟨extT,spl (spl ((l.take i).flatMap extF ++ zs) (0+i*2) (extF x)) (0+(i+1)*2) ((l.drop i).flatMap extF),c'*2⟩,⟨_,_,rfl,rfl,rfl⟩,zae,?_⟩;exact ⟨some (b',c'),zcA ai vd,congrArg (λn=>Value.slice (some ⟨b',0,none⟩) n c') vd,by rw [zms hA rfl (by rw [U,ah];omega)]⟩
theorem zbA {n:Nat} {S:Mem} {o:Option (Nat × Nat)} {e:tx} {cs:List tu} {b:Nat} {r:Blk} (h:∀ q c,o=some (q,c)->q≠b):outN n (S.set b r) o e cs=(outN n S o e cs).set b r:=by
 cases o with
 | none=>rfl
 | some q=>exact vr _ _ _ (Ne.symm (h _ _ rfl))
theorem ziC {n m:Nat} {S:Mem} {o o':Option (Nat × Nat)} {e I:tx} {cs cs':List tu} (h:∀ q c C c',o=some (q,c)->o'=some (C,c')->q≠C):outN n (outN m S o' I cs') o e cs=outN m (outN n S o e cs) o' I cs':=by
 cases o with
 | none=>rfl
 | some q =>
  cases o' with
  | none=>rfl
  | some C=>exact vr _ _ _ (Ne.symm (h _ _ _ _ rfl rfl))
theorem zdr {n:Nat} {S:Mem} {o:Option (Nat × Nat)} {e:tx} {cs:List tu} {b:Nat} {r:Blk} (hb:S.own b=some r) (h:∀ q c,o=some (q,c)->q≠b):(outN n S o e cs).own b=some r:=by
 cases o with
 | none=>exact hb
 | some q=>exact (vg _ _ (Ne.symm (h _ _ rfl))).trans hb
theorem zbq {n:Nat} {S:Mem} {o:Option (Nat × Nat)} {e:tx} {cs:List tu} {b:Nat} (hb:Fresh S b) (h:∀ q c,o=some (q,c)->q≠b):Fresh (outN n S o e cs) b:=by
 cases o with
 | none=>exact hb
 | some q=>exact zai hb (Ne.symm (h _ _ rfl))
def devB (d:D) (oE oW:Option (Nat × Nat)):Blk:=⟨82,[.int .i64 d.size,outV oE d.ext.length,outV oW d.waits.length,.int .i64 d.fuse,.bool d.down],5⟩
theorem zcG (S:Mem) (p:Nat) (d:D) (oE oW:Option (Nat × Nat)):devM S p d oE oW=(outN 3 (outN 2 S oE extT (d.ext.flatMap extF)) oW wrT (d.waits.flatMap wrF)).set p (devB d oE oW):=rfl
structure Apart (S:Mem) (p:Nat) (oE oW:Option (Nat × Nat)):Prop where
  e:∀ b c,oE=some (b,c)->Fresh S b/\b≠p
  w:∀ b c,oW=some (b,c)->Fresh S b/\b≠p
  ew:∀ b c b' c',oE=some (b,c)->oW=some (b',c')->b≠b'
  p:Fresh S p
structure Fits (d:D) (oE oW:Option (Nat × Nat)):Prop where
  e0:oE=none->d.ext.length=0
  w0:oW=none->d.waits.length=0
  e:∀ b c,oE=some (b,c)->d.ext.length<=c
  w:∀ b c,oW=some (b,c)->d.waits.length<=c
theorem OkV.apart {S:Mem} {p:Nat} {d:D} {oE oW:Option (Nat × Nat)} (h:OkV S p d oE oW):Apart S p oE oW:=by
 obtain ⟨I,U⟩:=zaF h.fr;obtain ⟨C,J⟩:=zaF I;exact ⟨λb c e=>⟨(h.dk.e.own b c e).1,Ne.symm (J b c e)⟩,λb c e=>⟨(zaF (h.dk.w.own b c e).1).1,Ne.symm (U b c e)⟩,λb c b' c' e Q=>Ne.symm ((zaF (h.dk.w.own b' c' Q).1).2 b c e),C⟩
theorem OkV.fits {S:Mem} {p:Nat} {d:D} {oE oW:Option (Nat × Nat)} (h:OkV S p d oE oW):Fits d oE oW:=⟨h.dk.e.nil,h.dk.w.nil,λb c e=>(h.dk.e.own b c e).2,λb c e=>(h.dk.w.own b c e).2⟩
theorem zgY {S:Mem} {p:Nat} {d:D} {oE oW:Option (Nat × Nat)} (h:Apart S p oE oW) (f:Fits d oE oW):OkV S p d oE oW :=
 ⟨⟨⟨f.e0,λb c e=>⟨(h.e b c e).1,f.e b c e⟩⟩,⟨f.w0,λb c e=>⟨zbq (h.w b c e).1 (λq c' C=>h.ew q c' b c C e),f.w b c e⟩⟩⟩,zbq (zbq h.p (λq c e=>(h.e q c e).2)) (λq c e=>(h.w q c e).2)⟩
def baseE (S:Mem) (p:Nat) (d:D) (oW:Option (Nat × Nat)) (r:Blk):Mem:=(outN 3 S oW wrT (d.waits.flatMap wrF)).set p r
theorem ziD {S:Mem} {p:Nat} {d:D} {oE oW:Option (Nat × Nat)} (h:Apart S p oE oW) (r:Blk):outN 2 (baseE S p d oW r) oE extT (d.ext.flatMap extF)=(outN 3 (outN 2 S oE extT (d.ext.flatMap extF)) oW wrT (d.waits.flatMap wrF)).set p r:=by
 unfold baseE;rw [zbA (λq c e=>(h.e q c e).2),ziC (λq c C c' e I=>h.ew q c C c' e I)]
theorem ziE {S:Mem} {p:Nat} {d:D} {oE oW:Option (Nat × Nat)} (h:Apart S p oE oW) (f:Fits d oE oW) (r:Blk):OkO (baseE S p d oW r) oE d.ext.length :=
 ⟨f.e0,λb c e=>⟨zai (zbq (h.e b c e).1 (λq c' C=>Ne.symm (h.ew b c q c' e C))) (h.e b c e).2,f.e b c e⟩⟩
theorem zj1 {S:Mem} {p:Nat} {d:D} {oE C oW:Option (Nat × Nat)} {r:Blk} {k:Nat} (h:Apart S p oE oW) (h':OkO (baseE S p d oW r) C k):Apart S p C oW :=
 ⟨λb c e=>by
  obtain ⟨I,J⟩:=zaa (h'.own b c e).1;exact ⟨(zaF I).1,J⟩,h.w,λb c b' c' e Q=>by
  obtain ⟨I,J⟩:=zaa (h'.own b c e).1;exact (zaF I).2 b' c' Q,h.p⟩
theorem zsq {S:Mem} {p:Nat} {d d':D} {oE C oW:Option (Nat × Nat)} {r:Blk} {k:Nat} (f:Fits d oE oW) (h':OkO (baseE S p d oW r) C k) (hk:d'.ext.length=k) (I:d'.waits=d.waits):Fits d' C oW :=
 ⟨λe=>by rw [hk];exact h'.nil e,λe=>by rw [I];exact f.w0 e,λb c e=>by rw [hk];exact (h'.own b c e).2,λb c e=>by rw [I];exact f.w b c e⟩
theorem znO {S:Mem} {p:Nat} {d d':D} {oE C oW:Option (Nat × Nat)} {r:Blk} {k:Nat} (h:Apart S p oE oW) (h':OkO (baseE S p d oW r) C k) (Q:d'.waits=d.waits):(outN 2 (baseE S p d oW r) C extT (d'.ext.flatMap extF)).set p (devB d' C oW)=devM S p d' C oW:=by
 have I:=zj1 h h';rw [zcG];unfold baseE;rw [zbA (λq c e=>(I.e q c e).2),Mem.set_set,ziC (λq c J c' e U=>I.ew q c J c' e U),Q]
def baseW (S:Mem) (p:Nat) (d:D) (oE:Option (Nat × Nat)) (r:Blk):Mem:=(outN 2 S oE extT (d.ext.flatMap extF)).set p r
theorem zsr {S:Mem} {p:Nat} {d:D} {oE oW:Option (Nat × Nat)} (h:Apart S p oE oW) (r:Blk):outN 3 (baseW S p d oE r) oW wrT (d.waits.flatMap wrF)=(outN 3 (outN 2 S oE extT (d.ext.flatMap extF)) oW wrT (d.waits.flatMap wrF)).set p r:=by
 unfold baseW;rw [zbA (λq c e=>(h.w q c e).2)]
theorem ziF {S:Mem} {p:Nat} {d:D} {oE oW:Option (Nat × Nat)} (h:Apart S p oE oW) (f:Fits d oE oW) (r:Blk):OkO (baseW S p d oE r) oW d.waits.length :=
 ⟨f.w0,λb c e=>⟨zai (zbq (h.w b c e).1 (λq c' C=>h.ew q c' b c C e)) (h.w b c e).2,f.w b c e⟩⟩
theorem zhE {S:Mem} {p:Nat} {d:D} {oE oW C:Option (Nat × Nat)} {r:Blk} {k:Nat} (h:Apart S p oE oW) (h':OkO (baseW S p d oE r) C k):Apart S p oE C :=
 ⟨h.e,λb c e=>by
  obtain ⟨I,J⟩:=zaa (h'.own b c e).1;exact ⟨(zaF I).1,J⟩,λb c b' c' e Q=>by
  obtain ⟨I,J⟩:=zaa (h'.own b' c' Q).1;exact Ne.symm ((zaF I).2 b c e),h.p⟩
theorem zss {S:Mem} {p:Nat} {d d':D} {oE oW C:Option (Nat × Nat)} {r:Blk} {k:Nat} (f:Fits d oE oW) (h':OkO (baseW S p d oE r) C k) (hk:d'.waits.length=k) (I:d'.ext=d.ext):Fits d' oE C :=
 ⟨λe=>by rw [I];exact f.e0 e,λe=>by rw [hk];exact h'.nil e,λb c e=>by rw [I];exact f.e b c e,λb c e=>by rw [hk];exact (h'.own b c e).2⟩
theorem znP {S:Mem} {p:Nat} {d d':D} {oE oW C:Option (Nat × Nat)} {r:Blk} {k:Nat} (h:Apart S p oE oW) (h':OkO (baseW S p d oE r) C k) (J:d'.ext=d.ext):(outN 3 (baseW S p d oE r) C wrT (d'.waits.flatMap wrF)).set p (devB d' oE C)=devM S p d' oE C:=by
 have I:=zhE h h';rw [zcG];unfold baseW;rw [zbA (λq c e=>(I.w q c e).2),Mem.set_set,J]
theorem zdO (o:Option (Nat × Nat)) (n:Nat):(outV o n).cells = #[outV o n]:=by cases o <;> rfl
theorem zfA (o:Option (Nat × Nat)) (n:Nat):(outV o n).oneCell'=true:=by cases o <;> rfl
end
end Go.Proofs.YtbgjkpkakoggbaaGreatDoor
namespace Go.Proofs
open Go.Shelf
def Tryz.lays125_ren:Go.Shelf.Ren:=⟨λ| 125=>247 | 128=>272 | 129=>31 | n=>n,λ| 46=>131 | 3=>3 | 51=>214 | 53=>31 | 4=>4 | 5=>5 | 9=>9 | n=>n,λ| n=>n⟩
theorem Tryz.lays125:Go.Proofs.Lays.n125 Tryz.prog Tryz.lays125_ren:={
 mixed:=by kernel_rfl
 f125:=Tryz.func247.trans (congrArg some (by kernel_rfl))
 f128:=Tryz.func272.trans (congrArg some (by kernel_rfl))
 f129:=Tryz.func31.trans (congrArg some (by kernel_rfl))
 t3:=Tryz.underlying3
 a3:=Tryz.isAgg3
 z3:=Tryz.sizeOf3
 v3:=Tryz.zeroValue3
 t4:=Tryz.underlying4
 a4:=Tryz.isAgg4
 z4:=Tryz.sizeOf4
 v4:=Tryz.zeroValue4
 t5:=Tryz.underlying5
 a5:=Tryz.isAgg5
 z5:=Tryz.sizeOf5
 v5:=Tryz.zeroValue5
 t9:=Tryz.underlying9
 a9:=Tryz.isAgg9
 z9:=Tryz.sizeOf9
 v9:=Tryz.zeroValue9
 t46:=Tryz.underlying131
 a46:=Tryz.isAgg131
 z46:=Tryz.sizeOf131
 v46:=Tryz.zeroValue131
 t51:=Tryz.underlying214
 a51:=Tryz.isAgg214
 z51:=Tryz.sizeOf214
 v51:=Tryz.zeroValue214
 t53:=Tryz.underlying31
 a53:=Tryz.isAgg31
 z53:=Tryz.sizeOf31
 v53:=Tryz.zeroValue31 }
theorem Tryz.bits_Len (x:Int) (w:World) (I:0<=x) (C:x<=18446744073709551615) :
  Calls Tryz.prog 247 #[.int .u64 x] w λe w'=>e = .returned (.int .i64 (Lib.bitLen x.toNat))/\w'=w:=Any.bits_Len Tryz.lays125 x w I C
def Tryz.lays105_ren:Go.Shelf.Ren:=⟨λ| 105=>76 | 212=>126 | 99=>127 | 165=>128 | 166=>65 | 170=>129 | 169=>68 | 263=>175 | 264=>176 | 206=>177 | 240=>115 | 241=>178 | 276=>165 | 277=>211 | n=>n,λ| 9=>9 | 3=>3 | 4=>4 | 20=>20 | 0=>0 | 46=>131 | 109=>209 | 5=>5 | 72=>124 | 76=>126 | 51=>214 | 146=>271 | 53=>31 | 148=>273 | 70=>122 | 37=>71 | 75=>52 | 127=>200 | 164=>221 | 80=>130 | n=>n,λ| n=>n⟩
theorem Tryz.lays105:Go.Proofs.Lays.n105 Tryz.prog Tryz.lays105_ren:={
 mixed:=by kernel_rfl
 f99:=Tryz.func127.trans (congrArg some (by kernel_rfl))
 f105:=Tryz.func76.trans (congrArg some (by kernel_rfl))
 f165:=Tryz.func128.trans (congrArg some (by kernel_rfl))
 f166:=Tryz.func65.trans (congrArg some (by kernel_rfl))
 f169:=Tryz.func68.trans (congrArg some (by kernel_rfl))
 f170:=Tryz.func129.trans (congrArg some (by kernel_rfl))
 f206:=Tryz.func177.trans (congrArg some (by kernel_rfl))
 f212:=Tryz.func126.trans (congrArg some (by kernel_rfl))
 f240:=Tryz.func115.trans (congrArg some (by kernel_rfl))
 f241:=Tryz.func178.trans (congrArg some (by kernel_rfl))
 f263:=Tryz.func175.trans (congrArg some (by kernel_rfl))
 f264:=Tryz.func176.trans (congrArg some (by kernel_rfl))
 f276:=Tryz.func165.trans (congrArg some (by kernel_rfl))
 f277:=Tryz.func211.trans (congrArg some (by kernel_rfl))
 t0:=Tryz.underlying0
 a0:=Tryz.isAgg0
 z0:=Tryz.sizeOf0
 v0:=Tryz.zeroValue0
 t3:=Tryz.underlying3
 a3:=Tryz.isAgg3
 z3:=Tryz.sizeOf3
 v3:=Tryz.zeroValue3
 t4:=Tryz.underlying4
 a4:=Tryz.isAgg4
 z4:=Tryz.sizeOf4
 v4:=Tryz.zeroValue4
 t5:=Tryz.underlying5
 a5:=Tryz.isAgg5
 z5:=Tryz.sizeOf5
 v5:=Tryz.zeroValue5
 t9:=Tryz.underlying9
 a9:=Tryz.isAgg9
 z9:=Tryz.sizeOf9
 v9:=Tryz.zeroValue9
 t20:=Tryz.underlying20
 a20:=Tryz.isAgg20
 z20:=Tryz.sizeOf20
 v20:=Tryz.zeroValue20
 t37:=Tryz.underlying71
 a37:=Tryz.isAgg71
 z37:=Tryz.sizeOf71
 v37:=Tryz.zeroValue71
 t46:=Tryz.underlying131
 a46:=Tryz.isAgg131
 z46:=Tryz.sizeOf131
 v46:=Tryz.zeroValue131
 t51:=Tryz.underlying214
 a51:=Tryz.isAgg214
 z51:=Tryz.sizeOf214
 v51:=Tryz.zeroValue214
 t53:=Tryz.underlying31
 a53:=Tryz.isAgg31
 z53:=Tryz.sizeOf31
 v53:=Tryz.zeroValue31
 t70:=Tryz.underlying122
 a70:=Tryz.isAgg122
 z70:=Tryz.sizeOf122
 v70:=Tryz.zeroValue122
 t72:=Tryz.underlying124
 a72:=Tryz.isAgg124
 z72:=Tryz.sizeOf124
 v72:=Tryz.zeroValue124
 t75:=Tryz.underlying52
 a75:=Tryz.isAgg52
 z75:=Tryz.sizeOf52
 v75:=Tryz.zeroValue52
 t76:=Tryz.underlying126
 a76:=Tryz.isAgg126
 z76:=Tryz.sizeOf126
 v76:=Tryz.zeroValue126
 t109:=Tryz.underlying209
 a109:=Tryz.isAgg209
 z109:=Tryz.sizeOf209
 v109:=Tryz.zeroValue209
 t127:=Tryz.underlying200
 a127:=Tryz.isAgg200
 z127:=Tryz.sizeOf200
 v127:=Tryz.zeroValue200
 t146:=Tryz.underlying271
 a146:=Tryz.isAgg271
 z146:=Tryz.sizeOf271
 v146:=Tryz.zeroValue271
 t148:=Tryz.underlying273
 a148:=Tryz.isAgg273
 z148:=Tryz.sizeOf273
 v148:=Tryz.zeroValue273
 t164:=Tryz.underlying221
 a164:=Tryz.isAgg221
 z164:=Tryz.sizeOf221
 v164:=Tryz.zeroValue221 }
theorem Tryz.Builder_Extra_105:Builder.Extra Tryz.prog Tryz.lays105_ren:={
 sizeBuilder:=by kernel_rfl
 liesBuilder:=by kernel_rfl
 t5:=Tryz.underlying5
 a5:=Tryz.isAgg5
 z5:=Tryz.sizeOf5
 v5:=Tryz.zeroValue5
 infoByte:=by kernel_rfl
 cellsByte:=by kernel_rfl
 sizeByte:=by kernel_rfl
 neB5:=by decide }
open Go.RowKit Go.Lib in
theorem Tryz.strings_Repeat_main (s:ByteArray) (c:Nat) (w:World) (I:2<=c) (hc:c<=9223372036854775807) (C:s.size*c<=140737488355328) (J:0<s.size) :
  Calls Tryz.prog 76 #[.string s,.int .i64 c] w λe w'=>e = .returned (.string ⟨(Lib.repeatL s.data.toList c).toArray⟩)/\Below w.heap.size w w':=Any.strings_Repeat_main Tryz.lays105 Tryz.Builder_Extra_105 s c w I hc C J
open Go.RowKit Go.Lib in
theorem Tryz.strings_Repeat (s:ByteArray) (c:Nat) (w:World) (hc:c<=9223372036854775807) (C:s.size*c<=140737488355328) :
  Calls Tryz.prog 76 #[.string s,.int .i64 c] w λe w'=>e = .returned (.string ⟨(Lib.repeatL s.data.toList c).toArray⟩)/\Below w.heap.size w w':=Any.strings_Repeat Tryz.lays105 Tryz.Builder_Extra_105 s c w hc C
end Go.Proofs
namespace Go.Proofs.YtbgjkpkakoggbaaGreatDoor
open _root_.Go.Proofs.Tryz
section
open Go.RowKit
open Mv Disk
def zeros (n:Nat):tt:=bs (List.replicate (64*n) 0)
theorem ze9 (n:Nat):(zeros n).size=64*n:=by unfold zeros;rw [za2];simp
def newD (d:D) (s:tt) (n:Int):D × Int:=if ¬ nm s\/n<1 then (d,1) else if has d.ext s=true then (d,4) else if d.size-used d.ext<n then (d,8) else ({ d with ext:=insAt d.ext (pos d.ext s) (s,zeros n.toNat) },0)
def DevR (S:Mem) (p:Nat) (q:D × Int) (r:tu) (S':Mem):Prop:=∃ oE oW,OkV S p q.1 oE oW/\r = .int .i64 q.2/\S'=devM S p q.1 oE oW
theorem zf7 (c:Nat):Lib.repeatL [0] c=List.replicate c (0:UInt8):=by
 induction c with
 | zero=>rfl
 | succ c C=>rw [List.replicate_succ,<- C];rfl
theorem ziG (c:Nat) (S:Mem) (C:2<=c) (I:c<=140737488355328):ACall prog 76 #[.string ⟨#[0]⟩,.int .i64 (c:Int)] S λr S'=>r = .string (bs (List.replicate c 0))/\S'=S :=
 vN λw=>by
  have:=Tryz.strings_Repeat_main ⟨#[0]⟩ c w C vd (by show 1*c<=_;omega) (by decide);rw [show (⟨#[0]⟩ : tt).data.toList = [0] from rfl,zf7] at this;exact this
theorem zj2 (p:Nat) (d:D) (s:tt) (n:Int) (S:Mem) (oE oW:Option (Nat × Nat)) (J:OkV S p d oE oW) (Z:Right d) :
  ACall prog 38 #[.pointer (some ⟨p,0,none⟩),.string s,.int .i64 n] (devM S p d oE oW) (DevR S p (newD d s n)):=by
 have U:=za8 Z;have aj:=J.rd (Nat.le_trans U.1 (by decide)) (Nat.le_trans Z.wl (by decide));have Y:(devM S p d oE oW).own p=some (devB d oE oW):=vf _ _ _;have hE:Sl 2 extF (devM S p d oE oW) (outV oE d.ext.length) d.ext:=((zdm zaZ (e:=extT) J.dk.e rfl (Nat.le_trans U.1 (by decide))).less (za6 J.dk.w)).less (vi _ _ _ J.fr.1);have ac:=J.apart;have al:=J.fits;have aC:=Z.s0;have aB:=Z.s1
 have ah:=ziD ac (devB d oE oW) (d:=d);have aw:=ziE ac al (devB d oE oW);rw [<- zcG] at ah;generalize hM:devM S p d oE oW=M at *;unfold devB at Y;unfold newD;by_cases q1:nm s
 ·by_cases q2:n<1
  ·rw [if_pos (.inr q2)];refine k_E3 52 func38 ?_;refine r13_ ?_;refine cp_ rfl (zby _ d.ext s _ hE Z.ex.asc (Nat.le_trans U.1 (by decide))) ?_;refine r12_ ?_;refine vk (zab rfl) za3 rfl rfl ?_;intro aa Q;have C:=Q
   repeat ((with_reducible replace C:=zaa C);obtain ⟨C,_⟩:=C)
   have:=C.ne Y;have:=C.ne' Y
   refine ca_ rfl (zba _ [s] _ (zcE own_)) ?_;rintro _ V ⟨⟨t,rfl,ht⟩,I⟩;rw [I];clear I V;obtain rfl:t=true:=ht.2 (zcF.2 q1);refine r8_ ?_;refine cT_ ?_;refine r8_ ?_;refine ⟨_,M,⟨_,_,rfl,rfl,rfl⟩,zae,?_⟩;exact ⟨oE,oW,J,rfl,hM.symm⟩
  rw [if_neg (λh=>h.elim (λh=>h q1) q2)];by_cases q3:has d.ext s=true
  ·rw [if_pos q3];refine k_E3 52 func38 ?_;refine r13_ ?_;refine ca_ rfl (zby _ d.ext s _ hE Z.ex.asc (Nat.le_trans U.1 (by decide))) ?_;rintro _ V ⟨rfl,I⟩;rw [I,q3];clear I V;refine r12_ ?_;refine vk (zab rfl) za3 rfl rfl ?_;intro aa Q;have C:=Q
   repeat ((with_reducible replace C:=zaa C);obtain ⟨C,_⟩:=C)
   have:=C.ne Y;have:=C.ne' Y
   refine ca_ rfl (zba _ [s] _ (zcE own_)) ?_;rintro _ V ⟨⟨t,rfl,ht⟩,I⟩;rw [I];clear I V;obtain rfl:t=true:=ht.2 (zcF.2 q1);refine r8_ ?_;refine cF_ ?_;refine r6_ ?_;refine kw_ [0,1,2,6,7,8,19,28] ?_;refine cT_ ?_;refine r8_ ?_;refine ⟨_,M,⟨_,_,rfl,rfl,rfl⟩,zae,?_⟩;exact ⟨oE,oW,J,rfl,hM.symm⟩
  rw [if_neg q3];have ao:=Bool.eq_false_iff.2 q3;by_cases q4:d.size-used d.ext<n
  ·rw [if_pos q4];refine k_E3 52 func38 ?_;refine r13_ ?_;refine ca_ rfl (zby _ d.ext s _ hE Z.ex.asc (Nat.le_trans U.1 (by decide))) ?_;rintro _ V ⟨rfl,I⟩;rw [I,ao];clear I V;refine r12_ ?_;refine vk (zab rfl) za3 rfl rfl ?_;intro aa Q;have C:=Q
   repeat ((with_reducible replace C:=zaa C);obtain ⟨C,_⟩:=C)
   have:=C.ne Y;have:=C.ne' Y
   refine ca_ rfl (zba _ [s] _ (zcE own_)) ?_;rintro _ V ⟨⟨t,rfl,ht⟩,I⟩;rw [I];clear I V;obtain rfl:t=true:=ht.2 (zcF.2 q1);refine r8_ ?_;refine cF_ ?_;refine r6_ ?_;refine cF_ ?_;refine r4_ ?_;refine cp_ rfl (zk7 p d _ (aj.less zae) Z) ?_;refine r4_ ?_;refine cT_ ?_;refine r8_ ?_;refine ⟨_,M,⟨_,_,rfl,rfl,rfl⟩,zae,?_⟩;exact ⟨oE,oW,J,rfl,hM.symm⟩
  rw [if_neg q4];obtain ⟨m,rfl⟩ : ∃ m:Nat,n=m:=⟨n.toNat,by omega⟩;rw [Int.toNat_natCast];refine k_E3 52 func38 ?_;refine r13_ ?_;refine ca_ rfl (zby _ d.ext s _ hE Z.ex.asc (Nat.le_trans U.1 (by decide))) ?_;rintro _ V ⟨rfl,I⟩;rw [I,ao];clear I V;refine r7_ ?_;refine kw_ [0,1,2,6,7,8] ?_;refine r5_ ?_;refine vk (zab rfl) za3 rfl rfl ?_;intro aa Q;have C:=Q
  repeat ((with_reducible replace C:=zaa C);obtain ⟨C,_⟩:=C)
  have:=C.ne Y;have:=C.ne' Y
  refine ca_ rfl (zba _ [s] _ (zcE own_)) ?_;rintro _ V ⟨⟨t,rfl,ht⟩,I⟩;rw [I];clear I V;obtain rfl:t=true:=ht.2 (zcF.2 q1);refine r8_ ?_;refine cF_ ?_;refine r6_ ?_;refine cF_ ?_;refine r4_ ?_;refine cp_ rfl (zk7 p d _ (aj.less zae) Z) ?_;refine r4_ ?_;refine cF_ ?_;refine AWP.less M zae ?_;refine r4_ ?_;refine dr_ [i0_,i1_,i2_,i3_,i4_,i5_,i6_,i7_,i8_,i9_,o10_,i11_,o12_,o13_,i14_,i15_,i16_,o17_] [13,17] ?_;refine r9_ ?_;refine dP (hc:=λ_=>Calm.as (v:=.int .i64 ((m:Int)*64)) (v':=.int .i64 ((64*m:Nat):Int)) (congrArg (Value.int .i64) vd) (vh rfl rfl (zhB (IntWalk.i64_in _ vd)))) (h:=?_);refine zac rfl ?_;refine cp_ rfl (ziG (64*m) _ vd vd) ?_;refine zad ⟨ny_,?_⟩;refine s1_ ?_;refine zac rfl ?_;refine vX (zab rfl) zbz rfl (by decide) (by decide) rfl rfl ?_;intro ay an;have X:=an
  repeat ((with_reducible replace X:=zaa X);obtain ⟨X,_⟩:=X)
  have:=X.ne Y;have:=X.ne' Y
  have ae:=ztd (baseE S p d oW (devB d oE oW)) oE d.ext (pos d.ext s) (s,zeros m) ay aw (by rw [ah];exact an) (znB _ _) U.1;rw [ah] at ae;refine zad ⟨ny_,?_⟩;refine zac rfl ?_;refine ca_ rfl (ae) ?_;rintro _ V ⟨o',ai,rfl,I⟩;rw [I];clear I V;have af:=zj1 ac ai;have ak:(outN 2 (baseE S p d oW (devB d oE oW)) o' extT ((insAt d.ext (pos d.ext s) (s,zeros m)).flatMap extF)).own p=some (devB d oE oW):=zdr (vf _ _ _) (λq c e=>(af.e q c e).2);have ax:=znO (d':={ d with ext:=insAt d.ext (pos d.ext s) (s,zeros m) }) ac ai rfl;have am:=znN (znB d.ext s) (s,zeros m);unfold devB at ak;refine zad ⟨nz_,?_⟩;refine r3_ ?_;refine zac rfl ?_;refine vm rfl rfl ze1 (zdO _ _) ak (show 1<5 from by decide) (zfA _ _) ?_;refine nm_ ?_;refine zad ⟨nz_,?_⟩;refine r8_ ?_;refine ⟨_,devM S p _ o' oW,⟨_,_,rfl,rfl,rfl⟩,(by rw [<- ax];unfold devB;rw [am];exact Mem.Less.refl _),?_⟩;exact ⟨o',oW,zgY af (zsq al ai am rfl),rfl,rfl⟩
 rw [if_pos (.inl q1)];refine k_E3 52 func38 ?_;refine r13_ ?_;refine cp_ rfl (zby _ d.ext s _ hE Z.ex.asc (Nat.le_trans U.1 (by decide))) ?_;refine r7_ ?_;refine kw_ [0,1,2,6,7,8] ?_;refine r5_ ?_;refine vk (zab rfl) za3 rfl rfl ?_;intro aa Q;have C:=Q
 repeat ((with_reducible replace C:=zaa C);obtain ⟨C,_⟩:=C)
 have:=C.ne Y;have:=C.ne' Y
 refine ca_ rfl (zba _ [s] _ (zcE own_)) ?_;rintro _ V ⟨⟨t,rfl,ht⟩,I⟩;rw [I];clear I V;obtain rfl:t=false:=Bool.eq_false_iff.2 (λe=>q1 (zcF.1 (ht.1 e)));refine r8_ ?_;refine cT_ ?_;refine r8_ ?_;refine ⟨_,M,⟨_,_,rfl,rfl,rfl⟩,zae,?_⟩;exact ⟨oE,oW,J,rfl,hM.symm⟩
noncomputable def opened (d:D) (f:D × Int):D × Int:=if (openD d).2=0 then f else openD d
theorem ziH {d:D} (C:Right d) (s:tt) (n:Int):(newD d s n).1.ext.length<=9223372036854775807/\(newD d s n).1.waits.length<=9223372036854775807:=by
 have I:=(za8 C).1;have Q:=C.wl;have J:=znN (znB d.ext s) (s,zeros n.toNat);unfold newD
 repeat' split
 all_goals (constructor <;> simp only <;> omega)
theorem znQ {A Y D:List tu} {k:Nat} (hk:A.length=k):(A ++ D) <+: spl (A ++ Y) k D:=by
 subst hk;unfold spl;rw [List.take_left];exact List.prefix_append _ _
theorem zk9 {C Z zs:List tu} {k:Nat} (hk:C.length=k) (h:C <+: Z):C <+: spl Z k zs:=by
 subst hk;obtain ⟨Y,rfl⟩:=h;unfold spl;rw [List.take_left,List.append_assoc];exact List.prefix_append _ _
theorem znR {A X D zs:List tu} {i k:Nat} (C:A.length=i*2) (hk:A.length+D.length=k):(A ++ D) <+: spl (spl (A ++ (X ++ D)) (0+i*2) D) k zs :=
 zk9 (by rw [List.length_append];exact hk) (znQ vd)
theorem zmt (l:List Ext) (i:Nat):(l.eraseIdx i).flatMap extF=(l.take i).flatMap extF ++ (l.drop (i+1)).flatMap extF:=by
 rw [List.eraseIdx_eq_take_drop_succ,List.flatMap_append]
theorem zc8 {α : Type} {l:List α} {i:Nat} (h:i<l.length):l.drop i=l[i] :: l.drop (i+1):=List.drop_eq_getElem_cons h
section
variable {P:tz} {N:Nat} {E:Env} {S:Mem} {dst:Option Nat} {ty:tx} {pos:String} {aft:Array Edge} {gd:Option (Nat × Bool)}
theorem Mv.Calm.sliceLoHi {T e:tx} {x lo:tw} {hi:Option tw} {Q:IntKind} {j:Int} {b o len cap n h:Nat} (l:Nat) (I:P.underlying T=some (.slice e)) (U:sizeT P e=some n) (V:ev E x=some (.slice (some ⟨b,o,none⟩) len cap)) (C:ev E lo=some (.int Q j)) (J:j=(l:Int)) (hh:bnd E hi len cap h) (X:l<=h) :
  ACalm P N ⟨dst,.slice T x (some lo) hi none,ty,pos,aft,gd⟩ E S (.slice (some ⟨b,if cap=l then o else o+l*n,none⟩) (h-l) (cap-l)):=by
 subst J;have:=vT (S:=S) (N:=N) (dst:=dst) (ty:=ty) (pos:=pos) (aft:=aft) (gd:=gd) I U V (zbb cap cap) (by simp) hh (zer 0 h C vd vd);rw [Int.toNat_natCast] at this;exact this
theorem Mv.Calm.sliceMid {T e:tx} {x lo hi:tw} {Y Q:IntKind} {j U:Int} {b o len cap n:Nat} (l h:Nat) (X:P.underlying T=some (.slice e)) (he:sizeT P e=some n) (hx:ev E x=some (.slice (some ⟨b,o,none⟩) len cap)) (I:ev E lo=some (.int Y j)) (V:j=(l:Int)) (C:ev E hi=some (.int Q U)) (J:U=(h:Int)) (Z:l<=h) (h2:h<=cap) (h3:l<cap) :
  ACalm P N ⟨dst,.slice T x (some lo) (some hi) none,ty,pos,aft,gd⟩ E S (.slice (some ⟨b,o+l*n,none⟩) (h-l) (cap-l)):=by
 subst J;have:=Calm.sliceLoHi (S:=S) (N:=N) (dst:=dst) (ty:=ty) (pos:=pos) (aft:=aft) (gd:=gd) l X he hx I V (zer len cap C vd vd) (by rw [Int.toNat_natCast];exact Z);rw [Int.toNat_natCast,if_neg vd] at this;exact this
end
theorem zte (B:Mem) (o:Option (Nat × Nat)) (l:List Ext) (i:Nat) (Y:OkO B o l.length) (hi:i<l.length) (Z:l.length<=16384) :
  ACall prog 160 #[outV o l.length,.int .i64 (i:Int),.int .i64 ((i:Int)+1)] (outN 2 B o extT (l.flatMap extF)) λr S'=>OkO B o (l.length-1)/\r=outV o (l.length-1)/\S'=outN 2 B o extT ((l.eraseIdx i).flatMap extF):=by
 obtain ⟨⟨b,c⟩,rfl⟩ : ∃ q,o=some q:=by
  cases o with
  | none=>have:=Y.nil rfl;omega
  | some q=>exact ⟨q,rfl⟩
 have hc:=(Y.own b c rfl).2;have V:=(Y.own b c rfl).1;have I:=zao zaZ l;have X:=zao zaZ (l.take i);have Q:=zao zaZ (l.drop (i+1));rw [List.length_take,Nat.min_eq_left vd] at X;rw [List.length_drop] at Q;have C:l.flatMap extF=(l.take i).flatMap extF ++ (extF l[i] ++ (l.drop (i+1)).flatMap extF):=by
  rw [zf6 (n:=2) (f:=extF) l i,zc8 hi,List.flatMap_cons]
 rw [zmt];dsimp only [outN,outV];refine k_E3 33 func160 ?_;refine r23_ ?_;refine cF_ ?_;refine r10_ ?_;refine dr_ [i0_,i1_,i2_,i3_,i4_,i5_,o6_,i7_] [6] ?_;refine r2_ ?_;refine dP (hc:=λ_=>vK i underlying23 zav rfl rfl rfl vd) (h:=?_);refine r2_ ?_;refine dP (hc:=λ_=>Calm.sliceLoHi (i+1) underlying23 zav rfl rfl vd (zbb _ _) vd) (h:=?_);refine zac rfl ?_;refine uu (n:=2) (k:=i) (m:=l.length-(i+1)) (news:=(l.drop (i+1)).flatMap extF) (zab rfl) zbz rfl (vf _ _ _) (by simp only [I];omega) rfl ?_ Q (zf5 _) vd (.inl (by simp only [I,Q];omega)) ?_
 ·by_cases J:i+1=l.length
  ·rw [show (l.drop (i+1)).flatMap extF = [] from List.eq_nil_of_length_eq_zero (by rw [Q,J];simp)];exact λw _ j v h=>by simp at h
  rw [if_neg vd];exact vq (vf _ _ _) _ _ (λj v hj=>by simp only;rw [C,List.getElem?_append_right vd,List.getElem?_append_right (by rw [zaZ];omega),<- hj];congr 1;rw [zaZ];omega)
 have U:(spl (l.flatMap extF) (0+i*2) ((l.drop (i+1)).flatMap extF)).length=l.length*2:=by rw [zeU _ _ _ (by rw [I,Q];omega),I]
 refine zad ⟨nz_,?_⟩;refine r9_ ?_;refine rC (Calm.sliceMid (l.length-1) l.length underlying23 zav rfl rfl vd rfl rfl vd vd vd) ?_;refine ui (k:=l.length-(l.length-1)) zbz rfl (by simp only [List.mem_cons,List.not_mem_nil,or_false];rintro v (rfl | rfl) <;> rfl) rfl (vf _ _ _) (by simp only [U];omega) (.inl (by simp only [U];omega)) ?_;intro zs ac;refine r2_ ?_;refine kw_ [0,1,2,6,16,7] ?_;rw [Mem.set_set,Mem.set_set];refine AWP.cut (cs':=(l.take i).flatMap extF ++ (l.drop (i+1)).flatMap extF) (m':=c*2) (by rw [C];exact znR X (by rw [X,Q];omega)) (Nat.le_refl _) ?_;refine r7_ ?_;refine ⟨_,_,⟨_,_,rfl,rfl,rfl⟩,Mem.Less.refl _,?_⟩;exact ⟨zcA V vd,congrArg (λn=>Value.slice (some ⟨b,0,none⟩) n c) vd,rfl⟩
end
section
open Go.RowKit
open Mv Disk
def isN (s:tt) (w:Wr):Bool:=decide (w.1=s)
def filt (s:tt) (l:List Wr):List Wr:=l.filter λw=>!isN s w
theorem zft (w:Wr) (s:tt) (nb:Nat) (S:Mem) (hk:S.Knows ⟨nb,0,none⟩ [.string s]) :
  ACall prog 205 #[.agg #[.string w.1,.int .i64 w.2.1,.string w.2.2],.pointer (some ⟨nb,0,none⟩)] S λr S'=>r = .bool (isN s w)/\S'=S:=by
 refine k_E2 8 func205 ?_;refine r2_ ?_;refine vA (cs:=[_,_,_]) (zab rfl) rfl ?_;intro J I;have C:=I
 repeat ((with_reducible replace C:=zaa C);obtain ⟨C,_⟩:=C)
 refine nl_ ?_;refine r13_ ?_;refine ⟨_,S,⟨_,_,rfl,rfl,rfl⟩,zae,?_⟩;exact ⟨rfl,rfl⟩
theorem zj3 (v:tu) (l:List Wr) (s:tt) (nb:Nat) (S:Mem) (hl:Sl 3 wrF S v l) (hk:S.Knows ⟨nb,0,none⟩ [.string s]) :
  ACall prog 241 #[v,.func (.func 205) #[] #[.pointer (some ⟨nb,0,none⟩)]] S λr S'=>((r = .int .i64 (-1) /\ ∀ w ∈ l,isN s w=false) \/ ∃ i,∃ h:i<l.length,r = .int .i64 (i:Nat)/\isN s l[i]=true /\ ∀ w ∈ l.take i,isN s w=false)/\S'=S:=by
 obtain ⟨a,cap,rfl,I,Y,U⟩:=id hl;refine k_E2 19 func241 ?_;refine r14_ ?_;refine AWP.loop (X:=Nat) (λx=>[(0,.slice a l.length cap),(1,.func (.func 205) #[] #[.pointer (some ⟨nb,0,none⟩)]),(7,.int .i64 l.length),(8,.int .i64 x)]) (λx=>S) (λx=>x<=l.length /\ ∀ w ∈ l.take x,isN s w=false) (λx=>l.length-x) (0) ⟨rfl,rfl,rfl,rfl,trivial⟩ (Mem.Less.refl _) (⟨Nat.zero_le _,λw h=>by simp at h⟩) ?_;rintro i ⟨hi,C⟩;(try dsimp only at *);refine r6_ ?_;refine vu rfl (λhc=>?_) (λhc=>?_)
 ·have hc:i<l.length:=by have:=of_decide_eq_true hc;omega
  obtain ⟨b,off,rfl,J⟩:=U.resolve_left (λe=>by subst e;simp at hc);have Q:=J i hc;unfold wrF at Q;refine r17_ ?_;refine vn (zab rfl) zsm rfl rfl (zft l[i] s nb _ hk) ?_;rintro _ V ⟨rfl,I⟩;rw [I];clear I V;refine r2_ ?_;refine vu rfl (λhb=>?_) (λhb=>?_)
  ·refine r6_ ?_;refine r6_ ?_;refine ⟨_,S,⟨_,_,rfl,rfl,rfl⟩,zae,?_⟩;exact ⟨.inr ⟨i,hc,rfl,hb,C⟩,rfl⟩
  refine r8_ ?_;refine ⟨i+1,?_,?_,?_,?_⟩<;>try dsimp only
  ·exact ⟨rfl,rfl,rfl,rfl,trivial⟩
  ·exact zae
  ·exact ⟨hc,λw hw=>by rw [zb3 hc,List.mem_append] at hw;rcases hw with hw | hw;exact C w hw;rw [List.mem_singleton.1 hw];exact hb⟩
  omega
 have hc:i=l.length:=by have:=of_decide_eq_false hc;omega
 subst hc;rw [List.take_length] at C;refine r11_ ?_;refine ⟨_,S,⟨_,_,rfl,rfl,rfl⟩,zae,?_⟩;exact ⟨.inl ⟨rfl,C⟩,rfl⟩
theorem zhF {s:tt} {l:List Wr} (h:∀ w ∈ l,isN s w=false):filt s l=l:=by
 unfold filt;rw [List.filter_eq_self];intro w C;rw [h w C];rfl
theorem ziI (s:tt) (l:List Wr) (w:Wr):filt s (l ++ [w])=if isN s w=true then filt s l else filt s l ++ [w]:=by
 unfold filt;rw [List.filter_append];cases h:isN s w <;> simp [h]
theorem ztf (s:tt) (l:List Wr):(filt s l).length<=l.length:=List.length_filter_le _ _
theorem ziJ {F G R W:List tu} {k:Nat} (hk:F.length=k) (I:3<=G.length) (C:W.length=3):spl (F ++ (G ++ R)) k W=(F ++ W) ++ (G.drop 3 ++ R):=by
 have e:F ++ (G ++ R)=F ++ (G.take 3 ++ (G.drop 3 ++ R)):=by rw [<- List.append_assoc (G.take 3),List.take_append_drop]
 rw [e,zj0 hk (by simp [C];omega),List.append_assoc]
theorem znS {l:List Wr} {j:Nat} (h:j<l.length):(l.drop j).flatMap wrF=wrF l[j] ++ (l.drop (j+1)).flatMap wrF:=by rw [zc8 h,List.flatMap_cons]
theorem zqh (B:Mem) (o:Option (Nat × Nat)) (l:List Wr) (s:tt) (nb:Nat) (ho:OkO B o l.length) (ad:l.length<=16384) (hk:B.Knows ⟨nb,0,none⟩ [.string s]) :
  ACall prog 204 #[outV o l.length,.func (.func 205) #[] #[.pointer (some ⟨nb,0,none⟩)]] (outN 3 B o wrT (l.flatMap wrF)) λr S'=>OkO B o (filt s l).length/\r=outV o (filt s l).length/\S'=outN 3 B o wrT ((filt s l).flatMap wrF):=by
 have ax:=zao zcJ l;have aj:=zdm zcJ (e:=wrT) ho rfl (Nat.le_trans ad (by decide));have U:=zj3 _ l s nb _ aj (hk.less (za6 ho));by_cases Q:∀ w ∈ l,isN s w=false
 ·rw [zhF Q];obtain ⟨a,c,au⟩:=zbk ho;rw [au] at U ⊢;generalize hM:outN 3 B o wrT (l.flatMap wrF)=M at *;refine k_E2 42 func204 ?_;refine r9_ ?_;refine ca_ rfl (U) ?_;rintro _ S1 ⟨hr,Y⟩;rw [Y];clear Y S1;obtain ⟨rfl,_⟩:=hr.resolve_right (λ⟨i,h,_,hi,_⟩=>by rw [Q _ (List.getElem_mem h)] at hi;cases hi);refine r10_ ?_;refine cT_ ?_;refine r8_ ?_;refine ⟨_,M,⟨_,_,rfl,rfl,rfl⟩,zae,?_⟩;exact ⟨ho,rfl,rfl⟩
 obtain ⟨⟨b,c⟩,rfl⟩ : ∃ q,o=some q:=by
  cases o with
  | none=>exact absurd (λw hw=>by rw [List.eq_nil_of_length_eq_zero (ho.nil rfl)] at hw;cases hw) Q
  | some q=>exact ⟨q,rfl⟩
 have hc:=(ho.own b c rfl).2;have am:=(ho.own b c rfl).1;dsimp only [outN,outV] at U ⊢;refine k_E2 42 func204 ?_;refine r9_ ?_;refine ca_ rfl (U) ?_;rintro _ S1 ⟨hr,Y⟩;rw [Y];clear Y S1;obtain ⟨i0,Z,rfl,ao,aq⟩:=hr.resolve_left (λh=>Q h.2);have V:filt s (l.take (i0+1))=l.take i0:=by rw [zb3 Z,ziI,if_pos ao,zhF aq]
 refine r10_ ?_;refine kw_ [0,1,4,5,12] ?_;refine cF_ ?_;refine r11_ ?_;refine AWP.loop (X:=Nat × List tu) (λx=>[(0,.slice (some ⟨b,0,none⟩) l.length c),(1,.func (.func 205) #[] #[.pointer (some ⟨nb,0,none⟩)]),(5,.int .i64 ((filt s (l.take x.1)).length:Nat)),(6,.int .i64 x.1)]) (λx=>B.set b ⟨wrT,(filt s (l.take x.1)).flatMap wrF ++ (x.2 ++ (l.drop x.1).flatMap wrF),c*3⟩) (λx=>x.1<=l.length/\(filt s (l.take x.1)).length<x.1/\((filt s (l.take x.1)).length*3+x.2.length=x.1*3)) (λx=>l.length-x.1) ((i0+1,wrF l[i0])) ⟨rfl,rfl,zah (by simp only [V,List.length_take];omega),zah (by simp),trivial⟩ (by simp only [V];rw [<- znS Z,<- zf6 (n:=3)];exact Mem.Less.refl _) (⟨Z,by simp only [V,List.length_take];omega,by simp only [V,List.length_take,zcJ];omega⟩) ?_;rintro ⟨j,G⟩ ⟨hj,ak,hG⟩;(try dsimp only at *);obtain ⟨k,I⟩ : ∃ k,(filt s (l.take j)).length=k:=⟨_,rfl⟩;have hF:=zao zcJ (filt s (l.take j));rw [I] at hF ak hG;refine r9_ ?_;refine vu rfl (λhc=>?_) (λhc=>?_)
 ·have hc:j<l.length:=by have:=of_decide_eq_true hc;omega
  have hR:=znS hc;have ae:=zao zcJ (l.drop j);rw [List.length_drop] at ae;have C:=ziI s (l.take j) l[j];rw [<- zb3 hc] at C;have av:(B.set b ⟨wrT,(filt s (l.take j)).flatMap wrF ++ (G ++ (l.drop j).flatMap wrF),c*3⟩).Knows ⟨b,0+j*3,none⟩ (wrF l[j]):=vq (vf _ _ _) _ _ (λq v hq=>by simp only;rw [List.getElem?_append_right vd,List.getElem?_append_right vd,hR,List.getElem?_append_left (by have:=(List.getElem?_eq_some_iff.1 hq).1;omega),<- hq];congr 1;omega);generalize hw:l[j]=w at *;unfold wrF at av;refine r10_ ?_;refine ARun.alloc (zab rfl) zbG ?_;intro b7 f7;have g7:=f7
  repeat ((with_reducible replace g7:=zaa g7);obtain ⟨g7,_⟩:=g7)
  refine nl_ ?_;refine r7_ ?_;refine vn (zab rfl) zsm rfl rfl (zft w s nb _ (hk.less zae)) ?_;rintro _ S1 ⟨rfl,Y⟩;rw [Y];clear Y S1;refine r3_ ?_;by_cases hb:isN s w=true
  ·rw [hb];rw [if_pos hb] at C;refine cF_ ?_;have J:(filt s (l.take (j+1))).flatMap wrF ++ ((G ++ wrF w) ++ (l.drop (j+1)).flatMap wrF)=(filt s (l.take j)).flatMap wrF ++ (G ++ (l.drop j).flatMap wrF):=(by rw [C,hR,List.append_assoc]);refine r9_ ?_;refine ⟨(j+1,G ++ wrF w),?_,?_,?_,?_⟩<;>try dsimp only
   ·exact ⟨rfl,rfl,zah (by rw [C]),rfl,trivial⟩
   ·simp only [J];exact zae
   ·exact ⟨hc,by simp only [C];omega,by simp only [C,List.length_append,zcJ];omega⟩
   omega
  rw [Bool.eq_false_iff.2 hb];rw [if_neg hb] at C;refine cT_ ?_;rw [I];refine r6_ ?_;refine ARun.store rfl rfl zbX own_ (by show 0+k*3+3<=(_ ++ (_ ++ _):List tu).length;simp only [List.length_append,hF,ae];omega) (by simp [Value.cells,Value.oneCell']) ?_;refine nm_ ?_;refine r2_ ?_;refine kw_ [0,1,5,6,19,7,29] ?_;have J:(filt s (l.take (j+1))).flatMap wrF ++ ((G.drop 3 ++ wrF w) ++ (l.drop (j+1)).flatMap wrF)=spl ((filt s (l.take j)).flatMap wrF ++ (G ++ (l.drop j).flatMap wrF)) ((k:Int).toNat*3) (Value.agg #[.string w.1,.int .i64 w.2.1,.string w.2.2]).cells.toList:=by show _=spl _ _ (wrF w);rw [ziJ vd vd rfl,C,hR,List.flatMap_append,List.append_assoc (G.drop 3)];simp
  refine r13_ ?_;refine ⟨(j+1,G.drop 3 ++ wrF w),?_,?_,?_,?_⟩<;>try dsimp only
  ·exact ⟨rfl,rfl,zah (by rw [C,List.length_append,I];simp),rfl,trivial⟩
  ·simp only [J];exact zae
  ·exact ⟨hc,by simp only [C,List.length_append,I];simp;omega,by simp only [C,List.length_append,List.length_drop,zcJ,I];simp;omega⟩
  omega
 have hc:j=l.length:=by have:=of_decide_eq_false hc;omega
 subst hc;rw [List.take_length] at I hF;rw [List.take_length,List.drop_length,List.flatMap_nil,List.append_nil,I];have ac:((filt s l).flatMap wrF ++ G).length=l.length*3:=by rw [List.length_append,hF];omega
 refine r9_ ?_;refine rC (vE k underlying24 zbX rfl rfl rfl vd vd) ?_;refine ui (k:=l.length-k) zev rfl (by simp only [List.mem_cons,List.not_mem_nil,or_false];rintro v (rfl | rfl | rfl) <;> rfl) rfl (vf _ _ _) (by simp only [ac];omega) (.inl (by simp only [ac];omega)) ?_;intro zs ay;refine r6_ ?_;refine rC (vK k underlying24 zbX rfl rfl rfl vd) ?_;refine r3_ ?_;rw [Mem.set_set];refine AWP.cut (cs':=(filt s l).flatMap wrF) (m':=c*3) (zk9 vd (List.prefix_append _ _)) (Nat.le_refl _) ?_;refine s1_ ?_;refine ⟨_,_,⟨_,_,rfl,rfl,rfl⟩,Mem.Less.refl _,?_⟩;exact ⟨zcA am vd,by rfl,rfl⟩
def forgetD (d:D) (s:tt):D:={ d with waits:=filt s d.waits }
theorem zmu (p:Nat) (d:D) (s:tt) (S:Mem) (oE oW:Option (Nat × Nat)) (Z:OkV S p d oE oW) (aa:d.waits.length<=16384) :
  ACall prog 161 #[.pointer (some ⟨p,0,none⟩),.string s] (devM S p d oE oW) λr S'=>r = .tuple #[]/\OkV S p (forgetD d s) oE oW/\S'=devM S p (forgetD d s) oE oW:=by
 have hp:(devM S p d oE oW).own p=some (devB d oE oW):=vf _ _ _;have C:=Z.apart;have X:=Z.fits;have I:=zsr C (devB d oE oW) (d:=d);have ac:=ziF C X (devB d oE oW);rw [<- zcG] at I;generalize hM:devM S p d oE oW=M at *;unfold devB at hp;refine k_E2 15 func161 ?_;refine r2_ ?_;refine vo (zab rfl) rfl rfl ?_;intro Y f3;have U:=f3
 repeat ((with_reducible replace U:=zaa U);obtain ⟨U,_⟩:=U)
 have:=U.ne hp;have:=U.ne' hp
 refine nl_ ?_;refine r2_ ?_;have nb:∀ q c,oW=some (q,c)->q≠Y:=λq c e h=>by subst h;have:=f3.1;rw [<- I,e] at this;rw [show (outN 3 _ (some (q,c)) _ _).own q=_ from vf _ _ _] at this;cases this
 have J:=zqh ((baseW S p d oE (devB d oE oW)).set Y ⟨9,[.string s],1⟩) oW d.waits s Y (ac.set (λq c e=>Ne.symm (nb q c e))) aa ((zkT (zbP (vf _ _ _) rfl) (znf _ _)).knows);rw [zbA nb,I] at J;refine r8_ ?_;refine ca_ rfl (J) ?_;rintro _ S1 ⟨ah,rfl,h1⟩;rw [h1,zbA nb];clear h1 S1;have Q:OkO (baseW S p d oE (devB d oE oW)) oW (filt s d.waits).length:=ah.unset;have V:((outN 3 (baseW S p d oE (devB d oE oW)) oW wrT ((filt s d.waits).flatMap wrF)).set Y ⟨9,[.string s],1⟩).own p=some (devB d oE oW):=(vg _ _ (by assumption)).trans (zdr (vf _ _ _) (λq c e=>(C.w q c e).2));have ad:=znP (d':=forgetD d s) C Q rfl;unfold devB at V;refine r3_ ?_;refine vm rfl rfl zdJ (zdO _ _) V (show 2<5 from by decide) (zfA _ _) ?_;refine nm_ ?_;refine s1_ ?_;have af:Fresh (baseW S p d oE (devB d oE oW)) Y:=(zaF (n:=3) (o:=oW) (e:=wrT) (cs:=d.waits.flatMap wrF) (by rw [I];exact f3)).1;refine ⟨_,devM S p (forgetD d s) oE oW,rfl,(by rw [<- ad];exact Less.set (vi _ _ _ (zbq af nb).1) _ _),?_⟩;exact ⟨rfl,zgY (zhE C Q) (zss X Q rfl rfl),rfl⟩
def eraseD (d:D) (s:tt):D:={ d with ext:=d.ext.eraseIdx (pos d.ext s) }
theorem ziK {d:D} (s:tt) (h:pos d.ext s<d.ext.length):(eraseD d s).ext.length=d.ext.length-1:=by
 unfold eraseD;rw [List.length_eraseIdx_of_lt h]
theorem znT {S:Mem} {p:Nat} {d:D} {oE oW:Option (Nat × Nat)} {s:tt} (C:Apart S p oE oW) (J:Fits d oE oW) (h:pos d.ext s<d.ext.length) (I:OkO (baseE S p d oW (devB d oE oW)) oE (d.ext.length-1)) :
  OkV S p (eraseD d s) oE oW/\(outN 2 (baseE S p d oW (devB d oE oW)) oE extT ((d.ext.eraseIdx (pos d.ext s)).flatMap extF)).set p (devB (eraseD d s) oE oW)=devM S p (eraseD d s) oE oW/\(outN 2 (baseE S p d oW (devB d oE oW)) oE extT ((d.ext.eraseIdx (pos d.ext s)).flatMap extF)).own p=some (devB d oE oW) :=
 ⟨zgY (zj1 C I) (zsq J I (ziK s h) rfl),znO (d':=eraseD d s) C I rfl,zdr (vf _ _ _) (λq c e=>(C.e q c e).2)⟩
def freeD (d:D) (s:tt):D × Int:=if has d.ext s=true then (forgetD (eraseD d s) s,0) else (d,3)
theorem zqi (p:Nat) (d:D) (s:tt) (S:Mem) (oE oW:Option (Nat × Nat)) (C:OkV S p d oE oW) (hR:Right d) :
  ACall prog 110 #[.pointer (some ⟨p,0,none⟩),.string s] (devM S p d oE oW) (DevR S p (freeD d s)):=by
 have J:=za8 hR;have hp:(devM S p d oE oW).own p=some (devB d oE oW):=vf _ _ _;have hE:Sl 2 extF (devM S p d oE oW) (outV oE d.ext.length) d.ext:=((zdm zaZ (e:=extT) C.dk.e rfl (Nat.le_trans J.1 (by decide))).less (za6 C.dk.w)).less (vi _ _ _ C.fr.1);have U:=C.apart;have ad:=C.fits;have ae:=ziD U (devB d oE oW) (d:=d);have ag:=ziE U ad (devB d oE oW);rw [<- zcG] at ae;have aj:=zeZ hR.ex.asc s;have ai:=hR.wl;unfold freeD;by_cases q:has d.ext s=true
 ·obtain ⟨V,he⟩:=aj.1 q;rw [if_pos q];have Q:=zte _ oE d.ext (pos d.ext s) ag V J.1;rw [ae] at Q;have al:=ziK s V;have Y:=λam ah h=>zmu p (eraseD d s) s S am ah h ai;generalize hM:devM S p d oE oW=M at *;unfold devB at hp;refine k_E2 35 func110 ?_;refine r13_ ?_;refine ca_ rfl (zby _ d.ext s _ hE hR.ex.asc (Nat.le_trans J.1 (by decide))) ?_;rintro _ X ⟨rfl,I⟩;rw [I,q];clear I X;refine r14_ ?_;refine cF_ ?_;refine r13_ ?_;refine ca_ rfl (Q) ?_;rintro _ X ⟨an,rfl,I⟩;rw [I];clear I X;obtain ⟨af,ak,ac⟩:=znT U ad V an;unfold devB at ac;refine r3_ ?_;refine vm rfl rfl ze1 (zdO _ _) ac (show 1<5 from by decide) (zfA _ _) ?_;refine nm_ ?_;refine r2_ ?_;rw [<- al];refine AWP.less (devM S p (eraseD d s) oE oW) (by rw [<- ak];exact Mem.Less.refl _) ?_;refine r4_ ?_;refine ca_ rfl (Y oE oW af) ?_;rintro _ X ⟨rfl,Z,I⟩;rw [I];clear I X;refine r8_ ?_;refine ⟨_,_,⟨_,_,rfl,rfl,rfl⟩,Mem.Less.refl _,?_⟩;exact ⟨oE,oW,Z,rfl,rfl⟩
 rw [if_neg q];generalize hM:devM S p d oE oW=M at *;unfold devB at hp;refine k_E2 35 func110 ?_;refine r13_ ?_;refine ca_ rfl (zby _ d.ext s _ hE hR.ex.asc (Nat.le_trans J.1 (by decide))) ?_;rintro _ X ⟨rfl,I⟩;rw [I,Bool.eq_false_iff.2 q];clear I X;refine r7_ ?_;refine kw_ [0,1,4,5,6] ?_;refine r7_ ?_;refine cT_ ?_;refine r7_ ?_;refine ⟨_,M,⟨_,_,rfl,rfl,rfl⟩,zae,?_⟩;exact ⟨oE,oW,C,rfl,hM.symm⟩
theorem znU {l:List Ext} {s:tt} {x:Ext} (C:pos l s<l.length) (J:l[pos l s].1=s) (hx:x ∈ l) (I:x.1≠s):x ∈ l.eraseIdx (pos l s):=by
 rw [List.eraseIdx_eq_take_drop_succ,List.mem_append];rw [<- List.take_append_drop (pos l s) l,List.mem_append] at hx;rcases hx with hx | hx
 ·exact .inl hx
 rw [zc8 C] at hx;rcases List.mem_cons.1 hx with rfl | hx
 ·exact absurd J I
 exact .inr hx
theorem zmv {l:List Ext} {i:Nat} (h:i<l.length):used (l.eraseIdx i)+sec l[i]=used l:=by
 have e:used l=used (l.take i ++ l.drop i):=by rw [List.take_append_drop]
 rw [e,List.eraseIdx_eq_take_drop_succ,zc8 h,zaU,zaU];simp only [used];omega
theorem zj4 {l:List Ext} {size:Int} {i:Nat} (h:ERight l size) (hi:i<l.length):ERight (l.eraseIdx i) size :=
 ⟨λx C=>h.ok x (List.mem_of_mem_eraseIdx C),h.asc.sublist (List.eraseIdx_sublist l i),by have:=zmv hi;have:=h.us;omega⟩
theorem zst {s:tt} {w:Wr}:isN s w=false <-> w.1≠s:=by unfold isN;simp
theorem zmw {d:D} {s:tt} (h:Right d) (hh:has d.ext s=true):Right (forgetD (eraseD d s) s):=by
 obtain ⟨C,U⟩:=(zeZ h.ex.asc s).1 hh;refine ⟨h.s0,h.s1,Nat.le_trans (ztf _ _) h.wl,h.fu,zj4 h.ex C,λw X=>?_⟩;obtain ⟨Q,J⟩:=List.mem_filter.1 X;have I:w.1≠s:=zst.1 (by simpa using J);obtain ⟨x,Y,e,V⟩:=h.wr w Q;exact ⟨x,znU C U Y (by rw [e];exact I),e,V⟩
def freesD (d0:D):D->List tt->D × Int
  | d,[]=>(d,0)
  | d,s :: l=>if (freeD d s).2=0 then freesD d0 (freeD d s).1 l else (d0,(freeD d s).2)
theorem zaB {d:D} (h:Right d):d.ext.length<=9223372036854775807/\d.waits.length<=9223372036854775807:=⟨Nat.le_trans (za8 h).1 (by decide),Nat.le_trans h.wl (by decide)⟩
def addW (d:D) (w:Wr):D:={ d with waits:=d.waits ++ [w] }
def fuseD (d:D):D × Int:=if d.fuse=0 then ({ d with down:=true },10) else if 0<d.fuse then ({ d with fuse:=d.fuse-1 },0) else (d,0)
def writeD (d:D) (s:tt) (i:Int) (data:tt):D × Int:=if (placeD d s i).2≠0 then (d,(placeD d s i).2) else if data.size≠64 then (d,2) else if d.waits.length=16384 then (d,8) else fuseD (addW d (s,i,data))
theorem zqj (d:D) (w:Wr):(addW d w).waits.flatMap wrF=d.waits.flatMap wrF ++ wrF w:=by unfold addW;simp
theorem zf8 (d:D) (w:Wr):(addW d w).waits.length=d.waits.length+1:=by unfold addW;simp
theorem zex (p:Nat) (d:D) (s:tt) (i:Int) (data:tt) (S:Mem) (oE oW:Option (Nat × Nat)) (C:OkV S p d oE oW) (hR:Right d) (aD:d.fuse<=9223372036854775807) :
  ACall prog 40 #[.pointer (some ⟨p,0,none⟩),.string s,.int .i64 i,.string data] (devM S p d oE oW) (DevR S p (writeD d s i data)):=by
 have J:=zaB hR;have aA:=hR.wl;have aE:=hR.fu;have V:=ziB p d s i _ (C.rd J.1 J.2) hR;have hp:(devM S p d oE oW).own p=some (devB d oE oW):=vf _ _ _;have Q:=C.apart;have ai:=C.fits;have aj:=zsr Q (devB d oE oW) (d:=d);have ae:=ziF Q ai (devB d oE oW);rw [<- zcG] at aj;have ad:=zao zcJ d.waits;have Z:=zb6 (e:=wrT) ae ad;rw [aj] at Z;have ay:=zcG S p d oE oW;have au:∀ aa,(devM S p (addW d (s,i,data)) oE aa).own p=some (devB (addW d (s,i,data)) oE aa):=λaa=>vf _ _ _;obtain ⟨qw,dw,ak⟩:=zbk C.dk.w;generalize hM:devM S p d oE oW=M at *;unfold devB at hp;unfold writeD;by_cases q1:(placeD d s i).2=0
 ·rw [if_neg (λh=>h q1)];rw [q1] at V;by_cases q2:data.size=64
  ·rw [if_neg (λh=>h q2)];by_cases q3:d.waits.length=16384
   ·rw [if_pos q3];rw [ak] at hp;refine k_E4 75 func40 ?_;refine r11_ ?_;refine cp_ rfl (V) ?_;refine r13_ ?_;refine cF_ ?_;refine r12_ ?_;refine cF_ ?_;refine r12_ ?_;refine cT_ ?_;refine r8_ ?_;refine ⟨_,M,⟨_,_,rfl,rfl,rfl⟩,zae,?_⟩;exact ⟨oE,oW,C,rfl,hM.symm⟩
   rw [if_neg q3];refine k_E4 75 func40 ?_;refine r11_ ?_;refine cp_ rfl (V) ?_;refine r7_ ?_;refine kw_ [0,1,2,3,8,10] ?_;refine r6_ ?_;refine cF_ ?_;refine r12_ ?_;refine cF_ ?_;refine r7_ ?_;refine rC ((by rw [ak];exact vV underlying24 rfl)) ?_;refine r4_ ?_;refine cF_ ?_;refine r15_ ?_;refine vX (zab rfl) zev rfl (by decide) (by decide) rfl rfl ?_;intro aC ag;have I:=ag
   repeat ((with_reducible replace I:=zaa I);obtain ⟨I,_⟩:=I)
   have:=I.ne hp;have:=I.ne' hp
   refine vH (n:=3) (o:=oW) (k:=d.waits.length) (m:=1) (cs:=d.waits.flatMap wrF) (zab rfl) zev rfl rfl ad ae (Z.temp ag) rfl (zeY (vf _ _ _) List.prefix_rfl) rfl (λv hv=>zsp [(s,i,data)] v (by rw [List.flatMap_cons,List.flatMap_nil,List.append_nil];exact hv)) vd vd ?_;intro o' Y;have ah:∀ cs,(outN 3 (baseW S p d oE (devB d oE oW)) o' wrT cs).own p=some (devB d oE oW):=λcs=>zdr (vf _ _ _) (λq c e=>((zhE Q Y).w q c e).2);have af:=znP (d':=addW d (s,i,data)) Q Y rfl;rw [zqj] at af;unfold devB at ah;refine r3_ ?_;refine vm rfl rfl zdJ (zdO _ _) (ah _) (show 2<5 from by decide) (zfA _ _) ?_;refine nm_ ?_;refine r2_ ?_;refine AWP.less (devM S p (addW d (s,i,data)) oE o') (by rw [<- af];unfold devB;rw [zf8];exact Mem.Less.refl _) ?_;have X:=au o';have U:∀ d',d'.waits=(addW d (s,i,data)).waits->d'.ext=d.ext->OkV S p d' oE o':=λd' e1 e2=>zgY (zhE Q Y) (zss ai Y (by rw [e1,zf8]) e2);unfold devB at X;simp only [show (addW d (s,i,data)).size=d.size from rfl,show (addW d (s,i,data)).fuse=d.fuse from rfl,show (addW d (s,i,data)).down=d.down from rfl] at X;have ao:(addW d (s,i,data)).fuse=d.fuse:=rfl;generalize ac:devM S p (addW d (s,i,data)) oE o'=M2 at *;unfold fuseD;rw [ao];by_cases q4:d.fuse=0
   ·rw [if_pos q4];refine r13_ ?_;refine kw_ [0,1,2,3,8,10,19,21,25,48] ?_;refine cT_ ?_;refine r6_ ?_;refine vm rfl rfl zeu rfl X (show 4<5 from by decide) rfl ?_;refine nm_ ?_;refine r10_ ?_;refine ⟨_,devM S p { addW d (s,i,data) with down:=true } oE o',⟨_,_,rfl,rfl,rfl⟩,(by rw [<- ac];unfold devM;rw [Mem.set_set];exact Mem.Less.refl _),?_⟩;exact ⟨oE,o',U _ rfl rfl,rfl,rfl⟩
   rw [if_neg q4];by_cases q5:0<d.fuse
   ·rw [if_pos q5];refine r13_ ?_;refine cF_ ?_;refine r11_ ?_;refine cT_ ?_;refine r10_ ?_;refine vm rfl rfl zcn rfl X (show 3<5 from by decide) rfl ?_;refine nm_ ?_;refine r9_ ?_;refine ⟨_,devM S p { addW d (s,i,data) with fuse:=d.fuse-1 } oE o',⟨_,_,rfl,rfl,rfl⟩,(by rw [<- ac];unfold devM;rw [Mem.set_set];exact Mem.Less.refl _),?_⟩;exact ⟨oE,o',U _ rfl rfl,rfl,rfl⟩
   rw [if_neg q5];refine r13_ ?_;refine kw_ [0,1,2,3,8,10,19,21,25,48] ?_;refine cF_ ?_;refine r11_ ?_;refine cF_ ?_;refine r9_ ?_;refine ⟨_,devM S p (addW d (s,i,data)) oE o',⟨_,_,rfl,rfl,rfl⟩,(by rw [<- ac];exact Mem.Less.refl _),?_⟩;exact ⟨oE,o',U _ rfl rfl,rfl,rfl⟩
  rw [if_pos q2];refine k_E4 75 func40 ?_;refine r11_ ?_;refine cp_ rfl (V) ?_;refine r13_ ?_;refine cF_ ?_;refine r12_ ?_;refine cT_ ?_;refine r8_ ?_;refine ⟨_,M,⟨_,_,rfl,rfl,rfl⟩,zae,?_⟩;exact ⟨oE,oW,C,rfl,hM.symm⟩
 rw [if_pos q1];have aB:(placeD d s i).2=1\/(placeD d s i).2=3:=by
  unfold placeD at q1 ⊢;repeat' split
  all_goals simp_all
 refine k_E4 75 func40 ?_;refine r11_ ?_;refine cp_ rfl (V) ?_;refine r7_ ?_;refine kw_ [0,1,2,3,8,10] ?_;refine r6_ ?_;refine cT_ ?_;refine r8_ ?_;refine ⟨_,M,⟨_,_,rfl,rfl,rfl⟩,zae,?_⟩;exact ⟨oE,oW,C,rfl,hM.symm⟩
theorem zfB {α : Type} {n:Nat} {f : α->List tu} (C:∀ x,(f x).length=n) (l:List α) (k:Nat) (y : α) (h:k<l.length) (q:Nat) (v:tu) (J:q<n) (I:(f l[k]).set q v=f y):(l.flatMap f).set (k*n+q) v=(l.set k y).flatMap f:=by
 have e1:l=l.take k ++ l[k] :: l.drop (k+1):=by rw [<- zc8 h,List.take_append_drop]
 have e2:l.set k y=l.take k ++ y :: l.drop (k+1):=by rw [List.set_eq_take_append_cons_drop,if_pos h]
 rw [e2]
 conv=>lhs;rw [e1]
 rw [List.flatMap_append,List.flatMap_append,List.flatMap_cons,List.flatMap_cons];have hl:=zao C (l.take k);rw [List.length_take,Nat.min_eq_left (Nat.le_of_lt h)] at hl;rw [List.set_append_right _ _ vd,List.set_append_left _ _ (by rw [C];omega),show k*n+q-(List.flatMap f (List.take k l)).length=q from by omega,I]
theorem zf9 {S:Mem} {b o:Nat} {cs:List tu} (h:S.Knows ⟨b,o,none⟩ cs) (k:Nat) {v:tu} (hk:cs[k]?=some v):S.Knows ⟨b,o+k,none⟩ [v]:=λw I j u C=>by
 cases j with
 | zero =>
  simp only [List.getElem?_cons_zero,Option.some.injEq] at C;subst C;have:=h w I k v hk;rw [zaz] at this ⊢;exact this
 | succ j=>simp at C
theorem zqk {S:Mem} {p:Nat} {d:D} {b c:Nat} {oW:Option (Nat × Nat)} (h:OkV S p d (some (b,c)) oW):(devM S p d (some (b,c)) oW).own b=some ⟨extT,d.ext.flatMap extF,c*2⟩:=by
 rw [zcG,<- ziD h.apart];exact vf _ _ _
theorem zql {S:Mem} {p:Nat} {d d':D} {b c:Nat} {oW:Option (Nat × Nat)} (h:OkV S p d (some (b,c)) oW) (C:d'.waits=d.waits) (hl:d'.ext.length=d.ext.length) (Q:d'.size=d.size) (U:d'.fuse=d.fuse) (J:d'.down=d.down):(devM S p d (some (b,c)) oW).set b ⟨extT,d'.ext.flatMap extF,c*2⟩=devM S p d' (some (b,c)) oW/\OkV S p d' (some (b,c)) oW:=by
 have I:=h.fits;have e:devB d (some (b,c)) oW=devB d' (some (b,c)) oW:=by unfold devB;rw [C,hl,Q,U,J]
 refine ⟨?_,zgY h.apart ⟨(λx=>by cases x),λx=>by rw [C];exact I.w0 x,λb c x=>by rw [hl];exact I.e b c x,λb c x=>by rw [C];exact I.w b c x⟩⟩;rw [zcG,zcG,<- ziD h.apart,<- ziD h.apart,e];unfold baseE;rw [C];exact Mem.set_set _ _ _ _
theorem zj5 {d:D} (C:Right d) (s:tt) (i:Int) (data:tt):(writeD d s i data).1.ext.length<=9223372036854775807/\(writeD d s i data).1.waits.length<=9223372036854775807:=by
 have h:=zaB C;have J:=C.wl;have I:=zf8 d (s,i,data);unfold writeD fuseD
 repeat' split
 ·exact h
 ·exact h
 ·exact h
 all_goals exact ⟨h.1,by simp only;omega⟩
end
section
open Go.RowKit
namespace Disk
open Mv
def putS (x:tt) (w:Wr):tt:=bs (x.data.toList.take (64*w.2.1.toNat) ++ w.2.2.data.toList ++ x.data.toList.drop (64*w.2.1.toNat+64))
theorem znV {x:tt} {w:Wr} (I:64*w.2.1.toNat+64<=x.size) (C:w.2.2.size=64):(putS x w).size=x.size:=by
 unfold putS;rw [za2];simp only [List.length_append,List.length_take,List.length_drop,za5,C];omega
def accW (kp:Nat->Bool) (x:Ext) (l:List Wr):Nat->Option tt
  | 0=>none
  | n+1=>match l[n]? with
    | some w=>if w.1=x.1/\kp n=true then some (putS ((accW kp x l n).getD x.2) w) else accW kp x l n
    | none=>accW kp x l n
theorem zf_ (kp:Nat->Bool) (x:Ext) (l:List Wr) (n:Nat) (h:n<l.length):accW kp x l (n+1)=if l[n].1=x.1/\kp n=true then some (putS ((accW kp x l n).getD x.2) l[n]) else accW kp x l n:=by
 rw [accW,List.getElem?_eq_getElem h]
def Fit (x:Ext) (l:List Wr):Prop:=∀ w ∈ l,w.1=x.1->0<=w.2.1/\64*w.2.1.toNat+64<=x.2.size/\w.2.2.size=64
theorem zfC {kp:Nat->Bool} {x:Ext} {l:List Wr} (I:Fit x l):∀ n,n<=l.length->((accW kp x l n).getD x.2).size=x.2.size
 | 0,_=>rfl
 | n+1,h=>by
  have C:=zfC (kp:=kp) I n vd;rw [zf_ kp x l n vd];split
  ·rename_i hc;obtain ⟨_,J,Q⟩:=I _ (List.getElem_mem (by omega:n<l.length)) hc.1;simp only [Option.getD_some];rw [znV (by rw [C];exact J) Q];exact C
  exact C
def doneX (kp:Nat->Bool) (l:List Wr) (x:Ext):Ext:=(x.1,(accW kp x l l.length).getD x.2)
def settleD (d:D) (kp:Nat->Bool):D:={ d with ext:=d.ext.map (doneX kp d.waits),waits:=[] }
def mixE (kp:Nat->Bool) (w:List Wr) (l:List Ext) (i:Nat):List Ext:=(l.take i).map (doneX kp w) ++ l.drop i
theorem zqm (kp:Nat->Bool) (w:List Wr) (l:List Ext) (i:Nat):(mixE kp w l i).length=l.length:=by unfold mixE;simp;omega
theorem ziL (kp:Nat->Bool) (w:List Wr) (l:List Ext):mixE kp w l 0=l:=by simp [mixE]
theorem zk_ (kp:Nat->Bool) (w:List Wr) (l:List Ext):mixE kp w l l.length=l.map (doneX kp w):=by simp [mixE]
theorem znW (kp:Nat->Bool) (w:List Wr) (l:List Ext) (i:Nat) (h:i<l.length):mixE kp w l i=(l.take i).map (doneX kp w) ++ l[i] :: l.drop (i+1):=by unfold mixE;rw [List.drop_eq_getElem_cons h]
theorem zqn (kp:Nat->Bool) (w:List Wr) (l:List Ext) (i:Nat) (h:i<l.length) (h':i<(mixE kp w l i).length):(mixE kp w l i)[i]=l[i]:=by
 simp only [znW kp w l i h];rw [List.getElem_append_right (by simp;omega)];simp [Nat.min_eq_left (Nat.le_of_lt h)]
theorem znX (kp:Nat->Bool) (w:List Wr) (l:List Ext) (i:Nat) (h:i<l.length):mixE kp w l (i+1)=(mixE kp w l i).set i (doneX kp w l[i]):=by
 rw [znW kp w l i h,List.set_append_right _ _ (by simp;omega)];unfold mixE;rw [zb3 h,List.map_append,List.append_assoc,List.length_map,List.length_take,Nat.min_eq_left (Nat.le_of_lt h),Nat.sub_self];rfl
theorem zga {d:D} (h:Right d) {x:Ext} (J:x ∈ d.ext):Fit x d.waits:=λw I e=>by
 obtain ⟨y,C,e2,U,V,Q⟩:=h.wr w I;have:y=x:=znC h.ex.asc C J (e2.trans e);subst this;have:=(zdn (h.ex.ok y C)).2;exact ⟨U,by omega,Q⟩
end Disk
end
section
open Go.RowKit
open Mv Disk
section
variable {P:tz} {N:Nat} {ops:Array Oper} {E:Env} {S:Mem} {K:Env->Mem->Prop}
variable {ty:tx} {pos:String} {aft:Array Edge} {gd:Option (Nat × Bool)}
theorem Mv.ARun.copyStr {os:List Oper} {T C e:tx} {y:Nat} {z:List tu} {Q U:tw} {b o k c d:Nat} {r:Blk} {t:tt} (hn:d<N) (hT:slT P T=some (e,1,y,z))
  (hx:ev E Q=some (.slice (some ⟨b,o,none⟩) k c)) (hb:S.own b=some r) (hy:ev E U=some (.string t)) (J:t.size<=k) (ho:o+t.size<=r.cells.length)
  (h:ARun P N ops os K ((d,.int .i64 (t.size:Int)) :: E) (S.set b ⟨r.elem,spl r.cells o (cellsB t.data.toList),r.room⟩)) :
  ARun P N ops (⟨some d,.call ⟨.builtin .copy,#[Q,U],#[T,C]⟩,ty,pos,aft,none⟩ :: os) K E S:=λa w g I=>by
 rw [if_pos (by simp [Region.wanted])];obtain ⟨hu,i,v,e1,e2,e3,e4,e5⟩:=zaP hT;have V:(execOp a.eval ⟨some d,.call ⟨.builtin .copy,#[Q,U],#[T,C]⟩,ty,pos,aft,none⟩).run P w=((Builtin.copy_ #[T,C] ty #[.slice (some ⟨b,o,none⟩) k c,.string t]).run P w).andThen λv w'=>.ok (.value v) w':=by
  simp [execOp,resolve,invoke,builtin,g.ev hx,g.ev hy]
 unfold Oper.wp;rw [V];obtain ⟨cur,fz,X,k2,k3,k4⟩:=I.own b r hb;have Y:r.cells.length<=cur.size:=by have:=k2.length_le;simpa using this
 have hl:(cellsB t.data.toList).length=t.size:=by rw [zaD,za5]
 obtain ⟨q1,Z⟩:=za1 (P:=P) I hb (vs:=cellsB t.data.toList) (o:=o) vd (.inl (by rw [hl];exact ho)) (λv I=>by
  obtain ⟨x,_,rfl⟩:=List.mem_map.1 I;rfl)
 have hr:=run_copy_string (P:=P) w T C ty e b o k c t hu (λw=>by simp [Go.sizeOf,typeInfo,e1,e3]) J
  (λj hj=>by simp [World.cell?,X];omega) (λj hj=>by have:=k4 (o+j) (.inl vd);simpa [World.frozen?,X] using this)
 rw [hr];exact ⟨_,_,h,g.put hn _,Z⟩
end
theorem znY {l t:List UInt8} {k:Nat} (h:k+t.length<=l.length):spl (cellsB l) k (cellsB t)=cellsB (l.take k ++ t ++ l.drop (k+t.length)):=by
 unfold spl cellsB;simp only [List.map_append,List.map_take,List.map_drop,List.length_map]
theorem zgZ {x:tt} {w:Wr} (h:64*w.2.1.toNat+64<=x.size) (C:w.2.2.size=64):spl (cellsB x.data.toList) (0+64*w.2.1.toNat*1) (cellsB w.2.2.data.toList)=cellsB (putS x w).data.toList:=by
 rw [show 0+64*w.2.1.toNat*1=64*w.2.1.toNat from by omega,znY (by rw [za5,za5,C];exact h),za5,C];unfold putS;rfl
end
section
open Go.RowKit
open Mv Disk
abbrev u8T:tx:=5
def OkB (M:Mem) (o:Option (Nat × Nat)) (n:Nat):Prop:=∀ b c,o=some (b,c)->Fresh M b/\n<=c
theorem zmx (p:Nat) (d:D) (S:Mem) (oE oW:Option (Nat × Nat)) (az:OkV S p d oE oW) (hR:Right d) (f:tA) (caps:List tu) (ao:goFn prog f=true) (kp:Nat->Bool)
  (Y:∀ (k:Nat) (M:Mem),k<d.waits.length->S.Less M->ACall prog f (([] : List tu) ++ [Value.int .i64 (k:Int)] ++ caps).toArray M λr S'=>r = .bool (kp k)/\S'=M) :
  ACall prog 78 #[.pointer (some ⟨p,0,none⟩),.func (.func f) #[] caps.toArray] (devM S p d oE oW) λr S'=>r = .tuple #[]/\OkV S p (settleD d kp) oE none/\S'=devM S p (settleD d kp) oE none:=by
 have bz:=za8 hR;have aF:=zaB hR;have bl:=hR.wl;have hp:(devM S p d oE oW).own p=some (devB d oE oW):=vf _ _ _;obtain ⟨qe,de,a6⟩:=zbk az.dk.e;obtain ⟨qw,dw,aA⟩:=zbk az.dk.w;have a7:=hp;unfold devB at a7;refine k_E2 73 func78 ?_;refine r8_ ?_;refine rC ((by rw [a6];exact vV underlying23 rfl)) ?_;refine r4_ ?_;refine AWP.loop (X:=Nat) (λx=>[(0,.pointer (some ⟨p,0,none⟩)),(1,.func (.func f) #[] caps.toArray),(13,outV oE d.ext.length),(14,.int .i64 d.ext.length),(15,.int .i64 x)]) (λx=>devM S p { d with ext:=mixE kp d.waits d.ext x } oE oW) (λx=>x<=d.ext.length/\OkV S p { d with ext:=mixE kp d.waits d.ext x } oE oW) (λx=>d.ext.length-x) (0) ⟨rfl,rfl,rfl,rfl,rfl,trivial⟩ (by rw [ziL];exact Mem.Less.refl _) (⟨Nat.zero_le _,by rw [ziL];exact az⟩) ?_;rintro i ⟨hi,J⟩;(try dsimp only at *);have a2:=zqm kp d.waits d.ext i;have ae:(devM S p { d with ext:=mixE kp d.waits d.ext i } oE oW).own p=some (devB { d with ext:=mixE kp d.waits d.ext i } oE oW):=vf _ _ _;unfold devB at ae;simp only at ae;refine r6_ ?_;refine vu rfl (λhc=>?_) (λhc=>?_)
 ·have hc:i<d.ext.length:=by have:=of_decide_eq_true hc;omega
  obtain ⟨⟨b,c⟩,rfl⟩ : ∃ q,oE=some q:=by cases hq:oE with | none=>(have:=J.fits.e0 hq;simp only at this;omega) | some q=>exact ⟨q,rfl⟩
  have aw:=zqk J;have aG:=zqn kp d.waits d.ext i hc vd;have Q:=znX kp d.waits d.ext i hc;have aJ:=List.getElem_mem hc;have ax:=zga hR aJ;have bB:=zcK hR aJ;have aQ:=λn h=>zfC (kp:=kp) ax n h;have an:=J.less;have aM:Sl 3 wrF (devM S p { d with ext:=mixE kp d.waits d.ext i } (some (b,c)) oW) (outV oW d.waits.length) d.waits:=(zdm zcJ (e:=wrT) J.dk.w rfl aF.2).less (vi _ _ _ J.fr.1);rw [aA] at aM;have be:(devM S p { d with ext:=mixE kp d.waits d.ext i } (some (b,c)) oW).Knows ⟨b,0+i*2,none⟩ (extF d.ext[i]):=vq aw _ _ (λj v hj=>by have:=zdH zaZ (mixE kp d.waits d.ext i) i vd j v (by rw [aG];exact hj);rw [<- this];congr 1;omega);have bb:doneX kp d.waits d.ext[i]=(d.ext[i].1,(accW kp d.ext[i] d.waits d.waits.length).getD d.ext[i].2):=rfl;rw [bb] at Q;have aT:=zf_ kp d.ext[i] d.waits;have aE:=λy=>zql (d':={ d with ext:=(mixE kp d.waits d.ext i).set i y }) J rfl (by simp) rfl rfl rfl;have ba:0+i*2+1<((mixE kp d.waits d.ext i).flatMap extF).length:=by rw [zao zaZ,a2];omega
  simp only at aw aE;generalize bD:d.ext[i]=x at *;unfold extF at be;generalize a4:devM S p { d with ext:=mixE kp d.waits d.ext i } (some (b,c)) oW=Mi at *;refine r7_ ?_;refine rC (vP underlying23 zav rfl rfl vd vd) ?_;refine s1_ ?_;refine ARun.alloc (zab rfl) zbF ?_;intro b5 f5;have g5:=f5
  repeat ((with_reducible replace g5:=zaa g5);obtain ⟨g5,_⟩:=g5)
  refine nl_ ?_;refine r4_ ?_;have bf:=f5.ne ae;refine r13_ ?_;refine rC ((by rw [aA];exact vV underlying24 rfl)) ?_;rw [aA];refine r4_ ?_;refine AWP.loop (X:=Nat × Option (Nat × Nat)) (λy=>[(0,.pointer (some ⟨p,0,none⟩)),(1,.func (.func f) #[] caps.toArray),(13,outV (some (b,c)) d.ext.length),(14,.int .i64 d.ext.length),(15,.int .i64 i),(4,.int .i64 i),(5,.pointer (some ⟨b5,0,none⟩)),(6,outV y.2 x.2.size),(24,.slice qw d.waits.length dw),(25,.int .i64 d.waits.length),(26,.int .i64 y.1)]) (λy=>outM (Mi.set b5 ⟨142,[.string x.1,.string x.2],2⟩) y.2 u8T (cellsB ((accW kp x d.waits y.1).getD x.2).data.toList)) (λy=>y.1<=d.waits.length/\OkB (Mi.set b5 ⟨142,[.string x.1,.string x.2],2⟩) y.2 x.2.size/\(y.2=none <-> accW kp x d.waits y.1=none)) (λy=>d.waits.length-y.1) ((0,none)) ⟨rfl,rfl,rfl,rfl,rfl,rfl,rfl,rfl,rfl,rfl,rfl,trivial⟩ (Mem.Less.refl _) (⟨Nat.zero_le _,(λb c e=>by cases e),by simp [accW]⟩) ?_;rintro ⟨k,ob⟩ ⟨hk,aa,aj⟩;(try dsimp only at *);have Z:=aQ k hk;refine r6_ ?_;refine vu rfl (λI=>?_) (λI=>?_)
  ·have I:k<d.waits.length:=(by have:=of_decide_eq_true I;omega);obtain ⟨_,_,aZ,br,bo,a3⟩:=id aM;cases aZ;obtain ⟨bw,ow,rfl,aL⟩:=a3.resolve_left (λe=>by rw [e] at I;simp at I);have aC:=aL k I;have C:=aT k I;have aK:=ax _ (List.getElem_mem I);generalize hw:d.waits[k]=w at *;unfold wrF at aC;rcases ob with _ | ⟨bd,cd⟩
   ·have U:accW kp x d.waits k=none:=aj.1 rfl;rw [U] at C Z;simp only [Option.getD_none] at C Z;have a5:(Mi.set b5 ⟨142,[.string x.1,.string x.2],2⟩).own b5=some ⟨142,[.string x.1,.string x.2],2⟩:=vf _ _ _;simp only [outM,outV];have ac:Mi.Less (Mi.set b5 ⟨142,[.string x.1,.string x.2],2⟩):=vi _ _ _ f5.1;have aP:=aC.less ac;refine r7_ ?_;refine rC (vP underlying24 zbX rfl rfl vd vd) ?_;refine s1_ ?_;refine ARun.alloc (zab rfl) zbG ?_;intro b8 f8;have g8:=f8
    repeat ((with_reducible replace g8:=zaa g8);obtain ⟨g8,_⟩:=g8)
    refine nl_ ?_;refine r4_ ?_;by_cases hn:w.1=x.1
    ·by_cases V:kp k=true
     ·rw [if_pos ⟨hn,V⟩] at C;obtain ⟨aX,aR,aD⟩:=aK hn;refine r7_ ?_;refine rC (vh rfl rfl (zaf (zaT _ _) (za9 hn))) ?_;refine r3_ ?_;refine rUn 36 ?_;refine vn (first:=[]) (cap:=caps) (zab rfl) ao rfl rfl (Y k _ I (an.trans (ac.trans zae))) ?_;rintro _ S1 ⟨rfl,h1⟩;rw [h1,V];clear h1 S1;refine r4_ ?_;refine kw_ [0,1,13,14,15,4,5,6,24,25,26,27,8,7,41] ?_;refine cF_ ?_;refine r9_ ?_;refine cT_ ?_;refine r3_ ?_;refine uR (zab rfl) zaE zbi rfl ?_;intro bc a1 aY aO;have ak:=aY
      repeat ((with_reducible replace ak:=zaa ak);obtain ⟨ak,_⟩:=ak)
      refine r3_ ?_;refine dr_ [i0_,i1_,i2_,i3_,i4_,i5_,i6_,o7_] [7] ?_;refine r4_ ?_;refine dP (hc:=λ_=>vE (64*w.2.1.toNat) underlying71 zco rfl rfl vd vd vd) (h:=?_);refine r2_ ?_;refine zac rfl ?_;refine ARun.copyStr (zab rfl) zbp rfl own_ rfl vd (by simp only [zaD,za5];omega) ?_;have aB:=zgZ (x:=x.2) (w:=w) aR aD;refine zad ⟨nz_,?_⟩;refine r8_ ?_;refine ⟨(k+1,some (bc,a1)),?_,?_,?_,?_⟩<;>try dsimp only
      ·exact ⟨rfl,rfl,rfl,rfl,rfl,rfl,rfl,rfl,rfl,rfl,zah (by simp),trivial⟩
      ·simp only [C,Option.getD_some,<- aB,outM];exact zae
      ·exact ⟨I,λb' c' e=>by cases e;exact ⟨zai ak (by assumption),aO⟩,by simp [C]⟩
      omega
     rw [if_neg (λh=>V h.2)] at C;refine r7_ ?_;refine rC (vh rfl rfl (zaf (zaT _ _) (za9 hn))) ?_;refine r3_ ?_;refine rUn 36 ?_;refine vn (first:=[]) (cap:=caps) (zab rfl) ao rfl rfl (Y k _ I (an.trans (ac.trans zae))) ?_;rintro _ S1 ⟨rfl,h1⟩;rw [h1,Bool.eq_false_iff.2 V];clear h1 S1;refine r4_ ?_;refine cT_ ?_;refine r9_ ?_;refine ⟨(k+1,none),?_,?_,?_,?_⟩<;>try dsimp only
     ·exact ⟨rfl,rfl,rfl,rfl,rfl,rfl,rfl,rfl,rfl,rfl,zah (by simp),trivial⟩
     ·(try simp only [C,outM,Option.getD_none,Option.getD_some]);exact zae
     ·exact ⟨I,aa,by simp [C]⟩
     omega
    rw [if_neg (λh=>hn h.1)] at C;refine r7_ ?_;refine rC (vh rfl rfl (zaf (zaT _ _) (zcd hn))) ?_;refine r8_ ?_;refine kw_ [0,1,13,14,15,4,5,6,24,25,26,27,8,7,41] ?_;refine cT_ ?_;refine r9_ ?_;refine ⟨(k+1,none),?_,?_,?_,?_⟩<;>try dsimp only
    ·exact ⟨rfl,rfl,rfl,rfl,rfl,rfl,rfl,rfl,rfl,rfl,zah (by simp),trivial⟩
    ·(try simp only [C,outM,Option.getD_none,Option.getD_some]);exact zae
    ·exact ⟨I,aa,by simp [C]⟩
    omega
   obtain ⟨au,a0⟩:=aa bd cd rfl;obtain ⟨ai,af⟩:=zaa au;have ah:=Ne.symm af;obtain ⟨cur,U⟩ : ∃ cur,accW kp x d.waits k=some cur:=by cases h:accW kp x d.waits k with | none=>exact absurd (aj.2 h) (by simp) | some cur=>exact ⟨cur,rfl⟩
   rw [U] at C Z ⊢;simp only [Option.getD_some] at C Z ⊢;have a5:((Mi.set b5 ⟨142,[.string x.1,.string x.2],2⟩).set bd ⟨u8T,cellsB cur.data.toList,cd⟩).own b5=some ⟨142,[.string x.1,.string x.2],2⟩:=(vg _ _ ah).trans (vf _ _ _);simp only [outM,outV];have ac:Mi.Less ((Mi.set b5 ⟨142,[.string x.1,.string x.2],2⟩).set bd ⟨u8T,cellsB cur.data.toList,cd⟩):=(vi _ _ _ f5.1).trans (vi _ _ _ au.1);have aP:=aC.less ac;refine r7_ ?_;refine rC (vP underlying24 zbX rfl rfl vd vd) ?_;refine s1_ ?_;refine ARun.alloc (zab rfl) zbG ?_;intro b8 f8;have g8:=f8
   repeat ((with_reducible replace g8:=zaa g8);obtain ⟨g8,_⟩:=g8)
   refine nl_ ?_;refine r4_ ?_;by_cases hn:w.1=x.1
   ·by_cases V:kp k=true
    ·rw [if_pos ⟨hn,V⟩] at C;obtain ⟨aX,aR,aD⟩:=aK hn;refine r7_ ?_;refine rC (vh rfl rfl (zaf (zaT _ _) (za9 hn))) ?_;refine r3_ ?_;refine rUn 36 ?_;refine vn (first:=[]) (cap:=caps) (zab rfl) ao rfl rfl (Y k _ I (an.trans (ac.trans zae))) ?_;rintro _ S1 ⟨rfl,h1⟩;rw [h1,V];clear h1 S1;refine r4_ ?_;refine cF_ ?_;refine r9_ ?_;refine cF_ ?_;refine r2_ ?_;refine dr_ [i0_,i1_,i2_,i3_,i4_,i5_,i6_,o7_] [7] ?_;refine r4_ ?_;refine dP (hc:=λ_=>vE (64*w.2.1.toNat) underlying71 zco rfl rfl vd vd vd) (h:=?_);refine r2_ ?_;refine zac rfl ?_;refine ARun.copyStr (zab rfl) zbp rfl own_ rfl vd (by simp only [zaD,za5];omega) ?_;have aB:=zgZ (x:=cur) (w:=w) vd aD;refine zad ⟨nz_,?_⟩;refine r8_ ?_;refine ⟨(k+1,some (bd,cd)),?_,?_,?_,?_⟩<;>try dsimp only
     ·exact ⟨rfl,rfl,rfl,rfl,rfl,rfl,rfl,rfl,rfl,rfl,zah (by simp),trivial⟩
     ·simp only [C,Option.getD_some,<- aB,outM];exact zae
     ·exact ⟨I,aa,by simp [C]⟩
     omega
    rw [if_neg (λh=>V h.2)] at C;refine r7_ ?_;refine rC (vh rfl rfl (zaf (zaT _ _) (za9 hn))) ?_;refine r3_ ?_;refine rUn 36 ?_;refine vn (first:=[]) (cap:=caps) (zab rfl) ao rfl rfl (Y k _ I (an.trans (ac.trans zae))) ?_;rintro _ S1 ⟨rfl,h1⟩;rw [h1,Bool.eq_false_iff.2 V];clear h1 S1;refine r4_ ?_;refine kw_ [0,1,13,14,15,4,5,6,24,25,26,27,8,7,41] ?_;refine cT_ ?_;refine r9_ ?_;refine ⟨(k+1,some (bd,cd)),?_,?_,?_,?_⟩<;>try dsimp only
    ·exact ⟨rfl,rfl,rfl,rfl,rfl,rfl,rfl,rfl,rfl,rfl,zah (by simp),trivial⟩
    ·(try simp only [C,outM,Option.getD_none,Option.getD_some]);exact zae
    ·exact ⟨I,aa,by simp [C]⟩
    omega
   rw [if_neg (λh=>hn h.1)] at C;refine r7_ ?_;refine rC (vh rfl rfl (zaf (zaT _ _) (zcd hn))) ?_;refine r8_ ?_;refine cT_ ?_;refine r9_ ?_;refine ⟨(k+1,some (bd,cd)),?_,?_,?_,?_⟩<;>try dsimp only
   ·exact ⟨rfl,rfl,rfl,rfl,rfl,rfl,rfl,rfl,rfl,rfl,zah (by simp),trivial⟩
   ·(try simp only [C,outM,Option.getD_none,Option.getD_some]);exact zae
   ·exact ⟨I,aa,by simp [C]⟩
   omega
  have I:k=d.waits.length:=by have:=of_decide_eq_false I;omega
  rw [I] at aj Z ⊢;rcases ob with _ | ⟨bd,cd⟩
  ·have U:accW kp x d.waits d.waits.length=none:=aj.1 rfl;rw [U,Option.getD_none,show ((x.1,x.2):Ext)=x from rfl,<- aG,List.set_getElem_self] at Q;simp only [outM,outV];refine r11_ ?_;refine cF_ ?_;refine r8_ ?_;refine ⟨i+1,?_,?_,?_,?_⟩<;>try dsimp only
   ·exact ⟨rfl,rfl,rfl,rfl,rfl,trivial⟩
   ·simp only [Q,a4];exact zae
   ·exact ⟨hc,by simp only [Q];exact J⟩
   omega
  obtain ⟨au,a0⟩:=aa bd cd rfl;obtain ⟨ai,af⟩:=zaa au;have ah:=Ne.symm af;obtain ⟨cur,U⟩ : ∃ cur,accW kp x d.waits d.waits.length=some cur:=by cases h:accW kp x d.waits d.waits.length with | none=>exact absurd (aj.2 h) (by simp) | some cur=>exact ⟨cur,rfl⟩
  rw [U] at Q Z ⊢;simp only [Option.getD_some] at Q Z ⊢;have n1:=ai.ne ae;have n2:=ai.ne aw;have n3:=f5.ne aw;have bC:=Ne.symm n2;have bA:=Ne.symm n3;have a8:=zfB zaZ (mixE kp d.waits d.ext i) i (x.1,cur) vd 1 (.string cur) (by decide) (by rw [aG];rfl);simp only [outM,outV];refine r11_ ?_;refine cT_ ?_;refine dr_ [i0_,i1_,i2_,i3_,i4_,i5_,i6_,i7_,i8_,i9_,o10_] [10] ?_;refine r7_ ?_;refine dC (hc:=vW zbi zaE rfl (l:=cur.data.toList) (by rw [za5];exact Z) (zcl (r:=⟨u8T,cellsB cur.data.toList,cd⟩) (b:=bd) own_)) (h:=?_);refine dP (hc:=λ_=>vP underlying23 zav rfl rfl vd vd) (h:=?_);refine s1_ ?_;refine zac rfl ?_;refine vm rfl rfl zcp rfl (r:=⟨extT,(mixE kp d.waits d.ext i).flatMap extF,c*2⟩) own_ ba rfl ?_;refine nm_ ?_;refine zad ⟨nz_,?_⟩;refine r8_ ?_;refine ⟨i+1,?_,?_,?_,?_⟩<;>try dsimp only
  ·exact ⟨rfl,rfl,rfl,rfl,rfl,trivial⟩
  ·simp only [Q];rw [<- (aE (x.1,cur)).1,<- a8];exact zae
  ·exact ⟨hc,by simp only [Q];exact (aE (x.1,cur)).2⟩
  omega
 have hc:i=d.ext.length:=by have:=of_decide_eq_false hc;omega
 subst hc;rw [zk_] at J ae;simp only [zk_];refine r10_ ?_;refine vm rfl rfl zdJ rfl ae (show 2<5 from by decide) rfl ?_;refine nm_ ?_;refine s1_ ?_;have aN:(devM S p (settleD d kp) oE none).Less ((devM S p { d with ext:=d.ext.map (doneX kp d.waits) } oE oW).set p ⟨82,[.int .i64 d.size,outV oE (d.ext.map (doneX kp d.waits)).length,.slice none 0 0,.int .i64 d.fuse,.bool d.down],5⟩):=by unfold devM;rw [Mem.set_set];show ((outN 2 S oE extT ((d.ext.map (doneX kp d.waits)).flatMap extF)).set p ⟨82,[.int .i64 d.size,outV oE (d.ext.map (doneX kp d.waits)).length,.slice none 0 0,.int .i64 d.fuse,.bool d.down],5⟩).Less _;exact Less.set (za6 J.dk.w) _ _
 have aV:=J.apart;have aH:=J.fits;refine ⟨_,devM S p (settleD d kp) oE none,rfl,aN,?_⟩;exact ⟨rfl,zgY ⟨aV.e,(λb c e=>by cases e),(λb c b' c' e e'=>by cases e'),aV.p⟩ ⟨aH.e0,λ_=>rfl,aH.e,(λb c e=>by cases e)⟩,rfl⟩
theorem znZ (k:Int) (S:Mem):ACall prog 79 #[.int .i64 k] S λr S'=>r = .bool true/\S'=S:=by
 refine k_E1 3 func79 ?_;refine r11_ ?_;refine ⟨_,S,⟨_,_,rfl,rfl,rfl⟩,zae,?_⟩;exact ⟨rfl,rfl⟩
theorem zfD (p:Nat) (d:D) (S:Mem) (oE oW:Option (Nat × Nat)) (Q:OkV S p d oE oW) (V:Right d) :
  ACall prog 41 #[.pointer (some ⟨p,0,none⟩)] (devM S p d oE oW) λr S'=>∃ I J,OkV S p (settleD d λ_=>true) I J/\r = .tuple #[]/\S'=devM S p (settleD d λ_=>true) I J:=by
 have h:=zmx p d S oE oW Q V 79 [] zwG (λ_=>true) (λk M _ _=>znZ k M);generalize devM S p d oE oW=M at *;refine k_E1 4 func41 ?_;refine r2_ ?_;refine ca_ rfl (h) ?_;rintro _ X ⟨rfl,C,U⟩;rw [U];clear U X;refine s1_ ?_;refine ⟨_,_,rfl,Mem.Less.refl _,?_⟩;exact ⟨oE,none,C,rfl,rfl⟩
theorem zj6 {d:D} (C:Right d) (kp:Nat->Bool):(settleD d kp).ext.length<=9223372036854775807/\(settleD d kp).waits.length<=9223372036854775807:=by
 have h:=zaB C;exact ⟨by show (List.map _ _).length<=_;rw [List.length_map];exact h.1,by show (0:Nat)<=_;exact Nat.zero_le _⟩
theorem zla {l:List Ext} {s:tt}:has l s=false <-> ∀ x ∈ l,x.1≠s:=by
 rw [<- Bool.not_eq_true,zaO];exact ⟨λh x C e=>h ⟨x,C,e⟩,λh ⟨x,C,e⟩=>h x C e⟩
def dropE (l:List Ext) (s:tt):List Ext:=l.filter λx=>decide (x.1≠s)
def lessD (d:D) (s:tt):D:={ d with ext:=dropE d.ext s,waits:=filt s d.waits }
theorem zg0 {l:List Ext} {s:tt} (h:has l s=false):dropE l s=l :=
 List.filter_eq_self.2 λx C=>by simpa using zla.1 h x C
theorem ztg {x:Ext} {l:List Ext} {s:tt} (h:lt x.1 s=true):pos (x :: l) s=pos l s+1:=by unfold pos;rw [List.takeWhile_cons,h];rfl
theorem zvw {x:Ext} {l:List Ext} {s:tt} (h:lt x.1 s=false):pos (x :: l) s=0:=by unfold pos;rw [List.takeWhile_cons,h];rfl
theorem zhG (x:Ext) (l:List Ext) (s:tt):has (x :: l) s=(decide (x.1=s) || has l s):=rfl
theorem zc9 {x:Ext} {l:List Ext} {s:tt} (h:x.1=s):dropE (x :: l) s=dropE l s:=by
 unfold dropE;rw [List.filter_cons,if_neg (by simpa using h)]
theorem zey {x:Ext} {l:List Ext} {s:tt} (h:x.1≠s):dropE (x :: l) s=x :: dropE l s:=by
 unfold dropE;rw [List.filter_cons,if_pos (by simpa using h)]
theorem zg1 {x:Ext} {l:List Ext} (C:Asc (x :: l)):∀ y ∈ l,lt x.1 y.1=true:=(List.pairwise_cons.1 C).1
theorem zmy {x:Ext} {l:List Ext} (C:Asc (x :: l)):has l x.1=false:=zla.2 λy I e=>by
 have:=zg1 C y I;rw [e,lt_irrefl] at this;cases this
theorem zmz {x:Ext} {l:List Ext} {s:tt} (C:Asc (x :: l)) (h:has l s=true):lt x.1 s=true:=by
 obtain ⟨y,I,rfl⟩:=zaO.1 h;exact zg1 C y I
theorem zgb {l:List Ext} {s:tt} (C:Asc l) (h:has l s=true):dropE l s=l.eraseIdx (pos l s):=by
 induction l with
 | nil=>cases h
 | cons x l I =>
  by_cases e:x.1=s
  ·subst e;rw [zvw (lt_irrefl _),zc9 rfl,zg0 (zmy C)];rfl
  rw [zhG,decide_eq_false e,Bool.false_or] at h;rw [zey e,ztg (zmz C h),I (zqd C) h];rfl
theorem zqo {l:List Ext} (C:Asc l) (s:tt):Asc (dropE l s):=List.Pairwise.filter _ C
theorem zn0 {d:D} {s:tt} (C:Right d) (h:has d.ext s=true):forgetD (eraseD d s) s=lessD d s:=by
 unfold forgetD eraseD lessD;rw [zgb C.ex.asc h]
theorem zn1 {d:D} {s:tt} (C:Right d) (h:has d.ext s=false):filt s d.waits=d.waits:=zhF λw I=>zst.2 λe=>by
 obtain ⟨x,J,e1,_⟩:=C.wr w I;exact zla.1 h x J (e1.trans e)
/-! ### Writes that are done -/
theorem zhH {f:Ext->Ext} (I:∀ x,(f x).1=x.1) (l:List Ext) (s:tt):has (l.map f) s=has l s:=by
 induction l with
 | nil=>rfl
 | cons x l C=>rw [List.map_cons,zhG,zhG,C,I]
theorem zn2 {f:Ext->Ext} (C:∀ x,(f x).1=x.1) {l:List Ext} (h:Asc l):Asc (l.map f):=by
 unfold Asc at *;rw [List.pairwise_map];exact h.imp λ{a b} q=>by rw [C,C];exact q
end
section
open Go.RowKit
namespace Mv
section
variable {P:tz} {N:Nat} {l:List Oper} {W:List Nat} {SB S0:Mem} {K:Env->Mem->Prop}
def DG (P:tz) (N:Nat) (l:List Oper) (W:List Nat) (SB S0:Mem) (K:Env->Mem->Prop) (n:Nat) (listed:Array Bool) (E:Env) (S:Mem):Prop :=
  ∀ w0 a w,Closed l.toArray listed->Good N E a->View S w->Step SB w0 S w->wpAnyG P l.toArray (Q0 N K SB w0) (λi=>W.contains i) (View S0) n listed a w
theorem DG.nil {C:Array Bool} {E:Env} {S:Mem} (I:Region.ready .any l.toArray C = []) (h:K E S):DG P N l W SB S0 K 0 C E S :=
 λw0 a w _ g J hs=>⟨I,E,S,h,g,hs⟩
theorem tb {n:Nat} {C:Array Bool} {E:Env} {S:Mem} (is:List Nat) (U:(Region.ready .any l.toArray C == is)=true) (X:is ≠ [])
  (h:∀ i ∈ is,∃ o,l[i]?=some o/\AOp P N l.toArray o (λE' S'=>(W.contains i=false->S0.Less S')/\DG P N l W SB S0 K n (C.setIfInBounds i true) E' S') E S):DG P N l W SB S0 K (n+1) C E S:=λw0 a w Y g hv hs=>by
 have U:=beq_iff_eq.1 U;refine ⟨λh0=>absurd (U.symm.trans h0) X,λj hj=>?_⟩;have ac:=hj;rw [U] at hj;obtain ⟨o,ho,Z⟩:=h j hj;have Q:=Z a w g hv;unfold wpOp;have ae:l.toArray[j]?=some o:=by simpa using ho
 simp only [ae];have next:∀ V J,Post N (λE' S'=>(W.contains j=false->S0.Less S')/\DG P N l W SB S0 K n (C.setIfInBounds j true) E' S') S w V J->(W.contains j=false->View S0 w->View S0 J)/\wpAnyG P l.toArray (Q0 N K SB w0) (λi=>W.contains i) (View S0) n (C.setIfInBounds j true) V J:=λV J ⟨E1,S1,⟨k1,k2⟩,g1,s1⟩ =>
  ⟨λI _=>s1.view.less (k1 I),k2 w0 V J (zbU Y ac) g1 s1.view (hs.trans s1)⟩
 split
 ·rename_i I;rw [if_pos I] at Q;exact .inl (zep (Oper.wp_mono next Q))
 rename_i I;rw [if_neg I] at Q;exact next _ _ Q
theorem tj {n:Nat} {C:Array Bool} {E:Env} {S:Mem} (i:Nat) (J:(Region.ready .any l.toArray C == [i])=true)
  (h:∃ o,l[i]?=some o/\AOp P N l.toArray o (λQ S'=>(W.contains i=false->S0.Less S')/\DG P N l W SB S0 K n (C.setIfInBounds i true) Q S') E S):DG P N l W SB S0 K (n+1) C E S :=
 tb [i] J (by simp) λj I=>by
  have e:j=i:=by simpa using I
  rw [e];exact h
theorem tg {n:Nat} {C:Array Bool} {E:Env} {S:Mem} (i j:Nat) (J:(Region.ready .any l.toArray C == [i,j])=true)
  (h:∃ o,l[i]?=some o/\AOp P N l.toArray o (λI S'=>(W.contains i=false->S0.Less S')/\DG P N l W SB S0 K n (C.setIfInBounds i true) I S') E S)
  (k:∃ o,l[j]?=some o/\AOp P N l.toArray o (λI S'=>(W.contains j=false->S0.Less S')/\DG P N l W SB S0 K n (C.setIfInBounds j true) I S') E S):DG P N l W SB S0 K (n+1) C E S :=
 tb [i,j] J (by simp) λq hq=>by
  rcases List.mem_cons.1 hq with rfl | hq
  ·exact h
  obtain rfl:q=j:=by simpa using hq
  exact k
theorem DG.first {n:Nat} {C:Array Bool} {E:Env} {S:Mem} (i:Nat) (ae:Region.noSelect l.toArray=true) (af:mayFirst l W C i=true)
  (h:∃ o d v,l[i]?=some o/\o.dst=some d/\d<N/\(pureOp o=true\/S0.Less S)/\ACalmG P N l.toArray o E (if pureOp o then noMem else S0) v/\DG P N l W SB S0 K n (C.setIfInBounds i true) ((d,v) :: E) S):DG P N l W SB S0 K (n+1) C E S:=λw0 a w ad g hv hs=>by
 obtain ⟨o,d,v,ho,hd,hn,V,J,Y⟩:=h;simp only [mayFirst,Bool.and_eq_true,Bool.or_eq_true] at af;obtain ⟨⟨hr,hf⟩,hp⟩:=af;have aj:l.toArray[i]?=some o:=by simpa using ho
 have aa:i ∈ Region.ready .any l.toArray C:=by simpa using hr
 let D:tv->Prop:=λw'=>if pureOp o=true then True else View S0 w'
 have ai:D w:=by
  simp only [D];split
  ·trivial
  rename_i Z;exact hv.less (V.resolve_left Z)
 have Q:∀ w',D w'->View (if pureOp o then noMem else S0) w':=λw' h=>by
  simp only [D] at h;split
  ·exact zeW _
  rename_i Z;rw [if_neg Z] at h;exact h
 refine zdk (D:=D) (v:=v) aj (Region.noSelect_spec ae) (λc a w h=>h) ?_ n C a w ad (Region.free_spec aj hf) aa ?_ ai ?_
 ·intro j w1 w2 I ag ah hj U X;simp only [D] at U ⊢;split
  ·trivial
  rename_i Z;rw [if_neg Z] at U;refine X ?_ U;rcases hp with hp | hp
  ·rw [ho] at hp;exact absurd (by simpa using hp) Z
  cases al:W.contains j with
  | false=>rfl
  | true =>
   have h1:=List.all_eq_true.1 hp j (by simpa using al);obtain ⟨ay,oj,ao,ac⟩:=mem_ready.1 hj;have h2:=zc2 h1 I ag λo2 an e he hb=>by
    obtain rfl:oj=o2:=Option.some.inj (ao.symm.trans an);exact ac e he hb
   rcases Nat.lt_or_ge i I.size with aq | hge
   ·simp [aq] at ah h2;rw [ah] at h2;cases h2
   simp [Array.getElem?_eq_none hge] at h2
 ·by_cases hw:Region.wanted o (yielded l.toArray a.tmps)=true
  ·refine .inl ⟨hw,λw' au=>?_⟩;rcases J a w' g (Q w' au) with h1 | h1
   ·exact h1.2
   rw [hw] at h1;cases h1.1
  rcases J a w g (Q w ai) with h1 | h1
  ·exact absurd h1.1 hw
  exact .inr h1
 rw [hd];exact Y w0 _ w (zbU ad aa) (g.put hn v) hv hs
theorem DG.pure {n:Nat} {C:Array Bool} {E:Env} {S:Mem} {o:Oper} {d:Nat} {v:tu} (i:Nat) (I:Region.noSelect l.toArray=true) (J:mayFirst l W C i=true) (V:l[i]?=some o) (Y:pureOp o=true) (U:o.guard=none) (hd:o.dst=some d) (X:d<N)
  (hc:∀ S',ACalm P N o E S' v) (h:DG P N l W SB S0 K n (C.setIfInBounds i true) ((d,v) :: E) S):DG P N l W SB S0 K (n+1) C E S :=
 DG.first i I J ⟨o,d,v,V,hd,X,.inl Y,λa w g Q=>.inl ⟨by simp [Region.wanted,U],hc _ a w g Q⟩,h⟩
theorem DG.look {n:Nat} {C:Array Bool} {E:Env} {S:Mem} {o:Oper} {d:Nat} {v:tu} (i:Nat) (I:Region.noSelect l.toArray=true) (J:mayFirst l W C i=true) (V:l[i]?=some o) (Y:pureOp o=false) (U:o.guard=none) (hd:o.dst=some d) (X:d<N) (hl:S0.Less S)
  (hc:ACalm P N o E S0 v) (h:DG P N l W SB S0 K n (C.setIfInBounds i true) ((d,v) :: E) S):DG P N l W SB S0 K (n+1) C E S :=
 DG.first i I J ⟨o,d,v,V,hd,X,.inr hl,λa w g Q=>.inl ⟨by simp [Region.wanted,U],by rw [Y] at Q;exact hc a w g Q⟩,h⟩
theorem dgp {n:Nat} {C:Array Bool} {E:Env} {S:Mem} {o:Oper} {d:Nat} {v:tu} (i:Nat) (J:l[i]?=some o) (hd:o.dst=some d) (hc:∀ S',ACalm P N o E S' v) (h:DG P N l W SB S0 K n (C.setIfInBounds i true) ((d,v) :: E) S) (hs:Region.noSelect l.toArray=true:=by kernel_rfl) (hm:mayFirst l W C i=true:=by kernel_rfl) (U:pureOp o=true:=by exact rfl) (I:o.guard=none:=by exact rfl) (Q:d<N:=by exact zab rfl):DG P N l W SB S0 K (n+1) C E S:=DG.pure i hs hm J U I hd Q hc h
theorem dgl {n:Nat} {C:Array Bool} {E:Env} {S:Mem} {o:Oper} {d:Nat} {v:tu} (i:Nat) (J:l[i]?=some o) (hd:o.dst=some d) (hc:ACalm P N o E S0 v) (h:DG P N l W SB S0 K n (C.setIfInBounds i true) ((d,v) :: E) S) (hs:Region.noSelect l.toArray=true:=by kernel_rfl) (hm:mayFirst l W C i=true:=by kernel_rfl) (U:pureOp o=false:=by exact rfl) (I:o.guard=none:=by exact rfl) (Q:d<N:=by exact zab rfl) (hl:S0.Less S:=by exact zae):DG P N l W SB S0 K (n+1) C E S:=DG.look i hs hm J U I hd Q hl hc h
theorem DG.only {n:Nat} {C:Array Bool} {E:Env} {S:Mem} {o:Oper} (i:Nat) (I:(Region.ready .any l.toArray C == [i])=true) (J:l[i]?=some o)
  (h:ARun P N l.toArray [o] (λQ S'=>(W.contains i=false->S0.Less S')/\DG P N l W SB S0 K n (C.setIfInBounds i true) Q S') E S):DG P N l W SB S0 K (n+1) C E S:=tj i I ⟨o,J,h⟩
theorem DG.two {n:Nat} {C:Array Bool} {E:Env} {S:Mem} {o o':Oper} (i j:Nat) (U:(Region.ready .any l.toArray C == [i,j])=true) (Q:l[i]?=some o)
  (h:ARun P N l.toArray [o] (λI S'=>(W.contains i=false->S0.Less S')/\DG P N l W SB S0 K n (C.setIfInBounds i true) I S') E S) (J:l[j]?=some o')
  (h':ARun P N l.toArray [o'] (λI S'=>(W.contains j=false->S0.Less S')/\DG P N l W SB S0 K n (C.setIfInBounds j true) I S') E S):DG P N l W SB S0 K (n+1) C E S:=tg i j U ⟨o,Q,h⟩ ⟨o',J,h'⟩
theorem uf {C:Array Bool} {E:Env} {S:Mem} (I:(Region.ready .any l.toArray C).isEmpty=true) (h:K E S):DG P N l W SB S0 K 0 C E S:=DG.nil (by simpa using I) h
theorem uj {id:Nat} {Q:Exit->Env->Mem->Prop} {E:Env} {S:Mem} (S0:Mem) (W:List Nat) (hm:P.follows .mixedOrders=true) (hl:S0.Less S)
  (h:DG P N l W S S0 (Q .normal) l.length (Array.replicate l.length false) E S):AWP P N (.region id l.toArray true) Q E S:=λa w g J=>by
 refine wp_mono (Q:=Q0 N (Q .normal) S w) ?_ (λe U w' x=>by cases e <;> first | exact x | exact x.elim);refine wp_region_any hm ?_;refine zcg (W:=λi=>W.contains i) (C:=View S0) _ _ _ _ ?_;have I:Step S w S { w with drawn:=w.drawn+1 }:=Step.drawn J _;have:=h w a _ (zb5 _ _) g I.view I;simpa using this
theorem u9 {id:Nat} {Q:Exit->Env->Mem->Prop} {E:Env} {S:Mem} (W:List Nat) (hm:P.follows .mixedOrders=true)
  (h:DG P N l W S S (Q .normal) l.length (Array.replicate l.length false) E S):AWP P N (.region id l.toArray true) Q E S:=uj S W hm (Mem.Less.refl _) h
end
end Mv
end
section
open Go.RowKit
open Mv Disk

theorem zmA (C d:D) (s:tt) (l:List tt):freesD C d (s :: l)=if has d.ext s=true then freesD C (forgetD (eraseD d s) s) l else (C,3):=by
 rw [freesD];unfold freeD;by_cases q:has d.ext s=true
 ·rw [if_pos q,if_pos q];rfl
 rw [if_neg q,if_neg q];rfl
def seeW (kp:Nat->Bool) (l:List Wr) (s:tt) (k:Int) (b:tt):Nat->tt
  | 0=>b
  | n+1=>match l[n]? with
    | some w=>if w.1=s/\w.2.1=k/\kp n=true then w.2.2 else seeW kp l s k b n
    | none=>seeW kp l s k b n
theorem zb7 (kp:Nat->Bool) (l:List Wr) (s:tt) (k:Int) (b:tt) {n:Nat} (h:n<l.length):seeW kp l s k b (n+1)=if l[n].1=s/\l[n].2.1=k/\kp n=true then l[n].2.2 else seeW kp l s k b n:=by
 rw [seeW,List.getElem?_eq_getElem h]
def allK:Nat->Bool:=λ_=>true
def seen (d:D) (s:tt) (k:Int):tt:=seeW allK d.waits s k ((exOf d.ext s).2.extract (64*k.toNat) (64*k.toNat+64)) d.waits.length
def readD (d:D) (s:tt) (k:Int):tt × Int:=if (placeD d s k).2≠0 then (ByteArray.empty,(placeD d s k).2) else (seen d s k,0)
theorem zcL (d:D) (s:tt) (k:Int):readD d s k=if (placeD d s k).2≠0 then (ByteArray.empty,(placeD d s k).2) else (seen d s k,0):=rfl
theorem zj7 {a b:tt}:(a.toList == b.toList)=decide (a=b):=by
 rw [Bool.eq_iff_iff,beq_iff_eq,decide_eq_true_eq];exact ⟨λh=>zbQ (by rw [<- Lib.toList_data,<- Lib.toList_data];exact h),λh=>by rw [h]⟩
/-! ### A sector of what was done -/
theorem zez (x:tt) (i j:Nat):x.extract i j=bs ((x.data.toList.take j).drop i):=by
 apply zbQ;rw [bs_data,ByteArray.data_extract,Array.toList_extract,List.extract_eq_take_drop,List.drop_take]
theorem zn3 {α : Type} (X W:List α) (m k:Nat) (C:W.length=64) (hm:64*m+64<=X.length) (hk:64*k+64<=X.length):((X.take (64*m) ++ W ++ X.drop (64*m+64)).take (64*k+64)).drop (64*k)=if m=k then W else (X.take (64*k+64)).drop (64*k):=by
 apply List.ext_getElem?;intro i;by_cases e:m=k
 ·subst e;rw [if_pos rfl,List.getElem?_drop,List.getElem?_take];by_cases hi:i<64
  ·rw [if_pos vd,List.getElem?_append_left (by simp;omega),List.getElem?_append_right (by simp;omega)];congr 1;simp;omega
  rw [if_neg vd,List.getElem?_eq_none vd]
 rw [if_neg e,List.getElem?_drop,List.getElem?_take,List.getElem?_drop,List.getElem?_take];by_cases hi:i<64
 ·rw [if_pos vd,if_pos vd];rcases Nat.lt_or_ge k m with q | q
  ·rw [List.getElem?_append_left (by simp;omega),List.getElem?_append_left (by simp;omega),List.getElem?_take,if_pos vd]
  rw [List.getElem?_append_right (by simp;omega),List.getElem?_drop];congr 1;simp;omega
 rw [if_neg vd,if_neg vd]
theorem zqp {x:tt} {w:Wr} {k:Nat} (Q:64*w.2.1.toNat+64<=x.size) (J:w.2.2.size=64) (hk:64*k+64<=x.size):(putS x w).extract (64*k) (64*k+64)=if w.2.1.toNat=k then w.2.2 else x.extract (64*k) (64*k+64):=by
 rw [zez,zez];have U:x.data.toList.length=x.size:=za5 x;have C:w.2.2.data.toList.length=64:=by rw [za5,J]
 have I:(putS x w).data.toList=x.data.toList.take (64*w.2.1.toNat) ++ w.2.2.data.toList ++ x.data.toList.drop (64*w.2.1.toNat+64):=by unfold putS;rw [bs_data]
 rw [I,zn3 _ _ _ _ C vd vd];split
 ·exact bs_of _
 rfl
theorem zn4 {kp:Nat->Bool} {x:Ext} {l:List Wr} {k:Nat} (C:Fit x l) (hk:64*k+64<=x.2.size):∀ n,n<=l.length->((accW kp x l n).getD x.2).extract (64*k) (64*k+64)=seeW kp l x.1 (k:Int) (x.2.extract (64*k) (64*k+64)) n
 | 0,_=>rfl
 | n+1,h=>by
  have I:=zn4 (kp:=kp) C hk n vd;have hs:=zfC (kp:=kp) C n vd;rw [zf_ kp x l n vd,zb7 _ _ _ _ _ vd];by_cases q:l[n].1=x.1/\kp n=true
  ·obtain ⟨U,J,Q⟩:=C _ (List.getElem_mem (by omega:n<l.length)) q.1;rw [if_pos q,Option.getD_some,zqp (by rw [hs];exact J) Q (by rw [hs];exact hk)];by_cases e:l[n].2.1=(k:Int)
   ·rw [if_pos vd,if_pos ⟨q.1,e,q.2⟩]
   rw [if_neg vd,if_neg (λz=>e z.2.1)];exact I
  rw [if_neg q,if_neg (λz=>q ⟨z.1,z.2.2⟩)];exact I
theorem zhI (kp:Nat->Bool) (l:List Wr) (s:tt) (k:Int) (b:tt):∀ n,seeW kp l s k b n=b \/ ∃ w ∈ l,w.1=s/\w.2.1=k/\seeW kp l s k b n=w.2.2
 | 0=>.inl rfl
 | n+1=>by
  by_cases h:n<l.length
  ·rw [zb7 _ _ _ _ _ h];by_cases q:l[n].1=s/\l[n].2.1=k/\kp n=true
   ·rw [if_pos q];exact .inr ⟨_,List.getElem_mem h,q.1,q.2.1,rfl⟩
   rw [if_neg q];exact zhI kp l s k b n
  rw [seeW,List.getElem?_eq_none vd];exact zhI kp l s k b n
theorem zg2 (kp:Nat->Bool) (l m:List Wr) (s:tt) (k:Int) (b:tt):∀ n,n<=l.length->seeW kp (l ++ m) s k b n=seeW kp l s k b n
 | 0,_=>rfl
 | n+1,h=>by
  rw [zb7 _ _ _ _ _ (show n<(l ++ m).length by simp;omega),zb7 _ _ _ _ _ (show n<l.length by omega),List.getElem_append_left vd,zg2 kp l m s k b n vd]
theorem zn5 (kp:Nat->Bool) (l:List Wr) (w:Wr) (s:tt) (k:Int) (b:tt):seeW kp (l ++ [w]) s k b (l ++ [w]).length=if w.1=s/\w.2.1=k/\kp l.length=true then w.2.2 else seeW kp l s k b l.length:=by
 rw [show (l ++ [w]).length=l.length+1 by simp,zb7 _ _ _ _ _ (by simp),zg2 _ _ _ _ _ _ _ (Nat.le_refl _)];simp
/-! ### Behind what is done -/
theorem zhJ (d:D) (C:tt) (i:Int) (data s:tt) (k:Int):seen (addW d (C,i,data)) s k=if C=s/\i=k then data else seen d s k:=by
 unfold seen addW;rw [zn5];simp only [allK,and_true]
theorem zbB {l:List Ext} (C:Asc l) {x:Ext} (I:x ∈ l):exOf l x.1=x:=by
 obtain ⟨i,hi,rfl⟩:=List.getElem_of_mem I;have e:=zjO C hi;rw [zjZ (by rw [e];exact hi)];simp only [e]
theorem zbr {l:List Ext} {s:tt} (I:Asc l) (h:has l s=true):exOf l s ∈ l/\(exOf l s).1=s:=by
 obtain ⟨x,C,rfl⟩:=zaO.1 h;rw [zbB I C];exact ⟨C,rfl⟩
theorem zeA {f:Ext->Ext} (I:∀ x,(f x).1=x.1) {l:List Ext} {s:tt} (C:Asc l) (h:has l s=true):exOf (l.map f) s=f (exOf l s):=by
 obtain ⟨x,J,rfl⟩:=zaO.1 h;have:=zbB (zn2 I C) (List.mem_map_of_mem J);rw [I] at this;rw [this,zbB C J]
theorem zeB {d:D} {s:tt} {k:Int} (h:(placeD d s k).2=0):has d.ext s=true/\0<=k/\k<sec (exOf d.ext s):=by
 unfold placeD at h;by_cases q:has d.ext s=true
 ·rw [if_pos q] at h;by_cases C:k<0\/(sec (exOf d.ext s):Int)<=k
  ·rw [if_pos C] at h;simp at h
  exact ⟨q,by omega,by omega⟩
 rw [if_neg q] at h;simp at h
theorem zd9 {d:D} {s:tt} {k:Int} (C:Right d) (h:(placeD d s k).2=0) (kp:Nat->Bool):seen (settleD d kp) s k=seeW kp d.waits s k ((exOf d.ext s).2.extract (64*k.toNat) (64*k.toNat+64)) d.waits.length:=by
 obtain ⟨hh,Q,J⟩:=zeB h;obtain ⟨hm,I⟩:=zbr C.ex.asc hh;have hs:=(zdn (C.ex.ok _ hm)).2;obtain ⟨m,rfl⟩ : ∃ m:Nat,k=m:=⟨k.toNat,by omega⟩;unfold seen settleD;simp only [List.length_nil,seeW];rw [zeA (f:=doneX kp d.waits) (λ_=>rfl) C.ex.asc hh];have:=zn4 (kp:=kp) (k:=m) (zga C hm) vd d.waits.length (Nat.le_refl _);rw [I] at this;exact this
end
section
open Go.RowKit
open Mv
theorem zqq {α : Type} {b c n:Nat} {L:List α} {x : α} (h:n=L.length+1):some (outV (some (b,c)) n)=some (outV (some (b,c)) (L ++ [x]).length):=by
 rw [h,List.length_append];rfl
theorem zqr {α : Type} {g : α->tu} {L:List α} {x : α}:L.map g ++ [g x]=(L ++ [x]).map g:=by rw [List.map_append];rfl
theorem zds {α : Type} {S:Mem} {o:Option (Nat × Nat)} {e:tx} {g : α->tu} {L:List α} {x : α} {v:tu} (h:v=g x):(outM S o e ((L ++ [x]).map g)).Less (outM S o e (L.map g ++ [v])):=by
 rw [h,zqr];exact Mem.Less.refl _
theorem zgc {α : Type} {S:Mem} {b c n:Nat} {L:List α} {x : α} (h:OkO S (some (b,c)) n) (C:n=L.length+1):OkO S (some (b,c)) (L ++ [x]).length:=by
 rw [List.length_append];subst C;exact h
theorem sq_ {p:Prop} (h:p:=by first | rfl | (refine zah ?_;first | omega | (dsimp only;omega)) | exact zqq (by first | rfl | omega)):p:=h
theorem zc_ {α β : Type} {g : α -> β} {L:List α}:(L.map g).length=L.length:=List.length_map ..
def RdL {α : Type} (g : α->tu) (l:List α) (S:Mem) (r:tu) (S':Mem):Prop:=S.Less S'/\Sl 1 (λx=>[g x]) S' r l
theorem u0 {α : Type} {g : α->tu} {S:Mem} {o:Option (Nat × Nat)} {e:tx} {l:List α} {n:Nat} (h:OkO S o n) (C:l.length=n) (hm:n<=9223372036854775807):RdL g l S (outV o n) (outM S o e (l.map g)) :=
 ⟨zbg h,zns h C hm⟩
theorem frameM {P:tz} {f:tA} {args:Array tu} {S:Mem} {R:tu->Mem->Prop} (h:ACall P f args S R) {m:Nat} {o:Option (Nat × Nat)} {e:tx} {cs:List tu} (I:OkO S o m) :
  ACall P f args (outM S o e cs) λr S'=>∃ M,R r M/\OkO M o m/\S'=outM M o e cs:=by
 cases o with
 | none=>exact h.mono λr S' C=>⟨S',C,⟨I.nil,λb c e=>(by cases e)⟩,rfl⟩
 | some q=>exact (h.frame (I.own q.1 q.2 rfl).1).mono λr S' ⟨M,C,Q,J⟩=>⟨M,C,⟨λx=>(by cases x),λb c e=>(by cases e;exact ⟨Q,(I.own _ _ rfl).2⟩)⟩,J⟩
theorem zqs {α : Type} (hs:List α) (z v : α) (m i:Nat) (h:hs.length=i) (hi:i<m):(hs ++ List.replicate (m-i) z).set i v=(hs ++ [v]) ++ List.replicate (m-(i+1)) z:=by
 subst h;rw [List.set_append_right _ _ (Nat.le_refl _),Nat.sub_self,show m-hs.length=(m-(hs.length+1))+1 by omega,List.replicate_succ,List.set_cons_zero,List.append_assoc];rfl
theorem zqt {α β : Type} (g : α -> β) (L:List α) (z : α) (m i:Nat) (x : α) (h:L.length=i) (hi:i<m):(L.map g ++ List.replicate (m-i) (g z)).set i (g x)=(L ++ [x]).map g ++ List.replicate (m-(i+1)) (g z):=by
 rw [zqs _ _ _ _ _ (by rw [List.length_map];exact h) hi,List.map_append];rfl
theorem zbZ {α : Type} {S:Mem} {b:Nat} {T:tx} {g : α->tu} {L:List α} {room o:Nat} (k:Nat) (hk:k<L.length) (h:S.own b=some ⟨T,L.map g,room⟩) (C:o=k):S.rd ⟨b,o,none⟩=some (g L[k]):=by
 rw [zeq h,C];simp [hk]
theorem tk {α : Type} {f : α->List tu} {S:Mem} {b o n cap:Nat} {x : α} {l:List α} (h:Sl 1 f S (.slice (some ⟨b,o,none⟩) n cap) (x :: l)):Sl 1 f S (.slice (some ⟨b,if cap=1 then o else o+1*1,none⟩) (n-1) (cap-1)) l:=by
 obtain ⟨a,c,e,J,U,I⟩:=h;cases e;obtain ⟨b',o',Q,hk⟩:=I.resolve_left (λh=>by cases h);cases Q;simp only [List.length_cons] at J U;refine ⟨_,cap-1,by rw [List.length_cons,Nat.add_sub_cancel],by omega,by omega,?_⟩;by_cases hl:l = []
 ·exact .inl hl
 refine .inr ⟨b,_,rfl,λi hi=>?_⟩;have C : ¬ cap=1:=by omega
 rw [if_neg C];have:=hk (i+1) (by rw [List.length_cons];omega);rw [show o+1*1+i*1=o+(i+1)*1 by omega];exact this
theorem th {α : Type} {f : α->List tu} {S:Mem} {b o n cap:Nat} {x : α} {l:List α} (h:Sl 1 f S (.slice (some ⟨b,o,none⟩) n cap) (x :: l)):S.Knows ⟨b,o+0*1,none⟩ (f x)/\n=l.length+1:=by
 obtain ⟨a,c,e,J,Q,I⟩:=h;cases e;obtain ⟨b',o',C,hk⟩:=I.resolve_left (λh=>by cases h);cases C;exact ⟨hk 0 (by simp),rfl⟩
theorem uP {α : Type} {f : α->List tu} {S:Mem} {v:tu} {x : α} {l:List α} (h:Sl 1 f S v (x :: l)):∃ b o cap,v = .slice (some ⟨b,o,none⟩) (l.length+1) cap/\l.length+1<=cap/\cap<=cap:=by
 obtain ⟨a,c,e,C,Q,J⟩:=h;obtain ⟨b',o',I,hk⟩:=J.resolve_left (λh=>by cases h);subst I;exact ⟨b',o',c,e,C,Nat.le_refl _⟩
end
end Go.Proofs.YtbgjkpkakoggbaaGreatDoor
