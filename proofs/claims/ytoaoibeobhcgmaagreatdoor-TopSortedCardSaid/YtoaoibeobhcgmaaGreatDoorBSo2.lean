/-
  Texts that belong together: MemN, DiskMath, Types, Disk1, Disk2, DiskMath2, Disk3, Disk4, Disk5, Disk6, Disk7, Disk8, Shelf, Disk9, Disk10, Disk11, Disk12, Disk13, Disk14, Disk15, Disk16, Disk17, DiskMath3, Disk18.
-/
import Derived.Test.YtoaoibeobhcgmaaGreatDoorBSo1
import Derived.Lib.Overlaps
import Derived.Shelf.Strings.Builder1
import Derived.Shelf.Small.Bits
import Derived.Shelf.Bits.Mul64
import Derived.Shelf.Strings.Repeat
import Derived.Ground.SlsfProg
import Derived.Shelf.SlSortCmp.Whole1
import Derived.Test.YtoaoibeobhcgmaaGreatDoorProg
set_option linter.unusedVariables false
set_option linter.unusedSimpArgs false
set_option linter.unusedSectionVars false
namespace Go.Proofs.YtoaoibeobhcgmaaGreatDoor
section
open Go.RowKit
namespace Mv
/-! ### Less is known of blocks -/
def Mem.Shr (S' S:Mem):Prop:=(∀ b r',S'.own b=some r' → ∃ r,S.own b=some r∧r.elem=r'.elem∧r'.cells <+: r.cells∧r'.room≤r.room)∧S'.ro=S.ro
theorem View.shr {S S':Mem} {w:World} (h:View S w) (hl:S'.Shr S):View S' w :=
 ⟨fun b r' hb=>by
  obtain ⟨r,h1,h2,h3,h4⟩:=hl.1 b r' hb
  obtain ⟨cur,fz,e1,e2,e3,e4⟩:=h.own b r h1
  exact ⟨cur,fz,by rw [← h2];exact e1,h3.trans e2,Nat.le_trans h4 e3,by rw [← h2];exact e4⟩,fun a v ha=>by
  rw [hl.2] at ha
  refine ⟨(h.ro a v ha).1,?_⟩
  cases e:S'.own a.block with
  | none=>rfl
  | some r =>
   obtain ⟨r0,h1,_⟩:=hl.1 _ _ e
   (rw [(h.ro a v ha).2] at h1;cases h1),h.fzOf hl.2 (fun k hk _=>by
  cases e:S'.own k with
  | none=>rfl
  | some r =>
   obtain ⟨r0,h1,_⟩:=hl.1 _ _ e
   rw [hk] at h1;cases h1) fun _ _ _=>rfl⟩
theorem Step.shrL {S S0 S':Mem} {w w':World} (h:Step S0 w S' w') (hl:S0.Shr S) (hs:∀ k,S.own k≠none→S0.own k≠none):Step S w S' w' :=
 ⟨h.view,h.os,h.tape,h.output,h.size,fun k hk hn=>h.block k hk (by
  cases e:S0.own k with
  | none=>rfl
  | some r=>obtain ⟨r0,h1,_⟩:=hl.1 _ _ e;rw [hn] at h1;cases h1),fun k hk=>by
  rcases h.dom k hk with x | x
  ·left
   intro e
   cases e0:S0.own k with
   | none=>exact x e0
   | some r=>obtain ⟨r0,h1,_⟩:=hl.1 _ _ e0;rw [e] at h1;cases h1
  ·exact .inr x,fun a v hv=>by
  rcases h.ro a v hv with x | x | x
  ·exact .inl (by rw [← hl.2];exact x)
  ·refine .inr (.inl fun e=>?_)
   cases e0:S0.own a.block with
   | none=>exact x e0
   | some r=>obtain ⟨r0,h1,_⟩:=hl.1 _ _ e0;rw [e] at h1;cases h1
  ·exact .inr (.inr x)⟩
theorem zls {S:Mem} {b:Nat} {e:TypeId} {cs cs':List Value} {m m':Nat} (h:cs' <+: cs) (hm:m'≤m):(S.set b ⟨e,cs',m'⟩).Shr (S.set b ⟨e,cs,m⟩) :=
 ⟨fun k r' hk=>by
  by_cases x:k=b
  ·subst x
   rw [Mem.own_set_same] at hk ⊢
   cases hk
   exact ⟨_,rfl,rfl,h,hm⟩
  ·rw [Mem.own_set_other _ _ x] at hk ⊢
   exact ⟨r',hk,rfl,List.prefix_rfl,Nat.le_refl _⟩,rfl⟩
theorem zqP {S:Mem} {b:Nat} {r r':Blk}:∀ k,(S.set b r).own k≠none→(S.set b r').own k≠none:=fun k hk=>by
 by_cases x:k=b
 ·subst x;rw [Mem.own_set_same];simp
 ·rw [Mem.own_set_other _ _ x] at hk ⊢;exact hk
theorem AWP.cut {P:Program} {N:Nat} {c:Code} {Q:Exit→Env→Mem→Prop} {E:Env} {S:Mem} {b:Nat} {e:TypeId} {cs cs':List Value} {m m':Nat} (h:cs' <+: cs) (hm:m'≤m) (hA:AWP P N c Q E (S.set b ⟨e,cs',m'⟩)):AWP P N c Q E (S.set b ⟨e,cs,m⟩):=fun a w hg hv =>
 wp_mono (hA a w hg (hv.shr (zls h hm))) fun _ _ _ ⟨E',S',hq,hg',hs⟩=>⟨E',S',hq,hg',hs.shrL (zls h hm) zqP⟩
def outN (n:Nat) (S:Mem) (o:Option (Nat × Nat)) (e:TypeId) (cs:List Value):Mem:=match o with
  | none=>S
  | some (b,c)=>S.set b ⟨e,cs,c*n⟩
theorem za9 {n:Nat} {S:Mem} {o:Option (Nat × Nat)} {k:Nat} {e:TypeId} {cs:List Value} (h:OkO S o k):S.Less (outN n S o e cs):=by
 cases o with
 | none=>exact Mem.Less.refl _
 | some q=>exact Mem.less_set _ _ _ (h.own q.1 q.2 rfl).1.1
theorem zaB {n:Nat} {S:Mem} {o:Option (Nat × Nat)} {e:TypeId} {cs:List Value} {b:Nat} (h:Fresh (outN n S o e cs) b):Fresh S b ∧ ∀ q c,o=some (q,c)→b≠q:=by
 cases o with
 | none=>exact ⟨h,fun q c x=>by cases x⟩
 | some q=>obtain ⟨h1,h2⟩:=zaa h;exact ⟨h1,fun q' c x=>by cases x;exact h2⟩
section
variable {P:Program} {N:Nat} {ops:Array Oper} {E:Env} {S:Mem} {K:Env→Mem→Prop}
variable {ty:TypeId} {pos:String} {aft:Array Edge} {gd:Option (Nat × Bool)}
theorem ARun.appendRunK {os:List Oper} {T e:TypeId} {n y:Nat} {z:List Value} {x1 x2:Operand} {b k c:Nat} {xs news:List Value} {a2:Addr} {m c2 d:Nat} (hn:d<N) (hT:slT P T=some (e,n,y,z)) (hz:z.length=n)
  (hx:ev E x1=some (.slice (some ⟨b,0,none⟩) k c)) (hb:S.own b=some ⟨e,xs,c*n⟩) (hxs:xs.length=k*n)
  (hy:ev E x2=some (.slice (some a2) m c2)) (hnews:S.Knows a2 news) (hnl:news.length=m*n) (h1:∀ v ∈ news,v.oneCell'=true) (hfit:(k+m)*y≤140737488355328) (h63:k+m≤9223372036854775807)
  (h:∀ b' c',Fresh (S.del b) b'→k+m≤c'→ARun P N ops os K ((d,.slice (some ⟨b',0,none⟩) (k+m) c') :: E) ((S.del b).set b' ⟨e,xs ++ news,c'*n⟩)) :
  ARun P N ops (⟨some d,.call ⟨.builtin .append,#[x1,x2],#[T,T]⟩,ty,pos,aft,none⟩ :: os) K E S:=fun a w g hv=>by
 rw [if_pos (by simp [Region.wanted])]
 obtain ⟨hu,i,v,e1,e2,rfl,rfl,rfl⟩:=zaH hT
 have hz':v.cells.size=i.size:=by simpa using hz
 have hex:(execOp a.eval ⟨some d,.call ⟨.builtin .append,#[x1,x2],#[T,T]⟩,ty,pos,aft,none⟩).run P w=((Builtin.append_ #[T,T] ty #[.slice (some ⟨b,0,none⟩) k c,.slice (some a2) m c2]).run P w).andThen fun v w'=>.ok (.value v) w':=by
  simp [execOp,resolve,invoke,builtin,g.ev hx,g.ev hy]
 unfold Oper.wp
 rw [hex]
 by_cases hroom:k+m≤c
 ·obtain ⟨q1,q2⟩:=za5 (P:=P) hv hb (vs:=news) (o:=k*i.size) (by simp [hxs]) (.inr (by simp only [hnl];rw [← Nat.add_mul];exact Nat.mul_le_mul_right _ hroom)) h1
  have hf:=run_firstCells_some (P:=P) w i.size m a2 m c2 news hnl (fun j u hj=>hnews w hv j u hj)
  have hr:(Builtin.append_ #[T,T] ty #[.slice (some ⟨b,0,none⟩) k c,.slice (some a2) m c2]).run P w = .ok (.slice (some ⟨b,0,none⟩) (k+m) c) (w.setCells b (k*i.size) news):=by
   simp [Builtin.append_,run_underlying hu,sizeOf,typeInfo,e1,Builtin.lenOf,hroom,hf,zaz,q1]
  rw [hr]
  have hsp:spl xs (k*i.size) news=xs ++ news:=by
   unfold spl
   rw [List.take_of_length_le (by omega),List.drop_of_length_le (by omega),List.append_nil]
  simp only [hsp] at q2
  refine ⟨_,_,h b c (zeR (fun a v ha=>(hv.ro a v ha).2) hb) hroom,g.put hn _,?_⟩
  rw [del_set];exact q2
 ·have hfit':Builtin.nextslicecap (k+m) c*i.bytes≤281474976710656:=growslice_fits (by omega) hfit
  have hr:=run_append_grow (P:=P) w T ty e i v hu e1 e2 ⟨b,0,none⟩ k c xs hxs (fun j u hj=>hv.rd (by rw [zaz,Nat.zero_add,zdf hb];exact hj)) a2 m c2 news hnl (fun j u hj=>hnews w hv j u hj) (by omega) (by omega) hfit'
  rw [hr]
  have hge:=grownCap_ge w (k+m) c e
  have hvd:View S w.drew:=hv.drawn _
  have hst:=Step.allocP hvd e (xs.toArray ++ news.toArray ++ Builtin.zeroCells v.cells (grownCap w (k+m) c e-(k+m))) (xs ++ news) (grownCap w (k+m) c e*i.size) (by simp [List.append_assoc]) (by
   simp only [Array.size_append,List.size_toArray,size_zeroCells,hz',hxs,hnl,← Nat.add_mul]
   exact Nat.mul_le_mul_right _ (by omega))
  refine ⟨_,_,h w.heap.size (grownCap w (k+m) c e) (hv.freshAt.less (Less.del S b)) hge,g.put hn _,?_⟩
  exact ((Step.drawn hv _).trans hst).less (zb5 S b _ _)
theorem ARun.appendNilK {os:List Oper} {T e:TypeId} {n y:Nat} {z:List Value} {x1 x2:Operand} {news:List Value} {a2:Addr} {m c2 d:Nat} (hn:d<N) (hT:slT P T=some (e,n,y,z)) (hz:z.length=n)
  (hx:ev E x1=some (.slice none 0 0)) (hy:ev E x2=some (.slice (some a2) m c2)) (hnews:S.Knows a2 news) (hnl:news.length=m*n) (hm:0<m) (hfit:m*y≤140737488355328) (h63:m≤9223372036854775807)
  (h:∀ b' c',Fresh S b'→m≤c'→ARun P N ops os K ((d,.slice (some ⟨b',0,none⟩) m c') :: E) (S.set b' ⟨e,news,c'*n⟩)) :
  ARun P N ops (⟨some d,.call ⟨.builtin .append,#[x1,x2],#[T,T]⟩,ty,pos,aft,none⟩ :: os) K E S:=fun a w g hv=>by
 rw [if_pos (by simp [Region.wanted])]
 obtain ⟨hu,i,v,e1,e2,rfl,rfl,rfl⟩:=zaH hT
 have hz':v.cells.size=i.size:=by simpa using hz
 have hex:(execOp a.eval ⟨some d,.call ⟨.builtin .append,#[x1,x2],#[T,T]⟩,ty,pos,aft,none⟩).run P w=((Builtin.append_ #[T,T] ty #[.slice none 0 0,.slice (some a2) m c2]).run P w).andThen fun v w'=>.ok (.value v) w':=by
  simp [execOp,resolve,invoke,builtin,g.ev hx,g.ev hy]
 unfold Oper.wp
 rw [hex,run_append_nil (P:=P) w T ty e i v hu e1 e2 a2 m c2 news hnl (fun j u hj=>hnews w hv j u hj) hm (by omega) (by omega)]
 have hge:=grownCap_ge w m 0 e
 have hvd:View S w.drew:=hv.drawn _
 have hst:=Step.allocP hvd e (news.toArray ++ Builtin.zeroCells v.cells (grownCap w m 0 e-m)) news (grownCap w m 0 e*i.size) (by simp) (by
  simp only [Array.size_append,List.size_toArray,size_zeroCells,hz',hnl,← Nat.add_mul]
  exact Nat.mul_le_mul_right _ (by omega))
 exact ⟨_,_,h w.heap.size (grownCap w m 0 e) hv.freshAt hge,g.put hn _,(Step.drawn hv _).trans hst⟩
theorem ARun.appendRoom {os:List Oper} {T e:TypeId} {n y:Nat} {z:List Value} {x1 x2:Operand} {b o k c:Nat} {r:Blk} {news:List Value} {a2:Addr} {m c2 d:Nat} (hn:d<N) (hT:slT P T=some (e,n,y,z))
  (hx:ev E x1=some (.slice (some ⟨b,o,none⟩) k c)) (hb:S.own b=some r) (ho:o+k*n≤r.cells.length)
  (hy:ev E x2=some (.slice (some a2) m c2)) (hnews:S.Knows a2 news) (hnl:news.length=m*n) (h1:∀ v ∈ news,v.oneCell'=true) (hroom:k+m≤c) (hfit:o+k*n+news.length≤r.cells.length∨o+k*n+news.length≤r.room)
  (h:ARun P N ops os K ((d,.slice (some ⟨b,o,none⟩) (k+m) c) :: E) (S.set b ⟨r.elem,spl r.cells (o+k*n) news,r.room⟩)) :
  ARun P N ops (⟨some d,.call ⟨.builtin .append,#[x1,x2],#[T,T]⟩,ty,pos,aft,none⟩ :: os) K E S:=fun a w g hv=>by
 rw [if_pos (by simp [Region.wanted])]
 obtain ⟨hu,i,v,e1,e2,rfl,rfl,rfl⟩:=zaH hT
 have hex:(execOp a.eval ⟨some d,.call ⟨.builtin .append,#[x1,x2],#[T,T]⟩,ty,pos,aft,none⟩).run P w=((Builtin.append_ #[T,T] ty #[.slice (some ⟨b,o,none⟩) k c,.slice (some a2) m c2]).run P w).andThen fun v w'=>.ok (.value v) w':=by
  simp [execOp,resolve,invoke,builtin,g.ev hx,g.ev hy]
 unfold Oper.wp
 rw [hex]
 obtain ⟨q1,q2⟩:=za5 (P:=P) hv hb (vs:=news) (o:=o+k*i.size) ho hfit h1
 have hf:=run_firstCells_some (P:=P) w i.size m a2 m c2 news hnl (fun j u hj=>hnews w hv j u hj)
 have hr:(Builtin.append_ #[T,T] ty #[.slice (some ⟨b,o,none⟩) k c,.slice (some a2) m c2]).run P w = .ok (.slice (some ⟨b,o,none⟩) (k+m) c) (w.setCells b (o+k*i.size) news):=by
  simp [Builtin.append_,run_underlying hu,sizeOf,typeInfo,e1,Builtin.lenOf,hroom,hf,zaz,q1]
 rw [hr]
 exact ⟨_,_,h,g.put hn _,q2⟩
theorem ARun.copyK {os:List Oper} {T T2 e:TypeId} {n y:Nat} {z:List Value} {x1 x2:Operand} {b o k c:Nat} {r:Blk} {news:List Value} {a2:Addr} {m c2 q d:Nat} (hn:d<N) (hT:slT P T=some (e,n,y,z))
  (hx:ev E x1=some (.slice (some ⟨b,o,none⟩) k c)) (hb:S.own b=some r) (ho:o≤r.cells.length)
  (hy:ev E x2=some (.slice (some a2) m c2)) (hq:q=min m k) (hnews:S.Knows a2 news) (hnl:news.length=q*n) (h1:∀ v ∈ news,v.oneCell'=true) (hfit:o+news.length≤r.cells.length∨o+news.length≤r.room)
  (h:ARun P N ops os K ((d,.int .i64 (q:Int)) :: E) (S.set b ⟨r.elem,spl r.cells o news,r.room⟩)) :
  ARun P N ops (⟨some d,.call ⟨.builtin .copy,#[x1,x2],#[T,T2]⟩,ty,pos,aft,none⟩ :: os) K E S:=fun a w g hv=>by
 rw [if_pos (by simp [Region.wanted])]
 obtain ⟨hu,i,v,e1,e2,rfl,rfl,rfl⟩:=zaH hT
 have hex:(execOp a.eval ⟨some d,.call ⟨.builtin .copy,#[x1,x2],#[T,T2]⟩,ty,pos,aft,none⟩).run P w=((Builtin.copy_ #[T,T2] ty #[.slice (some ⟨b,o,none⟩) k c,.slice (some a2) m c2]).run P w).andThen fun v w'=>.ok (.value v) w':=by
  simp [execOp,resolve,invoke,builtin,g.ev hx,g.ev hy]
 unfold Oper.wp
 rw [hex]
 obtain ⟨q1,q2⟩:=za5 (P:=P) hv hb (vs:=news) (o:=o) ho hfit h1
 have hf:=run_firstCells_some (P:=P) w i.size q a2 m c2 news hnl (fun j u hj=>hnews w hv j u hj)
 have hq':Nat.min m k=q:=hq.symm
 have hr:(Builtin.copy_ #[T,T2] ty #[.slice (some ⟨b,o,none⟩) k c,.slice (some a2) m c2]).run P w = .ok (.int .i64 (q:Int)) (w.setCells b o news):=by
  simp [Builtin.copy_,run_underlying hu,sizeOf,typeInfo,e1,Builtin.lenOf,hq',hf,q1,goInt]
 rw [hr]
 exact ⟨_,_,h,g.put hn _,q2⟩
theorem ARun.clearK {os:List Oper} {T e:TypeId} {n y:Nat} {z:List Value} {x1:Operand} {b o k c:Nat} {r:Blk} (hT:slT P T=some (e,n,y,z)) (hz:z.length=n) (hz1:∀ v ∈ z,v.oneCell'=true)
  (hx:ev E x1=some (.slice (some ⟨b,o,none⟩) k c)) (hb:S.own b=some r) (ho:o≤r.cells.length) (hfit:o+k*n≤r.cells.length∨o+k*n≤r.room)
  (h:∀ zs:List Value,zs.length=k*n→ARun P N ops os K E (S.set b ⟨r.elem,spl r.cells o zs,r.room⟩)) :
  ARun P N ops (⟨none,.call ⟨.builtin .clear,#[x1],#[T]⟩,ty,pos,aft,none⟩ :: os) K E S:=fun a w g hv=>by
 rw [if_pos (by simp [Region.wanted])]
 obtain ⟨hu,i,v,e1,e2,rfl,rfl,rfl⟩:=zaH hT
 have hz':v.cells.size=i.size:=by simpa using hz
 have hex:(execOp a.eval ⟨none,.call ⟨.builtin .clear,#[x1],#[T]⟩,ty,pos,aft,none⟩).run P w=((Builtin.clear_ #[T] ty #[.slice (some ⟨b,o,none⟩) k c]).run P w).andThen fun v w'=>.ok (.value v) w':=by
  simp [execOp,resolve,invoke,builtin,g.ev hx]
 unfold Oper.wp
 rw [hex]
 have hzl:(Builtin.zeroCells v.cells k).toList.length=k*i.size:=by rw [Array.length_toList,size_zeroCells,hz']
 have h1:∀ u ∈ (Builtin.zeroCells v.cells k).toList,u.oneCell'=true:=fun u hu=>by
  simp only [Builtin.zeroCells,Array.toList_map,List.mem_map,Array.toList_range,List.mem_range] at hu
  obtain ⟨j,hj,rfl⟩:=hu
  have hp:0<v.cells.size:=by
   rcases Nat.eq_zero_or_pos v.cells.size with h0 | h0
   ·rw [h0] at hj;omega
   ·exact h0
  have hlt:j % v.cells.size<v.cells.size:=Nat.mod_lt _ hp
  have e0:v.cells[j % v.cells.size]! = v.cells[j % v.cells.size]:=getElem!_pos v.cells _ hlt
  rw [e0]
  exact hz1 _ (by simp)
 obtain ⟨q1,q2⟩:=za5 (P:=P) hv hb (vs:=(Builtin.zeroCells v.cells k).toList) (o:=o) ho (by rw [hzl];exact hfit) h1
 have hr:(Builtin.clear_ #[T] ty #[.slice (some ⟨b,o,none⟩) k c]).run P w = .ok (.tuple #[]) (w.setCells b o (Builtin.zeroCells v.cells k).toList):=by
  by_cases hk:k=0
  ·subst hk
   have:(Builtin.zeroCells v.cells 0).toList = []:=by apply List.eq_nil_of_length_eq_zero;rw [hzl];simp
   rw [this]
   simp [Builtin.clear_,run_underlying hu,World.setCells]
  ·obtain ⟨k',rfl⟩ : ∃ k',k=k'+1:=⟨k-1,by omega⟩
   have hzv:(zeroValue e).run P w = .ok v w:=by simp [zeroValue,typeInfo,e1,e2]
   simp [Builtin.clear_,run_underlying hu,hzv,q1]
 rw [hr]
 exact ⟨_,_,h _ hzl,g.put0 _,q2⟩
theorem Calm.cap {T e:TypeId} {x:Operand} {a:Option Addr} {k c:Nat} {dst:Option Nat} (hT:P.underlying T=some (.slice e)) (hx:ev E x=some (.slice a k c)):ACalm P N ⟨dst,.call ⟨.builtin .cap,#[x],#[T]⟩,ty,pos,aft,gd⟩ E S (.int .i64 (c:Int)):=fun ac w g hv=>by
 simp [execOp,resolve,invoke,builtin,g.ev hx,Builtin.cap_,run_underlying hT,goInt]
end
/-! ### Appending to a slice of one's own -/
def Src (M:Mem) (v:Value) (m:Nat) (news:List Value):Prop:=∃ A c,v = .slice A m c∧(m=0 ∨ ∃ a,A=some a∧M.Knows a news)
theorem Src.less {M M':Mem} {v:Value} {m:Nat} {news:List Value} (h:Src M v m news) (hl:M.Less M'):Src M' v m news:=by
 obtain ⟨A,c,e,h⟩:=h
 exact ⟨A,c,e,h.imp id fun ⟨a,e2,k⟩=>⟨a,e2,k.less hl⟩⟩
theorem zaq {α : Type} {n:Nat} {f : α→List Value} (hn:∀ x,(f x).length=n) (l:List α):(l.flatMap f).length=l.length*n:=by
 induction l with
 | nil=>simp
 | cons x l ih=>rw [List.flatMap_cons,List.length_append,hn,ih,List.length_cons,Nat.succ_mul,Nat.add_comm]
theorem zfz {α : Type} {n:Nat} {f : α→List Value} (hn:∀ x,(f x).length=n):∀ (l:List α) (j:Nat) (v:Value),(l.flatMap f)[j]?=some v → ∃ (i q:Nat) (h:i<l.length),j=i*n+q∧q<n∧(f l[i])[q]?=some v
 | [],j,v,h=>by simp at h
 | x :: l,j,v,h=>by
  rw [List.flatMap_cons] at h
  by_cases hj:j<(f x).length
  ·rw [List.getElem?_append_left hj] at h
   rw [hn] at hj
   exact ⟨0,j,by simp,by omega,hj,h⟩
  ·rw [List.getElem?_append_right (by omega)] at h
   rw [hn] at hj h
   obtain ⟨i,q,hi,e,hq,hv⟩:=zfz hn l (j-n) v h
   exact ⟨i+1,q,by simpa using hi,by rw [Nat.succ_mul];omega,hq,by simpa using hv⟩
theorem Sl.allN {α : Type} {n:Nat} {f : α→List Value} (hn:∀ x,(f x).length=n) {S:Mem} {b off:Nat} {len cap:Nat} {l:List α} (h:Sl n f S (.slice (some ⟨b,off,none⟩) len cap) l):S.Knows ⟨b,off,none⟩ (l.flatMap f):=fun w hv j v hj=>by
 obtain ⟨i,q,hi,rfl,hq,hx⟩:=zfz hn l j v hj
 have:=h.at1 i hi w hv q v hx
 rw [zaz] at this ⊢
 rw [← this];congr 2;omega
theorem Sl.src {α : Type} {n:Nat} {f : α→List Value} (hn:∀ x,(f x).length=n) {S:Mem} {v:Value} {l:List α} (h:Sl n f S v l):Src S v l.length (l.flatMap f):=by
 obtain ⟨a,c,rfl,_,_,h4⟩:=id h
 refine ⟨a,c,rfl,?_⟩
 rcases h4 with rfl | ⟨b,off,rfl,_⟩
 ·left;rfl
 ·right;exact ⟨_,rfl,Sl.allN hn h⟩
theorem zd6 {S:Mem} {b c:Nat} {r:Blk} {news:List Value} {m:Nat} (h:S.own b=some r) (hc:news <+: r.cells):Src S (.slice (some ⟨b,0,none⟩) m c) m news:=⟨_,c,rfl,.inr ⟨_,rfl,(zfy h hc).knows⟩⟩
structure AppN (n:Nat) (M S:Mem) (o:Option (Nat × Nat)) (e:TypeId) (cs:List Value):Prop where
  nil:o=none→cs = []∧S.Less M
  own:∀ b c,o=some (b,c)→M.own b=some ⟨e,cs,c*n⟩∧S.Less (M.del b)
theorem zbK {n:Nat} {S:Mem} {o:Option (Nat × Nat)} {k:Nat} {e:TypeId} {cs:List Value} (h:OkO S o k) (hn:cs.length=k*n):AppN n (outN n S o e cs) S o e cs:=by
 refine ⟨fun ho=>?_,fun b c ho=>?_⟩
 ·subst ho
  exact ⟨List.eq_nil_of_length_eq_zero (by rw [hn,h.nil rfl,Nat.zero_mul]),Mem.Less.refl _⟩
 ·subst ho
  refine ⟨Mem.own_set_same _ _ _,?_⟩
  rw [show (outN n S (some (b,c)) e cs).del b=S from zcu (zgb (h.own b c rfl).1)]
  exact Mem.Less.refl _
theorem AppN.temp {n:Nat} {M S:Mem} {o:Option (Nat × Nat)} {e:TypeId} {cs:List Value} {t:Nat} {r:Blk} (h:AppN n M S o e cs) (ht:Fresh M t):AppN n (M.set t r) S o e cs:=by
 refine ⟨fun ho=>⟨(h.nil ho).1,(h.nil ho).2.trans (Mem.less_set _ _ _ ht.1)⟩,fun b c ho=>?_⟩
 obtain ⟨h1,h2⟩:=h.own b c ho
 have hne:=ht.ne h1
 refine ⟨(Mem.own_set_other _ _ hne).trans h1,h2.trans ⟨fun k r' hk=>?_,rfl⟩⟩
 have hkb:k≠b:=fun e=>by subst e;simp [Mem.del] at hk
 rw [Mem.own_del_other _ hkb] at hk ⊢
 exact (Mem.own_set_other _ _ (Ne.symm (ht.ne' hk))).trans hk
section
variable {P:Program} {N:Nat} {ops:Array Oper} {E:Env} {S M:Mem} {K:Env→Mem→Prop}
variable {ty:TypeId} {pos:String} {aft:Array Edge} {gd:Option (Nat × Bool)}
theorem ARun.appendOK {os:List Oper} {T e:TypeId} {n y:Nat} {z:List Value} {x1 x2:Operand} {o:Option (Nat × Nat)} {k m d:Nat} {cs news:List Value} {v:Value} (hn:d<N) (hT:slT P T=some (e,n,y,z)) (hz:z.length=n)
  (hx:ev E x1=some (outV o k)) (hcs:cs.length=k*n) (hok:OkO S o k) (happ:AppN n M S o e cs) (hy:ev E x2=some v) (hv:Src M v m news) (hnl:news.length=m*n) (h1:∀ v ∈ news,v.oneCell'=true) (hfit:(k+m)*y≤140737488355328) (h63:k+m≤9223372036854775807)
  (h:∀ o',OkO S o' (k+m)→ARun P N ops os K ((d,outV o' (k+m)) :: E) (outN n S o' e (cs ++ news))) :
  ARun P N ops (⟨some d,.call ⟨.builtin .append,#[x1,x2],#[T,T]⟩,ty,pos,aft,none⟩ :: os) K E M:=by
 obtain ⟨A,c2,rfl,hv⟩:=hv
 by_cases hm:m=0
 ·subst hm
  obtain rfl:news = []:=List.eq_nil_of_length_eq_zero (by rw [hnl,Nat.zero_mul])
  have h2:=h o hok
  rw [Nat.add_zero,List.append_nil] at h2
  refine AOp.toLess (K:=fun E' S'=>ARun P N ops os K E' S') ?_
  cases o with
  | none =>
   have h0:=hok.nil rfl;subst h0
   exact ARun.appendNone (os:=[]) hn hT (Nat.le_refl 0) hx hy ⟨S,(happ.nil rfl).2,h2⟩
  | some q =>
   obtain ⟨b,c⟩:=q
   obtain ⟨p1,p2⟩:=happ.own b c rfl
   refine ARun.appendNone (os:=[]) hn hT (hok.own b c rfl).2 hx hy ⟨_,?_,h2⟩
   refine ⟨fun k' r hk=>?_,p2.2⟩
   by_cases ek:k'=b
   ·subst ek;rw [show (outN n S (some (k',c)) e cs).own k'=_ from Mem.own_set_same _ _ _] at hk;rw [p1];exact hk
   ·rw [show (outN n S (some (b,c)) e cs).own k'=_ from Mem.own_set_other _ _ ek] at hk
    have:=p2.1 _ _ hk
    rwa [Mem.own_del_other _ ek] at this
 ·obtain ⟨a2,rfl,hk⟩:=hv.resolve_left hm
  cases o with
  | none =>
   have h0:=hok.nil rfl;subst h0
   obtain ⟨q1,q2⟩:=happ.nil rfl
   subst q1
   refine AOp.toLess (K:=fun E' S'=>ARun P N ops os K E' S') ?_
   refine ARun.appendNilK (os:=[]) hn hT hz hx hy hk hnl (by omega) (by simpa using hfit) (by omega) fun b c hb hc=>?_
   refine ⟨S.set b ⟨e,news,c*n⟩,Less.set q2 _ _,?_⟩
   have:=h (some (b,c)) ⟨(fun x=>by cases x),fun b' c' x=>by cases x;exact ⟨hb.less q2,by omega⟩⟩
   simpa [outN,outV] using this
  | some q =>
   obtain ⟨b0,c0⟩:=q
   obtain ⟨q1,q2⟩:=happ.own b0 c0 rfl
   refine AOp.toLess (K:=fun E' S'=>ARun P N ops os K E' S') ?_
   refine ARun.appendRunK (os:=[]) hn hT hz hx q1 hcs hy hk hnl h1 hfit h63 fun b c hb hc=>?_
   refine ⟨S.set b ⟨e,cs ++ news,c*n⟩,Less.set q2 _ _,?_⟩
   exact h (some (b,c)) ⟨(fun x=>by cases x),fun b' c' x=>by cases x;exact ⟨hb.less q2,hc⟩⟩
end
theorem zcP {α : Type} {n:Nat} {f : α→List Value} (hn:∀ x,(f x).length=n) {S:Mem} {o:Option (Nat × Nat)} {e:TypeId} {l:List α} {k:Nat} (h:OkO S o k) (hl:l.length=k) (hm:k≤9223372036854775807):Sl n f (outN n S o e (l.flatMap f)) (outV o k) l:=by
 subst hl
 cases o with
 | none=>obtain rfl:l = []:=List.eq_nil_of_length_eq_zero (h.nil rfl);exact Sl.nil _ _ _
 | some q=>exact Sl.own (r:=⟨e,l.flatMap f,q.2*n⟩) (Mem.own_set_same _ _ _) hn List.prefix_rfl rfl (h.own _ _ rfl).2 hm
def OwnR {α : Type} (n:Nat) (f : α→List Value) (e:TypeId) (l:List α) (S:Mem) (r:Value) (S':Mem):Prop:=∃ o,OkO S o l.length∧r=outV o l.length∧S'=outN n S o e (l.flatMap f)
section
variable {P:Program} {N:Nat} {ops:Array Oper} {E:Env} {S:Mem} {K:Env→Mem→Prop}
variable {ty:TypeId} {pos:String} {aft:Array Edge} {gd:Option (Nat × Bool)}
theorem ARun.overlapsNo {os : List Oper} {f : FuncId} {fn : Func} {T tR e : TypeId} {n : Nat} {xs : List Operand} {ats : Array TypeId} {t b o1 o2 la ca lb cb d : Nat} {r r2 : Blk} (hn : d < N) (hf : P.funcs[f]? = some fn) (hname : (fn.name == "runtime.NumGoroutine") = false) (hb : fn.body.isNone = true)
  (hx':Extern.findNext fn=none) (he:Extern.find fn=some (Extern.SlicesOverlaps.overlaps #[T,T] #[tR])) (ht:P.underlying T=some (.slice e)) (hz:sizeT P e=some n) (hx:evs E xs=some [.slice (some ⟨t,o1,none⟩) la ca,.slice (some ⟨b,o2,none⟩) lb cb])
  (h1:S.own t=some r) (hne:r.elem≠5) (ho1:o1<r.cells.length) (h2:S.own b=some r2) (hr2:0<r2.cells.length) (htb:t≠b)
  (h:ARun P N ops os K ((d,.bool false) :: E) S):ARun P N ops (⟨some d,.call ⟨.value (.func f),xs.toArray,ats⟩,ty,pos,aft,none⟩ :: os) K E S:=fun a w g hv=>by
 rw [if_pos (by simp [Region.wanted])]
 unfold Oper.wp
 have hc:execOp a.eval ⟨some d,.call ⟨.value (.func f),xs.toArray,ats⟩,ty,pos,aft,none⟩=callFunc f #[.slice (some ⟨t,o1,none⟩) la ca,.slice (some ⟨b,o2,none⟩) lb cb]:=by
  rw [execOp_call_go]
  simp [g.evs hx]
 obtain ⟨cur,fz,e1,e2,e3,e4⟩:=hv.own t r h1
 obtain ⟨cur2,fz2,k1,k2,k3,k4⟩:=hv.own b r2 h2
 have hl1:r.cells.length≤cur.size:=by have:=e2.length_le;simpa using this
 have hl2:r2.cells.length≤cur2.size:=by have:=k2.length_le;simpa using this
 have hr:=Lib.run_overlaps_apart (P:=P) w T tR e ht n (fun w=>zaS hz w) ⟨t,o1,none⟩ ⟨b,o2,none⟩ la ca lb cb htb r.elem r2.elem cur.size cur2.size (by simp [World.shape?,e1]) (by simp [World.shape?,k1]) (by omega)
  (by have:=e4 o1 (.inl (by omega));simpa [World.frozen?,e1] using this) (by have:=e4 cur.size (.inr ⟨rfl,hne⟩);simpa [World.frozen?,e1] using this)
 rw [hc,run_callFunc_extern hf hname hb hx' he,hr]
 exact ⟨_,_,h,g.put hn _,Step.refl hv⟩
theorem ARun.appendMake {os:List Oper} {T Ti e:TypeId} {n y:Nat} {z:List Value} {x1 x2:Operand} {k c m:Nat} {xs:List Value} {A:Addr} {d:Nat} (hn:d<N) (hT:slT P T=some (e,n,y,z)) (hz:z.length=n) (hTi:P.underlying Ti=some (.int .i64))
  (hx:ev E x1=some (.slice (some A) k c)) (hxs:xs.length=k*n) (hk:S.Knows A xs) (hy:ev E x2=some (.int .i64 (m:Int))) (hgrow:c<k+m) (hfit:(k+m)*y≤140737488355328) (h63:k+m≤9223372036854775807)
  (h:∀ b' c' zs,Fresh S b'→k+m≤c'→zs.length=m*n→ARun P N ops os K ((d,.slice (some ⟨b',0,none⟩) (k+m) c') :: E) (S.set b' ⟨e,xs ++ zs,c'*n⟩)) :
  ARun P N ops (⟨some d,.call ⟨.builtin .append,#[x1,x2],#[T,Ti]⟩,ty,pos,aft,none⟩ :: os) K E S:=fun a w g hv=>by
 rw [if_pos (by simp [Region.wanted])]
 obtain ⟨hu,i,v,e1,e2,rfl,rfl,rfl⟩:=zaH hT
 have hz':v.cells.size=i.size:=by simpa using hz
 have hex:(execOp a.eval ⟨some d,.call ⟨.builtin .append,#[x1,x2],#[T,Ti]⟩,ty,pos,aft,none⟩).run P w=((Builtin.append_ #[T,Ti] ty #[.slice (some A) k c,.int .i64 (m:Int)]).run P w).andThen fun v w'=>.ok (.value v) w':=by
  simp [execOp,resolve,invoke,builtin,g.ev hx,g.ev hy]
 unfold Oper.wp
 rw [hex]
 have hfit':Builtin.nextslicecap (k+m) c*i.bytes≤281474976710656:=growslice_fits (by omega) hfit
 have hf:=run_firstCells_some (P:=P) w i.size k A k c xs hxs (fun j u hj=>hk w hv j u hj)
 have hw:IntKind.i64.wrap (m:Int)=(m:Int):=IntWalk.i64_in _ (by omega)
 have hfo:=run_firstCells_some (P:=P) w.drew i.size k A k c xs hxs (fun j u hj=>by have:=hk w hv j u hj;simpa using this)
 have hm0 : ¬ ((m:Int)<0):=by omega
 have hmx:max (m:Int) 0=(m:Int):=by omega
 have hmy:m*i.bytes≤140737488355328:=Nat.le_trans (Nat.mul_le_mul_right _ (by omega)) hfit
 have hmb : ¬ (281474976710656<(m:Int)*(i.bytes:Int)):=by
  have:((m*i.bytes:Nat):Int)≤140737488355328:=by omega
  rw [Int.natCast_mul] at this;omega
 have hnc : ¬ (k+m≤c):=by omega
 have h63' : ¬ (9223372036854775807<((k:Int)+(m:Int))):=by omega
 have h48' : ¬ (281474976710656<Builtin.nextslicecap (k+m) c*i.bytes):=by omega
 obtain ⟨za,hza,hzl⟩ : ∃ za:Array Value,(if m*i.size=0 then (#[] : Array Value) else Builtin.zeroCells v.cells m)=za∧za.size=m*i.size:=by
  by_cases h0:m*i.size=0
  ·exact ⟨#[],by rw [if_pos h0],by simp [h0]⟩
  ·exact ⟨_,by rw [if_neg h0],by rw [size_zeroCells,hz']⟩
 have hr:(Builtin.append_ #[T,Ti] ty #[.slice (some A) k c,.int .i64 (m:Int)]).run P w = .ok (.slice (some ⟨w.heap.size,0,none⟩) (k+m) (grownCap w (k+m) c e)) (w.drew.alloc (.cells (xs.toArray ++ za ++ Builtin.zeroCells v.cells (grownCap w (k+m) c e-(k+m))) e)):=by
  subst hza
  by_cases h0:m*i.size=0
  ·have h0':=h0
   simp [Builtin.append_,run_underlying hu,run_underlying hTi,sizeOf,typeInfo,zeroValue,e1,e2,asInt,asIntOf,hw,hmx,hm0,hmb,hnc,h63',h48',h0',Question.forced,hfo,newRow,grownCap]
  ·have h0':=h0
   simp [Builtin.append_,run_underlying hu,run_underlying hTi,sizeOf,typeInfo,zeroValue,e1,e2,asInt,asIntOf,hw,hmx,hm0,hmb,hnc,h63',h48',h0',Question.forced,hfo,newRow,grownCap]
 rw [hr]
 have hge:=grownCap_ge w (k+m) c e
 have hvd:View S w.drew:=hv.drawn _
 have hst:=Step.allocP hvd e (xs.toArray ++ za ++ Builtin.zeroCells v.cells (grownCap w (k+m) c e-(k+m))) (xs ++ za.toList) (grownCap w (k+m) c e*i.size) (by simp [List.append_assoc]) (by
  simp only [Array.size_append,List.size_toArray,size_zeroCells,hz',hxs,hzl,← Nat.add_mul]
  exact Nat.mul_le_mul_right _ (by omega))
 exact ⟨_,_,h w.heap.size (grownCap w (k+m) c e) za.toList hv.freshAt hge (by simpa using hzl),g.put hn _,(Step.drawn hv _).trans hst⟩
end
section
variable {P:Program} {N:Nat} {E:Env} {S:Mem} {dst:Option Nat} {ty:TypeId} {pos:String} {aft:Array Edge} {gd:Option (Nat × Bool)}
theorem Calm.sliceLo {T e:TypeId} {x lo:Operand} {kd:IntKind} {j:Int} {b o len cap n:Nat} (l:Nat) (hT:P.underlying T=some (.slice e)) (he:sizeT P e=some n) (hx:ev E x=some (.slice (some ⟨b,o,none⟩) len cap)) (hlo:ev E lo=some (.int kd j)) (hj:j=(l:Int)) (h1:l≤len) (h2:l<cap) :
  ACalm P N ⟨dst,.slice T x (some lo) none none,ty,pos,aft,gd⟩ E S (.slice (some ⟨b,o+l*n,none⟩) (len-l) (cap-l)):=by
 subst hj
 have:=Calm.sliceSl (S:=S) (N:=N) (dst:=dst) (ty:=ty) (pos:=pos) (aft:=aft) (gd:=gd) hT he hx (za4 cap cap) (by simp) (za4 len cap) (zcr 0 len hlo (by omega) (by omega))
 rw [Int.toNat_natCast,if_neg (by omega)] at this
 exact this
theorem Calm.sliceHi {T e:TypeId} {x hi:Operand} {kd:IntKind} {j:Int} {b o len cap n:Nat} (h:Nat) (hT:P.underlying T=some (.slice e)) (he:sizeT P e=some n) (hx:ev E x=some (.slice (some ⟨b,o,none⟩) len cap)) (hhi:ev E hi=some (.int kd j)) (hj:j=(h:Int)) (h1:h≤cap) :
  ACalm P N ⟨dst,.slice T x none (some hi) none,ty,pos,aft,gd⟩ E S (.slice (some ⟨b,o,none⟩) h cap):=by
 subst hj
 have:=Calm.sliceHead (S:=S) (N:=N) (dst:=dst) (ty:=ty) (pos:=pos) (aft:=aft) (gd:=gd) hT he hx (za4 cap cap) (by simp) (zcr len cap hhi (by omega) (by omega))
 rw [Int.toNat_natCast] at this
 exact this
end
end Mv
end
section
open Go.RowKit
namespace Disk
/-! ### Texts in order -/
theorem zlt (a:List UInt8):Op.bytesLess a a=false:=by
 induction a with
 | nil=>rfl
 | cons x a ih=>simp [Op.bytesLess,ih]
theorem zjf:∀ (a b c:List UInt8),Op.bytesLess a b=true→Op.bytesLess b c=true→Op.bytesLess a c=true
 | _,_,[],_,h=>by simp [Op.bytesLess] at h
 | [],_,_ :: _,_,_=>rfl
 | x :: a,[],z :: c,h,_=>by simp [Op.bytesLess] at h
 | x :: a,y :: b,z :: c,h1,h2=>by
  simp only [Op.bytesLess,Bool.or_eq_true,Bool.and_eq_true,decide_eq_true_eq,beq_iff_eq] at h1 h2 ⊢
  rcases h1 with h1 | ⟨rfl,h1⟩
  ·rcases h2 with h2 | ⟨rfl,h2⟩
   ·left;exact UInt8.lt_trans h1 h2
   ·left;exact h1
  ·rcases h2 with h2 | ⟨rfl,h2⟩
   ·left;exact h2
   ·right;exact ⟨rfl,zjf a b c h1 h2⟩
theorem zp4:∀ (a b:List UInt8),a≠b→Op.bytesLess a b=false→Op.bytesLess b a=true
 | [],[],h,_=>absurd rfl h
 | [],_ :: _,_,h=>by simp [Op.bytesLess] at h
 | _ :: _,[],_,_=>rfl
 | x :: a,y :: b,hne,h=>by
  simp only [Op.bytesLess,Bool.or_eq_false_iff,Bool.and_eq_false_iff,decide_eq_false_iff_not,Bool.or_eq_true,Bool.and_eq_true,decide_eq_true_eq,beq_iff_eq] at h ⊢
  by_cases e:x=y
  ·subst e
   right
   refine ⟨rfl,zp4 a b (fun e=>hne (by rw [e])) ?_⟩
   rcases h.2 with h2 | h2
   ·simp at h2
   ·exact h2
  ·left
   have h1:=h.1
   rcases Nat.lt_trichotomy x.toNat y.toNat with h' | h' | h'
   ·exact absurd (UInt8.lt_iff_toNat_lt.2 h') h1
   ·exact absurd (UInt8.toNat_inj.1 h') e
   ·exact UInt8.lt_iff_toNat_lt.2 h'
def lt (a b:ByteArray):Bool:=Op.bytesLess a.data.toList b.data.toList
theorem lt_irrefl (a:ByteArray):lt a a=false:=zlt _
theorem lt_trans {a b c:ByteArray} (h:lt a b=true) (k:lt b c=true):lt a c=true:=zjf _ _ _ h k
theorem zp5 {a b:ByteArray} (hne:a≠b) (h:lt a b=false):lt b a=true:=zp4 _ _ (fun e=>hne (Mv.zbv e)) h
theorem ztU {a b:ByteArray} (h:lt a b=true):a≠b:=fun e=>by subst e;rw [lt_irrefl] at h;cases h
theorem zoc {a b:ByteArray} (h:lt a b=true):lt b a=false:=by
 cases h':lt b a with
 | false=>rfl
 | true=>have:=lt_trans h h';rw [lt_irrefl] at this;cases this
/-! ### What a disk is -/
abbrev Ext:=ByteArray × ByteArray
abbrev Wr:=ByteArray × Int × ByteArray
def extF (x:Ext):List Value:=[.string x.1,.string x.2]
def wrF (x:Wr):List Value:=[.string x.1,.int .i64 x.2.1,.string x.2.2]
structure D where
  size:Int
  ext:List Ext
  waits:List Wr
  fuse:Int
  down:Bool
def D0:D:=⟨0,[],[],0,false⟩
def sec (x:Ext):Nat:=x.2.size / 64
def used:List Ext→Nat
  | []=>0
  | x :: l=>sec x+used l
theorem zaZ (l m:List Ext):used (l ++ m)=used l+used m:=by
 induction l with
 | nil=>simp [used]
 | cons x l ih=>simp only [List.cons_append,used,ih];omega
def nm (s:ByteArray):Prop:=s.size≠0∧s.size≤16
instance (s:ByteArray):Decidable (nm s):=by unfold nm;infer_instance
def eok (x:Ext):Prop:=nm x.1∧x.2.size≠0∧x.2.size % 64=0
instance (x:Ext):Decidable (eok x):=by unfold eok;infer_instance
def Asc (l:List Ext):Prop:=l.Pairwise fun x y=>lt x.1 y.1=true
def wok (l:List Ext) (w:Wr):Prop:=∃ x ∈ l,x.1=w.1∧0≤w.2.1∧w.2.1<sec x∧w.2.2.size=64
structure ERight (l:List Ext) (size:Int):Prop where
  ok:∀ x ∈ l,eok x
  asc:Asc l
  us:(used l:Int)≤size
structure Right (d:D):Prop where
  s0:0≤d.size
  s1:d.size≤16384
  wl:d.waits.length≤16384
  fu : -1≤d.fuse
  ex:ERight d.ext d.size
  wr:∀ w ∈ d.waits,wok d.ext w
theorem zcQ {x:Ext} (h:eok x):1≤sec x∧x.2.size=64*sec x:=by
 obtain ⟨_,h1,h2⟩:=h;unfold sec;omega
theorem zlu {l:List Ext} (h:∀ x ∈ l,eok x):l.length≤used l:=by
 induction l with
 | nil=>simp [used]
 | cons x l ih =>
  have h1:=(zcQ (h x (by simp))).1
  have h2:=ih fun y hy=>h y (by simp [hy])
  simp only [used,List.length_cons];omega
theorem zjg {l:List Ext} {x:Ext} (h:x ∈ l):sec x≤used l:=by
 induction l with
 | nil=>cases h
 | cons y l ih =>
  simp only [used]
  rcases List.mem_cons.1 h with rfl | h
  ·omega
  ·have:=ih h;omega
noncomputable def chkD (d:D):Int:=by
  classical exact if Right d then 0 else 2
theorem zjh {d:D} (h:Right d):chkD d=0:=by unfold chkD;exact if_pos h
theorem zb_ {d:D} (h : ¬ Right d):chkD d=2:=by unfold chkD;exact if_neg h
theorem zlv (d:D):(chkD d=0∧Right d)∨(chkD d=2 ∧ ¬ Right d):=by
 by_cases h:Right d
 ·exact .inl ⟨zjh h,h⟩
 ·exact .inr ⟨zb_ h,h⟩
/-! ### Where an extent is -/
def pos (l:List Ext) (s:ByteArray):Nat:=(l.takeWhile fun x=>lt x.1 s).length
def has (l:List Ext) (s:ByteArray):Bool:=l.any fun x=>decide (x.1=s)
theorem zbd {l:List Ext} {s:ByteArray}:has l s=true ↔ ∃ x ∈ l,x.1=s:=by simp [has]
theorem zlw (l:List Ext) (s:ByteArray):pos l s≤l.length:=by
 unfold pos;exact (List.takeWhile_prefix _).length_le
theorem zod {x:Ext} {l:List Ext} (h:Asc (x :: l)):Asc l:=(List.pairwise_cons.1 h).2
theorem zdp {l:List Ext} (h:Asc l) {i j:Nat} (hj:j<l.length) (hij:i<j):lt l[i].1 l[j].1=true:=List.pairwise_iff_getElem.1 h i j (by omega) hj hij
theorem zh_ {l:List Ext} {s:ByteArray} {k:Nat} (hk:k≤l.length) (h1:∀ i (h:i<l.length),i<k→lt l[i].1 s=true) (h2:∀ (h:k<l.length),lt l[k].1 s=false):pos l s=k:=by
 induction l generalizing k with
 | nil=>simp at hk;subst hk;rfl
 | cons x l ih =>
  unfold pos
  cases k with
  | zero =>
   have:=h2 (by simp)
   simp only [List.getElem_cons_zero] at this
   rw [List.takeWhile_cons,this];rfl
  | succ k =>
   have h0:=h1 0 (by simp) (by omega)
   simp only [List.getElem_cons_zero] at h0
   rw [List.takeWhile_cons,h0]
   simp only [if_true,List.length_cons]
   have:=ih (k:=k) (by simpa using hk) (fun i h hi=>by have:=h1 (i+1) (by simpa using h) (by omega);simpa using this) (fun h=>by have:=h2 (by simpa using h);simpa using this)
   unfold pos at this;omega
theorem zsK {l:List Ext} {s:ByteArray} {i:Nat} (hi:i<l.length) (h:i<pos l s):lt l[i].1 s=true:=by
 unfold pos at h
 have hp:=List.takeWhile_prefix (l:=l) (fun x=>lt x.1 s)
 have h2:(l.takeWhile fun x=>lt x.1 s)[i]=l[i]:=List.IsPrefix.getElem hp h
 have h3:=List.all_takeWhile (p:=fun x:Ext=>lt x.1 s) (l:=l)
 have:=List.all_eq_true.1 h3 _ (List.getElem_mem h)
 rw [h2] at this;exact this
theorem zsL {l:List Ext} {s:ByteArray} (h:pos l s<l.length):lt l[pos l s].1 s=false:=by
 induction l with
 | nil=>simp at h
 | cons x l ih =>
  by_cases hx:lt x.1 s=true
  ·have e:pos (x :: l) s=pos l s+1:=by unfold pos;rw [List.takeWhile_cons,hx];rfl
   simp only [e,List.getElem_cons_succ]
   exact ih (by rw [e] at h;simpa using h)
  ·have hx':lt x.1 s=false:=by simpa using hx
   have e:pos (x :: l) s=0:=by unfold pos;rw [List.takeWhile_cons,hx'];rfl
   simp only [e,List.getElem_cons_zero];exact hx'
theorem zdq {l:List Ext} (ha:Asc l) (s:ByteArray):has l s=true ↔ ∃ h:pos l s<l.length,l[pos l s].1=s:=by
 constructor
 ·intro h
  obtain ⟨x,hx,rfl⟩:=zbd.1 h
  obtain ⟨j,hj,rfl⟩:=List.getElem_of_mem hx
  have e:pos l l[j].1=j:=zh_ (by omega) (fun i h hi=>zdp ha hj hi) (fun h=>lt_irrefl _)
  exact ⟨by rw [e];exact hj,by simp only [e]⟩
 ·rintro ⟨h,e⟩
  exact zbd.2 ⟨_,List.getElem_mem h,e⟩
theorem zia {l:List Ext} (ha:Asc l) {j:Nat} (hj:j<l.length):pos l l[j].1=j:=zh_ (by omega) (fun i h hi=>zdp ha hj hi) (fun h=>lt_irrefl _)
theorem zlx {l:List Ext} (ha:Asc l) {x y:Ext} (hx:x ∈ l) (hy:y ∈ l) (h:x.1=y.1):x=y:=by
 obtain ⟨i,hi,rfl⟩:=List.getElem_of_mem hx
 obtain ⟨j,hj,rfl⟩:=List.getElem_of_mem hy
 have h1:=zia ha hi
 have h2:=zia ha hj
 rw [h] at h1
 have:i=j:=by omega
 subst this;rfl
end Disk
end
section
open Mv
namespace Mv
theorem mixed:Tryz.prog.follows .mixedOrders=true:=by kernel_rfl
instance : TMix Tryz.prog := ⟨mixed⟩
theorem zba:plainT Tryz.prog 3=true:=by kernel_rfl
theorem zb0:sizeT Tryz.prog 3=some 1:=by kernel_rfl
theorem zgZ:zeroT Tryz.prog 3=some [.int .i64 0]:=by kernel_rfl
theorem zbC:plainT Tryz.prog 4=true:=by kernel_rfl
theorem zeV:sizeT Tryz.prog 4=some 1:=by kernel_rfl
theorem zke:plainT Tryz.prog 5=true:=by kernel_rfl
theorem zb1:sizeT Tryz.prog 5=some 1:=by kernel_rfl
theorem zcR:sizeT Tryz.prog 9=some 1:=by kernel_rfl
theorem zaA:strT Tryz.prog 9=true:=by kernel_rfl
theorem zly:zeroT Tryz.prog 9=some [.string ByteArray.empty]:=by kernel_rfl
theorem zdr:plainT Tryz.prog 22=true:=by kernel_rfl
theorem zfA:sizeT Tryz.prog 22=some 1:=by kernel_rfl
theorem zcw:slT Tryz.prog 22=some (24,1,8,[.int .u64 0]):=by kernel_rfl
theorem zaf:plainT Tryz.prog 24=true:=by kernel_rfl
theorem zah:sizeT Tryz.prog 24=some 1:=by kernel_rfl
theorem zcx:slT Tryz.prog 25=some (22,1,24,[.slice none 0 0]):=by kernel_rfl
theorem zd7:sizeT Tryz.prog 26=some 1:=by kernel_rfl
theorem zbm:slT Tryz.prog 26=some (155,2,32,[.string ByteArray.empty,.string ByteArray.empty]):=by kernel_rfl
theorem zc2:sizeT Tryz.prog 27=some 1:=by kernel_rfl
theorem zdH:slT Tryz.prog 27=some (159,3,40,[.string ByteArray.empty,.int .i64 0,.string ByteArray.empty]):=by kernel_rfl
theorem zas:aggT Tryz.prog 29=true:=by kernel_rfl
theorem zao:sizeT Tryz.prog 29=some 5:=by kernel_rfl
theorem zay:zeroT Tryz.prog 29=some [.int .i64 0,.slice none 0 0,.slice none 0 0,.int .i64 0,.bool false]:=by kernel_rfl
theorem zkf:zeroT Tryz.prog 30=some [.int .i64 0]:=by kernel_rfl
theorem zeW:aggT Tryz.prog 35=true:=by kernel_rfl
theorem zd8:sizeT Tryz.prog 35=some 3:=by kernel_rfl
theorem zc3:zeroT Tryz.prog 35=some [.int .u64 0,.int .u64 0,.int .i64 0]:=by kernel_rfl
theorem zb6:slT Tryz.prog 40=some (3,1,8,[.int .i64 0]):=by kernel_rfl
theorem zch:aggT Tryz.prog 45=true:=by kernel_rfl
theorem zbX:sizeT Tryz.prog 45=some 2:=by kernel_rfl
theorem zd9:zeroT Tryz.prog 45=some [.string ByteArray.empty,.int .i64 0]:=by kernel_rfl
theorem zaG:plainT Tryz.prog 52=true:=by kernel_rfl
theorem zc4:sizeT Tryz.prog 52=some 1:=by kernel_rfl
theorem zaE:slT Tryz.prog 52=some (5,1,1,[.int .u8 0]):=by kernel_rfl
theorem zaM:bytesT Tryz.prog 52=some 5:=by kernel_rfl
theorem zfB:zeroT Tryz.prog 54=some [.pointer none,.slice none 0 0]:=by kernel_rfl
theorem zkg:zeroT Tryz.prog 63=some [.pointer none]:=by kernel_rfl
theorem zd_:zeroT Tryz.prog 67=some [.pointer none]:=by kernel_rfl
theorem zg0:aggT Tryz.prog 95=true:=by kernel_rfl
theorem zlz:arrT Tryz.prog 95=some (1,[.int .u8 0,.int .u8 0,.int .u8 0,.int .u8 0,.int .u8 0]):=by kernel_rfl
theorem zea:sizeT Tryz.prog 95=some 5:=by kernel_rfl
theorem zc5:zeroT Tryz.prog 95=some [.int .u8 0,.int .u8 0,.int .u8 0,.int .u8 0,.int .u8 0]:=by kernel_rfl
theorem zeX:sizeT Tryz.prog 105=some 1:=by kernel_rfl
theorem zaN:slT Tryz.prog 105=some (9,1,16,[.string ByteArray.empty]):=by kernel_rfl
theorem zdg:fieldT Tryz.prog 115 2=some (2,0+1):=by kernel_rfl
theorem zdh:fieldT Tryz.prog 115 3=some (3,0+1):=by kernel_rfl
theorem zlA:slT Tryz.prog 120=some (229,7,72,[.string ByteArray.empty,.int .i64 0,.string ByteArray.empty,.int .i64 0,.bool false,.int .u64 0,.bool false]):=by kernel_rfl
theorem zib:zeroT Tryz.prog 134=some [.nilFunc]:=by kernel_rfl
theorem zic:zeroT Tryz.prog 144=some [.string ByteArray.empty,.int .i64 0]:=by kernel_rfl
theorem zat:sizeT Tryz.prog 155=some 2:=by kernel_rfl
theorem zbo:zeroT Tryz.prog 155=some [.string ByteArray.empty,.string ByteArray.empty]:=by kernel_rfl
theorem zbD:sizeT Tryz.prog 159=some 3:=by kernel_rfl
theorem zcy:zeroT Tryz.prog 159=some [.string ByteArray.empty,.int .i64 0,.string ByteArray.empty]:=by kernel_rfl
theorem zid:zeroT Tryz.prog 177=some [.int .u8 0,.int .u8 0,.int .u8 0,.int .u8 0]:=by kernel_rfl
theorem zg1:slT Tryz.prog 184=some (189,1,8,[.pointer none]):=by kernel_rfl
theorem zb7:plainT Tryz.prog 189=true:=by kernel_rfl
theorem zbp:sizeT Tryz.prog 229=some 7:=by kernel_rfl
theorem zax:zeroT Tryz.prog 229=some [.string ByteArray.empty,.int .i64 0,.string ByteArray.empty,.int .i64 0,.bool false,.int .u64 0,.bool false]:=by kernel_rfl
theorem zie:zeroT Tryz.prog 316=some [.int .u64 0]:=by kernel_rfl
theorem zsM:goFn Tryz.prog 19=true:=by kernel_rfl
theorem ztV:goFn Tryz.prog 28=true:=by kernel_rfl
theorem zsN:goFn Tryz.prog 34=true:=by kernel_rfl
theorem ztW:goFn Tryz.prog 35=true:=by kernel_rfl
theorem ztX:goFn Tryz.prog 55=true:=by kernel_rfl
theorem zsO:goFn Tryz.prog 62=true:=by kernel_rfl
theorem zoe:goFn Tryz.prog 63=true:=by kernel_rfl
theorem ztY:goFn Tryz.prog 82=true:=by kernel_rfl
theorem ztZ:goFn Tryz.prog 88=true:=by kernel_rfl
theorem zsP:goFn Tryz.prog 104=true:=by kernel_rfl
theorem zsQ:goFn Tryz.prog 112=true:=by kernel_rfl
theorem zsR:goFn Tryz.prog 116=true:=by kernel_rfl
theorem zcS:goFn Tryz.prog 122=true:=by kernel_rfl
theorem zsS:goFn Tryz.prog 124=true:=by kernel_rfl
theorem zes:goFn Tryz.prog 125=true:=by kernel_rfl
theorem zp6:goFn Tryz.prog 127=true:=by kernel_rfl
theorem zsT:goFn Tryz.prog 130=true:=by kernel_rfl
theorem zlB:goFn Tryz.prog 148=true:=by kernel_rfl
theorem zsU:goFn Tryz.prog 156=true:=by kernel_rfl
theorem zsV:goFn Tryz.prog 200=true:=by kernel_rfl
theorem zsW:goFn Tryz.prog 240=true:=by kernel_rfl
theorem zp7:goFn Tryz.prog 242=true:=by kernel_rfl
instance : TPlain Tryz.prog 3 := ⟨zba⟩
instance : TSize Tryz.prog 3 1 := ⟨zb0⟩
instance : TPlain Tryz.prog 4 := ⟨zbC⟩
instance : TSize Tryz.prog 5 1 := ⟨zb1⟩
instance : TPlain Tryz.prog 9 := ⟨by kernel_rfl⟩
instance : TSize Tryz.prog 9 1 := ⟨zcR⟩
instance : TStr Tryz.prog 9 := ⟨zaA⟩
instance : TPlain Tryz.prog 22 := ⟨zdr⟩
instance : TSize Tryz.prog 22 1 := ⟨zfA⟩
instance : TPlain Tryz.prog 24 := ⟨zaf⟩
instance : TSize Tryz.prog 24 1 := ⟨zah⟩
instance : TPlain Tryz.prog 25 := ⟨by kernel_rfl⟩
instance : TPlain Tryz.prog 26 := ⟨by kernel_rfl⟩
instance : TSize Tryz.prog 26 1 := ⟨zd7⟩
instance : TPlain Tryz.prog 27 := ⟨by kernel_rfl⟩
instance : TSize Tryz.prog 27 1 := ⟨zc2⟩
instance : TAgg Tryz.prog 29 := ⟨zas⟩
instance : TBld Tryz.prog 29 ([(0, 1), (1, 1), (2, 1), (3, 1), (4, 1)], [.int .i64 0, .slice none 0 0, .slice none 0 0, .int .i64 0, .bool false]) := ⟨by kernel_rfl⟩
instance : TField Tryz.prog 29 0 0 0 := ⟨by kernel_rfl⟩
instance : TField Tryz.prog 29 1 1 0 := ⟨by kernel_rfl⟩
instance : TField Tryz.prog 29 2 2 0 := ⟨by kernel_rfl⟩
instance : TField Tryz.prog 29 3 3 0 := ⟨by kernel_rfl⟩
instance : TField Tryz.prog 29 4 4 0 := ⟨by kernel_rfl⟩
instance : TSize Tryz.prog 29 5 := ⟨zao⟩
instance : TPlain Tryz.prog 30 := ⟨by kernel_rfl⟩
instance : TSize Tryz.prog 30 1 := ⟨by kernel_rfl⟩
instance : TAgg Tryz.prog 35 := ⟨zeW⟩
instance : TBld Tryz.prog 35 ([(0, 1), (1, 1), (2, 1)], [.int .u64 0, .int .u64 0, .int .i64 0]) := ⟨by kernel_rfl⟩
instance : TField Tryz.prog 35 0 0 0 := ⟨by kernel_rfl⟩
instance : TField Tryz.prog 35 1 1 0 := ⟨by kernel_rfl⟩
instance : TField Tryz.prog 35 2 2 0 := ⟨by kernel_rfl⟩
instance : TSize Tryz.prog 35 3 := ⟨zd8⟩
instance : TPlain Tryz.prog 40 := ⟨by kernel_rfl⟩
instance : TSize Tryz.prog 40 1 := ⟨by kernel_rfl⟩
instance : TAgg Tryz.prog 45 := ⟨zch⟩
instance : TBld Tryz.prog 45 ([(0, 1), (1, 1)], [.string ByteArray.empty, .int .i64 0]) := ⟨by kernel_rfl⟩
instance : TField Tryz.prog 45 0 0 0 := ⟨by kernel_rfl⟩
instance : TField Tryz.prog 45 1 1 0 := ⟨by kernel_rfl⟩
instance : TSize Tryz.prog 45 2 := ⟨zbX⟩
instance : TPlain Tryz.prog 51 := ⟨by kernel_rfl⟩
instance : TSize Tryz.prog 51 1 := ⟨by kernel_rfl⟩
instance : TPlain Tryz.prog 52 := ⟨zaG⟩
instance : TSize Tryz.prog 52 1 := ⟨zc4⟩
instance : TBytes Tryz.prog 52 5 := ⟨zaM⟩
instance : TField Tryz.prog 54 0 0 0 := ⟨by kernel_rfl⟩
instance : TField Tryz.prog 54 1 1 0 := ⟨by kernel_rfl⟩
instance : TPlain Tryz.prog 58 := ⟨by kernel_rfl⟩
instance : TPlain Tryz.prog 63 := ⟨by kernel_rfl⟩
instance : TSize Tryz.prog 63 1 := ⟨by kernel_rfl⟩
instance : TPlain Tryz.prog 67 := ⟨by kernel_rfl⟩
instance : TSize Tryz.prog 67 1 := ⟨by kernel_rfl⟩
instance : TBld Tryz.prog 83 ([(0, 1), (1, 1), (2, 1)], [.slice none 0 0, .int .u64 0, .int .i64 0]) := ⟨by kernel_rfl⟩
instance : TField Tryz.prog 83 0 0 0 := ⟨by kernel_rfl⟩
instance : TField Tryz.prog 83 1 1 0 := ⟨by kernel_rfl⟩
instance : TField Tryz.prog 83 2 2 0 := ⟨by kernel_rfl⟩
instance : TSize Tryz.prog 83 3 := ⟨by kernel_rfl⟩
instance : TPlain Tryz.prog 88 := ⟨by kernel_rfl⟩
instance : TBld Tryz.prog 92 ([(0, 5)], [.int .i64 0, .slice none 0 0, .slice none 0 0, .int .i64 0, .bool false]) := ⟨by kernel_rfl⟩
instance : TField Tryz.prog 92 0 0 4 := ⟨by kernel_rfl⟩
instance : TSize Tryz.prog 92 5 := ⟨by kernel_rfl⟩
instance : TAgg Tryz.prog 95 := ⟨zg0⟩
instance : TSize Tryz.prog 95 5 := ⟨zea⟩
instance : TPlain Tryz.prog 104 := ⟨by kernel_rfl⟩
instance : TSize Tryz.prog 104 1 := ⟨by kernel_rfl⟩
instance : TPlain Tryz.prog 105 := ⟨by kernel_rfl⟩
instance : TBld Tryz.prog 107 ([(0, 1), (1, 5), (6, 1), (7, 3)], [.pointer none, .int .i64 0, .slice none 0 0, .slice none 0 0, .int .i64 0, .bool false, .slice none 0 0, .int .u64 0, .int .u64 0, .int .i64 0]) := ⟨by kernel_rfl⟩
instance : TField Tryz.prog 107 0 0 0 := ⟨by kernel_rfl⟩
instance : TField Tryz.prog 107 1 1 4 := ⟨by kernel_rfl⟩
instance : TField Tryz.prog 107 2 6 0 := ⟨by kernel_rfl⟩
instance : TField Tryz.prog 107 3 7 2 := ⟨by kernel_rfl⟩
instance : TSize Tryz.prog 107 10 := ⟨by kernel_rfl⟩
instance : TPlain Tryz.prog 111 := ⟨by kernel_rfl⟩
instance : TBld Tryz.prog 115 ([(0, 1), (1, 1), (2, 1), (3, 1), (4, 1), (5, 1), (6, 1), (7, 1)], [.pointer none, .string ByteArray.empty, .int .i64 0, .int .u64 0, .int .i64 0, .int .i64 0, .int .i64 0, .int .i64 0]) := ⟨by kernel_rfl⟩
instance : TField Tryz.prog 115 0 0 0 := ⟨by kernel_rfl⟩
instance : TField Tryz.prog 115 1 1 0 := ⟨by kernel_rfl⟩
instance : TField Tryz.prog 115 2 2 0 := ⟨zdg⟩
instance : TField Tryz.prog 115 3 3 0 := ⟨zdh⟩
instance : TField Tryz.prog 115 4 4 0 := ⟨by kernel_rfl⟩
instance : TField Tryz.prog 115 5 5 0 := ⟨by kernel_rfl⟩
instance : TField Tryz.prog 115 6 6 0 := ⟨by kernel_rfl⟩
instance : TField Tryz.prog 115 7 7 0 := ⟨by kernel_rfl⟩
instance : TSize Tryz.prog 115 8 := ⟨by kernel_rfl⟩
instance : TPlain Tryz.prog 120 := ⟨by kernel_rfl⟩
instance : TBld Tryz.prog 122 ([(0, 1), (1, 1), (2, 1), (3, 1), (4, 1), (5, 1)], [.pointer none, .slice none 0 0, .int .u64 0, .int .u64 0, .int .u64 0, .int .i64 0]) := ⟨by kernel_rfl⟩
instance : TField Tryz.prog 122 0 0 0 := ⟨by kernel_rfl⟩
instance : TField Tryz.prog 122 1 1 0 := ⟨by kernel_rfl⟩
instance : TField Tryz.prog 122 2 2 0 := ⟨by kernel_rfl⟩
instance : TField Tryz.prog 122 3 3 0 := ⟨by kernel_rfl⟩
instance : TField Tryz.prog 122 4 4 0 := ⟨by kernel_rfl⟩
instance : TField Tryz.prog 122 5 5 0 := ⟨by kernel_rfl⟩
instance : TSize Tryz.prog 122 6 := ⟨by kernel_rfl⟩
instance : TSize Tryz.prog 134 1 := ⟨by kernel_rfl⟩
instance : TAgg Tryz.prog 144 := ⟨by kernel_rfl⟩
instance : TBld Tryz.prog 144 ([(0, 2)], [.string ByteArray.empty, .int .i64 0]) := ⟨by kernel_rfl⟩
instance : TSize Tryz.prog 144 2 := ⟨by kernel_rfl⟩
instance : TAgg Tryz.prog 155 := ⟨by kernel_rfl⟩
instance : TBld Tryz.prog 155 ([(0, 1), (1, 1)], [.string ByteArray.empty, .string ByteArray.empty]) := ⟨by kernel_rfl⟩
instance : TField Tryz.prog 155 0 0 0 := ⟨by kernel_rfl⟩
instance : TField Tryz.prog 155 1 1 0 := ⟨by kernel_rfl⟩
instance : TSize Tryz.prog 155 2 := ⟨zat⟩
instance : TAgg Tryz.prog 159 := ⟨by kernel_rfl⟩
instance : TBld Tryz.prog 159 ([(0, 1), (1, 1), (2, 1)], [.string ByteArray.empty, .int .i64 0, .string ByteArray.empty]) := ⟨by kernel_rfl⟩
instance : TField Tryz.prog 159 0 0 0 := ⟨by kernel_rfl⟩
instance : TField Tryz.prog 159 1 1 0 := ⟨by kernel_rfl⟩
instance : TField Tryz.prog 159 2 2 0 := ⟨by kernel_rfl⟩
instance : TSize Tryz.prog 159 3 := ⟨zbD⟩
instance : TBld Tryz.prog 179 ([(0, 1), (1, 1), (2, 1), (3, 1), (4, 1), (5, 1), (6, 1)], [.pointer none, .string ByteArray.empty, .int .i64 0, .int .u64 0, .int .i64 0, .int .i64 0, .int .i64 0]) := ⟨by kernel_rfl⟩
instance : TField Tryz.prog 179 0 0 0 := ⟨by kernel_rfl⟩
instance : TField Tryz.prog 179 1 1 0 := ⟨by kernel_rfl⟩
instance : TField Tryz.prog 179 2 2 0 := ⟨by kernel_rfl⟩
instance : TField Tryz.prog 179 3 3 0 := ⟨by kernel_rfl⟩
instance : TField Tryz.prog 179 4 4 0 := ⟨by kernel_rfl⟩
instance : TField Tryz.prog 179 5 5 0 := ⟨by kernel_rfl⟩
instance : TField Tryz.prog 179 6 6 0 := ⟨by kernel_rfl⟩
instance : TSize Tryz.prog 179 7 := ⟨by kernel_rfl⟩
instance : TBld Tryz.prog 188 ([(0, 1), (1, 1)], [.pointer none, .slice none 0 0]) := ⟨by kernel_rfl⟩
instance : TField Tryz.prog 188 0 0 0 := ⟨by kernel_rfl⟩
instance : TField Tryz.prog 188 1 1 0 := ⟨by kernel_rfl⟩
instance : TSize Tryz.prog 188 2 := ⟨by kernel_rfl⟩
instance : TSize Tryz.prog 189 1 := ⟨by kernel_rfl⟩
instance : TAgg Tryz.prog 229 := ⟨by kernel_rfl⟩
instance : TBld Tryz.prog 229 ([(0, 1), (1, 1), (2, 1), (3, 1), (4, 1), (5, 1), (6, 1)], [.string ByteArray.empty, .int .i64 0, .string ByteArray.empty, .int .i64 0, .bool false, .int .u64 0, .bool false]) := ⟨by kernel_rfl⟩
instance : TField Tryz.prog 229 0 0 0 := ⟨by kernel_rfl⟩
instance : TField Tryz.prog 229 1 1 0 := ⟨by kernel_rfl⟩
instance : TField Tryz.prog 229 2 2 0 := ⟨by kernel_rfl⟩
instance : TField Tryz.prog 229 3 3 0 := ⟨by kernel_rfl⟩
instance : TField Tryz.prog 229 4 4 0 := ⟨by kernel_rfl⟩
instance : TField Tryz.prog 229 5 5 0 := ⟨by kernel_rfl⟩
instance : TField Tryz.prog 229 6 6 0 := ⟨by kernel_rfl⟩
instance : TSize Tryz.prog 229 7 := ⟨zbp⟩
instance : TBld Tryz.prog 242 ([(0, 1), (1, 1)], [.slice none 0 0, .slice none 0 0]) := ⟨by kernel_rfl⟩
instance : TField Tryz.prog 242 0 0 0 := ⟨by kernel_rfl⟩
instance : TField Tryz.prog 242 1 1 0 := ⟨by kernel_rfl⟩
instance : TSize Tryz.prog 242 2 := ⟨by kernel_rfl⟩
instance : TBld Tryz.prog 244 ([(0, 2)], [.slice none 0 0, .slice none 0 0]) := ⟨by kernel_rfl⟩
instance : TField Tryz.prog 244 0 0 1 := ⟨by kernel_rfl⟩
instance : TSize Tryz.prog 244 2 := ⟨by kernel_rfl⟩
instance : TPlain Tryz.prog 316 := ⟨by kernel_rfl⟩
instance : TSize Tryz.prog 316 1 := ⟨by kernel_rfl⟩
instance : TGo Tryz.prog 4 := ⟨by kernel_rfl⟩
instance : TGo Tryz.prog 5 := ⟨by kernel_rfl⟩
instance : TGo Tryz.prog 6 := ⟨by kernel_rfl⟩
instance : TGo Tryz.prog 7 := ⟨by kernel_rfl⟩
instance : TGo Tryz.prog 8 := ⟨by kernel_rfl⟩
instance : TGo Tryz.prog 9 := ⟨by kernel_rfl⟩
instance : TGo Tryz.prog 10 := ⟨by kernel_rfl⟩
instance : TGo Tryz.prog 11 := ⟨by kernel_rfl⟩
instance : TGo Tryz.prog 12 := ⟨by kernel_rfl⟩
instance : TGo Tryz.prog 13 := ⟨by kernel_rfl⟩
instance : TGo Tryz.prog 15 := ⟨by kernel_rfl⟩
instance : TGo Tryz.prog 17 := ⟨by kernel_rfl⟩
instance : TGo Tryz.prog 18 := ⟨by kernel_rfl⟩
instance : TGo Tryz.prog 20 := ⟨by kernel_rfl⟩
instance : TGo Tryz.prog 21 := ⟨by kernel_rfl⟩
instance : TGo Tryz.prog 22 := ⟨by kernel_rfl⟩
instance : TGo Tryz.prog 23 := ⟨by kernel_rfl⟩
instance : TGo Tryz.prog 24 := ⟨by kernel_rfl⟩
instance : TGo Tryz.prog 25 := ⟨by kernel_rfl⟩
instance : TGo Tryz.prog 26 := ⟨by kernel_rfl⟩
instance : TGo Tryz.prog 27 := ⟨by kernel_rfl⟩
instance : TGo Tryz.prog 29 := ⟨by kernel_rfl⟩
instance : TGo Tryz.prog 30 := ⟨by kernel_rfl⟩
instance : TGo Tryz.prog 31 := ⟨by kernel_rfl⟩
instance : TGo Tryz.prog 32 := ⟨by kernel_rfl⟩
instance : TGo Tryz.prog 33 := ⟨by kernel_rfl⟩
instance : TGo Tryz.prog 36 := ⟨by kernel_rfl⟩
instance : TGo Tryz.prog 38 := ⟨by kernel_rfl⟩
instance : TGo Tryz.prog 39 := ⟨by kernel_rfl⟩
instance : TGo Tryz.prog 40 := ⟨by kernel_rfl⟩
instance : TGo Tryz.prog 41 := ⟨by kernel_rfl⟩
instance : TGo Tryz.prog 42 := ⟨by kernel_rfl⟩
instance : TGo Tryz.prog 43 := ⟨by kernel_rfl⟩
instance : TGo Tryz.prog 44 := ⟨by kernel_rfl⟩
instance : TGo Tryz.prog 45 := ⟨by kernel_rfl⟩
instance : TGo Tryz.prog 46 := ⟨by kernel_rfl⟩
instance : TGo Tryz.prog 47 := ⟨by kernel_rfl⟩
instance : TGo Tryz.prog 48 := ⟨by kernel_rfl⟩
instance : TGo Tryz.prog 49 := ⟨by kernel_rfl⟩
instance : TGo Tryz.prog 50 := ⟨by kernel_rfl⟩
instance : TGo Tryz.prog 51 := ⟨by kernel_rfl⟩
instance : TGo Tryz.prog 52 := ⟨by kernel_rfl⟩
instance : TGo Tryz.prog 54 := ⟨by kernel_rfl⟩
instance : TGo Tryz.prog 56 := ⟨by kernel_rfl⟩
instance : TGo Tryz.prog 57 := ⟨by kernel_rfl⟩
instance : TGo Tryz.prog 58 := ⟨by kernel_rfl⟩
instance : TGo Tryz.prog 60 := ⟨by kernel_rfl⟩
instance : TGo Tryz.prog 61 := ⟨by kernel_rfl⟩
instance : TGo Tryz.prog 62 := ⟨zsO⟩
instance : TGo Tryz.prog 63 := ⟨zoe⟩
instance : TGo Tryz.prog 64 := ⟨by kernel_rfl⟩
instance : TGo Tryz.prog 65 := ⟨by kernel_rfl⟩
instance : TGo Tryz.prog 66 := ⟨by kernel_rfl⟩
instance : TGo Tryz.prog 67 := ⟨by kernel_rfl⟩
instance : TGo Tryz.prog 68 := ⟨by kernel_rfl⟩
instance : TGo Tryz.prog 69 := ⟨by kernel_rfl⟩
instance : TGo Tryz.prog 71 := ⟨by kernel_rfl⟩
instance : TGo Tryz.prog 72 := ⟨by kernel_rfl⟩
instance : TGo Tryz.prog 73 := ⟨by kernel_rfl⟩
instance : TGo Tryz.prog 75 := ⟨by kernel_rfl⟩
instance : TGo Tryz.prog 76 := ⟨by kernel_rfl⟩
instance : TGo Tryz.prog 77 := ⟨by kernel_rfl⟩
instance : TGo Tryz.prog 78 := ⟨by kernel_rfl⟩
instance : TGo Tryz.prog 79 := ⟨by kernel_rfl⟩
instance : TGo Tryz.prog 80 := ⟨by kernel_rfl⟩
instance : TGo Tryz.prog 81 := ⟨by kernel_rfl⟩
instance : TGo Tryz.prog 83 := ⟨by kernel_rfl⟩
instance : TGo Tryz.prog 84 := ⟨by kernel_rfl⟩
instance : TGo Tryz.prog 85 := ⟨by kernel_rfl⟩
instance : TGo Tryz.prog 86 := ⟨by kernel_rfl⟩
instance : TGo Tryz.prog 87 := ⟨by kernel_rfl⟩
instance : TGo Tryz.prog 89 := ⟨by kernel_rfl⟩
instance : TGo Tryz.prog 90 := ⟨by kernel_rfl⟩
instance : TGo Tryz.prog 91 := ⟨by kernel_rfl⟩
instance : TGo Tryz.prog 92 := ⟨by kernel_rfl⟩
instance : TGo Tryz.prog 93 := ⟨by kernel_rfl⟩
instance : TGo Tryz.prog 94 := ⟨by kernel_rfl⟩
instance : TGo Tryz.prog 95 := ⟨by kernel_rfl⟩
instance : TGo Tryz.prog 96 := ⟨by kernel_rfl⟩
instance : TGo Tryz.prog 97 := ⟨by kernel_rfl⟩
instance : TGo Tryz.prog 98 := ⟨by kernel_rfl⟩
instance : TGo Tryz.prog 99 := ⟨by kernel_rfl⟩
instance : TGo Tryz.prog 102 := ⟨by kernel_rfl⟩
instance : TGo Tryz.prog 103 := ⟨by kernel_rfl⟩
instance : TGo Tryz.prog 105 := ⟨by kernel_rfl⟩
instance : TGo Tryz.prog 106 := ⟨by kernel_rfl⟩
instance : TGo Tryz.prog 110 := ⟨by kernel_rfl⟩
instance : TGo Tryz.prog 111 := ⟨by kernel_rfl⟩
instance : TGo Tryz.prog 114 := ⟨by kernel_rfl⟩
instance : TGo Tryz.prog 119 := ⟨by kernel_rfl⟩
instance : TGo Tryz.prog 120 := ⟨by kernel_rfl⟩
instance : TGo Tryz.prog 121 := ⟨by kernel_rfl⟩
instance : TGo Tryz.prog 122 := ⟨zcS⟩
instance : TGo Tryz.prog 125 := ⟨zes⟩
instance : TGo Tryz.prog 126 := ⟨by kernel_rfl⟩
instance : TGo Tryz.prog 128 := ⟨by kernel_rfl⟩
instance : TGo Tryz.prog 129 := ⟨by kernel_rfl⟩
instance : TGo Tryz.prog 134 := ⟨by kernel_rfl⟩
instance : TGo Tryz.prog 139 := ⟨by kernel_rfl⟩
instance : TGo Tryz.prog 140 := ⟨by kernel_rfl⟩
instance : TGo Tryz.prog 141 := ⟨by kernel_rfl⟩
instance : TGo Tryz.prog 142 := ⟨by kernel_rfl⟩
instance : TGo Tryz.prog 143 := ⟨by kernel_rfl⟩
instance : TGo Tryz.prog 145 := ⟨by kernel_rfl⟩
instance : TGo Tryz.prog 146 := ⟨by kernel_rfl⟩
instance : TGo Tryz.prog 147 := ⟨by kernel_rfl⟩
instance : TGo Tryz.prog 148 := ⟨zlB⟩
instance : TGo Tryz.prog 150 := ⟨by kernel_rfl⟩
instance : TGo Tryz.prog 151 := ⟨by kernel_rfl⟩
instance : TGo Tryz.prog 152 := ⟨by kernel_rfl⟩
instance : TGo Tryz.prog 153 := ⟨by kernel_rfl⟩
instance : TGo Tryz.prog 154 := ⟨by kernel_rfl⟩
instance : TGo Tryz.prog 155 := ⟨by kernel_rfl⟩
instance : TGo Tryz.prog 157 := ⟨by kernel_rfl⟩
instance : TGo Tryz.prog 162 := ⟨by kernel_rfl⟩
instance : TGo Tryz.prog 164 := ⟨by kernel_rfl⟩
instance : TGo Tryz.prog 165 := ⟨by kernel_rfl⟩
instance : TGo Tryz.prog 173 := ⟨by kernel_rfl⟩
instance : TGo Tryz.prog 174 := ⟨by kernel_rfl⟩
instance : TGo Tryz.prog 175 := ⟨by kernel_rfl⟩
instance : TGo Tryz.prog 176 := ⟨by kernel_rfl⟩
instance : TGo Tryz.prog 177 := ⟨by kernel_rfl⟩
instance : TGo Tryz.prog 178 := ⟨by kernel_rfl⟩
instance : TGo Tryz.prog 179 := ⟨by kernel_rfl⟩
instance : TGo Tryz.prog 180 := ⟨by kernel_rfl⟩
instance : TGo Tryz.prog 182 := ⟨by kernel_rfl⟩
instance : TGo Tryz.prog 183 := ⟨by kernel_rfl⟩
instance : TGo Tryz.prog 184 := ⟨by kernel_rfl⟩
instance : TGo Tryz.prog 188 := ⟨by kernel_rfl⟩
instance : TGo Tryz.prog 192 := ⟨by kernel_rfl⟩
instance : TGo Tryz.prog 193 := ⟨by kernel_rfl⟩
instance : TGo Tryz.prog 194 := ⟨by kernel_rfl⟩
instance : TGo Tryz.prog 195 := ⟨by kernel_rfl⟩
instance : TGo Tryz.prog 196 := ⟨by kernel_rfl⟩
instance : TGo Tryz.prog 197 := ⟨by kernel_rfl⟩
instance : TGo Tryz.prog 201 := ⟨by kernel_rfl⟩
instance : TGo Tryz.prog 202 := ⟨by kernel_rfl⟩
instance : TGo Tryz.prog 203 := ⟨by kernel_rfl⟩
instance : TGo Tryz.prog 204 := ⟨by kernel_rfl⟩
instance : TGo Tryz.prog 205 := ⟨by kernel_rfl⟩
instance : TGo Tryz.prog 206 := ⟨by kernel_rfl⟩
instance : TGo Tryz.prog 221 := ⟨by kernel_rfl⟩
instance : TGo Tryz.prog 222 := ⟨by kernel_rfl⟩
instance : TGo Tryz.prog 223 := ⟨by kernel_rfl⟩
instance : TGo Tryz.prog 224 := ⟨by kernel_rfl⟩
instance : TGo Tryz.prog 225 := ⟨by kernel_rfl⟩
instance : TGo Tryz.prog 229 := ⟨by kernel_rfl⟩
instance : TGo Tryz.prog 230 := ⟨by kernel_rfl⟩
instance : TGo Tryz.prog 239 := ⟨by kernel_rfl⟩
instance : TGo Tryz.prog 241 := ⟨by kernel_rfl⟩
instance : TGo Tryz.prog 249 := ⟨by kernel_rfl⟩
instance : TGo Tryz.prog 253 := ⟨by kernel_rfl⟩
instance : TUnd Tryz.prog 2 (.int .i64) := ⟨Tryz.underlying2⟩
instance : TUnd Tryz.prog 3 (.int .i64) := ⟨Tryz.underlying3⟩
instance : TUnd Tryz.prog 4 (.bool) := ⟨Tryz.underlying4⟩
instance : TUnd Tryz.prog 5 (.int .u8) := ⟨Tryz.underlying5⟩
instance : TUnd Tryz.prog 6 (.int .u8) := ⟨Tryz.underlying6⟩
instance : TUnd Tryz.prog 9 (.string) := ⟨Tryz.underlying9⟩
instance : TUnd Tryz.prog 10 (.string) := ⟨Tryz.underlying10⟩
instance : TUnd Tryz.prog 11 (.string) := ⟨Tryz.underlying11⟩
instance : TUnd Tryz.prog 12 (.int .u64) := ⟨Tryz.underlying12⟩
instance : TUnd Tryz.prog 21 (.int .i32) := ⟨Tryz.underlying21⟩
instance : TUnd Tryz.prog 22 (.slice 24) := ⟨Tryz.underlying22⟩
instance : TUnd Tryz.prog 24 (.int .u64) := ⟨Tryz.underlying24⟩
instance : TUnd Tryz.prog 25 (.slice 22) := ⟨Tryz.underlying25⟩
instance : TUnd Tryz.prog 26 (.slice 155) := ⟨Tryz.underlying26⟩
instance : TUnd Tryz.prog 27 (.slice 159) := ⟨Tryz.underlying27⟩
instance : TUnd Tryz.prog 30 (.int .i64) := ⟨Tryz.underlying30⟩
instance : TUnd Tryz.prog 40 (.slice 3) := ⟨Tryz.underlying40⟩
instance : TUnd Tryz.prog 52 (.slice 5) := ⟨Tryz.underlying52⟩
instance : TUnd Tryz.prog 95 (.array 5 5) := ⟨Tryz.underlying95⟩
instance : TUnd Tryz.prog 105 (.slice 9) := ⟨Tryz.underlying105⟩
instance : TUnd Tryz.prog 120 (.slice 229) := ⟨Tryz.underlying120⟩
instance : TUnd Tryz.prog 142 (.int .u64) := ⟨Tryz.underlying142⟩
instance : TUnd Tryz.prog 177 (.array 4 5) := ⟨Tryz.underlying177⟩
instance : TUnd Tryz.prog 184 (.slice 189) := ⟨Tryz.underlying184⟩
instance : TUnd Tryz.prog 225 (.int .u32) := ⟨Tryz.underlying225⟩
instance : TUnd Tryz.prog 247 (.int .u64) := ⟨Tryz.underlying247⟩
instance : TUnd Tryz.prog 252 (.int .u8) := ⟨Tryz.underlying252⟩
instance : TUnd Tryz.prog 265 (.slice 58) := ⟨Tryz.underlying265⟩
instance : TUnd Tryz.prog 269 (.array 256 4) := ⟨Tryz.underlying269⟩
instance : TUnd Tryz.prog 270 (.array 256 4) := ⟨Tryz.underlying270⟩
instance : TUnd Tryz.prog 277 (.int .i64) := ⟨Tryz.underlying277⟩
instance : TUnd Tryz.prog 316 (.int .u64) := ⟨Tryz.underlying316⟩
instance : TUnd Tryz.prog 341 (.array 256 5) := ⟨Tryz.underlying341⟩
instance : TUnd Tryz.prog 344 (.array 16 343) := ⟨Tryz.underlying344⟩
instance : TUnd Tryz.prog 352 (.array 0 16) := ⟨Tryz.underlying352⟩
instance : TUnd Tryz.prog 356 (.int .u8) := ⟨Tryz.underlying356⟩
instance : TUnd Tryz.prog 358 (.int .i32) := ⟨Tryz.underlying358⟩
instance : TUnd Tryz.prog 359 (.int .i32) := ⟨Tryz.underlying359⟩
instance : TUnd Tryz.prog 370 (.int .u16) := ⟨Tryz.underlying370⟩
instance : TUnd Tryz.prog 373 (.slice 376) := ⟨Tryz.underlying373⟩
instance : TUnd Tryz.prog 374 (.int .i32) := ⟨Tryz.underlying374⟩
end Mv
end
section
open Go.RowKit
open Mv Disk
set_option maxRecDepth 4000
def strs (s:ByteArray):List Value:=[.string s]
def cmpI (a b:ByteArray):Int:=if a=b then 0 else if lt a b=true then -1 else 1
theorem zji (a b:ByteArray):Op.bytesLess a.data.toList b.data.toList=lt a b:=rfl
theorem zif (s:ByteArray):(s=ByteArray.empty) ↔ s.size=0:=⟨fun h=>by rw [h];rfl,fun h=>by
 apply zbv
 have:=zaT s
 rw [h] at this
 rw [List.eq_nil_of_length_eq_zero this];rfl⟩
def bad (s:ByteArray):Bool:=decide (s.size=0∨16<s.size)
theorem zqQ {s:ByteArray}:bad s=true ↔ ¬ nm s:=by unfold bad nm;rw [decide_eq_true_eq];omega
theorem zsX {s:ByteArray}:bad s=false ↔ nm s:=by unfold bad nm;rw [decide_eq_false_iff_not];omega
theorem zig (s:ByteArray) (S:Mem):ACall Tryz.prog 130 #[.string s] S fun r S'=>r = .bool (bad s)∧S'=S:=by
 by_cases h0:s.size=0
 ·have e:(decide (s=ByteArray.empty))=true:=decide_eq_true ((zif s).2 h0)
  refine k_E1 (rs:=[.tmp 2]) 10 Tryz.func130 rfl rfl rfl ?_
  refine r8_ ?_
  refine rC (Calm.bin rfl rfl (zag (zaw _ _) e)) ?_
  refine r9_ ?_
  refine ⟨_,S,⟨_,_,rfl,rfl,rfl⟩,zad,?_⟩
  exact ⟨by rw [show bad s=true from decide_eq_true (.inl h0)];rfl,rfl⟩
 ·have e:(decide (s=ByteArray.empty))=false:=decide_eq_false (fun h=>h0 ((zif s).1 h))
  refine k_E1 (rs:=[.tmp 2]) 10 Tryz.func130 rfl rfl rfl ?_
  refine r8_ ?_
  refine rC (Calm.bin rfl rfl (zag (zaw _ _) e)) ?_
  refine r9_ ?_
  refine ⟨_,S,⟨_,_,rfl,rfl,rfl⟩,zad,?_⟩
  exact ⟨congrArg Value.bool (decide_eq_decide.2 (by omega)),rfl⟩
theorem zkh (v:Value) (l:List ByteArray) (S:Mem) (hl:Sl 1 strs S v l) :
  ACall Tryz.prog 184 #[v,.func (.func 130) #[] #[]] S fun r S'=>(∃ n:Int,r = .int .i64 n∧(0≤n ↔ ∃ s ∈ l,¬ nm s))∧S'=S:=by
 obtain ⟨a,cap,rfl,h1,h2,h3⟩:=id hl
 refine k_E2 (rs:=[.tmp 4]) 19 Tryz.func184 rfl rfl rfl ?_
 refine r14_ ?_
 refine AWP.loop (X:=Nat) (fun x=>[(0,.slice a l.length cap),(1,.func (.func 130) #[] #[]),(7,.int .i64 l.length),(8,.int .i64 x)]) (fun x=>S) (fun x=>x≤l.length ∧ ∀ j (h:j<l.length),j<x→nm l[j]) (fun x=>l.length-x) (0) ⟨rfl,rfl,rfl,rfl,trivial⟩ (Mem.Less.refl _) (⟨Nat.zero_le _,fun j _ h=>absurd h (Nat.not_lt_zero _)⟩) ?_
 rintro i ⟨hi,hall⟩
 (try dsimp only at *)
 refine r6_ ?_
 refine AWP.condB rfl (fun hc=>?_) (fun hc=>?_)
 ·have hc:i<l.length:=by have:=of_decide_eq_true hc;omega
  obtain ⟨b,off,rfl,hk⟩:=h3.resolve_left (fun e=>by subst e;simp at hc)
  have hki:=hk i hc
  unfold strs at hki
  refine r17_ ?_
  refine ARun.callV (zab rfl) zsT rfl rfl (zig l[i] _) ?_
  rintro _ S1 ⟨rfl,h1⟩
  rw [h1];clear h1 S1
  refine r2_ ?_
  refine AWP.condB rfl (fun hb=>?_) (fun hb=>?_)
  ·refine r6_ ?_
   refine r6_ ?_
   refine ⟨_,S,⟨_,_,rfl,rfl,rfl⟩,zad,?_⟩
   exact ⟨⟨i,rfl,by constructor;exact fun _=>⟨_,List.getElem_mem hc,zqQ.1 hb⟩;omega⟩,rfl⟩
  ·refine r8_ ?_
   refine ⟨i+1,?_,?_,?_,?_⟩
   all_goals (try dsimp only)
   ·exact ⟨rfl,rfl,rfl,rfl,trivial⟩
   ·exact zad
   ·exact ⟨hc,fun j h hj=>by rcases Nat.lt_or_ge j i with h' | h';exact hall j h h';obtain rfl:j=i:=(by omega);exact zsX.1 hb⟩
   ·omega
 ·have hc:i=l.length:=by have:=of_decide_eq_false hc;omega
  refine r11_ ?_
  refine ⟨_,S,⟨_,_,rfl,rfl,rfl⟩,zad,?_⟩
  exact ⟨⟨-1,rfl,by constructor;omega;rintro ⟨s,hs,hn⟩;obtain ⟨j,hj,rfl⟩:=List.getElem_of_mem hs;exact absurd (hall j hj (by omega)) hn⟩,rfl⟩
theorem zgi (v:Value) (l:List ByteArray) (S:Mem) (hl:Sl 1 strs S v l) :
  ACall Tryz.prog 129 #[v,.func (.func 130) #[] #[]] S fun r S'=>(∃ t:Bool,r = .bool t∧(t=true ↔ ∃ s ∈ l,¬ nm s))∧S'=S:=by
 refine k_E2 (rs:=[.tmp 4]) 9 Tryz.func129 rfl rfl rfl ?_
 refine r9_ ?_
 refine ca_ rfl (zkh v l _ hl) ?_
 rintro _ S1 ⟨⟨n,rfl,hn⟩,h1⟩
 rw [h1];clear h1 S1
 refine r5_ ?_
 refine ⟨_,S,⟨_,_,rfl,rfl,rfl⟩,zad,?_⟩
 exact ⟨⟨decide (0≤n),rfl,by rw [decide_eq_true_eq];exact hn⟩,rfl⟩
theorem zbb (v:Value) (l:List ByteArray) (S:Mem) (hl:Sl 1 strs S v l) :
  ACall Tryz.prog 76 #[v] S fun r S'=>(∃ t:Bool,r = .bool t∧(t=true ↔ ∀ s ∈ l,nm s))∧S'=S:=by
 refine k_E1 (rs:=[.tmp 2]) 6 Tryz.func76 rfl rfl rfl ?_
 refine r8_ ?_
 refine ca_ rfl (zgi v l _ hl) ?_
 rintro _ S1 ⟨⟨t,rfl,ht⟩,h1⟩
 rw [h1];clear h1 S1
 refine r5_ ?_
 refine ⟨_,S,⟨_,_,rfl,rfl,rfl⟩,zad,?_⟩
 exact ⟨⟨!t,rfl,by cases t <;> simp at ht ⊢ <;> exact ht⟩,rfl⟩
theorem zc6 (s:ByteArray) (S:Mem):ACall Tryz.prog 183 #[.string s] S fun r S'=>r = .bool false∧S'=S:=by
 refine k_E1 (rs:=[.tmp 2]) 6 Tryz.func183 rfl rfl rfl ?_
 refine r9_ ?_
 refine rC (Calm.bin rfl rfl (zag (zaF _ _) (zaK rfl))) ?_
 refine r4_ ?_
 refine ⟨_,S,⟨_,_,rfl,rfl,rfl⟩,zad,?_⟩
 exact ⟨rfl,rfl⟩
theorem zg2 (a b:ByteArray) (S:Mem):ACall Tryz.prog 128 #[.string a,.string b] S fun r S'=>r = .int .i64 (cmpI a b)∧S'=S:=by
 unfold cmpI
 by_cases e:a=b
 ·subst e
  rw [if_pos rfl]
  refine k_E2 (rs:=[.tmp 4]) 20 Tryz.func128 rfl rfl rfl ?_
  refine r8_ ?_
  refine ca_ rfl (zc6 a _) ?_
  rintro _ S1 ⟨rfl,h1⟩
  rw [h1];clear h1 S1
  refine r6_ ?_
  refine ca_ rfl (zc6 a _) ?_
  rintro _ S1 ⟨rfl,h1⟩
  rw [h1];clear h1 S1
  refine r9_ ?_
  refine cF_ ?_
  refine r8_ ?_
  refine cF_ ?_
  refine r7_ ?_
  refine rC (Calm.bin rfl rfl (zag (zcv _ _) (lt_irrefl a))) ?_
  refine r2_ ?_
  refine cF_ ?_
  refine r7_ ?_
  refine rC (Calm.bin rfl rfl (zag (zdo _ _) (by rw [zji,lt_irrefl,decide_eq_true rfl];first | done | rfl))) ?_
  refine r2_ ?_
  refine cF_ ?_
  refine r8_ ?_
  refine ⟨_,S,⟨_,_,rfl,rfl,rfl⟩,zad,?_⟩
  exact ⟨rfl,rfl⟩
 ·rw [if_neg e]
  by_cases h:lt a b=true
  ·rw [if_pos h]
   refine k_E2 (rs:=[.tmp 4]) 20 Tryz.func128 rfl rfl rfl ?_
   refine r8_ ?_
   refine ca_ rfl (zc6 a _) ?_
   rintro _ S1 ⟨rfl,h1⟩
   rw [h1];clear h1 S1
   refine r3_ ?_
   refine k_v4 0 1 4 5 ?_
   refine r3_ ?_
   refine ca_ rfl (zc6 b _) ?_
   rintro _ S1 ⟨rfl,h1⟩
   rw [h1];clear h1 S1
   refine r9_ ?_
   refine cF_ ?_
   refine r8_ ?_
   refine cF_ ?_
   refine r7_ ?_
   refine rC (Calm.bin rfl rfl (zag (zcv _ _) h)) ?_
   refine r2_ ?_
   refine cT_ ?_
   refine r7_ ?_
   refine ⟨_,S,⟨_,_,rfl,rfl,rfl⟩,zad,?_⟩
   exact ⟨rfl,rfl⟩
  ·have h':lt a b=false:=by simpa using h
   rw [if_neg h]
   refine k_E2 (rs:=[.tmp 4]) 20 Tryz.func128 rfl rfl rfl ?_
   refine r8_ ?_
   refine ca_ rfl (zc6 a _) ?_
   rintro _ S1 ⟨rfl,h1⟩
   rw [h1];clear h1 S1
   refine r6_ ?_
   refine ca_ rfl (zc6 b _) ?_
   rintro _ S1 ⟨rfl,h1⟩
   rw [h1];clear h1 S1
   refine r9_ ?_
   refine cF_ ?_
   refine r8_ ?_
   refine cF_ ?_
   refine r7_ ?_
   refine rC (Calm.bin rfl rfl (zag (zcv _ _) h')) ?_
   refine r2_ ?_
   refine k_v8 0 1 4 5 6 11 13 16 ?_
   refine cF_ ?_
   refine r7_ ?_
   refine rC (Calm.bin rfl rfl (zag (zdo _ _) (by rw [zji,h',decide_eq_false e];first | done | rfl))) ?_
   refine r2_ ?_
   refine cT_ ?_
   refine r7_ ?_
   refine ⟨_,S,⟨_,_,rfl,rfl,rfl⟩,zad,?_⟩
   exact ⟨rfl,rfl⟩
theorem zfC (x:Ext) (s:ByteArray) (S:Mem):ACall Tryz.prog 127 #[.agg #[.string x.1,.string x.2],.string s] S fun r S'=>r = .int .i64 (cmpI x.1 s)∧S'=S:=by
 refine k_E2 (rs:=[.tmp 4]) 9 Tryz.func127 rfl rfl rfl ?_
 refine r2_ ?_
 refine ARun.boxA (cs:=[_,_]) (zab rfl) rfl ?_
 intro b2 f2
 have g2:=f2
 repeat ((with_reducible replace g2:=zaa g2);obtain ⟨g2,_⟩:=g2)
 refine nl_ ?_
 refine r8_ ?_
 refine ca_ rfl (zg2 x.1 s _) ?_
 rintro _ S1 ⟨rfl,h1⟩
 rw [h1];clear h1 S1
 refine r4_ ?_
 refine ⟨_,S,⟨_,_,rfl,rfl,rfl⟩,zad,?_⟩
 exact ⟨rfl,rfl⟩
end
section
open Go.RowKit
open Mv Disk
set_option maxRecDepth 4000
theorem zjj {a b:ByteArray}:cmpI a b<0 ↔ lt a b=true:=by
 unfold cmpI
 by_cases e:a=b
 ·subst e;rw [if_pos rfl,lt_irrefl];simp
 ·rw [if_neg e];by_cases h:lt a b=true
  ·rw [if_pos h];simp [h]
  ·rw [if_neg h];simp [h]
theorem zlC {a b:ByteArray}:cmpI a b=0 ↔ a=b:=by
 unfold cmpI
 by_cases e:a=b
 ·rw [if_pos e];simp [e]
 ·rw [if_neg e];by_cases h:lt a b=true
  ·rw [if_pos h];simp [e]
  ·rw [if_neg h];simp [e]
set_option maxHeartbeats 1000000 in
theorem zih (v:Value) (l:List Ext) (s:ByteArray) (S:Mem) (hl:Sl 2 extF S v l) (ha:Asc l) (hn:l.length≤1048576) :
  ACall Tryz.prog 126 #[v,.string s,.func (.func 127) #[] #[]] S fun r S'=>r = .tuple #[.int .i64 (pos l s:Nat),.bool (has l s)]∧S'=S:=by
 obtain ⟨a,cap,rfl,h1,h2,h3⟩:=id hl
 refine k_E3 (rs:=[.tmp 6,.tmp 7]) 49 Tryz.func126 rfl rfl rfl ?_
 refine r22_ ?_
 refine AWP.loop (X:=Nat × Nat) (fun x=>[(0,.slice a l.length cap),(1,.string s),(2,.func (.func 127) #[] #[]),(8,.int .i64 l.length),(9,.int .i64 x.1),(10,.int .i64 x.2)]) (fun x=>S) (fun x=>x.1≤x.2∧x.2≤l.length∧(∀ j (h:j<l.length),j<x.1→lt l[j].1 s=true) ∧ ∀ j (h:j<l.length),x.2≤j→lt l[j].1 s=false) (fun x=>x.2-x.1) ((0,l.length)) ⟨rfl,rfl,rfl,rfl,rfl,rfl,trivial⟩ (Mem.Less.refl _) (⟨Nat.zero_le _,Nat.le_refl _,fun j _ h=>absurd h (Nat.not_lt_zero _),fun j h h'=>absurd h (Nat.not_lt.2 h')⟩) ?_
 rintro ⟨i,j⟩ ⟨hij,hj,hlo,hhi⟩
 (try dsimp only at *)
 refine r8_ ?_
 refine AWP.condB rfl (fun hc=>?_) (fun hc=>?_)
 ·have hc:i<j:=by have:=of_decide_eq_true hc;omega
  obtain ⟨b,off,rfl,hk⟩:=h3.resolve_left (fun e=>by subst e;simp at hj;omega)
  obtain ⟨m,hm⟩ : ∃ m,(i+j) / 2=m:=⟨_,rfl⟩
  have hml:m<l.length:=by omega
  have hki:=hk m hml
  unfold extF at hki
  have e1:IntKind.i64.wrap (((i:Int)+(j:Int)) / 2 ^ (1:Int).toNat)=(m:Int):=by rw [show (2:Int) ^ (1:Int).toNat=2 from rfl,IntWalk.i64_in _ (by omega)];omega
  refine r14_ ?_
  rw [e1]
  refine r8_ ?_
  refine ARun.callV (zab rfl) zp6 rfl rfl (zfC l[m] s _) ?_
  rintro _ S1 ⟨rfl,h1⟩
  rw [h1];clear h1 S1
  refine r3_ ?_
  refine k_v9 0 1 2 8 9 10 17 11 31 ?_
  refine AWP.condB rfl (fun hb=>?_) (fun hb=>?_)
  ·have hb:lt l[m].1 s=true:=zjj.1 (of_decide_eq_true hb)
   have hlo':∀ k (h:k<l.length),k<m+1→lt l[k].1 s=true:=fun k h hk'=>by rcases Nat.lt_or_ge k m with h' | h';exact lt_trans (zdp ha hml h') hb;obtain rfl:k=m:=(by omega);exact hb
   refine r7_ ?_
   refine ⟨(m+1,j),?_,?_,?_,?_⟩
   all_goals (try dsimp only)
   ·exact ⟨rfl,rfl,rfl,rfl,rfl,rfl,trivial⟩
   ·exact zad
   ·exact ⟨by omega,hj,hlo',hhi⟩
   ·omega
  ·have hb:lt l[m].1 s=false:=by have:=of_decide_eq_false hb;rw [zjj] at this;simpa using this
   have hhi':∀ k (h:k<l.length),m≤k→lt l[k].1 s=false:=fun k h hk'=>by rcases Nat.lt_or_ge m k with h' | h';(cases hq:lt l[k].1 s with | false=>rfl | true=>have:=lt_trans (zdp ha h h') hq;rw [hb] at this;cases this);obtain rfl:k=m:=(by omega);exact hb
   refine r6_ ?_
   refine ⟨(i,m),?_,?_,?_,?_⟩
   all_goals (try dsimp only)
   ·exact ⟨rfl,rfl,rfl,rfl,rfl,rfl,trivial⟩
   ·exact zad
   ·exact ⟨by omega,by omega,hlo,hhi'⟩
   ·omega
 ·have hc:i=j:=by have:=of_decide_eq_false hc;omega
  subst hc
  have hp:pos l s=i:=zh_ hj hlo (fun h=>hhi i h (Nat.le_refl _))
  have hh:=zdq ha s
  by_cases hil:i<l.length
  ·obtain ⟨b,off,rfl,hk⟩:=h3.resolve_left (fun e=>by subst e;simp at hil)
   have hki:=hk i hil
   unfold extF at hki
   refine r18_ ?_
   refine rUn 39 ?_
   refine ARun.callV (zab rfl) zp6 rfl rfl (zfC l[i] s _) ?_
   rintro _ S1 ⟨rfl,h1⟩
   rw [h1];clear h1 S1
   have hbb:decide (cmpI l[i].1 s=0)=has l s:=by rw [Bool.eq_iff_iff,decide_eq_true_eq,zlC,hh];constructor;exact fun e=>⟨by rw [hp];exact hil,by simp only [hp];exact e⟩;exact fun ⟨_,e⟩=>by simpa only [hp] using e
   refine r7_ ?_
   refine ⟨_,S,⟨_,_,rfl,⟨_,_,rfl,rfl,rfl⟩,rfl⟩,zad,?_⟩
   exact ⟨by rw [hp,← hbb];rfl,rfl⟩
  ·have hbb:has l s=false:=by cases h:has l s with | false=>rfl | true=>obtain ⟨h',_⟩:=hh.1 h;rw [hp] at h';omega
   refine r26_ ?_
   refine ⟨_,S,⟨_,_,rfl,⟨_,_,rfl,rfl,rfl⟩,rfl⟩,zad,?_⟩
   exact ⟨by rw [hp,hbb];rfl,rfl⟩
theorem za_ (v:Value) (l:List Ext) (s:ByteArray) (S:Mem) (hl:Sl 2 extF S v l) (ha:Asc l) (hn:l.length≤1048576) :
  ACall Tryz.prog 75 #[v,.string s] S fun r S'=>r = .tuple #[.int .i64 (pos l s:Nat),.bool (has l s)]∧S'=S:=by
 refine k_E2 (rs:=[.tmp 4,.tmp 5]) 11 Tryz.func75 rfl rfl rfl ?_
 refine r10_ ?_
 refine ca_ rfl (zih v l s _ hl ha hn) ?_
 rintro _ S1 ⟨rfl,h1⟩
 rw [h1];clear h1 S1
 refine r7_ ?_
 refine ⟨_,S,⟨_,_,rfl,⟨_,_,rfl,rfl,rfl⟩,rfl⟩,zad,?_⟩
 exact ⟨rfl,rfl⟩
theorem zaU (x:Ext) (S:Mem) (hx:x.2.size≤9223372036854775807):ACall Tryz.prog 125 #[.agg #[.string x.1,.string x.2]] S fun r S'=>r = .int .i64 (sec x:Nat)∧S'=S:=by
 refine k_E1 (rs:=[.tmp 2]) 7 Tryz.func125 rfl rfl rfl ?_
 refine r2_ ?_
 refine ARun.boxA (cs:=[_,_]) (zab rfl) rfl ?_
 intro b1 f1
 have g1:=f1
 repeat ((with_reducible replace g1:=zaa g1);obtain ⟨g1,_⟩:=g1)
 refine nl_ ?_
 refine r13_ ?_
 refine ⟨_,S,⟨_,_,rfl,rfl,rfl⟩,zad,?_⟩
 exact ⟨val_int (by unfold sec;omega),rfl⟩
end
section
open Go.RowKit
namespace Disk
theorem zof {x:ByteArray} (h:x.size≠0):lt ByteArray.empty x=true:=by
 unfold lt
 cases e:x.data.toList with
 | nil=>have:=Mv.zaT x;rw [e] at this;simp at this;omega
 | cons a l=>rfl
theorem zbI {α : Type} {l:List α} {i:Nat} (h:i<l.length):l.take (i+1)=l.take i ++ [l[i]]:=by
 rw [List.take_add_one,List.getElem?_eq_getElem h];rfl
def lastN (l:List Ext):Nat→ByteArray
  | 0=>ByteArray.empty
  | i+1=>(l[i]?.map (·.1)).getD ByteArray.empty
theorem zeb {l:List Ext} {i:Nat} (h:i<l.length):lastN l (i+1)=l[i].1:=by
 simp [lastN,List.getElem?_eq_getElem h]
structure Upto (l:List Ext) (size:Int) (i:Nat):Prop where
  ok:∀ x ∈ l.take i,eok x
  asc:Asc (l.take i)
  us:(used (l.take i):Int)≤size
theorem zlD (l:List Ext) {size:Int} (h:0≤size):Upto l size 0:=⟨fun x h=>by simp at h,by simp [Asc],by simpa [used] using h⟩
theorem zog {l:List Ext} {size:Int} (h:Upto l size l.length):ERight l size:=by
 obtain ⟨h1,h2,h3⟩:=h
 rw [List.take_length] at h1 h2 h3
 exact ⟨h1,h2,h3⟩
theorem zlE {l:List Ext} {size:Int} {i:Nat} (h:Upto l size i) (hi:i<l.length) (h1:eok l[i]) (h2:lt (lastN l i) l[i].1=true) (h3:(used (l.take i):Int)+sec l[i]≤size):Upto l size (i+1):=by
 have e:=zbI hi
 refine ⟨fun x hx=>?_,?_,?_⟩
 ·rw [e,List.mem_append] at hx
  rcases hx with hx | hx
  ·exact h.ok x hx
  ·rw [List.mem_singleton.1 hx];exact h1
 ·rw [e]
  unfold Asc
  rw [List.pairwise_append]
  refine ⟨h.asc,by simp,fun a ha b hb=>?_⟩
  rw [List.mem_singleton.1 hb]
  obtain ⟨j,hj,rfl⟩:=List.getElem_of_mem ha
  have hj':j<i:=by simp at hj;omega
  cases i with
  | zero=>omega
  | succ i =>
   rw [zeb (by omega)] at h2
   by_cases hji:j=i
   ·subst hji;simpa using h2
   ·have:=zdp h.asc (i:=j) (j:=i) (by simp;omega) (by omega)
    simp only [List.getElem_take] at this ⊢
    exact lt_trans this h2
 ·rw [e,zaZ];simp only [used];omega
theorem zoh {l:List Ext} {size:Int} (h:ERight l size) {i:Nat} (hi:i<l.length):eok l[i]∧lt (lastN l i) l[i].1=true∧(used (l.take i):Int)+sec l[i]≤size:=by
 refine ⟨h.ok _ (List.getElem_mem hi),?_,?_⟩
 ·cases i with
  | zero=>exact zof (h.ok _ (List.getElem_mem hi)).1.1
  | succ i=>rw [zeb (by omega)];exact zdp h.asc hi (by omega)
 ·have h1:=h.us
  have e:l=l.take (i+1) ++ l.drop (i+1):=(List.take_append_drop _ _).symm
  rw [e,zaZ,zbI hi,zaZ] at h1
  simp only [used] at h1;omega
end Disk
end
section
open Go.RowKit
open Mv Disk
set_option maxRecDepth 4000
theorem zca {S:Mem} {b:Nat} {e:TypeId} {s:ByteArray} (h:S.own b=some ⟨e,[.string s],1⟩):Sl 1 strs S (.slice (some ⟨b,0,none⟩) 1 1) [s] :=
 Sl.own1 (g:=fun s:ByteArray=>.string s) h List.prefix_rfl rfl (by decide) (by decide)
theorem zsY {a b:ByteArray} (h:lt a b=true):(Op.bytesLess b.data.toList a.data.toList || decide (b=a))=false:=by
 rw [zji,zoc h,decide_eq_false (Ne.symm (ztU h))];rfl
theorem zqR {a b:ByteArray} (h:lt a b=false):(Op.bytesLess b.data.toList a.data.toList || decide (b=a))=true:=by
 rw [zji]
 by_cases e:b=a
 ·rw [decide_eq_true e,Bool.or_true]
 ·rw [zp5 (Ne.symm e) h];rfl
theorem zcb {p:ByteArray→Prop} {s:ByteArray}:(∀ x ∈ [s],p x) ↔ p s:=by simp
set_option maxHeartbeats 1000000 in
theorem zg3 (v:Value) (l:List Ext) (size:Int) (S:Mem) (hl:Sl 2 extF S v l) (h0:0≤size) (h1:size≤16384) (hz:∀ x ∈ l,x.2.size≤140737488351232) :
  ACall Tryz.prog 124 #[v,.int .i64 size] S fun r S'=>(∃ t:Bool,r = .bool t∧(t=true ↔ ERight l size))∧S'=S:=by
 obtain ⟨a,cap,rfl,hl1,hl2,hl3⟩:=id hl
 refine k_E2 (rs:=[.tmp 4]) 46 Tryz.func124 rfl rfl rfl ?_
 refine r19_ ?_
 refine AWP.loop (X:=Nat) (fun x=>[(1,.int .i64 (size-used (l.take x))),(5,.string (lastN l x)),(8,.slice a l.length cap),(9,.int .i64 l.length),(10,.int .i64 x)]) (fun x=>S) (fun x=>x≤l.length∧Upto l size x) (fun x=>l.length-x) (0) ⟨zai (by simp [used]),rfl,rfl,rfl,rfl,trivial⟩ (Mem.Less.refl _) (⟨Nat.zero_le _,zlD l h0⟩) ?_
 rintro i ⟨hi,hup⟩
 (try dsimp only at *)
 refine r6_ ?_
 refine AWP.condB rfl (fun hc=>?_) (fun hc=>?_)
 ·have hc:i<l.length:=by have:=of_decide_eq_true hc;omega
  obtain ⟨b,off,rfl,hk⟩:=hl3.resolve_left (fun e=>by subst e;simp at hc)
  have hki:=hk i hc
  have hzi:=hz _ (List.getElem_mem hc)
  have hus:=hup.us
  have hra:=fun h:ERight l size=>zoh h hc
  have hut:used (l.take (i+1))=used (l.take i)+sec l[i]:=by rw [zbI hc,zaZ];simp [used]
  have hln:=zeb hc
  have hsu:=zlE hup hc
  generalize hx:l[i]=x at *
  unfold extF at hki
  have hsx:sec x≤140737488351232:=by unfold sec;omega
  by_cases q1:nm x.1
  ·by_cases q2:lt (lastN l i) x.1=true
   ·have q2':=zsY q2
    by_cases q3:x.2.size=0
    ·refine r8_ ?_
     refine ARun.alloc (zab rfl) zbo ?_
     intro b7 f7
     have g7:=f7
     repeat ((with_reducible replace g7:=zaa g7);obtain ⟨g7,_⟩:=g7)
     refine nl_ ?_
     refine r8_ ?_
     refine ARun.build1s (zab rfl) zaN rfl rfl ?_
     intro b16 f16
     have g16:=f16
     repeat ((with_reducible replace g16:=zaa g16);obtain ⟨g16,_⟩:=g16)
     refine ca_ rfl (zbb _ [x.1] _ (zca own_)) ?_
     rintro _ S1 ⟨⟨t,rfl,ht⟩,h1⟩
     rw [h1];clear h1 S1
     obtain rfl:t=true:=ht.2 (zcb.2 q1)
     refine r5_ ?_
     first|refine k_q 19 ?_|refine rG 19 (Calm.bin rfl rfl (zag (zbZ _ _) q2')) ?_
     refine r4_ ?_
     first|refine k_q 25 ?_|refine rG 25 (Calm.bin rfl rfl (zag (zaw _ _) (decide_eq_true ((zif _).2 q3)))) ?_
     refine r10_ ?_
     refine cT_ ?_
     refine r12_ ?_
     refine ⟨_,S,⟨_,_,rfl,rfl,rfl⟩,zad,?_⟩
     exact ⟨⟨false,rfl,by simp;exact fun h=>(hra h).1.2.1 q3⟩,rfl⟩
    ·by_cases q4:x.2.size % 64=0
     ·refine r8_ ?_
      refine ARun.alloc (zab rfl) zbo ?_
      intro b7 f7
      have g7:=f7
      repeat ((with_reducible replace g7:=zaa g7);obtain ⟨g7,_⟩:=g7)
      refine nl_ ?_
      refine r8_ ?_
      refine ARun.build1s (zab rfl) zaN rfl rfl ?_
      intro b16 f16
      have g16:=f16
      repeat ((with_reducible replace g16:=zaa g16);obtain ⟨g16,_⟩:=g16)
      refine ca_ rfl (zbb _ [x.1] _ (zca own_)) ?_
      rintro _ S1 ⟨⟨t,rfl,ht⟩,h1⟩
      rw [h1];clear h1 S1
      obtain rfl:t=true:=ht.2 (zcb.2 q1)
      refine r5_ ?_
      first|refine k_q 19 ?_|refine rG 19 (Calm.bin rfl rfl (zag (zbZ _ _) q2')) ?_
      refine r4_ ?_
      first|refine k_q 25 ?_|refine rG 25 (Calm.bin rfl rfl (zag (zaw _ _) (decide_eq_false (fun e=>q3 ((zif _).1 e))))) ?_
      refine r10_ ?_
      refine cF_ ?_
      refine r7_ ?_
      refine ca_ rfl (zaU x _ (by omega)) ?_
      rintro _ S1 ⟨rfl,h1⟩
      rw [h1];clear h1 S1
      refine r4_ ?_
      refine k_v8 1 5 8 9 10 11 7 36 ?_
      refine r6_ ?_
      refine AWP.condB rfl (fun q5=>?_) (fun q5=>?_)
      ·refine r12_ ?_
       refine ⟨_,S,⟨_,_,rfl,rfl,rfl⟩,zad,?_⟩
       exact ⟨⟨false,rfl,by simp;exact fun h=>absurd (hra h).2.2 (by have:=of_decide_eq_true q5;omega)⟩,rfl⟩
      ·have q5:=of_decide_eq_false q5
       refine r14_ ?_
       refine ⟨i+1,?_,?_,?_,?_⟩
       all_goals (try dsimp only)
       ·exact ⟨zai (by rw [hut];omega),znT hln.symm,rfl,rfl,rfl,trivial⟩
       ·exact zad
       ·exact ⟨hc,hsu ⟨q1,q3,q4⟩ q2 (by omega)⟩
       ·omega
     ·refine r8_ ?_
      refine ARun.alloc (zab rfl) zbo ?_
      intro b7 f7
      have g7:=f7
      repeat ((with_reducible replace g7:=zaa g7);obtain ⟨g7,_⟩:=g7)
      refine nl_ ?_
      refine r8_ ?_
      refine ARun.build1s (zab rfl) zaN rfl rfl ?_
      intro b16 f16
      have g16:=f16
      repeat ((with_reducible replace g16:=zaa g16);obtain ⟨g16,_⟩:=g16)
      refine ca_ rfl (zbb _ [x.1] _ (zca own_)) ?_
      rintro _ S1 ⟨⟨t,rfl,ht⟩,h1⟩
      rw [h1];clear h1 S1
      obtain rfl:t=true:=ht.2 (zcb.2 q1)
      refine r5_ ?_
      first|refine k_q 19 ?_|refine rG 19 (Calm.bin rfl rfl (zag (zbZ _ _) q2')) ?_
      refine r4_ ?_
      first|refine k_q 25 ?_|refine rG 25 (Calm.bin rfl rfl (zag (zaw _ _) (decide_eq_false (fun e=>q3 ((zif _).1 e))))) ?_
      refine r10_ ?_
      refine cT_ ?_
      refine r12_ ?_
      refine ⟨_,S,⟨_,_,rfl,rfl,rfl⟩,zad,?_⟩
      exact ⟨⟨false,rfl,by simp;exact fun h=>q4 (hra h).1.2.2⟩,rfl⟩
   ·have q2':=zqR (Bool.eq_false_iff.2 q2)
    refine r8_ ?_
    refine ARun.alloc (zab rfl) zbo ?_
    intro b7 f7
    have g7:=f7
    repeat ((with_reducible replace g7:=zaa g7);obtain ⟨g7,_⟩:=g7)
    refine nl_ ?_
    refine r3_ ?_
    refine k_v7 1 5 8 9 10 11 7 ?_
    refine r5_ ?_
    refine ARun.build1s (zab rfl) zaN rfl rfl ?_
    intro b16 f16
    have g16:=f16
    repeat ((with_reducible replace g16:=zaa g16);obtain ⟨g16,_⟩:=g16)
    refine ca_ rfl (zbb _ [x.1] _ (zca own_)) ?_
    rintro _ S1 ⟨⟨t,rfl,ht⟩,h1⟩
    rw [h1];clear h1 S1
    obtain rfl:t=true:=ht.2 (zcb.2 q1)
    refine r5_ ?_
    first|refine k_q 19 ?_|refine rG 19 (Calm.bin rfl rfl (zag (zbZ _ _) q2')) ?_
    refine r15_ ?_
    refine cT_ ?_
    refine r12_ ?_
    refine ⟨_,S,⟨_,_,rfl,rfl,rfl⟩,zad,?_⟩
    exact ⟨⟨false,rfl,by simp;exact fun h=>q2 (hra h).2.1⟩,rfl⟩
  ·refine r8_ ?_
   refine ARun.alloc (zab rfl) zbo ?_
   intro b7 f7
   have g7:=f7
   repeat ((with_reducible replace g7:=zaa g7);obtain ⟨g7,_⟩:=g7)
   refine nl_ ?_
   refine r8_ ?_
   refine ARun.build1s (zab rfl) zaN rfl rfl ?_
   intro b16 f16
   have g16:=f16
   repeat ((with_reducible replace g16:=zaa g16);obtain ⟨g16,_⟩:=g16)
   refine ca_ rfl (zbb _ [x.1] _ (zca own_)) ?_
   rintro _ S1 ⟨⟨t,rfl,ht⟩,h1⟩
   rw [h1];clear h1 S1
   obtain rfl:t=false:=Bool.eq_false_iff.2 (fun e=>q1 (zcb.1 (ht.1 e)))
   refine r21_ ?_
   refine cT_ ?_
   refine r12_ ?_
   refine ⟨_,S,⟨_,_,rfl,rfl,rfl⟩,zad,?_⟩
   exact ⟨⟨false,rfl,by simp;exact fun h=>q1 (hra h).1.1⟩,rfl⟩
 ·have hc:i=l.length:=by have:=of_decide_eq_false hc;omega
  subst hc
  refine r11_ ?_
  refine ⟨_,S,⟨_,_,rfl,rfl,rfl⟩,zad,?_⟩
  exact ⟨⟨true,rfl,by simp;exact zog hup⟩,rfl⟩
end
section
open Go.RowKit
open Mv Disk
set_option maxRecDepth 4000
theorem zqS {l:List Ext} (ha:Asc l) {w:Wr} {p:Nat} (hp:p<l.length) (e:l[p].1=w.1):wok l w ↔ 0≤w.2.1∧w.2.1<sec l[p]∧w.2.2.size=64:=by
 constructor
 ·rintro ⟨x,hx,e2,h⟩
  have:x=l[p]:=zlx ha hx (List.getElem_mem hp) (e2.trans e.symm)
  subst this;exact h
 ·intro h
  exact ⟨l[p],List.getElem_mem hp,e,h⟩
theorem zqT {l:List Ext} {w:Wr} (h:wok l w):has l w.1=true:=by
 obtain ⟨x,hx,e,_⟩:=h
 exact zbd.2 ⟨x,hx,e⟩
def DkR (S:Mem) (v:Value) (d:D):Prop:=∃ pe ce pw cw,v = .agg #[.int .i64 d.size,.slice pe d.ext.length ce,.slice pw d.waits.length cw,.int .i64 d.fuse,.bool d.down]∧Sl 2 extF S (.slice pe d.ext.length ce) d.ext∧Sl 3 wrF S (.slice pw d.waits.length cw) d.waits
theorem DkR.less {S S':Mem} {v:Value} {d:D} (h:DkR S v d) (hl:S.Less S'):DkR S' v d:=by
 obtain ⟨pe,ce,pw,cw,e,h1,h2⟩:=h
 exact ⟨pe,ce,pw,cw,e,h1.less hl,h2.less hl⟩
structure Dz (d:D):Prop where
  s0 : -9223372036854775808≤d.size
  s1:d.size≤9223372036854775807
  f0 : -9223372036854775808≤d.fuse
  f1:d.fuse≤9223372036854775807
  el:d.ext.length≤4398046511104
  wl:d.waits.length≤3518437208883
  ez:∀ x ∈ d.ext,x.1.size≤140737488351232∧x.2.size≤140737488351232
  wz:∀ w ∈ d.waits,w.1.size≤140737488351232 ∧ -9223372036854775808≤w.2.1∧w.2.1≤9223372036854775807∧w.2.2.size≤140737488351232
set_option maxHeartbeats 2000000 in
theorem zki (v:Value) (d:D) (S:Mem) (hd:DkR S v d) (hz:Dz d) :
  ACall Tryz.prog 72 #[v] S fun r S'=>r = .int .i64 (chkD d)∧S'=S:=by
 obtain ⟨pe,ce,pw,cw,rfl,hE,hW⟩:=hd
 obtain ⟨size,ext,waits,fuse,down⟩:=d
 have hez:=fun x hx=>(hz.ez x hx).2
 have hs0:=hz.s0;have hs1:=hz.s1;have hf0:=hz.f0;have hf1:=hz.f1
 simp only at hE hW hez hs0 hs1 hf0 hf1 ⊢
 obtain ⟨_,_,ee1,ee2,ee3,hE3⟩:=id hE
 obtain ⟨_,_,ew1,ew2,ew3,hW3⟩:=id hW
 cases ee1;cases ew1
 refine k_E1 (rs:=[.tmp 2]) 74 Tryz.func72 rfl rfl rfl ?_
 refine r2_ ?_
 refine k_b5 rfl ?_
 intro b1 f1
 have g1:=f1
 repeat ((with_reducible replace g1:=zaa g1);obtain ⟨g1,_⟩:=g1)
 refine nl_ ?_
 refine r3_ ?_
 refine named (S:=S) (b:=b1) g1.1 ?_
 intro T1 hT1 kb1
 replace hE:=hE.less hT1
 replace hW:=hW.less hT1
 by_cases q1:size<0
 ·refine r32_ ?_
  refine cT_ ?_
  refine r7_ ?_
  refine ⟨_,S,⟨_,_,rfl,rfl,rfl⟩,hT1.trans zad,?_⟩
  exact ⟨by rw [zb_ (fun h=>absurd h.s0 (by simp only;omega))];rfl,rfl⟩
 ·by_cases q2:16384<size
  ·refine r32_ ?_
   refine cT_ ?_
   refine r7_ ?_
   refine ⟨_,S,⟨_,_,rfl,rfl,rfl⟩,hT1.trans zad,?_⟩
   exact ⟨by rw [zb_ (fun h=>absurd h.s1 (by simp only;omega))];rfl,rfl⟩
  ·by_cases q3:16384<waits.length
   ·refine r32_ ?_
    refine cT_ ?_
    refine r7_ ?_
    refine ⟨_,S,⟨_,_,rfl,rfl,rfl⟩,hT1.trans zad,?_⟩
    exact ⟨by rw [zb_ (fun h=>absurd h.wl (by simp only;omega))];rfl,rfl⟩
   ·by_cases q4:fuse < -1
    ·refine r32_ ?_
     refine cT_ ?_
     refine r7_ ?_
     refine ⟨_,S,⟨_,_,rfl,rfl,rfl⟩,hT1.trans zad,?_⟩
     exact ⟨by rw [zb_ (fun h=>absurd h.fu (by simp only;omega))];rfl,rfl⟩
    ·refine r27_ ?_
     refine ARun.callG 19 false 26 rfl (zab rfl) rfl (zab rfl) zsS rfl (zg3 _ ext size _ hE (by omega) (by omega) hez) ?_
     rintro _ S1 ⟨⟨t,rfl,ht⟩,h1⟩
     rw [h1];clear h1 S1
     refine r4_ ?_
     refine k_v4 0 1 2 33 ?_
     by_cases q5:ERight ext size
     ·obtain rfl:t=true:=ht.2 q5
      refine cF_ ?_
      have hul:=zlu q5.ok
      have hus:=q5.us
      refine r12_ ?_
      refine AWP.loop (X:=Nat) (fun x=>[(1,.pointer (some ⟨b1,0,none⟩)),(35,.slice pw waits.length cw),(36,.int .i64 waits.length),(37,.int .i64 x)]) (fun x=>T1) (fun x=>x≤waits.length ∧ ∀ j (h:j<waits.length),j<x→wok ext waits[j]) (fun x=>waits.length-x) (0) ⟨rfl,rfl,rfl,rfl,trivial⟩ (Mem.Less.refl _) (⟨Nat.zero_le _,fun j _ h=>absurd h (Nat.not_lt_zero _)⟩) ?_
      rintro i ⟨hi,hall⟩
      (try dsimp only at *)
      refine r6_ ?_
      refine AWP.condB rfl (fun hc=>?_) (fun hc=>?_)
      ·have hc:i<waits.length:=by have:=of_decide_eq_true hc;omega
       obtain ⟨b,off,rfl,hk⟩:=hW3.resolve_left (fun e=>by subst e;simp at hc)
       have hki:=(hk i hc).less hT1
       have hwz:=hz.wz _ (List.getElem_mem hc)
       have hwn : ¬ wok ext waits[i] → ¬ Right ⟨size,ext,waits,fuse,down⟩:=fun h h'=>h (h'.wr _ (List.getElem_mem hc))
       have hall':wok ext waits[i] → ∀ j (h:j<waits.length),j<i+1→wok ext waits[j]:=fun hw j h hj=>by rcases Nat.lt_or_ge j i with h' | h';exact hall j h h';obtain rfl:j=i:=(by omega);exact hw
       have hhp:=zdq q5.asc waits[i].1
       have hwh:=zqT (l:=ext) (w:=waits[i])
       have hwp:=fun (p:Nat) (hp:p<ext.length) (e:ext[p].1=(waits[i]'hc).1)=>zqS q5.asc hp e
       generalize waits[i]=w at *
       unfold wrF at hki
       refine r8_ ?_
       refine ARun.alloc (zab rfl) zcy ?_
       intro b4 f4
       have g4:=f4
       repeat ((with_reducible replace g4:=zaa g4);obtain ⟨g4,_⟩:=g4)
       have:=g4.ne kb1;have:=g4.ne' kb1
       refine nl_ ?_
       refine r9_ ?_
       refine ca_ rfl (za_ _ ext w.1 _ (hE.less zad) q5.asc (by omega)) ?_
       rintro _ S1 ⟨rfl,h1⟩
       rw [h1];clear h1 S1
       refine r7_ ?_
       by_cases q6:has ext w.1=true
       ·obtain ⟨hp,hpe⟩:=hhp.1 q6
        obtain ⟨be,oe,hpe2,hke⟩:=hE3.resolve_left (fun e=>by subst e;simp at hp)
        subst hpe2
        have hkp:=(hke _ hp).less hT1
        have hsz:=hez _ (List.getElem_mem hp)
        replace hwp:=hwp _ hp hpe
        rw [q6]
        generalize hpp:pos ext w.1=p at *
        generalize hxx:ext[p]=x at *
        unfold extF at hkp
        have hsx:sec x≤140737488351232:=by unfold sec;omega
        by_cases q7:w.2.1<0
        ·refine s1_ ?_
         refine AWP.draw [(0,true),(1,true),(2,true),(3,true),(4,true),(5,true),(6,true),(7,true),(8,true),(9,true),(10,true),(11,true),(12,true),(13,true),(14,true),(15,false),(16,true),(17,true),(18,true),(19,true),(20,true),(21,true),(22,true),(23,true)] [] mixed (by kernel_rfl) ?_
         refine r15_ ?_
         refine zac rfl ?_
         refine s1_ ?_
         refine zae ⟨fun _=>zad,?_⟩
         refine r10_ ?_
         refine cT_ ?_
         refine r11_ ?_
         refine ⟨_,S,⟨_,_,rfl,rfl,rfl⟩,hT1.trans zad,?_⟩
         exact ⟨by rw [zb_ (hwn (fun h=>absurd (hwp.1 h).1 (by omega)))];rfl,rfl⟩
        ·by_cases q8:(sec x:Int)≤w.2.1
         ·refine s1_ ?_
          refine AWP.draw [(0,true),(1,true),(2,true),(3,true),(4,true),(5,true),(6,true),(7,true),(8,true),(9,true),(10,true),(11,true),(12,true),(13,true),(14,true),(15,false),(16,true),(17,true),(18,true),(19,true),(20,true),(21,true),(22,true),(23,true)] [] mixed (by kernel_rfl) ?_
          refine r15_ ?_
          refine zac rfl ?_
          refine ARun.callG 7 false 56 rfl (zab rfl) rfl (zab rfl) zes rfl (zaU x _ (by omega)) ?_
          rintro _ S1 ⟨rfl,h1⟩
          rw [h1];clear h1 S1
          refine zae ⟨fun _=>zad,?_⟩
          refine r10_ ?_
          refine k_v9 1 35 36 37 38 4 5 6 72 ?_
          refine cT_ ?_
          refine r11_ ?_
          refine ⟨_,S,⟨_,_,rfl,rfl,rfl⟩,hT1.trans zad,?_⟩
          exact ⟨by rw [zb_ (hwn (fun h=>absurd (hwp.1 h).2.1 (by omega)))];rfl,rfl⟩
         ·by_cases q9:w.2.2.size=64
          ·refine s1_ ?_
           refine AWP.draw [(0,true),(1,true),(2,true),(3,true),(4,true),(5,true),(6,true),(7,true),(8,true),(9,true),(10,true),(11,true),(12,true),(13,true),(14,true),(15,false),(16,true),(17,true),(18,true),(19,true),(20,true),(21,true),(22,true),(23,true)] [] mixed (by kernel_rfl) ?_
           refine r15_ ?_
           refine zac rfl ?_
           refine ARun.callG 7 false 56 rfl (zab rfl) rfl (zab rfl) zes rfl (zaU x _ (by omega)) ?_
           rintro _ S1 ⟨rfl,h1⟩
           rw [h1];clear h1 S1
           refine zae ⟨fun _=>zad,?_⟩
           refine r10_ ?_
           refine cF_ ?_
           refine r8_ ?_
           refine ⟨i+1,?_,?_,?_,?_⟩
           all_goals (try dsimp only)
           ·exact ⟨rfl,rfl,rfl,rfl,trivial⟩
           ·exact zad
           ·exact ⟨hc,hall' (hwp.2 ⟨by omega,by omega,q9⟩)⟩
           ·omega
          ·refine s1_ ?_
           refine AWP.draw [(0,true),(1,true),(2,true),(3,true),(4,true),(5,true),(6,true),(7,true),(8,true),(9,true),(10,true),(11,true),(12,true),(13,true),(14,true),(15,false),(16,true),(17,true),(18,true),(19,true),(20,true),(21,true),(22,true),(23,true)] [] mixed (by kernel_rfl) ?_
           refine r15_ ?_
           refine zac rfl ?_
           refine ARun.callG 7 false 56 rfl (zab rfl) rfl (zab rfl) zes rfl (zaU x _ (by omega)) ?_
           rintro _ S1 ⟨rfl,h1⟩
           rw [h1];clear h1 S1
           refine zae ⟨fun _=>zad,?_⟩
           refine r10_ ?_
           refine cT_ ?_
           refine r11_ ?_
           refine ⟨_,S,⟨_,_,rfl,rfl,rfl⟩,hT1.trans zad,?_⟩
           exact ⟨by rw [zb_ (hwn (fun h=>q9 (hwp.1 h).2.2))];rfl,rfl⟩
       ·rw [Bool.eq_false_iff.2 q6]
        refine s1_ ?_
        refine AWP.draw [(0,true),(1,true),(2,true),(3,true),(4,true),(5,true),(6,true),(7,true),(8,true),(9,true),(10,true),(11,true),(12,true),(13,true),(14,true),(15,false),(16,true),(17,true),(18,true),(19,true),(20,true),(21,true),(22,true),(23,true)] [] mixed (by kernel_rfl) ?_
        refine r15_ ?_
        refine zac rfl ?_
        refine s1_ ?_
        refine zae ⟨fun _=>zad,?_⟩
        refine r10_ ?_
        refine cT_ ?_
        refine r11_ ?_
        refine ⟨_,S,⟨_,_,rfl,rfl,rfl⟩,hT1.trans zad,?_⟩
        exact ⟨by rw [zb_ (hwn (fun h=>q6 (hwh h)))];rfl,rfl⟩
      ·have hc:i=waits.length:=by have:=of_decide_eq_false hc;omega
       refine r11_ ?_
       refine ⟨_,S,⟨_,_,rfl,rfl,rfl⟩,hT1.trans zad,?_⟩
       exact ⟨by rw [zjh ⟨by simp only;omega,by simp only;omega,by simp only;omega,by simp only;omega,q5,fun w hw=>by obtain ⟨j,hj,rfl⟩:=List.getElem_of_mem hw;exact hall j hj (by have h':j<waits.length:=hj;omega)⟩];rfl,rfl⟩
     ·obtain rfl:t=false:=Bool.eq_false_iff.2 (fun e=>q5 (ht.1 e))
      refine cT_ ?_
      refine r7_ ?_
      refine ⟨_,S,⟨_,_,rfl,rfl,rfl⟩,hT1.trans zad,?_⟩
      exact ⟨by rw [zb_ (fun h=>q5 h.ex)];rfl,rfl⟩
end
section
open Go.RowKit
open Mv Disk
set_option maxRecDepth 4000
theorem za2 (x:Ext):(extF x).length=2:=rfl
theorem zci (x:Wr):(wrF x).length=3:=rfl
theorem zeY (l:List Ext):∀ v ∈ l.flatMap extF,v.oneCell'=true:=fun v hv=>by
 obtain ⟨x,_,hx⟩:=List.mem_flatMap.1 hv
 simp only [extF,List.mem_cons,List.not_mem_nil,or_false] at hx
 rcases hx with rfl | rfl <;> rfl
theorem zp8 (l:List Wr):∀ v ∈ l.flatMap wrF,v.oneCell'=true:=fun v hv=>by
 obtain ⟨x,_,hx⟩:=List.mem_flatMap.1 hv
 simp only [wrF,List.mem_cons,List.not_mem_nil,or_false] at hx
 rcases hx with rfl | rfl | rfl <;> rfl
abbrev extT:TypeId:=155
abbrev wrT:TypeId:=159
theorem zii (v:Value) (l:List Ext) (S:Mem) (hl:Sl 2 extF S v l) (hz:l.length≤4398046511104) :
  ACall Tryz.prog 85 #[v] S (OwnR 2 extF extT l S):=by
 obtain ⟨a,cap,rfl,h1,h2,h3⟩:=id hl
 refine k_E1 (rs:=[.tmp 2]) 8 Tryz.func85 rfl rfl rfl ?_
 cases a
 ·refine r12_ ?_
  refine cT_ ?_
  obtain rfl:l = []:=h3.resolve_right (fun ⟨b,off,e,_⟩=>by cases e)
  refine r7_ ?_
  refine ⟨_,S,⟨_,_,rfl,rfl,rfl⟩,zad,?_⟩
  exact ⟨none,zbR S,rfl,rfl⟩
 ·refine r12_ ?_
  refine cF_ ?_
  refine r4_ ?_
  refine ARun.build0 (zab rfl) zbm ?_
  intro b5 f5
  have g5:=f5
  repeat ((with_reducible replace g5:=zaa g5);obtain ⟨g5,_⟩:=g5)
  refine s1_ ?_
  refine ARun.appendOK (n:=2) (o:=some (b5,0)) (k:=0) (m:=l.length) (cs:=[]) (zab rfl) zbm rfl rfl rfl (zbS f5 (Nat.le_refl _)) (zbK (zbS f5 (Nat.le_refl 0)) rfl) rfl ((hl.less zad).src za2) (zaq za2 l) (zeY l) (by omega) (by omega) ?_
  intro o ho
  rw [Nat.zero_add] at ho ⊢
  refine r4_ ?_
  refine ⟨_,_,⟨_,_,rfl,rfl,rfl⟩,Mem.Less.refl _,?_⟩
  exact ⟨o,ho,rfl,rfl⟩
theorem zij (v:Value) (l:List Wr) (S:Mem) (hl:Sl 3 wrF S v l) (hz:l.length≤3518437208883) :
  ACall Tryz.prog 86 #[v] S (OwnR 3 wrF wrT l S):=by
 obtain ⟨a,cap,rfl,h1,h2,h3⟩:=id hl
 refine k_E1 (rs:=[.tmp 2]) 8 Tryz.func86 rfl rfl rfl ?_
 cases a
 ·refine r12_ ?_
  refine cT_ ?_
  obtain rfl:l = []:=h3.resolve_right (fun ⟨b,off,e,_⟩=>by cases e)
  refine r7_ ?_
  refine ⟨_,S,⟨_,_,rfl,rfl,rfl⟩,zad,?_⟩
  exact ⟨none,zbR S,rfl,rfl⟩
 ·refine r12_ ?_
  refine cF_ ?_
  refine r4_ ?_
  refine ARun.build0 (zab rfl) zdH ?_
  intro b5 f5
  have g5:=f5
  repeat ((with_reducible replace g5:=zaa g5);obtain ⟨g5,_⟩:=g5)
  refine s1_ ?_
  refine ARun.appendOK (n:=3) (o:=some (b5,0)) (k:=0) (m:=l.length) (cs:=[]) (zab rfl) zdH rfl rfl rfl (zbS f5 (Nat.le_refl _)) (zbK (zbS f5 (Nat.le_refl 0)) rfl) rfl ((hl.less zad).src zci) (zaq zci l) (zp8 l) (by omega) (by omega) ?_
  intro o ho
  rw [Nat.zero_add] at ho ⊢
  refine r4_ ?_
  refine ⟨_,_,⟨_,_,rfl,rfl,rfl⟩,Mem.Less.refl _,?_⟩
  exact ⟨o,ho,rfl,rfl⟩
theorem za6 {S:Mem} {o:Option (Nat × Nat)} {n:Nat} (h:OkO S o n):∃ a c,outV o n = .slice a n c:=by
 cases o with
 | none=>rw [h.nil rfl];exact ⟨none,0,rfl⟩
 | some q=>exact ⟨_,q.2,rfl⟩
def dkV (d:D) (oE oW:Option (Nat × Nat)):Value:=.agg #[.int .i64 d.size,outV oE d.ext.length,outV oW d.waits.length,.int .i64 d.fuse,.bool d.down]
def dkM (S:Mem) (d:D) (oE oW:Option (Nat × Nat)):Mem:=outN 3 (outN 2 S oE extT (d.ext.flatMap extF)) oW wrT (d.waits.flatMap wrF)
structure OkD (S:Mem) (d:D) (oE oW:Option (Nat × Nat)):Prop where
  e:OkO S oE d.ext.length
  w:OkO (outN 2 S oE extT (d.ext.flatMap extF)) oW d.waits.length
theorem OkD.less {S:Mem} {d:D} {oE oW:Option (Nat × Nat)} (h:OkD S d oE oW):S.Less (dkM S d oE oW):=(za9 h.e).trans (za9 h.w)
theorem OkD.dk {S:Mem} {d:D} {oE oW:Option (Nat × Nat)} (h:OkD S d oE oW) (he:d.ext.length≤9223372036854775807) (hw:d.waits.length≤9223372036854775807):DkR (dkM S d oE oW) (dkV d oE oW) d:=by
 have h1:=zcP za2 (e:=extT) h.e rfl he
 have h2:=zcP zci (e:=wrT) h.w rfl hw
 obtain ⟨a,c,e⟩:=za6 h.e
 obtain ⟨a',c',e'⟩:=za6 h.w
 rw [e] at h1;rw [e'] at h2
 exact ⟨a,c,a',c',by unfold dkV;rw [e,e'],h1.less (za9 h.w),h2⟩
set_option maxHeartbeats 1000000 in
theorem zjk (v:Value) (d:D) (S:Mem) (hd:DkR S v d) (hz1:d.ext.length≤4398046511104) (hz2:d.waits.length≤3518437208883) :
  ACall Tryz.prog 45 #[v] S fun r S'=>∃ oE oW,OkD S d oE oW∧r=dkV d oE oW∧S'=dkM S d oE oW:=by
 obtain ⟨pe,ce,pw,cw,rfl,hE,hW⟩:=hd
 refine k_E1 (rs:=[.cell 2 29]) 12 Tryz.func45 rfl rfl rfl ?_
 refine r2_ ?_
 refine k_b5 rfl ?_
 intro b1 f1
 have g1:=f1
 repeat ((with_reducible replace g1:=zaa g1);obtain ⟨g1,_⟩:=g1)
 refine nl_ ?_
 refine ARun.alloc (zab rfl) zay ?_
 intro b2 f2
 have g2:=f2
 repeat ((with_reducible replace g2:=zaa g2);obtain ⟨g2,_⟩:=g2)
 refine nl_ ?_
 refine r3_ ?_
 refine AWP.draw [(0,true),(1,true),(3,true),(4,true),(2,false),(6,true),(5,false),(7,false),(8,true),(9,false)] [7,9] mixed (by kernel_rfl) ?_
 refine r4_ ?_
 refine zac rfl ?_
 refine ca_ rfl (((zii _ d.ext S hE hz1).frame f1).frame f2) ?_
 rintro _ S1 ⟨Sa,⟨M,⟨oE,hoE,rfl,hM⟩,f1',hSa⟩,f2',h1⟩
 rw [h1,hSa];rw [hSa] at f2';clear h1 S1 hSa Sa
 obtain ⟨qe,de,hqe⟩:=za6 hoE
 rw [hqe]
 have hSM:S.Less M:=by rw [hM];exact za9 hoE
 have hWM:Sl 3 wrF M (.slice pw d.waits.length cw) d.waits:=hW.less hSM
 refine zae ⟨fun _=>zad,?_⟩
 refine s1_ ?_
 refine zac rfl ?_
 refine ca_ rfl (((zij _ d.waits M hWM hz2).frame f1').frame f2') ?_
 rintro _ S1 ⟨Sa,⟨M2,⟨oW,hoW,rfl,hM2⟩,f1'',hSa⟩,f2'',h1⟩
 rw [h1,hSa];rw [hSa] at f2'';clear h1 S1 hSa Sa
 obtain ⟨g2m,_⟩:=zaa f2''
 obtain ⟨qw,dw,hqw⟩:=za6 hoW
 rw [hqw]
 have hSM2:S.Less M2:=hSM.trans (by rw [hM2];exact za9 hoW)
 refine zae ⟨fun _=>zad,?_⟩
 refine zac rfl ?_
 refine s1_ ?_
 refine zae ⟨fun h=>absurd h (by decide),?_⟩
 refine s1_ ?_
 refine zac rfl ?_
 refine s1_ ?_
 refine zae ⟨fun h=>absurd h (by decide),?_⟩
 refine r9_ ?_
 refine ⟨_,M2,⟨_,_,_,rfl,.inr ⟨zas,[_,_,_,_,_],zao,rds_,rfl⟩,rfl,rfl⟩,zad,?_⟩
 exact ⟨oE,oW,⟨hoE,by rw [← hM];exact hoW⟩,by unfold dkV;rw [hqe,hqw];rfl,by rw [hM2,hM];rfl⟩
def DkRes (p:D × Int) (S:Mem) (r:Value) (S':Mem):Prop:=∃ v,r = .tuple #[v,.int .i64 p.2]∧S.Less S'∧DkR S' v p.1
theorem zjl (S:Mem):DkR S (.agg #[.int .i64 0,.slice none 0 0,.slice none 0 0,.int .i64 0,.bool false]) D0:=⟨none,0,none,0,rfl,Sl.nil _ _ _,Sl.nil _ _ _⟩
def makeD (n:Int):D × Int:=if n<0∨16384<n then (D0,1) else (⟨n,[],[],-1,false⟩,0)
theorem zlF (n:Int) (S:Mem):ACall Tryz.prog 5 #[.int .i64 n] S (DkRes (makeD n) S):=by
 unfold makeD
 by_cases h1:n<0
 ·rw [if_pos (.inl h1)]
  refine k_E1 (rs:=[.cell 2 29,.tmp 3]) 13 Tryz.func5 rfl rfl rfl ?_
  refine r2_ ?_
  refine ARun.alloc (zab rfl) zay ?_
  intro b2 f2
  have g2:=f2
  repeat ((with_reducible replace g2:=zaa g2);obtain ⟨g2,_⟩:=g2)
  refine nl_ ?_
  refine r14_ ?_
  refine cT_ ?_
  refine r9_ ?_
  refine ⟨_,S,⟨_,_,_,rfl,.inr ⟨zas,[_,_,_,_,_],zao,rds_,rfl⟩,⟨_,_,rfl,rfl,rfl⟩,rfl⟩,zad,?_⟩
  exact ⟨_,rfl,Mem.Less.refl _,zjl S⟩
 ·by_cases h2:16384<n
  ·rw [if_pos (.inr h2)]
   refine k_E1 (rs:=[.cell 2 29,.tmp 3]) 13 Tryz.func5 rfl rfl rfl ?_
   refine r2_ ?_
   refine ARun.alloc (zab rfl) zay ?_
   intro b2 f2
   have g2:=f2
   repeat ((with_reducible replace g2:=zaa g2);obtain ⟨g2,_⟩:=g2)
   refine nl_ ?_
   refine r14_ ?_
   refine cT_ ?_
   refine r9_ ?_
   refine ⟨_,S,⟨_,_,_,rfl,.inr ⟨zas,[_,_,_,_,_],zao,rds_,rfl⟩,⟨_,_,rfl,rfl,rfl⟩,rfl⟩,zad,?_⟩
   exact ⟨_,rfl,Mem.Less.refl _,zjl S⟩
  ·rw [if_neg (by omega)]
   refine k_E1 (rs:=[.cell 2 29,.tmp 3]) 13 Tryz.func5 rfl rfl rfl ?_
   refine r2_ ?_
   refine ARun.alloc (zab rfl) zay ?_
   intro b2 f2
   have g2:=f2
   repeat ((with_reducible replace g2:=zaa g2);obtain ⟨g2,_⟩:=g2)
   refine nl_ ?_
   refine r14_ ?_
   refine k_v4 0 2 3 9 ?_
   refine cF_ ?_
   refine r11_ ?_
   refine ⟨_,S,⟨_,_,_,rfl,.inr ⟨zas,[_,_,_,_,_],zao,rds_,rfl⟩,⟨_,_,rfl,rfl,rfl⟩,rfl⟩,zad,?_⟩
   exact ⟨_,rfl,Mem.Less.refl _,none,0,none,0,rfl,Sl.nil _ _ _,Sl.nil _ _ _⟩
def devM (S:Mem) (p:Nat) (d:D) (oE oW:Option (Nat × Nat)):Mem:=(dkM S d oE oW).set p ⟨92,[.int .i64 d.size,outV oE d.ext.length,outV oW d.waits.length,.int .i64 d.fuse,.bool d.down],5⟩
structure OkV (S:Mem) (p:Nat) (d:D) (oE oW:Option (Nat × Nat)):Prop where
  dk:OkD S d oE oW
  fr:Fresh (dkM S d oE oW) p
noncomputable def openD (d:D):D × Int:=if chkD d=0 then (d,if d.down=true then 10 else 0) else (D0,2)
def OpenR (p:D × Int) (S:Mem) (r:Value) (S':Mem):Prop:=∃ b oE oW,OkV S b p.1 oE oW∧r = .tuple #[.pointer (some ⟨b,0,none⟩),.int .i64 p.2]∧S'=devM S b p.1 oE oW
set_option maxHeartbeats 1000000 in
theorem zdI (v:Value) (d:D) (S:Mem) (hd:DkR S v d) (hz:Dz d) :
  ACall Tryz.prog 33 #[v] S (OpenR (openD d) S):=by
 have hcheck:=fun M h=>zki v d M h hz
 have hown:=fun M h=>zjk v d M h hz.el hz.wl
 obtain ⟨pe,ce,pw,cw,rfl,hE,hW⟩:=id hd
 unfold openD
 rcases zlv d with ⟨hk,hR⟩ | ⟨hk,hR⟩
 ·rw [if_pos hk]
  refine k_E1 (rs:=[.tmp 2,.tmp 3]) 21 Tryz.func33 rfl rfl rfl ?_
  refine r2_ ?_
  refine k_b5 rfl ?_
  intro b1 f1
  have g1:=f1
  repeat ((with_reducible replace g1:=zaa g1);obtain ⟨g1,_⟩:=g1)
  refine nl_ ?_
  refine r8_ ?_
  refine ca_ rfl (hcheck _ (hd.less zad)) ?_
  rintro _ S1 ⟨rfl,h1⟩
  rw [h1,hk];clear h1 S1
  refine r9_ ?_
  refine cF_ ?_
  refine r5_ ?_
  refine ca_ rfl ((hown S hd).frame f1) ?_
  rintro _ S1 ⟨M,⟨oE,oW,hok,rfl,hM⟩,f1',h1⟩
  rw [h1];clear h1 S1
  have hSM:S.Less M:=by rw [hM];exact hok.less
  unfold dkV
  obtain ⟨qe,de,hqe⟩:=za6 hok.e
  obtain ⟨qw,dw,hqw⟩:=za6 hok.w
  rw [hqe,hqw]
  refine s1_ ?_
  refine k_b5 rfl ?_
  intro b16 f16
  have g16:=f16
  repeat ((with_reducible replace g16:=zaa g16);obtain ⟨g16,_⟩:=g16)
  refine nl_ ?_
  refine r10_ ?_
  refine AWP.condB rfl (fun hb=>?_) (fun hb=>?_)
  ·refine r7_ ?_
   refine k_v8 0 1 2 3 4 9 5 18 ?_
   refine r2_ ?_
   refine ⟨_,M.set b16 _,⟨_,_,rfl,⟨_,_,rfl,rfl,rfl⟩,rfl⟩,Less.set (Mem.less_set _ _ _ f1'.1) _ _,?_⟩
   exact ⟨b16,oE,oW,⟨hok,by rw [← hM];exact g16⟩,by rw [if_pos hb];rfl,by unfold devM;rw [hqe,hqw,← hM]⟩
  ·refine r9_ ?_
   refine s1_ ?_
   refine ⟨_,M.set b16 _,⟨_,_,rfl,⟨_,_,rfl,rfl,rfl⟩,rfl⟩,Less.set (Mem.less_set _ _ _ f1'.1) _ _,?_⟩
   exact ⟨b16,oE,oW,⟨hok,by rw [← hM];exact g16⟩,by rw [if_neg (Bool.eq_false_iff.1 hb)];rfl,by unfold devM;rw [hqe,hqw,← hM]⟩
 ·rw [if_neg (by rw [hk];decide)]
  refine k_E1 (rs:=[.tmp 2,.tmp 3]) 21 Tryz.func33 rfl rfl rfl ?_
  refine r2_ ?_
  refine k_b5 rfl ?_
  intro b1 f1
  have g1:=f1
  repeat ((with_reducible replace g1:=zaa g1);obtain ⟨g1,_⟩:=g1)
  refine nl_ ?_
  refine r8_ ?_
  refine ca_ rfl (hcheck _ (hd.less zad)) ?_
  rintro _ S1 ⟨rfl,h1⟩
  rw [h1,hk];clear h1 S1
  refine r9_ ?_
  refine cT_ ?_
  refine r3_ ?_
  refine k_b5 rfl ?_
  intro b11 f11
  have g11:=f11
  repeat ((with_reducible replace g11:=zaa g11);obtain ⟨g11,_⟩:=g11)
  refine nl_ ?_
  refine r7_ ?_
  refine ⟨_,S.set b11 _,⟨_,_,rfl,⟨_,_,rfl,rfl,rfl⟩,rfl⟩,Less.set (Mem.less_set _ _ _ f1.1) _ _,?_⟩
  exact ⟨b11,none,none,⟨⟨zbR _,zbR _⟩,g11⟩,rfl,rfl⟩
end
section
open Go.RowKit
open Mv Disk
set_option maxRecDepth 4000
def RdV (M:Mem) (p:Nat) (d:D):Prop:=∃ qe de qw dw,M.own p=some ⟨92,[.int .i64 d.size,.slice qe d.ext.length de,.slice qw d.waits.length dw,.int .i64 d.fuse,.bool d.down],5⟩∧Sl 2 extF M (.slice qe d.ext.length de) d.ext∧Sl 3 wrF M (.slice qw d.waits.length dw) d.waits
theorem RdV.less {M M':Mem} {p:Nat} {d:D} (h:RdV M p d) (hl:M.Less M'):RdV M' p d:=by
 obtain ⟨qe,de,qw,dw,h1,h2,h3⟩:=h
 exact ⟨qe,de,qw,dw,hl.own h1,h2.less hl,h3.less hl⟩
theorem OkV.rd {S:Mem} {p:Nat} {d:D} {oE oW:Option (Nat × Nat)} (h:OkV S p d oE oW) (he:d.ext.length≤9223372036854775807) (hw:d.waits.length≤9223372036854775807):RdV (devM S p d oE oW) p d:=by
 obtain ⟨a,c,e⟩:=za6 h.dk.e
 obtain ⟨a',c',e'⟩:=za6 h.dk.w
 have h1:=zcP za2 (e:=extT) h.dk.e rfl he
 have h2:=zcP zci (e:=wrT) h.dk.w rfl hw
 rw [e] at h1;rw [e'] at h2
 have hl:(dkM S d oE oW).Less (devM S p d oE oW):=Mem.less_set _ _ _ h.fr.1
 refine ⟨a,c,a',c',?_,(h1.less (za9 h.dk.w)).less hl,h2.less hl⟩
 unfold devM;rw [e,e'];exact Mem.own_set_same _ _ _
theorem OkV.less {S:Mem} {p:Nat} {d:D} {oE oW:Option (Nat × Nat)} (h:OkV S p d oE oW):S.Less (devM S p d oE oW):=h.dk.less.trans (Mem.less_set _ _ _ h.fr.1)
theorem zaV {d:D} (h:Right d):d.ext.length≤16384∧used d.ext≤16384:=by
 have h1:=zlu h.ex.ok;have h2:=h.ex.us;have h3:=h.s1;omega
theorem zb2 {d:D} (h:Right d) {x:Ext} (hx:x ∈ d.ext):sec x≤16384∧x.2.size=64*sec x∧1≤sec x:=by
 have h1:=zjg hx;have h2:=zaV h;have h3:=zcQ (h.ex.ok x hx);omega
theorem zcz (d:D):(openD d=(D0,2) ∧ ¬ Right d)∨(openD d=(d,10)∧Right d∧d.down=true)∨(openD d=(d,0)∧Right d∧d.down=false):=by
 unfold openD
 rcases zlv d with ⟨hk,hR⟩ | ⟨hk,hR⟩
 ·right
  rw [if_pos hk]
  cases hdn:d.down with
  | true=>left;exact ⟨rfl,hR,rfl⟩
  | false=>right;exact ⟨rfl,hR,rfl⟩
 ·left;rw [if_neg (by rw [hk];decide)];exact ⟨rfl,hR⟩
theorem zlG {l:List Ext} {i:Nat} (h:i<l.length):used (l.take (i+1))=used (l.take i)+sec l[i]:=by rw [zbI h,zaZ];simp [used]
theorem zg4 (l:List Ext) (i:Nat):used (l.take i)≤used l:=by
 have:=zaZ (l.take i) (l.drop i)
 rw [List.take_append_drop] at this;omega
set_option maxHeartbeats 1000000 in
theorem zjm (p:Nat) (d:D) (M:Mem) (h:RdV M p d) (hR:Right d):ACall Tryz.prog 77 #[.pointer (some ⟨p,0,none⟩)] M fun r S'=>r = .int .i64 (d.size-used d.ext)∧S'=M:=by
 obtain ⟨qe,de,qw,dw,hp,hE,hW⟩:=h
 obtain ⟨_,_,ee1,ee2,ee3,hE3⟩:=id hE
 cases ee1
 have hrl:=zaV hR
 have hs0:=hR.s0;have hs1:=hR.s1
 refine k_E1 (rs:=[.tmp 2]) 27 Tryz.func77 rfl rfl rfl ?_
 refine r28_ ?_
 refine AWP.loop (X:=Nat) (fun x=>[(3,.int .i64 (d.size-used (d.ext.take x))),(15,.slice qe d.ext.length de),(16,.int .i64 d.ext.length),(17,.int .i64 x)]) (fun x=>M) (fun x=>x≤d.ext.length) (fun x=>d.ext.length-x) (0) ⟨zai (by simp [used]),rfl,rfl,rfl,trivial⟩ (Mem.Less.refl _) (Nat.zero_le _) ?_
 rintro i hi
 (try dsimp only at *)
 refine r6_ ?_
 refine AWP.condB rfl (fun hc=>?_) (fun hc=>?_)
 ·have hc:i<d.ext.length:=by have:=of_decide_eq_true hc;omega
  obtain ⟨b,off,rfl,hk⟩:=hE3.resolve_left (fun e=>by rw [e] at hc;simp at hc)
  have hki:=hk i hc
  have hut:=zlG hc
  have hul:=zg4 d.ext (i+1)
  have hsx:=zb2 hR (List.getElem_mem hc)
  generalize d.ext[i]=x at *
  unfold extF at hki
  refine r8_ ?_
  refine ARun.alloc (zab rfl) zbo ?_
  intro b5 f5
  have g5:=f5
  repeat ((with_reducible replace g5:=zaa g5);obtain ⟨g5,_⟩:=g5)
  have:=g5.ne hp;have:=g5.ne' hp
  refine nl_ ?_
  refine r6_ ?_
  refine ca_ rfl (zaU x _ (by omega)) ?_
  rintro _ S1 ⟨rfl,h1⟩
  rw [h1];clear h1 S1
  refine r10_ ?_
  refine ⟨i+1,?_,?_,?_,?_⟩
  all_goals (try dsimp only)
  ·exact ⟨zai (by omega),rfl,rfl,rfl,trivial⟩
  ·exact zad
  ·exact hc
  ·omega
 ·have hc:i=d.ext.length:=by have:=of_decide_eq_false hc;omega
  subst hc
  rw [List.take_length]
  refine r11_ ?_
  refine k_v6 3 15 16 17 18 2 ?_
  refine s1_ ?_
  refine ⟨_,M,⟨_,_,rfl,rfl,rfl⟩,zad,?_⟩
  exact ⟨rfl,rfl⟩
noncomputable def roomD (d:D):Int × Int:=if (openD d).2≠0 then (0,(openD d).2) else (d.size-used d.ext,0)
def exOf (l:List Ext) (s:ByteArray):Ext:=l.getD (pos l s) (ByteArray.empty,ByteArray.empty)
theorem zgj {l:List Ext} {s:ByteArray} (h:pos l s<l.length):exOf l s=l[pos l s]:=by simp [exOf,List.getD,List.getElem?_eq_getElem h]
noncomputable def sectorsD (d:D) (s:ByteArray):Int × Int:=if (openD d).2≠0 then (0,(openD d).2) else if has d.ext s=true then ((sec (exOf d.ext s):Nat),0) else (0,3)
def placeD (d:D) (s:ByteArray) (k:Int):Nat × Int:=if has d.ext s=true then (if k<0∨(sec (exOf d.ext s):Int)≤k then (0,1) else (pos d.ext s,0)) else (0,3)
set_option maxHeartbeats 1000000 in
theorem zlH (p:Nat) (d:D) (s:ByteArray) (i:Int) (M:Mem) (h:RdV M p d) (hR:Right d):ACall Tryz.prog 80 #[.pointer (some ⟨p,0,none⟩),.string s,.int .i64 i] M fun r S'=>r = .tuple #[.int .i64 ((placeD d s i).1:Nat),.int .i64 (placeD d s i).2]∧S'=M:=by
 obtain ⟨qe,de,qw,dw,hp,hME,hMW⟩:=h
 have hhp:=zdq hR.ex.asc s
 unfold placeD
 by_cases q:has d.ext s=true
 ·obtain ⟨hlt,he⟩:=hhp.1 q
  have hsx:=zb2 hR (List.getElem_mem hlt)
  have hfind:=za_ _ d.ext s M hME hR.ex.asc (Nat.le_trans (zaV hR).1 (by decide))
  rw [if_pos q,zgj hlt]
  obtain ⟨_,_,ee1,ee2,ee3,hE3⟩:=id hME
  cases ee1
  obtain ⟨b,off,rfl,hk⟩:=hE3.resolve_left (fun e=>by rw [e] at hlt;simp at hlt)
  have hki:=hk _ hlt
  generalize hpp:pos d.ext s=k at *
  generalize d.ext[k]=x at *
  unfold extF at hki
  by_cases q1:i<0
  ·rw [if_pos (.inl q1)]
   refine k_E3 (rs:=[.tmp 6,.tmp 7]) 40 Tryz.func80 rfl rfl rfl ?_
   refine r14_ ?_
   refine ca_ rfl (hfind) ?_
   rintro _ S1 ⟨rfl,h1⟩
   rw [h1,q];clear h1 S1
   refine r16_ ?_
   refine cF_ ?_
   refine r20_ ?_
   refine cT_ ?_
   refine r9_ ?_
   refine ⟨_,M,⟨_,_,rfl,⟨_,_,rfl,rfl,rfl⟩,rfl⟩,zad,?_⟩
   exact ⟨rfl,rfl⟩
  ·by_cases q2:(sec x:Int)≤i
   ·rw [if_pos (.inr q2)]
    refine k_E3 (rs:=[.tmp 6,.tmp 7]) 40 Tryz.func80 rfl rfl rfl ?_
    refine r14_ ?_
    refine ca_ rfl (hfind) ?_
    rintro _ S1 ⟨rfl,h1⟩
    rw [h1,q];clear h1 S1
    refine r16_ ?_
    refine k_v8 0 1 2 6 7 8 9 20 ?_
    refine cF_ ?_
    refine r14_ ?_
    refine ARun.callG 2 false 26 rfl (zab rfl) rfl (zab rfl) zes rfl (zaU x _ (by omega)) ?_
    rintro _ S1 ⟨rfl,h1⟩
    rw [h1];clear h1 S1
    refine r5_ ?_
    refine cT_ ?_
    refine r9_ ?_
    refine ⟨_,M,⟨_,_,rfl,⟨_,_,rfl,rfl,rfl⟩,rfl⟩,zad,?_⟩
    exact ⟨rfl,rfl⟩
   ·rw [if_neg (by omega)]
    refine k_E3 (rs:=[.tmp 6,.tmp 7]) 40 Tryz.func80 rfl rfl rfl ?_
    refine r14_ ?_
    refine ca_ rfl (hfind) ?_
    rintro _ S1 ⟨rfl,h1⟩
    rw [h1,q];clear h1 S1
    refine r16_ ?_
    refine cF_ ?_
    refine r14_ ?_
    refine ARun.callG 2 false 26 rfl (zab rfl) rfl (zab rfl) zes rfl (zaU x _ (by omega)) ?_
    rintro _ S1 ⟨rfl,h1⟩
    rw [h1];clear h1 S1
    refine r5_ ?_
    refine cF_ ?_
    refine r10_ ?_
    refine k_v9 0 1 2 6 7 8 9 20 23 ?_
    refine s1_ ?_
    refine ⟨_,M,⟨_,_,rfl,⟨_,_,rfl,rfl,rfl⟩,rfl⟩,zad,?_⟩
    exact ⟨rfl,rfl⟩
 ·rw [if_neg q]
  refine k_E3 (rs:=[.tmp 6,.tmp 7]) 40 Tryz.func80 rfl rfl rfl ?_
  refine r14_ ?_
  refine ca_ rfl (za_ _ d.ext s _ hME hR.ex.asc (Nat.le_trans (zaV hR).1 (by decide))) ?_
  rintro _ S1 ⟨rfl,h1⟩
  rw [h1,Bool.eq_false_iff.2 q];clear h1 S1
  refine r16_ ?_
  refine cT_ ?_
  refine r9_ ?_
  refine ⟨_,M,⟨_,_,rfl,⟨_,_,rfl,rfl,rfl⟩,rfl⟩,zad,?_⟩
  exact ⟨rfl,rfl⟩
end
section
open Go.RowKit
open Mv Disk
set_option maxRecDepth 4000
theorem zik {A Y X B:List Value} {k:Nat} (hk:A.length=k) (hl:Y.length=X.length):spl (A ++ (Y ++ B)) k X=A ++ (X ++ B):=by
 subst hk
 unfold spl
 rw [List.take_left,← List.drop_drop,List.drop_left,← hl,List.drop_left,List.append_assoc]
theorem zlI {A Y X:List Value} {k:Nat} (hk:A.length=k) (hl:Y.length≤X.length):spl (A ++ Y) k X=A ++ X:=by
 subst hk
 unfold spl
 rw [List.take_left,List.drop_of_length_le (by rw [List.length_append];omega),List.append_nil]
theorem zeZ {α : Type} {n:Nat} {f : α→List Value} (l:List α) (i:Nat):l.flatMap f=(l.take i).flatMap f ++ (l.drop i).flatMap f:=by
 rw [← List.flatMap_append,List.take_append_drop]
theorem zkj {A D X:List Value} {i:Nat} (hA:A.length=i*2) (hX:X.length=2) (hD:2≤D.length):spl (spl (A ++ D) (0+(i+1)*2) D) (0+i*2) X=A ++ (X ++ D):=by
 have e:spl (A ++ D) (0+(i+1)*2) D=A ++ (D.take 2 ++ D):=by
  have e1:A ++ D=(A ++ D.take 2) ++ D.drop 2:=by rw [List.append_assoc,List.take_append_drop]
  rw [e1,zlI (by simp [hA];omega) (by simp),List.append_assoc]
 rw [e]
 exact zik (by omega) (by simp [hX];omega)
theorem zkk {A D X zs:List Value} {i:Nat} (hA:A.length=i*2) (hX:X.length=2) (hz:zs.length=2+D.length):spl (spl (A ++ zs) (0+i*2) X) (0+(i+1)*2) D=A ++ (X ++ D):=by
 have e:spl (A ++ zs) (0+i*2) X=(A ++ X) ++ zs.drop 2:=by
  have e1:A ++ zs=A ++ (zs.take 2 ++ zs.drop 2):=by rw [List.take_append_drop]
  rw [e1,zik (by omega) (by simp [hX];omega),List.append_assoc]
 rw [e,zlI (by simp [hA,hX];omega) (by simp;omega),List.append_assoc]
def insAt (l:List Ext) (i:Nat) (x:Ext):List Ext:=l.take i ++ x :: l.drop i
theorem zjn (l:List Ext) (i:Nat) (x:Ext):(insAt l i x).flatMap extF=(l.take i).flatMap extF ++ (extF x ++ (l.drop i).flatMap extF):=by
 unfold insAt;rw [List.flatMap_append,List.flatMap_cons]
theorem zlJ {l:List Ext} {i:Nat} (h:i≤l.length) (x:Ext):(insAt l i x).length=l.length+1:=by
 unfold insAt;simp;omega
set_option maxHeartbeats 2000000 in
theorem zqU (B:Mem) (o:Option (Nat × Nat)) (l:List Ext) (i:Nat) (x:Ext) (t:Nat) (ho:OkO B o l.length) (ht:Fresh (outN 2 B o extT (l.flatMap extF)) t) (hi:i≤l.length) (hlen:l.length≤16384) :
  ACall Tryz.prog 78 #[outV o l.length,.int .i64 (i:Int),.slice (some ⟨t,0,none⟩) 1 1] ((outN 2 B o extT (l.flatMap extF)).set t ⟨extT,extF x,2⟩) fun r S'=>∃ o',OkO B o' (l.length+1)∧r=outV o' (l.length+1)∧S'=outN 2 B o' extT ((insAt l i x).flatMap extF):=by
 have hfl:=zaq za2 l
 have hx1:∀ v ∈ extF x,v.oneCell'=true:=fun v hv=>zeY [x] v (by simpa using hv)
 have happ:AppN 2 ((outN 2 B o extT (l.flatMap extF)).set t ⟨extT,extF x,2⟩) B o extT (l.flatMap extF):=(zbK ho hfl).temp ht
 by_cases hil:i=l.length
 ·subst hil
  have he:(insAt l l.length x).flatMap extF=l.flatMap extF ++ extF x:=by rw [zjn];simp
  rw [he]
  cases o with
  | none =>
   obtain rfl:l = []:=List.eq_nil_of_length_eq_zero (ho.nil rfl)
   refine k_E3 (rs:=[.tmp 6]) 95 Tryz.func78 rfl rfl rfl ?_
   refine r26_ ?_
   refine cF_ ?_
   refine r17_ ?_
   refine k_v8 0 1 2 6 7 16 8 22 ?_
   refine cT_ ?_
   refine r4_ ?_
   refine ARun.appendOK (n:=2) (o:=none) (k:=0) (m:=1) (cs:=[]) (zab rfl) zbm rfl rfl hfl ho happ rfl (zd6 (Mem.own_set_same _ _ _) List.prefix_rfl) rfl hx1 (by omega) (by omega) ?_
   intro o' ho'
   refine r5_ ?_
   refine ⟨_,_,⟨_,_,rfl,rfl,rfl⟩,Mem.Less.refl _,?_⟩
   exact ⟨o',ho',rfl,rfl⟩
  | some q =>
   obtain ⟨b,c⟩:=q
   have hc:=(ho.own b c rfl).2
   refine k_E3 (rs:=[.tmp 6]) 95 Tryz.func78 rfl rfl rfl ?_
   refine r26_ ?_
   refine cF_ ?_
   refine r9_ ?_
   refine k_v7 0 1 2 6 7 16 8 ?_
   refine r8_ ?_
   refine cT_ ?_
   refine r4_ ?_
   refine ARun.appendOK (n:=2) (o:=some (b,c)) (k:=l.length) (m:=1) (cs:=l.flatMap extF) (zab rfl) zbm rfl rfl hfl ho happ rfl (zd6 (Mem.own_set_same _ _ _) List.prefix_rfl) rfl hx1 (by omega) (by omega) ?_
   intro o' ho'
   refine r5_ ?_
   refine ⟨_,_,⟨_,_,rfl,rfl,rfl⟩,Mem.Less.refl _,?_⟩
   exact ⟨o',ho',rfl,rfl⟩
 ·obtain ⟨⟨b,c⟩,rfl⟩ : ∃ q,o=some q:=by
   cases o with
   | none=>have:=ho.nil rfl;omega
   | some q=>exact ⟨q,rfl⟩
  have hc:=(ho.own b c rfl).2
  have hfb:=(ho.own b c rfl).1
  obtain ⟨htB,htb⟩:=zaa ht
  have hA:=zaq za2 (l.take i)
  have hD:=zaq za2 (l.drop i)
  rw [List.length_take,Nat.min_eq_left hi] at hA
  rw [List.length_drop] at hD
  have hsplit:=zeZ (n:=2) (f:=extF) l i
  have hsl:(spl (l.flatMap extF) (0+(i+1)*2) ((l.drop i).flatMap extF)).length=l.length*2+2:=by
   unfold spl;simp only [List.length_append,List.length_take,List.length_drop,hfl,hD];omega
  rw [zjn]
  dsimp only [outN,outV]
  by_cases hroom:l.length+1≤c
  ·skip
   refine k_E3 (rs:=[.tmp 6]) 95 Tryz.func78 rfl rfl rfl ?_
   refine r26_ ?_
   refine k_v6 0 1 2 6 7 16 ?_
   refine cF_ ?_
   refine r17_ ?_
   refine cF_ ?_
   refine r9_ ?_
   refine rC (Calm.cap Tryz.underlying26 rfl) ?_
   refine r3_ ?_
   refine cF_ ?_
   refine r8_ ?_
   refine rC (Calm.sliceHi (l.length+1) Tryz.underlying26 zat rfl rfl (by omega) (by omega)) ?_
   refine r11_ ?_
   refine rC (Calm.sliceLo (i+1) Tryz.underlying26 zat rfl rfl (by omega) (by omega) (by omega)) ?_
   refine ARun.overlapsNo (T:=26) (tR:=4) (zab rfl) Tryz.func131 rfl rfl rfl rfl Tryz.underlying26 zat rfl (Mem.own_set_same _ _ _) (Nat.ne_of_beq_eq_false rfl) (show 0<2 from by decide) own_ (by simp only [hfl];omega) htb ?_
   refine r3_ ?_
   refine zdG 0 1 2 6 7 16 8 22 31 68 ?_
   refine cT_ ?_
   refine s1_ ?_
   refine AWP.draw [(0,true),(1,true),(2,true),(3,true),(4,true),(5,true),(6,true),(7,true),(8,false)] [8] mixed (by kernel_rfl) ?_
   refine r4_ ?_
   refine dP (hc:=fun _=>Calm.sliceLo (i+1) Tryz.underlying26 zat rfl rfl (by omega) (by omega) (by omega)) (h:=?_)
   refine r2_ ?_
   refine dP (hc:=fun _=>Calm.sliceLo (i) Tryz.underlying26 zat rfl rfl (by omega) (by omega) (by omega)) (h:=?_)
   refine zac rfl ?_
   refine ARun.copyK (n:=2) (q:=l.length-i) (news:=(l.drop i).flatMap extF) (zab rfl) zbm rfl own_ (by simp only [hfl];omega) rfl (by omega) (Mem.own_knows (r:=⟨extT,l.flatMap extF,c*2⟩) own_ _ _ (fun j v hj=>by simp only;rw [hsplit,List.getElem?_append_right (by omega),← hj];congr 1;omega)) hD (zeY _) (.inr (by simp only [hD];omega)) ?_
   refine zae ⟨fun h=>absurd h (by decide),?_⟩
   refine r6_ ?_
   refine rC (Calm.sliceLo (i) Tryz.underlying26 zat rfl rfl (by omega) (by omega) (by omega)) ?_
   refine s1_ ?_
   refine ARun.copyK (n:=2) (q:=1) (news:=extF x) (zab rfl) zbm rfl own_ (by simp only [hsl];omega) rfl (by omega) (Mem.own_knows (r:=⟨extT,extF x,2⟩) own_ 0 _ (fun j v hj=>by rw [Nat.zero_add];exact hj)) rfl hx1 (.inr (by simp only [za2];omega)) ?_
   refine r10_ ?_
   refine ⟨_,B.set b ⟨extT,spl (spl (l.flatMap extF) (0+(i+1)*2) ((l.drop i).flatMap extF)) (0+i*2) (extF x),c*2⟩,⟨_,_,rfl,rfl,rfl⟩,zad,?_⟩
   exact ⟨some (b,c),zbS hfb hroom,rfl,by rw [hsplit,zkj hA rfl (by rw [hD];omega)]⟩
  ·skip
   refine k_E3 (rs:=[.tmp 6]) 95 Tryz.func78 rfl rfl rfl ?_
   refine r19_ ?_
   refine k_v5 0 1 2 6 7 ?_
   refine r7_ ?_
   refine cF_ ?_
   refine r17_ ?_
   refine cF_ ?_
   refine r9_ ?_
   refine rC (Calm.cap Tryz.underlying26 rfl) ?_
   refine r3_ ?_
   refine cT_ ?_
   refine r4_ ?_
   refine rC (Calm.sliceHi (i) Tryz.underlying26 zat rfl rfl (by omega) (by omega)) ?_
   refine r5_ ?_
   refine ARun.appendMake (k:=i) (m:=l.length+1-i) (xs:=(l.take i).flatMap extF) (c:=c) (zab rfl) zbm rfl Tryz.underlying3 rfl hA ((zfy (r:=⟨extT,l.flatMap extF,c*2⟩) own_ (by rw [hsplit];exact List.prefix_append _ _)).knows) (congrArg some (congrArg (Value.int .i64) (by omega))) (by omega) (by omega) (by omega) ?_
   intro b' c' zs hfb' hc' hzs
   obtain ⟨hfb1,htb'⟩:=zaa hfb'
   obtain ⟨hfb2,hbb'⟩:=zaa hfb1
   have hbb'':=Ne.symm hbb'
   have htb'':=Ne.symm htb'
   have hz1:(((l.take i).flatMap extF) ++ zs).length=l.length*2+2:=by simp only [List.length_append,hA,hzs];omega
   refine r3_ ?_
   refine zdG 0 1 2 6 7 16 8 22 31 9 ?_
   refine r4_ ?_
   refine rC (Calm.sliceLo (i) Tryz.underlying26 zat rfl rfl (by omega) (by omega) (by omega)) ?_
   refine s1_ ?_
   refine ARun.copyK (n:=2) (q:=1) (news:=extF x) (zab rfl) zbm rfl (Mem.own_set_same _ _ _) (by simp only [hz1];omega) rfl (by omega) (Mem.own_knows (r:=⟨extT,extF x,2⟩) own_ 0 _ (fun j v hj=>by rw [Nat.zero_add];exact hj)) rfl hx1 (.inl (by simp only [hz1,za2];omega)) ?_
   have hz2:(spl ((l.take i).flatMap extF ++ zs) (0+i*2) (extF x)).length=l.length*2+2:=by rw [zd1 _ _ _ (by simp only [hz1,za2];omega),hz1]
   refine r3_ ?_
   refine AWP.draw [(0,true),(1,true),(2,true),(3,true),(4,true),(5,true),(6,true),(7,true),(8,false)] [8] mixed (by kernel_rfl) ?_
   refine r4_ ?_
   refine dP (hc:=fun _=>Calm.sliceLo (i+1) Tryz.underlying26 zat rfl rfl (by omega) (by omega) (by omega)) (h:=?_)
   refine r2_ ?_
   refine dP (hc:=fun _=>Calm.sliceLo (i) Tryz.underlying26 zat rfl rfl (by omega) (by omega) (by omega)) (h:=?_)
   refine zac rfl ?_
   refine ARun.copyK (n:=2) (q:=l.length-i) (news:=(l.drop i).flatMap extF) (zab rfl) zbm rfl (Mem.own_set_same _ _ _) (by simp only [hz2];omega) rfl (by omega) (Mem.own_knows (r:=⟨extT,l.flatMap extF,c*2⟩) own_ _ _ (fun j v hj=>by simp only;rw [hsplit,List.getElem?_append_right (by omega),← hj];congr 1;omega)) hD (zeY _) (.inl (by simp only [hz2,hD];omega)) ?_
   refine zae ⟨fun h=>absurd h (by decide),?_⟩
   refine r10_ ?_
   refine ⟨_,B.set b' ⟨extT,spl (spl ((l.take i).flatMap extF ++ zs) (0+i*2) (extF x)) (0+(i+1)*2) ((l.drop i).flatMap extF),c'*2⟩,⟨_,_,rfl,rfl,rfl⟩,zad,?_⟩
   exact ⟨some (b',c'),zbS hfb2 (by omega),congrArg (fun n=>Value.slice (some ⟨b',0,none⟩) n c') (by omega),by rw [zkk hA rfl (by rw [hD,hzs];omega)]⟩
end
section
open Go.RowKit
open Mv Disk
set_option maxRecDepth 4000
theorem zbi {n:Nat} {S:Mem} {o:Option (Nat × Nat)} {e:TypeId} {cs:List Value} {b:Nat} {r:Blk} (h:∀ q c,o=some (q,c)→q≠b):outN n (S.set b r) o e cs=(outN n S o e cs).set b r:=by
 cases o with
 | none=>rfl
 | some q=>exact Mem.set_comm _ _ _ (Ne.symm (h _ _ rfl))
theorem zg5 {n m:Nat} {S:Mem} {o o':Option (Nat × Nat)} {e e':TypeId} {cs cs':List Value} (h:∀ q c q' c',o=some (q,c)→o'=some (q',c')→q≠q'):outN n (outN m S o' e' cs') o e cs=outN m (outN n S o e cs) o' e' cs':=by
 cases o with
 | none=>rfl
 | some q =>
  cases o' with
  | none=>rfl
  | some q'=>exact Mem.set_comm _ _ _ (Ne.symm (h _ _ _ _ rfl rfl))
theorem zcT {n:Nat} {S:Mem} {o:Option (Nat × Nat)} {e:TypeId} {cs:List Value} {b:Nat} {r:Blk} (hb:S.own b=some r) (h:∀ q c,o=some (q,c)→q≠b):(outN n S o e cs).own b=some r:=by
 cases o with
 | none=>exact hb
 | some q=>exact (Mem.own_set_other _ _ (Ne.symm (h _ _ rfl))).trans hb
theorem zbj {n:Nat} {S:Mem} {o:Option (Nat × Nat)} {e:TypeId} {cs:List Value} {b:Nat} (hb:Fresh S b) (h:∀ q c,o=some (q,c)→q≠b):Fresh (outN n S o e cs) b:=by
 cases o with
 | none=>exact hb
 | some q=>exact zal hb (Ne.symm (h _ _ rfl))
def devB (d:D) (oE oW:Option (Nat × Nat)):Blk:=⟨92,[.int .i64 d.size,outV oE d.ext.length,outV oW d.waits.length,.int .i64 d.fuse,.bool d.down],5⟩
theorem zcc (S:Mem) (p:Nat) (d:D) (oE oW:Option (Nat × Nat)):devM S p d oE oW=(outN 3 (outN 2 S oE extT (d.ext.flatMap extF)) oW wrT (d.waits.flatMap wrF)).set p (devB d oE oW):=rfl
structure Apart (S:Mem) (p:Nat) (oE oW:Option (Nat × Nat)):Prop where
  e:∀ b c,oE=some (b,c)→Fresh S b∧b≠p
  w:∀ b c,oW=some (b,c)→Fresh S b∧b≠p
  ew:∀ b c b' c',oE=some (b,c)→oW=some (b',c')→b≠b'
  p:Fresh S p
structure Fits (d:D) (oE oW:Option (Nat × Nat)):Prop where
  e0:oE=none→d.ext.length=0
  w0:oW=none→d.waits.length=0
  e:∀ b c,oE=some (b,c)→d.ext.length≤c
  w:∀ b c,oW=some (b,c)→d.waits.length≤c
theorem OkV.apart {S:Mem} {p:Nat} {d:D} {oE oW:Option (Nat × Nat)} (h:OkV S p d oE oW):Apart S p oE oW:=by
 obtain ⟨h1,h2⟩:=zaB h.fr
 obtain ⟨h3,h4⟩:=zaB h1
 exact ⟨fun b c e=>⟨(h.dk.e.own b c e).1,Ne.symm (h4 b c e)⟩,fun b c e=>⟨(zaB (h.dk.w.own b c e).1).1,Ne.symm (h2 b c e)⟩,fun b c b' c' e e'=>Ne.symm ((zaB (h.dk.w.own b' c' e').1).2 b c e),h3⟩
theorem OkV.fits {S:Mem} {p:Nat} {d:D} {oE oW:Option (Nat × Nat)} (h:OkV S p d oE oW):Fits d oE oW:=⟨h.dk.e.nil,h.dk.w.nil,fun b c e=>(h.dk.e.own b c e).2,fun b c e=>(h.dk.w.own b c e).2⟩
theorem zfD {S:Mem} {p:Nat} {d:D} {oE oW:Option (Nat × Nat)} (h:Apart S p oE oW) (f:Fits d oE oW):OkV S p d oE oW :=
 ⟨⟨⟨f.e0,fun b c e=>⟨(h.e b c e).1,f.e b c e⟩⟩,⟨f.w0,fun b c e=>⟨zbj (h.w b c e).1 (fun q c' e'=>h.ew q c' b c e' e),f.w b c e⟩⟩⟩,zbj (zbj h.p (fun q c e=>(h.e q c e).2)) (fun q c e=>(h.w q c e).2)⟩
def baseE (S:Mem) (p:Nat) (d:D) (oW:Option (Nat × Nat)) (r:Blk):Mem:=(outN 3 S oW wrT (d.waits.flatMap wrF)).set p r
theorem zg6 {S:Mem} {p:Nat} {d:D} {oE oW:Option (Nat × Nat)} (h:Apart S p oE oW) (r:Blk):outN 2 (baseE S p d oW r) oE extT (d.ext.flatMap extF)=(outN 3 (outN 2 S oE extT (d.ext.flatMap extF)) oW wrT (d.waits.flatMap wrF)).set p r:=by
 unfold baseE
 rw [zbi (fun q c e=>(h.e q c e).2),zg5 (fun q c q' c' e e'=>h.ew q c q' c' e e')]
theorem zg7 {S:Mem} {p:Nat} {d:D} {oE oW:Option (Nat × Nat)} (h:Apart S p oE oW) (f:Fits d oE oW) (r:Blk):OkO (baseE S p d oW r) oE d.ext.length :=
 ⟨f.e0,fun b c e=>⟨zal (zbj (h.e b c e).1 (fun q c' e'=>Ne.symm (h.ew b c q c' e e'))) (h.e b c e).2,f.e b c e⟩⟩
theorem zil {S:Mem} {p:Nat} {d:D} {oE oE' oW:Option (Nat × Nat)} {r:Blk} {k:Nat} (h:Apart S p oE oW) (h':OkO (baseE S p d oW r) oE' k):Apart S p oE' oW :=
 ⟨fun b c e=>by
  obtain ⟨h1,h2⟩:=zaa (h'.own b c e).1
  exact ⟨(zaB h1).1,h2⟩,h.w,fun b c b' c' e e'=>by
  obtain ⟨h1,h2⟩:=zaa (h'.own b c e).1
  exact (zaB h1).2 b' c' e',h.p⟩
theorem zp9 {S:Mem} {p:Nat} {d d':D} {oE oE' oW:Option (Nat × Nat)} {r:Blk} {k:Nat} (f:Fits d oE oW) (h':OkO (baseE S p d oW r) oE' k) (hk:d'.ext.length=k) (hw:d'.waits=d.waits):Fits d' oE' oW :=
 ⟨fun e=>by rw [hk];exact h'.nil e,fun e=>by rw [hw];exact f.w0 e,fun b c e=>by rw [hk];exact (h'.own b c e).2,fun b c e=>by rw [hw];exact f.w b c e⟩
theorem zlK {S:Mem} {p:Nat} {d d':D} {oE oE' oW:Option (Nat × Nat)} {r:Blk} {k:Nat} (h:Apart S p oE oW) (h':OkO (baseE S p d oW r) oE' k) (hw:d'.waits=d.waits):(outN 2 (baseE S p d oW r) oE' extT (d'.ext.flatMap extF)).set p (devB d' oE' oW)=devM S p d' oE' oW:=by
 have ha:=zil h h'
 rw [zcc]
 unfold baseE
 rw [zbi (fun q c e=>(ha.e q c e).2),Mem.set_set,zg5 (fun q c q' c' e e'=>ha.ew q c q' c' e e'),hw]
def baseW (S:Mem) (p:Nat) (d:D) (oE:Option (Nat × Nat)) (r:Blk):Mem:=(outN 2 S oE extT (d.ext.flatMap extF)).set p r
theorem zp_ {S:Mem} {p:Nat} {d:D} {oE oW:Option (Nat × Nat)} (h:Apart S p oE oW) (r:Blk):outN 3 (baseW S p d oE r) oW wrT (d.waits.flatMap wrF)=(outN 3 (outN 2 S oE extT (d.ext.flatMap extF)) oW wrT (d.waits.flatMap wrF)).set p r:=by
 unfold baseW
 rw [zbi (fun q c e=>(h.w q c e).2)]
theorem zg8 {S:Mem} {p:Nat} {d:D} {oE oW:Option (Nat × Nat)} (h:Apart S p oE oW) (f:Fits d oE oW) (r:Blk):OkO (baseW S p d oE r) oW d.waits.length :=
 ⟨f.w0,fun b c e=>⟨zal (zbj (h.w b c e).1 (fun q c' e'=>h.ew q c' b c e' e)) (h.w b c e).2,f.w b c e⟩⟩
theorem zgk {S:Mem} {p:Nat} {d:D} {oE oW oW':Option (Nat × Nat)} {r:Blk} {k:Nat} (h:Apart S p oE oW) (h':OkO (baseW S p d oE r) oW' k):Apart S p oE oW' :=
 ⟨h.e,fun b c e=>by
  obtain ⟨h1,h2⟩:=zaa (h'.own b c e).1
  exact ⟨(zaB h1).1,h2⟩,fun b c b' c' e e'=>by
  obtain ⟨h1,h2⟩:=zaa (h'.own b' c' e').1
  exact Ne.symm ((zaB h1).2 b c e),h.p⟩
theorem zqa {S:Mem} {p:Nat} {d d':D} {oE oW oW':Option (Nat × Nat)} {r:Blk} {k:Nat} (f:Fits d oE oW) (h':OkO (baseW S p d oE r) oW' k) (hk:d'.waits.length=k) (he:d'.ext=d.ext):Fits d' oE oW' :=
 ⟨fun e=>by rw [he];exact f.e0 e,fun e=>by rw [hk];exact h'.nil e,fun b c e=>by rw [he];exact f.e b c e,fun b c e=>by rw [hk];exact (h'.own b c e).2⟩
theorem zlL {S:Mem} {p:Nat} {d d':D} {oE oW oW':Option (Nat × Nat)} {r:Blk} {k:Nat} (h:Apart S p oE oW) (h':OkO (baseW S p d oE r) oW' k) (he:d'.ext=d.ext):(outN 3 (baseW S p d oE r) oW' wrT (d'.waits.flatMap wrF)).set p (devB d' oE oW')=devM S p d' oE oW':=by
 have ha:=zgk h h'
 rw [zcc]
 unfold baseW
 rw [zbi (fun q c e=>(ha.w q c e).2),Mem.set_set,he]
theorem zc7 (o:Option (Nat × Nat)) (n:Nat):(outV o n).cells = #[outV o n]:=by cases o <;> rfl
theorem zeB (o:Option (Nat × Nat)) (n:Nat):(outV o n).oneCell'=true:=by cases o <;> rfl
end
end Go.Proofs.YtoaoibeobhcgmaaGreatDoor
namespace Go.Proofs
open Go.Shelf
def Tryz.lays125_ren:Go.Shelf.Ren:=⟨fun | 125=>121 | 128=>181 | 129=>28 | n=>n,fun | 46=>142 | 3=>3 | 51=>225 | 53=>24 | 4=>4 | 5=>5 | 9=>9 | n=>n,fun | n=>n⟩
theorem Tryz.lays125:Go.Proofs.Lays.n125 Tryz.prog Tryz.lays125_ren:={
 mixed:=by kernel_rfl
 f125:=Tryz.func121.trans (congrArg some (by kernel_rfl))
 f128:=Tryz.func181.trans (congrArg some (by kernel_rfl))
 f129:=Tryz.func28.trans (congrArg some (by kernel_rfl))
 t3:=Tryz.underlying3
 a3:=Tryz.isAgg3
 z3:=Tryz.sizeOf3
 v3:=Tryz.zeroValue3
 t4:=Tryz.underlying4
 a4:=Tryz.isAgg4
 z4:=Tryz.sizeOf4
 v4:=Tryz.zeroValue4
 t5:=Tryz.underlying5
 a5:=Tryz.isAgg5
 z5:=Tryz.sizeOf5
 v5:=Tryz.zeroValue5
 t9:=Tryz.underlying9
 a9:=Tryz.isAgg9
 z9:=Tryz.sizeOf9
 v9:=Tryz.zeroValue9
 t46:=Tryz.underlying142
 a46:=Tryz.isAgg142
 z46:=Tryz.sizeOf142
 v46:=Tryz.zeroValue142
 t51:=Tryz.underlying225
 a51:=Tryz.isAgg225
 z51:=Tryz.sizeOf225
 v51:=Tryz.zeroValue225
 t53:=Tryz.underlying24
 a53:=Tryz.isAgg24
 z53:=Tryz.sizeOf24
 v53:=Tryz.zeroValue24 }
theorem Tryz.bits_Len (x:Int) (w:World) (h0:0≤x) (h1:x≤18446744073709551615) :
  Calls Tryz.prog 121 #[.int .u64 x] w fun e w'=>e = .returned (.int .i64 (Lib.bitLen x.toNat))∧w'=w:=Any.bits_Len Tryz.lays125 x w h0 h1
def Tryz.lays105_ren:Go.Shelf.Ren:=⟨fun | 105=>79 | 212=>133 | 99=>134 | 165=>135 | 166=>14 | 170=>136 | 169=>16 | 263=>186 | 264=>187 | 206=>188 | 240=>37 | 241=>189 | 276=>74 | 277=>227 | n=>n,fun | 9=>9 | 3=>3 | 4=>4 | 20=>20 | 0=>0 | 46=>142 | 109=>220 | 5=>5 | 72=>54 | 76=>59 | 51=>225 | 146=>285 | 53=>24 | 148=>287 | 70=>51 | 37=>52 | 75=>58 | 127=>103 | 164=>149 | 80=>62 | n=>n,fun | n=>n⟩
theorem Tryz.lays105:Go.Proofs.Lays.n105 Tryz.prog Tryz.lays105_ren:={
 mixed:=by kernel_rfl
 f99:=Tryz.func134.trans (congrArg some (by kernel_rfl))
 f105:=Tryz.func79.trans (congrArg some (by kernel_rfl))
 f165:=Tryz.func135.trans (congrArg some (by kernel_rfl))
 f166:=Tryz.func14.trans (congrArg some (by kernel_rfl))
 f169:=Tryz.func16.trans (congrArg some (by kernel_rfl))
 f170:=Tryz.func136.trans (congrArg some (by kernel_rfl))
 f206:=Tryz.func188.trans (congrArg some (by kernel_rfl))
 f212:=Tryz.func133.trans (congrArg some (by kernel_rfl))
 f240:=Tryz.func37.trans (congrArg some (by kernel_rfl))
 f241:=Tryz.func189.trans (congrArg some (by kernel_rfl))
 f263:=Tryz.func186.trans (congrArg some (by kernel_rfl))
 f264:=Tryz.func187.trans (congrArg some (by kernel_rfl))
 f276:=Tryz.func74.trans (congrArg some (by kernel_rfl))
 f277:=Tryz.func227.trans (congrArg some (by kernel_rfl))
 t0:=Tryz.underlying0
 a0:=Tryz.isAgg0
 z0:=Tryz.sizeOf0
 v0:=Tryz.zeroValue0
 t3:=Tryz.underlying3
 a3:=Tryz.isAgg3
 z3:=Tryz.sizeOf3
 v3:=Tryz.zeroValue3
 t4:=Tryz.underlying4
 a4:=Tryz.isAgg4
 z4:=Tryz.sizeOf4
 v4:=Tryz.zeroValue4
 t5:=Tryz.underlying5
 a5:=Tryz.isAgg5
 z5:=Tryz.sizeOf5
 v5:=Tryz.zeroValue5
 t9:=Tryz.underlying9
 a9:=Tryz.isAgg9
 z9:=Tryz.sizeOf9
 v9:=Tryz.zeroValue9
 t20:=Tryz.underlying20
 a20:=Tryz.isAgg20
 z20:=Tryz.sizeOf20
 v20:=Tryz.zeroValue20
 t37:=Tryz.underlying52
 a37:=Tryz.isAgg52
 z37:=Tryz.sizeOf52
 v37:=Tryz.zeroValue52
 t46:=Tryz.underlying142
 a46:=Tryz.isAgg142
 z46:=Tryz.sizeOf142
 v46:=Tryz.zeroValue142
 t51:=Tryz.underlying225
 a51:=Tryz.isAgg225
 z51:=Tryz.sizeOf225
 v51:=Tryz.zeroValue225
 t53:=Tryz.underlying24
 a53:=Tryz.isAgg24
 z53:=Tryz.sizeOf24
 v53:=Tryz.zeroValue24
 t70:=Tryz.underlying51
 a70:=Tryz.isAgg51
 z70:=Tryz.sizeOf51
 v70:=Tryz.zeroValue51
 t72:=Tryz.underlying54
 a72:=Tryz.isAgg54
 z72:=Tryz.sizeOf54
 v72:=Tryz.zeroValue54
 t75:=Tryz.underlying58
 a75:=Tryz.isAgg58
 z75:=Tryz.sizeOf58
 v75:=Tryz.zeroValue58
 t76:=Tryz.underlying59
 a76:=Tryz.isAgg59
 z76:=Tryz.sizeOf59
 v76:=Tryz.zeroValue59
 t109:=Tryz.underlying220
 a109:=Tryz.isAgg220
 z109:=Tryz.sizeOf220
 v109:=Tryz.zeroValue220
 t127:=Tryz.underlying103
 a127:=Tryz.isAgg103
 z127:=Tryz.sizeOf103
 v127:=Tryz.zeroValue103
 t146:=Tryz.underlying285
 a146:=Tryz.isAgg285
 z146:=Tryz.sizeOf285
 v146:=Tryz.zeroValue285
 t148:=Tryz.underlying287
 a148:=Tryz.isAgg287
 z148:=Tryz.sizeOf287
 v148:=Tryz.zeroValue287
 t164:=Tryz.underlying149
 a164:=Tryz.isAgg149
 z164:=Tryz.sizeOf149
 v164:=Tryz.zeroValue149 }
theorem Tryz.Builder_Extra_105:Builder.Extra Tryz.prog Tryz.lays105_ren:={
 sizeBuilder:=by kernel_rfl
 liesBuilder:=by kernel_rfl
 t5:=Tryz.underlying5
 a5:=Tryz.isAgg5
 z5:=Tryz.sizeOf5
 v5:=Tryz.zeroValue5
 infoByte:=by kernel_rfl
 cellsByte:=by kernel_rfl
 sizeByte:=by kernel_rfl
 neB5:=by decide }
open Go.RowKit Go.Lib in
theorem Tryz.strings_Repeat_main (s:ByteArray) (c:Nat) (w:World) (hc2:2≤c) (hc:c≤9223372036854775807) (hlen:s.size*c≤140737488355328) (h0:0<s.size) :
  Calls Tryz.prog 79 #[.string s,.int .i64 c] w fun e w'=>e = .returned (.string ⟨(Lib.repeatL s.data.toList c).toArray⟩)∧Below w.heap.size w w':=Any.strings_Repeat_main Tryz.lays105 Tryz.Builder_Extra_105 s c w hc2 hc hlen h0
open Go.RowKit Go.Lib in
theorem Tryz.strings_Repeat (s:ByteArray) (c:Nat) (w:World) (hc:c≤9223372036854775807) (hlen:s.size*c≤140737488355328) :
  Calls Tryz.prog 79 #[.string s,.int .i64 c] w fun e w'=>e = .returned (.string ⟨(Lib.repeatL s.data.toList c).toArray⟩)∧Below w.heap.size w w':=Any.strings_Repeat Tryz.lays105 Tryz.Builder_Extra_105 s c w hc hlen
def Tryz.laysSlF6_f119_ren:Go.Shelf.Ren:=⟨fun | 6=>119 | 15=>121 | 14=>172 | 28=>181 | 29=>28 | 20=>213 | 21=>214 | 22=>215 | 23=>216 | 24=>217 | 25=>218 | 26=>219 | 27=>220 | 46=>246 | 47=>222 | 48=>223 | 49=>247 | 50=>248 | 57=>258 | n=>n,fun | 22=>40 | 24=>3 | 25=>207 | 3=>3 | 39=>142 | 0=>0 | 53=>225 | 55=>24 | 4=>4 | 46=>278 | 45=>277 | 50=>140 | 5=>5 | 9=>9 | 66=>316 | 70=>320 | 76=>335 | 77=>336 | n=>n,fun | n=>n⟩
theorem Tryz.laysSlF6_f119:Go.Proofs.SlLaysF.n6 Tryz.prog Tryz.laysSlF6_f119_ren:={
 mixed:=by kernel_rfl
 f6:=⟨Tryz.f119.name,by decide,Tryz.func119.trans (congrArg some (by kernel_rfl))⟩
 f14:=⟨Tryz.f172.name,by decide,Tryz.func172.trans (congrArg some (by kernel_rfl))⟩
 f15:=Tryz.func121.trans (congrArg some (by kernel_rfl))
 f20:=⟨Tryz.f213.name,by decide,Tryz.func213.trans (congrArg some (by kernel_rfl))⟩
 f21:=⟨Tryz.f214.name,by decide,Tryz.func214.trans (congrArg some (by kernel_rfl))⟩
 f22:=⟨Tryz.f215.name,by decide,Tryz.func215.trans (congrArg some (by kernel_rfl))⟩
 f23:=⟨Tryz.f216.name,by decide,Tryz.func216.trans (congrArg some (by kernel_rfl))⟩
 f24:=⟨Tryz.f217.name,by decide,Tryz.func217.trans (congrArg some (by kernel_rfl))⟩
 f25:=⟨Tryz.f218.name,by decide,Tryz.func218.trans (congrArg some (by kernel_rfl))⟩
 f26:=⟨Tryz.f219.name,by decide,Tryz.func219.trans (congrArg some (by kernel_rfl))⟩
 f27:=⟨Tryz.f220.name,by decide,Tryz.func220.trans (congrArg some (by kernel_rfl))⟩
 f28:=Tryz.func181.trans (congrArg some (by kernel_rfl))
 f29:=Tryz.func28.trans (congrArg some (by kernel_rfl))
 f46:=⟨Tryz.f246.name,by decide,Tryz.func246.trans (congrArg some (by kernel_rfl))⟩
 f47:=Tryz.func222.trans (congrArg some (by kernel_rfl))
 f48:=Tryz.func223.trans (congrArg some (by kernel_rfl))
 f49:=⟨Tryz.f247.name,by decide,Tryz.func247.trans (congrArg some (by kernel_rfl))⟩
 f50:=⟨Tryz.f248.name,by decide,Tryz.func248.trans (congrArg some (by kernel_rfl))⟩
 f57:=⟨Tryz.f258.name,by decide,Tryz.func258.trans (congrArg some (by kernel_rfl))⟩
 t0:=Tryz.underlying0
 a0:=Tryz.isAgg0
 z0:=Tryz.sizeOf0
 v0:=Tryz.zeroValue0
 t3:=Tryz.underlying3
 a3:=Tryz.isAgg3
 z3:=Tryz.sizeOf3
 v3:=Tryz.zeroValue3
 t4:=Tryz.underlying4
 a4:=Tryz.isAgg4
 z4:=Tryz.sizeOf4
 v4:=Tryz.zeroValue4
 t5:=Tryz.underlying5
 a5:=Tryz.isAgg5
 z5:=Tryz.sizeOf5
 v5:=Tryz.zeroValue5
 t9:=Tryz.underlying9
 a9:=Tryz.isAgg9
 z9:=Tryz.sizeOf9
 v9:=Tryz.zeroValue9
 t22:=Tryz.underlying40
 a22:=Tryz.isAgg40
 z22:=Tryz.sizeOf40
 v22:=Tryz.zeroValue40
 a24:=Tryz.isAgg3
 z24:=Tryz.sizeOf3
 t25:=Tryz.underlying207
 a25:=Tryz.isAgg207
 z25:=Tryz.sizeOf207
 v25:=Tryz.zeroValue207
 t39:=Tryz.underlying142
 a39:=Tryz.isAgg142
 z39:=Tryz.sizeOf142
 v39:=Tryz.zeroValue142
 t45:=Tryz.underlying277
 a45:=Tryz.isAgg277
 z45:=Tryz.sizeOf277
 v45:=Tryz.zeroValue277
 t46:=Tryz.underlying278
 a46:=Tryz.isAgg278
 z46:=Tryz.sizeOf278
 v46:=Tryz.zeroValue278
 t50:=Tryz.underlying140
 a50:=Tryz.isAgg140
 z50:=Tryz.sizeOf140
 v50:=Tryz.zeroValue140
 t53:=Tryz.underlying225
 a53:=Tryz.isAgg225
 z53:=Tryz.sizeOf225
 v53:=Tryz.zeroValue225
 t55:=Tryz.underlying24
 a55:=Tryz.isAgg24
 z55:=Tryz.sizeOf24
 v55:=Tryz.zeroValue24
 t66:=Tryz.underlying316
 a66:=Tryz.isAgg316
 z66:=Tryz.sizeOf316
 v66:=Tryz.zeroValue316
 t70:=Tryz.underlying320
 a70:=Tryz.isAgg320
 z70:=Tryz.sizeOf320
 v70:=Tryz.zeroValue320
 t76:=Tryz.underlying335
 a76:=Tryz.isAgg335
 z76:=Tryz.sizeOf335
 v76:=Tryz.zeroValue335
 t77:=Tryz.underlying336
 a77:=Tryz.isAgg336
 z77:=Tryz.sizeOf336
 v77:=Tryz.zeroValue336 }
def Tryz.laysSlF6_f143_ren:Go.Shelf.Ren:=⟨fun | 6=>143 | 15=>121 | 14=>198 | 28=>181 | 29=>28 | 20=>231 | 21=>232 | 22=>233 | 23=>234 | 24=>235 | 25=>236 | 26=>237 | 27=>238 | 46=>250 | 47=>222 | 48=>223 | 49=>251 | 50=>252 | 57=>259 | n=>n,fun | 22=>25 | 24=>22 | 25=>233 | 3=>3 | 39=>142 | 0=>0 | 53=>225 | 55=>24 | 4=>4 | 46=>278 | 45=>277 | 50=>140 | 5=>5 | 9=>9 | 66=>316 | 70=>320 | 76=>335 | 77=>336 | n=>n,fun | n=>n⟩
theorem Tryz.laysSlF6_f143:Go.Proofs.SlLaysF.n6 Tryz.prog Tryz.laysSlF6_f143_ren:={
 mixed:=by kernel_rfl
 f6:=⟨Tryz.f143.name,by decide,Tryz.func143.trans (congrArg some (by kernel_rfl))⟩
 f14:=⟨Tryz.f198.name,by decide,Tryz.func198.trans (congrArg some (by kernel_rfl))⟩
 f15:=Tryz.func121.trans (congrArg some (by kernel_rfl))
 f20:=⟨Tryz.f231.name,by decide,Tryz.func231.trans (congrArg some (by kernel_rfl))⟩
 f21:=⟨Tryz.f232.name,by decide,Tryz.func232.trans (congrArg some (by kernel_rfl))⟩
 f22:=⟨Tryz.f233.name,by decide,Tryz.func233.trans (congrArg some (by kernel_rfl))⟩
 f23:=⟨Tryz.f234.name,by decide,Tryz.func234.trans (congrArg some (by kernel_rfl))⟩
 f24:=⟨Tryz.f235.name,by decide,Tryz.func235.trans (congrArg some (by kernel_rfl))⟩
 f25:=⟨Tryz.f236.name,by decide,Tryz.func236.trans (congrArg some (by kernel_rfl))⟩
 f26:=⟨Tryz.f237.name,by decide,Tryz.func237.trans (congrArg some (by kernel_rfl))⟩
 f27:=⟨Tryz.f238.name,by decide,Tryz.func238.trans (congrArg some (by kernel_rfl))⟩
 f28:=Tryz.func181.trans (congrArg some (by kernel_rfl))
 f29:=Tryz.func28.trans (congrArg some (by kernel_rfl))
 f46:=⟨Tryz.f250.name,by decide,Tryz.func250.trans (congrArg some (by kernel_rfl))⟩
 f47:=Tryz.func222.trans (congrArg some (by kernel_rfl))
 f48:=Tryz.func223.trans (congrArg some (by kernel_rfl))
 f49:=⟨Tryz.f251.name,by decide,Tryz.func251.trans (congrArg some (by kernel_rfl))⟩
 f50:=⟨Tryz.f252.name,by decide,Tryz.func252.trans (congrArg some (by kernel_rfl))⟩
 f57:=⟨Tryz.f259.name,by decide,Tryz.func259.trans (congrArg some (by kernel_rfl))⟩
 t0:=Tryz.underlying0
 a0:=Tryz.isAgg0
 z0:=Tryz.sizeOf0
 v0:=Tryz.zeroValue0
 t3:=Tryz.underlying3
 a3:=Tryz.isAgg3
 z3:=Tryz.sizeOf3
 v3:=Tryz.zeroValue3
 t4:=Tryz.underlying4
 a4:=Tryz.isAgg4
 z4:=Tryz.sizeOf4
 v4:=Tryz.zeroValue4
 t5:=Tryz.underlying5
 a5:=Tryz.isAgg5
 z5:=Tryz.sizeOf5
 v5:=Tryz.zeroValue5
 t9:=Tryz.underlying9
 a9:=Tryz.isAgg9
 z9:=Tryz.sizeOf9
 v9:=Tryz.zeroValue9
 t22:=Tryz.underlying25
 a22:=Tryz.isAgg25
 z22:=Tryz.sizeOf25
 v22:=Tryz.zeroValue25
 a24:=Tryz.isAgg22
 z24:=Tryz.sizeOf22
 t25:=Tryz.underlying233
 a25:=Tryz.isAgg233
 z25:=Tryz.sizeOf233
 v25:=Tryz.zeroValue233
 t39:=Tryz.underlying142
 a39:=Tryz.isAgg142
 z39:=Tryz.sizeOf142
 v39:=Tryz.zeroValue142
 t45:=Tryz.underlying277
 a45:=Tryz.isAgg277
 z45:=Tryz.sizeOf277
 v45:=Tryz.zeroValue277
 t46:=Tryz.underlying278
 a46:=Tryz.isAgg278
 z46:=Tryz.sizeOf278
 v46:=Tryz.zeroValue278
 t50:=Tryz.underlying140
 a50:=Tryz.isAgg140
 z50:=Tryz.sizeOf140
 v50:=Tryz.zeroValue140
 t53:=Tryz.underlying225
 a53:=Tryz.isAgg225
 z53:=Tryz.sizeOf225
 v53:=Tryz.zeroValue225
 t55:=Tryz.underlying24
 a55:=Tryz.isAgg24
 z55:=Tryz.sizeOf24
 v55:=Tryz.zeroValue24
 t66:=Tryz.underlying316
 a66:=Tryz.isAgg316
 z66:=Tryz.sizeOf316
 v66:=Tryz.zeroValue316
 t70:=Tryz.underlying320
 a70:=Tryz.isAgg320
 z70:=Tryz.sizeOf320
 v70:=Tryz.zeroValue320
 t76:=Tryz.underlying335
 a76:=Tryz.isAgg335
 z76:=Tryz.sizeOf335
 v76:=Tryz.zeroValue335
 t77:=Tryz.underlying336
 a77:=Tryz.isAgg336
 z77:=Tryz.sizeOf336
 v77:=Tryz.zeroValue336 }
open Go.RowKit Go.Lib Go.Sort in
theorem Tryz.slices_SortFunc_f119 {α : Type} [Inhabited α] (enc : α→Value) (h1:OneCell enc) (cf : α → α→Int) (hO:SWO (ltOf cf)) (g:Nat) (cb:Array Value) (blk off cap:Nat) (d:Array α) (w:World) (eg:∀ args w,(callFunc g args).run Tryz.prog w = .ok (.enter g args) w) (hcmp:CmpLays1 Tryz.prog g cb enc cf blk off d.size w) (hH:Holds enc w blk off d) (hblk:blk<w.heap.size) (hsz:d.size<4611686018427387904) :
  Calls Tryz.prog 119 #[.slice (some ⟨blk,off,none⟩) d.size cap,.func (.func g) #[] cb] w fun e w' =>
   e = .returned (.tuple #[]) ∧ ∃ d' n os,PermIn 0 d.size d d'∧SortedIn (ltOf cf) 0 d.size d'∧w'=sortWorld enc w blk off n d' os:=Any.slices_SortFunc Tryz.laysSlF6_f119 enc h1 cf hO g cb blk off cap d w eg hcmp hH hblk hsz
open Go.RowKit Go.Lib Go.Sort in
theorem Tryz.slices_SortFunc_f143 {α : Type} [Inhabited α] (enc : α→Value) (h1:OneCell enc) (cf : α → α→Int) (hO:SWO (ltOf cf)) (g:Nat) (cb:Array Value) (blk off cap:Nat) (d:Array α) (w:World) (eg:∀ args w,(callFunc g args).run Tryz.prog w = .ok (.enter g args) w) (hcmp:CmpLays1 Tryz.prog g cb enc cf blk off d.size w) (hH:Holds enc w blk off d) (hblk:blk<w.heap.size) (hsz:d.size<4611686018427387904) :
  Calls Tryz.prog 143 #[.slice (some ⟨blk,off,none⟩) d.size cap,.func (.func g) #[] cb] w fun e w' =>
   e = .returned (.tuple #[]) ∧ ∃ d' n os,PermIn 0 d.size d d'∧SortedIn (ltOf cf) 0 d.size d'∧w'=sortWorld enc w blk off n d' os:=Any.slices_SortFunc Tryz.laysSlF6_f143 enc h1 cf hO g cb blk off cap d w eg hcmp hH hblk hsz
end Go.Proofs
namespace Go.Proofs.YtoaoibeobhcgmaaGreatDoor
section
open Go.RowKit
open Mv Disk
set_option maxRecDepth 4000
def zeros (n:Nat):ByteArray:=bs (List.replicate (64*n) 0)
theorem zec (n:Nat):(zeros n).size=64*n:=by unfold zeros;rw [zaD];simp
def newD (d:D) (s:ByteArray) (n:Int):D × Int:=if ¬ nm s∨n<1 then (d,1) else if has d.ext s=true then (d,4) else if d.size-used d.ext<n then (d,8) else ({ d with ext:=insAt d.ext (pos d.ext s) (s,zeros n.toNat) },0)
def DevR (S:Mem) (p:Nat) (q:D × Int) (r:Value) (S':Mem):Prop:=∃ oE oW,OkV S p q.1 oE oW∧r = .int .i64 q.2∧S'=devM S p q.1 oE oW
theorem ze0 (c:Nat):Lib.repeatL [0] c=List.replicate c (0:UInt8):=by
 induction c with
 | zero=>rfl
 | succ c ih=>rw [List.replicate_succ,← ih];rfl
theorem zg9 (c:Nat) (S:Mem) (h1:2≤c) (h2:c≤140737488355328):ACall Tryz.prog 79 #[.string ⟨#[0]⟩,.int .i64 (c:Int)] S fun r S'=>r = .string (bs (List.replicate c 0))∧S'=S :=
 ACall.of_calls fun w=>by
  have:=Tryz.strings_Repeat_main ⟨#[0]⟩ c w h1 (by omega) (by show 1*c≤_;omega) (by decide)
  rw [show (⟨#[0]⟩ : ByteArray).data.toList = [0] from rfl,ze0] at this
  exact this
set_option maxHeartbeats 2000000 in
theorem zim (p:Nat) (d:D) (s:ByteArray) (n:Int) (S:Mem) (oE oW:Option (Nat × Nat)) (hok:OkV S p d oE oW) (hR:Right d) :
  ACall Tryz.prog 39 #[.pointer (some ⟨p,0,none⟩),.string s,.int .i64 n] (devM S p d oE oW) (DevR S p (newD d s n)):=by
 have hrl:=zaV hR
 have hrd:=hok.rd (Nat.le_trans hrl.1 (by decide)) (Nat.le_trans hR.wl (by decide))
 have hp:(devM S p d oE oW).own p=some (devB d oE oW):=Mem.own_set_same _ _ _
 have hE:Sl 2 extF (devM S p d oE oW) (outV oE d.ext.length) d.ext:=((zcP za2 (e:=extT) hok.dk.e rfl (Nat.le_trans hrl.1 (by decide))).less (za9 hok.dk.w)).less (Mem.less_set _ _ _ hok.fr.1)
 have hap:=hok.apart
 have hft:=hok.fits
 have hs0:=hR.s0;have hs1:=hR.s1
 have hME:=zg6 hap (devB d oE oW) (d:=d)
 have hoE:=zg7 hap hft (devB d oE oW)
 rw [← zcc] at hME
 generalize hM:devM S p d oE oW=M at *
 unfold devB at hp
 unfold newD
 by_cases q1:nm s
 ·by_cases q2:n<1
  ·rw [if_pos (.inr q2)]
   refine k_E3 (rs:=[.tmp 6]) 52 Tryz.func39 rfl rfl rfl ?_
   refine r13_ ?_
   refine ca_ rfl (za_ _ d.ext s _ hE hR.ex.asc (Nat.le_trans hrl.1 (by decide))) ?_
   rintro _ S1 ⟨rfl,h1⟩
   rw [h1];clear h1 S1
   refine r12_ ?_
   refine ARun.build1s (zab rfl) zaN rfl rfl ?_
   intro b21 f21
   have g21:=f21
   repeat ((with_reducible replace g21:=zaa g21);obtain ⟨g21,_⟩:=g21)
   have:=g21.ne hp;have:=g21.ne' hp
   refine ca_ rfl (zbb _ [s] _ (zca own_)) ?_
   rintro _ S1 ⟨⟨t,rfl,ht⟩,h1⟩
   rw [h1];clear h1 S1
   obtain rfl:t=true:=ht.2 (zcb.2 q1)
   refine r8_ ?_
   refine cT_ ?_
   refine r8_ ?_
   refine ⟨_,M,⟨_,_,rfl,rfl,rfl⟩,zad,?_⟩
   exact ⟨oE,oW,hok,rfl,hM.symm⟩
  ·rw [if_neg (fun h=>h.elim (fun h=>h q1) q2)]
   by_cases q3:has d.ext s=true
   ·rw [if_pos q3]
    refine k_E3 (rs:=[.tmp 6]) 52 Tryz.func39 rfl rfl rfl ?_
    refine r13_ ?_
    refine ca_ rfl (za_ _ d.ext s _ hE hR.ex.asc (Nat.le_trans hrl.1 (by decide))) ?_
    rintro _ S1 ⟨rfl,h1⟩
    rw [h1,q3];clear h1 S1
    refine r12_ ?_
    refine ARun.build1s (zab rfl) zaN rfl rfl ?_
    intro b21 f21
    have g21:=f21
    repeat ((with_reducible replace g21:=zaa g21);obtain ⟨g21,_⟩:=g21)
    have:=g21.ne hp;have:=g21.ne' hp
    refine ca_ rfl (zbb _ [s] _ (zca own_)) ?_
    rintro _ S1 ⟨⟨t,rfl,ht⟩,h1⟩
    rw [h1];clear h1 S1
    obtain rfl:t=true:=ht.2 (zcb.2 q1)
    refine r8_ ?_
    refine cF_ ?_
    refine r6_ ?_
    refine k_v8 0 1 2 6 7 8 19 28 ?_
    refine cT_ ?_
    refine r8_ ?_
    refine ⟨_,M,⟨_,_,rfl,rfl,rfl⟩,zad,?_⟩
    exact ⟨oE,oW,hok,rfl,hM.symm⟩
   ·rw [if_neg q3]
    have q3':=Bool.eq_false_iff.2 q3
    by_cases q4:d.size-used d.ext<n
    ·rw [if_pos q4]
     refine k_E3 (rs:=[.tmp 6]) 52 Tryz.func39 rfl rfl rfl ?_
     refine r13_ ?_
     refine ca_ rfl (za_ _ d.ext s _ hE hR.ex.asc (Nat.le_trans hrl.1 (by decide))) ?_
     rintro _ S1 ⟨rfl,h1⟩
     rw [h1,q3'];clear h1 S1
     refine r12_ ?_
     refine ARun.build1s (zab rfl) zaN rfl rfl ?_
     intro b21 f21
     have g21:=f21
     repeat ((with_reducible replace g21:=zaa g21);obtain ⟨g21,_⟩:=g21)
     have:=g21.ne hp;have:=g21.ne' hp
     refine ca_ rfl (zbb _ [s] _ (zca own_)) ?_
     rintro _ S1 ⟨⟨t,rfl,ht⟩,h1⟩
     rw [h1];clear h1 S1
     obtain rfl:t=true:=ht.2 (zcb.2 q1)
     refine r8_ ?_
     refine cF_ ?_
     refine r6_ ?_
     refine cF_ ?_
     refine r4_ ?_
     refine ca_ rfl (zjm p d _ (hrd.less zad) hR) ?_
     rintro _ S1 ⟨rfl,h1⟩
     rw [h1];clear h1 S1
     refine r4_ ?_
     refine cT_ ?_
     refine r8_ ?_
     refine ⟨_,M,⟨_,_,rfl,rfl,rfl⟩,zad,?_⟩
     exact ⟨oE,oW,hok,rfl,hM.symm⟩
    ·rw [if_neg q4]
     obtain ⟨m,rfl⟩ : ∃ m:Nat,n=m:=⟨n.toNat,by omega⟩
     rw [Int.toNat_natCast]
     refine k_E3 (rs:=[.tmp 6]) 52 Tryz.func39 rfl rfl rfl ?_
     refine r13_ ?_
     refine ca_ rfl (za_ _ d.ext s _ hE hR.ex.asc (Nat.le_trans hrl.1 (by decide))) ?_
     rintro _ S1 ⟨rfl,h1⟩
     rw [h1,q3'];clear h1 S1
     refine r7_ ?_
     refine k_v6 0 1 2 6 7 8 ?_
     refine r5_ ?_
     refine ARun.build1s (zab rfl) zaN rfl rfl ?_
     intro b21 f21
     have g21:=f21
     repeat ((with_reducible replace g21:=zaa g21);obtain ⟨g21,_⟩:=g21)
     have:=g21.ne hp;have:=g21.ne' hp
     refine ca_ rfl (zbb _ [s] _ (zca own_)) ?_
     rintro _ S1 ⟨⟨t,rfl,ht⟩,h1⟩
     rw [h1];clear h1 S1
     obtain rfl:t=true:=ht.2 (zcb.2 q1)
     refine r8_ ?_
     refine cF_ ?_
     refine r6_ ?_
     refine cF_ ?_
     refine r4_ ?_
     refine ca_ rfl (zjm p d _ (hrd.less zad) hR) ?_
     rintro _ S1 ⟨rfl,h1⟩
     rw [h1];clear h1 S1
     refine r4_ ?_
     refine cF_ ?_
     refine AWP.less M zad ?_
     refine r4_ ?_
     refine AWP.draw [(0,true),(1,true),(2,true),(3,true),(4,true),(5,true),(6,true),(7,true),(8,true),(9,true),(10,false),(11,true),(12,false),(13,false),(14,true),(15,true),(16,true),(17,false)] [13,17] mixed (by kernel_rfl) ?_
     refine r9_ ?_
     refine dP (hc:=fun _=>Calm.as (v:=.int .i64 ((m:Int)*64)) (v':=.int .i64 ((64*m:Nat):Int)) (congrArg (Value.int .i64) (by omega)) (Calm.bin rfl rfl (zdD (IntWalk.i64_in _ (by omega))))) (h:=?_)
     refine zac rfl ?_
     refine ca_ rfl (zg9 (64*m) _ (by omega) (by omega)) ?_
     rintro _ S1 ⟨rfl,h1⟩
     rw [h1];clear h1 S1
     refine zae ⟨fun _=>zad,?_⟩
     refine s1_ ?_
     refine zac rfl ?_
     refine ARun.build1 (zab rfl) zbm rfl (by decide) (by decide) rfl rfl ?_
     intro b47 f47
     have g47:=f47
     repeat ((with_reducible replace g47:=zaa g47);obtain ⟨g47,_⟩:=g47)
     have:=g47.ne hp;have:=g47.ne' hp
     have hins:=zqU (baseE S p d oW (devB d oE oW)) oE d.ext (pos d.ext s) (s,zeros m) b47 hoE (by rw [hME];exact f47) (zlw _ _) hrl.1
     rw [hME] at hins
     refine zae ⟨fun _=>zad,?_⟩
     refine zac rfl ?_
     refine ca_ rfl (hins) ?_
     rintro _ S1 ⟨o',ho',rfl,h1⟩
     rw [h1];clear h1 S1
     have hap':=zil hap ho'
     have hp2:(outN 2 (baseE S p d oW (devB d oE oW)) o' extT ((insAt d.ext (pos d.ext s) (s,zeros m)).flatMap extF)).own p=some (devB d oE oW):=zcT (Mem.own_set_same _ _ _) (fun q c e=>(hap'.e q c e).2)
     have hE':=zlK (d':={ d with ext:=insAt d.ext (pos d.ext s) (s,zeros m) }) hap ho' rfl
     have hln:=zlJ (zlw d.ext s) (s,zeros m)
     unfold devB at hp2
     refine zae ⟨fun h=>absurd h (by decide),?_⟩
     refine r3_ ?_
     refine zac rfl ?_
     refine ARun.store1 rfl rfl zd7 (zc7 _ _) hp2 (show 1<5 from by decide) (zeB _ _) ?_
     try simp only [k_ms,k_sz,k_ss,k_za,Nat.reduceAdd]
     refine zae ⟨fun h=>absurd h (by decide),?_⟩
     refine r8_ ?_
     refine ⟨_,devM S p _ o' oW,⟨_,_,rfl,rfl,rfl⟩,(by rw [← hE'];unfold devB;rw [hln];exact Mem.Less.refl _),?_⟩
     exact ⟨o',oW,zfD hap' (zp9 hft ho' hln rfl),rfl,rfl⟩
 ·rw [if_pos (.inl q1)]
  refine k_E3 (rs:=[.tmp 6]) 52 Tryz.func39 rfl rfl rfl ?_
  refine r13_ ?_
  refine ca_ rfl (za_ _ d.ext s _ hE hR.ex.asc (Nat.le_trans hrl.1 (by decide))) ?_
  rintro _ S1 ⟨rfl,h1⟩
  rw [h1];clear h1 S1
  refine r7_ ?_
  refine k_v6 0 1 2 6 7 8 ?_
  refine r5_ ?_
  refine ARun.build1s (zab rfl) zaN rfl rfl ?_
  intro b21 f21
  have g21:=f21
  repeat ((with_reducible replace g21:=zaa g21);obtain ⟨g21,_⟩:=g21)
  have:=g21.ne hp;have:=g21.ne' hp
  refine ca_ rfl (zbb _ [s] _ (zca own_)) ?_
  rintro _ S1 ⟨⟨t,rfl,ht⟩,h1⟩
  rw [h1];clear h1 S1
  obtain rfl:t=false:=Bool.eq_false_iff.2 (fun e=>q1 (zcb.1 (ht.1 e)))
  refine r8_ ?_
  refine cT_ ?_
  refine r8_ ?_
  refine ⟨_,M,⟨_,_,rfl,rfl,rfl⟩,zad,?_⟩
  exact ⟨oE,oW,hok,rfl,hM.symm⟩
end
section
open Go.RowKit
open Mv Disk
set_option maxRecDepth 4000
noncomputable def opened (d:D) (f:D × Int):D × Int:=if (openD d).2=0 then f else openD d
theorem zg_ {d:D} (hR:Right d) (s:ByteArray) (n:Int):(newD d s n).1.ext.length≤9223372036854775807∧(newD d s n).1.waits.length≤9223372036854775807:=by
 have h1:=(zaV hR).1
 have h2:=hR.wl
 have h3:=zlJ (zlw d.ext s) (s,zeros n.toNat)
 unfold newD
 repeat' split
 all_goals (constructor <;> simp only <;> omega)
end
section
open Go.RowKit
open Mv Disk
set_option maxRecDepth 4000
theorem zlM {A Y D:List Value} {k:Nat} (hk:A.length=k):(A ++ D) <+: spl (A ++ Y) k D:=by
 subst hk
 unfold spl
 rw [List.take_left];exact List.prefix_append _ _
theorem zjo {C Z zs:List Value} {k:Nat} (hk:C.length=k) (h:C <+: Z):C <+: spl Z k zs:=by
 subst hk
 obtain ⟨Y,rfl⟩:=h
 unfold spl
 rw [List.take_left,List.append_assoc];exact List.prefix_append _ _
theorem zlN {A X D zs:List Value} {i k:Nat} (hA:A.length=i*2) (hk:A.length+D.length=k):(A ++ D) <+: spl (spl (A ++ (X ++ D)) (0+i*2) D) k zs :=
 zjo (by rw [List.length_append];exact hk) (zlM (by omega))
theorem zkl (l:List Ext) (i:Nat):(l.eraseIdx i).flatMap extF=(l.take i).flatMap extF ++ (l.drop (i+1)).flatMap extF:=by
 rw [List.eraseIdx_eq_take_drop_succ,List.flatMap_append]
theorem zcA {α : Type} {l:List α} {i:Nat} (h:i<l.length):l.drop i=l[i] :: l.drop (i+1):=List.drop_eq_getElem_cons h
section
variable {P:Program} {N:Nat} {E:Env} {S:Mem} {dst:Option Nat} {ty:TypeId} {pos:String} {aft:Array Edge} {gd:Option (Nat × Bool)}
theorem Mv.Calm.sliceLoHi {T e:TypeId} {x lo:Operand} {hi:Option Operand} {kd:IntKind} {j:Int} {b o len cap n h:Nat} (l:Nat) (hT:P.underlying T=some (.slice e)) (he:sizeT P e=some n) (hx:ev E x=some (.slice (some ⟨b,o,none⟩) len cap)) (hlo:ev E lo=some (.int kd j)) (hj:j=(l:Int)) (hh:bnd E hi len cap h) (h1:l≤h) :
  ACalm P N ⟨dst,.slice T x (some lo) hi none,ty,pos,aft,gd⟩ E S (.slice (some ⟨b,if cap=l then o else o+l*n,none⟩) (h-l) (cap-l)):=by
 subst hj
 have:=Calm.sliceSl (S:=S) (N:=N) (dst:=dst) (ty:=ty) (pos:=pos) (aft:=aft) (gd:=gd) hT he hx (za4 cap cap) (by simp) hh (zcr 0 h hlo (by omega) (by omega))
 rw [Int.toNat_natCast] at this
 exact this
theorem Mv.Calm.sliceMid {T e:TypeId} {x lo hi:Operand} {kd kd':IntKind} {j j':Int} {b o len cap n:Nat} (l h:Nat) (hT:P.underlying T=some (.slice e)) (he:sizeT P e=some n) (hx:ev E x=some (.slice (some ⟨b,o,none⟩) len cap)) (hlo:ev E lo=some (.int kd j)) (hj:j=(l:Int)) (hhi:ev E hi=some (.int kd' j')) (hj':j'=(h:Int)) (h1:l≤h) (h2:h≤cap) (h3:l<cap) :
  ACalm P N ⟨dst,.slice T x (some lo) (some hi) none,ty,pos,aft,gd⟩ E S (.slice (some ⟨b,o+l*n,none⟩) (h-l) (cap-l)):=by
 subst hj'
 have:=Calm.sliceLoHi (S:=S) (N:=N) (dst:=dst) (ty:=ty) (pos:=pos) (aft:=aft) (gd:=gd) l hT he hx hlo hj (zcr len cap hhi (by omega) (by omega)) (by rw [Int.toNat_natCast];exact h1)
 rw [Int.toNat_natCast,if_neg (by omega)] at this
 exact this
end
set_option maxHeartbeats 2000000 in
theorem zqV (B:Mem) (o:Option (Nat × Nat)) (l:List Ext) (i:Nat) (ho:OkO B o l.length) (hi:i<l.length) (hlen:l.length≤16384) :
  ACall Tryz.prog 205 #[outV o l.length,.int .i64 (i:Int),.int .i64 ((i:Int)+1)] (outN 2 B o extT (l.flatMap extF)) fun r S'=>OkO B o (l.length-1)∧r=outV o (l.length-1)∧S'=outN 2 B o extT ((l.eraseIdx i).flatMap extF):=by
 obtain ⟨⟨b,c⟩,rfl⟩ : ∃ q,o=some q:=by
  cases o with
  | none=>have:=ho.nil rfl;omega
  | some q=>exact ⟨q,rfl⟩
 have hc:=(ho.own b c rfl).2
 have hfb:=(ho.own b c rfl).1
 have hfl:=zaq za2 l
 have hA:=zaq za2 (l.take i)
 have hD:=zaq za2 (l.drop (i+1))
 rw [List.length_take,Nat.min_eq_left (by omega)] at hA
 rw [List.length_drop] at hD
 have hsplit:l.flatMap extF=(l.take i).flatMap extF ++ (extF l[i] ++ (l.drop (i+1)).flatMap extF):=by
  rw [zeZ (n:=2) (f:=extF) l i,zcA hi,List.flatMap_cons]
 rw [zkl]
 dsimp only [outN,outV]
 refine k_E3 (rs:=[.tmp 6]) 33 Tryz.func205 rfl rfl rfl ?_
 refine r23_ ?_
 refine cF_ ?_
 refine r10_ ?_
 refine AWP.draw [(0,true),(1,true),(2,true),(3,true),(4,true),(5,true),(6,false),(7,true)] [6] mixed (by kernel_rfl) ?_
 refine r2_ ?_
 refine dP (hc:=fun _=>Calm.sliceHi i Tryz.underlying26 zat rfl rfl rfl (by omega)) (h:=?_)
 refine r2_ ?_
 refine dP (hc:=fun _=>Calm.sliceLoHi (i+1) Tryz.underlying26 zat rfl rfl (by omega) (za4 _ _) (by omega)) (h:=?_)
 refine zac rfl ?_
 refine ARun.appendRoom (n:=2) (k:=i) (m:=l.length-(i+1)) (news:=(l.drop (i+1)).flatMap extF) (zab rfl) zbm rfl (Mem.own_set_same _ _ _) (by simp only [hfl];omega) rfl ?_ hD (zeY _) (by omega) (.inl (by simp only [hfl,hD];omega)) ?_
 ·by_cases hlast:i+1=l.length
  ·rw [show (l.drop (i+1)).flatMap extF = [] from List.eq_nil_of_length_eq_zero (by rw [hD,hlast];simp)]
   exact fun w _ j v h=>by simp at h
  ·rw [if_neg (by omega)]
   exact Mem.own_knows (Mem.own_set_same _ _ _) _ _ (fun j v hj=>by simp only;rw [hsplit,List.getElem?_append_right (by omega),List.getElem?_append_right (by rw [za2];omega),← hj];congr 1;rw [za2];omega)
 have hs1:(spl (l.flatMap extF) (0+i*2) ((l.drop (i+1)).flatMap extF)).length=l.length*2:=by rw [zd1 _ _ _ (by rw [hfl,hD];omega),hfl]
 refine zae ⟨fun h=>absurd h (by decide),?_⟩
 refine r9_ ?_
 refine rC (Calm.sliceMid (l.length-1) l.length Tryz.underlying26 zat rfl rfl (by omega) rfl rfl (by omega) (by omega) (by omega)) ?_
 refine ARun.clearK (k:=l.length-(l.length-1)) zbm rfl (by simp only [List.mem_cons,List.not_mem_nil,or_false];rintro v (rfl | rfl) <;> rfl) rfl (Mem.own_set_same _ _ _) (by simp only [hs1];omega) (.inl (by simp only [hs1];omega)) ?_
 intro zs hzs
 refine r2_ ?_
 refine k_v6 0 1 2 6 16 7 ?_
 rw [Mem.set_set,Mem.set_set]
 refine AWP.cut (cs':=(l.take i).flatMap extF ++ (l.drop (i+1)).flatMap extF) (m':=c*2) (by rw [hsplit];exact zlN hA (by rw [hA,hD];omega)) (Nat.le_refl _) ?_
 refine r7_ ?_
 refine ⟨_,_,⟨_,_,rfl,rfl,rfl⟩,Mem.Less.refl _,?_⟩
 exact ⟨zbS hfb (by omega),congrArg (fun n=>Value.slice (some ⟨b,0,none⟩) n c) (by omega),rfl⟩
end
section
open Go.RowKit
open Mv Disk
set_option maxRecDepth 4000
def isN (s:ByteArray) (w:Wr):Bool:=decide (w.1=s)
def filt (s:ByteArray) (l:List Wr):List Wr:=l.filter fun w=>!isN s w
theorem zet (w:Wr) (s:ByteArray) (nb:Nat) (S:Mem) (hk:S.Knows ⟨nb,0,none⟩ [.string s]) :
  ACall Tryz.prog 242 #[.agg #[.string w.1,.int .i64 w.2.1,.string w.2.2],.pointer (some ⟨nb,0,none⟩)] S fun r S'=>r = .bool (isN s w)∧S'=S:=by
 refine k_E2 (rs:=[.tmp 3]) 8 Tryz.func242 rfl rfl rfl ?_
 refine r2_ ?_
 refine ARun.boxA (cs:=[_,_,_]) (zab rfl) rfl ?_
 intro b2 f2
 have g2:=f2
 repeat ((with_reducible replace g2:=zaa g2);obtain ⟨g2,_⟩:=g2)
 refine nl_ ?_
 refine r13_ ?_
 refine ⟨_,S,⟨_,_,rfl,rfl,rfl⟩,zad,?_⟩
 exact ⟨rfl,rfl⟩
theorem zin (v:Value) (l:List Wr) (s:ByteArray) (nb:Nat) (S:Mem) (hl:Sl 3 wrF S v l) (hk:S.Knows ⟨nb,0,none⟩ [.string s]) :
  ACall Tryz.prog 253 #[v,.func (.func 242) #[] #[.pointer (some ⟨nb,0,none⟩)]] S fun r S'=>((r = .int .i64 (-1) ∧ ∀ w ∈ l,isN s w=false) ∨ ∃ i,∃ h:i<l.length,r = .int .i64 (i:Nat)∧isN s l[i]=true ∧ ∀ w ∈ l.take i,isN s w=false)∧S'=S:=by
 obtain ⟨a,cap,rfl,h1,h2,h3⟩:=id hl
 refine k_E2 (rs:=[.tmp 4]) 19 Tryz.func253 rfl rfl rfl ?_
 refine r14_ ?_
 refine AWP.loop (X:=Nat) (fun x=>[(0,.slice a l.length cap),(1,.func (.func 242) #[] #[.pointer (some ⟨nb,0,none⟩)]),(7,.int .i64 l.length),(8,.int .i64 x)]) (fun x=>S) (fun x=>x≤l.length ∧ ∀ w ∈ l.take x,isN s w=false) (fun x=>l.length-x) (0) ⟨rfl,rfl,rfl,rfl,trivial⟩ (Mem.Less.refl _) (⟨Nat.zero_le _,fun w h=>by simp at h⟩) ?_
 rintro i ⟨hi,hall⟩
 (try dsimp only at *)
 refine r6_ ?_
 refine AWP.condB rfl (fun hc=>?_) (fun hc=>?_)
 ·have hc:i<l.length:=by have:=of_decide_eq_true hc;omega
  obtain ⟨b,off,rfl,hkk⟩:=h3.resolve_left (fun e=>by subst e;simp at hc)
  have hki:=hkk i hc
  unfold wrF at hki
  refine r17_ ?_
  refine ARun.callV (zab rfl) zp7 rfl rfl (zet l[i] s nb _ hk) ?_
  rintro _ S1 ⟨rfl,h1⟩
  rw [h1];clear h1 S1
  refine r2_ ?_
  refine AWP.condB rfl (fun hb=>?_) (fun hb=>?_)
  ·refine r6_ ?_
   refine r6_ ?_
   refine ⟨_,S,⟨_,_,rfl,rfl,rfl⟩,zad,?_⟩
   exact ⟨.inr ⟨i,hc,rfl,hb,hall⟩,rfl⟩
  ·refine r8_ ?_
   refine ⟨i+1,?_,?_,?_,?_⟩
   all_goals (try dsimp only)
   ·exact ⟨rfl,rfl,rfl,rfl,trivial⟩
   ·exact zad
   ·exact ⟨hc,fun w hw=>by rw [zbI hc,List.mem_append] at hw;rcases hw with hw | hw;exact hall w hw;rw [List.mem_singleton.1 hw];exact hb⟩
   ·omega
 ·have hc:i=l.length:=by have:=of_decide_eq_false hc;omega
  subst hc
  rw [List.take_length] at hall
  refine r11_ ?_
  refine ⟨_,S,⟨_,_,rfl,rfl,rfl⟩,zad,?_⟩
  exact ⟨.inl ⟨rfl,hall⟩,rfl⟩
theorem zgl {s:ByteArray} {l:List Wr} (h:∀ w ∈ l,isN s w=false):filt s l=l:=by
 unfold filt;rw [List.filter_eq_self];intro w hw;rw [h w hw];rfl
theorem zha (s:ByteArray) (l:List Wr) (w:Wr):filt s (l ++ [w])=if isN s w=true then filt s l else filt s l ++ [w]:=by
 unfold filt;rw [List.filter_append];cases h:isN s w <;> simp [h]
theorem zqW (s:ByteArray) (l:List Wr):(filt s l).length≤l.length:=List.length_filter_le _ _
theorem zhb {F G R W:List Value} {k:Nat} (hk:F.length=k) (hG:3≤G.length) (hW:W.length=3):spl (F ++ (G ++ R)) k W=(F ++ W) ++ (G.drop 3 ++ R):=by
 have e:F ++ (G ++ R)=F ++ (G.take 3 ++ (G.drop 3 ++ R)):=by rw [← List.append_assoc (G.take 3),List.take_append_drop]
 rw [e,zik hk (by simp [hW];omega),List.append_assoc]
theorem zlO {l:List Wr} {j:Nat} (h:j<l.length):(l.drop j).flatMap wrF=wrF l[j] ++ (l.drop (j+1)).flatMap wrF:=by rw [zcA h,List.flatMap_cons]
set_option maxHeartbeats 2000000 in
theorem zoi (B:Mem) (o:Option (Nat × Nat)) (l:List Wr) (s:ByteArray) (nb:Nat) (ho:OkO B o l.length) (hlen:l.length≤16384) (hk:B.Knows ⟨nb,0,none⟩ [.string s]) :
  ACall Tryz.prog 241 #[outV o l.length,.func (.func 242) #[] #[.pointer (some ⟨nb,0,none⟩)]] (outN 3 B o wrT (l.flatMap wrF)) fun r S'=>OkO B o (filt s l).length∧r=outV o (filt s l).length∧S'=outN 3 B o wrT ((filt s l).flatMap wrF):=by
 have hfl:=zaq zci l
 have hSl:=zcP zci (e:=wrT) ho rfl (Nat.le_trans hlen (by decide))
 have hidx:=zin _ l s nb _ hSl (hk.less (za9 ho))
 by_cases hall:∀ w ∈ l,isN s w=false
 ·rw [zgl hall]
  obtain ⟨a,c,hqe⟩:=za6 ho
  rw [hqe] at hidx ⊢
  generalize hM:outN 3 B o wrT (l.flatMap wrF)=M at *
  refine k_E2 (rs:=[.tmp 4]) 42 Tryz.func241 rfl rfl rfl ?_
  refine r9_ ?_
  refine ca_ rfl (hidx) ?_
  rintro _ S1 ⟨hr,h1⟩
  rw [h1];clear h1 S1
  obtain ⟨rfl,_⟩:=hr.resolve_right (fun ⟨i,h,_,hi,_⟩=>by rw [hall _ (List.getElem_mem h)] at hi;cases hi)
  refine r10_ ?_
  refine cT_ ?_
  refine r8_ ?_
  refine ⟨_,M,⟨_,_,rfl,rfl,rfl⟩,zad,?_⟩
  exact ⟨ho,rfl,rfl⟩
 ·obtain ⟨⟨b,c⟩,rfl⟩ : ∃ q,o=some q:=by
   cases o with
   | none=>exact absurd (fun w hw=>by rw [List.eq_nil_of_length_eq_zero (ho.nil rfl)] at hw;cases hw) hall
   | some q=>exact ⟨q,rfl⟩
  have hc:=(ho.own b c rfl).2
  have hfb:=(ho.own b c rfl).1
  dsimp only [outN,outV] at hidx ⊢
  refine k_E2 (rs:=[.tmp 4]) 42 Tryz.func241 rfl rfl rfl ?_
  refine r9_ ?_
  refine ca_ rfl (hidx) ?_
  rintro _ S1 ⟨hr,h1⟩
  rw [h1];clear h1 S1
  obtain ⟨i0,hi0,rfl,hn0,ht0⟩:=hr.resolve_left (fun h=>hall h.2)
  have hf0:filt s (l.take (i0+1))=l.take i0:=by rw [zbI hi0,zha,if_pos hn0,zgl ht0]
  refine r10_ ?_
  refine k_v5 0 1 4 5 12 ?_
  refine cF_ ?_
  refine r11_ ?_
  refine AWP.loop (X:=Nat × List Value) (fun x=>[(0,.slice (some ⟨b,0,none⟩) l.length c),(1,.func (.func 242) #[] #[.pointer (some ⟨nb,0,none⟩)]),(5,.int .i64 ((filt s (l.take x.1)).length:Nat)),(6,.int .i64 x.1)]) (fun x=>B.set b ⟨wrT,(filt s (l.take x.1)).flatMap wrF ++ (x.2 ++ (l.drop x.1).flatMap wrF),c*3⟩) (fun x=>x.1≤l.length∧(filt s (l.take x.1)).length<x.1∧((filt s (l.take x.1)).length*3+x.2.length=x.1*3)) (fun x=>l.length-x.1) ((i0+1,wrF l[i0])) ⟨rfl,rfl,zai (by simp only [hf0,List.length_take];omega),zai (by simp),trivial⟩ (by simp only [hf0];rw [← zlO hi0,← zeZ (n:=3)];exact Mem.Less.refl _) (⟨hi0,by simp only [hf0,List.length_take];omega,by simp only [hf0,List.length_take,zci];omega⟩) ?_
  rintro ⟨j,G⟩ ⟨hj,hfj,hG⟩
  (try dsimp only at *)
  obtain ⟨k,hkk⟩ : ∃ k,(filt s (l.take j)).length=k:=⟨_,rfl⟩
  have hF:=zaq zci (filt s (l.take j))
  rw [hkk] at hF hfj hG
  refine r9_ ?_
  refine AWP.condB rfl (fun hc=>?_) (fun hc=>?_)
  ·have hc:j<l.length:=by have:=of_decide_eq_true hc;omega
   have hR:=zlO hc
   have hRl:=zaq zci (l.drop j)
   rw [List.length_drop] at hRl
   have hft:=zha s (l.take j) l[j]
   rw [← zbI hc] at hft
   have hki:(B.set b ⟨wrT,(filt s (l.take j)).flatMap wrF ++ (G ++ (l.drop j).flatMap wrF),c*3⟩).Knows ⟨b,0+j*3,none⟩ (wrF l[j]):=Mem.own_knows (Mem.own_set_same _ _ _) _ _ (fun q v hq=>by simp only;rw [List.getElem?_append_right (by omega),List.getElem?_append_right (by omega),hR,List.getElem?_append_left (by have:=(List.getElem?_eq_some_iff.1 hq).1;omega),← hq];congr 1;omega)
   generalize hw:l[j]=w at *
   unfold wrF at hki
   refine r10_ ?_
   refine ARun.alloc (zab rfl) zcy ?_
   intro b7 f7
   have g7:=f7
   repeat ((with_reducible replace g7:=zaa g7);obtain ⟨g7,_⟩:=g7)
   refine nl_ ?_
   refine r7_ ?_
   refine ARun.callV (zab rfl) zp7 rfl rfl (zet w s nb _ (hk.less zad)) ?_
   rintro _ S1 ⟨rfl,h1⟩
   rw [h1];clear h1 S1
   refine r3_ ?_
   by_cases hb:isN s w=true
   ·rw [hb]
    rw [if_pos hb] at hft
    refine cF_ ?_
    have hcell:(filt s (l.take (j+1))).flatMap wrF ++ ((G ++ wrF w) ++ (l.drop (j+1)).flatMap wrF)=(filt s (l.take j)).flatMap wrF ++ (G ++ (l.drop j).flatMap wrF):=by rw [hft,hR,List.append_assoc]
    refine r9_ ?_
    refine ⟨(j+1,G ++ wrF w),?_,?_,?_,?_⟩
    all_goals (try dsimp only)
    ·exact ⟨rfl,rfl,zai (by rw [hft]),rfl,trivial⟩
    ·simp only [hcell];exact zad
    ·exact ⟨hc,by simp only [hft];omega,by simp only [hft,List.length_append,zci];omega⟩
    ·omega
   ·rw [Bool.eq_false_iff.2 hb]
    rw [if_neg hb] at hft
    refine cT_ ?_
    rw [hkk]
    refine r6_ ?_
    refine ARun.store rfl rfl zbD own_ (by show 0+k*3+3≤(_ ++ (_ ++ _):List Value).length;simp only [List.length_append,hF,hRl];omega) (by simp [Value.cells,Value.oneCell']) ?_
    try simp only [k_ms,k_sz,k_ss,k_za,Nat.reduceAdd]
    refine r2_ ?_
    refine k_v7 0 1 5 6 19 7 29 ?_
    have hcell:(filt s (l.take (j+1))).flatMap wrF ++ ((G.drop 3 ++ wrF w) ++ (l.drop (j+1)).flatMap wrF)=spl ((filt s (l.take j)).flatMap wrF ++ (G ++ (l.drop j).flatMap wrF)) ((k:Int).toNat*3) (Value.agg #[.string w.1,.int .i64 w.2.1,.string w.2.2]).cells.toList:=by show _=spl _ _ (wrF w);rw [zhb (by omega) (by omega) rfl,hft,hR,List.flatMap_append,List.append_assoc (G.drop 3)];simp
    refine r13_ ?_
    refine ⟨(j+1,G.drop 3 ++ wrF w),?_,?_,?_,?_⟩
    all_goals (try dsimp only)
    ·exact ⟨rfl,rfl,zai (by rw [hft,List.length_append,hkk];simp),rfl,trivial⟩
    ·simp only [hcell];exact zad
    ·exact ⟨hc,by simp only [hft,List.length_append,hkk];simp;omega,by simp only [hft,List.length_append,List.length_drop,zci,hkk];simp;omega⟩
    ·omega
  ·have hc:j=l.length:=by have:=of_decide_eq_false hc;omega
   subst hc
   rw [List.take_length] at hkk hF
   rw [List.take_length,List.drop_length,List.flatMap_nil,List.append_nil,hkk]
   have hl1:((filt s l).flatMap wrF ++ G).length=l.length*3:=by rw [List.length_append,hF];omega
   refine r9_ ?_
   refine rC (Calm.sliceLo k Tryz.underlying27 zbD rfl rfl rfl (by omega) (by omega)) ?_
   refine ARun.clearK (k:=l.length-k) zdH rfl (by simp only [List.mem_cons,List.not_mem_nil,or_false];rintro v (rfl | rfl | rfl) <;> rfl) rfl (Mem.own_set_same _ _ _) (by simp only [hl1];omega) (.inl (by simp only [hl1];omega)) ?_
   intro zs hzs
   refine r6_ ?_
   refine rC (Calm.sliceHi k Tryz.underlying27 zbD rfl rfl rfl (by omega)) ?_
   refine r3_ ?_
   rw [Mem.set_set]
   refine AWP.cut (cs':=(filt s l).flatMap wrF) (m':=c*3) (zjo (by omega) (List.prefix_append _ _)) (Nat.le_refl _) ?_
   refine s1_ ?_
   refine ⟨_,_,⟨_,_,rfl,rfl,rfl⟩,Mem.Less.refl _,?_⟩
   exact ⟨zbS hfb (by omega),by rfl,rfl⟩
end
section
open Go.RowKit
open Mv Disk
set_option maxRecDepth 4000
def forgetD (d:D) (s:ByteArray):D:={ d with waits:=filt s d.waits }
set_option maxHeartbeats 1000000 in
theorem zkm (p:Nat) (d:D) (s:ByteArray) (S:Mem) (oE oW:Option (Nat × Nat)) (hok:OkV S p d oE oW) (hwl:d.waits.length≤16384) :
  ACall Tryz.prog 206 #[.pointer (some ⟨p,0,none⟩),.string s] (devM S p d oE oW) fun r S'=>r = .tuple #[]∧OkV S p (forgetD d s) oE oW∧S'=devM S p (forgetD d s) oE oW:=by
 have hp:(devM S p d oE oW).own p=some (devB d oE oW):=Mem.own_set_same _ _ _
 have hap:=hok.apart
 have hft:=hok.fits
 have hME:=zp_ hap (devB d oE oW) (d:=d)
 have hoW:=zg8 hap hft (devB d oE oW)
 rw [← zcc] at hME
 generalize hM:devM S p d oE oW=M at *
 unfold devB at hp
 refine k_E2 (rs:=[]) 15 Tryz.func206 rfl rfl rfl ?_
 refine r2_ ?_
 refine ARun.box1 (zab rfl) rfl rfl ?_
 intro b3 f3
 have g3:=f3
 repeat ((with_reducible replace g3:=zaa g3);obtain ⟨g3,_⟩:=g3)
 have:=g3.ne hp;have:=g3.ne' hp
 refine nl_ ?_
 refine r2_ ?_
 have nb:∀ q c,oW=some (q,c)→q≠b3:=fun q c e h=>by subst h;have:=f3.1;rw [← hME,e] at this;rw [show (outN 3 _ (some (q,c)) _ _).own q=_ from Mem.own_set_same _ _ _] at this;cases this
 have hins:=zoi ((baseW S p d oE (devB d oE oW)).set b3 ⟨9,[.string s],1⟩) oW d.waits s b3 (hoW.set (fun q c e=>Ne.symm (nb q c e))) hwl ((zf8 (zbt (Mem.own_set_same _ _ _) rfl) (zhY _ _)).knows)
 rw [zbi nb,hME] at hins
 refine r8_ ?_
 refine ca_ rfl (hins) ?_
 rintro _ S1 ⟨ho',rfl,h1⟩
 rw [h1,zbi nb];clear h1 S1
 have ho2:OkO (baseW S p d oE (devB d oE oW)) oW (filt s d.waits).length:=ho'.unset
 have hp2:((outN 3 (baseW S p d oE (devB d oE oW)) oW wrT ((filt s d.waits).flatMap wrF)).set b3 ⟨9,[.string s],1⟩).own p=some (devB d oE oW):=(Mem.own_set_other _ _ (by assumption)).trans (zcT (Mem.own_set_same _ _ _) (fun q c e=>(hap.w q c e).2))
 have hE':=zlL (d':=forgetD d s) hap ho2 rfl
 unfold devB at hp2
 refine r3_ ?_
 refine ARun.store1 rfl rfl zc2 (zc7 _ _) hp2 (show 2<5 from by decide) (zeB _ _) ?_
 try simp only [k_ms,k_sz,k_ss,k_za,Nat.reduceAdd]
 refine s1_ ?_
 have hf3:Fresh (baseW S p d oE (devB d oE oW)) b3:=(zaB (n:=3) (o:=oW) (e:=wrT) (cs:=d.waits.flatMap wrF) (by rw [hME];exact f3)).1
 refine ⟨_,devM S p (forgetD d s) oE oW,rfl,(by rw [← hE'];exact Less.set (Mem.less_set _ _ _ (zbj hf3 nb).1) _ _),?_⟩
 exact ⟨rfl,zfD (zgk hap ho2) (zqa hft ho2 rfl rfl),rfl⟩
def eraseD (d:D) (s:ByteArray):D:={ d with ext:=d.ext.eraseIdx (pos d.ext s) }
theorem zhc {d:D} (s:ByteArray) (h:pos d.ext s<d.ext.length):(eraseD d s).ext.length=d.ext.length-1:=by
 unfold eraseD;rw [List.length_eraseIdx_of_lt h]
theorem zlP {S:Mem} {p:Nat} {d:D} {oE oW:Option (Nat × Nat)} {s:ByteArray} (hap:Apart S p oE oW) (hft:Fits d oE oW) (h:pos d.ext s<d.ext.length) (ho:OkO (baseE S p d oW (devB d oE oW)) oE (d.ext.length-1)) :
  OkV S p (eraseD d s) oE oW∧(outN 2 (baseE S p d oW (devB d oE oW)) oE extT ((d.ext.eraseIdx (pos d.ext s)).flatMap extF)).set p (devB (eraseD d s) oE oW)=devM S p (eraseD d s) oE oW∧(outN 2 (baseE S p d oW (devB d oE oW)) oE extT ((d.ext.eraseIdx (pos d.ext s)).flatMap extF)).own p=some (devB d oE oW) :=
 ⟨zfD (zil hap ho) (zp9 hft ho (zhc s h) rfl),zlK (d':=eraseD d s) hap ho rfl,zcT (Mem.own_set_same _ _ _) (fun q c e=>(hap.e q c e).2)⟩
def freeD (d:D) (s:ByteArray):D × Int:=if has d.ext s=true then (forgetD (eraseD d s) s,0) else (d,3)
set_option maxHeartbeats 1000000 in
theorem zoj (p:Nat) (d:D) (s:ByteArray) (S:Mem) (oE oW:Option (Nat × Nat)) (hok:OkV S p d oE oW) (hR:Right d) :
  ACall Tryz.prog 157 #[.pointer (some ⟨p,0,none⟩),.string s] (devM S p d oE oW) (DevR S p (freeD d s)):=by
 have hrl:=zaV hR
 have hp:(devM S p d oE oW).own p=some (devB d oE oW):=Mem.own_set_same _ _ _
 have hE:Sl 2 extF (devM S p d oE oW) (outV oE d.ext.length) d.ext:=((zcP za2 (e:=extT) hok.dk.e rfl (Nat.le_trans hrl.1 (by decide))).less (za9 hok.dk.w)).less (Mem.less_set _ _ _ hok.fr.1)
 have hap:=hok.apart
 have hft:=hok.fits
 have hME:=zg6 hap (devB d oE oW) (d:=d)
 have hoE:=zg7 hap hft (devB d oE oW)
 rw [← zcc] at hME
 have hhp:=zdq hR.ex.asc s
 have hwl:=hR.wl
 unfold freeD
 by_cases q:has d.ext s=true
 ·obtain ⟨hlt,he⟩:=hhp.1 q
  rw [if_pos q]
  have hdel:=zqV _ oE d.ext (pos d.ext s) hoE hlt hrl.1
  rw [hME] at hdel
  have hln:=zhc s hlt
  have hfor:=fun oE' oW' h=>zkm p (eraseD d s) s S oE' oW' h hwl
  generalize hM:devM S p d oE oW=M at *
  unfold devB at hp
  refine k_E2 (rs:=[.tmp 4]) 35 Tryz.func157 rfl rfl rfl ?_
  refine r13_ ?_
  refine ca_ rfl (za_ _ d.ext s _ hE hR.ex.asc (Nat.le_trans hrl.1 (by decide))) ?_
  rintro _ S1 ⟨rfl,h1⟩
  rw [h1,q];clear h1 S1
  refine r14_ ?_
  refine cF_ ?_
  refine r13_ ?_
  refine ca_ rfl (hdel) ?_
  rintro _ S1 ⟨ho',rfl,h1⟩
  rw [h1];clear h1 S1
  obtain ⟨hok2,hM2,hp2⟩:=zlP hap hft hlt ho'
  unfold devB at hp2
  refine r3_ ?_
  refine ARun.store1 rfl rfl zd7 (zc7 _ _) hp2 (show 1<5 from by decide) (zeB _ _) ?_
  try simp only [k_ms,k_sz,k_ss,k_za,Nat.reduceAdd]
  refine r2_ ?_
  rw [← hln]
  refine AWP.less (devM S p (eraseD d s) oE oW) (by rw [← hM2];exact Mem.Less.refl _) ?_
  refine r4_ ?_
  refine ca_ rfl (hfor oE oW hok2) ?_
  rintro _ S1 ⟨rfl,hok3,h1⟩
  rw [h1];clear h1 S1
  refine r8_ ?_
  refine ⟨_,_,⟨_,_,rfl,rfl,rfl⟩,Mem.Less.refl _,?_⟩
  exact ⟨oE,oW,hok3,rfl,rfl⟩
 ·rw [if_neg q]
  generalize hM:devM S p d oE oW=M at *
  unfold devB at hp
  refine k_E2 (rs:=[.tmp 4]) 35 Tryz.func157 rfl rfl rfl ?_
  refine r13_ ?_
  refine ca_ rfl (za_ _ d.ext s _ hE hR.ex.asc (Nat.le_trans hrl.1 (by decide))) ?_
  rintro _ S1 ⟨rfl,h1⟩
  rw [h1,Bool.eq_false_iff.2 q];clear h1 S1
  refine r7_ ?_
  refine k_v5 0 1 4 5 6 ?_
  refine r7_ ?_
  refine cT_ ?_
  refine r7_ ?_
  refine ⟨_,M,⟨_,_,rfl,rfl,rfl⟩,zad,?_⟩
  exact ⟨oE,oW,hok,rfl,hM.symm⟩
end
section
open Go.RowKit
open Mv Disk
set_option maxRecDepth 4000
theorem zlQ {l:List Ext} {s:ByteArray} {x:Ext} (hlt:pos l s<l.length) (he:l[pos l s].1=s) (hx:x ∈ l) (hne:x.1≠s):x ∈ l.eraseIdx (pos l s):=by
 rw [List.eraseIdx_eq_take_drop_succ,List.mem_append]
 rw [← List.take_append_drop (pos l s) l,List.mem_append] at hx
 rcases hx with hx | hx
 ·exact .inl hx
 ·rw [zcA hlt] at hx
  rcases List.mem_cons.1 hx with rfl | hx
  ·exact absurd he hne
  ·exact .inr hx
theorem zkn {l:List Ext} {i:Nat} (h:i<l.length):used (l.eraseIdx i)+sec l[i]=used l:=by
 have e:used l=used (l.take i ++ l.drop i):=by rw [List.take_append_drop]
 rw [e,List.eraseIdx_eq_take_drop_succ,zcA h,zaZ,zaZ]
 simp only [used];omega
theorem zio {l:List Ext} {size:Int} {i:Nat} (h:ERight l size) (hi:i<l.length):ERight (l.eraseIdx i) size :=
 ⟨fun x hx=>h.ok x (List.mem_of_mem_eraseIdx hx),h.asc.sublist (List.eraseIdx_sublist l i),by have:=zkn hi;have:=h.us;omega⟩
theorem zqb {s:ByteArray} {w:Wr}:isN s w=false ↔ w.1≠s:=by unfold isN;simp
theorem zko {d:D} {s:ByteArray} (h:Right d) (hh:has d.ext s=true):Right (forgetD (eraseD d s) s):=by
 obtain ⟨hlt,he⟩:=(zdq h.ex.asc s).1 hh
 refine ⟨h.s0,h.s1,Nat.le_trans (zqW _ _) h.wl,h.fu,zio h.ex hlt,fun w hw=>?_⟩
 obtain ⟨hw1,hw2⟩:=List.mem_filter.1 hw
 have hne:w.1≠s:=zqb.1 (by simpa using hw2)
 obtain ⟨x,hx,e,hr⟩:=h.wr w hw1
 exact ⟨x,zlQ hlt he hx (by rw [e];exact hne),e,hr⟩
def freesD (d0:D):D→List ByteArray→D × Int
  | d,[]=>(d,0)
  | d,s :: l=>if (freeD d s).2=0 then freesD d0 (freeD d s).1 l else (d0,(freeD d s).2)
theorem zaC {d:D} (h:Right d):d.ext.length≤9223372036854775807∧d.waits.length≤9223372036854775807:=⟨Nat.le_trans (zaV h).1 (by decide),Nat.le_trans h.wl (by decide)⟩
end
section
open Go.RowKit
open Mv Disk
set_option maxRecDepth 4000
def addW (d:D) (w:Wr):D:={ d with waits:=d.waits ++ [w] }
def fuseD (d:D):D × Int:=if d.fuse=0 then ({ d with down:=true },10) else if 0<d.fuse then ({ d with fuse:=d.fuse-1 },0) else (d,0)
def writeD (d:D) (s:ByteArray) (i:Int) (data:ByteArray):D × Int:=if (placeD d s i).2≠0 then (d,(placeD d s i).2) else if data.size≠64 then (d,2) else if d.waits.length=16384 then (d,8) else fuseD (addW d (s,i,data))
theorem zok (d:D) (w:Wr):(addW d w).waits.flatMap wrF=d.waits.flatMap wrF ++ wrF w:=by unfold addW;simp
theorem ze1 (d:D) (w:Wr):(addW d w).waits.length=d.waits.length+1:=by unfold addW;simp
set_option maxHeartbeats 2000000 in
theorem zdJ (p:Nat) (d:D) (s:ByteArray) (i:Int) (data:ByteArray) (S:Mem) (oE oW:Option (Nat × Nat)) (hok:OkV S p d oE oW) (hR:Right d) (hf1:d.fuse≤9223372036854775807) :
  ACall Tryz.prog 41 #[.pointer (some ⟨p,0,none⟩),.string s,.int .i64 i,.string data] (devM S p d oE oW) (DevR S p (writeD d s i data)):=by
 have hlens:=zaC hR
 have hwl:=hR.wl
 have hf0:=hR.fu
 have hpl:=zlH p d s i _ (hok.rd hlens.1 hlens.2) hR
 have hp:(devM S p d oE oW).own p=some (devB d oE oW):=Mem.own_set_same _ _ _
 have hap:=hok.apart
 have hft:=hok.fits
 have hME:=zp_ hap (devB d oE oW) (d:=d)
 have hoW:=zg8 hap hft (devB d oE oW)
 rw [← zcc] at hME
 have hfl:=zaq zci d.waits
 have happ:=zbK (e:=wrT) hoW hfl
 rw [hME] at happ
 have hmeq:=zcc S p d oE oW
 have hdc:∀ oW',(devM S p (addW d (s,i,data)) oE oW').own p=some (devB (addW d (s,i,data)) oE oW'):=fun oW'=>Mem.own_set_same _ _ _
 obtain ⟨qw,dw,hqw⟩:=za6 hok.dk.w
 generalize hM:devM S p d oE oW=M at *
 unfold devB at hp
 unfold writeD
 by_cases q1:(placeD d s i).2=0
 ·rw [if_neg (fun h=>h q1)]
  rw [q1] at hpl
  by_cases q2:data.size=64
  ·rw [if_neg (fun h=>h q2)]
   by_cases q3:d.waits.length=16384
   ·rw [if_pos q3]
    rw [hqw] at hp
    refine k_E4 (rs:=[.tmp 8]) 75 Tryz.func41 rfl rfl rfl ?_
    refine r11_ ?_
    refine ca_ rfl (hpl) ?_
    rintro _ S1 ⟨rfl,h1⟩
    rw [h1];clear h1 S1
    refine r13_ ?_
    refine cF_ ?_
    refine r12_ ?_
    refine cF_ ?_
    refine r12_ ?_
    refine cT_ ?_
    refine r8_ ?_
    refine ⟨_,M,⟨_,_,rfl,rfl,rfl⟩,zad,?_⟩
    exact ⟨oE,oW,hok,rfl,hM.symm⟩
   ·rw [if_neg q3]
    refine k_E4 (rs:=[.tmp 8]) 75 Tryz.func41 rfl rfl rfl ?_
    refine r11_ ?_
    refine ca_ rfl (hpl) ?_
    rintro _ S1 ⟨rfl,h1⟩
    rw [h1];clear h1 S1
    refine r7_ ?_
    refine k_v6 0 1 2 3 8 10 ?_
    refine r6_ ?_
    refine cF_ ?_
    refine r12_ ?_
    refine cF_ ?_
    refine r7_ ?_
    refine rC ((by rw [hqw];exact Calm.lenSl Tryz.underlying27 rfl)) ?_
    refine r4_ ?_
    refine cF_ ?_
    refine r15_ ?_
    refine ARun.build1 (zab rfl) zdH rfl (by decide) (by decide) rfl rfl ?_
    intro b43 f43
    have g43:=f43
    repeat ((with_reducible replace g43:=zaa g43);obtain ⟨g43,_⟩:=g43)
    have:=g43.ne hp;have:=g43.ne' hp
    refine ARun.appendOK (n:=3) (o:=oW) (k:=d.waits.length) (m:=1) (cs:=d.waits.flatMap wrF) (zab rfl) zdH rfl rfl hfl hoW (happ.temp f43) rfl (zd6 (Mem.own_set_same _ _ _) List.prefix_rfl) rfl (fun v hv=>zp8 [(s,i,data)] v (by rw [List.flatMap_cons,List.flatMap_nil,List.append_nil];exact hv)) (by omega) (by omega) ?_
    intro o' ho'
    have hp2:∀ cs,(outN 3 (baseW S p d oE (devB d oE oW)) o' wrT cs).own p=some (devB d oE oW):=fun cs=>zcT (Mem.own_set_same _ _ _) (fun q c e=>((zgk hap ho').w q c e).2)
    have hE':=zlL (d':=addW d (s,i,data)) hap ho' rfl
    rw [zok] at hE'
    unfold devB at hp2
    refine r3_ ?_
    refine ARun.store1 rfl rfl zc2 (zc7 _ _) (hp2 _) (show 2<5 from by decide) (zeB _ _) ?_
    try simp only [k_ms,k_sz,k_ss,k_za,Nat.reduceAdd]
    refine r2_ ?_
    refine AWP.less (devM S p (addW d (s,i,data)) oE o') (by rw [← hE'];unfold devB;rw [ze1];exact Mem.Less.refl _) ?_
    have hp3:=hdc o'
    have hokk:∀ d',d'.waits=(addW d (s,i,data)).waits→d'.ext=d.ext→OkV S p d' oE o':=fun d' e1 e2=>zfD (zgk hap ho') (zqa hft ho' (by rw [e1,ze1]) e2)
    unfold devB at hp3
    simp only [show (addW d (s,i,data)).size=d.size from rfl,show (addW d (s,i,data)).fuse=d.fuse from rfl,show (addW d (s,i,data)).down=d.down from rfl] at hp3
    have hfu:(addW d (s,i,data)).fuse=d.fuse:=rfl
    generalize hM2:devM S p (addW d (s,i,data)) oE o'=M2 at *
    unfold fuseD
    rw [hfu]
    by_cases q4:d.fuse=0
    ·rw [if_pos q4]
     refine r13_ ?_
     refine zdG 0 1 2 3 8 10 19 21 25 48 ?_
     refine cT_ ?_
     refine r6_ ?_
     refine ARun.store1 rfl rfl zeV rfl hp3 (show 4<5 from by decide) rfl ?_
     try simp only [k_ms,k_sz,k_ss,k_za,Nat.reduceAdd]
     refine r10_ ?_
     refine ⟨_,devM S p { addW d (s,i,data) with down:=true } oE o',⟨_,_,rfl,rfl,rfl⟩,(by rw [← hM2];unfold devM;rw [Mem.set_set];exact Mem.Less.refl _),?_⟩
     exact ⟨oE,o',hokk _ rfl rfl,rfl,rfl⟩
    ·rw [if_neg q4]
     by_cases q5:0<d.fuse
     ·rw [if_pos q5]
      refine r13_ ?_
      refine cF_ ?_
      refine r11_ ?_
      refine cT_ ?_
      refine r10_ ?_
      refine ARun.store1 rfl rfl zb0 rfl hp3 (show 3<5 from by decide) rfl ?_
      try simp only [k_ms,k_sz,k_ss,k_za,Nat.reduceAdd]
      refine r9_ ?_
      refine ⟨_,devM S p { addW d (s,i,data) with fuse:=d.fuse-1 } oE o',⟨_,_,rfl,rfl,rfl⟩,(by rw [← hM2];unfold devM;rw [Mem.set_set];exact Mem.Less.refl _),?_⟩
      exact ⟨oE,o',hokk _ rfl rfl,rfl,rfl⟩
     ·rw [if_neg q5]
      refine r13_ ?_
      refine zdG 0 1 2 3 8 10 19 21 25 48 ?_
      refine cF_ ?_
      refine r11_ ?_
      refine cF_ ?_
      refine r9_ ?_
      refine ⟨_,devM S p (addW d (s,i,data)) oE o',⟨_,_,rfl,rfl,rfl⟩,(by rw [← hM2];exact Mem.Less.refl _),?_⟩
      exact ⟨oE,o',hokk _ rfl rfl,rfl,rfl⟩
  ·rw [if_pos q2]
   refine k_E4 (rs:=[.tmp 8]) 75 Tryz.func41 rfl rfl rfl ?_
   refine r11_ ?_
   refine ca_ rfl (hpl) ?_
   rintro _ S1 ⟨rfl,h1⟩
   rw [h1];clear h1 S1
   refine r13_ ?_
   refine cF_ ?_
   refine r12_ ?_
   refine cT_ ?_
   refine r8_ ?_
   refine ⟨_,M,⟨_,_,rfl,rfl,rfl⟩,zad,?_⟩
   exact ⟨oE,oW,hok,rfl,hM.symm⟩
 ·rw [if_pos q1]
  have hp1:(placeD d s i).2=1∨(placeD d s i).2=3:=by
   unfold placeD at q1 ⊢;repeat' split
   all_goals simp_all
  refine k_E4 (rs:=[.tmp 8]) 75 Tryz.func41 rfl rfl rfl ?_
  refine r11_ ?_
  refine ca_ rfl (hpl) ?_
  rintro _ S1 ⟨rfl,h1⟩
  rw [h1];clear h1 S1
  refine r7_ ?_
  refine k_v6 0 1 2 3 8 10 ?_
  refine r6_ ?_
  refine cT_ ?_
  refine r8_ ?_
  refine ⟨_,M,⟨_,_,rfl,rfl,rfl⟩,zad,?_⟩
  exact ⟨oE,oW,hok,rfl,hM.symm⟩
end
section
open Go.RowKit
open Mv Disk
set_option maxRecDepth 4000
theorem zeC {α : Type} {n:Nat} {f : α→List Value} (hn:∀ x,(f x).length=n) (l:List α) (k:Nat) (y : α) (h:k<l.length) (q:Nat) (v:Value) (hq:q<n) (he:(f l[k]).set q v=f y):(l.flatMap f).set (k*n+q) v=(l.set k y).flatMap f:=by
 have e1:l=l.take k ++ l[k] :: l.drop (k+1):=by rw [← zcA h,List.take_append_drop]
 have e2:l.set k y=l.take k ++ y :: l.drop (k+1):=by rw [List.set_eq_take_append_cons_drop,if_pos h]
 rw [e2]
 conv=>lhs;rw [e1]
 rw [List.flatMap_append,List.flatMap_append,List.flatMap_cons,List.flatMap_cons]
 have hl:=zaq hn (l.take k)
 rw [List.length_take,Nat.min_eq_left (Nat.le_of_lt h)] at hl
 rw [List.set_append_right _ _ (by omega),List.set_append_left _ _ (by rw [hn];omega),show k*n+q-(List.flatMap f (List.take k l)).length=q from by omega,he]
theorem zgm {S:Mem} {b o:Nat} {cs:List Value} (h:S.Knows ⟨b,o,none⟩ cs) (k:Nat) {v:Value} (hk:cs[k]?=some v):S.Knows ⟨b,o+k,none⟩ [v]:=fun w hv j u hj=>by
 cases j with
 | zero =>
  simp only [List.getElem?_cons_zero,Option.some.injEq] at hj
  subst hj
  have:=h w hv k v hk
  rw [zaz] at this ⊢;exact this
 | succ j=>simp at hj
theorem zol {S:Mem} {p:Nat} {d:D} {b c:Nat} {oW:Option (Nat × Nat)} (h:OkV S p d (some (b,c)) oW):(devM S p d (some (b,c)) oW).own b=some ⟨extT,d.ext.flatMap extF,c*2⟩:=by
 rw [zcc,← zg6 h.apart];exact Mem.own_set_same _ _ _
theorem zom {S:Mem} {p:Nat} {d d':D} {b c:Nat} {oW:Option (Nat × Nat)} (h:OkV S p d (some (b,c)) oW) (hw:d'.waits=d.waits) (hl:d'.ext.length=d.ext.length) (h1:d'.size=d.size) (h2:d'.fuse=d.fuse) (h3:d'.down=d.down):(devM S p d (some (b,c)) oW).set b ⟨extT,d'.ext.flatMap extF,c*2⟩=devM S p d' (some (b,c)) oW∧OkV S p d' (some (b,c)) oW:=by
 have hf:=h.fits
 have e:devB d (some (b,c)) oW=devB d' (some (b,c)) oW:=by unfold devB;rw [hw,hl,h1,h2,h3]
 refine ⟨?_,zfD h.apart ⟨(fun x=>by cases x),fun x=>by rw [hw];exact hf.w0 x,fun b c x=>by rw [hl];exact hf.e b c x,fun b c x=>by rw [hw];exact hf.w b c x⟩⟩
 rw [zcc,zcc,← zg6 h.apart,← zg6 h.apart,e]
 unfold baseE
 rw [hw]
 exact Mem.set_set _ _ _ _
end
section
open Go.RowKit
open Mv Disk
set_option maxRecDepth 4000
theorem ziq {d:D} (hR:Right d) (s:ByteArray) (i:Int) (data:ByteArray):(writeD d s i data).1.ext.length≤9223372036854775807∧(writeD d s i data).1.waits.length≤9223372036854775807:=by
 have h:=zaC hR
 have h2:=hR.wl
 have h3:=ze1 d (s,i,data)
 unfold writeD fuseD
 repeat' split
 ·exact h
 ·exact h
 ·exact h
 all_goals exact ⟨h.1,by simp only;omega⟩
end
section
open Go.RowKit
namespace Disk
open Mv
def putS (x:ByteArray) (w:Wr):ByteArray:=bs (x.data.toList.take (64*w.2.1.toNat) ++ w.2.2.data.toList ++ x.data.toList.drop (64*w.2.1.toNat+64))
theorem zlR {x:ByteArray} {w:Wr} (h1:64*w.2.1.toNat+64≤x.size) (h2:w.2.2.size=64):(putS x w).size=x.size:=by
 unfold putS
 rw [zaD]
 simp only [List.length_append,List.length_take,List.length_drop,zaT,h2]
 omega
def accW (kp:Nat→Bool) (x:Ext) (l:List Wr):Nat→Option ByteArray
  | 0=>none
  | n+1=>match l[n]? with
    | some w=>if w.1=x.1∧kp n=true then some (putS ((accW kp x l n).getD x.2) w) else accW kp x l n
    | none=>accW kp x l n
theorem ze2 (kp:Nat→Bool) (x:Ext) (l:List Wr) (n:Nat) (h:n<l.length):accW kp x l (n+1)=if l[n].1=x.1∧kp n=true then some (putS ((accW kp x l n).getD x.2) l[n]) else accW kp x l n:=by
 rw [accW,List.getElem?_eq_getElem h]
def Fit (x:Ext) (l:List Wr):Prop:=∀ w ∈ l,w.1=x.1→0≤w.2.1∧64*w.2.1.toNat+64≤x.2.size∧w.2.2.size=64
theorem zeD {kp:Nat→Bool} {x:Ext} {l:List Wr} (hf:Fit x l):∀ n,n≤l.length→((accW kp x l n).getD x.2).size=x.2.size
 | 0,_=>rfl
 | n+1,h=>by
  have ih:=zeD (kp:=kp) hf n (by omega)
  rw [ze2 kp x l n (by omega)]
  split
  ·rename_i hc
   obtain ⟨_,h1,h2⟩:=hf _ (List.getElem_mem (by omega:n<l.length)) hc.1
   simp only [Option.getD_some]
   rw [zlR (by rw [ih];exact h1) h2];exact ih
  ·exact ih
def doneX (kp:Nat→Bool) (l:List Wr) (x:Ext):Ext:=(x.1,(accW kp x l l.length).getD x.2)
def settleD (d:D) (kp:Nat→Bool):D:={ d with ext:=d.ext.map (doneX kp d.waits),waits:=[] }
def mixE (kp:Nat→Bool) (w:List Wr) (l:List Ext) (i:Nat):List Ext:=(l.take i).map (doneX kp w) ++ l.drop i
theorem zon (kp:Nat→Bool) (w:List Wr) (l:List Ext) (i:Nat):(mixE kp w l i).length=l.length:=by unfold mixE;simp;omega
theorem zhd (kp:Nat→Bool) (w:List Wr) (l:List Ext):mixE kp w l 0=l:=by simp [mixE]
theorem zjp (kp:Nat→Bool) (w:List Wr) (l:List Ext):mixE kp w l l.length=l.map (doneX kp w):=by simp [mixE]
theorem zlS (kp:Nat→Bool) (w:List Wr) (l:List Ext) (i:Nat) (h:i<l.length):mixE kp w l i=(l.take i).map (doneX kp w) ++ l[i] :: l.drop (i+1):=by unfold mixE;rw [List.drop_eq_getElem_cons h]
theorem zoo (kp:Nat→Bool) (w:List Wr) (l:List Ext) (i:Nat) (h:i<l.length) (h':i<(mixE kp w l i).length):(mixE kp w l i)[i]=l[i]:=by
 simp only [zlS kp w l i h]
 rw [List.getElem_append_right (by simp;omega)]
 simp [Nat.min_eq_left (Nat.le_of_lt h)]
theorem zlT (kp:Nat→Bool) (w:List Wr) (l:List Ext) (i:Nat) (h:i<l.length):mixE kp w l (i+1)=(mixE kp w l i).set i (doneX kp w l[i]):=by
 rw [zlS kp w l i h,List.set_append_right _ _ (by simp;omega)]
 unfold mixE
 rw [zbI h,List.map_append,List.append_assoc,List.length_map,List.length_take,Nat.min_eq_left (Nat.le_of_lt h),Nat.sub_self]
 rfl
theorem ze3 {d:D} (h:Right d) {x:Ext} (hx:x ∈ d.ext):Fit x d.waits:=fun w hw e=>by
 obtain ⟨y,hy,e2,h0,h1,h2⟩:=h.wr w hw
 have:y=x:=zlx h.ex.asc hy hx (e2.trans e)
 subst this
 have:=(zcQ (h.ex.ok y hy)).2
 exact ⟨h0,by omega,h2⟩
end Disk
end
section
open Go.RowKit
open Mv Disk
set_option maxRecDepth 4000
section
variable {P:Program} {N:Nat} {ops:Array Oper} {E:Env} {S:Mem} {K:Env→Mem→Prop}
variable {ty:TypeId} {pos:String} {aft:Array Edge} {gd:Option (Nat × Bool)}
theorem Mv.ARun.copyStr {os:List Oper} {T T2 e:TypeId} {y:Nat} {z:List Value} {x1 x2:Operand} {b o k c d:Nat} {r:Blk} {t:ByteArray} (hn:d<N) (hT:slT P T=some (e,1,y,z))
  (hx:ev E x1=some (.slice (some ⟨b,o,none⟩) k c)) (hb:S.own b=some r) (hy:ev E x2=some (.string t)) (hle:t.size≤k) (ho:o+t.size≤r.cells.length)
  (h:ARun P N ops os K ((d,.int .i64 (t.size:Int)) :: E) (S.set b ⟨r.elem,spl r.cells o (cellsB t.data.toList),r.room⟩)) :
  ARun P N ops (⟨some d,.call ⟨.builtin .copy,#[x1,x2],#[T,T2]⟩,ty,pos,aft,none⟩ :: os) K E S:=fun a w g hv=>by
 rw [if_pos (by simp [Region.wanted])]
 obtain ⟨hu,i,v,e1,e2,e3,e4,e5⟩:=zaH hT
 have hex:(execOp a.eval ⟨some d,.call ⟨.builtin .copy,#[x1,x2],#[T,T2]⟩,ty,pos,aft,none⟩).run P w=((Builtin.copy_ #[T,T2] ty #[.slice (some ⟨b,o,none⟩) k c,.string t]).run P w).andThen fun v w'=>.ok (.value v) w':=by
  simp [execOp,resolve,invoke,builtin,g.ev hx,g.ev hy]
 unfold Oper.wp
 rw [hex]
 obtain ⟨cur,fz,k1,k2,k3,k4⟩:=hv.own b r hb
 have hcur:r.cells.length≤cur.size:=by have:=k2.length_le;simpa using this
 have hl:(cellsB t.data.toList).length=t.size:=by rw [zav,zaT]
 obtain ⟨q1,q2⟩:=za5 (P:=P) hv hb (vs:=cellsB t.data.toList) (o:=o) (by omega) (.inl (by rw [hl];exact ho)) (fun v hv=>by
  obtain ⟨x,_,rfl⟩:=List.mem_map.1 hv
  rfl)
 have hr:=run_copy_string (P:=P) w T T2 ty e b o k c t hu (fun w=>by simp [Go.sizeOf,typeInfo,e1,e3]) hle
  (fun j hj=>by simp [World.cell?,k1];omega) (fun j hj=>by have:=k4 (o+j) (.inl (by omega));simpa [World.frozen?,k1] using this)
 rw [hr]
 exact ⟨_,_,h,g.put hn _,q2⟩
end
theorem zlU {l t:List UInt8} {k:Nat} (h:k+t.length≤l.length):spl (cellsB l) k (cellsB t)=cellsB (l.take k ++ t ++ l.drop (k+t.length)):=by
 unfold spl cellsB
 simp only [List.map_append,List.map_take,List.map_drop,List.length_map]
theorem zfE {x:ByteArray} {w:Wr} (h:64*w.2.1.toNat+64≤x.size) (h2:w.2.2.size=64):spl (cellsB x.data.toList) (0+64*w.2.1.toNat*1) (cellsB w.2.2.data.toList)=cellsB (putS x w).data.toList:=by
 rw [show 0+64*w.2.1.toNat*1=64*w.2.1.toNat from by omega,zlU (by rw [zaT,zaT,h2];exact h),zaT,h2]
 unfold putS;rfl
end
end Go.Proofs.YtoaoibeobhcgmaaGreatDoor
