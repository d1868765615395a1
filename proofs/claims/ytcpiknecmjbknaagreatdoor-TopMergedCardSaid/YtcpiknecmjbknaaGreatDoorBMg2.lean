/-
  Texts that belong together: MemN, DiskMath, Types, Disk1, Disk2, DiskMath2, Disk3, Disk4, Disk5, Disk6, Disk7, Disk8, Shelf, Disk9, Disk10, Disk11, Disk12, Disk13, Disk14, Disk15, Disk16, Disk17, DiskMath3, Disk18, Disk19, Disk20.
-/
import Derived.Test.YtcpiknecmjbknaaGreatDoorBMg1
import Derived.Lib.Overlaps
import Derived.Shelf.Strings.Builder1
import Derived.Shelf.Small.Bits
import Derived.Shelf.Bits.Mul64
import Derived.Shelf.Strings.Repeat
import Derived.Test.YtcpiknecmjbknaaGreatDoorProg
set_option linter.unusedVariables false
set_option linter.unusedSimpArgs false
set_option linter.unusedSectionVars false
namespace Go.Proofs.YtcpiknecmjbknaaGreatDoor
section
open Go.RowKit
namespace Mv
/-! ### Less is known of blocks -/
def Mem.Shr (S' S:Mem):Prop:=(∀ b r',S'.own b=some r' → ∃ r,S.own b=some r∧r.elem=r'.elem∧r'.cells <+: r.cells∧r'.room≤r.room)∧S'.ro=S.ro
theorem View.shr {S S':Mem} {w:World} (h:View S w) (hl:S'.Shr S):View S' w :=
 ⟨fun b r' hb=>by
  obtain ⟨r,h1,h2,h3,h4⟩:=hl.1 b r' hb
  obtain ⟨cur,fz,e1,e2,e3,e4⟩:=h.own b r h1
  exact ⟨cur,fz,by rw [← h2];exact e1,h3.trans e2,Nat.le_trans h4 e3,by rw [← h2];exact e4⟩,fun a v ha=>by
  rw [hl.2] at ha
  refine ⟨(h.ro a v ha).1,?_⟩
  cases e:S'.own a.block with
  | none=>rfl
  | some r =>
   obtain ⟨r0,h1,_⟩:=hl.1 _ _ e
   (rw [(h.ro a v ha).2] at h1;cases h1),h.fzOf hl.2 (fun k hk _=>by
  cases e:S'.own k with
  | none=>rfl
  | some r =>
   obtain ⟨r0,h1,_⟩:=hl.1 _ _ e
   rw [hk] at h1;cases h1) fun _ _ _=>rfl⟩
theorem Step.shrL {S S0 S':Mem} {w w':World} (h:Step S0 w S' w') (hl:S0.Shr S) (hs:∀ k,S.own k≠none→S0.own k≠none):Step S w S' w' :=
 ⟨h.view,h.os,h.tape,h.output,h.size,fun k hk hn=>h.block k hk (by
  cases e:S0.own k with
  | none=>rfl
  | some r=>obtain ⟨r0,h1,_⟩:=hl.1 _ _ e;rw [hn] at h1;cases h1),fun k hk=>by
  rcases h.dom k hk with x | x
  ·left
   intro e
   cases e0:S0.own k with
   | none=>exact x e0
   | some r=>obtain ⟨r0,h1,_⟩:=hl.1 _ _ e0;rw [e] at h1;cases h1
  ·exact .inr x,fun a v hv=>by
  rcases h.ro a v hv with x | x | x
  ·exact .inl (by rw [← hl.2];exact x)
  ·refine .inr (.inl fun e=>?_)
   cases e0:S0.own a.block with
   | none=>exact x e0
   | some r=>obtain ⟨r0,h1,_⟩:=hl.1 _ _ e0;rw [e] at h1;cases h1
  ·exact .inr (.inr x)⟩
theorem shr_set {S:Mem} {b:Nat} {e:TypeId} {cs cs':List Value} {m m':Nat} (h:cs' <+: cs) (hm:m'≤m):(S.set b ⟨e,cs',m'⟩).Shr (S.set b ⟨e,cs,m⟩) :=
 ⟨fun k r' hk=>by
  by_cases x:k=b
  ·subst x
   rw [Mem.own_set_same] at hk ⊢
   cases hk
   exact ⟨_,rfl,rfl,h,hm⟩
  ·rw [Mem.own_set_other _ _ x] at hk ⊢
   exact ⟨r',hk,rfl,List.prefix_rfl,Nat.le_refl _⟩,rfl⟩
theorem dom_set {S:Mem} {b:Nat} {r r':Blk}:∀ k,(S.set b r).own k≠none→(S.set b r').own k≠none:=fun k hk=>by
 by_cases x:k=b
 ·subst x;rw [Mem.own_set_same];simp
 ·rw [Mem.own_set_other _ _ x] at hk ⊢;exact hk
theorem AWP.cut {P:Program} {N:Nat} {c:Code} {Q:Exit→Env→Mem→Prop} {E:Env} {S:Mem} {b:Nat} {e:TypeId} {cs cs':List Value} {m m':Nat} (h:cs' <+: cs) (hm:m'≤m) (hA:AWP P N c Q E (S.set b ⟨e,cs',m'⟩)):AWP P N c Q E (S.set b ⟨e,cs,m⟩):=fun a w hg hv =>
 wp_mono (hA a w hg (hv.shr (shr_set h hm))) fun _ _ _ ⟨E',S',hq,hg',hs⟩=>⟨E',S',hq,hg',hs.shrL (shr_set h hm) dom_set⟩
def outN (n:Nat) (S:Mem) (o:Option (Nat × Nat)) (e:TypeId) (cs:List Value):Mem:=match o with
  | none=>S
  | some (b,c)=>S.set b ⟨e,cs,c*n⟩
theorem outN_over {n:Nat} {S:Mem} {o:Option (Nat × Nat)} {k:Nat} {e:TypeId} {cs:List Value} (h:OkO S o k):S.Less (outN n S o e cs):=by
 cases o with
 | none=>exact Mem.Less.refl _
 | some q=>exact Mem.less_set _ _ _ (h.own q.1 q.2 rfl).1.1
theorem fresh_outN {n:Nat} {S:Mem} {o:Option (Nat × Nat)} {e:TypeId} {cs:List Value} {b:Nat} (h:Fresh (outN n S o e cs) b):Fresh S b ∧ ∀ q c,o=some (q,c)→b≠q:=by
 cases o with
 | none=>exact ⟨h,fun q c x=>by cases x⟩
 | some q=>obtain ⟨h1,h2⟩:=fresh_set h;exact ⟨h1,fun q' c x=>by cases x;exact h2⟩
section
variable {P:Program} {N:Nat} {ops:Array Oper} {E:Env} {S:Mem} {K:Env→Mem→Prop}
variable {ty:TypeId} {pos:String} {aft:Array Edge} {gd:Option (Nat × Bool)}
theorem ARun.appendRunK {os:List Oper} {T e:TypeId} {n y:Nat} {z:List Value} {x1 x2:Operand} {b k c:Nat} {xs news:List Value} {a2:Addr} {m c2 d:Nat} (hn:d<N) (hT:slT P T=some (e,n,y,z)) (hz:z.length=n)
  (hx:ev E x1=some (.slice (some ⟨b,0,none⟩) k c)) (hb:S.own b=some ⟨e,xs,c*n⟩) (hxs:xs.length=k*n)
  (hy:ev E x2=some (.slice (some a2) m c2)) (hnews:S.Knows a2 news) (hnl:news.length=m*n) (h1:∀ v ∈ news,v.oneCell'=true) (hfit:(k+m)*y≤140737488355328) (h63:k+m≤9223372036854775807)
  (h:∀ b' c',Fresh (S.del b) b'→k+m≤c'→ARun P N ops os K ((d,.slice (some ⟨b',0,none⟩) (k+m) c') :: E) ((S.del b).set b' ⟨e,xs ++ news,c'*n⟩)) :
  ARun P N ops (⟨some d,.call ⟨.builtin .append,#[x1,x2],#[T,T]⟩,ty,pos,aft,none⟩ :: os) K E S:=fun a w g hv=>by
 rw [if_pos (by simp [Region.wanted])]
 obtain ⟨hu,i,v,e1,e2,rfl,rfl,rfl⟩:=slT_spec hT
 have hz':v.cells.size=i.size:=by simpa using hz
 have hex:(execOp a.eval ⟨some d,.call ⟨.builtin .append,#[x1,x2],#[T,T]⟩,ty,pos,aft,none⟩).run P w=((Builtin.append_ #[T,T] ty #[.slice (some ⟨b,0,none⟩) k c,.slice (some a2) m c2]).run P w).andThen fun v w'=>.ok (.value v) w':=by
  simp [execOp,resolve,invoke,builtin,g.ev hx,g.ev hy]
 unfold Oper.wp
 rw [hex]
 by_cases hroom:k+m≤c
 ·obtain ⟨q1,q2⟩:=store_cells (P:=P) hv hb (vs:=news) (o:=k*i.size) (by simp [hxs]) (.inr (by simp only [hnl];rw [← Nat.add_mul];exact Nat.mul_le_mul_right _ hroom)) h1
  have hf:=run_firstCells_some (P:=P) w i.size m a2 m c2 news hnl (fun j u hj=>hnews w hv j u hj)
  have hr:(Builtin.append_ #[T,T] ty #[.slice (some ⟨b,0,none⟩) k c,.slice (some a2) m c2]).run P w = .ok (.slice (some ⟨b,0,none⟩) (k+m) c) (w.setCells b (k*i.size) news):=by
   simp [Builtin.append_,run_underlying hu,sizeOf,typeInfo,e1,Builtin.lenOf,hroom,hf,addr_add,q1]
  rw [hr]
  have hsp:spl xs (k*i.size) news=xs ++ news:=by
   unfold spl
   rw [List.take_of_length_le (by omega),List.drop_of_length_le (by omega),List.append_nil]
  simp only [hsp] at q2
  refine ⟨_,_,h b c (fresh_del (fun a v ha=>(hv.ro a v ha).2) hb) hroom,g.put hn _,?_⟩
  rw [del_set];exact q2
 ·have hfit':Builtin.nextslicecap (k+m) c*i.bytes≤281474976710656:=growslice_fits (by omega) hfit
  have hr:=run_append_grow (P:=P) w T ty e i v hu e1 e2 ⟨b,0,none⟩ k c xs hxs (fun j u hj=>hv.rd (by rw [addr_add,Nat.zero_add,rd_own hb];exact hj)) a2 m c2 news hnl (fun j u hj=>hnews w hv j u hj) (by omega) (by omega) hfit'
  rw [hr]
  have hge:=grownCap_ge w (k+m) c e
  have hvd:View S w.drew:=hv.drawn _
  have hst:=Step.allocP hvd e (xs.toArray ++ news.toArray ++ Builtin.zeroCells v.cells (grownCap w (k+m) c e-(k+m))) (xs ++ news) (grownCap w (k+m) c e*i.size) (by simp [List.append_assoc]) (by
   simp only [Array.size_append,List.size_toArray,size_zeroCells,hz',hxs,hnl,← Nat.add_mul]
   exact Nat.mul_le_mul_right _ (by omega))
  refine ⟨_,_,h w.heap.size (grownCap w (k+m) c e) (hv.freshAt.less (Less.del S b)) hge,g.put hn _,?_⟩
  exact ((Step.drawn hv _).trans hst).less (less_del S b _ _)
theorem ARun.appendNilK {os:List Oper} {T e:TypeId} {n y:Nat} {z:List Value} {x1 x2:Operand} {news:List Value} {a2:Addr} {m c2 d:Nat} (hn:d<N) (hT:slT P T=some (e,n,y,z)) (hz:z.length=n)
  (hx:ev E x1=some (.slice none 0 0)) (hy:ev E x2=some (.slice (some a2) m c2)) (hnews:S.Knows a2 news) (hnl:news.length=m*n) (hm:0<m) (hfit:m*y≤140737488355328) (h63:m≤9223372036854775807)
  (h:∀ b' c',Fresh S b'→m≤c'→ARun P N ops os K ((d,.slice (some ⟨b',0,none⟩) m c') :: E) (S.set b' ⟨e,news,c'*n⟩)) :
  ARun P N ops (⟨some d,.call ⟨.builtin .append,#[x1,x2],#[T,T]⟩,ty,pos,aft,none⟩ :: os) K E S:=fun a w g hv=>by
 rw [if_pos (by simp [Region.wanted])]
 obtain ⟨hu,i,v,e1,e2,rfl,rfl,rfl⟩:=slT_spec hT
 have hz':v.cells.size=i.size:=by simpa using hz
 have hex:(execOp a.eval ⟨some d,.call ⟨.builtin .append,#[x1,x2],#[T,T]⟩,ty,pos,aft,none⟩).run P w=((Builtin.append_ #[T,T] ty #[.slice none 0 0,.slice (some a2) m c2]).run P w).andThen fun v w'=>.ok (.value v) w':=by
  simp [execOp,resolve,invoke,builtin,g.ev hx,g.ev hy]
 unfold Oper.wp
 rw [hex,run_append_nil (P:=P) w T ty e i v hu e1 e2 a2 m c2 news hnl (fun j u hj=>hnews w hv j u hj) hm (by omega) (by omega)]
 have hge:=grownCap_ge w m 0 e
 have hvd:View S w.drew:=hv.drawn _
 have hst:=Step.allocP hvd e (news.toArray ++ Builtin.zeroCells v.cells (grownCap w m 0 e-m)) news (grownCap w m 0 e*i.size) (by simp) (by
  simp only [Array.size_append,List.size_toArray,size_zeroCells,hz',hnl,← Nat.add_mul]
  exact Nat.mul_le_mul_right _ (by omega))
 exact ⟨_,_,h w.heap.size (grownCap w m 0 e) hv.freshAt hge,g.put hn _,(Step.drawn hv _).trans hst⟩
theorem ARun.copyK {os:List Oper} {T T2 e:TypeId} {n y:Nat} {z:List Value} {x1 x2:Operand} {b o k c:Nat} {r:Blk} {news:List Value} {a2:Addr} {m c2 q d:Nat} (hn:d<N) (hT:slT P T=some (e,n,y,z))
  (hx:ev E x1=some (.slice (some ⟨b,o,none⟩) k c)) (hb:S.own b=some r) (ho:o≤r.cells.length)
  (hy:ev E x2=some (.slice (some a2) m c2)) (hq:q=min m k) (hnews:S.Knows a2 news) (hnl:news.length=q*n) (h1:∀ v ∈ news,v.oneCell'=true) (hfit:o+news.length≤r.cells.length∨o+news.length≤r.room)
  (h:ARun P N ops os K ((d,.int .i64 (q:Int)) :: E) (S.set b ⟨r.elem,spl r.cells o news,r.room⟩)) :
  ARun P N ops (⟨some d,.call ⟨.builtin .copy,#[x1,x2],#[T,T2]⟩,ty,pos,aft,none⟩ :: os) K E S:=fun a w g hv=>by
 rw [if_pos (by simp [Region.wanted])]
 obtain ⟨hu,i,v,e1,e2,rfl,rfl,rfl⟩:=slT_spec hT
 have hex:(execOp a.eval ⟨some d,.call ⟨.builtin .copy,#[x1,x2],#[T,T2]⟩,ty,pos,aft,none⟩).run P w=((Builtin.copy_ #[T,T2] ty #[.slice (some ⟨b,o,none⟩) k c,.slice (some a2) m c2]).run P w).andThen fun v w'=>.ok (.value v) w':=by
  simp [execOp,resolve,invoke,builtin,g.ev hx,g.ev hy]
 unfold Oper.wp
 rw [hex]
 obtain ⟨q1,q2⟩:=store_cells (P:=P) hv hb (vs:=news) (o:=o) ho hfit h1
 have hf:=run_firstCells_some (P:=P) w i.size q a2 m c2 news hnl (fun j u hj=>hnews w hv j u hj)
 have hq':Nat.min m k=q:=hq.symm
 have hr:(Builtin.copy_ #[T,T2] ty #[.slice (some ⟨b,o,none⟩) k c,.slice (some a2) m c2]).run P w = .ok (.int .i64 (q:Int)) (w.setCells b o news):=by
  simp [Builtin.copy_,run_underlying hu,sizeOf,typeInfo,e1,Builtin.lenOf,hq',hf,q1,goInt]
 rw [hr]
 exact ⟨_,_,h,g.put hn _,q2⟩
theorem Calm.cap {T e:TypeId} {x:Operand} {a:Option Addr} {k c:Nat} {dst:Option Nat} (hT:P.underlying T=some (.slice e)) (hx:ev E x=some (.slice a k c)):ACalm P N ⟨dst,.call ⟨.builtin .cap,#[x],#[T]⟩,ty,pos,aft,gd⟩ E S (.int .i64 (c:Int)):=fun ac w g hv=>by
 simp [execOp,resolve,invoke,builtin,g.ev hx,Builtin.cap_,run_underlying hT,goInt]
end
/-! ### Appending to a slice of one's own -/
def Src (M:Mem) (v:Value) (m:Nat) (news:List Value):Prop:=∃ A c,v = .slice A m c∧(m=0 ∨ ∃ a,A=some a∧M.Knows a news)
theorem Src.less {M M':Mem} {v:Value} {m:Nat} {news:List Value} (h:Src M v m news) (hl:M.Less M'):Src M' v m news:=by
 obtain ⟨A,c,e,h⟩:=h
 exact ⟨A,c,e,h.imp id fun ⟨a,e2,k⟩=>⟨a,e2,k.less hl⟩⟩
theorem flat_length {α : Type} {n:Nat} {f : α→List Value} (hn:∀ x,(f x).length=n) (l:List α):(l.flatMap f).length=l.length*n:=by
 induction l with
 | nil=>simp
 | cons x l ih=>rw [List.flatMap_cons,List.length_append,hn,ih,List.length_cons,Nat.succ_mul,Nat.add_comm]
theorem flat_split {α : Type} {n:Nat} {f : α→List Value} (hn:∀ x,(f x).length=n):∀ (l:List α) (j:Nat) (v:Value),(l.flatMap f)[j]?=some v → ∃ (i q:Nat) (h:i<l.length),j=i*n+q∧q<n∧(f l[i])[q]?=some v
 | [],j,v,h=>by simp at h
 | x :: l,j,v,h=>by
  rw [List.flatMap_cons] at h
  by_cases hj:j<(f x).length
  ·rw [List.getElem?_append_left hj] at h
   rw [hn] at hj
   exact ⟨0,j,by simp,by omega,hj,h⟩
  ·rw [List.getElem?_append_right (by omega)] at h
   rw [hn] at hj h
   obtain ⟨i,q,hi,e,hq,hv⟩:=flat_split hn l (j-n) v h
   exact ⟨i+1,q,by simpa using hi,by rw [Nat.succ_mul];omega,hq,by simpa using hv⟩
theorem Sl.allN {α : Type} {n:Nat} {f : α→List Value} (hn:∀ x,(f x).length=n) {S:Mem} {b off:Nat} {len cap:Nat} {l:List α} (h:Sl n f S (.slice (some ⟨b,off,none⟩) len cap) l):S.Knows ⟨b,off,none⟩ (l.flatMap f):=fun w hv j v hj=>by
 obtain ⟨i,q,hi,rfl,hq,hx⟩:=flat_split hn l j v hj
 have:=h.at1 i hi w hv q v hx
 rw [addr_add] at this ⊢
 rw [← this];congr 2;omega
theorem Sl.src {α : Type} {n:Nat} {f : α→List Value} (hn:∀ x,(f x).length=n) {S:Mem} {v:Value} {l:List α} (h:Sl n f S v l):Src S v l.length (l.flatMap f):=by
 obtain ⟨a,c,rfl,_,_,h4⟩:=id h
 refine ⟨a,c,rfl,?_⟩
 rcases h4 with rfl | ⟨b,off,rfl,_⟩
 ·left;rfl
 ·right;exact ⟨_,rfl,Sl.allN hn h⟩
theorem src_own {S:Mem} {b c:Nat} {r:Blk} {news:List Value} {m:Nat} (h:S.own b=some r) (hc:news <+: r.cells):Src S (.slice (some ⟨b,0,none⟩) m c) m news:=⟨_,c,rfl,.inr ⟨_,rfl,(rds_prefix h hc).knows⟩⟩
structure AppN (n:Nat) (M S:Mem) (o:Option (Nat × Nat)) (e:TypeId) (cs:List Value):Prop where
  nil:o=none→cs = []∧S.Less M
  own:∀ b c,o=some (b,c)→M.own b=some ⟨e,cs,c*n⟩∧S.Less (M.del b)
theorem appN_self {n:Nat} {S:Mem} {o:Option (Nat × Nat)} {k:Nat} {e:TypeId} {cs:List Value} (h:OkO S o k) (hn:cs.length=k*n):AppN n (outN n S o e cs) S o e cs:=by
 refine ⟨fun ho=>?_,fun b c ho=>?_⟩
 ·subst ho
  exact ⟨List.eq_nil_of_length_eq_zero (by rw [hn,h.nil rfl,Nat.zero_mul]),Mem.Less.refl _⟩
 ·subst ho
  refine ⟨Mem.own_set_same _ _ _,?_⟩
  rw [show (outN n S (some (b,c)) e cs).del b=S from set_del_same' (del_base (h.own b c rfl).1)]
  exact Mem.Less.refl _
theorem AppN.temp {n:Nat} {M S:Mem} {o:Option (Nat × Nat)} {e:TypeId} {cs:List Value} {t:Nat} {r:Blk} (h:AppN n M S o e cs) (ht:Fresh M t):AppN n (M.set t r) S o e cs:=by
 refine ⟨fun ho=>⟨(h.nil ho).1,(h.nil ho).2.trans (Mem.less_set _ _ _ ht.1)⟩,fun b c ho=>?_⟩
 obtain ⟨h1,h2⟩:=h.own b c ho
 have hne:=ht.ne h1
 refine ⟨(Mem.own_set_other _ _ hne).trans h1,h2.trans ⟨fun k r' hk=>?_,rfl⟩⟩
 have hkb:k≠b:=fun e=>by subst e;simp [Mem.del] at hk
 rw [Mem.own_del_other _ hkb] at hk ⊢
 exact (Mem.own_set_other _ _ (Ne.symm (ht.ne' hk))).trans hk
section
variable {P:Program} {N:Nat} {ops:Array Oper} {E:Env} {S M:Mem} {K:Env→Mem→Prop}
variable {ty:TypeId} {pos:String} {aft:Array Edge} {gd:Option (Nat × Bool)}
theorem ARun.appendOK {os:List Oper} {T e:TypeId} {n y:Nat} {z:List Value} {x1 x2:Operand} {o:Option (Nat × Nat)} {k m d:Nat} {cs news:List Value} {v:Value} (hn:d<N) (hT:slT P T=some (e,n,y,z)) (hz:z.length=n)
  (hx:ev E x1=some (outV o k)) (hcs:cs.length=k*n) (hok:OkO S o k) (happ:AppN n M S o e cs) (hy:ev E x2=some v) (hv:Src M v m news) (hnl:news.length=m*n) (h1:∀ v ∈ news,v.oneCell'=true) (hfit:(k+m)*y≤140737488355328) (h63:k+m≤9223372036854775807)
  (h:∀ o',OkO S o' (k+m)→ARun P N ops os K ((d,outV o' (k+m)) :: E) (outN n S o' e (cs ++ news))) :
  ARun P N ops (⟨some d,.call ⟨.builtin .append,#[x1,x2],#[T,T]⟩,ty,pos,aft,none⟩ :: os) K E M:=by
 obtain ⟨A,c2,rfl,hv⟩:=hv
 by_cases hm:m=0
 ·subst hm
  obtain rfl:news = []:=List.eq_nil_of_length_eq_zero (by rw [hnl,Nat.zero_mul])
  have h2:=h o hok
  rw [Nat.add_zero,List.append_nil] at h2
  refine AOp.toLess (K:=fun E' S'=>ARun P N ops os K E' S') ?_
  cases o with
  | none =>
   have h0:=hok.nil rfl;subst h0
   exact ARun.appendNone (os:=[]) hn hT (Nat.le_refl 0) hx hy ⟨S,(happ.nil rfl).2,h2⟩
  | some q =>
   obtain ⟨b,c⟩:=q
   obtain ⟨p1,p2⟩:=happ.own b c rfl
   refine ARun.appendNone (os:=[]) hn hT (hok.own b c rfl).2 hx hy ⟨_,?_,h2⟩
   refine ⟨fun k' r hk=>?_,p2.2⟩
   by_cases ek:k'=b
   ·subst ek;rw [show (outN n S (some (k',c)) e cs).own k'=_ from Mem.own_set_same _ _ _] at hk;rw [p1];exact hk
   ·rw [show (outN n S (some (b,c)) e cs).own k'=_ from Mem.own_set_other _ _ ek] at hk
    have:=p2.1 _ _ hk
    rwa [Mem.own_del_other _ ek] at this
 ·obtain ⟨a2,rfl,hk⟩:=hv.resolve_left hm
  cases o with
  | none =>
   have h0:=hok.nil rfl;subst h0
   obtain ⟨q1,q2⟩:=happ.nil rfl
   subst q1
   refine AOp.toLess (K:=fun E' S'=>ARun P N ops os K E' S') ?_
   refine ARun.appendNilK (os:=[]) hn hT hz hx hy hk hnl (by omega) (by simpa using hfit) (by omega) fun b c hb hc=>?_
   refine ⟨S.set b ⟨e,news,c*n⟩,Less.set q2 _ _,?_⟩
   have:=h (some (b,c)) ⟨(fun x=>by cases x),fun b' c' x=>by cases x;exact ⟨hb.less q2,by omega⟩⟩
   simpa [outN,outV] using this
  | some q =>
   obtain ⟨b0,c0⟩:=q
   obtain ⟨q1,q2⟩:=happ.own b0 c0 rfl
   refine AOp.toLess (K:=fun E' S'=>ARun P N ops os K E' S') ?_
   refine ARun.appendRunK (os:=[]) hn hT hz hx q1 hcs hy hk hnl h1 hfit h63 fun b c hb hc=>?_
   refine ⟨S.set b ⟨e,cs ++ news,c*n⟩,Less.set q2 _ _,?_⟩
   exact h (some (b,c)) ⟨(fun x=>by cases x),fun b' c' x=>by cases x;exact ⟨hb.less q2,hc⟩⟩
end
theorem sl_outN {α : Type} {n:Nat} {f : α→List Value} (hn:∀ x,(f x).length=n) {S:Mem} {o:Option (Nat × Nat)} {e:TypeId} {l:List α} {k:Nat} (h:OkO S o k) (hl:l.length=k) (hm:k≤9223372036854775807):Sl n f (outN n S o e (l.flatMap f)) (outV o k) l:=by
 subst hl
 cases o with
 | none=>obtain rfl:l = []:=List.eq_nil_of_length_eq_zero (h.nil rfl);exact Sl.nil _ _ _
 | some q=>exact Sl.own (r:=⟨e,l.flatMap f,q.2*n⟩) (Mem.own_set_same _ _ _) hn List.prefix_rfl rfl (h.own _ _ rfl).2 hm
def OwnR {α : Type} (n:Nat) (f : α→List Value) (e:TypeId) (l:List α) (S:Mem) (r:Value) (S':Mem):Prop:=∃ o,OkO S o l.length∧r=outV o l.length∧S'=outN n S o e (l.flatMap f)
section
variable {P:Program} {N:Nat} {ops:Array Oper} {E:Env} {S:Mem} {K:Env→Mem→Prop}
variable {ty:TypeId} {pos:String} {aft:Array Edge} {gd:Option (Nat × Bool)}
theorem ARun.overlapsNo {os : List Oper} {f : FuncId} {fn : Func} {T tR e : TypeId} {n : Nat} {xs : List Operand} {ats : Array TypeId} {t b o1 o2 la ca lb cb d : Nat} {r r2 : Blk} (hn : d < N) (hf : P.funcs[f]? = some fn) (hname : (fn.name == "runtime.NumGoroutine") = false) (hb : fn.body.isNone = true)
  (hx':Extern.findNext fn=none) (he:Extern.find fn=some (Extern.SlicesOverlaps.overlaps #[T,T] #[tR])) (ht:P.underlying T=some (.slice e)) (hz:sizeT P e=some n) (hx:evs E xs=some [.slice (some ⟨t,o1,none⟩) la ca,.slice (some ⟨b,o2,none⟩) lb cb])
  (h1:S.own t=some r) (hne:r.elem≠5) (ho1:o1<r.cells.length) (h2:S.own b=some r2) (hr2:0<r2.cells.length) (htb:t≠b)
  (h:ARun P N ops os K ((d,.bool false) :: E) S):ARun P N ops (⟨some d,.call ⟨.value (.func f),xs.toArray,ats⟩,ty,pos,aft,none⟩ :: os) K E S:=fun a w g hv=>by
 rw [if_pos (by simp [Region.wanted])]
 unfold Oper.wp
 have hc:execOp a.eval ⟨some d,.call ⟨.value (.func f),xs.toArray,ats⟩,ty,pos,aft,none⟩=callFunc f #[.slice (some ⟨t,o1,none⟩) la ca,.slice (some ⟨b,o2,none⟩) lb cb]:=by
  rw [execOp_call_go]
  simp [g.evs hx]
 obtain ⟨cur,fz,e1,e2,e3,e4⟩:=hv.own t r h1
 obtain ⟨cur2,fz2,k1,k2,k3,k4⟩:=hv.own b r2 h2
 have hl1:r.cells.length≤cur.size:=by have:=e2.length_le;simpa using this
 have hl2:r2.cells.length≤cur2.size:=by have:=k2.length_le;simpa using this
 have hr:=Lib.run_overlaps_apart (P:=P) w T tR e ht n (fun w=>run_sizeT hz w) ⟨t,o1,none⟩ ⟨b,o2,none⟩ la ca lb cb htb r.elem r2.elem cur.size cur2.size (by simp [World.shape?,e1]) (by simp [World.shape?,k1]) (by omega)
  (by have:=e4 o1 (.inl (by omega));simpa [World.frozen?,e1] using this) (by have:=e4 cur.size (.inr ⟨rfl,hne⟩);simpa [World.frozen?,e1] using this)
 rw [hc,run_callFunc_extern hf hname hb hx' he,hr]
 exact ⟨_,_,h,g.put hn _,Step.refl hv⟩
theorem ARun.appendMake {os:List Oper} {T Ti e:TypeId} {n y:Nat} {z:List Value} {x1 x2:Operand} {k c m:Nat} {xs:List Value} {A:Addr} {d:Nat} (hn:d<N) (hT:slT P T=some (e,n,y,z)) (hz:z.length=n) (hTi:P.underlying Ti=some (.int .i64))
  (hx:ev E x1=some (.slice (some A) k c)) (hxs:xs.length=k*n) (hk:S.Knows A xs) (hy:ev E x2=some (.int .i64 (m:Int))) (hgrow:c<k+m) (hfit:(k+m)*y≤140737488355328) (h63:k+m≤9223372036854775807)
  (h:∀ b' c' zs,Fresh S b'→k+m≤c'→zs.length=m*n→ARun P N ops os K ((d,.slice (some ⟨b',0,none⟩) (k+m) c') :: E) (S.set b' ⟨e,xs ++ zs,c'*n⟩)) :
  ARun P N ops (⟨some d,.call ⟨.builtin .append,#[x1,x2],#[T,Ti]⟩,ty,pos,aft,none⟩ :: os) K E S:=fun a w g hv=>by
 rw [if_pos (by simp [Region.wanted])]
 obtain ⟨hu,i,v,e1,e2,rfl,rfl,rfl⟩:=slT_spec hT
 have hz':v.cells.size=i.size:=by simpa using hz
 have hex:(execOp a.eval ⟨some d,.call ⟨.builtin .append,#[x1,x2],#[T,Ti]⟩,ty,pos,aft,none⟩).run P w=((Builtin.append_ #[T,Ti] ty #[.slice (some A) k c,.int .i64 (m:Int)]).run P w).andThen fun v w'=>.ok (.value v) w':=by
  simp [execOp,resolve,invoke,builtin,g.ev hx,g.ev hy]
 unfold Oper.wp
 rw [hex]
 have hfit':Builtin.nextslicecap (k+m) c*i.bytes≤281474976710656:=growslice_fits (by omega) hfit
 have hf:=run_firstCells_some (P:=P) w i.size k A k c xs hxs (fun j u hj=>hk w hv j u hj)
 have hw:IntKind.i64.wrap (m:Int)=(m:Int):=IntWalk.i64_in _ (by omega)
 have hfo:=run_firstCells_some (P:=P) w.drew i.size k A k c xs hxs (fun j u hj=>by have:=hk w hv j u hj;simpa using this)
 have hm0 : ¬ ((m:Int)<0):=by omega
 have hmx:max (m:Int) 0=(m:Int):=by omega
 have hmy:m*i.bytes≤140737488355328:=Nat.le_trans (Nat.mul_le_mul_right _ (by omega)) hfit
 have hmb : ¬ (281474976710656<(m:Int)*(i.bytes:Int)):=by
  have:((m*i.bytes:Nat):Int)≤140737488355328:=by omega
  rw [Int.natCast_mul] at this;omega
 have hnc : ¬ (k+m≤c):=by omega
 have h63' : ¬ (9223372036854775807<((k:Int)+(m:Int))):=by omega
 have h48' : ¬ (281474976710656<Builtin.nextslicecap (k+m) c*i.bytes):=by omega
 obtain ⟨za,hza,hzl⟩ : ∃ za:Array Value,(if m*i.size=0 then (#[] : Array Value) else Builtin.zeroCells v.cells m)=za∧za.size=m*i.size:=by
  by_cases h0:m*i.size=0
  ·exact ⟨#[],by rw [if_pos h0],by simp [h0]⟩
  ·exact ⟨_,by rw [if_neg h0],by rw [size_zeroCells,hz']⟩
 have hr:(Builtin.append_ #[T,Ti] ty #[.slice (some A) k c,.int .i64 (m:Int)]).run P w = .ok (.slice (some ⟨w.heap.size,0,none⟩) (k+m) (grownCap w (k+m) c e)) (w.drew.alloc (.cells (xs.toArray ++ za ++ Builtin.zeroCells v.cells (grownCap w (k+m) c e-(k+m))) e)):=by
  subst hza
  by_cases h0:m*i.size=0
  ·have h0':=h0
   simp [Builtin.append_,run_underlying hu,run_underlying hTi,sizeOf,typeInfo,zeroValue,e1,e2,asInt,asIntOf,hw,hmx,hm0,hmb,hnc,h63',h48',h0',Question.forced,hfo,newRow,grownCap]
  ·have h0':=h0
   simp [Builtin.append_,run_underlying hu,run_underlying hTi,sizeOf,typeInfo,zeroValue,e1,e2,asInt,asIntOf,hw,hmx,hm0,hmb,hnc,h63',h48',h0',Question.forced,hfo,newRow,grownCap]
 rw [hr]
 have hge:=grownCap_ge w (k+m) c e
 have hvd:View S w.drew:=hv.drawn _
 have hst:=Step.allocP hvd e (xs.toArray ++ za ++ Builtin.zeroCells v.cells (grownCap w (k+m) c e-(k+m))) (xs ++ za.toList) (grownCap w (k+m) c e*i.size) (by simp [List.append_assoc]) (by
  simp only [Array.size_append,List.size_toArray,size_zeroCells,hz',hxs,hzl,← Nat.add_mul]
  exact Nat.mul_le_mul_right _ (by omega))
 exact ⟨_,_,h w.heap.size (grownCap w (k+m) c e) za.toList hv.freshAt hge (by simpa using hzl),g.put hn _,(Step.drawn hv _).trans hst⟩
end
section
variable {P:Program} {N:Nat} {E:Env} {S:Mem} {dst:Option Nat} {ty:TypeId} {pos:String} {aft:Array Edge} {gd:Option (Nat × Bool)}
theorem Calm.sliceLo {T e:TypeId} {x lo:Operand} {kd:IntKind} {j:Int} {b o len cap n:Nat} (l:Nat) (hT:P.underlying T=some (.slice e)) (he:sizeT P e=some n) (hx:ev E x=some (.slice (some ⟨b,o,none⟩) len cap)) (hlo:ev E lo=some (.int kd j)) (hj:j=(l:Int)) (h1:l≤len) (h2:l<cap) :
  ACalm P N ⟨dst,.slice T x (some lo) none none,ty,pos,aft,gd⟩ E S (.slice (some ⟨b,o+l*n,none⟩) (len-l) (cap-l)):=by
 subst hj
 have:=Calm.sliceSl (S:=S) (N:=N) (dst:=dst) (ty:=ty) (pos:=pos) (aft:=aft) (gd:=gd) hT he hx (bnd_none cap cap) (by simp) (bnd_none len cap) (bnd_some 0 len hlo (by omega) (by omega))
 rw [Int.toNat_natCast,if_neg (by omega)] at this
 exact this
theorem Calm.sliceHi {T e:TypeId} {x hi:Operand} {kd:IntKind} {j:Int} {b o len cap n:Nat} (h:Nat) (hT:P.underlying T=some (.slice e)) (he:sizeT P e=some n) (hx:ev E x=some (.slice (some ⟨b,o,none⟩) len cap)) (hhi:ev E hi=some (.int kd j)) (hj:j=(h:Int)) (h1:h≤cap) :
  ACalm P N ⟨dst,.slice T x none (some hi) none,ty,pos,aft,gd⟩ E S (.slice (some ⟨b,o,none⟩) h cap):=by
 subst hj
 have:=Calm.sliceHead (S:=S) (N:=N) (dst:=dst) (ty:=ty) (pos:=pos) (aft:=aft) (gd:=gd) hT he hx (bnd_none cap cap) (by simp) (bnd_some len cap hhi (by omega) (by omega))
 rw [Int.toNat_natCast] at this
 exact this
end
end Mv
end
section
open Go.RowKit
namespace Disk
/-! ### Texts in order -/
theorem bl_irrefl (a:List UInt8):Op.bytesLess a a=false:=by
 induction a with
 | nil=>rfl
 | cons x a ih=>simp [Op.bytesLess,ih]
theorem bl_trans:∀ (a b c:List UInt8),Op.bytesLess a b=true→Op.bytesLess b c=true→Op.bytesLess a c=true
 | _,_,[],_,h=>by simp [Op.bytesLess] at h
 | [],_,_ :: _,_,_=>rfl
 | x :: a,[],z :: c,h,_=>by simp [Op.bytesLess] at h
 | x :: a,y :: b,z :: c,h1,h2=>by
  simp only [Op.bytesLess,Bool.or_eq_true,Bool.and_eq_true,decide_eq_true_eq,beq_iff_eq] at h1 h2 ⊢
  rcases h1 with h1 | ⟨rfl,h1⟩
  ·rcases h2 with h2 | ⟨rfl,h2⟩
   ·left;exact UInt8.lt_trans h1 h2
   ·left;exact h1
  ·rcases h2 with h2 | ⟨rfl,h2⟩
   ·left;exact h2
   ·right;exact ⟨rfl,bl_trans a b c h1 h2⟩
theorem bl_tri:∀ (a b:List UInt8),a≠b→Op.bytesLess a b=false→Op.bytesLess b a=true
 | [],[],h,_=>absurd rfl h
 | [],_ :: _,_,h=>by simp [Op.bytesLess] at h
 | _ :: _,[],_,_=>rfl
 | x :: a,y :: b,hne,h=>by
  simp only [Op.bytesLess,Bool.or_eq_false_iff,Bool.and_eq_false_iff,decide_eq_false_iff_not,Bool.or_eq_true,Bool.and_eq_true,decide_eq_true_eq,beq_iff_eq] at h ⊢
  by_cases e:x=y
  ·subst e
   right
   refine ⟨rfl,bl_tri a b (fun e=>hne (by rw [e])) ?_⟩
   rcases h.2 with h2 | h2
   ·simp at h2
   ·exact h2
  ·left
   have h1:=h.1
   rcases Nat.lt_trichotomy x.toNat y.toNat with h' | h' | h'
   ·exact absurd (UInt8.lt_iff_toNat_lt.2 h') h1
   ·exact absurd (UInt8.toNat_inj.1 h') e
   ·exact UInt8.lt_iff_toNat_lt.2 h'
def lt (a b:ByteArray):Bool:=Op.bytesLess a.data.toList b.data.toList
theorem lt_irrefl (a:ByteArray):lt a a=false:=bl_irrefl _
theorem lt_trans {a b c:ByteArray} (h:lt a b=true) (k:lt b c=true):lt a c=true:=bl_trans _ _ _ h k
theorem lt_tri {a b:ByteArray} (hne:a≠b) (h:lt a b=false):lt b a=true:=bl_tri _ _ (fun e=>hne (Mv.str_ext e)) h
theorem lt_ne {a b:ByteArray} (h:lt a b=true):a≠b:=fun e=>by subst e;rw [lt_irrefl] at h;cases h
theorem lt_asymm {a b:ByteArray} (h:lt a b=true):lt b a=false:=by
 cases h':lt b a with
 | false=>rfl
 | true=>have:=lt_trans h h';rw [lt_irrefl] at this;cases this
/-! ### What a disk is -/
abbrev Ext:=ByteArray × ByteArray
abbrev Wr:=ByteArray × Int × ByteArray
def extF (x:Ext):List Value:=[.string x.1,.string x.2]
def wrF (x:Wr):List Value:=[.string x.1,.int .i64 x.2.1,.string x.2.2]
structure D where
  size:Int
  ext:List Ext
  waits:List Wr
  fuse:Int
  down:Bool
def D0:D:=⟨0,[],[],0,false⟩
def sec (x:Ext):Nat:=x.2.size / 64
def used:List Ext→Nat
  | []=>0
  | x :: l=>sec x+used l
theorem used_append (l m:List Ext):used (l ++ m)=used l+used m:=by
 induction l with
 | nil=>simp [used]
 | cons x l ih=>simp only [List.cons_append,used,ih];omega
def nm (s:ByteArray):Prop:=s.size≠0∧s.size≤16
instance (s:ByteArray):Decidable (nm s):=by unfold nm;infer_instance
def eok (x:Ext):Prop:=nm x.1∧x.2.size≠0∧x.2.size % 64=0
instance (x:Ext):Decidable (eok x):=by unfold eok;infer_instance
def Asc (l:List Ext):Prop:=l.Pairwise fun x y=>lt x.1 y.1=true
def wok (l:List Ext) (w:Wr):Prop:=∃ x ∈ l,x.1=w.1∧0≤w.2.1∧w.2.1<sec x∧w.2.2.size=64
structure ERight (l:List Ext) (size:Int):Prop where
  ok:∀ x ∈ l,eok x
  asc:Asc l
  us:(used l:Int)≤size
structure Right (d:D):Prop where
  s0:0≤d.size
  s1:d.size≤16384
  wl:d.waits.length≤16384
  fu : -1≤d.fuse
  ex:ERight d.ext d.size
  wr:∀ w ∈ d.waits,wok d.ext w
theorem eok_sec {x:Ext} (h:eok x):1≤sec x∧x.2.size=64*sec x:=by
 obtain ⟨_,h1,h2⟩:=h;unfold sec;omega
theorem used_ge {l:List Ext} (h:∀ x ∈ l,eok x):l.length≤used l:=by
 induction l with
 | nil=>simp [used]
 | cons x l ih =>
  have h1:=(eok_sec (h x (by simp))).1
  have h2:=ih fun y hy=>h y (by simp [hy])
  simp only [used,List.length_cons];omega
theorem used_mem {l:List Ext} {x:Ext} (h:x ∈ l):sec x≤used l:=by
 induction l with
 | nil=>cases h
 | cons y l ih =>
  simp only [used]
  rcases List.mem_cons.1 h with rfl | h
  ·omega
  ·have:=ih h;omega
noncomputable def chkD (d:D):Int:=by
  classical exact if Right d then 0 else 2
theorem chkD_yes {d:D} (h:Right d):chkD d=0:=by unfold chkD;exact if_pos h
theorem chkD_no {d:D} (h : ¬ Right d):chkD d=2:=by unfold chkD;exact if_neg h
theorem chkD_or (d:D):(chkD d=0∧Right d)∨(chkD d=2 ∧ ¬ Right d):=by
 by_cases h:Right d
 ·exact .inl ⟨chkD_yes h,h⟩
 ·exact .inr ⟨chkD_no h,h⟩
/-! ### Where an extent is -/
def pos (l:List Ext) (s:ByteArray):Nat:=(l.takeWhile fun x=>lt x.1 s).length
def has (l:List Ext) (s:ByteArray):Bool:=l.any fun x=>decide (x.1=s)
theorem has_iff {l:List Ext} {s:ByteArray}:has l s=true ↔ ∃ x ∈ l,x.1=s:=by simp [has]
theorem pos_le (l:List Ext) (s:ByteArray):pos l s≤l.length:=by
 unfold pos;exact (List.takeWhile_prefix _).length_le
theorem asc_tail {x:Ext} {l:List Ext} (h:Asc (x :: l)):Asc l:=(List.pairwise_cons.1 h).2
theorem asc_get {l:List Ext} (h:Asc l) {i j:Nat} (hj:j<l.length) (hij:i<j):lt l[i].1 l[j].1=true:=List.pairwise_iff_getElem.1 h i j (by omega) hj hij
theorem pos_iff {l:List Ext} {s:ByteArray} {k:Nat} (hk:k≤l.length) (h1:∀ i (h:i<l.length),i<k→lt l[i].1 s=true) (h2:∀ (h:k<l.length),lt l[k].1 s=false):pos l s=k:=by
 induction l generalizing k with
 | nil=>simp at hk;subst hk;rfl
 | cons x l ih =>
  unfold pos
  cases k with
  | zero =>
   have:=h2 (by simp)
   simp only [List.getElem_cons_zero] at this
   rw [List.takeWhile_cons,this];rfl
  | succ k =>
   have h0:=h1 0 (by simp) (by omega)
   simp only [List.getElem_cons_zero] at h0
   rw [List.takeWhile_cons,h0]
   simp only [if_true,List.length_cons]
   have:=ih (k:=k) (by simpa using hk) (fun i h hi=>by have:=h1 (i+1) (by simpa using h) (by omega);simpa using this) (fun h=>by have:=h2 (by simpa using h);simpa using this)
   unfold pos at this;omega
theorem pos_lt {l:List Ext} {s:ByteArray} {i:Nat} (hi:i<l.length) (h:i<pos l s):lt l[i].1 s=true:=by
 unfold pos at h
 have hp:=List.takeWhile_prefix (l:=l) (fun x=>lt x.1 s)
 have h2:(l.takeWhile fun x=>lt x.1 s)[i]=l[i]:=List.IsPrefix.getElem hp h
 have h3:=List.all_takeWhile (p:=fun x:Ext=>lt x.1 s) (l:=l)
 have:=List.all_eq_true.1 h3 _ (List.getElem_mem h)
 rw [h2] at this;exact this
theorem pos_at {l:List Ext} {s:ByteArray} (h:pos l s<l.length):lt l[pos l s].1 s=false:=by
 induction l with
 | nil=>simp at h
 | cons x l ih =>
  by_cases hx:lt x.1 s=true
  ·have e:pos (x :: l) s=pos l s+1:=by unfold pos;rw [List.takeWhile_cons,hx];rfl
   simp only [e,List.getElem_cons_succ]
   exact ih (by rw [e] at h;simpa using h)
  ·have hx':lt x.1 s=false:=by simpa using hx
   have e:pos (x :: l) s=0:=by unfold pos;rw [List.takeWhile_cons,hx'];rfl
   simp only [e,List.getElem_cons_zero];exact hx'
theorem has_pos {l:List Ext} (ha:Asc l) (s:ByteArray):has l s=true ↔ ∃ h:pos l s<l.length,l[pos l s].1=s:=by
 constructor
 ·intro h
  obtain ⟨x,hx,rfl⟩:=has_iff.1 h
  obtain ⟨j,hj,rfl⟩:=List.getElem_of_mem hx
  have e:pos l l[j].1=j:=pos_iff (by omega) (fun i h hi=>asc_get ha hj hi) (fun h=>lt_irrefl _)
  exact ⟨by rw [e];exact hj,by simp only [e]⟩
 ·rintro ⟨h,e⟩
  exact has_iff.2 ⟨_,List.getElem_mem h,e⟩
theorem pos_mem {l:List Ext} (ha:Asc l) {j:Nat} (hj:j<l.length):pos l l[j].1=j:=pos_iff (by omega) (fun i h hi=>asc_get ha hj hi) (fun h=>lt_irrefl _)
theorem asc_inj {l:List Ext} (ha:Asc l) {x y:Ext} (hx:x ∈ l) (hy:y ∈ l) (h:x.1=y.1):x=y:=by
 obtain ⟨i,hi,rfl⟩:=List.getElem_of_mem hx
 obtain ⟨j,hj,rfl⟩:=List.getElem_of_mem hy
 have h1:=pos_mem ha hi
 have h2:=pos_mem ha hj
 rw [h] at h1
 have:i=j:=by omega
 subst this;rfl
end Disk
end
section
open Mv
namespace Mv
theorem mixed:Tryz.prog.follows .mixedOrders=true:=by kernel_rfl
instance : TMix Tryz.prog := ⟨mixed⟩
theorem ty_plain_1:plainT Tryz.prog 1=true:=by kernel_rfl
theorem ty_size_1:sizeT Tryz.prog 1=some 1:=by kernel_rfl
theorem ty_plain_2:plainT Tryz.prog 2=true:=by kernel_rfl
theorem ty_size_2:sizeT Tryz.prog 2=some 1:=by kernel_rfl
theorem ty_plain_3:plainT Tryz.prog 3=true:=by kernel_rfl
theorem ty_size_3:sizeT Tryz.prog 3=some 1:=by kernel_rfl
theorem ty_zero_3:zeroT Tryz.prog 3=some [.int .i64 0]:=by kernel_rfl
theorem ty_plain_4:plainT Tryz.prog 4=true:=by kernel_rfl
theorem ty_size_4:sizeT Tryz.prog 4=some 1:=by kernel_rfl
theorem ty_plain_5:plainT Tryz.prog 5=true:=by kernel_rfl
theorem ty_size_5:sizeT Tryz.prog 5=some 1:=by kernel_rfl
theorem ty_plain_6:plainT Tryz.prog 6=true:=by kernel_rfl
theorem ty_size_6:sizeT Tryz.prog 6=some 1:=by kernel_rfl
theorem ty_agg_7:aggT Tryz.prog 7=true:=by kernel_rfl
theorem ty_bld_7:bldT Tryz.prog 7=some ([(0,1),(1,1),(2,1),(3,1)],[.int .i64 0,.int .i64 0,.bool false,.int .u8 0]):=by kernel_rfl
theorem ty_field_7_0:fieldT Tryz.prog 7 0=some (0,0+1):=by kernel_rfl
theorem ty_field_7_1:fieldT Tryz.prog 7 1=some (1,0+1):=by kernel_rfl
theorem ty_field_7_2:fieldT Tryz.prog 7 2=some (2,0+1):=by kernel_rfl
theorem ty_field_7_3:fieldT Tryz.prog 7 3=some (3,0+1):=by kernel_rfl
theorem ty_size_7:sizeT Tryz.prog 7=some 4:=by kernel_rfl
theorem ty_plain_9:plainT Tryz.prog 9=true:=by kernel_rfl
theorem ty_size_9:sizeT Tryz.prog 9=some 1:=by kernel_rfl
theorem ty_str_9:strT Tryz.prog 9=true:=by kernel_rfl
theorem ty_zero_9:zeroT Tryz.prog 9=some [.string ByteArray.empty]:=by kernel_rfl
theorem ty_plain_22:plainT Tryz.prog 22=true:=by kernel_rfl
theorem ty_size_22:sizeT Tryz.prog 22=some 1:=by kernel_rfl
theorem ty_sl_22:slT Tryz.prog 22=some (46,1,24,[.slice none 0 0]):=by kernel_rfl
theorem ty_plain_25:plainT Tryz.prog 25=true:=by kernel_rfl
theorem ty_size_25:sizeT Tryz.prog 25=some 1:=by kernel_rfl
theorem ty_sl_25:slT Tryz.prog 25=some (127,2,32,[.string ByteArray.empty,.string ByteArray.empty]):=by kernel_rfl
theorem ty_plain_26:plainT Tryz.prog 26=true:=by kernel_rfl
theorem ty_size_26:sizeT Tryz.prog 26=some 1:=by kernel_rfl
theorem ty_sl_26:slT Tryz.prog 26=some (168,3,40,[.string ByteArray.empty,.int .i64 0,.string ByteArray.empty]):=by kernel_rfl
theorem ty_agg_28:aggT Tryz.prog 28=true:=by kernel_rfl
theorem ty_bld_28:bldT Tryz.prog 28=some ([(0,1),(1,1),(2,1),(3,1),(4,1)],[.int .i64 0,.slice none 0 0,.slice none 0 0,.int .i64 0,.bool false]):=by kernel_rfl
theorem ty_field_28_0:fieldT Tryz.prog 28 0=some (0,0+1):=by kernel_rfl
theorem ty_field_28_1:fieldT Tryz.prog 28 1=some (1,0+1):=by kernel_rfl
theorem ty_field_28_2:fieldT Tryz.prog 28 2=some (2,0+1):=by kernel_rfl
theorem ty_field_28_3:fieldT Tryz.prog 28 3=some (3,0+1):=by kernel_rfl
theorem ty_field_28_4:fieldT Tryz.prog 28 4=some (4,0+1):=by kernel_rfl
theorem ty_size_28:sizeT Tryz.prog 28=some 5:=by kernel_rfl
theorem ty_zero_28:zeroT Tryz.prog 28=some [.int .i64 0,.slice none 0 0,.slice none 0 0,.int .i64 0,.bool false]:=by kernel_rfl
theorem ty_plain_29:plainT Tryz.prog 29=true:=by kernel_rfl
theorem ty_size_29:sizeT Tryz.prog 29=some 1:=by kernel_rfl
theorem ty_zero_29:zeroT Tryz.prog 29=some [.int .i64 0]:=by kernel_rfl
theorem ty_plain_33:plainT Tryz.prog 33=true:=by kernel_rfl
theorem ty_size_33:sizeT Tryz.prog 33=some 1:=by kernel_rfl
theorem ty_agg_35:aggT Tryz.prog 35=true:=by kernel_rfl
theorem ty_bld_35:bldT Tryz.prog 35=some ([(0,1),(1,1),(2,1)],[.int .u64 0,.int .u64 0,.int .i64 0]):=by kernel_rfl
theorem ty_field_35_0:fieldT Tryz.prog 35 0=some (0,0+1):=by kernel_rfl
theorem ty_field_35_1:fieldT Tryz.prog 35 1=some (1,0+1):=by kernel_rfl
theorem ty_field_35_2:fieldT Tryz.prog 35 2=some (2,0+1):=by kernel_rfl
theorem ty_size_35:sizeT Tryz.prog 35=some 3:=by kernel_rfl
theorem ty_zero_35:zeroT Tryz.prog 35=some [.int .u64 0,.int .u64 0,.int .i64 0]:=by kernel_rfl
theorem ty_plain_38:plainT Tryz.prog 38=true:=by kernel_rfl
theorem ty_size_38:sizeT Tryz.prog 38=some 1:=by kernel_rfl
theorem ty_sl_38:slT Tryz.prog 38=some (9,1,16,[.string ByteArray.empty]):=by kernel_rfl
theorem ty_plain_46:plainT Tryz.prog 46=true:=by kernel_rfl
theorem ty_size_46:sizeT Tryz.prog 46=some 1:=by kernel_rfl
theorem ty_sl_46:slT Tryz.prog 46=some (33,1,8,[.int .u64 0]):=by kernel_rfl
theorem ty_agg_49:aggT Tryz.prog 49=true:=by kernel_rfl
theorem ty_bld_49:bldT Tryz.prog 49=some ([(0,1),(1,1)],[.string ByteArray.empty,.int .i64 0]):=by kernel_rfl
theorem ty_field_49_0:fieldT Tryz.prog 49 0=some (0,0+1):=by kernel_rfl
theorem ty_field_49_1:fieldT Tryz.prog 49 1=some (1,0+1):=by kernel_rfl
theorem ty_size_49:sizeT Tryz.prog 49=some 2:=by kernel_rfl
theorem ty_zero_49:zeroT Tryz.prog 49=some [.string ByteArray.empty,.int .i64 0]:=by kernel_rfl
theorem ty_plain_55:plainT Tryz.prog 55=true:=by kernel_rfl
theorem ty_size_55:sizeT Tryz.prog 55=some 1:=by kernel_rfl
theorem ty_plain_56:plainT Tryz.prog 56=true:=by kernel_rfl
theorem ty_size_56:sizeT Tryz.prog 56=some 1:=by kernel_rfl
theorem ty_sl_56:slT Tryz.prog 56=some (5,1,1,[.int .u8 0]):=by kernel_rfl
theorem ty_bytes_56:bytesT Tryz.prog 56=some 5:=by kernel_rfl
theorem ty_agg_58:aggT Tryz.prog 58=true:=by kernel_rfl
theorem ty_bld_58:bldT Tryz.prog 58=some ([(0,1),(1,1)],[.pointer none,.slice none 0 0]):=by kernel_rfl
theorem ty_field_58_0:fieldT Tryz.prog 58 0=some (0,0+1):=by kernel_rfl
theorem ty_field_58_1:fieldT Tryz.prog 58 1=some (1,0+1):=by kernel_rfl
theorem ty_size_58:sizeT Tryz.prog 58=some 2:=by kernel_rfl
theorem ty_zero_58:zeroT Tryz.prog 58=some [.pointer none,.slice none 0 0]:=by kernel_rfl
theorem ty_plain_61:plainT Tryz.prog 61=true:=by kernel_rfl
theorem ty_size_61:sizeT Tryz.prog 61=some 1:=by kernel_rfl
theorem ty_plain_66:plainT Tryz.prog 66=true:=by kernel_rfl
theorem ty_size_66:sizeT Tryz.prog 66=some 1:=by kernel_rfl
theorem ty_zero_66:zeroT Tryz.prog 66=some [.pointer none]:=by kernel_rfl
theorem ty_plain_71:plainT Tryz.prog 71=true:=by kernel_rfl
theorem ty_size_71:sizeT Tryz.prog 71=some 1:=by kernel_rfl
theorem ty_agg_72:aggT Tryz.prog 72=true:=by kernel_rfl
theorem ty_size_72:sizeT Tryz.prog 72=some 4:=by kernel_rfl
theorem ty_zero_72:zeroT Tryz.prog 72=some [.int .u8 0,.int .u8 0,.int .u8 0,.int .u8 0]:=by kernel_rfl
theorem ty_plain_77:plainT Tryz.prog 77=true:=by kernel_rfl
theorem ty_size_77:sizeT Tryz.prog 77=some 1:=by kernel_rfl
theorem ty_zero_77:zeroT Tryz.prog 77=some [.pointer none]:=by kernel_rfl
theorem ty_plain_80:plainT Tryz.prog 80=true:=by kernel_rfl
theorem ty_size_80:sizeT Tryz.prog 80=some 1:=by kernel_rfl
theorem ty_plain_85:plainT Tryz.prog 85=true:=by kernel_rfl
theorem ty_size_85:sizeT Tryz.prog 85=some 1:=by kernel_rfl
theorem ty_plain_87:plainT Tryz.prog 87=true:=by kernel_rfl
theorem ty_size_87:sizeT Tryz.prog 87=some 1:=by kernel_rfl
theorem ty_plain_89:plainT Tryz.prog 89=true:=by kernel_rfl
theorem ty_size_89:sizeT Tryz.prog 89=some 1:=by kernel_rfl
theorem ty_agg_91:aggT Tryz.prog 91=true:=by kernel_rfl
theorem ty_bld_91:bldT Tryz.prog 91=some ([(0,1),(1,1),(2,1)],[.slice none 0 0,.int .u64 0,.int .i64 0]):=by kernel_rfl
theorem ty_field_91_0:fieldT Tryz.prog 91 0=some (0,0+1):=by kernel_rfl
theorem ty_field_91_1:fieldT Tryz.prog 91 1=some (1,0+1):=by kernel_rfl
theorem ty_field_91_2:fieldT Tryz.prog 91 2=some (2,0+1):=by kernel_rfl
theorem ty_size_91:sizeT Tryz.prog 91=some 3:=by kernel_rfl
theorem ty_plain_96:plainT Tryz.prog 96=true:=by kernel_rfl
theorem ty_size_96:sizeT Tryz.prog 96=some 1:=by kernel_rfl
theorem ty_agg_100:aggT Tryz.prog 100=true:=by kernel_rfl
theorem ty_bld_100:bldT Tryz.prog 100=some ([(0,5)],[.int .i64 0,.slice none 0 0,.slice none 0 0,.int .i64 0,.bool false]):=by kernel_rfl
theorem ty_field_100_0:fieldT Tryz.prog 100 0=some (0,4+1):=by kernel_rfl
theorem ty_size_100:sizeT Tryz.prog 100=some 5:=by kernel_rfl
theorem ty_plain_102:plainT Tryz.prog 102=true:=by kernel_rfl
theorem ty_size_102:sizeT Tryz.prog 102=some 1:=by kernel_rfl
theorem ty_agg_103:aggT Tryz.prog 103=true:=by kernel_rfl
theorem ty_arr_103:arrT Tryz.prog 103=some (1,[.int .u8 0,.int .u8 0,.int .u8 0,.int .u8 0,.int .u8 0]):=by kernel_rfl
theorem ty_size_103:sizeT Tryz.prog 103=some 5:=by kernel_rfl
theorem ty_zero_103:zeroT Tryz.prog 103=some [.int .u8 0,.int .u8 0,.int .u8 0,.int .u8 0,.int .u8 0]:=by kernel_rfl
theorem ty_plain_111:plainT Tryz.prog 111=true:=by kernel_rfl
theorem ty_size_111:sizeT Tryz.prog 111=some 1:=by kernel_rfl
theorem ty_agg_113:aggT Tryz.prog 113=true:=by kernel_rfl
theorem ty_bld_113:bldT Tryz.prog 113=some ([(0,1),(1,5),(6,1),(7,3)],[.pointer none,.int .i64 0,.slice none 0 0,.slice none 0 0,.int .i64 0,.bool false,.slice none 0 0,.int .u64 0,.int .u64 0,.int .i64 0]):=by kernel_rfl
theorem ty_field_113_0:fieldT Tryz.prog 113 0=some (0,0+1):=by kernel_rfl
theorem ty_field_113_1:fieldT Tryz.prog 113 1=some (1,4+1):=by kernel_rfl
theorem ty_field_113_2:fieldT Tryz.prog 113 2=some (6,0+1):=by kernel_rfl
theorem ty_field_113_3:fieldT Tryz.prog 113 3=some (7,2+1):=by kernel_rfl
theorem ty_size_113:sizeT Tryz.prog 113=some 10:=by kernel_rfl
theorem ty_plain_116:plainT Tryz.prog 116=true:=by kernel_rfl
theorem ty_size_116:sizeT Tryz.prog 116=some 1:=by kernel_rfl
theorem ty_plain_120:plainT Tryz.prog 120=true:=by kernel_rfl
theorem ty_size_120:sizeT Tryz.prog 120=some 1:=by kernel_rfl
theorem ty_sl_120:slT Tryz.prog 120=some (226,7,72,[.string ByteArray.empty,.int .i64 0,.string ByteArray.empty,.int .i64 0,.bool false,.int .u64 0,.bool false]):=by kernel_rfl
theorem ty_agg_122:aggT Tryz.prog 122=true:=by kernel_rfl
theorem ty_bld_122:bldT Tryz.prog 122=some ([(0,1),(1,1),(2,1),(3,1),(4,1),(5,1)],[.pointer none,.slice none 0 0,.int .u64 0,.int .u64 0,.int .u64 0,.int .i64 0]):=by kernel_rfl
theorem ty_field_122_0:fieldT Tryz.prog 122 0=some (0,0+1):=by kernel_rfl
theorem ty_field_122_1:fieldT Tryz.prog 122 1=some (1,0+1):=by kernel_rfl
theorem ty_field_122_2:fieldT Tryz.prog 122 2=some (2,0+1):=by kernel_rfl
theorem ty_field_122_3:fieldT Tryz.prog 122 3=some (3,0+1):=by kernel_rfl
theorem ty_field_122_4:fieldT Tryz.prog 122 4=some (4,0+1):=by kernel_rfl
theorem ty_field_122_5:fieldT Tryz.prog 122 5=some (5,0+1):=by kernel_rfl
theorem ty_size_122:sizeT Tryz.prog 122=some 6:=by kernel_rfl
theorem ty_agg_124:aggT Tryz.prog 124=true:=by kernel_rfl
theorem ty_bld_124:bldT Tryz.prog 124=some ([(0,1),(1,1),(2,1),(3,1),(4,1),(5,1),(6,1),(7,1)],[.pointer none,.string ByteArray.empty,.int .i64 0,.int .u64 0,.int .i64 0,.int .i64 0,.int .i64 0,.int .i64 0]):=by kernel_rfl
theorem ty_field_124_0:fieldT Tryz.prog 124 0=some (0,0+1):=by kernel_rfl
theorem ty_field_124_1:fieldT Tryz.prog 124 1=some (1,0+1):=by kernel_rfl
theorem ty_field_124_2:fieldT Tryz.prog 124 2=some (2,0+1):=by kernel_rfl
theorem ty_field_124_3:fieldT Tryz.prog 124 3=some (3,0+1):=by kernel_rfl
theorem ty_field_124_4:fieldT Tryz.prog 124 4=some (4,0+1):=by kernel_rfl
theorem ty_field_124_5:fieldT Tryz.prog 124 5=some (5,0+1):=by kernel_rfl
theorem ty_field_124_6:fieldT Tryz.prog 124 6=some (6,0+1):=by kernel_rfl
theorem ty_field_124_7:fieldT Tryz.prog 124 7=some (7,0+1):=by kernel_rfl
theorem ty_size_124:sizeT Tryz.prog 124=some 8:=by kernel_rfl
theorem ty_agg_127:aggT Tryz.prog 127=true:=by kernel_rfl
theorem ty_bld_127:bldT Tryz.prog 127=some ([(0,1),(1,1)],[.string ByteArray.empty,.string ByteArray.empty]):=by kernel_rfl
theorem ty_field_127_0:fieldT Tryz.prog 127 0=some (0,0+1):=by kernel_rfl
theorem ty_field_127_1:fieldT Tryz.prog 127 1=some (1,0+1):=by kernel_rfl
theorem ty_size_127:sizeT Tryz.prog 127=some 2:=by kernel_rfl
theorem ty_zero_127:zeroT Tryz.prog 127=some [.string ByteArray.empty,.string ByteArray.empty]:=by kernel_rfl
theorem ty_plain_128:plainT Tryz.prog 128=true:=by kernel_rfl
theorem ty_size_128:sizeT Tryz.prog 128=some 1:=by kernel_rfl
theorem ty_plain_132:plainT Tryz.prog 132=true:=by kernel_rfl
theorem ty_size_132:sizeT Tryz.prog 132=some 1:=by kernel_rfl
theorem ty_agg_134:aggT Tryz.prog 134=true:=by kernel_rfl
theorem ty_bld_134:bldT Tryz.prog 134=some ([(0,1),(1,1)],[.string ByteArray.empty,.nilIface]):=by kernel_rfl
theorem ty_field_134_0:fieldT Tryz.prog 134 0=some (0,0+1):=by kernel_rfl
theorem ty_field_134_1:fieldT Tryz.prog 134 1=some (1,0+1):=by kernel_rfl
theorem ty_size_134:sizeT Tryz.prog 134=some 2:=by kernel_rfl
theorem ty_plain_135:plainT Tryz.prog 135=true:=by kernel_rfl
theorem ty_size_135:sizeT Tryz.prog 135=some 1:=by kernel_rfl
theorem ty_sl_135:slT Tryz.prog 135=some (140,1,8,[.pointer none]):=by kernel_rfl
theorem ty_agg_139:aggT Tryz.prog 139=true:=by kernel_rfl
theorem ty_bld_139:bldT Tryz.prog 139=some ([(0,1),(1,1)],[.pointer none,.slice none 0 0]):=by kernel_rfl
theorem ty_field_139_0:fieldT Tryz.prog 139 0=some (0,0+1):=by kernel_rfl
theorem ty_field_139_1:fieldT Tryz.prog 139 1=some (1,0+1):=by kernel_rfl
theorem ty_size_139:sizeT Tryz.prog 139=some 2:=by kernel_rfl
theorem ty_plain_140:plainT Tryz.prog 140=true:=by kernel_rfl
theorem ty_size_140:sizeT Tryz.prog 140=some 1:=by kernel_rfl
theorem ty_plain_143:plainT Tryz.prog 143=true:=by kernel_rfl
theorem ty_size_143:sizeT Tryz.prog 143=some 1:=by kernel_rfl
theorem ty_plain_152:plainT Tryz.prog 152=true:=by kernel_rfl
theorem ty_size_152:sizeT Tryz.prog 152=some 1:=by kernel_rfl
theorem ty_agg_154:aggT Tryz.prog 154=true:=by kernel_rfl
theorem ty_bld_154:bldT Tryz.prog 154=some ([(0,2)],[.string ByteArray.empty,.int .i64 0]):=by kernel_rfl
theorem ty_field_154_0:fieldT Tryz.prog 154 0=some (0,1+1):=by kernel_rfl
theorem ty_size_154:sizeT Tryz.prog 154=some 2:=by kernel_rfl
theorem ty_zero_154:zeroT Tryz.prog 154=some [.string ByteArray.empty,.int .i64 0]:=by kernel_rfl
theorem ty_size_159:sizeT Tryz.prog 159=some 1:=by kernel_rfl
theorem ty_agg_168:aggT Tryz.prog 168=true:=by kernel_rfl
theorem ty_bld_168:bldT Tryz.prog 168=some ([(0,1),(1,1),(2,1)],[.string ByteArray.empty,.int .i64 0,.string ByteArray.empty]):=by kernel_rfl
theorem ty_field_168_0:fieldT Tryz.prog 168 0=some (0,0+1):=by kernel_rfl
theorem ty_field_168_1:fieldT Tryz.prog 168 1=some (1,0+1):=by kernel_rfl
theorem ty_field_168_2:fieldT Tryz.prog 168 2=some (2,0+1):=by kernel_rfl
theorem ty_size_168:sizeT Tryz.prog 168=some 3:=by kernel_rfl
theorem ty_zero_168:zeroT Tryz.prog 168=some [.string ByteArray.empty,.int .i64 0,.string ByteArray.empty]:=by kernel_rfl
theorem ty_plain_178:plainT Tryz.prog 178=true:=by kernel_rfl
theorem ty_size_178:sizeT Tryz.prog 178=some 1:=by kernel_rfl
theorem ty_sl_178:slT Tryz.prog 178=some (3,1,8,[.int .i64 0]):=by kernel_rfl
theorem ty_plain_185:plainT Tryz.prog 185=true:=by kernel_rfl
theorem ty_size_185:sizeT Tryz.prog 185=some 1:=by kernel_rfl
theorem ty_plain_192:plainT Tryz.prog 192=true:=by kernel_rfl
theorem ty_size_192:sizeT Tryz.prog 192=some 1:=by kernel_rfl
theorem ty_agg_196:aggT Tryz.prog 196=true:=by kernel_rfl
theorem ty_bld_196:bldT Tryz.prog 196=some ([(0,1),(1,1)],[.slice none 0 0,.slice none 0 0]):=by kernel_rfl
theorem ty_field_196_0:fieldT Tryz.prog 196 0=some (0,0+1):=by kernel_rfl
theorem ty_field_196_1:fieldT Tryz.prog 196 1=some (1,0+1):=by kernel_rfl
theorem ty_size_196:sizeT Tryz.prog 196=some 2:=by kernel_rfl
theorem ty_agg_198:aggT Tryz.prog 198=true:=by kernel_rfl
theorem ty_bld_198:bldT Tryz.prog 198=some ([(0,2)],[.slice none 0 0,.slice none 0 0]):=by kernel_rfl
theorem ty_field_198_0:fieldT Tryz.prog 198 0=some (0,1+1):=by kernel_rfl
theorem ty_size_198:sizeT Tryz.prog 198=some 2:=by kernel_rfl
theorem ty_agg_201:aggT Tryz.prog 201=true:=by kernel_rfl
theorem ty_bld_201:bldT Tryz.prog 201=some ([(0,1),(1,1),(2,1),(3,1),(4,1),(5,1),(6,1)],[.pointer none,.string ByteArray.empty,.int .i64 0,.int .u64 0,.int .i64 0,.int .i64 0,.int .i64 0]):=by kernel_rfl
theorem ty_field_201_0:fieldT Tryz.prog 201 0=some (0,0+1):=by kernel_rfl
theorem ty_field_201_1:fieldT Tryz.prog 201 1=some (1,0+1):=by kernel_rfl
theorem ty_field_201_2:fieldT Tryz.prog 201 2=some (2,0+1):=by kernel_rfl
theorem ty_field_201_3:fieldT Tryz.prog 201 3=some (3,0+1):=by kernel_rfl
theorem ty_field_201_4:fieldT Tryz.prog 201 4=some (4,0+1):=by kernel_rfl
theorem ty_field_201_5:fieldT Tryz.prog 201 5=some (5,0+1):=by kernel_rfl
theorem ty_field_201_6:fieldT Tryz.prog 201 6=some (6,0+1):=by kernel_rfl
theorem ty_size_201:sizeT Tryz.prog 201=some 7:=by kernel_rfl
theorem ty_plain_206:plainT Tryz.prog 206=true:=by kernel_rfl
theorem ty_size_206:sizeT Tryz.prog 206=some 1:=by kernel_rfl
theorem ty_plain_213:plainT Tryz.prog 213=true:=by kernel_rfl
theorem ty_size_213:sizeT Tryz.prog 213=some 1:=by kernel_rfl
theorem ty_plain_222:plainT Tryz.prog 222=true:=by kernel_rfl
theorem ty_size_222:sizeT Tryz.prog 222=some 1:=by kernel_rfl
theorem ty_agg_226:aggT Tryz.prog 226=true:=by kernel_rfl
theorem ty_bld_226:bldT Tryz.prog 226=some ([(0,1),(1,1),(2,1),(3,1),(4,1),(5,1),(6,1)],[.string ByteArray.empty,.int .i64 0,.string ByteArray.empty,.int .i64 0,.bool false,.int .u64 0,.bool false]):=by kernel_rfl
theorem ty_field_226_0:fieldT Tryz.prog 226 0=some (0,0+1):=by kernel_rfl
theorem ty_field_226_1:fieldT Tryz.prog 226 1=some (1,0+1):=by kernel_rfl
theorem ty_field_226_2:fieldT Tryz.prog 226 2=some (2,0+1):=by kernel_rfl
theorem ty_field_226_3:fieldT Tryz.prog 226 3=some (3,0+1):=by kernel_rfl
theorem ty_field_226_4:fieldT Tryz.prog 226 4=some (4,0+1):=by kernel_rfl
theorem ty_field_226_5:fieldT Tryz.prog 226 5=some (5,0+1):=by kernel_rfl
theorem ty_field_226_6:fieldT Tryz.prog 226 6=some (6,0+1):=by kernel_rfl
theorem ty_size_226:sizeT Tryz.prog 226=some 7:=by kernel_rfl
theorem ty_zero_226:zeroT Tryz.prog 226=some [.string ByteArray.empty,.int .i64 0,.string ByteArray.empty,.int .i64 0,.bool false,.int .u64 0,.bool false]:=by kernel_rfl
theorem ty_plain_252:plainT Tryz.prog 252=true:=by kernel_rfl
theorem ty_size_252:sizeT Tryz.prog 252=some 1:=by kernel_rfl
theorem ty_plain_253:plainT Tryz.prog 253=true:=by kernel_rfl
theorem ty_size_253:sizeT Tryz.prog 253=some 1:=by kernel_rfl
theorem ty_agg_256:aggT Tryz.prog 256=true:=by kernel_rfl
theorem ty_size_256:sizeT Tryz.prog 256=some 256:=by kernel_rfl
theorem ty_plain_287:plainT Tryz.prog 287=true:=by kernel_rfl
theorem ty_size_287:sizeT Tryz.prog 287=some 1:=by kernel_rfl
theorem ty_plain_295:plainT Tryz.prog 295=true:=by kernel_rfl
theorem ty_size_295:sizeT Tryz.prog 295=some 1:=by kernel_rfl
theorem ty_zero_295:zeroT Tryz.prog 295=some [.int .u64 0]:=by kernel_rfl
theorem ty_plain_299:plainT Tryz.prog 299=true:=by kernel_rfl
theorem ty_size_299:sizeT Tryz.prog 299=some 1:=by kernel_rfl
theorem ty_plain_307:plainT Tryz.prog 307=true:=by kernel_rfl
theorem ty_size_307:sizeT Tryz.prog 307=some 1:=by kernel_rfl
theorem go_3:goFn Tryz.prog 3=true:=by kernel_rfl
theorem go_4:goFn Tryz.prog 4=true:=by kernel_rfl
theorem go_5:goFn Tryz.prog 5=true:=by kernel_rfl
theorem go_6:goFn Tryz.prog 6=true:=by kernel_rfl
theorem go_7:goFn Tryz.prog 7=true:=by kernel_rfl
theorem go_8:goFn Tryz.prog 8=true:=by kernel_rfl
theorem go_9:goFn Tryz.prog 9=true:=by kernel_rfl
theorem go_10:goFn Tryz.prog 10=true:=by kernel_rfl
theorem go_11:goFn Tryz.prog 11=true:=by kernel_rfl
theorem go_12:goFn Tryz.prog 12=true:=by kernel_rfl
theorem go_13:goFn Tryz.prog 13=true:=by kernel_rfl
theorem go_14:goFn Tryz.prog 14=true:=by kernel_rfl
theorem go_15:goFn Tryz.prog 15=true:=by kernel_rfl
theorem go_16:goFn Tryz.prog 16=true:=by kernel_rfl
theorem go_17:goFn Tryz.prog 17=true:=by kernel_rfl
theorem go_18:goFn Tryz.prog 18=true:=by kernel_rfl
theorem go_19:goFn Tryz.prog 19=true:=by kernel_rfl
theorem go_20:goFn Tryz.prog 20=true:=by kernel_rfl
theorem go_21:goFn Tryz.prog 21=true:=by kernel_rfl
theorem go_22:goFn Tryz.prog 22=true:=by kernel_rfl
theorem go_23:goFn Tryz.prog 23=true:=by kernel_rfl
theorem go_24:goFn Tryz.prog 24=true:=by kernel_rfl
theorem go_25:goFn Tryz.prog 25=true:=by kernel_rfl
theorem go_26:goFn Tryz.prog 26=true:=by kernel_rfl
theorem go_27:goFn Tryz.prog 27=true:=by kernel_rfl
theorem go_28:goFn Tryz.prog 28=true:=by kernel_rfl
theorem go_29:goFn Tryz.prog 29=true:=by kernel_rfl
theorem go_30:goFn Tryz.prog 30=true:=by kernel_rfl
theorem go_31:goFn Tryz.prog 31=true:=by kernel_rfl
theorem go_32:goFn Tryz.prog 32=true:=by kernel_rfl
theorem go_33:goFn Tryz.prog 33=true:=by kernel_rfl
theorem go_34:goFn Tryz.prog 34=true:=by kernel_rfl
theorem go_35:goFn Tryz.prog 35=true:=by kernel_rfl
theorem go_36:goFn Tryz.prog 36=true:=by kernel_rfl
theorem go_37:goFn Tryz.prog 37=true:=by kernel_rfl
theorem go_38:goFn Tryz.prog 38=true:=by kernel_rfl
theorem go_39:goFn Tryz.prog 39=true:=by kernel_rfl
theorem go_40:goFn Tryz.prog 40=true:=by kernel_rfl
theorem go_41:goFn Tryz.prog 41=true:=by kernel_rfl
theorem go_42:goFn Tryz.prog 42=true:=by kernel_rfl
theorem go_43:goFn Tryz.prog 43=true:=by kernel_rfl
theorem go_44:goFn Tryz.prog 44=true:=by kernel_rfl
theorem go_45:goFn Tryz.prog 45=true:=by kernel_rfl
theorem go_46:goFn Tryz.prog 46=true:=by kernel_rfl
theorem go_47:goFn Tryz.prog 47=true:=by kernel_rfl
theorem go_48:goFn Tryz.prog 48=true:=by kernel_rfl
theorem go_49:goFn Tryz.prog 49=true:=by kernel_rfl
theorem go_50:goFn Tryz.prog 50=true:=by kernel_rfl
theorem go_51:goFn Tryz.prog 51=true:=by kernel_rfl
theorem go_52:goFn Tryz.prog 52=true:=by kernel_rfl
theorem go_53:goFn Tryz.prog 53=true:=by kernel_rfl
theorem go_54:goFn Tryz.prog 54=true:=by kernel_rfl
theorem go_55:goFn Tryz.prog 55=true:=by kernel_rfl
theorem go_56:goFn Tryz.prog 56=true:=by kernel_rfl
theorem go_57:goFn Tryz.prog 57=true:=by kernel_rfl
theorem go_58:goFn Tryz.prog 58=true:=by kernel_rfl
theorem go_59:goFn Tryz.prog 59=true:=by kernel_rfl
theorem go_60:goFn Tryz.prog 60=true:=by kernel_rfl
theorem go_61:goFn Tryz.prog 61=true:=by kernel_rfl
theorem go_62:goFn Tryz.prog 62=true:=by kernel_rfl
theorem go_63:goFn Tryz.prog 63=true:=by kernel_rfl
theorem go_64:goFn Tryz.prog 64=true:=by kernel_rfl
theorem go_65:goFn Tryz.prog 65=true:=by kernel_rfl
theorem go_66:goFn Tryz.prog 66=true:=by kernel_rfl
theorem go_67:goFn Tryz.prog 67=true:=by kernel_rfl
theorem go_68:goFn Tryz.prog 68=true:=by kernel_rfl
theorem go_69:goFn Tryz.prog 69=true:=by kernel_rfl
theorem go_70:goFn Tryz.prog 70=true:=by kernel_rfl
theorem go_71:goFn Tryz.prog 71=true:=by kernel_rfl
theorem go_72:goFn Tryz.prog 72=true:=by kernel_rfl
theorem go_73:goFn Tryz.prog 73=true:=by kernel_rfl
theorem go_74:goFn Tryz.prog 74=true:=by kernel_rfl
theorem go_76:goFn Tryz.prog 76=true:=by kernel_rfl
theorem go_77:goFn Tryz.prog 77=true:=by kernel_rfl
theorem go_78:goFn Tryz.prog 78=true:=by kernel_rfl
theorem go_79:goFn Tryz.prog 79=true:=by kernel_rfl
theorem go_80:goFn Tryz.prog 80=true:=by kernel_rfl
theorem go_81:goFn Tryz.prog 81=true:=by kernel_rfl
theorem go_82:goFn Tryz.prog 82=true:=by kernel_rfl
theorem go_83:goFn Tryz.prog 83=true:=by kernel_rfl
theorem go_84:goFn Tryz.prog 84=true:=by kernel_rfl
theorem go_85:goFn Tryz.prog 85=true:=by kernel_rfl
theorem go_86:goFn Tryz.prog 86=true:=by kernel_rfl
theorem go_87:goFn Tryz.prog 87=true:=by kernel_rfl
theorem go_88:goFn Tryz.prog 88=true:=by kernel_rfl
theorem go_89:goFn Tryz.prog 89=true:=by kernel_rfl
theorem go_90:goFn Tryz.prog 90=true:=by kernel_rfl
theorem go_91:goFn Tryz.prog 91=true:=by kernel_rfl
theorem go_92:goFn Tryz.prog 92=true:=by kernel_rfl
theorem go_93:goFn Tryz.prog 93=true:=by kernel_rfl
theorem go_94:goFn Tryz.prog 94=true:=by kernel_rfl
theorem go_95:goFn Tryz.prog 95=true:=by kernel_rfl
theorem go_96:goFn Tryz.prog 96=true:=by kernel_rfl
theorem go_98:goFn Tryz.prog 98=true:=by kernel_rfl
theorem go_99:goFn Tryz.prog 99=true:=by kernel_rfl
theorem go_100:goFn Tryz.prog 100=true:=by kernel_rfl
theorem go_101:goFn Tryz.prog 101=true:=by kernel_rfl
theorem go_102:goFn Tryz.prog 102=true:=by kernel_rfl
theorem go_103:goFn Tryz.prog 103=true:=by kernel_rfl
theorem go_104:goFn Tryz.prog 104=true:=by kernel_rfl
theorem go_105:goFn Tryz.prog 105=true:=by kernel_rfl
theorem go_106:goFn Tryz.prog 106=true:=by kernel_rfl
theorem go_107:goFn Tryz.prog 107=true:=by kernel_rfl
theorem go_108:goFn Tryz.prog 108=true:=by kernel_rfl
theorem go_109:goFn Tryz.prog 109=true:=by kernel_rfl
theorem go_110:goFn Tryz.prog 110=true:=by kernel_rfl
theorem go_111:goFn Tryz.prog 111=true:=by kernel_rfl
theorem go_112:goFn Tryz.prog 112=true:=by kernel_rfl
theorem go_113:goFn Tryz.prog 113=true:=by kernel_rfl
theorem go_114:goFn Tryz.prog 114=true:=by kernel_rfl
theorem go_115:goFn Tryz.prog 115=true:=by kernel_rfl
theorem go_116:goFn Tryz.prog 116=true:=by kernel_rfl
theorem go_117:goFn Tryz.prog 117=true:=by kernel_rfl
theorem go_118:goFn Tryz.prog 118=true:=by kernel_rfl
theorem go_120:goFn Tryz.prog 120=true:=by kernel_rfl
theorem go_121:goFn Tryz.prog 121=true:=by kernel_rfl
theorem go_122:goFn Tryz.prog 122=true:=by kernel_rfl
theorem go_123:goFn Tryz.prog 123=true:=by kernel_rfl
theorem go_124:goFn Tryz.prog 124=true:=by kernel_rfl
theorem go_125:goFn Tryz.prog 125=true:=by kernel_rfl
theorem go_126:goFn Tryz.prog 126=true:=by kernel_rfl
theorem go_127:goFn Tryz.prog 127=true:=by kernel_rfl
theorem go_128:goFn Tryz.prog 128=true:=by kernel_rfl
theorem go_129:goFn Tryz.prog 129=true:=by kernel_rfl
theorem go_130:goFn Tryz.prog 130=true:=by kernel_rfl
theorem go_131:goFn Tryz.prog 131=true:=by kernel_rfl
theorem go_132:goFn Tryz.prog 132=true:=by kernel_rfl
theorem go_137:goFn Tryz.prog 137=true:=by kernel_rfl
theorem go_138:goFn Tryz.prog 138=true:=by kernel_rfl
theorem go_139:goFn Tryz.prog 139=true:=by kernel_rfl
theorem go_140:goFn Tryz.prog 140=true:=by kernel_rfl
theorem go_141:goFn Tryz.prog 141=true:=by kernel_rfl
theorem go_142:goFn Tryz.prog 142=true:=by kernel_rfl
theorem go_143:goFn Tryz.prog 143=true:=by kernel_rfl
theorem go_144:goFn Tryz.prog 144=true:=by kernel_rfl
theorem go_145:goFn Tryz.prog 145=true:=by kernel_rfl
theorem go_146:goFn Tryz.prog 146=true:=by kernel_rfl
theorem go_147:goFn Tryz.prog 147=true:=by kernel_rfl
theorem go_148:goFn Tryz.prog 148=true:=by kernel_rfl
theorem go_149:goFn Tryz.prog 149=true:=by kernel_rfl
theorem go_150:goFn Tryz.prog 150=true:=by kernel_rfl
theorem go_151:goFn Tryz.prog 151=true:=by kernel_rfl
theorem go_152:goFn Tryz.prog 152=true:=by kernel_rfl
theorem go_153:goFn Tryz.prog 153=true:=by kernel_rfl
theorem go_154:goFn Tryz.prog 154=true:=by kernel_rfl
theorem go_156:goFn Tryz.prog 156=true:=by kernel_rfl
theorem go_157:goFn Tryz.prog 157=true:=by kernel_rfl
theorem go_158:goFn Tryz.prog 158=true:=by kernel_rfl
theorem go_159:goFn Tryz.prog 159=true:=by kernel_rfl
theorem go_160:goFn Tryz.prog 160=true:=by kernel_rfl
theorem go_161:goFn Tryz.prog 161=true:=by kernel_rfl
theorem go_162:goFn Tryz.prog 162=true:=by kernel_rfl
theorem go_163:goFn Tryz.prog 163=true:=by kernel_rfl
theorem go_164:goFn Tryz.prog 164=true:=by kernel_rfl
theorem go_165:goFn Tryz.prog 165=true:=by kernel_rfl
theorem go_166:goFn Tryz.prog 166=true:=by kernel_rfl
theorem go_167:goFn Tryz.prog 167=true:=by kernel_rfl
theorem go_168:goFn Tryz.prog 168=true:=by kernel_rfl
theorem go_169:goFn Tryz.prog 169=true:=by kernel_rfl
theorem go_172:goFn Tryz.prog 172=true:=by kernel_rfl
theorem go_173:goFn Tryz.prog 173=true:=by kernel_rfl
theorem go_180:goFn Tryz.prog 180=true:=by kernel_rfl
theorem go_181:goFn Tryz.prog 181=true:=by kernel_rfl
theorem go_182:goFn Tryz.prog 182=true:=by kernel_rfl
theorem go_183:goFn Tryz.prog 183=true:=by kernel_rfl
theorem go_184:goFn Tryz.prog 184=true:=by kernel_rfl
theorem go_185:goFn Tryz.prog 185=true:=by kernel_rfl
theorem go_186:goFn Tryz.prog 186=true:=by kernel_rfl
theorem go_187:goFn Tryz.prog 187=true:=by kernel_rfl
theorem go_188:goFn Tryz.prog 188=true:=by kernel_rfl
theorem go_189:goFn Tryz.prog 189=true:=by kernel_rfl
theorem go_190:goFn Tryz.prog 190=true:=by kernel_rfl
theorem go_191:goFn Tryz.prog 191=true:=by kernel_rfl
theorem go_195:goFn Tryz.prog 195=true:=by kernel_rfl
theorem go_196:goFn Tryz.prog 196=true:=by kernel_rfl
theorem go_197:goFn Tryz.prog 197=true:=by kernel_rfl
theorem go_198:goFn Tryz.prog 198=true:=by kernel_rfl
theorem go_199:goFn Tryz.prog 199=true:=by kernel_rfl
theorem go_204:goFn Tryz.prog 204=true:=by kernel_rfl
instance : TPlain Tryz.prog 1 := ⟨ty_plain_1⟩
instance : TSize Tryz.prog 1 1 := ⟨ty_size_1⟩
instance : TPlain Tryz.prog 2 := ⟨ty_plain_2⟩
instance : TSize Tryz.prog 2 1 := ⟨ty_size_2⟩
instance : TPlain Tryz.prog 3 := ⟨ty_plain_3⟩
instance : TSize Tryz.prog 3 1 := ⟨ty_size_3⟩
instance : TPlain Tryz.prog 4 := ⟨ty_plain_4⟩
instance : TSize Tryz.prog 4 1 := ⟨ty_size_4⟩
instance : TPlain Tryz.prog 5 := ⟨ty_plain_5⟩
instance : TSize Tryz.prog 5 1 := ⟨ty_size_5⟩
instance : TPlain Tryz.prog 6 := ⟨ty_plain_6⟩
instance : TSize Tryz.prog 6 1 := ⟨ty_size_6⟩
instance : TAgg Tryz.prog 7 := ⟨ty_agg_7⟩
instance : TBld Tryz.prog 7 ([(0, 1), (1, 1), (2, 1), (3, 1)], [.int .i64 0, .int .i64 0, .bool false, .int .u8 0]) := ⟨ty_bld_7⟩
instance : TField Tryz.prog 7 0 0 0 := ⟨ty_field_7_0⟩
instance : TField Tryz.prog 7 1 1 0 := ⟨ty_field_7_1⟩
instance : TField Tryz.prog 7 2 2 0 := ⟨ty_field_7_2⟩
instance : TField Tryz.prog 7 3 3 0 := ⟨ty_field_7_3⟩
instance : TSize Tryz.prog 7 4 := ⟨ty_size_7⟩
instance : TPlain Tryz.prog 9 := ⟨ty_plain_9⟩
instance : TSize Tryz.prog 9 1 := ⟨ty_size_9⟩
instance : TStr Tryz.prog 9 := ⟨ty_str_9⟩
instance : TPlain Tryz.prog 22 := ⟨ty_plain_22⟩
instance : TSize Tryz.prog 22 1 := ⟨ty_size_22⟩
instance : TPlain Tryz.prog 25 := ⟨ty_plain_25⟩
instance : TSize Tryz.prog 25 1 := ⟨ty_size_25⟩
instance : TPlain Tryz.prog 26 := ⟨ty_plain_26⟩
instance : TSize Tryz.prog 26 1 := ⟨ty_size_26⟩
instance : TAgg Tryz.prog 28 := ⟨ty_agg_28⟩
instance : TBld Tryz.prog 28 ([(0, 1), (1, 1), (2, 1), (3, 1), (4, 1)], [.int .i64 0, .slice none 0 0, .slice none 0 0, .int .i64 0, .bool false]) := ⟨ty_bld_28⟩
instance : TField Tryz.prog 28 0 0 0 := ⟨ty_field_28_0⟩
instance : TField Tryz.prog 28 1 1 0 := ⟨ty_field_28_1⟩
instance : TField Tryz.prog 28 2 2 0 := ⟨ty_field_28_2⟩
instance : TField Tryz.prog 28 3 3 0 := ⟨ty_field_28_3⟩
instance : TField Tryz.prog 28 4 4 0 := ⟨ty_field_28_4⟩
instance : TSize Tryz.prog 28 5 := ⟨ty_size_28⟩
instance : TPlain Tryz.prog 29 := ⟨ty_plain_29⟩
instance : TSize Tryz.prog 29 1 := ⟨ty_size_29⟩
instance : TPlain Tryz.prog 33 := ⟨ty_plain_33⟩
instance : TSize Tryz.prog 33 1 := ⟨ty_size_33⟩
instance : TAgg Tryz.prog 35 := ⟨ty_agg_35⟩
instance : TBld Tryz.prog 35 ([(0, 1), (1, 1), (2, 1)], [.int .u64 0, .int .u64 0, .int .i64 0]) := ⟨ty_bld_35⟩
instance : TField Tryz.prog 35 0 0 0 := ⟨ty_field_35_0⟩
instance : TField Tryz.prog 35 1 1 0 := ⟨ty_field_35_1⟩
instance : TField Tryz.prog 35 2 2 0 := ⟨ty_field_35_2⟩
instance : TSize Tryz.prog 35 3 := ⟨ty_size_35⟩
instance : TPlain Tryz.prog 38 := ⟨ty_plain_38⟩
instance : TSize Tryz.prog 38 1 := ⟨ty_size_38⟩
instance : TPlain Tryz.prog 46 := ⟨ty_plain_46⟩
instance : TSize Tryz.prog 46 1 := ⟨ty_size_46⟩
instance : TAgg Tryz.prog 49 := ⟨ty_agg_49⟩
instance : TBld Tryz.prog 49 ([(0, 1), (1, 1)], [.string ByteArray.empty, .int .i64 0]) := ⟨ty_bld_49⟩
instance : TField Tryz.prog 49 0 0 0 := ⟨ty_field_49_0⟩
instance : TField Tryz.prog 49 1 1 0 := ⟨ty_field_49_1⟩
instance : TSize Tryz.prog 49 2 := ⟨ty_size_49⟩
instance : TPlain Tryz.prog 55 := ⟨ty_plain_55⟩
instance : TSize Tryz.prog 55 1 := ⟨ty_size_55⟩
instance : TPlain Tryz.prog 56 := ⟨ty_plain_56⟩
instance : TSize Tryz.prog 56 1 := ⟨ty_size_56⟩
instance : TBytes Tryz.prog 56 5 := ⟨ty_bytes_56⟩
instance : TAgg Tryz.prog 58 := ⟨ty_agg_58⟩
instance : TBld Tryz.prog 58 ([(0, 1), (1, 1)], [.pointer none, .slice none 0 0]) := ⟨ty_bld_58⟩
instance : TField Tryz.prog 58 0 0 0 := ⟨ty_field_58_0⟩
instance : TField Tryz.prog 58 1 1 0 := ⟨ty_field_58_1⟩
instance : TSize Tryz.prog 58 2 := ⟨ty_size_58⟩
instance : TPlain Tryz.prog 61 := ⟨ty_plain_61⟩
instance : TSize Tryz.prog 61 1 := ⟨ty_size_61⟩
instance : TPlain Tryz.prog 66 := ⟨ty_plain_66⟩
instance : TSize Tryz.prog 66 1 := ⟨ty_size_66⟩
instance : TPlain Tryz.prog 71 := ⟨ty_plain_71⟩
instance : TSize Tryz.prog 71 1 := ⟨ty_size_71⟩
instance : TAgg Tryz.prog 72 := ⟨ty_agg_72⟩
instance : TSize Tryz.prog 72 4 := ⟨ty_size_72⟩
instance : TPlain Tryz.prog 77 := ⟨ty_plain_77⟩
instance : TSize Tryz.prog 77 1 := ⟨ty_size_77⟩
instance : TPlain Tryz.prog 80 := ⟨ty_plain_80⟩
instance : TSize Tryz.prog 80 1 := ⟨ty_size_80⟩
instance : TPlain Tryz.prog 85 := ⟨ty_plain_85⟩
instance : TSize Tryz.prog 85 1 := ⟨ty_size_85⟩
instance : TPlain Tryz.prog 87 := ⟨ty_plain_87⟩
instance : TSize Tryz.prog 87 1 := ⟨ty_size_87⟩
instance : TPlain Tryz.prog 89 := ⟨ty_plain_89⟩
instance : TSize Tryz.prog 89 1 := ⟨ty_size_89⟩
instance : TAgg Tryz.prog 91 := ⟨ty_agg_91⟩
instance : TBld Tryz.prog 91 ([(0, 1), (1, 1), (2, 1)], [.slice none 0 0, .int .u64 0, .int .i64 0]) := ⟨ty_bld_91⟩
instance : TField Tryz.prog 91 0 0 0 := ⟨ty_field_91_0⟩
instance : TField Tryz.prog 91 1 1 0 := ⟨ty_field_91_1⟩
instance : TField Tryz.prog 91 2 2 0 := ⟨ty_field_91_2⟩
instance : TSize Tryz.prog 91 3 := ⟨ty_size_91⟩
instance : TPlain Tryz.prog 96 := ⟨ty_plain_96⟩
instance : TSize Tryz.prog 96 1 := ⟨ty_size_96⟩
instance : TAgg Tryz.prog 100 := ⟨ty_agg_100⟩
instance : TBld Tryz.prog 100 ([(0, 5)], [.int .i64 0, .slice none 0 0, .slice none 0 0, .int .i64 0, .bool false]) := ⟨ty_bld_100⟩
instance : TField Tryz.prog 100 0 0 4 := ⟨ty_field_100_0⟩
instance : TSize Tryz.prog 100 5 := ⟨ty_size_100⟩
instance : TPlain Tryz.prog 102 := ⟨ty_plain_102⟩
instance : TSize Tryz.prog 102 1 := ⟨ty_size_102⟩
instance : TAgg Tryz.prog 103 := ⟨ty_agg_103⟩
instance : TSize Tryz.prog 103 5 := ⟨ty_size_103⟩
instance : TPlain Tryz.prog 111 := ⟨ty_plain_111⟩
instance : TSize Tryz.prog 111 1 := ⟨ty_size_111⟩
instance : TAgg Tryz.prog 113 := ⟨ty_agg_113⟩
instance : TBld Tryz.prog 113 ([(0, 1), (1, 5), (6, 1), (7, 3)], [.pointer none, .int .i64 0, .slice none 0 0, .slice none 0 0, .int .i64 0, .bool false, .slice none 0 0, .int .u64 0, .int .u64 0, .int .i64 0]) := ⟨ty_bld_113⟩
instance : TField Tryz.prog 113 0 0 0 := ⟨ty_field_113_0⟩
instance : TField Tryz.prog 113 1 1 4 := ⟨ty_field_113_1⟩
instance : TField Tryz.prog 113 2 6 0 := ⟨ty_field_113_2⟩
instance : TField Tryz.prog 113 3 7 2 := ⟨ty_field_113_3⟩
instance : TSize Tryz.prog 113 10 := ⟨ty_size_113⟩
instance : TPlain Tryz.prog 116 := ⟨ty_plain_116⟩
instance : TSize Tryz.prog 116 1 := ⟨ty_size_116⟩
instance : TPlain Tryz.prog 120 := ⟨ty_plain_120⟩
instance : TSize Tryz.prog 120 1 := ⟨ty_size_120⟩
instance : TAgg Tryz.prog 122 := ⟨ty_agg_122⟩
instance : TBld Tryz.prog 122 ([(0, 1), (1, 1), (2, 1), (3, 1), (4, 1), (5, 1)], [.pointer none, .slice none 0 0, .int .u64 0, .int .u64 0, .int .u64 0, .int .i64 0]) := ⟨ty_bld_122⟩
instance : TField Tryz.prog 122 0 0 0 := ⟨ty_field_122_0⟩
instance : TField Tryz.prog 122 1 1 0 := ⟨ty_field_122_1⟩
instance : TField Tryz.prog 122 2 2 0 := ⟨ty_field_122_2⟩
instance : TField Tryz.prog 122 3 3 0 := ⟨ty_field_122_3⟩
instance : TField Tryz.prog 122 4 4 0 := ⟨ty_field_122_4⟩
instance : TField Tryz.prog 122 5 5 0 := ⟨ty_field_122_5⟩
instance : TSize Tryz.prog 122 6 := ⟨ty_size_122⟩
instance : TAgg Tryz.prog 124 := ⟨ty_agg_124⟩
instance : TBld Tryz.prog 124 ([(0, 1), (1, 1), (2, 1), (3, 1), (4, 1), (5, 1), (6, 1), (7, 1)], [.pointer none, .string ByteArray.empty, .int .i64 0, .int .u64 0, .int .i64 0, .int .i64 0, .int .i64 0, .int .i64 0]) := ⟨ty_bld_124⟩
instance : TField Tryz.prog 124 0 0 0 := ⟨ty_field_124_0⟩
instance : TField Tryz.prog 124 1 1 0 := ⟨ty_field_124_1⟩
instance : TField Tryz.prog 124 2 2 0 := ⟨ty_field_124_2⟩
instance : TField Tryz.prog 124 3 3 0 := ⟨ty_field_124_3⟩
instance : TField Tryz.prog 124 4 4 0 := ⟨ty_field_124_4⟩
instance : TField Tryz.prog 124 5 5 0 := ⟨ty_field_124_5⟩
instance : TField Tryz.prog 124 6 6 0 := ⟨ty_field_124_6⟩
instance : TField Tryz.prog 124 7 7 0 := ⟨ty_field_124_7⟩
instance : TSize Tryz.prog 124 8 := ⟨ty_size_124⟩
instance : TAgg Tryz.prog 127 := ⟨ty_agg_127⟩
instance : TBld Tryz.prog 127 ([(0, 1), (1, 1)], [.string ByteArray.empty, .string ByteArray.empty]) := ⟨ty_bld_127⟩
instance : TField Tryz.prog 127 0 0 0 := ⟨ty_field_127_0⟩
instance : TField Tryz.prog 127 1 1 0 := ⟨ty_field_127_1⟩
instance : TSize Tryz.prog 127 2 := ⟨ty_size_127⟩
instance : TPlain Tryz.prog 128 := ⟨ty_plain_128⟩
instance : TSize Tryz.prog 128 1 := ⟨ty_size_128⟩
instance : TPlain Tryz.prog 132 := ⟨ty_plain_132⟩
instance : TSize Tryz.prog 132 1 := ⟨ty_size_132⟩
instance : TAgg Tryz.prog 134 := ⟨ty_agg_134⟩
instance : TBld Tryz.prog 134 ([(0, 1), (1, 1)], [.string ByteArray.empty, .nilIface]) := ⟨ty_bld_134⟩
instance : TField Tryz.prog 134 0 0 0 := ⟨ty_field_134_0⟩
instance : TField Tryz.prog 134 1 1 0 := ⟨ty_field_134_1⟩
instance : TSize Tryz.prog 134 2 := ⟨ty_size_134⟩
instance : TPlain Tryz.prog 135 := ⟨ty_plain_135⟩
instance : TSize Tryz.prog 135 1 := ⟨ty_size_135⟩
instance : TAgg Tryz.prog 139 := ⟨ty_agg_139⟩
instance : TBld Tryz.prog 139 ([(0, 1), (1, 1)], [.pointer none, .slice none 0 0]) := ⟨ty_bld_139⟩
instance : TField Tryz.prog 139 0 0 0 := ⟨ty_field_139_0⟩
instance : TField Tryz.prog 139 1 1 0 := ⟨ty_field_139_1⟩
instance : TSize Tryz.prog 139 2 := ⟨ty_size_139⟩
instance : TPlain Tryz.prog 140 := ⟨ty_plain_140⟩
instance : TSize Tryz.prog 140 1 := ⟨ty_size_140⟩
instance : TPlain Tryz.prog 143 := ⟨ty_plain_143⟩
instance : TSize Tryz.prog 143 1 := ⟨ty_size_143⟩
instance : TPlain Tryz.prog 152 := ⟨ty_plain_152⟩
instance : TSize Tryz.prog 152 1 := ⟨ty_size_152⟩
instance : TAgg Tryz.prog 154 := ⟨ty_agg_154⟩
instance : TBld Tryz.prog 154 ([(0, 2)], [.string ByteArray.empty, .int .i64 0]) := ⟨ty_bld_154⟩
instance : TField Tryz.prog 154 0 0 1 := ⟨ty_field_154_0⟩
instance : TSize Tryz.prog 154 2 := ⟨ty_size_154⟩
instance : TSize Tryz.prog 159 1 := ⟨ty_size_159⟩
instance : TAgg Tryz.prog 168 := ⟨ty_agg_168⟩
instance : TBld Tryz.prog 168 ([(0, 1), (1, 1), (2, 1)], [.string ByteArray.empty, .int .i64 0, .string ByteArray.empty]) := ⟨ty_bld_168⟩
instance : TField Tryz.prog 168 0 0 0 := ⟨ty_field_168_0⟩
instance : TField Tryz.prog 168 1 1 0 := ⟨ty_field_168_1⟩
instance : TField Tryz.prog 168 2 2 0 := ⟨ty_field_168_2⟩
instance : TSize Tryz.prog 168 3 := ⟨ty_size_168⟩
instance : TPlain Tryz.prog 178 := ⟨ty_plain_178⟩
instance : TSize Tryz.prog 178 1 := ⟨ty_size_178⟩
instance : TPlain Tryz.prog 185 := ⟨ty_plain_185⟩
instance : TSize Tryz.prog 185 1 := ⟨ty_size_185⟩
instance : TPlain Tryz.prog 192 := ⟨ty_plain_192⟩
instance : TSize Tryz.prog 192 1 := ⟨ty_size_192⟩
instance : TAgg Tryz.prog 196 := ⟨ty_agg_196⟩
instance : TBld Tryz.prog 196 ([(0, 1), (1, 1)], [.slice none 0 0, .slice none 0 0]) := ⟨ty_bld_196⟩
instance : TField Tryz.prog 196 0 0 0 := ⟨ty_field_196_0⟩
instance : TField Tryz.prog 196 1 1 0 := ⟨ty_field_196_1⟩
instance : TSize Tryz.prog 196 2 := ⟨ty_size_196⟩
instance : TAgg Tryz.prog 198 := ⟨ty_agg_198⟩
instance : TBld Tryz.prog 198 ([(0, 2)], [.slice none 0 0, .slice none 0 0]) := ⟨ty_bld_198⟩
instance : TField Tryz.prog 198 0 0 1 := ⟨ty_field_198_0⟩
instance : TSize Tryz.prog 198 2 := ⟨ty_size_198⟩
instance : TAgg Tryz.prog 201 := ⟨ty_agg_201⟩
instance : TBld Tryz.prog 201 ([(0, 1), (1, 1), (2, 1), (3, 1), (4, 1), (5, 1), (6, 1)], [.pointer none, .string ByteArray.empty, .int .i64 0, .int .u64 0, .int .i64 0, .int .i64 0, .int .i64 0]) := ⟨ty_bld_201⟩
instance : TField Tryz.prog 201 0 0 0 := ⟨ty_field_201_0⟩
instance : TField Tryz.prog 201 1 1 0 := ⟨ty_field_201_1⟩
instance : TField Tryz.prog 201 2 2 0 := ⟨ty_field_201_2⟩
instance : TField Tryz.prog 201 3 3 0 := ⟨ty_field_201_3⟩
instance : TField Tryz.prog 201 4 4 0 := ⟨ty_field_201_4⟩
instance : TField Tryz.prog 201 5 5 0 := ⟨ty_field_201_5⟩
instance : TField Tryz.prog 201 6 6 0 := ⟨ty_field_201_6⟩
instance : TSize Tryz.prog 201 7 := ⟨ty_size_201⟩
instance : TPlain Tryz.prog 206 := ⟨ty_plain_206⟩
instance : TSize Tryz.prog 206 1 := ⟨ty_size_206⟩
instance : TPlain Tryz.prog 213 := ⟨ty_plain_213⟩
instance : TSize Tryz.prog 213 1 := ⟨ty_size_213⟩
instance : TPlain Tryz.prog 222 := ⟨ty_plain_222⟩
instance : TSize Tryz.prog 222 1 := ⟨ty_size_222⟩
instance : TAgg Tryz.prog 226 := ⟨ty_agg_226⟩
instance : TBld Tryz.prog 226 ([(0, 1), (1, 1), (2, 1), (3, 1), (4, 1), (5, 1), (6, 1)], [.string ByteArray.empty, .int .i64 0, .string ByteArray.empty, .int .i64 0, .bool false, .int .u64 0, .bool false]) := ⟨ty_bld_226⟩
instance : TField Tryz.prog 226 0 0 0 := ⟨ty_field_226_0⟩
instance : TField Tryz.prog 226 1 1 0 := ⟨ty_field_226_1⟩
instance : TField Tryz.prog 226 2 2 0 := ⟨ty_field_226_2⟩
instance : TField Tryz.prog 226 3 3 0 := ⟨ty_field_226_3⟩
instance : TField Tryz.prog 226 4 4 0 := ⟨ty_field_226_4⟩
instance : TField Tryz.prog 226 5 5 0 := ⟨ty_field_226_5⟩
instance : TField Tryz.prog 226 6 6 0 := ⟨ty_field_226_6⟩
instance : TSize Tryz.prog 226 7 := ⟨ty_size_226⟩
instance : TPlain Tryz.prog 252 := ⟨ty_plain_252⟩
instance : TSize Tryz.prog 252 1 := ⟨ty_size_252⟩
instance : TPlain Tryz.prog 253 := ⟨ty_plain_253⟩
instance : TSize Tryz.prog 253 1 := ⟨ty_size_253⟩
instance : TAgg Tryz.prog 256 := ⟨ty_agg_256⟩
instance : TSize Tryz.prog 256 256 := ⟨ty_size_256⟩
instance : TPlain Tryz.prog 287 := ⟨ty_plain_287⟩
instance : TSize Tryz.prog 287 1 := ⟨ty_size_287⟩
instance : TPlain Tryz.prog 295 := ⟨ty_plain_295⟩
instance : TSize Tryz.prog 295 1 := ⟨ty_size_295⟩
instance : TPlain Tryz.prog 299 := ⟨ty_plain_299⟩
instance : TSize Tryz.prog 299 1 := ⟨ty_size_299⟩
instance : TPlain Tryz.prog 307 := ⟨ty_plain_307⟩
instance : TSize Tryz.prog 307 1 := ⟨ty_size_307⟩
instance : TGo Tryz.prog 3 := ⟨go_3⟩
instance : TGo Tryz.prog 4 := ⟨go_4⟩
instance : TGo Tryz.prog 5 := ⟨go_5⟩
instance : TGo Tryz.prog 6 := ⟨go_6⟩
instance : TGo Tryz.prog 7 := ⟨go_7⟩
instance : TGo Tryz.prog 8 := ⟨go_8⟩
instance : TGo Tryz.prog 9 := ⟨go_9⟩
instance : TGo Tryz.prog 10 := ⟨go_10⟩
instance : TGo Tryz.prog 11 := ⟨go_11⟩
instance : TGo Tryz.prog 12 := ⟨go_12⟩
instance : TGo Tryz.prog 13 := ⟨go_13⟩
instance : TGo Tryz.prog 14 := ⟨go_14⟩
instance : TGo Tryz.prog 15 := ⟨go_15⟩
instance : TGo Tryz.prog 16 := ⟨go_16⟩
instance : TGo Tryz.prog 17 := ⟨go_17⟩
instance : TGo Tryz.prog 18 := ⟨go_18⟩
instance : TGo Tryz.prog 19 := ⟨go_19⟩
instance : TGo Tryz.prog 20 := ⟨go_20⟩
instance : TGo Tryz.prog 21 := ⟨go_21⟩
instance : TGo Tryz.prog 22 := ⟨go_22⟩
instance : TGo Tryz.prog 23 := ⟨go_23⟩
instance : TGo Tryz.prog 24 := ⟨go_24⟩
instance : TGo Tryz.prog 25 := ⟨go_25⟩
instance : TGo Tryz.prog 26 := ⟨go_26⟩
instance : TGo Tryz.prog 27 := ⟨go_27⟩
instance : TGo Tryz.prog 28 := ⟨go_28⟩
instance : TGo Tryz.prog 29 := ⟨go_29⟩
instance : TGo Tryz.prog 30 := ⟨go_30⟩
instance : TGo Tryz.prog 31 := ⟨go_31⟩
instance : TGo Tryz.prog 32 := ⟨go_32⟩
instance : TGo Tryz.prog 33 := ⟨go_33⟩
instance : TGo Tryz.prog 34 := ⟨go_34⟩
instance : TGo Tryz.prog 35 := ⟨go_35⟩
instance : TGo Tryz.prog 36 := ⟨go_36⟩
instance : TGo Tryz.prog 37 := ⟨go_37⟩
instance : TGo Tryz.prog 38 := ⟨go_38⟩
instance : TGo Tryz.prog 39 := ⟨go_39⟩
instance : TGo Tryz.prog 40 := ⟨go_40⟩
instance : TGo Tryz.prog 41 := ⟨go_41⟩
instance : TGo Tryz.prog 42 := ⟨go_42⟩
instance : TGo Tryz.prog 43 := ⟨go_43⟩
instance : TGo Tryz.prog 44 := ⟨go_44⟩
instance : TGo Tryz.prog 45 := ⟨go_45⟩
instance : TGo Tryz.prog 46 := ⟨go_46⟩
instance : TGo Tryz.prog 47 := ⟨go_47⟩
instance : TGo Tryz.prog 48 := ⟨go_48⟩
instance : TGo Tryz.prog 49 := ⟨go_49⟩
instance : TGo Tryz.prog 50 := ⟨go_50⟩
instance : TGo Tryz.prog 51 := ⟨go_51⟩
instance : TGo Tryz.prog 52 := ⟨go_52⟩
instance : TGo Tryz.prog 53 := ⟨go_53⟩
instance : TGo Tryz.prog 54 := ⟨go_54⟩
instance : TGo Tryz.prog 55 := ⟨go_55⟩
instance : TGo Tryz.prog 56 := ⟨go_56⟩
instance : TGo Tryz.prog 57 := ⟨go_57⟩
instance : TGo Tryz.prog 58 := ⟨go_58⟩
instance : TGo Tryz.prog 59 := ⟨go_59⟩
instance : TGo Tryz.prog 60 := ⟨go_60⟩
instance : TGo Tryz.prog 61 := ⟨go_61⟩
instance : TGo Tryz.prog 62 := ⟨go_62⟩
instance : TGo Tryz.prog 63 := ⟨go_63⟩
instance : TGo Tryz.prog 64 := ⟨go_64⟩
instance : TGo Tryz.prog 65 := ⟨go_65⟩
instance : TGo Tryz.prog 66 := ⟨go_66⟩
instance : TGo Tryz.prog 67 := ⟨go_67⟩
instance : TGo Tryz.prog 68 := ⟨go_68⟩
instance : TGo Tryz.prog 69 := ⟨go_69⟩
instance : TGo Tryz.prog 70 := ⟨go_70⟩
instance : TGo Tryz.prog 71 := ⟨go_71⟩
instance : TGo Tryz.prog 72 := ⟨go_72⟩
instance : TGo Tryz.prog 73 := ⟨go_73⟩
instance : TGo Tryz.prog 74 := ⟨go_74⟩
instance : TGo Tryz.prog 76 := ⟨go_76⟩
instance : TGo Tryz.prog 77 := ⟨go_77⟩
instance : TGo Tryz.prog 78 := ⟨go_78⟩
instance : TGo Tryz.prog 79 := ⟨go_79⟩
instance : TGo Tryz.prog 80 := ⟨go_80⟩
instance : TGo Tryz.prog 81 := ⟨go_81⟩
instance : TGo Tryz.prog 82 := ⟨go_82⟩
instance : TGo Tryz.prog 83 := ⟨go_83⟩
instance : TGo Tryz.prog 84 := ⟨go_84⟩
instance : TGo Tryz.prog 85 := ⟨go_85⟩
instance : TGo Tryz.prog 86 := ⟨go_86⟩
instance : TGo Tryz.prog 87 := ⟨go_87⟩
instance : TGo Tryz.prog 88 := ⟨go_88⟩
instance : TGo Tryz.prog 89 := ⟨go_89⟩
instance : TGo Tryz.prog 90 := ⟨go_90⟩
instance : TGo Tryz.prog 91 := ⟨go_91⟩
instance : TGo Tryz.prog 92 := ⟨go_92⟩
instance : TGo Tryz.prog 93 := ⟨go_93⟩
instance : TGo Tryz.prog 94 := ⟨go_94⟩
instance : TGo Tryz.prog 95 := ⟨go_95⟩
instance : TGo Tryz.prog 96 := ⟨go_96⟩
instance : TGo Tryz.prog 98 := ⟨go_98⟩
instance : TGo Tryz.prog 99 := ⟨go_99⟩
instance : TGo Tryz.prog 100 := ⟨go_100⟩
instance : TGo Tryz.prog 101 := ⟨go_101⟩
instance : TGo Tryz.prog 102 := ⟨go_102⟩
instance : TGo Tryz.prog 103 := ⟨go_103⟩
instance : TGo Tryz.prog 104 := ⟨go_104⟩
instance : TGo Tryz.prog 105 := ⟨go_105⟩
instance : TGo Tryz.prog 106 := ⟨go_106⟩
instance : TGo Tryz.prog 107 := ⟨go_107⟩
instance : TGo Tryz.prog 108 := ⟨go_108⟩
instance : TGo Tryz.prog 109 := ⟨go_109⟩
instance : TGo Tryz.prog 110 := ⟨go_110⟩
instance : TGo Tryz.prog 111 := ⟨go_111⟩
instance : TGo Tryz.prog 112 := ⟨go_112⟩
instance : TGo Tryz.prog 113 := ⟨go_113⟩
instance : TGo Tryz.prog 114 := ⟨go_114⟩
instance : TGo Tryz.prog 115 := ⟨go_115⟩
instance : TGo Tryz.prog 116 := ⟨go_116⟩
instance : TGo Tryz.prog 117 := ⟨go_117⟩
instance : TGo Tryz.prog 118 := ⟨go_118⟩
instance : TGo Tryz.prog 120 := ⟨go_120⟩
instance : TGo Tryz.prog 121 := ⟨go_121⟩
instance : TGo Tryz.prog 122 := ⟨go_122⟩
instance : TGo Tryz.prog 123 := ⟨go_123⟩
instance : TGo Tryz.prog 124 := ⟨go_124⟩
instance : TGo Tryz.prog 125 := ⟨go_125⟩
instance : TGo Tryz.prog 126 := ⟨go_126⟩
instance : TGo Tryz.prog 127 := ⟨go_127⟩
instance : TGo Tryz.prog 128 := ⟨go_128⟩
instance : TGo Tryz.prog 129 := ⟨go_129⟩
instance : TGo Tryz.prog 130 := ⟨go_130⟩
instance : TGo Tryz.prog 131 := ⟨go_131⟩
instance : TGo Tryz.prog 132 := ⟨go_132⟩
instance : TGo Tryz.prog 137 := ⟨go_137⟩
instance : TGo Tryz.prog 138 := ⟨go_138⟩
instance : TGo Tryz.prog 139 := ⟨go_139⟩
instance : TGo Tryz.prog 140 := ⟨go_140⟩
instance : TGo Tryz.prog 141 := ⟨go_141⟩
instance : TGo Tryz.prog 142 := ⟨go_142⟩
instance : TGo Tryz.prog 143 := ⟨go_143⟩
instance : TGo Tryz.prog 144 := ⟨go_144⟩
instance : TGo Tryz.prog 145 := ⟨go_145⟩
instance : TGo Tryz.prog 146 := ⟨go_146⟩
instance : TGo Tryz.prog 147 := ⟨go_147⟩
instance : TGo Tryz.prog 148 := ⟨go_148⟩
instance : TGo Tryz.prog 149 := ⟨go_149⟩
instance : TGo Tryz.prog 150 := ⟨go_150⟩
instance : TGo Tryz.prog 151 := ⟨go_151⟩
instance : TGo Tryz.prog 152 := ⟨go_152⟩
instance : TGo Tryz.prog 153 := ⟨go_153⟩
instance : TGo Tryz.prog 154 := ⟨go_154⟩
instance : TGo Tryz.prog 156 := ⟨go_156⟩
instance : TGo Tryz.prog 157 := ⟨go_157⟩
instance : TGo Tryz.prog 158 := ⟨go_158⟩
instance : TGo Tryz.prog 159 := ⟨go_159⟩
instance : TGo Tryz.prog 160 := ⟨go_160⟩
instance : TGo Tryz.prog 161 := ⟨go_161⟩
instance : TGo Tryz.prog 162 := ⟨go_162⟩
instance : TGo Tryz.prog 163 := ⟨go_163⟩
instance : TGo Tryz.prog 164 := ⟨go_164⟩
instance : TGo Tryz.prog 165 := ⟨go_165⟩
instance : TGo Tryz.prog 166 := ⟨go_166⟩
instance : TGo Tryz.prog 167 := ⟨go_167⟩
instance : TGo Tryz.prog 168 := ⟨go_168⟩
instance : TGo Tryz.prog 169 := ⟨go_169⟩
instance : TGo Tryz.prog 172 := ⟨go_172⟩
instance : TGo Tryz.prog 173 := ⟨go_173⟩
instance : TGo Tryz.prog 180 := ⟨go_180⟩
instance : TGo Tryz.prog 181 := ⟨go_181⟩
instance : TGo Tryz.prog 182 := ⟨go_182⟩
instance : TGo Tryz.prog 183 := ⟨go_183⟩
instance : TGo Tryz.prog 184 := ⟨go_184⟩
instance : TGo Tryz.prog 185 := ⟨go_185⟩
instance : TGo Tryz.prog 186 := ⟨go_186⟩
instance : TGo Tryz.prog 187 := ⟨go_187⟩
instance : TGo Tryz.prog 188 := ⟨go_188⟩
instance : TGo Tryz.prog 189 := ⟨go_189⟩
instance : TGo Tryz.prog 190 := ⟨go_190⟩
instance : TGo Tryz.prog 191 := ⟨go_191⟩
instance : TGo Tryz.prog 195 := ⟨go_195⟩
instance : TGo Tryz.prog 196 := ⟨go_196⟩
instance : TGo Tryz.prog 197 := ⟨go_197⟩
instance : TGo Tryz.prog 198 := ⟨go_198⟩
instance : TGo Tryz.prog 199 := ⟨go_199⟩
instance : TGo Tryz.prog 204 := ⟨go_204⟩
instance : TUnd Tryz.prog 2 (.int .i64) := ⟨Tryz.underlying2⟩
instance : TUnd Tryz.prog 3 (.int .i64) := ⟨Tryz.underlying3⟩
instance : TUnd Tryz.prog 4 (.bool) := ⟨Tryz.underlying4⟩
instance : TUnd Tryz.prog 5 (.int .u8) := ⟨Tryz.underlying5⟩
instance : TUnd Tryz.prog 6 (.int .u8) := ⟨Tryz.underlying6⟩
instance : TUnd Tryz.prog 9 (.string) := ⟨Tryz.underlying9⟩
instance : TUnd Tryz.prog 10 (.string) := ⟨Tryz.underlying10⟩
instance : TUnd Tryz.prog 11 (.string) := ⟨Tryz.underlying11⟩
instance : TUnd Tryz.prog 12 (.int .u64) := ⟨Tryz.underlying12⟩
instance : TUnd Tryz.prog 21 (.int .i32) := ⟨Tryz.underlying21⟩
instance : TUnd Tryz.prog 22 (.slice 46) := ⟨Tryz.underlying22⟩
instance : TUnd Tryz.prog 25 (.slice 127) := ⟨Tryz.underlying25⟩
instance : TUnd Tryz.prog 26 (.slice 168) := ⟨Tryz.underlying26⟩
instance : TUnd Tryz.prog 29 (.int .i64) := ⟨Tryz.underlying29⟩
instance : TUnd Tryz.prog 33 (.int .u64) := ⟨Tryz.underlying33⟩
instance : TUnd Tryz.prog 38 (.slice 9) := ⟨Tryz.underlying38⟩
instance : TUnd Tryz.prog 46 (.slice 33) := ⟨Tryz.underlying46⟩
instance : TUnd Tryz.prog 56 (.slice 5) := ⟨Tryz.underlying56⟩
instance : TUnd Tryz.prog 72 (.array 4 5) := ⟨Tryz.underlying72⟩
instance : TUnd Tryz.prog 103 (.array 5 5) := ⟨Tryz.underlying103⟩
instance : TUnd Tryz.prog 120 (.slice 226) := ⟨Tryz.underlying120⟩
instance : TUnd Tryz.prog 135 (.slice 140) := ⟨Tryz.underlying135⟩
instance : TUnd Tryz.prog 152 (.int .u64) := ⟨Tryz.underlying152⟩
instance : TUnd Tryz.prog 178 (.slice 3) := ⟨Tryz.underlying178⟩
instance : TUnd Tryz.prog 222 (.int .u32) := ⟨Tryz.underlying222⟩
instance : TUnd Tryz.prog 230 (.int .u64) := ⟨Tryz.underlying230⟩
instance : TUnd Tryz.prog 235 (.int .u8) := ⟨Tryz.underlying235⟩
instance : TUnd Tryz.prog 248 (.slice 61) := ⟨Tryz.underlying248⟩
instance : TUnd Tryz.prog 255 (.array 256 4) := ⟨Tryz.underlying255⟩
instance : TUnd Tryz.prog 256 (.array 256 4) := ⟨Tryz.underlying256⟩
instance : TUnd Tryz.prog 287 (.int .i64) := ⟨Tryz.underlying287⟩
instance : TUnd Tryz.prog 295 (.int .u64) := ⟨Tryz.underlying295⟩
instance : TUnd Tryz.prog 301 (.array 256 5) := ⟨Tryz.underlying301⟩
instance : TUnd Tryz.prog 304 (.array 16 303) := ⟨Tryz.underlying304⟩
instance : TUnd Tryz.prog 313 (.array 0 16) := ⟨Tryz.underlying313⟩
instance : TUnd Tryz.prog 317 (.int .u8) := ⟨Tryz.underlying317⟩
instance : TUnd Tryz.prog 319 (.int .i32) := ⟨Tryz.underlying319⟩
instance : TUnd Tryz.prog 320 (.int .i32) := ⟨Tryz.underlying320⟩
instance : TUnd Tryz.prog 331 (.int .u16) := ⟨Tryz.underlying331⟩
instance : TUnd Tryz.prog 334 (.slice 337) := ⟨Tryz.underlying334⟩
instance : TUnd Tryz.prog 335 (.int .i32) := ⟨Tryz.underlying335⟩
end Mv
end
section
open Go.RowKit
open Mv Disk
set_option maxRecDepth 4000
def strs (s:ByteArray):List Value:=[.string s]
def cmpI (a b:ByteArray):Int:=if a=b then 0 else if lt a b=true then -1 else 1
theorem lt_def (a b:ByteArray):Op.bytesLess a.data.toList b.data.toList=lt a b:=rfl
theorem size0 (s:ByteArray):(s=ByteArray.empty) ↔ s.size=0:=⟨fun h=>by rw [h];rfl,fun h=>by
 apply str_ext
 have:=size_data s
 rw [h] at this
 rw [List.eq_nil_of_length_eq_zero this];rfl⟩
def bad (s:ByteArray):Bool:=decide (s.size=0∨16<s.size)
theorem bad_iff {s:ByteArray}:bad s=true ↔ ¬ nm s:=by unfold bad nm;rw [decide_eq_true_eq];omega
theorem bad_no {s:ByteArray}:bad s=false ↔ nm s:=by unfold bad nm;rw [decide_eq_false_iff_not];omega
theorem disk_named1 (s:ByteArray) (S:Mem):ACall Tryz.prog 118 #[.string s] S fun r S'=>r = .bool (bad s)∧S'=S:=by
 by_cases h0:s.size=0
 ·have e:(decide (s=ByteArray.empty))=true:=decide_eq_true ((size0 s).2 h0)
  refine k_E1 (rs:=[.tmp 2]) 10 Tryz.func118 rfl rfl rfl ?_
  iterate 8 refine s1_ ?_
  refine rC (Calm.bin rfl rfl (bin_bool (bin_str_eql _ _) e)) ?_
  iterate 9 refine s1_ ?_
  refine ⟨_,S,⟨_,_,rfl,rfl,rfl⟩,less_,?_⟩
  exact ⟨by rw [show bad s=true from decide_eq_true (.inl h0)];rfl,rfl⟩
 ·have e:(decide (s=ByteArray.empty))=false:=decide_eq_false (fun h=>h0 ((size0 s).1 h))
  refine k_E1 (rs:=[.tmp 2]) 10 Tryz.func118 rfl rfl rfl ?_
  iterate 8 refine s1_ ?_
  refine rC (Calm.bin rfl rfl (bin_bool (bin_str_eql _ _) e)) ?_
  iterate 9 refine s1_ ?_
  refine ⟨_,S,⟨_,_,rfl,rfl,rfl⟩,less_,?_⟩
  exact ⟨congrArg Value.bool (decide_eq_decide.2 (by omega)),rfl⟩
theorem disk_index (v:Value) (l:List ByteArray) (S:Mem) (hl:Sl 1 strs S v l) :
  ACall Tryz.prog 154 #[v,.func (.func 118) #[] #[]] S fun r S'=>(∃ n:Int,r = .int .i64 n∧(0≤n ↔ ∃ s ∈ l,¬ nm s))∧S'=S:=by
 obtain ⟨a,cap,rfl,h1,h2,h3⟩:=id hl
 refine k_E2 (rs:=[.tmp 4]) 19 Tryz.func154 rfl rfl rfl ?_
 iterate 14 refine s1_ ?_
 refine AWP.loop (X:=Nat) (fun x=>[(0,.slice a l.length cap),(1,.func (.func 118) #[] #[]),(7,.int .i64 l.length),(8,.int .i64 x)]) (fun x=>S) (fun x=>x≤l.length ∧ ∀ j (h:j<l.length),j<x→nm l[j]) (fun x=>l.length-x) (0) ⟨rfl,rfl,rfl,rfl,trivial⟩ (Mem.Less.refl _) (⟨Nat.zero_le _,fun j _ h=>absurd h (Nat.not_lt_zero _)⟩) ?_
 rintro i ⟨hi,hall⟩
 (try dsimp only at *)
 iterate 6 refine s1_ ?_
 refine AWP.condB rfl (fun hc=>?_) (fun hc=>?_)
 ·have hc:i<l.length:=by have:=of_decide_eq_true hc;omega
  obtain ⟨b,off,rfl,hk⟩:=h3.resolve_left (fun e=>by subst e;simp at hc)
  have hki:=hk i hc
  unfold strs at hki
  iterate 17 refine s1_ ?_
  refine ARun.callV (lit_lt rfl) go_118 rfl rfl (disk_named1 l[i] _) ?_
  rintro _ S1 ⟨rfl,h1⟩
  rw [h1];clear h1 S1
  iterate 2 refine s1_ ?_
  refine AWP.condB rfl (fun hb=>?_) (fun hb=>?_)
  ·iterate 6 refine s1_ ?_
   iterate 6 refine s1_ ?_
   refine ⟨_,S,⟨_,_,rfl,rfl,rfl⟩,less_,?_⟩
   exact ⟨⟨i,rfl,by constructor;exact fun _=>⟨_,List.getElem_mem hc,bad_iff.1 hb⟩;omega⟩,rfl⟩
  ·iterate 8 refine s1_ ?_
   refine ⟨i+1,?_,?_,?_,?_⟩
   all_goals (try dsimp only)
   ·exact ⟨rfl,rfl,rfl,rfl,trivial⟩
   ·exact less_
   ·exact ⟨hc,fun j h hj=>by rcases Nat.lt_or_ge j i with h' | h';exact hall j h h';obtain rfl:j=i:=(by omega);exact bad_no.1 hb⟩
   ·omega
 ·have hc:i=l.length:=by have:=of_decide_eq_false hc;omega
  iterate 11 refine s1_ ?_
  refine ⟨_,S,⟨_,_,rfl,rfl,rfl⟩,less_,?_⟩
  exact ⟨⟨-1,rfl,by constructor;omega;rintro ⟨s,hs,hn⟩;obtain ⟨j,hj,rfl⟩:=List.getElem_of_mem hs;exact absurd (hall j hj (by omega)) hn⟩,rfl⟩
theorem disk_contains (v:Value) (l:List ByteArray) (S:Mem) (hl:Sl 1 strs S v l) :
  ACall Tryz.prog 117 #[v,.func (.func 118) #[] #[]] S fun r S'=>(∃ t:Bool,r = .bool t∧(t=true ↔ ∃ s ∈ l,¬ nm s))∧S'=S:=by
 refine k_E2 (rs:=[.tmp 4]) 9 Tryz.func117 rfl rfl rfl ?_
 iterate 9 refine s1_ ?_
 refine ca_ rfl (disk_index v l _ hl) ?_
 rintro _ S1 ⟨⟨n,rfl,hn⟩,h1⟩
 rw [h1];clear h1 S1
 iterate 5 refine s1_ ?_
 refine ⟨_,S,⟨_,_,rfl,rfl,rfl⟩,less_,?_⟩
 exact ⟨⟨decide (0≤n),rfl,by rw [decide_eq_true_eq];exact hn⟩,rfl⟩
theorem disk_named (v:Value) (l:List ByteArray) (S:Mem) (hl:Sl 1 strs S v l) :
  ACall Tryz.prog 77 #[v] S fun r S'=>(∃ t:Bool,r = .bool t∧(t=true ↔ ∀ s ∈ l,nm s))∧S'=S:=by
 refine k_E1 (rs:=[.tmp 2]) 6 Tryz.func77 rfl rfl rfl ?_
 iterate 8 refine s1_ ?_
 refine ca_ rfl (disk_contains v l _ hl) ?_
 rintro _ S1 ⟨⟨t,rfl,ht⟩,h1⟩
 rw [h1];clear h1 S1
 iterate 5 refine s1_ ?_
 refine ⟨_,S,⟨_,_,rfl,rfl,rfl⟩,less_,?_⟩
 exact ⟨⟨!t,rfl,by cases t <;> simp at ht ⊢ <;> exact ht⟩,rfl⟩
theorem disk_nan (s:ByteArray) (S:Mem):ACall Tryz.prog 153 #[.string s] S fun r S'=>r = .bool false∧S'=S:=by
 refine k_E1 (rs:=[.tmp 2]) 6 Tryz.func153 rfl rfl rfl ?_
 iterate 9 refine s1_ ?_
 refine rC (Calm.bin rfl rfl (bin_bool (bin_str_neq _ _) (bnot_dec_false rfl))) ?_
 iterate 4 refine s1_ ?_
 refine ⟨_,S,⟨_,_,rfl,rfl,rfl⟩,less_,?_⟩
 exact ⟨rfl,rfl⟩
theorem disk_compare (a b:ByteArray) (S:Mem):ACall Tryz.prog 116 #[.string a,.string b] S fun r S'=>r = .int .i64 (cmpI a b)∧S'=S:=by
 unfold cmpI
 by_cases e:a=b
 ·subst e
  rw [if_pos rfl]
  refine k_E2 (rs:=[.tmp 4]) 20 Tryz.func116 rfl rfl rfl ?_
  iterate 8 refine s1_ ?_
  refine ca_ rfl (disk_nan a _) ?_
  rintro _ S1 ⟨rfl,h1⟩
  rw [h1];clear h1 S1
  iterate 6 refine s1_ ?_
  refine ca_ rfl (disk_nan a _) ?_
  rintro _ S1 ⟨rfl,h1⟩
  rw [h1];clear h1 S1
  iterate 9 refine s1_ ?_
  refine cF_ ?_
  iterate 8 refine s1_ ?_
  refine cF_ ?_
  iterate 7 refine s1_ ?_
  refine rC (Calm.bin rfl rfl (bin_bool (bin_str_lss _ _) (lt_irrefl a))) ?_
  iterate 2 refine s1_ ?_
  refine cF_ ?_
  iterate 7 refine s1_ ?_
  refine rC (Calm.bin rfl rfl (bin_bool (bin_str_gtr _ _) (by rw [lt_def,lt_irrefl,decide_eq_true rfl];first | done | rfl))) ?_
  iterate 2 refine s1_ ?_
  refine cF_ ?_
  iterate 8 refine s1_ ?_
  refine ⟨_,S,⟨_,_,rfl,rfl,rfl⟩,less_,?_⟩
  exact ⟨rfl,rfl⟩
 ·rw [if_neg e]
  by_cases h:lt a b=true
  ·rw [if_pos h]
   refine k_E2 (rs:=[.tmp 4]) 20 Tryz.func116 rfl rfl rfl ?_
   iterate 8 refine s1_ ?_
   refine ca_ rfl (disk_nan a _) ?_
   rintro _ S1 ⟨rfl,h1⟩
   rw [h1];clear h1 S1
   iterate 3 refine s1_ ?_
   refine k_v4 0 1 4 5 ?_
   iterate 3 refine s1_ ?_
   refine ca_ rfl (disk_nan b _) ?_
   rintro _ S1 ⟨rfl,h1⟩
   rw [h1];clear h1 S1
   iterate 9 refine s1_ ?_
   refine cF_ ?_
   iterate 8 refine s1_ ?_
   refine cF_ ?_
   iterate 7 refine s1_ ?_
   refine rC (Calm.bin rfl rfl (bin_bool (bin_str_lss _ _) h)) ?_
   iterate 2 refine s1_ ?_
   refine cT_ ?_
   iterate 7 refine s1_ ?_
   refine ⟨_,S,⟨_,_,rfl,rfl,rfl⟩,less_,?_⟩
   exact ⟨rfl,rfl⟩
  ·have h':lt a b=false:=by simpa using h
   rw [if_neg h]
   refine k_E2 (rs:=[.tmp 4]) 20 Tryz.func116 rfl rfl rfl ?_
   iterate 8 refine s1_ ?_
   refine ca_ rfl (disk_nan a _) ?_
   rintro _ S1 ⟨rfl,h1⟩
   rw [h1];clear h1 S1
   iterate 6 refine s1_ ?_
   refine ca_ rfl (disk_nan b _) ?_
   rintro _ S1 ⟨rfl,h1⟩
   rw [h1];clear h1 S1
   iterate 9 refine s1_ ?_
   refine cF_ ?_
   iterate 8 refine s1_ ?_
   refine cF_ ?_
   iterate 7 refine s1_ ?_
   refine rC (Calm.bin rfl rfl (bin_bool (bin_str_lss _ _) h')) ?_
   iterate 2 refine s1_ ?_
   refine k_v8 0 1 4 5 6 11 13 16 ?_
   refine cF_ ?_
   iterate 7 refine s1_ ?_
   refine rC (Calm.bin rfl rfl (bin_bool (bin_str_gtr _ _) (by rw [lt_def,h',decide_eq_false e];first | done | rfl))) ?_
   iterate 2 refine s1_ ?_
   refine cT_ ?_
   iterate 7 refine s1_ ?_
   refine ⟨_,S,⟨_,_,rfl,rfl,rfl⟩,less_,?_⟩
   exact ⟨rfl,rfl⟩
theorem disk_find1 (x:Ext) (s:ByteArray) (S:Mem):ACall Tryz.prog 115 #[.agg #[.string x.1,.string x.2],.string s] S fun r S'=>r = .int .i64 (cmpI x.1 s)∧S'=S:=by
 refine k_E2 (rs:=[.tmp 4]) 9 Tryz.func115 rfl rfl rfl ?_
 iterate 2 refine s1_ ?_
 refine ARun.boxA (cs:=[_,_]) (lit_lt rfl) rfl ?_
 intro b2 f2
 have g2:=f2
 repeat ((with_reducible replace g2:=fresh_set g2);obtain ⟨g2,_⟩:=g2)
 refine nl_ ?_
 iterate 8 refine s1_ ?_
 refine ca_ rfl (disk_compare x.1 s _) ?_
 rintro _ S1 ⟨rfl,h1⟩
 rw [h1];clear h1 S1
 iterate 4 refine s1_ ?_
 refine ⟨_,S,⟨_,_,rfl,rfl,rfl⟩,less_,?_⟩
 exact ⟨rfl,rfl⟩
end
section
open Go.RowKit
open Mv Disk
set_option maxRecDepth 4000
theorem cmpI_neg {a b:ByteArray}:cmpI a b<0 ↔ lt a b=true:=by
 unfold cmpI
 by_cases e:a=b
 ·subst e;rw [if_pos rfl,lt_irrefl];simp
 ·rw [if_neg e];by_cases h:lt a b=true
  ·rw [if_pos h];simp [h]
  ·rw [if_neg h];simp [h]
theorem cmpI_zero {a b:ByteArray}:cmpI a b=0 ↔ a=b:=by
 unfold cmpI
 by_cases e:a=b
 ·rw [if_pos e];simp [e]
 ·rw [if_neg e];by_cases h:lt a b=true
  ·rw [if_pos h];simp [e]
  ·rw [if_neg h];simp [e]
set_option maxHeartbeats 1000000 in
theorem disk_search (v:Value) (l:List Ext) (s:ByteArray) (S:Mem) (hl:Sl 2 extF S v l) (ha:Asc l) (hn:l.length≤1048576) :
  ACall Tryz.prog 114 #[v,.string s,.func (.func 115) #[] #[]] S fun r S'=>r = .tuple #[.int .i64 (pos l s:Nat),.bool (has l s)]∧S'=S:=by
 obtain ⟨a,cap,rfl,h1,h2,h3⟩:=id hl
 refine k_E3 (rs:=[.tmp 6,.tmp 7]) 49 Tryz.func114 rfl rfl rfl ?_
 iterate 22 refine s1_ ?_
 refine AWP.loop (X:=Nat × Nat) (fun x=>[(0,.slice a l.length cap),(1,.string s),(2,.func (.func 115) #[] #[]),(8,.int .i64 l.length),(9,.int .i64 x.1),(10,.int .i64 x.2)]) (fun x=>S) (fun x=>x.1≤x.2∧x.2≤l.length∧(∀ j (h:j<l.length),j<x.1→lt l[j].1 s=true) ∧ ∀ j (h:j<l.length),x.2≤j→lt l[j].1 s=false) (fun x=>x.2-x.1) ((0,l.length)) ⟨rfl,rfl,rfl,rfl,rfl,rfl,trivial⟩ (Mem.Less.refl _) (⟨Nat.zero_le _,Nat.le_refl _,fun j _ h=>absurd h (Nat.not_lt_zero _),fun j h h'=>absurd h (Nat.not_lt.2 h')⟩) ?_
 rintro ⟨i,j⟩ ⟨hij,hj,hlo,hhi⟩
 (try dsimp only at *)
 iterate 8 refine s1_ ?_
 refine AWP.condB rfl (fun hc=>?_) (fun hc=>?_)
 ·have hc:i<j:=by have:=of_decide_eq_true hc;omega
  obtain ⟨b,off,rfl,hk⟩:=h3.resolve_left (fun e=>by subst e;simp at hj;omega)
  obtain ⟨m,hm⟩ : ∃ m,(i+j) / 2=m:=⟨_,rfl⟩
  have hml:m<l.length:=by omega
  have hki:=hk m hml
  unfold extF at hki
  have e1:IntKind.i64.wrap (((i:Int)+(j:Int)) / 2 ^ (1:Int).toNat)=(m:Int):=by rw [show (2:Int) ^ (1:Int).toNat=2 from rfl,IntWalk.i64_in _ (by omega)];omega
  iterate 14 refine s1_ ?_
  rw [e1]
  iterate 8 refine s1_ ?_
  refine ARun.callV (lit_lt rfl) go_115 rfl rfl (disk_find1 l[m] s _) ?_
  rintro _ S1 ⟨rfl,h1⟩
  rw [h1];clear h1 S1
  iterate 3 refine s1_ ?_
  refine k_v9 0 1 2 8 9 10 17 11 31 ?_
  refine AWP.condB rfl (fun hb=>?_) (fun hb=>?_)
  ·have hb:lt l[m].1 s=true:=cmpI_neg.1 (of_decide_eq_true hb)
   have hlo':∀ k (h:k<l.length),k<m+1→lt l[k].1 s=true:=fun k h hk'=>by rcases Nat.lt_or_ge k m with h' | h';exact lt_trans (asc_get ha hml h') hb;obtain rfl:k=m:=(by omega);exact hb
   iterate 7 refine s1_ ?_
   refine ⟨(m+1,j),?_,?_,?_,?_⟩
   all_goals (try dsimp only)
   ·exact ⟨rfl,rfl,rfl,rfl,rfl,rfl,trivial⟩
   ·exact less_
   ·exact ⟨by omega,hj,hlo',hhi⟩
   ·omega
  ·have hb:lt l[m].1 s=false:=by have:=of_decide_eq_false hb;rw [cmpI_neg] at this;simpa using this
   have hhi':∀ k (h:k<l.length),m≤k→lt l[k].1 s=false:=fun k h hk'=>by rcases Nat.lt_or_ge m k with h' | h';(cases hq:lt l[k].1 s with | false=>rfl | true=>have:=lt_trans (asc_get ha h h') hq;rw [hb] at this;cases this);obtain rfl:k=m:=(by omega);exact hb
   iterate 6 refine s1_ ?_
   refine ⟨(i,m),?_,?_,?_,?_⟩
   all_goals (try dsimp only)
   ·exact ⟨rfl,rfl,rfl,rfl,rfl,rfl,trivial⟩
   ·exact less_
   ·exact ⟨by omega,by omega,hlo,hhi'⟩
   ·omega
 ·have hc:i=j:=by have:=of_decide_eq_false hc;omega
  subst hc
  have hp:pos l s=i:=pos_iff hj hlo (fun h=>hhi i h (Nat.le_refl _))
  have hh:=has_pos ha s
  by_cases hil:i<l.length
  ·obtain ⟨b,off,rfl,hk⟩:=h3.resolve_left (fun e=>by subst e;simp at hil)
   have hki:=hk i hil
   unfold extF at hki
   iterate 18 refine s1_ ?_
   refine rUn 39 ?_
   refine ARun.callV (lit_lt rfl) go_115 rfl rfl (disk_find1 l[i] s _) ?_
   rintro _ S1 ⟨rfl,h1⟩
   rw [h1];clear h1 S1
   have hbb:decide (cmpI l[i].1 s=0)=has l s:=by rw [Bool.eq_iff_iff,decide_eq_true_eq,cmpI_zero,hh];constructor;exact fun e=>⟨by rw [hp];exact hil,by simp only [hp];exact e⟩;exact fun ⟨_,e⟩=>by simpa only [hp] using e
   iterate 7 refine s1_ ?_
   refine ⟨_,S,⟨_,_,rfl,⟨_,_,rfl,rfl,rfl⟩,rfl⟩,less_,?_⟩
   exact ⟨by rw [hp,← hbb];rfl,rfl⟩
  ·have hbb:has l s=false:=by cases h:has l s with | false=>rfl | true=>obtain ⟨h',_⟩:=hh.1 h;rw [hp] at h';omega
   iterate 26 refine s1_ ?_
   refine ⟨_,S,⟨_,_,rfl,⟨_,_,rfl,rfl,rfl⟩,rfl⟩,less_,?_⟩
   exact ⟨by rw [hp,hbb];rfl,rfl⟩
theorem disk_find (v:Value) (l:List Ext) (s:ByteArray) (S:Mem) (hl:Sl 2 extF S v l) (ha:Asc l) (hn:l.length≤1048576) :
  ACall Tryz.prog 76 #[v,.string s] S fun r S'=>r = .tuple #[.int .i64 (pos l s:Nat),.bool (has l s)]∧S'=S:=by
 refine k_E2 (rs:=[.tmp 4,.tmp 5]) 11 Tryz.func76 rfl rfl rfl ?_
 iterate 10 refine s1_ ?_
 refine ca_ rfl (disk_search v l s _ hl ha hn) ?_
 rintro _ S1 ⟨rfl,h1⟩
 rw [h1];clear h1 S1
 iterate 7 refine s1_ ?_
 refine ⟨_,S,⟨_,_,rfl,⟨_,_,rfl,rfl,rfl⟩,rfl⟩,less_,?_⟩
 exact ⟨rfl,rfl⟩
theorem disk_sectors (x:Ext) (S:Mem) (hx:x.2.size≤9223372036854775807):ACall Tryz.prog 113 #[.agg #[.string x.1,.string x.2]] S fun r S'=>r = .int .i64 (sec x:Nat)∧S'=S:=by
 refine k_E1 (rs:=[.tmp 2]) 7 Tryz.func113 rfl rfl rfl ?_
 iterate 2 refine s1_ ?_
 refine ARun.boxA (cs:=[_,_]) (lit_lt rfl) rfl ?_
 intro b1 f1
 have g1:=f1
 repeat ((with_reducible replace g1:=fresh_set g1);obtain ⟨g1,_⟩:=g1)
 refine nl_ ?_
 iterate 13 refine s1_ ?_
 refine ⟨_,S,⟨_,_,rfl,rfl,rfl⟩,less_,?_⟩
 exact ⟨val_int (by unfold sec;omega),rfl⟩
end
section
open Go.RowKit
namespace Disk
theorem lt_empty {x:ByteArray} (h:x.size≠0):lt ByteArray.empty x=true:=by
 unfold lt
 cases e:x.data.toList with
 | nil=>have:=Mv.size_data x;rw [e] at this;simp at this;omega
 | cons a l=>rfl
theorem take_get {α : Type} {l:List α} {i:Nat} (h:i<l.length):l.take (i+1)=l.take i ++ [l[i]]:=by
 rw [List.take_add_one,List.getElem?_eq_getElem h];rfl
def lastN (l:List Ext):Nat→ByteArray
  | 0=>ByteArray.empty
  | i+1=>(l[i]?.map (·.1)).getD ByteArray.empty
theorem lastN_succ {l:List Ext} {i:Nat} (h:i<l.length):lastN l (i+1)=l[i].1:=by
 simp [lastN,List.getElem?_eq_getElem h]
structure Upto (l:List Ext) (size:Int) (i:Nat):Prop where
  ok:∀ x ∈ l.take i,eok x
  asc:Asc (l.take i)
  us:(used (l.take i):Int)≤size
theorem upto_zero (l:List Ext) {size:Int} (h:0≤size):Upto l size 0:=⟨fun x h=>by simp at h,by simp [Asc],by simpa [used] using h⟩
theorem upto_all {l:List Ext} {size:Int} (h:Upto l size l.length):ERight l size:=by
 obtain ⟨h1,h2,h3⟩:=h
 rw [List.take_length] at h1 h2 h3
 exact ⟨h1,h2,h3⟩
theorem upto_succ {l:List Ext} {size:Int} {i:Nat} (h:Upto l size i) (hi:i<l.length) (h1:eok l[i]) (h2:lt (lastN l i) l[i].1=true) (h3:(used (l.take i):Int)+sec l[i]≤size):Upto l size (i+1):=by
 have e:=take_get hi
 refine ⟨fun x hx=>?_,?_,?_⟩
 ·rw [e,List.mem_append] at hx
  rcases hx with hx | hx
  ·exact h.ok x hx
  ·rw [List.mem_singleton.1 hx];exact h1
 ·rw [e]
  unfold Asc
  rw [List.pairwise_append]
  refine ⟨h.asc,by simp,fun a ha b hb=>?_⟩
  rw [List.mem_singleton.1 hb]
  obtain ⟨j,hj,rfl⟩:=List.getElem_of_mem ha
  have hj':j<i:=by simp at hj;omega
  cases i with
  | zero=>omega
  | succ i =>
   rw [lastN_succ (by omega)] at h2
   by_cases hji:j=i
   ·subst hji;simpa using h2
   ·have:=asc_get h.asc (i:=j) (j:=i) (by simp;omega) (by omega)
    simp only [List.getElem_take] at this ⊢
    exact lt_trans this h2
 ·rw [e,used_append];simp only [used];omega
theorem right_at {l:List Ext} {size:Int} (h:ERight l size) {i:Nat} (hi:i<l.length):eok l[i]∧lt (lastN l i) l[i].1=true∧(used (l.take i):Int)+sec l[i]≤size:=by
 refine ⟨h.ok _ (List.getElem_mem hi),?_,?_⟩
 ·cases i with
  | zero=>exact lt_empty (h.ok _ (List.getElem_mem hi)).1.1
  | succ i=>rw [lastN_succ (by omega)];exact asc_get h.asc hi (by omega)
 ·have h1:=h.us
  have e:l=l.take (i+1) ++ l.drop (i+1):=(List.take_append_drop _ _).symm
  rw [e,used_append,take_get hi,used_append] at h1
  simp only [used] at h1;omega
end Disk
end
section
open Go.RowKit
open Mv Disk
set_option maxRecDepth 4000
theorem sl_str1 {S:Mem} {b:Nat} {e:TypeId} {s:ByteArray} (h:S.own b=some ⟨e,[.string s],1⟩):Sl 1 strs S (.slice (some ⟨b,0,none⟩) 1 1) [s] :=
 Sl.own1 (g:=fun s:ByteArray=>.string s) h List.prefix_rfl rfl (by decide) (by decide)
theorem leq_no {a b:ByteArray} (h:lt a b=true):(Op.bytesLess b.data.toList a.data.toList || decide (b=a))=false:=by
 rw [lt_def,lt_asymm h,decide_eq_false (Ne.symm (lt_ne h))];rfl
theorem leq_yes {a b:ByteArray} (h:lt a b=false):(Op.bytesLess b.data.toList a.data.toList || decide (b=a))=true:=by
 rw [lt_def]
 by_cases e:b=a
 ·rw [decide_eq_true e,Bool.or_true]
 ·rw [lt_tri (Ne.symm e) h];rfl
theorem one_all {p:ByteArray→Prop} {s:ByteArray}:(∀ x ∈ [s],p x) ↔ p s:=by simp
set_option maxHeartbeats 1000000 in
theorem disk_extents (v:Value) (l:List Ext) (size:Int) (S:Mem) (hl:Sl 2 extF S v l) (h0:0≤size) (h1:size≤16384) (hz:∀ x ∈ l,x.2.size≤140737488351232) :
  ACall Tryz.prog 112 #[v,.int .i64 size] S fun r S'=>(∃ t:Bool,r = .bool t∧(t=true ↔ ERight l size))∧S'=S:=by
 obtain ⟨a,cap,rfl,hl1,hl2,hl3⟩:=id hl
 refine k_E2 (rs:=[.tmp 4]) 46 Tryz.func112 rfl rfl rfl ?_
 iterate 19 refine s1_ ?_
 refine AWP.loop (X:=Nat) (fun x=>[(1,.int .i64 (size-used (l.take x))),(5,.string (lastN l x)),(8,.slice a l.length cap),(9,.int .i64 l.length),(10,.int .i64 x)]) (fun x=>S) (fun x=>x≤l.length∧Upto l size x) (fun x=>l.length-x) (0) ⟨some_int (by simp [used]),rfl,rfl,rfl,rfl,trivial⟩ (Mem.Less.refl _) (⟨Nat.zero_le _,upto_zero l h0⟩) ?_
 rintro i ⟨hi,hup⟩
 (try dsimp only at *)
 iterate 6 refine s1_ ?_
 refine AWP.condB rfl (fun hc=>?_) (fun hc=>?_)
 ·have hc:i<l.length:=by have:=of_decide_eq_true hc;omega
  obtain ⟨b,off,rfl,hk⟩:=hl3.resolve_left (fun e=>by subst e;simp at hc)
  have hki:=hk i hc
  have hzi:=hz _ (List.getElem_mem hc)
  have hus:=hup.us
  have hra:=fun h:ERight l size=>right_at h hc
  have hut:used (l.take (i+1))=used (l.take i)+sec l[i]:=by rw [take_get hc,used_append];simp [used]
  have hln:=lastN_succ hc
  have hsu:=upto_succ hup hc
  generalize hx:l[i]=x at *
  unfold extF at hki
  have hsx:sec x≤140737488351232:=by unfold sec;omega
  by_cases q1:nm x.1
  ·by_cases q2:lt (lastN l i) x.1=true
   ·have q2':=leq_no q2
    by_cases q3:x.2.size=0
    ·iterate 8 refine s1_ ?_
     refine ARun.alloc (lit_lt rfl) ty_zero_127 ?_
     intro b7 f7
     have g7:=f7
     repeat ((with_reducible replace g7:=fresh_set g7);obtain ⟨g7,_⟩:=g7)
     refine nl_ ?_
     iterate 8 refine s1_ ?_
     refine ARun.build1s (lit_lt rfl) ty_sl_38 rfl rfl ?_
     intro b16 f16
     have g16:=f16
     repeat ((with_reducible replace g16:=fresh_set g16);obtain ⟨g16,_⟩:=g16)
     refine ca_ rfl (disk_named _ [x.1] _ (sl_str1 own_)) ?_
     rintro _ S1 ⟨⟨t,rfl,ht⟩,h1⟩
     rw [h1];clear h1 S1
     obtain rfl:t=true:=ht.2 (one_all.2 q1)
     iterate 5 refine s1_ ?_
     first|refine k_q 19 ?_|refine rG 19 (Calm.bin rfl rfl (bin_bool (bin_str_leq _ _) q2')) ?_
     iterate 4 refine s1_ ?_
     first|refine k_q 25 ?_|refine rG 25 (Calm.bin rfl rfl (bin_bool (bin_str_eql _ _) (decide_eq_true ((size0 _).2 q3)))) ?_
     iterate 10 refine s1_ ?_
     refine cT_ ?_
     iterate 12 refine s1_ ?_
     refine ⟨_,S,⟨_,_,rfl,rfl,rfl⟩,less_,?_⟩
     exact ⟨⟨false,rfl,by simp;exact fun h=>(hra h).1.2.1 q3⟩,rfl⟩
    ·by_cases q4:x.2.size % 64=0
     ·iterate 8 refine s1_ ?_
      refine ARun.alloc (lit_lt rfl) ty_zero_127 ?_
      intro b7 f7
      have g7:=f7
      repeat ((with_reducible replace g7:=fresh_set g7);obtain ⟨g7,_⟩:=g7)
      refine nl_ ?_
      iterate 8 refine s1_ ?_
      refine ARun.build1s (lit_lt rfl) ty_sl_38 rfl rfl ?_
      intro b16 f16
      have g16:=f16
      repeat ((with_reducible replace g16:=fresh_set g16);obtain ⟨g16,_⟩:=g16)
      refine ca_ rfl (disk_named _ [x.1] _ (sl_str1 own_)) ?_
      rintro _ S1 ⟨⟨t,rfl,ht⟩,h1⟩
      rw [h1];clear h1 S1
      obtain rfl:t=true:=ht.2 (one_all.2 q1)
      iterate 5 refine s1_ ?_
      first|refine k_q 19 ?_|refine rG 19 (Calm.bin rfl rfl (bin_bool (bin_str_leq _ _) q2')) ?_
      iterate 4 refine s1_ ?_
      first|refine k_q 25 ?_|refine rG 25 (Calm.bin rfl rfl (bin_bool (bin_str_eql _ _) (decide_eq_false (fun e=>q3 ((size0 _).1 e))))) ?_
      iterate 10 refine s1_ ?_
      refine cF_ ?_
      iterate 7 refine s1_ ?_
      refine ca_ rfl (disk_sectors x _ (by omega)) ?_
      rintro _ S1 ⟨rfl,h1⟩
      rw [h1];clear h1 S1
      iterate 4 refine s1_ ?_
      refine k_v8 1 5 8 9 10 11 7 36 ?_
      iterate 6 refine s1_ ?_
      refine AWP.condB rfl (fun q5=>?_) (fun q5=>?_)
      ·iterate 12 refine s1_ ?_
       refine ⟨_,S,⟨_,_,rfl,rfl,rfl⟩,less_,?_⟩
       exact ⟨⟨false,rfl,by simp;exact fun h=>absurd (hra h).2.2 (by have:=of_decide_eq_true q5;omega)⟩,rfl⟩
      ·have q5:=of_decide_eq_false q5
       iterate 14 refine s1_ ?_
       refine ⟨i+1,?_,?_,?_,?_⟩
       all_goals (try dsimp only)
       ·exact ⟨some_int (by rw [hut];omega),some_str hln.symm,rfl,rfl,rfl,trivial⟩
       ·exact less_
       ·exact ⟨hc,hsu ⟨q1,q3,q4⟩ q2 (by omega)⟩
       ·omega
     ·iterate 8 refine s1_ ?_
      refine ARun.alloc (lit_lt rfl) ty_zero_127 ?_
      intro b7 f7
      have g7:=f7
      repeat ((with_reducible replace g7:=fresh_set g7);obtain ⟨g7,_⟩:=g7)
      refine nl_ ?_
      iterate 8 refine s1_ ?_
      refine ARun.build1s (lit_lt rfl) ty_sl_38 rfl rfl ?_
      intro b16 f16
      have g16:=f16
      repeat ((with_reducible replace g16:=fresh_set g16);obtain ⟨g16,_⟩:=g16)
      refine ca_ rfl (disk_named _ [x.1] _ (sl_str1 own_)) ?_
      rintro _ S1 ⟨⟨t,rfl,ht⟩,h1⟩
      rw [h1];clear h1 S1
      obtain rfl:t=true:=ht.2 (one_all.2 q1)
      iterate 5 refine s1_ ?_
      first|refine k_q 19 ?_|refine rG 19 (Calm.bin rfl rfl (bin_bool (bin_str_leq _ _) q2')) ?_
      iterate 4 refine s1_ ?_
      first|refine k_q 25 ?_|refine rG 25 (Calm.bin rfl rfl (bin_bool (bin_str_eql _ _) (decide_eq_false (fun e=>q3 ((size0 _).1 e))))) ?_
      iterate 10 refine s1_ ?_
      refine cT_ ?_
      iterate 12 refine s1_ ?_
      refine ⟨_,S,⟨_,_,rfl,rfl,rfl⟩,less_,?_⟩
      exact ⟨⟨false,rfl,by simp;exact fun h=>q4 (hra h).1.2.2⟩,rfl⟩
   ·have q2':=leq_yes (Bool.eq_false_iff.2 q2)
    iterate 8 refine s1_ ?_
    refine ARun.alloc (lit_lt rfl) ty_zero_127 ?_
    intro b7 f7
    have g7:=f7
    repeat ((with_reducible replace g7:=fresh_set g7);obtain ⟨g7,_⟩:=g7)
    refine nl_ ?_
    iterate 3 refine s1_ ?_
    refine k_v7 1 5 8 9 10 11 7 ?_
    iterate 5 refine s1_ ?_
    refine ARun.build1s (lit_lt rfl) ty_sl_38 rfl rfl ?_
    intro b16 f16
    have g16:=f16
    repeat ((with_reducible replace g16:=fresh_set g16);obtain ⟨g16,_⟩:=g16)
    refine ca_ rfl (disk_named _ [x.1] _ (sl_str1 own_)) ?_
    rintro _ S1 ⟨⟨t,rfl,ht⟩,h1⟩
    rw [h1];clear h1 S1
    obtain rfl:t=true:=ht.2 (one_all.2 q1)
    iterate 5 refine s1_ ?_
    first|refine k_q 19 ?_|refine rG 19 (Calm.bin rfl rfl (bin_bool (bin_str_leq _ _) q2')) ?_
    iterate 15 refine s1_ ?_
    refine cT_ ?_
    iterate 12 refine s1_ ?_
    refine ⟨_,S,⟨_,_,rfl,rfl,rfl⟩,less_,?_⟩
    exact ⟨⟨false,rfl,by simp;exact fun h=>q2 (hra h).2.1⟩,rfl⟩
  ·iterate 8 refine s1_ ?_
   refine ARun.alloc (lit_lt rfl) ty_zero_127 ?_
   intro b7 f7
   have g7:=f7
   repeat ((with_reducible replace g7:=fresh_set g7);obtain ⟨g7,_⟩:=g7)
   refine nl_ ?_
   iterate 8 refine s1_ ?_
   refine ARun.build1s (lit_lt rfl) ty_sl_38 rfl rfl ?_
   intro b16 f16
   have g16:=f16
   repeat ((with_reducible replace g16:=fresh_set g16);obtain ⟨g16,_⟩:=g16)
   refine ca_ rfl (disk_named _ [x.1] _ (sl_str1 own_)) ?_
   rintro _ S1 ⟨⟨t,rfl,ht⟩,h1⟩
   rw [h1];clear h1 S1
   obtain rfl:t=false:=Bool.eq_false_iff.2 (fun e=>q1 (one_all.1 (ht.1 e)))
   iterate 21 refine s1_ ?_
   refine cT_ ?_
   iterate 12 refine s1_ ?_
   refine ⟨_,S,⟨_,_,rfl,rfl,rfl⟩,less_,?_⟩
   exact ⟨⟨false,rfl,by simp;exact fun h=>q1 (hra h).1.1⟩,rfl⟩
 ·have hc:i=l.length:=by have:=of_decide_eq_false hc;omega
  subst hc
  iterate 11 refine s1_ ?_
  refine ⟨_,S,⟨_,_,rfl,rfl,rfl⟩,less_,?_⟩
  exact ⟨⟨true,rfl,by simp;exact upto_all hup⟩,rfl⟩
end
section
open Go.RowKit
open Mv Disk
set_option maxRecDepth 4000
theorem wok_pos {l:List Ext} (ha:Asc l) {w:Wr} {p:Nat} (hp:p<l.length) (e:l[p].1=w.1):wok l w ↔ 0≤w.2.1∧w.2.1<sec l[p]∧w.2.2.size=64:=by
 constructor
 ·rintro ⟨x,hx,e2,h⟩
  have:x=l[p]:=asc_inj ha hx (List.getElem_mem hp) (e2.trans e.symm)
  subst this;exact h
 ·intro h
  exact ⟨l[p],List.getElem_mem hp,e,h⟩
theorem wok_has {l:List Ext} {w:Wr} (h:wok l w):has l w.1=true:=by
 obtain ⟨x,hx,e,_⟩:=h
 exact has_iff.2 ⟨x,hx,e⟩
def DkR (S:Mem) (v:Value) (d:D):Prop:=∃ pe ce pw cw,v = .agg #[.int .i64 d.size,.slice pe d.ext.length ce,.slice pw d.waits.length cw,.int .i64 d.fuse,.bool d.down]∧Sl 2 extF S (.slice pe d.ext.length ce) d.ext∧Sl 3 wrF S (.slice pw d.waits.length cw) d.waits
theorem DkR.less {S S':Mem} {v:Value} {d:D} (h:DkR S v d) (hl:S.Less S'):DkR S' v d:=by
 obtain ⟨pe,ce,pw,cw,e,h1,h2⟩:=h
 exact ⟨pe,ce,pw,cw,e,h1.less hl,h2.less hl⟩
structure Dz (d:D):Prop where
  s0 : -9223372036854775808≤d.size
  s1:d.size≤9223372036854775807
  f0 : -9223372036854775808≤d.fuse
  f1:d.fuse≤9223372036854775807
  el:d.ext.length≤4398046511104
  wl:d.waits.length≤3518437208883
  ez:∀ x ∈ d.ext,x.1.size≤140737488351232∧x.2.size≤140737488351232
  wz:∀ w ∈ d.waits,w.1.size≤140737488351232 ∧ -9223372036854775808≤w.2.1∧w.2.1≤9223372036854775807∧w.2.2.size≤140737488351232
set_option maxHeartbeats 2000000 in
theorem disk_Check (v:Value) (d:D) (S:Mem) (hd:DkR S v d) (hz:Dz d) :
  ACall Tryz.prog 73 #[v] S fun r S'=>r = .int .i64 (chkD d)∧S'=S:=by
 obtain ⟨pe,ce,pw,cw,rfl,hE,hW⟩:=hd
 obtain ⟨size,ext,waits,fuse,down⟩:=d
 have hez:=fun x hx=>(hz.ez x hx).2
 have hs0:=hz.s0;have hs1:=hz.s1;have hf0:=hz.f0;have hf1:=hz.f1
 simp only at hE hW hez hs0 hs1 hf0 hf1 ⊢
 obtain ⟨_,_,ee1,ee2,ee3,hE3⟩:=id hE
 obtain ⟨_,_,ew1,ew2,ew3,hW3⟩:=id hW
 cases ee1;cases ew1
 refine k_E1 (rs:=[.tmp 2]) 74 Tryz.func73 rfl rfl rfl ?_
 iterate 2 refine s1_ ?_
 refine k_b5 rfl ?_
 intro b1 f1
 have g1:=f1
 repeat ((with_reducible replace g1:=fresh_set g1);obtain ⟨g1,_⟩:=g1)
 refine nl_ ?_
 iterate 3 refine s1_ ?_
 refine named (S:=S) (b:=b1) g1.1 ?_
 intro T1 hT1 kb1
 replace hE:=hE.less hT1
 replace hW:=hW.less hT1
 by_cases q1:size<0
 ·iterate 32 refine s1_ ?_
  refine cT_ ?_
  iterate 7 refine s1_ ?_
  refine ⟨_,S,⟨_,_,rfl,rfl,rfl⟩,hT1.trans less_,?_⟩
  exact ⟨by rw [chkD_no (fun h=>absurd h.s0 (by simp only;omega))];rfl,rfl⟩
 ·by_cases q2:16384<size
  ·iterate 32 refine s1_ ?_
   refine cT_ ?_
   iterate 7 refine s1_ ?_
   refine ⟨_,S,⟨_,_,rfl,rfl,rfl⟩,hT1.trans less_,?_⟩
   exact ⟨by rw [chkD_no (fun h=>absurd h.s1 (by simp only;omega))];rfl,rfl⟩
  ·by_cases q3:16384<waits.length
   ·iterate 32 refine s1_ ?_
    refine cT_ ?_
    iterate 7 refine s1_ ?_
    refine ⟨_,S,⟨_,_,rfl,rfl,rfl⟩,hT1.trans less_,?_⟩
    exact ⟨by rw [chkD_no (fun h=>absurd h.wl (by simp only;omega))];rfl,rfl⟩
   ·by_cases q4:fuse < -1
    ·iterate 32 refine s1_ ?_
     refine cT_ ?_
     iterate 7 refine s1_ ?_
     refine ⟨_,S,⟨_,_,rfl,rfl,rfl⟩,hT1.trans less_,?_⟩
     exact ⟨by rw [chkD_no (fun h=>absurd h.fu (by simp only;omega))];rfl,rfl⟩
    ·iterate 27 refine s1_ ?_
     refine ARun.callG 19 false 26 rfl (lit_lt rfl) rfl (lit_lt rfl) go_112 rfl (disk_extents _ ext size _ hE (by omega) (by omega) hez) ?_
     rintro _ S1 ⟨⟨t,rfl,ht⟩,h1⟩
     rw [h1];clear h1 S1
     iterate 4 refine s1_ ?_
     refine k_v4 0 1 2 33 ?_
     by_cases q5:ERight ext size
     ·obtain rfl:t=true:=ht.2 q5
      refine cF_ ?_
      have hul:=used_ge q5.ok
      have hus:=q5.us
      iterate 12 refine s1_ ?_
      refine AWP.loop (X:=Nat) (fun x=>[(1,.pointer (some ⟨b1,0,none⟩)),(35,.slice pw waits.length cw),(36,.int .i64 waits.length),(37,.int .i64 x)]) (fun x=>T1) (fun x=>x≤waits.length ∧ ∀ j (h:j<waits.length),j<x→wok ext waits[j]) (fun x=>waits.length-x) (0) ⟨rfl,rfl,rfl,rfl,trivial⟩ (Mem.Less.refl _) (⟨Nat.zero_le _,fun j _ h=>absurd h (Nat.not_lt_zero _)⟩) ?_
      rintro i ⟨hi,hall⟩
      (try dsimp only at *)
      iterate 6 refine s1_ ?_
      refine AWP.condB rfl (fun hc=>?_) (fun hc=>?_)
      ·have hc:i<waits.length:=by have:=of_decide_eq_true hc;omega
       obtain ⟨b,off,rfl,hk⟩:=hW3.resolve_left (fun e=>by subst e;simp at hc)
       have hki:=(hk i hc).less hT1
       have hwz:=hz.wz _ (List.getElem_mem hc)
       have hwn : ¬ wok ext waits[i] → ¬ Right ⟨size,ext,waits,fuse,down⟩:=fun h h'=>h (h'.wr _ (List.getElem_mem hc))
       have hall':wok ext waits[i] → ∀ j (h:j<waits.length),j<i+1→wok ext waits[j]:=fun hw j h hj=>by rcases Nat.lt_or_ge j i with h' | h';exact hall j h h';obtain rfl:j=i:=(by omega);exact hw
       have hhp:=has_pos q5.asc waits[i].1
       have hwh:=wok_has (l:=ext) (w:=waits[i])
       have hwp:=fun (p:Nat) (hp:p<ext.length) (e:ext[p].1=(waits[i]'hc).1)=>wok_pos q5.asc hp e
       generalize waits[i]=w at *
       unfold wrF at hki
       iterate 8 refine s1_ ?_
       refine ARun.alloc (lit_lt rfl) ty_zero_168 ?_
       intro b4 f4
       have g4:=f4
       repeat ((with_reducible replace g4:=fresh_set g4);obtain ⟨g4,_⟩:=g4)
       have:=g4.ne kb1;have:=g4.ne' kb1
       refine nl_ ?_
       iterate 9 refine s1_ ?_
       refine ca_ rfl (disk_find _ ext w.1 _ (hE.less less_) q5.asc (by omega)) ?_
       rintro _ S1 ⟨rfl,h1⟩
       rw [h1];clear h1 S1
       iterate 7 refine s1_ ?_
       by_cases q6:has ext w.1=true
       ·obtain ⟨hp,hpe⟩:=hhp.1 q6
        obtain ⟨be,oe,hpe2,hke⟩:=hE3.resolve_left (fun e=>by subst e;simp at hp)
        subst hpe2
        have hkp:=(hke _ hp).less hT1
        have hsz:=hez _ (List.getElem_mem hp)
        replace hwp:=hwp _ hp hpe
        rw [q6]
        generalize hpp:pos ext w.1=p at *
        generalize hxx:ext[p]=x at *
        unfold extF at hkp
        have hsx:sec x≤140737488351232:=by unfold sec;omega
        by_cases q7:w.2.1<0
        ·refine s1_ ?_
         refine AWP.draw [(0,true),(1,true),(2,true),(3,true),(4,true),(5,true),(6,true),(7,true),(8,true),(9,true),(10,true),(11,true),(12,true),(13,true),(14,true),(15,false),(16,true),(17,true),(18,true),(19,true),(20,true),(21,true),(22,true),(23,true)] [] mixed (by kernel_rfl) ?_
         iterate 15 refine s1_ ?_
         refine draw_only rfl ?_
         refine s1_ ?_
         refine arun_nil ⟨fun _=>less_,?_⟩
         iterate 10 refine s1_ ?_
         refine cT_ ?_
         iterate 11 refine s1_ ?_
         refine ⟨_,S,⟨_,_,rfl,rfl,rfl⟩,hT1.trans less_,?_⟩
         exact ⟨by rw [chkD_no (hwn (fun h=>absurd (hwp.1 h).1 (by omega)))];rfl,rfl⟩
        ·by_cases q8:(sec x:Int)≤w.2.1
         ·refine s1_ ?_
          refine AWP.draw [(0,true),(1,true),(2,true),(3,true),(4,true),(5,true),(6,true),(7,true),(8,true),(9,true),(10,true),(11,true),(12,true),(13,true),(14,true),(15,false),(16,true),(17,true),(18,true),(19,true),(20,true),(21,true),(22,true),(23,true)] [] mixed (by kernel_rfl) ?_
          iterate 15 refine s1_ ?_
          refine draw_only rfl ?_
          refine ARun.callG 7 false 56 rfl (lit_lt rfl) rfl (lit_lt rfl) go_113 rfl (disk_sectors x _ (by omega)) ?_
          rintro _ S1 ⟨rfl,h1⟩
          rw [h1];clear h1 S1
          refine arun_nil ⟨fun _=>less_,?_⟩
          iterate 10 refine s1_ ?_
          refine k_v9 1 35 36 37 38 4 5 6 72 ?_
          refine cT_ ?_
          iterate 11 refine s1_ ?_
          refine ⟨_,S,⟨_,_,rfl,rfl,rfl⟩,hT1.trans less_,?_⟩
          exact ⟨by rw [chkD_no (hwn (fun h=>absurd (hwp.1 h).2.1 (by omega)))];rfl,rfl⟩
         ·by_cases q9:w.2.2.size=64
          ·refine s1_ ?_
           refine AWP.draw [(0,true),(1,true),(2,true),(3,true),(4,true),(5,true),(6,true),(7,true),(8,true),(9,true),(10,true),(11,true),(12,true),(13,true),(14,true),(15,false),(16,true),(17,true),(18,true),(19,true),(20,true),(21,true),(22,true),(23,true)] [] mixed (by kernel_rfl) ?_
           iterate 15 refine s1_ ?_
           refine draw_only rfl ?_
           refine ARun.callG 7 false 56 rfl (lit_lt rfl) rfl (lit_lt rfl) go_113 rfl (disk_sectors x _ (by omega)) ?_
           rintro _ S1 ⟨rfl,h1⟩
           rw [h1];clear h1 S1
           refine arun_nil ⟨fun _=>less_,?_⟩
           iterate 10 refine s1_ ?_
           refine cF_ ?_
           iterate 8 refine s1_ ?_
           refine ⟨i+1,?_,?_,?_,?_⟩
           all_goals (try dsimp only)
           ·exact ⟨rfl,rfl,rfl,rfl,trivial⟩
           ·exact less_
           ·exact ⟨hc,hall' (hwp.2 ⟨by omega,by omega,q9⟩)⟩
           ·omega
          ·refine s1_ ?_
           refine AWP.draw [(0,true),(1,true),(2,true),(3,true),(4,true),(5,true),(6,true),(7,true),(8,true),(9,true),(10,true),(11,true),(12,true),(13,true),(14,true),(15,false),(16,true),(17,true),(18,true),(19,true),(20,true),(21,true),(22,true),(23,true)] [] mixed (by kernel_rfl) ?_
           iterate 15 refine s1_ ?_
           refine draw_only rfl ?_
           refine ARun.callG 7 false 56 rfl (lit_lt rfl) rfl (lit_lt rfl) go_113 rfl (disk_sectors x _ (by omega)) ?_
           rintro _ S1 ⟨rfl,h1⟩
           rw [h1];clear h1 S1
           refine arun_nil ⟨fun _=>less_,?_⟩
           iterate 10 refine s1_ ?_
           refine cT_ ?_
           iterate 11 refine s1_ ?_
           refine ⟨_,S,⟨_,_,rfl,rfl,rfl⟩,hT1.trans less_,?_⟩
           exact ⟨by rw [chkD_no (hwn (fun h=>q9 (hwp.1 h).2.2))];rfl,rfl⟩
       ·rw [Bool.eq_false_iff.2 q6]
        refine s1_ ?_
        refine AWP.draw [(0,true),(1,true),(2,true),(3,true),(4,true),(5,true),(6,true),(7,true),(8,true),(9,true),(10,true),(11,true),(12,true),(13,true),(14,true),(15,false),(16,true),(17,true),(18,true),(19,true),(20,true),(21,true),(22,true),(23,true)] [] mixed (by kernel_rfl) ?_
        iterate 15 refine s1_ ?_
        refine draw_only rfl ?_
        refine s1_ ?_
        refine arun_nil ⟨fun _=>less_,?_⟩
        iterate 10 refine s1_ ?_
        refine cT_ ?_
        iterate 11 refine s1_ ?_
        refine ⟨_,S,⟨_,_,rfl,rfl,rfl⟩,hT1.trans less_,?_⟩
        exact ⟨by rw [chkD_no (hwn (fun h=>q6 (hwh h)))];rfl,rfl⟩
      ·have hc:i=waits.length:=by have:=of_decide_eq_false hc;omega
       iterate 11 refine s1_ ?_
       refine ⟨_,S,⟨_,_,rfl,rfl,rfl⟩,hT1.trans less_,?_⟩
       exact ⟨by rw [chkD_yes ⟨by simp only;omega,by simp only;omega,by simp only;omega,by simp only;omega,q5,fun w hw=>by obtain ⟨j,hj,rfl⟩:=List.getElem_of_mem hw;exact hall j hj (by have h':j<waits.length:=hj;omega)⟩];rfl,rfl⟩
     ·obtain rfl:t=false:=Bool.eq_false_iff.2 (fun e=>q5 (ht.1 e))
      refine cT_ ?_
      iterate 7 refine s1_ ?_
      refine ⟨_,S,⟨_,_,rfl,rfl,rfl⟩,hT1.trans less_,?_⟩
      exact ⟨by rw [chkD_no (fun h=>q5 h.ex)];rfl,rfl⟩
end
section
open Go.RowKit
open Mv Disk
set_option maxRecDepth 4000
theorem ext_len (x:Ext):(extF x).length=2:=rfl
theorem wr_len (x:Wr):(wrF x).length=3:=rfl
theorem ext_one (l:List Ext):∀ v ∈ l.flatMap extF,v.oneCell'=true:=fun v hv=>by
 obtain ⟨x,_,hx⟩:=List.mem_flatMap.1 hv
 simp only [extF,List.mem_cons,List.not_mem_nil,or_false] at hx
 rcases hx with rfl | rfl <;> rfl
theorem wr_one (l:List Wr):∀ v ∈ l.flatMap wrF,v.oneCell'=true:=fun v hv=>by
 obtain ⟨x,_,hx⟩:=List.mem_flatMap.1 hv
 simp only [wrF,List.mem_cons,List.not_mem_nil,or_false] at hx
 rcases hx with rfl | rfl | rfl <;> rfl
abbrev extT:TypeId:=127
abbrev wrT:TypeId:=168
theorem disk_CloneE (v:Value) (l:List Ext) (S:Mem) (hl:Sl 2 extF S v l) (hz:l.length≤4398046511104) :
  ACall Tryz.prog 86 #[v] S (OwnR 2 extF extT l S):=by
 obtain ⟨a,cap,rfl,h1,h2,h3⟩:=id hl
 refine k_E1 (rs:=[.tmp 2]) 8 Tryz.func86 rfl rfl rfl ?_
 cases a
 ·iterate 12 refine s1_ ?_
  refine cT_ ?_
  obtain rfl:l = []:=h3.resolve_right (fun ⟨b,off,e,_⟩=>by cases e)
  iterate 7 refine s1_ ?_
  refine ⟨_,S,⟨_,_,rfl,rfl,rfl⟩,less_,?_⟩
  exact ⟨none,okO_nil S,rfl,rfl⟩
 ·iterate 12 refine s1_ ?_
  refine cF_ ?_
  iterate 4 refine s1_ ?_
  refine ARun.build0 (lit_lt rfl) ty_sl_25 ?_
  intro b5 f5
  have g5:=f5
  repeat ((with_reducible replace g5:=fresh_set g5);obtain ⟨g5,_⟩:=g5)
  refine s1_ ?_
  refine ARun.appendOK (n:=2) (o:=some (b5,0)) (k:=0) (m:=l.length) (cs:=[]) (lit_lt rfl) ty_sl_25 rfl rfl rfl (okO_own f5 (Nat.le_refl _)) (appN_self (okO_own f5 (Nat.le_refl 0)) rfl) rfl ((hl.less less_).src ext_len) (flat_length ext_len l) (ext_one l) (by omega) (by omega) ?_
  intro o ho
  rw [Nat.zero_add] at ho ⊢
  iterate 4 refine s1_ ?_
  refine ⟨_,_,⟨_,_,rfl,rfl,rfl⟩,Mem.Less.refl _,?_⟩
  exact ⟨o,ho,rfl,rfl⟩
theorem disk_CloneW (v:Value) (l:List Wr) (S:Mem) (hl:Sl 3 wrF S v l) (hz:l.length≤3518437208883) :
  ACall Tryz.prog 87 #[v] S (OwnR 3 wrF wrT l S):=by
 obtain ⟨a,cap,rfl,h1,h2,h3⟩:=id hl
 refine k_E1 (rs:=[.tmp 2]) 8 Tryz.func87 rfl rfl rfl ?_
 cases a
 ·iterate 12 refine s1_ ?_
  refine cT_ ?_
  obtain rfl:l = []:=h3.resolve_right (fun ⟨b,off,e,_⟩=>by cases e)
  iterate 7 refine s1_ ?_
  refine ⟨_,S,⟨_,_,rfl,rfl,rfl⟩,less_,?_⟩
  exact ⟨none,okO_nil S,rfl,rfl⟩
 ·iterate 12 refine s1_ ?_
  refine cF_ ?_
  iterate 4 refine s1_ ?_
  refine ARun.build0 (lit_lt rfl) ty_sl_26 ?_
  intro b5 f5
  have g5:=f5
  repeat ((with_reducible replace g5:=fresh_set g5);obtain ⟨g5,_⟩:=g5)
  refine s1_ ?_
  refine ARun.appendOK (n:=3) (o:=some (b5,0)) (k:=0) (m:=l.length) (cs:=[]) (lit_lt rfl) ty_sl_26 rfl rfl rfl (okO_own f5 (Nat.le_refl _)) (appN_self (okO_own f5 (Nat.le_refl 0)) rfl) rfl ((hl.less less_).src wr_len) (flat_length wr_len l) (wr_one l) (by omega) (by omega) ?_
  intro o ho
  rw [Nat.zero_add] at ho ⊢
  iterate 4 refine s1_ ?_
  refine ⟨_,_,⟨_,_,rfl,rfl,rfl⟩,Mem.Less.refl _,?_⟩
  exact ⟨o,ho,rfl,rfl⟩
theorem outV_eq {S:Mem} {o:Option (Nat × Nat)} {n:Nat} (h:OkO S o n):∃ a c,outV o n = .slice a n c:=by
 cases o with
 | none=>rw [h.nil rfl];exact ⟨none,0,rfl⟩
 | some q=>exact ⟨_,q.2,rfl⟩
def dkV (d:D) (oE oW:Option (Nat × Nat)):Value:=.agg #[.int .i64 d.size,outV oE d.ext.length,outV oW d.waits.length,.int .i64 d.fuse,.bool d.down]
def dkM (S:Mem) (d:D) (oE oW:Option (Nat × Nat)):Mem:=outN 3 (outN 2 S oE extT (d.ext.flatMap extF)) oW wrT (d.waits.flatMap wrF)
structure OkD (S:Mem) (d:D) (oE oW:Option (Nat × Nat)):Prop where
  e:OkO S oE d.ext.length
  w:OkO (outN 2 S oE extT (d.ext.flatMap extF)) oW d.waits.length
theorem OkD.less {S:Mem} {d:D} {oE oW:Option (Nat × Nat)} (h:OkD S d oE oW):S.Less (dkM S d oE oW):=(outN_over h.e).trans (outN_over h.w)
theorem OkD.dk {S:Mem} {d:D} {oE oW:Option (Nat × Nat)} (h:OkD S d oE oW) (he:d.ext.length≤9223372036854775807) (hw:d.waits.length≤9223372036854775807):DkR (dkM S d oE oW) (dkV d oE oW) d:=by
 have h1:=sl_outN ext_len (e:=extT) h.e rfl he
 have h2:=sl_outN wr_len (e:=wrT) h.w rfl hw
 obtain ⟨a,c,e⟩:=outV_eq h.e
 obtain ⟨a',c',e'⟩:=outV_eq h.w
 rw [e] at h1;rw [e'] at h2
 exact ⟨a,c,a',c',by unfold dkV;rw [e,e'],h1.less (outN_over h.w),h2⟩
set_option maxHeartbeats 1000000 in
theorem disk_Own (v:Value) (d:D) (S:Mem) (hd:DkR S v d) (hz1:d.ext.length≤4398046511104) (hz2:d.waits.length≤3518437208883) :
  ACall Tryz.prog 50 #[v] S fun r S'=>∃ oE oW,OkD S d oE oW∧r=dkV d oE oW∧S'=dkM S d oE oW:=by
 obtain ⟨pe,ce,pw,cw,rfl,hE,hW⟩:=hd
 refine k_E1 (rs:=[.cell 2 28]) 12 Tryz.func50 rfl rfl rfl ?_
 iterate 2 refine s1_ ?_
 refine k_b5 rfl ?_
 intro b1 f1
 have g1:=f1
 repeat ((with_reducible replace g1:=fresh_set g1);obtain ⟨g1,_⟩:=g1)
 refine nl_ ?_
 refine ARun.alloc (lit_lt rfl) ty_zero_28 ?_
 intro b2 f2
 have g2:=f2
 repeat ((with_reducible replace g2:=fresh_set g2);obtain ⟨g2,_⟩:=g2)
 refine nl_ ?_
 iterate 3 refine s1_ ?_
 refine AWP.draw [(0,true),(1,true),(3,true),(4,true),(2,false),(6,true),(5,false),(7,false),(8,true),(9,false)] [7,9] mixed (by kernel_rfl) ?_
 iterate 4 refine s1_ ?_
 refine draw_only rfl ?_
 refine ca_ rfl (((disk_CloneE _ d.ext S hE hz1).frame f1).frame f2) ?_
 rintro _ S1 ⟨Sa,⟨M,⟨oE,hoE,rfl,hM⟩,f1',hSa⟩,f2',h1⟩
 rw [h1,hSa];rw [hSa] at f2';clear h1 S1 hSa Sa
 obtain ⟨qe,de,hqe⟩:=outV_eq hoE
 rw [hqe]
 have hSM:S.Less M:=by rw [hM];exact outN_over hoE
 have hWM:Sl 3 wrF M (.slice pw d.waits.length cw) d.waits:=hW.less hSM
 refine arun_nil ⟨fun _=>less_,?_⟩
 refine s1_ ?_
 refine draw_only rfl ?_
 refine ca_ rfl (((disk_CloneW _ d.waits M hWM hz2).frame f1').frame f2') ?_
 rintro _ S1 ⟨Sa,⟨M2,⟨oW,hoW,rfl,hM2⟩,f1'',hSa⟩,f2'',h1⟩
 rw [h1,hSa];rw [hSa] at f2'';clear h1 S1 hSa Sa
 obtain ⟨g2m,_⟩:=fresh_set f2''
 obtain ⟨qw,dw,hqw⟩:=outV_eq hoW
 rw [hqw]
 have hSM2:S.Less M2:=hSM.trans (by rw [hM2];exact outN_over hoW)
 refine arun_nil ⟨fun _=>less_,?_⟩
 refine draw_only rfl ?_
 refine s1_ ?_
 refine arun_nil ⟨fun h=>absurd h (by decide),?_⟩
 refine s1_ ?_
 refine draw_only rfl ?_
 refine s1_ ?_
 refine arun_nil ⟨fun h=>absurd h (by decide),?_⟩
 iterate 9 refine s1_ ?_
 refine ⟨_,M2,⟨_,_,_,rfl,.inr ⟨ty_agg_28,[_,_,_,_,_],ty_size_28,rds_,rfl⟩,rfl,rfl⟩,less_,?_⟩
 exact ⟨oE,oW,⟨hoE,by rw [← hM];exact hoW⟩,by unfold dkV;rw [hqe,hqw];rfl,by rw [hM2,hM];rfl⟩
def DkRes (p:D × Int) (S:Mem) (r:Value) (S':Mem):Prop:=∃ v,r = .tuple #[v,.int .i64 p.2]∧S.Less S'∧DkR S' v p.1
theorem dkR_zero (S:Mem):DkR S (.agg #[.int .i64 0,.slice none 0 0,.slice none 0 0,.int .i64 0,.bool false]) D0:=⟨none,0,none,0,rfl,Sl.nil _ _ _,Sl.nil _ _ _⟩
def makeD (n:Int):D × Int:=if n<0∨16384<n then (D0,1) else (⟨n,[],[],-1,false⟩,0)
theorem disk_Make (n:Int) (S:Mem):ACall Tryz.prog 6 #[.int .i64 n] S (DkRes (makeD n) S):=by
 unfold makeD
 by_cases h1:n<0
 ·rw [if_pos (.inl h1)]
  refine k_E1 (rs:=[.cell 2 28,.tmp 3]) 13 Tryz.func6 rfl rfl rfl ?_
  iterate 2 refine s1_ ?_
  refine ARun.alloc (lit_lt rfl) ty_zero_28 ?_
  intro b2 f2
  have g2:=f2
  repeat ((with_reducible replace g2:=fresh_set g2);obtain ⟨g2,_⟩:=g2)
  refine nl_ ?_
  iterate 14 refine s1_ ?_
  refine cT_ ?_
  iterate 9 refine s1_ ?_
  refine ⟨_,S,⟨_,_,_,rfl,.inr ⟨ty_agg_28,[_,_,_,_,_],ty_size_28,rds_,rfl⟩,⟨_,_,rfl,rfl,rfl⟩,rfl⟩,less_,?_⟩
  exact ⟨_,rfl,Mem.Less.refl _,dkR_zero S⟩
 ·by_cases h2:16384<n
  ·rw [if_pos (.inr h2)]
   refine k_E1 (rs:=[.cell 2 28,.tmp 3]) 13 Tryz.func6 rfl rfl rfl ?_
   iterate 2 refine s1_ ?_
   refine ARun.alloc (lit_lt rfl) ty_zero_28 ?_
   intro b2 f2
   have g2:=f2
   repeat ((with_reducible replace g2:=fresh_set g2);obtain ⟨g2,_⟩:=g2)
   refine nl_ ?_
   iterate 14 refine s1_ ?_
   refine cT_ ?_
   iterate 9 refine s1_ ?_
   refine ⟨_,S,⟨_,_,_,rfl,.inr ⟨ty_agg_28,[_,_,_,_,_],ty_size_28,rds_,rfl⟩,⟨_,_,rfl,rfl,rfl⟩,rfl⟩,less_,?_⟩
   exact ⟨_,rfl,Mem.Less.refl _,dkR_zero S⟩
  ·rw [if_neg (by omega)]
   refine k_E1 (rs:=[.cell 2 28,.tmp 3]) 13 Tryz.func6 rfl rfl rfl ?_
   iterate 2 refine s1_ ?_
   refine ARun.alloc (lit_lt rfl) ty_zero_28 ?_
   intro b2 f2
   have g2:=f2
   repeat ((with_reducible replace g2:=fresh_set g2);obtain ⟨g2,_⟩:=g2)
   refine nl_ ?_
   iterate 14 refine s1_ ?_
   refine k_v4 0 2 3 9 ?_
   refine cF_ ?_
   iterate 11 refine s1_ ?_
   refine ⟨_,S,⟨_,_,_,rfl,.inr ⟨ty_agg_28,[_,_,_,_,_],ty_size_28,rds_,rfl⟩,⟨_,_,rfl,rfl,rfl⟩,rfl⟩,less_,?_⟩
   exact ⟨_,rfl,Mem.Less.refl _,none,0,none,0,rfl,Sl.nil _ _ _,Sl.nil _ _ _⟩
def devM (S:Mem) (p:Nat) (d:D) (oE oW:Option (Nat × Nat)):Mem:=(dkM S d oE oW).set p ⟨100,[.int .i64 d.size,outV oE d.ext.length,outV oW d.waits.length,.int .i64 d.fuse,.bool d.down],5⟩
structure OkV (S:Mem) (p:Nat) (d:D) (oE oW:Option (Nat × Nat)):Prop where
  dk:OkD S d oE oW
  fr:Fresh (dkM S d oE oW) p
noncomputable def openD (d:D):D × Int:=if chkD d=0 then (d,if d.down=true then 10 else 0) else (D0,2)
def OpenR (p:D × Int) (S:Mem) (r:Value) (S':Mem):Prop:=∃ b oE oW,OkV S b p.1 oE oW∧r = .tuple #[.pointer (some ⟨b,0,none⟩),.int .i64 p.2]∧S'=devM S b p.1 oE oW
set_option maxHeartbeats 1000000 in
theorem disk_Open (v:Value) (d:D) (S:Mem) (hd:DkR S v d) (hz:Dz d) :
  ACall Tryz.prog 39 #[v] S (OpenR (openD d) S):=by
 have hcheck:=fun M h=>disk_Check v d M h hz
 have hown:=fun M h=>disk_Own v d M h hz.el hz.wl
 obtain ⟨pe,ce,pw,cw,rfl,hE,hW⟩:=id hd
 unfold openD
 rcases chkD_or d with ⟨hk,hR⟩ | ⟨hk,hR⟩
 ·rw [if_pos hk]
  refine k_E1 (rs:=[.tmp 2,.tmp 3]) 21 Tryz.func39 rfl rfl rfl ?_
  iterate 2 refine s1_ ?_
  refine k_b5 rfl ?_
  intro b1 f1
  have g1:=f1
  repeat ((with_reducible replace g1:=fresh_set g1);obtain ⟨g1,_⟩:=g1)
  refine nl_ ?_
  iterate 8 refine s1_ ?_
  refine ca_ rfl (hcheck _ (hd.less less_)) ?_
  rintro _ S1 ⟨rfl,h1⟩
  rw [h1,hk];clear h1 S1
  iterate 9 refine s1_ ?_
  refine cF_ ?_
  iterate 5 refine s1_ ?_
  refine ca_ rfl ((hown S hd).frame f1) ?_
  rintro _ S1 ⟨M,⟨oE,oW,hok,rfl,hM⟩,f1',h1⟩
  rw [h1];clear h1 S1
  have hSM:S.Less M:=by rw [hM];exact hok.less
  unfold dkV
  obtain ⟨qe,de,hqe⟩:=outV_eq hok.e
  obtain ⟨qw,dw,hqw⟩:=outV_eq hok.w
  rw [hqe,hqw]
  refine s1_ ?_
  refine k_b5 rfl ?_
  intro b16 f16
  have g16:=f16
  repeat ((with_reducible replace g16:=fresh_set g16);obtain ⟨g16,_⟩:=g16)
  refine nl_ ?_
  iterate 10 refine s1_ ?_
  refine AWP.condB rfl (fun hb=>?_) (fun hb=>?_)
  ·iterate 7 refine s1_ ?_
   refine k_v8 0 1 2 3 4 9 5 18 ?_
   iterate 2 refine s1_ ?_
   refine ⟨_,M.set b16 _,⟨_,_,rfl,⟨_,_,rfl,rfl,rfl⟩,rfl⟩,Less.set (Mem.less_set _ _ _ f1'.1) _ _,?_⟩
   exact ⟨b16,oE,oW,⟨hok,by rw [← hM];exact g16⟩,by rw [if_pos hb];rfl,by unfold devM;rw [hqe,hqw,← hM]⟩
  ·iterate 9 refine s1_ ?_
   refine s1_ ?_
   refine ⟨_,M.set b16 _,⟨_,_,rfl,⟨_,_,rfl,rfl,rfl⟩,rfl⟩,Less.set (Mem.less_set _ _ _ f1'.1) _ _,?_⟩
   exact ⟨b16,oE,oW,⟨hok,by rw [← hM];exact g16⟩,by rw [if_neg (Bool.eq_false_iff.1 hb)];rfl,by unfold devM;rw [hqe,hqw,← hM]⟩
 ·rw [if_neg (by rw [hk];decide)]
  refine k_E1 (rs:=[.tmp 2,.tmp 3]) 21 Tryz.func39 rfl rfl rfl ?_
  iterate 2 refine s1_ ?_
  refine k_b5 rfl ?_
  intro b1 f1
  have g1:=f1
  repeat ((with_reducible replace g1:=fresh_set g1);obtain ⟨g1,_⟩:=g1)
  refine nl_ ?_
  iterate 8 refine s1_ ?_
  refine ca_ rfl (hcheck _ (hd.less less_)) ?_
  rintro _ S1 ⟨rfl,h1⟩
  rw [h1,hk];clear h1 S1
  iterate 9 refine s1_ ?_
  refine cT_ ?_
  iterate 3 refine s1_ ?_
  refine k_b5 rfl ?_
  intro b11 f11
  have g11:=f11
  repeat ((with_reducible replace g11:=fresh_set g11);obtain ⟨g11,_⟩:=g11)
  refine nl_ ?_
  iterate 7 refine s1_ ?_
  refine ⟨_,S.set b11 _,⟨_,_,rfl,⟨_,_,rfl,rfl,rfl⟩,rfl⟩,Less.set (Mem.less_set _ _ _ f1.1) _ _,?_⟩
  exact ⟨b11,none,none,⟨⟨okO_nil _,okO_nil _⟩,g11⟩,rfl,rfl⟩
end
section
open Go.RowKit
open Mv Disk
set_option maxRecDepth 4000
def RdV (M:Mem) (p:Nat) (d:D):Prop:=∃ qe de qw dw,M.own p=some ⟨100,[.int .i64 d.size,.slice qe d.ext.length de,.slice qw d.waits.length dw,.int .i64 d.fuse,.bool d.down],5⟩∧Sl 2 extF M (.slice qe d.ext.length de) d.ext∧Sl 3 wrF M (.slice qw d.waits.length dw) d.waits
theorem RdV.less {M M':Mem} {p:Nat} {d:D} (h:RdV M p d) (hl:M.Less M'):RdV M' p d:=by
 obtain ⟨qe,de,qw,dw,h1,h2,h3⟩:=h
 exact ⟨qe,de,qw,dw,hl.own h1,h2.less hl,h3.less hl⟩
theorem OkV.rd {S:Mem} {p:Nat} {d:D} {oE oW:Option (Nat × Nat)} (h:OkV S p d oE oW) (he:d.ext.length≤9223372036854775807) (hw:d.waits.length≤9223372036854775807):RdV (devM S p d oE oW) p d:=by
 obtain ⟨a,c,e⟩:=outV_eq h.dk.e
 obtain ⟨a',c',e'⟩:=outV_eq h.dk.w
 have h1:=sl_outN ext_len (e:=extT) h.dk.e rfl he
 have h2:=sl_outN wr_len (e:=wrT) h.dk.w rfl hw
 rw [e] at h1;rw [e'] at h2
 have hl:(dkM S d oE oW).Less (devM S p d oE oW):=Mem.less_set _ _ _ h.fr.1
 refine ⟨a,c,a',c',?_,(h1.less (outN_over h.dk.w)).less hl,h2.less hl⟩
 unfold devM;rw [e,e'];exact Mem.own_set_same _ _ _
theorem OkV.less {S:Mem} {p:Nat} {d:D} {oE oW:Option (Nat × Nat)} (h:OkV S p d oE oW):S.Less (devM S p d oE oW):=h.dk.less.trans (Mem.less_set _ _ _ h.fr.1)
theorem right_len {d:D} (h:Right d):d.ext.length≤16384∧used d.ext≤16384:=by
 have h1:=used_ge h.ex.ok;have h2:=h.ex.us;have h3:=h.s1;omega
theorem right_sec {d:D} (h:Right d) {x:Ext} (hx:x ∈ d.ext):sec x≤16384∧x.2.size=64*sec x∧1≤sec x:=by
 have h1:=used_mem hx;have h2:=right_len h;have h3:=eok_sec (h.ex.ok x hx);omega
theorem openD_or (d:D):(openD d=(D0,2) ∧ ¬ Right d)∨(openD d=(d,10)∧Right d∧d.down=true)∨(openD d=(d,0)∧Right d∧d.down=false):=by
 unfold openD
 rcases chkD_or d with ⟨hk,hR⟩ | ⟨hk,hR⟩
 ·right
  rw [if_pos hk]
  cases hdn:d.down with
  | true=>left;exact ⟨rfl,hR,rfl⟩
  | false=>right;exact ⟨rfl,hR,rfl⟩
 ·left;rw [if_neg (by rw [hk];decide)];exact ⟨rfl,hR⟩
theorem used_take {l:List Ext} {i:Nat} (h:i<l.length):used (l.take (i+1))=used (l.take i)+sec l[i]:=by rw [take_get h,used_append];simp [used]
theorem used_take_le (l:List Ext) (i:Nat):used (l.take i)≤used l:=by
 have:=used_append (l.take i) (l.drop i)
 rw [List.take_append_drop] at this;omega
set_option maxHeartbeats 1000000 in
theorem dev_Room (p:Nat) (d:D) (M:Mem) (h:RdV M p d) (hR:Right d):ACall Tryz.prog 78 #[.pointer (some ⟨p,0,none⟩)] M fun r S'=>r = .int .i64 (d.size-used d.ext)∧S'=M:=by
 obtain ⟨qe,de,qw,dw,hp,hE,hW⟩:=h
 obtain ⟨_,_,ee1,ee2,ee3,hE3⟩:=id hE
 cases ee1
 have hrl:=right_len hR
 have hs0:=hR.s0;have hs1:=hR.s1
 refine k_E1 (rs:=[.tmp 2]) 27 Tryz.func78 rfl rfl rfl ?_
 iterate 28 refine s1_ ?_
 refine AWP.loop (X:=Nat) (fun x=>[(3,.int .i64 (d.size-used (d.ext.take x))),(15,.slice qe d.ext.length de),(16,.int .i64 d.ext.length),(17,.int .i64 x)]) (fun x=>M) (fun x=>x≤d.ext.length) (fun x=>d.ext.length-x) (0) ⟨some_int (by simp [used]),rfl,rfl,rfl,trivial⟩ (Mem.Less.refl _) (Nat.zero_le _) ?_
 rintro i hi
 (try dsimp only at *)
 iterate 6 refine s1_ ?_
 refine AWP.condB rfl (fun hc=>?_) (fun hc=>?_)
 ·have hc:i<d.ext.length:=by have:=of_decide_eq_true hc;omega
  obtain ⟨b,off,rfl,hk⟩:=hE3.resolve_left (fun e=>by rw [e] at hc;simp at hc)
  have hki:=hk i hc
  have hut:=used_take hc
  have hul:=used_take_le d.ext (i+1)
  have hsx:=right_sec hR (List.getElem_mem hc)
  generalize d.ext[i]=x at *
  unfold extF at hki
  iterate 8 refine s1_ ?_
  refine ARun.alloc (lit_lt rfl) ty_zero_127 ?_
  intro b5 f5
  have g5:=f5
  repeat ((with_reducible replace g5:=fresh_set g5);obtain ⟨g5,_⟩:=g5)
  have:=g5.ne hp;have:=g5.ne' hp
  refine nl_ ?_
  iterate 6 refine s1_ ?_
  refine ca_ rfl (disk_sectors x _ (by omega)) ?_
  rintro _ S1 ⟨rfl,h1⟩
  rw [h1];clear h1 S1
  iterate 10 refine s1_ ?_
  refine ⟨i+1,?_,?_,?_,?_⟩
  all_goals (try dsimp only)
  ·exact ⟨some_int (by omega),rfl,rfl,rfl,trivial⟩
  ·exact less_
  ·exact hc
  ·omega
 ·have hc:i=d.ext.length:=by have:=of_decide_eq_false hc;omega
  subst hc
  rw [List.take_length]
  iterate 11 refine s1_ ?_
  refine k_v6 3 15 16 17 18 2 ?_
  refine s1_ ?_
  refine ⟨_,M,⟨_,_,rfl,rfl,rfl⟩,less_,?_⟩
  exact ⟨rfl,rfl⟩
noncomputable def roomD (d:D):Int × Int:=if (openD d).2≠0 then (0,(openD d).2) else (d.size-used d.ext,0)
def exOf (l:List Ext) (s:ByteArray):Ext:=l.getD (pos l s) (ByteArray.empty,ByteArray.empty)
theorem exOf_eq {l:List Ext} {s:ByteArray} (h:pos l s<l.length):exOf l s=l[pos l s]:=by simp [exOf,List.getD,List.getElem?_eq_getElem h]
noncomputable def sectorsD (d:D) (s:ByteArray):Int × Int:=if (openD d).2≠0 then (0,(openD d).2) else if has d.ext s=true then ((sec (exOf d.ext s):Nat),0) else (0,3)
def placeD (d:D) (s:ByteArray) (k:Int):Nat × Int:=if has d.ext s=true then (if k<0∨(sec (exOf d.ext s):Int)≤k then (0,1) else (pos d.ext s,0)) else (0,3)
set_option maxHeartbeats 1000000 in
theorem dev_place (p:Nat) (d:D) (s:ByteArray) (i:Int) (M:Mem) (h:RdV M p d) (hR:Right d):ACall Tryz.prog 81 #[.pointer (some ⟨p,0,none⟩),.string s,.int .i64 i] M fun r S'=>r = .tuple #[.int .i64 ((placeD d s i).1:Nat),.int .i64 (placeD d s i).2]∧S'=M:=by
 obtain ⟨qe,de,qw,dw,hp,hME,hMW⟩:=h
 have hhp:=has_pos hR.ex.asc s
 unfold placeD
 by_cases q:has d.ext s=true
 ·obtain ⟨hlt,he⟩:=hhp.1 q
  have hsx:=right_sec hR (List.getElem_mem hlt)
  have hfind:=disk_find _ d.ext s M hME hR.ex.asc (Nat.le_trans (right_len hR).1 (by decide))
  rw [if_pos q,exOf_eq hlt]
  obtain ⟨_,_,ee1,ee2,ee3,hE3⟩:=id hME
  cases ee1
  obtain ⟨b,off,rfl,hk⟩:=hE3.resolve_left (fun e=>by rw [e] at hlt;simp at hlt)
  have hki:=hk _ hlt
  generalize hpp:pos d.ext s=k at *
  generalize d.ext[k]=x at *
  unfold extF at hki
  by_cases q1:i<0
  ·rw [if_pos (.inl q1)]
   refine k_E3 (rs:=[.tmp 6,.tmp 7]) 40 Tryz.func81 rfl rfl rfl ?_
   iterate 14 refine s1_ ?_
   refine ca_ rfl (hfind) ?_
   rintro _ S1 ⟨rfl,h1⟩
   rw [h1,q];clear h1 S1
   iterate 16 refine s1_ ?_
   refine cF_ ?_
   iterate 20 refine s1_ ?_
   refine cT_ ?_
   iterate 9 refine s1_ ?_
   refine ⟨_,M,⟨_,_,rfl,⟨_,_,rfl,rfl,rfl⟩,rfl⟩,less_,?_⟩
   exact ⟨rfl,rfl⟩
  ·by_cases q2:(sec x:Int)≤i
   ·rw [if_pos (.inr q2)]
    refine k_E3 (rs:=[.tmp 6,.tmp 7]) 40 Tryz.func81 rfl rfl rfl ?_
    iterate 14 refine s1_ ?_
    refine ca_ rfl (hfind) ?_
    rintro _ S1 ⟨rfl,h1⟩
    rw [h1,q];clear h1 S1
    iterate 16 refine s1_ ?_
    refine k_v8 0 1 2 6 7 8 9 20 ?_
    refine cF_ ?_
    iterate 14 refine s1_ ?_
    refine ARun.callG 2 false 26 rfl (lit_lt rfl) rfl (lit_lt rfl) go_113 rfl (disk_sectors x _ (by omega)) ?_
    rintro _ S1 ⟨rfl,h1⟩
    rw [h1];clear h1 S1
    iterate 5 refine s1_ ?_
    refine cT_ ?_
    iterate 9 refine s1_ ?_
    refine ⟨_,M,⟨_,_,rfl,⟨_,_,rfl,rfl,rfl⟩,rfl⟩,less_,?_⟩
    exact ⟨rfl,rfl⟩
   ·rw [if_neg (by omega)]
    refine k_E3 (rs:=[.tmp 6,.tmp 7]) 40 Tryz.func81 rfl rfl rfl ?_
    iterate 14 refine s1_ ?_
    refine ca_ rfl (hfind) ?_
    rintro _ S1 ⟨rfl,h1⟩
    rw [h1,q];clear h1 S1
    iterate 16 refine s1_ ?_
    refine cF_ ?_
    iterate 14 refine s1_ ?_
    refine ARun.callG 2 false 26 rfl (lit_lt rfl) rfl (lit_lt rfl) go_113 rfl (disk_sectors x _ (by omega)) ?_
    rintro _ S1 ⟨rfl,h1⟩
    rw [h1];clear h1 S1
    iterate 5 refine s1_ ?_
    refine cF_ ?_
    iterate 10 refine s1_ ?_
    refine k_v9 0 1 2 6 7 8 9 20 23 ?_
    refine s1_ ?_
    refine ⟨_,M,⟨_,_,rfl,⟨_,_,rfl,rfl,rfl⟩,rfl⟩,less_,?_⟩
    exact ⟨rfl,rfl⟩
 ·rw [if_neg q]
  refine k_E3 (rs:=[.tmp 6,.tmp 7]) 40 Tryz.func81 rfl rfl rfl ?_
  iterate 14 refine s1_ ?_
  refine ca_ rfl (disk_find _ d.ext s _ hME hR.ex.asc (Nat.le_trans (right_len hR).1 (by decide))) ?_
  rintro _ S1 ⟨rfl,h1⟩
  rw [h1,Bool.eq_false_iff.2 q];clear h1 S1
  iterate 16 refine s1_ ?_
  refine cT_ ?_
  iterate 9 refine s1_ ?_
  refine ⟨_,M,⟨_,_,rfl,⟨_,_,rfl,rfl,rfl⟩,rfl⟩,less_,?_⟩
  exact ⟨rfl,rfl⟩
end
section
open Go.RowKit
open Mv Disk
set_option maxRecDepth 4000
theorem spl_mid {A Y X B:List Value} {k:Nat} (hk:A.length=k) (hl:Y.length=X.length):spl (A ++ (Y ++ B)) k X=A ++ (X ++ B):=by
 subst hk
 unfold spl
 rw [List.take_left,← List.drop_drop,List.drop_left,← hl,List.drop_left,List.append_assoc]
theorem spl_end {A Y X:List Value} {k:Nat} (hk:A.length=k) (hl:Y.length≤X.length):spl (A ++ Y) k X=A ++ X:=by
 subst hk
 unfold spl
 rw [List.take_left,List.drop_of_length_le (by rw [List.length_append];omega),List.append_nil]
theorem flat_take {α : Type} {n:Nat} {f : α→List Value} (l:List α) (i:Nat):l.flatMap f=(l.take i).flatMap f ++ (l.drop i).flatMap f:=by
 rw [← List.flatMap_append,List.take_append_drop]
theorem room_cells {A D X:List Value} {i:Nat} (hA:A.length=i*2) (hX:X.length=2) (hD:2≤D.length):spl (spl (A ++ D) (0+(i+1)*2) D) (0+i*2) X=A ++ (X ++ D):=by
 have e:spl (A ++ D) (0+(i+1)*2) D=A ++ (D.take 2 ++ D):=by
  have e1:A ++ D=(A ++ D.take 2) ++ D.drop 2:=by rw [List.append_assoc,List.take_append_drop]
  rw [e1,spl_end (by simp [hA];omega) (by simp),List.append_assoc]
 rw [e]
 exact spl_mid (by omega) (by simp [hX];omega)
theorem grow_cells {A D X zs:List Value} {i:Nat} (hA:A.length=i*2) (hX:X.length=2) (hz:zs.length=2+D.length):spl (spl (A ++ zs) (0+i*2) X) (0+(i+1)*2) D=A ++ (X ++ D):=by
 have e:spl (A ++ zs) (0+i*2) X=(A ++ X) ++ zs.drop 2:=by
  have e1:A ++ zs=A ++ (zs.take 2 ++ zs.drop 2):=by rw [List.take_append_drop]
  rw [e1,spl_mid (by omega) (by simp [hX];omega),List.append_assoc]
 rw [e,spl_end (by simp [hA,hX];omega) (by simp;omega),List.append_assoc]
def insAt (l:List Ext) (i:Nat) (x:Ext):List Ext:=l.take i ++ x :: l.drop i
theorem ins_flat (l:List Ext) (i:Nat) (x:Ext):(insAt l i x).flatMap extF=(l.take i).flatMap extF ++ (extF x ++ (l.drop i).flatMap extF):=by
 unfold insAt;rw [List.flatMap_append,List.flatMap_cons]
theorem ins_len {l:List Ext} {i:Nat} (h:i≤l.length) (x:Ext):(insAt l i x).length=l.length+1:=by
 unfold insAt;simp;omega
set_option maxHeartbeats 2000000 in
theorem ins_ext (B:Mem) (o:Option (Nat × Nat)) (l:List Ext) (i:Nat) (x:Ext) (t:Nat) (ho:OkO B o l.length) (ht:Fresh (outN 2 B o extT (l.flatMap extF)) t) (hi:i≤l.length) (hlen:l.length≤16384) :
  ACall Tryz.prog 79 #[outV o l.length,.int .i64 (i:Int),.slice (some ⟨t,0,none⟩) 1 1] ((outN 2 B o extT (l.flatMap extF)).set t ⟨extT,extF x,2⟩) fun r S'=>∃ o',OkO B o' (l.length+1)∧r=outV o' (l.length+1)∧S'=outN 2 B o' extT ((insAt l i x).flatMap extF):=by
 have hfl:=flat_length ext_len l
 have hx1:∀ v ∈ extF x,v.oneCell'=true:=fun v hv=>ext_one [x] v (by simpa using hv)
 have happ:AppN 2 ((outN 2 B o extT (l.flatMap extF)).set t ⟨extT,extF x,2⟩) B o extT (l.flatMap extF):=(appN_self ho hfl).temp ht
 by_cases hil:i=l.length
 ·subst hil
  have he:(insAt l l.length x).flatMap extF=l.flatMap extF ++ extF x:=by rw [ins_flat];simp
  rw [he]
  cases o with
  | none =>
   obtain rfl:l = []:=List.eq_nil_of_length_eq_zero (ho.nil rfl)
   refine k_E3 (rs:=[.tmp 6]) 95 Tryz.func79 rfl rfl rfl ?_
   iterate 26 refine s1_ ?_
   refine cF_ ?_
   iterate 17 refine s1_ ?_
   refine k_v8 0 1 2 6 7 16 8 22 ?_
   refine cT_ ?_
   iterate 4 refine s1_ ?_
   refine ARun.appendOK (n:=2) (o:=none) (k:=0) (m:=1) (cs:=[]) (lit_lt rfl) ty_sl_25 rfl rfl hfl ho happ rfl (src_own (Mem.own_set_same _ _ _) List.prefix_rfl) rfl hx1 (by omega) (by omega) ?_
   intro o' ho'
   iterate 5 refine s1_ ?_
   refine ⟨_,_,⟨_,_,rfl,rfl,rfl⟩,Mem.Less.refl _,?_⟩
   exact ⟨o',ho',rfl,rfl⟩
  | some q =>
   obtain ⟨b,c⟩:=q
   have hc:=(ho.own b c rfl).2
   refine k_E3 (rs:=[.tmp 6]) 95 Tryz.func79 rfl rfl rfl ?_
   iterate 26 refine s1_ ?_
   refine cF_ ?_
   iterate 9 refine s1_ ?_
   refine k_v7 0 1 2 6 7 16 8 ?_
   iterate 8 refine s1_ ?_
   refine cT_ ?_
   iterate 4 refine s1_ ?_
   refine ARun.appendOK (n:=2) (o:=some (b,c)) (k:=l.length) (m:=1) (cs:=l.flatMap extF) (lit_lt rfl) ty_sl_25 rfl rfl hfl ho happ rfl (src_own (Mem.own_set_same _ _ _) List.prefix_rfl) rfl hx1 (by omega) (by omega) ?_
   intro o' ho'
   iterate 5 refine s1_ ?_
   refine ⟨_,_,⟨_,_,rfl,rfl,rfl⟩,Mem.Less.refl _,?_⟩
   exact ⟨o',ho',rfl,rfl⟩
 ·obtain ⟨⟨b,c⟩,rfl⟩ : ∃ q,o=some q:=by
   cases o with
   | none=>have:=ho.nil rfl;omega
   | some q=>exact ⟨q,rfl⟩
  have hc:=(ho.own b c rfl).2
  have hfb:=(ho.own b c rfl).1
  obtain ⟨htB,htb⟩:=fresh_set ht
  have hA:=flat_length ext_len (l.take i)
  have hD:=flat_length ext_len (l.drop i)
  rw [List.length_take,Nat.min_eq_left hi] at hA
  rw [List.length_drop] at hD
  have hsplit:=flat_take (n:=2) (f:=extF) l i
  have hsl:(spl (l.flatMap extF) (0+(i+1)*2) ((l.drop i).flatMap extF)).length=l.length*2+2:=by
   unfold spl;simp only [List.length_append,List.length_take,List.length_drop,hfl,hD];omega
  rw [ins_flat]
  dsimp only [outN,outV]
  by_cases hroom:l.length+1≤c
  ·skip
   refine k_E3 (rs:=[.tmp 6]) 95 Tryz.func79 rfl rfl rfl ?_
   iterate 26 refine s1_ ?_
   refine k_v6 0 1 2 6 7 16 ?_
   refine cF_ ?_
   iterate 17 refine s1_ ?_
   refine cF_ ?_
   iterate 9 refine s1_ ?_
   refine rC (Calm.cap Tryz.underlying25 rfl) ?_
   iterate 3 refine s1_ ?_
   refine cF_ ?_
   iterate 8 refine s1_ ?_
   refine rC (Calm.sliceHi (l.length+1) Tryz.underlying25 ty_size_127 rfl rfl (by omega) (by omega)) ?_
   iterate 11 refine s1_ ?_
   refine rC (Calm.sliceLo (i+1) Tryz.underlying25 ty_size_127 rfl rfl (by omega) (by omega) (by omega)) ?_
   refine ARun.overlapsNo (T:=25) (tR:=4) (lit_lt rfl) Tryz.func119 rfl rfl rfl rfl Tryz.underlying25 ty_size_127 rfl (Mem.own_set_same _ _ _) (Nat.ne_of_beq_eq_false rfl) (show 0<2 from by decide) own_ (by simp only [hfl];omega) htb ?_
   iterate 3 refine s1_ ?_
   refine k_v10 0 1 2 6 7 16 8 22 31 68 ?_
   refine cT_ ?_
   refine s1_ ?_
   refine AWP.draw [(0,true),(1,true),(2,true),(3,true),(4,true),(5,true),(6,true),(7,true),(8,false)] [8] mixed (by kernel_rfl) ?_
   iterate 4 refine s1_ ?_
   refine dP (hc:=fun _=>Calm.sliceLo (i+1) Tryz.underlying25 ty_size_127 rfl rfl (by omega) (by omega) (by omega)) (h:=?_)
   iterate 2 refine s1_ ?_
   refine dP (hc:=fun _=>Calm.sliceLo (i) Tryz.underlying25 ty_size_127 rfl rfl (by omega) (by omega) (by omega)) (h:=?_)
   refine draw_only rfl ?_
   refine ARun.copyK (n:=2) (q:=l.length-i) (news:=(l.drop i).flatMap extF) (lit_lt rfl) ty_sl_25 rfl own_ (by simp only [hfl];omega) rfl (by omega) (Mem.own_knows (r:=⟨extT,l.flatMap extF,c*2⟩) own_ _ _ (fun j v hj=>by simp only;rw [hsplit,List.getElem?_append_right (by omega),← hj];congr 1;omega)) hD (ext_one _) (.inr (by simp only [hD];omega)) ?_
   refine arun_nil ⟨fun h=>absurd h (by decide),?_⟩
   iterate 6 refine s1_ ?_
   refine rC (Calm.sliceLo (i) Tryz.underlying25 ty_size_127 rfl rfl (by omega) (by omega) (by omega)) ?_
   refine s1_ ?_
   refine ARun.copyK (n:=2) (q:=1) (news:=extF x) (lit_lt rfl) ty_sl_25 rfl own_ (by simp only [hsl];omega) rfl (by omega) (Mem.own_knows (r:=⟨extT,extF x,2⟩) own_ 0 _ (fun j v hj=>by rw [Nat.zero_add];exact hj)) rfl hx1 (.inr (by simp only [ext_len];omega)) ?_
   iterate 10 refine s1_ ?_
   refine ⟨_,B.set b ⟨extT,spl (spl (l.flatMap extF) (0+(i+1)*2) ((l.drop i).flatMap extF)) (0+i*2) (extF x),c*2⟩,⟨_,_,rfl,rfl,rfl⟩,less_,?_⟩
   exact ⟨some (b,c),okO_own hfb hroom,rfl,by rw [hsplit,room_cells hA rfl (by rw [hD];omega)]⟩
  ·skip
   refine k_E3 (rs:=[.tmp 6]) 95 Tryz.func79 rfl rfl rfl ?_
   iterate 19 refine s1_ ?_
   refine k_v5 0 1 2 6 7 ?_
   iterate 7 refine s1_ ?_
   refine cF_ ?_
   iterate 17 refine s1_ ?_
   refine cF_ ?_
   iterate 9 refine s1_ ?_
   refine rC (Calm.cap Tryz.underlying25 rfl) ?_
   iterate 3 refine s1_ ?_
   refine cT_ ?_
   iterate 4 refine s1_ ?_
   refine rC (Calm.sliceHi (i) Tryz.underlying25 ty_size_127 rfl rfl (by omega) (by omega)) ?_
   iterate 5 refine s1_ ?_
   refine ARun.appendMake (k:=i) (m:=l.length+1-i) (xs:=(l.take i).flatMap extF) (c:=c) (lit_lt rfl) ty_sl_25 rfl Tryz.underlying3 rfl hA ((rds_prefix (r:=⟨extT,l.flatMap extF,c*2⟩) own_ (by rw [hsplit];exact List.prefix_append _ _)).knows) (congrArg some (congrArg (Value.int .i64) (by omega))) (by omega) (by omega) (by omega) ?_
   intro b' c' zs hfb' hc' hzs
   obtain ⟨hfb1,htb'⟩:=fresh_set hfb'
   obtain ⟨hfb2,hbb'⟩:=fresh_set hfb1
   have hbb'':=Ne.symm hbb'
   have htb'':=Ne.symm htb'
   have hz1:(((l.take i).flatMap extF) ++ zs).length=l.length*2+2:=by simp only [List.length_append,hA,hzs];omega
   iterate 3 refine s1_ ?_
   refine k_v10 0 1 2 6 7 16 8 22 31 9 ?_
   iterate 4 refine s1_ ?_
   refine rC (Calm.sliceLo (i) Tryz.underlying25 ty_size_127 rfl rfl (by omega) (by omega) (by omega)) ?_
   refine s1_ ?_
   refine ARun.copyK (n:=2) (q:=1) (news:=extF x) (lit_lt rfl) ty_sl_25 rfl (Mem.own_set_same _ _ _) (by simp only [hz1];omega) rfl (by omega) (Mem.own_knows (r:=⟨extT,extF x,2⟩) own_ 0 _ (fun j v hj=>by rw [Nat.zero_add];exact hj)) rfl hx1 (.inl (by simp only [hz1,ext_len];omega)) ?_
   have hz2:(spl ((l.take i).flatMap extF ++ zs) (0+i*2) (extF x)).length=l.length*2+2:=by rw [spl_length _ _ _ (by simp only [hz1,ext_len];omega),hz1]
   iterate 3 refine s1_ ?_
   refine AWP.draw [(0,true),(1,true),(2,true),(3,true),(4,true),(5,true),(6,true),(7,true),(8,false)] [8] mixed (by kernel_rfl) ?_
   iterate 4 refine s1_ ?_
   refine dP (hc:=fun _=>Calm.sliceLo (i+1) Tryz.underlying25 ty_size_127 rfl rfl (by omega) (by omega) (by omega)) (h:=?_)
   iterate 2 refine s1_ ?_
   refine dP (hc:=fun _=>Calm.sliceLo (i) Tryz.underlying25 ty_size_127 rfl rfl (by omega) (by omega) (by omega)) (h:=?_)
   refine draw_only rfl ?_
   refine ARun.copyK (n:=2) (q:=l.length-i) (news:=(l.drop i).flatMap extF) (lit_lt rfl) ty_sl_25 rfl (Mem.own_set_same _ _ _) (by simp only [hz2];omega) rfl (by omega) (Mem.own_knows (r:=⟨extT,l.flatMap extF,c*2⟩) own_ _ _ (fun j v hj=>by simp only;rw [hsplit,List.getElem?_append_right (by omega),← hj];congr 1;omega)) hD (ext_one _) (.inl (by simp only [hz2,hD];omega)) ?_
   refine arun_nil ⟨fun h=>absurd h (by decide),?_⟩
   iterate 10 refine s1_ ?_
   refine ⟨_,B.set b' ⟨extT,spl (spl ((l.take i).flatMap extF ++ zs) (0+i*2) (extF x)) (0+(i+1)*2) ((l.drop i).flatMap extF),c'*2⟩,⟨_,_,rfl,rfl,rfl⟩,less_,?_⟩
   exact ⟨some (b',c'),okO_own hfb2 (by omega),congrArg (fun n=>Value.slice (some ⟨b',0,none⟩) n c') (by omega),by rw [grow_cells hA rfl (by rw [hD,hzs];omega)]⟩
end
section
open Go.RowKit
open Mv Disk
set_option maxRecDepth 4000
theorem outN_set {n:Nat} {S:Mem} {o:Option (Nat × Nat)} {e:TypeId} {cs:List Value} {b:Nat} {r:Blk} (h:∀ q c,o=some (q,c)→q≠b):outN n (S.set b r) o e cs=(outN n S o e cs).set b r:=by
 cases o with
 | none=>rfl
 | some q=>exact Mem.set_comm _ _ _ (Ne.symm (h _ _ rfl))
theorem outN_comm {n m:Nat} {S:Mem} {o o':Option (Nat × Nat)} {e e':TypeId} {cs cs':List Value} (h:∀ q c q' c',o=some (q,c)→o'=some (q',c')→q≠q'):outN n (outN m S o' e' cs') o e cs=outN m (outN n S o e cs) o' e' cs':=by
 cases o with
 | none=>rfl
 | some q =>
  cases o' with
  | none=>rfl
  | some q'=>exact Mem.set_comm _ _ _ (Ne.symm (h _ _ _ _ rfl rfl))
theorem own_outN' {n:Nat} {S:Mem} {o:Option (Nat × Nat)} {e:TypeId} {cs:List Value} {b:Nat} {r:Blk} (hb:S.own b=some r) (h:∀ q c,o=some (q,c)→q≠b):(outN n S o e cs).own b=some r:=by
 cases o with
 | none=>exact hb
 | some q=>exact (Mem.own_set_other _ _ (Ne.symm (h _ _ rfl))).trans hb
theorem fresh_outN_mk {n:Nat} {S:Mem} {o:Option (Nat × Nat)} {e:TypeId} {cs:List Value} {b:Nat} (hb:Fresh S b) (h:∀ q c,o=some (q,c)→q≠b):Fresh (outN n S o e cs) b:=by
 cases o with
 | none=>exact hb
 | some q=>exact fresh_more hb (Ne.symm (h _ _ rfl))
def devB (d:D) (oE oW:Option (Nat × Nat)):Blk:=⟨100,[.int .i64 d.size,outV oE d.ext.length,outV oW d.waits.length,.int .i64 d.fuse,.bool d.down],5⟩
theorem devM_eq (S:Mem) (p:Nat) (d:D) (oE oW:Option (Nat × Nat)):devM S p d oE oW=(outN 3 (outN 2 S oE extT (d.ext.flatMap extF)) oW wrT (d.waits.flatMap wrF)).set p (devB d oE oW):=rfl
structure Apart (S:Mem) (p:Nat) (oE oW:Option (Nat × Nat)):Prop where
  e:∀ b c,oE=some (b,c)→Fresh S b∧b≠p
  w:∀ b c,oW=some (b,c)→Fresh S b∧b≠p
  ew:∀ b c b' c',oE=some (b,c)→oW=some (b',c')→b≠b'
  p:Fresh S p
structure Fits (d:D) (oE oW:Option (Nat × Nat)):Prop where
  e0:oE=none→d.ext.length=0
  w0:oW=none→d.waits.length=0
  e:∀ b c,oE=some (b,c)→d.ext.length≤c
  w:∀ b c,oW=some (b,c)→d.waits.length≤c
theorem OkV.apart {S:Mem} {p:Nat} {d:D} {oE oW:Option (Nat × Nat)} (h:OkV S p d oE oW):Apart S p oE oW:=by
 obtain ⟨h1,h2⟩:=fresh_outN h.fr
 obtain ⟨h3,h4⟩:=fresh_outN h1
 exact ⟨fun b c e=>⟨(h.dk.e.own b c e).1,Ne.symm (h4 b c e)⟩,fun b c e=>⟨(fresh_outN (h.dk.w.own b c e).1).1,Ne.symm (h2 b c e)⟩,fun b c b' c' e e'=>Ne.symm ((fresh_outN (h.dk.w.own b' c' e').1).2 b c e),h3⟩
theorem OkV.fits {S:Mem} {p:Nat} {d:D} {oE oW:Option (Nat × Nat)} (h:OkV S p d oE oW):Fits d oE oW:=⟨h.dk.e.nil,h.dk.w.nil,fun b c e=>(h.dk.e.own b c e).2,fun b c e=>(h.dk.w.own b c e).2⟩
theorem okV_mk {S:Mem} {p:Nat} {d:D} {oE oW:Option (Nat × Nat)} (h:Apart S p oE oW) (f:Fits d oE oW):OkV S p d oE oW :=
 ⟨⟨⟨f.e0,fun b c e=>⟨(h.e b c e).1,f.e b c e⟩⟩,⟨f.w0,fun b c e=>⟨fresh_outN_mk (h.w b c e).1 (fun q c' e'=>h.ew q c' b c e' e),f.w b c e⟩⟩⟩,fresh_outN_mk (fresh_outN_mk h.p (fun q c e=>(h.e q c e).2)) (fun q c e=>(h.w q c e).2)⟩
def baseE (S:Mem) (p:Nat) (d:D) (oW:Option (Nat × Nat)) (r:Blk):Mem:=(outN 3 S oW wrT (d.waits.flatMap wrF)).set p r
theorem devM_E {S:Mem} {p:Nat} {d:D} {oE oW:Option (Nat × Nat)} (h:Apart S p oE oW) (r:Blk):outN 2 (baseE S p d oW r) oE extT (d.ext.flatMap extF)=(outN 3 (outN 2 S oE extT (d.ext.flatMap extF)) oW wrT (d.waits.flatMap wrF)).set p r:=by
 unfold baseE
 rw [outN_set (fun q c e=>(h.e q c e).2),outN_comm (fun q c q' c' e e'=>h.ew q c q' c' e e')]
theorem okO_baseE {S:Mem} {p:Nat} {d:D} {oE oW:Option (Nat × Nat)} (h:Apart S p oE oW) (f:Fits d oE oW) (r:Blk):OkO (baseE S p d oW r) oE d.ext.length :=
 ⟨f.e0,fun b c e=>⟨fresh_more (fresh_outN_mk (h.e b c e).1 (fun q c' e'=>Ne.symm (h.ew b c q c' e e'))) (h.e b c e).2,f.e b c e⟩⟩
theorem apart_E {S:Mem} {p:Nat} {d:D} {oE oE' oW:Option (Nat × Nat)} {r:Blk} {k:Nat} (h:Apart S p oE oW) (h':OkO (baseE S p d oW r) oE' k):Apart S p oE' oW :=
 ⟨fun b c e=>by
  obtain ⟨h1,h2⟩:=fresh_set (h'.own b c e).1
  exact ⟨(fresh_outN h1).1,h2⟩,h.w,fun b c b' c' e e'=>by
  obtain ⟨h1,h2⟩:=fresh_set (h'.own b c e).1
  exact (fresh_outN h1).2 b' c' e',h.p⟩
theorem fits_E {S:Mem} {p:Nat} {d d':D} {oE oE' oW:Option (Nat × Nat)} {r:Blk} {k:Nat} (f:Fits d oE oW) (h':OkO (baseE S p d oW r) oE' k) (hk:d'.ext.length=k) (hw:d'.waits=d.waits):Fits d' oE' oW :=
 ⟨fun e=>by rw [hk];exact h'.nil e,fun e=>by rw [hw];exact f.w0 e,fun b c e=>by rw [hk];exact (h'.own b c e).2,fun b c e=>by rw [hw];exact f.w b c e⟩
theorem devM_E' {S:Mem} {p:Nat} {d d':D} {oE oE' oW:Option (Nat × Nat)} {r:Blk} {k:Nat} (h:Apart S p oE oW) (h':OkO (baseE S p d oW r) oE' k) (hw:d'.waits=d.waits):(outN 2 (baseE S p d oW r) oE' extT (d'.ext.flatMap extF)).set p (devB d' oE' oW)=devM S p d' oE' oW:=by
 have ha:=apart_E h h'
 rw [devM_eq]
 unfold baseE
 rw [outN_set (fun q c e=>(ha.e q c e).2),Mem.set_set,outN_comm (fun q c q' c' e e'=>ha.ew q c q' c' e e'),hw]
def baseW (S:Mem) (p:Nat) (d:D) (oE:Option (Nat × Nat)) (r:Blk):Mem:=(outN 2 S oE extT (d.ext.flatMap extF)).set p r
theorem devM_W {S:Mem} {p:Nat} {d:D} {oE oW:Option (Nat × Nat)} (h:Apart S p oE oW) (r:Blk):outN 3 (baseW S p d oE r) oW wrT (d.waits.flatMap wrF)=(outN 3 (outN 2 S oE extT (d.ext.flatMap extF)) oW wrT (d.waits.flatMap wrF)).set p r:=by
 unfold baseW
 rw [outN_set (fun q c e=>(h.w q c e).2)]
theorem okO_baseW {S:Mem} {p:Nat} {d:D} {oE oW:Option (Nat × Nat)} (h:Apart S p oE oW) (f:Fits d oE oW) (r:Blk):OkO (baseW S p d oE r) oW d.waits.length :=
 ⟨f.w0,fun b c e=>⟨fresh_more (fresh_outN_mk (h.w b c e).1 (fun q c' e'=>h.ew q c' b c e' e)) (h.w b c e).2,f.w b c e⟩⟩
theorem apart_W {S:Mem} {p:Nat} {d:D} {oE oW oW':Option (Nat × Nat)} {r:Blk} {k:Nat} (h:Apart S p oE oW) (h':OkO (baseW S p d oE r) oW' k):Apart S p oE oW' :=
 ⟨h.e,fun b c e=>by
  obtain ⟨h1,h2⟩:=fresh_set (h'.own b c e).1
  exact ⟨(fresh_outN h1).1,h2⟩,fun b c b' c' e e'=>by
  obtain ⟨h1,h2⟩:=fresh_set (h'.own b' c' e').1
  exact Ne.symm ((fresh_outN h1).2 b c e),h.p⟩
theorem fits_W {S:Mem} {p:Nat} {d d':D} {oE oW oW':Option (Nat × Nat)} {r:Blk} {k:Nat} (f:Fits d oE oW) (h':OkO (baseW S p d oE r) oW' k) (hk:d'.waits.length=k) (he:d'.ext=d.ext):Fits d' oE oW' :=
 ⟨fun e=>by rw [he];exact f.e0 e,fun e=>by rw [hk];exact h'.nil e,fun b c e=>by rw [he];exact f.e b c e,fun b c e=>by rw [hk];exact (h'.own b c e).2⟩
theorem devM_W' {S:Mem} {p:Nat} {d d':D} {oE oW oW':Option (Nat × Nat)} {r:Blk} {k:Nat} (h:Apart S p oE oW) (h':OkO (baseW S p d oE r) oW' k) (he:d'.ext=d.ext):(outN 3 (baseW S p d oE r) oW' wrT (d'.waits.flatMap wrF)).set p (devB d' oE oW')=devM S p d' oE oW':=by
 have ha:=apart_W h h'
 rw [devM_eq]
 unfold baseW
 rw [outN_set (fun q c e=>(ha.w q c e).2),Mem.set_set,he]
theorem outV_cells (o:Option (Nat × Nat)) (n:Nat):(outV o n).cells = #[outV o n]:=by cases o <;> rfl
theorem outV_one (o:Option (Nat × Nat)) (n:Nat):(outV o n).oneCell'=true:=by cases o <;> rfl
end
end Go.Proofs.YtcpiknecmjbknaaGreatDoor
namespace Go.Proofs
open Go.Shelf
def Tryz.lays125_ren:Go.Shelf.Ren:=⟨fun | 125=>169 | 128=>191 | 129=>34 | n=>n,fun | 46=>152 | 3=>3 | 51=>222 | 53=>33 | 4=>4 | 5=>5 | 9=>9 | n=>n,fun | n=>n⟩
theorem Tryz.lays125:Go.Proofs.Lays.n125 Tryz.prog Tryz.lays125_ren:={
 mixed:=by kernel_rfl
 f125:=Tryz.func169.trans (congrArg some (by kernel_rfl))
 f128:=Tryz.func191.trans (congrArg some (by kernel_rfl))
 f129:=Tryz.func34.trans (congrArg some (by kernel_rfl))
 t3:=Tryz.underlying3
 a3:=Tryz.isAgg3
 z3:=Tryz.sizeOf3
 v3:=Tryz.zeroValue3
 t4:=Tryz.underlying4
 a4:=Tryz.isAgg4
 z4:=Tryz.sizeOf4
 v4:=Tryz.zeroValue4
 t5:=Tryz.underlying5
 a5:=Tryz.isAgg5
 z5:=Tryz.sizeOf5
 v5:=Tryz.zeroValue5
 t9:=Tryz.underlying9
 a9:=Tryz.isAgg9
 z9:=Tryz.sizeOf9
 v9:=Tryz.zeroValue9
 t46:=Tryz.underlying152
 a46:=Tryz.isAgg152
 z46:=Tryz.sizeOf152
 v46:=Tryz.zeroValue152
 t51:=Tryz.underlying222
 a51:=Tryz.isAgg222
 z51:=Tryz.sizeOf222
 v51:=Tryz.zeroValue222
 t53:=Tryz.underlying33
 a53:=Tryz.isAgg33
 z53:=Tryz.sizeOf33
 v53:=Tryz.zeroValue33 }
theorem Tryz.bits_Len (x:Int) (w:World) (h0:0≤x) (h1:x≤18446744073709551615) :
  Calls Tryz.prog 169 #[.int .u64 x] w fun e w'=>e = .returned (.int .i64 (Lib.bitLen x.toNat))∧w'=w:=Any.bits_Len Tryz.lays125 x w h0 h1
def Tryz.lays105_ren:Go.Shelf.Ren:=⟨fun | 105=>80 | 212=>121 | 99=>122 | 165=>123 | 166=>17 | 170=>124 | 169=>19 | 263=>156 | 264=>157 | 206=>158 | 240=>43 | 241=>159 | 276=>75 | 277=>179 | n=>n,fun | 9=>9 | 3=>3 | 4=>4 | 20=>20 | 0=>0 | 46=>152 | 109=>217 | 5=>5 | 72=>58 | 76=>62 | 51=>222 | 146=>262 | 53=>33 | 148=>264 | 70=>55 | 37=>56 | 75=>61 | 127=>110 | 164=>159 | 80=>65 | n=>n,fun | n=>n⟩
theorem Tryz.lays105:Go.Proofs.Lays.n105 Tryz.prog Tryz.lays105_ren:={
 mixed:=by kernel_rfl
 f99:=Tryz.func122.trans (congrArg some (by kernel_rfl))
 f105:=Tryz.func80.trans (congrArg some (by kernel_rfl))
 f165:=Tryz.func123.trans (congrArg some (by kernel_rfl))
 f166:=Tryz.func17.trans (congrArg some (by kernel_rfl))
 f169:=Tryz.func19.trans (congrArg some (by kernel_rfl))
 f170:=Tryz.func124.trans (congrArg some (by kernel_rfl))
 f206:=Tryz.func158.trans (congrArg some (by kernel_rfl))
 f212:=Tryz.func121.trans (congrArg some (by kernel_rfl))
 f240:=Tryz.func43.trans (congrArg some (by kernel_rfl))
 f241:=Tryz.func159.trans (congrArg some (by kernel_rfl))
 f263:=Tryz.func156.trans (congrArg some (by kernel_rfl))
 f264:=Tryz.func157.trans (congrArg some (by kernel_rfl))
 f276:=Tryz.func75.trans (congrArg some (by kernel_rfl))
 f277:=Tryz.func179.trans (congrArg some (by kernel_rfl))
 t0:=Tryz.underlying0
 a0:=Tryz.isAgg0
 z0:=Tryz.sizeOf0
 v0:=Tryz.zeroValue0
 t3:=Tryz.underlying3
 a3:=Tryz.isAgg3
 z3:=Tryz.sizeOf3
 v3:=Tryz.zeroValue3
 t4:=Tryz.underlying4
 a4:=Tryz.isAgg4
 z4:=Tryz.sizeOf4
 v4:=Tryz.zeroValue4
 t5:=Tryz.underlying5
 a5:=Tryz.isAgg5
 z5:=Tryz.sizeOf5
 v5:=Tryz.zeroValue5
 t9:=Tryz.underlying9
 a9:=Tryz.isAgg9
 z9:=Tryz.sizeOf9
 v9:=Tryz.zeroValue9
 t20:=Tryz.underlying20
 a20:=Tryz.isAgg20
 z20:=Tryz.sizeOf20
 v20:=Tryz.zeroValue20
 t37:=Tryz.underlying56
 a37:=Tryz.isAgg56
 z37:=Tryz.sizeOf56
 v37:=Tryz.zeroValue56
 t46:=Tryz.underlying152
 a46:=Tryz.isAgg152
 z46:=Tryz.sizeOf152
 v46:=Tryz.zeroValue152
 t51:=Tryz.underlying222
 a51:=Tryz.isAgg222
 z51:=Tryz.sizeOf222
 v51:=Tryz.zeroValue222
 t53:=Tryz.underlying33
 a53:=Tryz.isAgg33
 z53:=Tryz.sizeOf33
 v53:=Tryz.zeroValue33
 t70:=Tryz.underlying55
 a70:=Tryz.isAgg55
 z70:=Tryz.sizeOf55
 v70:=Tryz.zeroValue55
 t72:=Tryz.underlying58
 a72:=Tryz.isAgg58
 z72:=Tryz.sizeOf58
 v72:=Tryz.zeroValue58
 t75:=Tryz.underlying61
 a75:=Tryz.isAgg61
 z75:=Tryz.sizeOf61
 v75:=Tryz.zeroValue61
 t76:=Tryz.underlying62
 a76:=Tryz.isAgg62
 z76:=Tryz.sizeOf62
 v76:=Tryz.zeroValue62
 t109:=Tryz.underlying217
 a109:=Tryz.isAgg217
 z109:=Tryz.sizeOf217
 v109:=Tryz.zeroValue217
 t127:=Tryz.underlying110
 a127:=Tryz.isAgg110
 z127:=Tryz.sizeOf110
 v127:=Tryz.zeroValue110
 t146:=Tryz.underlying262
 a146:=Tryz.isAgg262
 z146:=Tryz.sizeOf262
 v146:=Tryz.zeroValue262
 t148:=Tryz.underlying264
 a148:=Tryz.isAgg264
 z148:=Tryz.sizeOf264
 v148:=Tryz.zeroValue264
 t164:=Tryz.underlying159
 a164:=Tryz.isAgg159
 z164:=Tryz.sizeOf159
 v164:=Tryz.zeroValue159 }
theorem Tryz.Builder_Extra_105:Builder.Extra Tryz.prog Tryz.lays105_ren:={
 sizeBuilder:=by kernel_rfl
 liesBuilder:=by kernel_rfl
 t5:=Tryz.underlying5
 a5:=Tryz.isAgg5
 z5:=Tryz.sizeOf5
 v5:=Tryz.zeroValue5
 infoByte:=by kernel_rfl
 cellsByte:=by kernel_rfl
 sizeByte:=by kernel_rfl
 neB5:=by decide }
open Go.RowKit Go.Lib in
theorem Tryz.strings_Repeat_main (s:ByteArray) (c:Nat) (w:World) (hc2:2≤c) (hc:c≤9223372036854775807) (hlen:s.size*c≤140737488355328) (h0:0<s.size) :
  Calls Tryz.prog 80 #[.string s,.int .i64 c] w fun e w'=>e = .returned (.string ⟨(Lib.repeatL s.data.toList c).toArray⟩)∧Below w.heap.size w w':=Any.strings_Repeat_main Tryz.lays105 Tryz.Builder_Extra_105 s c w hc2 hc hlen h0
open Go.RowKit Go.Lib in
theorem Tryz.strings_Repeat (s:ByteArray) (c:Nat) (w:World) (hc:c≤9223372036854775807) (hlen:s.size*c≤140737488355328) :
  Calls Tryz.prog 80 #[.string s,.int .i64 c] w fun e w'=>e = .returned (.string ⟨(Lib.repeatL s.data.toList c).toArray⟩)∧Below w.heap.size w w':=Any.strings_Repeat Tryz.lays105 Tryz.Builder_Extra_105 s c w hc hlen
end Go.Proofs
namespace Go.Proofs.YtcpiknecmjbknaaGreatDoor
section
open Go.RowKit
open Mv Disk
set_option maxRecDepth 4000
def zeros (n:Nat):ByteArray:=bs (List.replicate (64*n) 0)
theorem zeros_size (n:Nat):(zeros n).size=64*n:=by unfold zeros;rw [size_bs];simp
def newD (d:D) (s:ByteArray) (n:Int):D × Int:=if ¬ nm s∨n<1 then (d,1) else if has d.ext s=true then (d,4) else if d.size-used d.ext<n then (d,8) else ({ d with ext:=insAt d.ext (pos d.ext s) (s,zeros n.toNat) },0)
def DevR (S:Mem) (p:Nat) (q:D × Int) (r:Value) (S':Mem):Prop:=∃ oE oW,OkV S p q.1 oE oW∧r = .int .i64 q.2∧S'=devM S p q.1 oE oW
theorem repeat_zero (c:Nat):Lib.repeatL [0] c=List.replicate c (0:UInt8):=by
 induction c with
 | zero=>rfl
 | succ c ih=>rw [List.replicate_succ,← ih];rfl
theorem shelf_Repeat (c:Nat) (S:Mem) (h1:2≤c) (h2:c≤140737488355328):ACall Tryz.prog 80 #[.string ⟨#[0]⟩,.int .i64 (c:Int)] S fun r S'=>r = .string (bs (List.replicate c 0))∧S'=S :=
 ACall.of_calls fun w=>by
  have:=Tryz.strings_Repeat_main ⟨#[0]⟩ c w h1 (by omega) (by show 1*c≤_;omega) (by decide)
  rw [show (⟨#[0]⟩ : ByteArray).data.toList = [0] from rfl,repeat_zero] at this
  exact this
set_option maxHeartbeats 2000000 in
theorem dev_New (p:Nat) (d:D) (s:ByteArray) (n:Int) (S:Mem) (oE oW:Option (Nat × Nat)) (hok:OkV S p d oE oW) (hR:Right d) :
  ACall Tryz.prog 45 #[.pointer (some ⟨p,0,none⟩),.string s,.int .i64 n] (devM S p d oE oW) (DevR S p (newD d s n)):=by
 have hrl:=right_len hR
 have hrd:=hok.rd (Nat.le_trans hrl.1 (by decide)) (Nat.le_trans hR.wl (by decide))
 have hp:(devM S p d oE oW).own p=some (devB d oE oW):=Mem.own_set_same _ _ _
 have hE:Sl 2 extF (devM S p d oE oW) (outV oE d.ext.length) d.ext:=((sl_outN ext_len (e:=extT) hok.dk.e rfl (Nat.le_trans hrl.1 (by decide))).less (outN_over hok.dk.w)).less (Mem.less_set _ _ _ hok.fr.1)
 have hap:=hok.apart
 have hft:=hok.fits
 have hs0:=hR.s0;have hs1:=hR.s1
 have hME:=devM_E hap (devB d oE oW) (d:=d)
 have hoE:=okO_baseE hap hft (devB d oE oW)
 rw [← devM_eq] at hME
 generalize hM:devM S p d oE oW=M at *
 unfold devB at hp
 unfold newD
 by_cases q1:nm s
 ·by_cases q2:n<1
  ·rw [if_pos (.inr q2)]
   refine k_E3 (rs:=[.tmp 6]) 52 Tryz.func45 rfl rfl rfl ?_
   iterate 13 refine s1_ ?_
   refine ca_ rfl (disk_find _ d.ext s _ hE hR.ex.asc (Nat.le_trans hrl.1 (by decide))) ?_
   rintro _ S1 ⟨rfl,h1⟩
   rw [h1];clear h1 S1
   iterate 12 refine s1_ ?_
   refine ARun.build1s (lit_lt rfl) ty_sl_38 rfl rfl ?_
   intro b21 f21
   have g21:=f21
   repeat ((with_reducible replace g21:=fresh_set g21);obtain ⟨g21,_⟩:=g21)
   have:=g21.ne hp;have:=g21.ne' hp
   refine ca_ rfl (disk_named _ [s] _ (sl_str1 own_)) ?_
   rintro _ S1 ⟨⟨t,rfl,ht⟩,h1⟩
   rw [h1];clear h1 S1
   obtain rfl:t=true:=ht.2 (one_all.2 q1)
   iterate 8 refine s1_ ?_
   refine cT_ ?_
   iterate 8 refine s1_ ?_
   refine ⟨_,M,⟨_,_,rfl,rfl,rfl⟩,less_,?_⟩
   exact ⟨oE,oW,hok,rfl,hM.symm⟩
  ·rw [if_neg (fun h=>h.elim (fun h=>h q1) q2)]
   by_cases q3:has d.ext s=true
   ·rw [if_pos q3]
    refine k_E3 (rs:=[.tmp 6]) 52 Tryz.func45 rfl rfl rfl ?_
    iterate 13 refine s1_ ?_
    refine ca_ rfl (disk_find _ d.ext s _ hE hR.ex.asc (Nat.le_trans hrl.1 (by decide))) ?_
    rintro _ S1 ⟨rfl,h1⟩
    rw [h1,q3];clear h1 S1
    iterate 12 refine s1_ ?_
    refine ARun.build1s (lit_lt rfl) ty_sl_38 rfl rfl ?_
    intro b21 f21
    have g21:=f21
    repeat ((with_reducible replace g21:=fresh_set g21);obtain ⟨g21,_⟩:=g21)
    have:=g21.ne hp;have:=g21.ne' hp
    refine ca_ rfl (disk_named _ [s] _ (sl_str1 own_)) ?_
    rintro _ S1 ⟨⟨t,rfl,ht⟩,h1⟩
    rw [h1];clear h1 S1
    obtain rfl:t=true:=ht.2 (one_all.2 q1)
    iterate 8 refine s1_ ?_
    refine cF_ ?_
    iterate 6 refine s1_ ?_
    refine k_v8 0 1 2 6 7 8 19 28 ?_
    refine cT_ ?_
    iterate 8 refine s1_ ?_
    refine ⟨_,M,⟨_,_,rfl,rfl,rfl⟩,less_,?_⟩
    exact ⟨oE,oW,hok,rfl,hM.symm⟩
   ·rw [if_neg q3]
    have q3':=Bool.eq_false_iff.2 q3
    by_cases q4:d.size-used d.ext<n
    ·rw [if_pos q4]
     refine k_E3 (rs:=[.tmp 6]) 52 Tryz.func45 rfl rfl rfl ?_
     iterate 13 refine s1_ ?_
     refine ca_ rfl (disk_find _ d.ext s _ hE hR.ex.asc (Nat.le_trans hrl.1 (by decide))) ?_
     rintro _ S1 ⟨rfl,h1⟩
     rw [h1,q3'];clear h1 S1
     iterate 12 refine s1_ ?_
     refine ARun.build1s (lit_lt rfl) ty_sl_38 rfl rfl ?_
     intro b21 f21
     have g21:=f21
     repeat ((with_reducible replace g21:=fresh_set g21);obtain ⟨g21,_⟩:=g21)
     have:=g21.ne hp;have:=g21.ne' hp
     refine ca_ rfl (disk_named _ [s] _ (sl_str1 own_)) ?_
     rintro _ S1 ⟨⟨t,rfl,ht⟩,h1⟩
     rw [h1];clear h1 S1
     obtain rfl:t=true:=ht.2 (one_all.2 q1)
     iterate 8 refine s1_ ?_
     refine cF_ ?_
     iterate 6 refine s1_ ?_
     refine cF_ ?_
     iterate 4 refine s1_ ?_
     refine ca_ rfl (dev_Room p d _ (hrd.less less_) hR) ?_
     rintro _ S1 ⟨rfl,h1⟩
     rw [h1];clear h1 S1
     iterate 4 refine s1_ ?_
     refine cT_ ?_
     iterate 8 refine s1_ ?_
     refine ⟨_,M,⟨_,_,rfl,rfl,rfl⟩,less_,?_⟩
     exact ⟨oE,oW,hok,rfl,hM.symm⟩
    ·rw [if_neg q4]
     obtain ⟨m,rfl⟩ : ∃ m:Nat,n=m:=⟨n.toNat,by omega⟩
     rw [Int.toNat_natCast]
     refine k_E3 (rs:=[.tmp 6]) 52 Tryz.func45 rfl rfl rfl ?_
     iterate 13 refine s1_ ?_
     refine ca_ rfl (disk_find _ d.ext s _ hE hR.ex.asc (Nat.le_trans hrl.1 (by decide))) ?_
     rintro _ S1 ⟨rfl,h1⟩
     rw [h1,q3'];clear h1 S1
     iterate 7 refine s1_ ?_
     refine k_v6 0 1 2 6 7 8 ?_
     iterate 5 refine s1_ ?_
     refine ARun.build1s (lit_lt rfl) ty_sl_38 rfl rfl ?_
     intro b21 f21
     have g21:=f21
     repeat ((with_reducible replace g21:=fresh_set g21);obtain ⟨g21,_⟩:=g21)
     have:=g21.ne hp;have:=g21.ne' hp
     refine ca_ rfl (disk_named _ [s] _ (sl_str1 own_)) ?_
     rintro _ S1 ⟨⟨t,rfl,ht⟩,h1⟩
     rw [h1];clear h1 S1
     obtain rfl:t=true:=ht.2 (one_all.2 q1)
     iterate 8 refine s1_ ?_
     refine cF_ ?_
     iterate 6 refine s1_ ?_
     refine cF_ ?_
     iterate 4 refine s1_ ?_
     refine ca_ rfl (dev_Room p d _ (hrd.less less_) hR) ?_
     rintro _ S1 ⟨rfl,h1⟩
     rw [h1];clear h1 S1
     iterate 4 refine s1_ ?_
     refine cF_ ?_
     refine AWP.less M less_ ?_
     iterate 4 refine s1_ ?_
     refine AWP.draw [(0,true),(1,true),(2,true),(3,true),(4,true),(5,true),(6,true),(7,true),(8,true),(9,true),(10,false),(11,true),(12,false),(13,false),(14,true),(15,true),(16,true),(17,false)] [13,17] mixed (by kernel_rfl) ?_
     iterate 9 refine s1_ ?_
     refine dP (hc:=fun _=>Calm.as (v:=.int .i64 ((m:Int)*64)) (v':=.int .i64 ((64*m:Nat):Int)) (congrArg (Value.int .i64) (by omega)) (Calm.bin rfl rfl (bin_mulW (IntWalk.i64_in _ (by omega))))) (h:=?_)
     refine draw_only rfl ?_
     refine ca_ rfl (shelf_Repeat (64*m) _ (by omega) (by omega)) ?_
     rintro _ S1 ⟨rfl,h1⟩
     rw [h1];clear h1 S1
     refine arun_nil ⟨fun _=>less_,?_⟩
     refine s1_ ?_
     refine draw_only rfl ?_
     refine ARun.build1 (lit_lt rfl) ty_sl_25 rfl (by decide) (by decide) rfl rfl ?_
     intro b47 f47
     have g47:=f47
     repeat ((with_reducible replace g47:=fresh_set g47);obtain ⟨g47,_⟩:=g47)
     have:=g47.ne hp;have:=g47.ne' hp
     have hins:=ins_ext (baseE S p d oW (devB d oE oW)) oE d.ext (pos d.ext s) (s,zeros m) b47 hoE (by rw [hME];exact f47) (pos_le _ _) hrl.1
     rw [hME] at hins
     refine arun_nil ⟨fun _=>less_,?_⟩
     refine draw_only rfl ?_
     refine ca_ rfl (hins) ?_
     rintro _ S1 ⟨o',ho',rfl,h1⟩
     rw [h1];clear h1 S1
     have hap':=apart_E hap ho'
     have hp2:(outN 2 (baseE S p d oW (devB d oE oW)) o' extT ((insAt d.ext (pos d.ext s) (s,zeros m)).flatMap extF)).own p=some (devB d oE oW):=own_outN' (Mem.own_set_same _ _ _) (fun q c e=>(hap'.e q c e).2)
     have hE':=devM_E' (d':={ d with ext:=insAt d.ext (pos d.ext s) (s,zeros m) }) hap ho' rfl
     have hln:=ins_len (pos_le d.ext s) (s,zeros m)
     unfold devB at hp2
     refine arun_nil ⟨fun h=>absurd h (by decide),?_⟩
     iterate 3 refine s1_ ?_
     refine draw_only rfl ?_
     refine ARun.store1 rfl rfl ty_size_25 (outV_cells _ _) hp2 (show 1<5 from by decide) (outV_one _ _) ?_
     try simp only [k_ms,k_sz,k_ss,k_za,Nat.reduceAdd]
     refine arun_nil ⟨fun h=>absurd h (by decide),?_⟩
     iterate 8 refine s1_ ?_
     refine ⟨_,devM S p _ o' oW,⟨_,_,rfl,rfl,rfl⟩,(by rw [← hE'];unfold devB;rw [hln];exact Mem.Less.refl _),?_⟩
     exact ⟨o',oW,okV_mk hap' (fits_E hft ho' hln rfl),rfl,rfl⟩
 ·rw [if_pos (.inl q1)]
  refine k_E3 (rs:=[.tmp 6]) 52 Tryz.func45 rfl rfl rfl ?_
  iterate 13 refine s1_ ?_
  refine ca_ rfl (disk_find _ d.ext s _ hE hR.ex.asc (Nat.le_trans hrl.1 (by decide))) ?_
  rintro _ S1 ⟨rfl,h1⟩
  rw [h1];clear h1 S1
  iterate 7 refine s1_ ?_
  refine k_v6 0 1 2 6 7 8 ?_
  iterate 5 refine s1_ ?_
  refine ARun.build1s (lit_lt rfl) ty_sl_38 rfl rfl ?_
  intro b21 f21
  have g21:=f21
  repeat ((with_reducible replace g21:=fresh_set g21);obtain ⟨g21,_⟩:=g21)
  have:=g21.ne hp;have:=g21.ne' hp
  refine ca_ rfl (disk_named _ [s] _ (sl_str1 own_)) ?_
  rintro _ S1 ⟨⟨t,rfl,ht⟩,h1⟩
  rw [h1];clear h1 S1
  obtain rfl:t=false:=Bool.eq_false_iff.2 (fun e=>q1 (one_all.1 (ht.1 e)))
  iterate 8 refine s1_ ?_
  refine cT_ ?_
  iterate 8 refine s1_ ?_
  refine ⟨_,M,⟨_,_,rfl,rfl,rfl⟩,less_,?_⟩
  exact ⟨oE,oW,hok,rfl,hM.symm⟩
end
section
open Go.RowKit
open Mv Disk
set_option maxRecDepth 4000
noncomputable def opened (d:D) (f:D × Int):D × Int:=if (openD d).2=0 then f else openD d
theorem newD_lens {d:D} (hR:Right d) (s:ByteArray) (n:Int):(newD d s n).1.ext.length≤9223372036854775807∧(newD d s n).1.waits.length≤9223372036854775807:=by
 have h1:=(right_len hR).1
 have h2:=hR.wl
 have h3:=ins_len (pos_le d.ext s) (s,zeros n.toNat)
 unfold newD
 repeat' split
 all_goals (constructor <;> simp only <;> omega)
end
section
open Go.RowKit
open Mv Disk
set_option maxRecDepth 4000
theorem drop_get {α : Type} {l:List α} {i:Nat} (h:i<l.length):l.drop i=l[i] :: l.drop (i+1):=List.drop_eq_getElem_cons h
section
variable {P:Program} {N:Nat} {E:Env} {S:Mem} {dst:Option Nat} {ty:TypeId} {pos:String} {aft:Array Edge} {gd:Option (Nat × Bool)}
end
end
section
open Go.RowKit
open Mv Disk
set_option maxRecDepth 4000
def isN (s:ByteArray) (w:Wr):Bool:=decide (w.1=s)
def filt (s:ByteArray) (l:List Wr):List Wr:=l.filter fun w=>!isN s w
theorem filt_all {s:ByteArray} {l:List Wr} (h:∀ w ∈ l,isN s w=false):filt s l=l:=by
 unfold filt;rw [List.filter_eq_self];intro w hw;rw [h w hw];rfl
end
section
open Go.RowKit
open Mv Disk
set_option maxRecDepth 4000
def forgetD (d:D) (s:ByteArray):D:={ d with waits:=filt s d.waits }
def eraseD (d:D) (s:ByteArray):D:={ d with ext:=d.ext.eraseIdx (pos d.ext s) }
def freeD (d:D) (s:ByteArray):D × Int:=if has d.ext s=true then (forgetD (eraseD d s) s,0) else (d,3)
end
section
open Go.RowKit
open Mv Disk
set_option maxRecDepth 4000
theorem isN_no {s:ByteArray} {w:Wr}:isN s w=false ↔ w.1≠s:=by unfold isN;simp
def freesD (d0:D):D→List ByteArray→D × Int
  | d,[]=>(d,0)
  | d,s :: l=>if (freeD d s).2=0 then freesD d0 (freeD d s).1 l else (d0,(freeD d s).2)
theorem right_lens {d:D} (h:Right d):d.ext.length≤9223372036854775807∧d.waits.length≤9223372036854775807:=⟨Nat.le_trans (right_len h).1 (by decide),Nat.le_trans h.wl (by decide)⟩
end
section
open Go.RowKit
open Mv Disk
set_option maxRecDepth 4000
def addW (d:D) (w:Wr):D:={ d with waits:=d.waits ++ [w] }
def fuseD (d:D):D × Int:=if d.fuse=0 then ({ d with down:=true },10) else if 0<d.fuse then ({ d with fuse:=d.fuse-1 },0) else (d,0)
def writeD (d:D) (s:ByteArray) (i:Int) (data:ByteArray):D × Int:=if (placeD d s i).2≠0 then (d,(placeD d s i).2) else if data.size≠64 then (d,2) else if d.waits.length=16384 then (d,8) else fuseD (addW d (s,i,data))
theorem add_flat (d:D) (w:Wr):(addW d w).waits.flatMap wrF=d.waits.flatMap wrF ++ wrF w:=by unfold addW;simp
theorem add_len (d:D) (w:Wr):(addW d w).waits.length=d.waits.length+1:=by unfold addW;simp
set_option maxHeartbeats 2000000 in
theorem dev_Write (p:Nat) (d:D) (s:ByteArray) (i:Int) (data:ByteArray) (S:Mem) (oE oW:Option (Nat × Nat)) (hok:OkV S p d oE oW) (hR:Right d) (hf1:d.fuse≤9223372036854775807) :
  ACall Tryz.prog 47 #[.pointer (some ⟨p,0,none⟩),.string s,.int .i64 i,.string data] (devM S p d oE oW) (DevR S p (writeD d s i data)):=by
 have hlens:=right_lens hR
 have hwl:=hR.wl
 have hf0:=hR.fu
 have hpl:=dev_place p d s i _ (hok.rd hlens.1 hlens.2) hR
 have hp:(devM S p d oE oW).own p=some (devB d oE oW):=Mem.own_set_same _ _ _
 have hap:=hok.apart
 have hft:=hok.fits
 have hME:=devM_W hap (devB d oE oW) (d:=d)
 have hoW:=okO_baseW hap hft (devB d oE oW)
 rw [← devM_eq] at hME
 have hfl:=flat_length wr_len d.waits
 have happ:=appN_self (e:=wrT) hoW hfl
 rw [hME] at happ
 have hmeq:=devM_eq S p d oE oW
 have hdc:∀ oW',(devM S p (addW d (s,i,data)) oE oW').own p=some (devB (addW d (s,i,data)) oE oW'):=fun oW'=>Mem.own_set_same _ _ _
 obtain ⟨qw,dw,hqw⟩:=outV_eq hok.dk.w
 generalize hM:devM S p d oE oW=M at *
 unfold devB at hp
 unfold writeD
 by_cases q1:(placeD d s i).2=0
 ·rw [if_neg (fun h=>h q1)]
  rw [q1] at hpl
  by_cases q2:data.size=64
  ·rw [if_neg (fun h=>h q2)]
   by_cases q3:d.waits.length=16384
   ·rw [if_pos q3]
    rw [hqw] at hp
    refine k_E4 (rs:=[.tmp 8]) 75 Tryz.func47 rfl rfl rfl ?_
    iterate 11 refine s1_ ?_
    refine ca_ rfl (hpl) ?_
    rintro _ S1 ⟨rfl,h1⟩
    rw [h1];clear h1 S1
    iterate 13 refine s1_ ?_
    refine cF_ ?_
    iterate 12 refine s1_ ?_
    refine cF_ ?_
    iterate 12 refine s1_ ?_
    refine cT_ ?_
    iterate 8 refine s1_ ?_
    refine ⟨_,M,⟨_,_,rfl,rfl,rfl⟩,less_,?_⟩
    exact ⟨oE,oW,hok,rfl,hM.symm⟩
   ·rw [if_neg q3]
    refine k_E4 (rs:=[.tmp 8]) 75 Tryz.func47 rfl rfl rfl ?_
    iterate 11 refine s1_ ?_
    refine ca_ rfl (hpl) ?_
    rintro _ S1 ⟨rfl,h1⟩
    rw [h1];clear h1 S1
    iterate 7 refine s1_ ?_
    refine k_v6 0 1 2 3 8 10 ?_
    iterate 6 refine s1_ ?_
    refine cF_ ?_
    iterate 12 refine s1_ ?_
    refine cF_ ?_
    iterate 7 refine s1_ ?_
    refine rC ((by rw [hqw];exact Calm.lenSl Tryz.underlying26 rfl)) ?_
    iterate 4 refine s1_ ?_
    refine cF_ ?_
    iterate 15 refine s1_ ?_
    refine ARun.build1 (lit_lt rfl) ty_sl_26 rfl (by decide) (by decide) rfl rfl ?_
    intro b43 f43
    have g43:=f43
    repeat ((with_reducible replace g43:=fresh_set g43);obtain ⟨g43,_⟩:=g43)
    have:=g43.ne hp;have:=g43.ne' hp
    refine ARun.appendOK (n:=3) (o:=oW) (k:=d.waits.length) (m:=1) (cs:=d.waits.flatMap wrF) (lit_lt rfl) ty_sl_26 rfl rfl hfl hoW (happ.temp f43) rfl (src_own (Mem.own_set_same _ _ _) List.prefix_rfl) rfl (fun v hv=>wr_one [(s,i,data)] v (by rw [List.flatMap_cons,List.flatMap_nil,List.append_nil];exact hv)) (by omega) (by omega) ?_
    intro o' ho'
    have hp2:∀ cs,(outN 3 (baseW S p d oE (devB d oE oW)) o' wrT cs).own p=some (devB d oE oW):=fun cs=>own_outN' (Mem.own_set_same _ _ _) (fun q c e=>((apart_W hap ho').w q c e).2)
    have hE':=devM_W' (d':=addW d (s,i,data)) hap ho' rfl
    rw [add_flat] at hE'
    unfold devB at hp2
    iterate 3 refine s1_ ?_
    refine ARun.store1 rfl rfl ty_size_26 (outV_cells _ _) (hp2 _) (show 2<5 from by decide) (outV_one _ _) ?_
    try simp only [k_ms,k_sz,k_ss,k_za,Nat.reduceAdd]
    iterate 2 refine s1_ ?_
    refine AWP.less (devM S p (addW d (s,i,data)) oE o') (by rw [← hE'];unfold devB;rw [add_len];exact Mem.Less.refl _) ?_
    have hp3:=hdc o'
    have hokk:∀ d',d'.waits=(addW d (s,i,data)).waits→d'.ext=d.ext→OkV S p d' oE o':=fun d' e1 e2=>okV_mk (apart_W hap ho') (fits_W hft ho' (by rw [e1,add_len]) e2)
    unfold devB at hp3
    simp only [show (addW d (s,i,data)).size=d.size from rfl,show (addW d (s,i,data)).fuse=d.fuse from rfl,show (addW d (s,i,data)).down=d.down from rfl] at hp3
    have hfu:(addW d (s,i,data)).fuse=d.fuse:=rfl
    generalize hM2:devM S p (addW d (s,i,data)) oE o'=M2 at *
    unfold fuseD
    rw [hfu]
    by_cases q4:d.fuse=0
    ·rw [if_pos q4]
     iterate 13 refine s1_ ?_
     refine k_v10 0 1 2 3 8 10 19 21 25 48 ?_
     refine cT_ ?_
     iterate 6 refine s1_ ?_
     refine ARun.store1 rfl rfl ty_size_4 rfl hp3 (show 4<5 from by decide) rfl ?_
     try simp only [k_ms,k_sz,k_ss,k_za,Nat.reduceAdd]
     iterate 10 refine s1_ ?_
     refine ⟨_,devM S p { addW d (s,i,data) with down:=true } oE o',⟨_,_,rfl,rfl,rfl⟩,(by rw [← hM2];unfold devM;rw [Mem.set_set];exact Mem.Less.refl _),?_⟩
     exact ⟨oE,o',hokk _ rfl rfl,rfl,rfl⟩
    ·rw [if_neg q4]
     by_cases q5:0<d.fuse
     ·rw [if_pos q5]
      iterate 13 refine s1_ ?_
      refine cF_ ?_
      iterate 11 refine s1_ ?_
      refine cT_ ?_
      iterate 10 refine s1_ ?_
      refine ARun.store1 rfl rfl ty_size_3 rfl hp3 (show 3<5 from by decide) rfl ?_
      try simp only [k_ms,k_sz,k_ss,k_za,Nat.reduceAdd]
      iterate 9 refine s1_ ?_
      refine ⟨_,devM S p { addW d (s,i,data) with fuse:=d.fuse-1 } oE o',⟨_,_,rfl,rfl,rfl⟩,(by rw [← hM2];unfold devM;rw [Mem.set_set];exact Mem.Less.refl _),?_⟩
      exact ⟨oE,o',hokk _ rfl rfl,rfl,rfl⟩
     ·rw [if_neg q5]
      iterate 13 refine s1_ ?_
      refine k_v10 0 1 2 3 8 10 19 21 25 48 ?_
      refine cF_ ?_
      iterate 11 refine s1_ ?_
      refine cF_ ?_
      iterate 9 refine s1_ ?_
      refine ⟨_,devM S p (addW d (s,i,data)) oE o',⟨_,_,rfl,rfl,rfl⟩,(by rw [← hM2];exact Mem.Less.refl _),?_⟩
      exact ⟨oE,o',hokk _ rfl rfl,rfl,rfl⟩
  ·rw [if_pos q2]
   refine k_E4 (rs:=[.tmp 8]) 75 Tryz.func47 rfl rfl rfl ?_
   iterate 11 refine s1_ ?_
   refine ca_ rfl (hpl) ?_
   rintro _ S1 ⟨rfl,h1⟩
   rw [h1];clear h1 S1
   iterate 13 refine s1_ ?_
   refine cF_ ?_
   iterate 12 refine s1_ ?_
   refine cT_ ?_
   iterate 8 refine s1_ ?_
   refine ⟨_,M,⟨_,_,rfl,rfl,rfl⟩,less_,?_⟩
   exact ⟨oE,oW,hok,rfl,hM.symm⟩
 ·rw [if_pos q1]
  have hp1:(placeD d s i).2=1∨(placeD d s i).2=3:=by
   unfold placeD at q1 ⊢;repeat' split
   all_goals simp_all
  refine k_E4 (rs:=[.tmp 8]) 75 Tryz.func47 rfl rfl rfl ?_
  iterate 11 refine s1_ ?_
  refine ca_ rfl (hpl) ?_
  rintro _ S1 ⟨rfl,h1⟩
  rw [h1];clear h1 S1
  iterate 7 refine s1_ ?_
  refine k_v6 0 1 2 3 8 10 ?_
  iterate 6 refine s1_ ?_
  refine cT_ ?_
  iterate 8 refine s1_ ?_
  refine ⟨_,M,⟨_,_,rfl,rfl,rfl⟩,less_,?_⟩
  exact ⟨oE,oW,hok,rfl,hM.symm⟩
end
section
open Go.RowKit
open Mv Disk
set_option maxRecDepth 4000
theorem flat_set {α : Type} {n:Nat} {f : α→List Value} (hn:∀ x,(f x).length=n) (l:List α) (k:Nat) (y : α) (h:k<l.length) (q:Nat) (v:Value) (hq:q<n) (he:(f l[k]).set q v=f y):(l.flatMap f).set (k*n+q) v=(l.set k y).flatMap f:=by
 have e1:l=l.take k ++ l[k] :: l.drop (k+1):=by rw [← drop_get h,List.take_append_drop]
 have e2:l.set k y=l.take k ++ y :: l.drop (k+1):=by rw [List.set_eq_take_append_cons_drop,if_pos h]
 rw [e2]
 conv=>lhs;rw [e1]
 rw [List.flatMap_append,List.flatMap_append,List.flatMap_cons,List.flatMap_cons]
 have hl:=flat_length hn (l.take k)
 rw [List.length_take,Nat.min_eq_left (Nat.le_of_lt h)] at hl
 rw [List.set_append_right _ _ (by omega),List.set_append_left _ _ (by rw [hn];omega),show k*n+q-(List.flatMap f (List.take k l)).length=q from by omega,he]
theorem kn_at {S:Mem} {b o:Nat} {cs:List Value} (h:S.Knows ⟨b,o,none⟩ cs) (k:Nat) {v:Value} (hk:cs[k]?=some v):S.Knows ⟨b,o+k,none⟩ [v]:=fun w hv j u hj=>by
 cases j with
 | zero =>
  simp only [List.getElem?_cons_zero,Option.some.injEq] at hj
  subst hj
  have:=h w hv k v hk
  rw [addr_add] at this ⊢;exact this
 | succ j=>simp at hj
theorem dev_ownE {S:Mem} {p:Nat} {d:D} {b c:Nat} {oW:Option (Nat × Nat)} (h:OkV S p d (some (b,c)) oW):(devM S p d (some (b,c)) oW).own b=some ⟨extT,d.ext.flatMap extF,c*2⟩:=by
 rw [devM_eq,← devM_E h.apart];exact Mem.own_set_same _ _ _
theorem dev_setE {S:Mem} {p:Nat} {d d':D} {b c:Nat} {oW:Option (Nat × Nat)} (h:OkV S p d (some (b,c)) oW) (hw:d'.waits=d.waits) (hl:d'.ext.length=d.ext.length) (h1:d'.size=d.size) (h2:d'.fuse=d.fuse) (h3:d'.down=d.down):(devM S p d (some (b,c)) oW).set b ⟨extT,d'.ext.flatMap extF,c*2⟩=devM S p d' (some (b,c)) oW∧OkV S p d' (some (b,c)) oW:=by
 have hf:=h.fits
 have e:devB d (some (b,c)) oW=devB d' (some (b,c)) oW:=by unfold devB;rw [hw,hl,h1,h2,h3]
 refine ⟨?_,okV_mk h.apart ⟨(fun x=>by cases x),fun x=>by rw [hw];exact hf.w0 x,fun b c x=>by rw [hl];exact hf.e b c x,fun b c x=>by rw [hw];exact hf.w b c x⟩⟩
 rw [devM_eq,devM_eq,← devM_E h.apart,← devM_E h.apart,e]
 unfold baseE
 rw [hw]
 exact Mem.set_set _ _ _ _
end
section
open Go.RowKit
open Mv Disk
set_option maxRecDepth 4000
theorem writeD_lens {d:D} (hR:Right d) (s:ByteArray) (i:Int) (data:ByteArray):(writeD d s i data).1.ext.length≤9223372036854775807∧(writeD d s i data).1.waits.length≤9223372036854775807:=by
 have h:=right_lens hR
 have h2:=hR.wl
 have h3:=add_len d (s,i,data)
 unfold writeD fuseD
 repeat' split
 ·exact h
 ·exact h
 ·exact h
 all_goals exact ⟨h.1,by simp only;omega⟩
end
section
open Go.RowKit
namespace Disk
open Mv
def putS (x:ByteArray) (w:Wr):ByteArray:=bs (x.data.toList.take (64*w.2.1.toNat) ++ w.2.2.data.toList ++ x.data.toList.drop (64*w.2.1.toNat+64))
theorem putS_size {x:ByteArray} {w:Wr} (h1:64*w.2.1.toNat+64≤x.size) (h2:w.2.2.size=64):(putS x w).size=x.size:=by
 unfold putS
 rw [size_bs]
 simp only [List.length_append,List.length_take,List.length_drop,size_data,h2]
 omega
def accW (kp:Nat→Bool) (x:Ext) (l:List Wr):Nat→Option ByteArray
  | 0=>none
  | n+1=>match l[n]? with
    | some w=>if w.1=x.1∧kp n=true then some (putS ((accW kp x l n).getD x.2) w) else accW kp x l n
    | none=>accW kp x l n
theorem accW_succ (kp:Nat→Bool) (x:Ext) (l:List Wr) (n:Nat) (h:n<l.length):accW kp x l (n+1)=if l[n].1=x.1∧kp n=true then some (putS ((accW kp x l n).getD x.2) l[n]) else accW kp x l n:=by
 rw [accW,List.getElem?_eq_getElem h]
def Fit (x:Ext) (l:List Wr):Prop:=∀ w ∈ l,w.1=x.1→0≤w.2.1∧64*w.2.1.toNat+64≤x.2.size∧w.2.2.size=64
theorem acc_size {kp:Nat→Bool} {x:Ext} {l:List Wr} (hf:Fit x l):∀ n,n≤l.length→((accW kp x l n).getD x.2).size=x.2.size
 | 0,_=>rfl
 | n+1,h=>by
  have ih:=acc_size (kp:=kp) hf n (by omega)
  rw [accW_succ kp x l n (by omega)]
  split
  ·rename_i hc
   obtain ⟨_,h1,h2⟩:=hf _ (List.getElem_mem (by omega:n<l.length)) hc.1
   simp only [Option.getD_some]
   rw [putS_size (by rw [ih];exact h1) h2];exact ih
  ·exact ih
def doneX (kp:Nat→Bool) (l:List Wr) (x:Ext):Ext:=(x.1,(accW kp x l l.length).getD x.2)
def settleD (d:D) (kp:Nat→Bool):D:={ d with ext:=d.ext.map (doneX kp d.waits),waits:=[] }
def mixE (kp:Nat→Bool) (w:List Wr) (l:List Ext) (i:Nat):List Ext:=(l.take i).map (doneX kp w) ++ l.drop i
theorem mixE_len (kp:Nat→Bool) (w:List Wr) (l:List Ext) (i:Nat):(mixE kp w l i).length=l.length:=by unfold mixE;simp;omega
theorem mixE_zero (kp:Nat→Bool) (w:List Wr) (l:List Ext):mixE kp w l 0=l:=by simp [mixE]
theorem mixE_all (kp:Nat→Bool) (w:List Wr) (l:List Ext):mixE kp w l l.length=l.map (doneX kp w):=by simp [mixE]
theorem mixE_at (kp:Nat→Bool) (w:List Wr) (l:List Ext) (i:Nat) (h:i<l.length):mixE kp w l i=(l.take i).map (doneX kp w) ++ l[i] :: l.drop (i+1):=by unfold mixE;rw [List.drop_eq_getElem_cons h]
theorem mixE_get (kp:Nat→Bool) (w:List Wr) (l:List Ext) (i:Nat) (h:i<l.length) (h':i<(mixE kp w l i).length):(mixE kp w l i)[i]=l[i]:=by
 simp only [mixE_at kp w l i h]
 rw [List.getElem_append_right (by simp;omega)]
 simp [Nat.min_eq_left (Nat.le_of_lt h)]
theorem mixE_succ (kp:Nat→Bool) (w:List Wr) (l:List Ext) (i:Nat) (h:i<l.length):mixE kp w l (i+1)=(mixE kp w l i).set i (doneX kp w l[i]):=by
 rw [mixE_at kp w l i h,List.set_append_right _ _ (by simp;omega)]
 unfold mixE
 rw [take_get h,List.map_append,List.append_assoc,List.length_map,List.length_take,Nat.min_eq_left (Nat.le_of_lt h),Nat.sub_self]
 rfl
theorem right_fit {d:D} (h:Right d) {x:Ext} (hx:x ∈ d.ext):Fit x d.waits:=fun w hw e=>by
 obtain ⟨y,hy,e2,h0,h1,h2⟩:=h.wr w hw
 have:y=x:=asc_inj h.ex.asc hy hx (e2.trans e)
 subst this
 have:=(eok_sec (h.ex.ok y hy)).2
 exact ⟨h0,by omega,h2⟩
end Disk
end
section
open Go.RowKit
open Mv Disk
set_option maxRecDepth 4000
section
variable {P:Program} {N:Nat} {ops:Array Oper} {E:Env} {S:Mem} {K:Env→Mem→Prop}
variable {ty:TypeId} {pos:String} {aft:Array Edge} {gd:Option (Nat × Bool)}
theorem Mv.ARun.copyStr {os:List Oper} {T T2 e:TypeId} {y:Nat} {z:List Value} {x1 x2:Operand} {b o k c d:Nat} {r:Blk} {t:ByteArray} (hn:d<N) (hT:slT P T=some (e,1,y,z))
  (hx:ev E x1=some (.slice (some ⟨b,o,none⟩) k c)) (hb:S.own b=some r) (hy:ev E x2=some (.string t)) (hle:t.size≤k) (ho:o+t.size≤r.cells.length)
  (h:ARun P N ops os K ((d,.int .i64 (t.size:Int)) :: E) (S.set b ⟨r.elem,spl r.cells o (cellsB t.data.toList),r.room⟩)) :
  ARun P N ops (⟨some d,.call ⟨.builtin .copy,#[x1,x2],#[T,T2]⟩,ty,pos,aft,none⟩ :: os) K E S:=fun a w g hv=>by
 rw [if_pos (by simp [Region.wanted])]
 obtain ⟨hu,i,v,e1,e2,e3,e4,e5⟩:=slT_spec hT
 have hex:(execOp a.eval ⟨some d,.call ⟨.builtin .copy,#[x1,x2],#[T,T2]⟩,ty,pos,aft,none⟩).run P w=((Builtin.copy_ #[T,T2] ty #[.slice (some ⟨b,o,none⟩) k c,.string t]).run P w).andThen fun v w'=>.ok (.value v) w':=by
  simp [execOp,resolve,invoke,builtin,g.ev hx,g.ev hy]
 unfold Oper.wp
 rw [hex]
 obtain ⟨cur,fz,k1,k2,k3,k4⟩:=hv.own b r hb
 have hcur:r.cells.length≤cur.size:=by have:=k2.length_le;simpa using this
 have hl:(cellsB t.data.toList).length=t.size:=by rw [cellsB_length,size_data]
 obtain ⟨q1,q2⟩:=store_cells (P:=P) hv hb (vs:=cellsB t.data.toList) (o:=o) (by omega) (.inl (by rw [hl];exact ho)) (fun v hv=>by
  obtain ⟨x,_,rfl⟩:=List.mem_map.1 hv
  rfl)
 have hr:=run_copy_string (P:=P) w T T2 ty e b o k c t hu (fun w=>by simp [Go.sizeOf,typeInfo,e1,e3]) hle
  (fun j hj=>by simp [World.cell?,k1];omega) (fun j hj=>by have:=k4 (o+j) (.inl (by omega));simpa [World.frozen?,k1] using this)
 rw [hr]
 exact ⟨_,_,h,g.put hn _,q2⟩
end
theorem spl_cells {l t:List UInt8} {k:Nat} (h:k+t.length≤l.length):spl (cellsB l) k (cellsB t)=cellsB (l.take k ++ t ++ l.drop (k+t.length)):=by
 unfold spl cellsB
 simp only [List.map_append,List.map_take,List.map_drop,List.length_map]
theorem putS_cells {x:ByteArray} {w:Wr} (h:64*w.2.1.toNat+64≤x.size) (h2:w.2.2.size=64):spl (cellsB x.data.toList) (0+64*w.2.1.toNat*1) (cellsB w.2.2.data.toList)=cellsB (putS x w).data.toList:=by
 rw [show 0+64*w.2.1.toNat*1=64*w.2.1.toNat from by omega,spl_cells (by rw [size_data,size_data,h2];exact h),size_data,h2]
 unfold putS;rfl
end
section
open Go.RowKit
open Mv Disk
set_option maxRecDepth 4000
abbrev u8T:TypeId:=5
def OkB (M:Mem) (o:Option (Nat × Nat)) (n:Nat):Prop:=∀ b c,o=some (b,c)→Fresh M b∧n≤c
set_option maxHeartbeats 8000000 in
theorem dev_settle (p:Nat) (d:D) (S:Mem) (oE oW:Option (Nat × Nat)) (hok:OkV S p d oE oW) (hR:Right d) (f:FuncId) (caps:List Value) (hgo:goFn Tryz.prog f=true) (kp:Nat→Bool)
  (hkeep:∀ (k:Nat) (M:Mem),k<d.waits.length→S.Less M→ACall Tryz.prog f (([] : List Value) ++ [Value.int .i64 (k:Int)] ++ caps).toArray M fun r S'=>r = .bool (kp k)∧S'=M) :
  ACall Tryz.prog 82 #[.pointer (some ⟨p,0,none⟩),.func (.func f) #[] caps.toArray] (devM S p d oE oW) fun r S'=>r = .tuple #[]∧OkV S p (settleD d kp) oE none∧S'=devM S p (settleD d kp) oE none:=by
 have hrl:=right_len hR
 have hlens:=right_lens hR
 have hwl:=hR.wl
 have hp:(devM S p d oE oW).own p=some (devB d oE oW):=Mem.own_set_same _ _ _
 obtain ⟨qe,de,hqe⟩:=outV_eq hok.dk.e
 obtain ⟨qw,dw,hqw⟩:=outV_eq hok.dk.w
 have hp':=hp
 unfold devB at hp'
 refine k_E2 (rs:=[]) 73 Tryz.func82 rfl rfl rfl ?_
 iterate 8 refine s1_ ?_
 refine rC ((by rw [hqe];exact Calm.lenSl Tryz.underlying25 rfl)) ?_
 iterate 4 refine s1_ ?_
 refine AWP.loop (X:=Nat) (fun x=>[(0,.pointer (some ⟨p,0,none⟩)),(1,.func (.func f) #[] caps.toArray),(13,outV oE d.ext.length),(14,.int .i64 d.ext.length),(15,.int .i64 x)]) (fun x=>devM S p { d with ext:=mixE kp d.waits d.ext x } oE oW) (fun x=>x≤d.ext.length∧OkV S p { d with ext:=mixE kp d.waits d.ext x } oE oW) (fun x=>d.ext.length-x) (0) ⟨rfl,rfl,rfl,rfl,rfl,trivial⟩ (by rw [mixE_zero];exact Mem.Less.refl _) (⟨Nat.zero_le _,by rw [mixE_zero];exact hok⟩) ?_
 rintro i ⟨hi,hoki⟩
 (try dsimp only at *)
 have hml:=mixE_len kp d.waits d.ext i
 have hpi:(devM S p { d with ext:=mixE kp d.waits d.ext i } oE oW).own p=some (devB { d with ext:=mixE kp d.waits d.ext i } oE oW):=Mem.own_set_same _ _ _
 unfold devB at hpi
 simp only at hpi
 iterate 6 refine s1_ ?_
 refine AWP.condB rfl (fun hc=>?_) (fun hc=>?_)
 ·have hc:i<d.ext.length:=by have:=of_decide_eq_true hc;omega
  obtain ⟨⟨b,c⟩,rfl⟩ : ∃ q,oE=some q:=by cases hq:oE with | none=>(have:=hoki.fits.e0 hq;simp only at this;omega) | some q=>exact ⟨q,rfl⟩
  have hbE:=dev_ownE hoki
  have hmg:=mixE_get kp d.waits d.ext i hc (by omega)
  have hmsu:=mixE_succ kp d.waits d.ext i hc
  have hxm:=List.getElem_mem hc
  have hfit:=right_fit hR hxm
  have hsx:=right_sec hR hxm
  have hasz:=fun n h=>acc_size (kp:=kp) hfit n h
  have hSi:=hoki.less
  have hWS:Sl 3 wrF (devM S p { d with ext:=mixE kp d.waits d.ext i } (some (b,c)) oW) (outV oW d.waits.length) d.waits:=(sl_outN wr_len (e:=wrT) hoki.dk.w rfl hlens.2).less (Mem.less_set _ _ _ hoki.fr.1)
  rw [hqw] at hWS
  have hki:(devM S p { d with ext:=mixE kp d.waits d.ext i } (some (b,c)) oW).Knows ⟨b,0+i*2,none⟩ (extF d.ext[i]):=Mem.own_knows hbE _ _ (fun j v hj=>by have:=flat_get ext_len (mixE kp d.waits d.ext i) i (by omega) j v (by rw [hmg];exact hj);rw [← this];congr 1;omega)
  have hdx:doneX kp d.waits d.ext[i]=(d.ext[i].1,(accW kp d.ext[i] d.waits d.waits.length).getD d.ext[i].2):=rfl
  rw [hdx] at hmsu
  have hasu:=accW_succ kp d.ext[i] d.waits
  have hse:=fun y=>dev_setE (d':={ d with ext:=(mixE kp d.waits d.ext i).set i y }) hoki rfl (by simp) rfl rfl rfl
  have hcl:0+i*2+1<((mixE kp d.waits d.ext i).flatMap extF).length:=by rw [flat_length ext_len,hml];omega
  simp only at hbE hse
  generalize hxx:d.ext[i]=x at *
  unfold extF at hki
  generalize hMi:devM S p { d with ext:=mixE kp d.waits d.ext i } (some (b,c)) oW=Mi at *
  iterate 7 refine s1_ ?_
  refine rC (Calm.indexS Tryz.underlying25 ty_size_127 rfl rfl (by omega) (by omega)) ?_
  refine s1_ ?_
  refine ARun.alloc (lit_lt rfl) ty_zero_127 ?_
  intro b5 f5
  have g5:=f5
  repeat ((with_reducible replace g5:=fresh_set g5);obtain ⟨g5,_⟩:=g5)
  refine nl_ ?_
  iterate 4 refine s1_ ?_
  have hpb5:=f5.ne hpi
  iterate 13 refine s1_ ?_
  refine rC ((by rw [hqw];exact Calm.lenSl Tryz.underlying26 rfl)) ?_
  rw [hqw]
  iterate 4 refine s1_ ?_
  refine AWP.loop (X:=Nat × Option (Nat × Nat)) (fun y=>[(0,.pointer (some ⟨p,0,none⟩)),(1,.func (.func f) #[] caps.toArray),(13,outV (some (b,c)) d.ext.length),(14,.int .i64 d.ext.length),(15,.int .i64 i),(4,.int .i64 i),(5,.pointer (some ⟨b5,0,none⟩)),(6,outV y.2 x.2.size),(24,.slice qw d.waits.length dw),(25,.int .i64 d.waits.length),(26,.int .i64 y.1)]) (fun y=>outM (Mi.set b5 ⟨127,[.string x.1,.string x.2],2⟩) y.2 u8T (cellsB ((accW kp x d.waits y.1).getD x.2).data.toList)) (fun y=>y.1≤d.waits.length∧OkB (Mi.set b5 ⟨127,[.string x.1,.string x.2],2⟩) y.2 x.2.size∧(y.2=none ↔ accW kp x d.waits y.1=none)) (fun y=>d.waits.length-y.1) ((0,none)) ⟨rfl,rfl,rfl,rfl,rfl,rfl,rfl,rfl,rfl,rfl,rfl,trivial⟩ (Mem.Less.refl _) (⟨Nat.zero_le _,(fun b c e=>by cases e),by simp [accW]⟩) ?_
  rintro ⟨k,ob⟩ ⟨hk,hob,hoa⟩
  (try dsimp only at *)
  have hsz:=hasz k hk
  iterate 6 refine s1_ ?_
  refine AWP.condB rfl (fun hc2=>?_) (fun hc2=>?_)
  ·have hc2:k<d.waits.length:=by have:=of_decide_eq_true hc2;omega
   obtain ⟨_,_,ew1,ew2,ew3,hW3⟩:=id hWS
   cases ew1
   obtain ⟨bw,ow,rfl,hkkw⟩:=hW3.resolve_left (fun e=>by rw [e] at hc2;simp at hc2)
   have hkw:=hkkw k hc2
   have hsu:=hasu k hc2
   have hfw:=hfit _ (List.getElem_mem hc2)
   generalize hw:d.waits[k]=w at *
   unfold wrF at hkw
   rcases ob with _ | ⟨bd,cd⟩
   ·have hacc:accW kp x d.waits k=none:=hoa.1 rfl
    rw [hacc] at hsu hsz
    simp only [Option.getD_none] at hsu hsz
    have hb5:(Mi.set b5 ⟨127,[.string x.1,.string x.2],2⟩).own b5=some ⟨127,[.string x.1,.string x.2],2⟩:=Mem.own_set_same _ _ _
    simp only [outM,outV]
    have hML:Mi.Less (Mi.set b5 ⟨127,[.string x.1,.string x.2],2⟩):=Mem.less_set _ _ _ f5.1
    have hkw':=hkw.less hML
    iterate 7 refine s1_ ?_
    refine rC (Calm.indexS Tryz.underlying26 ty_size_168 rfl rfl (by omega) (by omega)) ?_
    refine s1_ ?_
    refine ARun.alloc (lit_lt rfl) ty_zero_168 ?_
    intro b8 f8
    have g8:=f8
    repeat ((with_reducible replace g8:=fresh_set g8);obtain ⟨g8,_⟩:=g8)
    refine nl_ ?_
    iterate 4 refine s1_ ?_
    by_cases hn:w.1=x.1
    ·by_cases hkk:kp k=true
     ·rw [if_pos ⟨hn,hkk⟩] at hsu
      obtain ⟨hw0,hw1,hw2⟩:=hfw hn
      iterate 7 refine s1_ ?_
      refine rC (Calm.bin rfl rfl (bin_bool (bin_str_neq _ _) (bnot_dec_false hn))) ?_
      iterate 3 refine s1_ ?_
      refine rUn 36 ?_
      refine ARun.callV (first:=[]) (cap:=caps) (lit_lt rfl) hgo rfl rfl (hkeep k _ hc2 (hSi.trans (hML.trans less_))) ?_
      rintro _ S1 ⟨rfl,h1⟩
      rw [h1,hkk];clear h1 S1
      iterate 4 refine s1_ ?_
      refine k_v15 0 1 13 14 15 4 5 6 24 25 26 27 8 7 41 ?_
      refine cF_ ?_
      iterate 9 refine s1_ ?_
      refine cT_ ?_
      iterate 3 refine s1_ ?_
      refine ARun.toBytes (lit_lt rfl) ty_str_9 ty_bytes_56 rfl ?_
      intro b46 c46 f46 hc46
      have g46:=f46
      repeat ((with_reducible replace g46:=fresh_set g46);obtain ⟨g46,_⟩:=g46)
      iterate 3 refine s1_ ?_
      refine AWP.draw [(0,true),(1,true),(2,true),(3,true),(4,true),(5,true),(6,true),(7,false)] [7] mixed (by kernel_rfl) ?_
      iterate 4 refine s1_ ?_
      refine dP (hc:=fun _=>Calm.sliceLo (64*w.2.1.toNat) Tryz.underlying56 ty_size_5 rfl rfl (by omega) (by omega) (by omega)) (h:=?_)
      iterate 2 refine s1_ ?_
      refine draw_only rfl ?_
      refine ARun.copyStr (lit_lt rfl) ty_sl_56 rfl own_ rfl (by omega) (by simp only [cellsB_length,size_data];omega) ?_
      have hpc:=putS_cells (x:=x.2) (w:=w) hw1 hw2
      refine arun_nil ⟨fun h=>absurd h (by decide),?_⟩
      iterate 8 refine s1_ ?_
      refine ⟨(k+1,some (b46,c46)),?_,?_,?_,?_⟩
      all_goals (try dsimp only)
      ·exact ⟨rfl,rfl,rfl,rfl,rfl,rfl,rfl,rfl,rfl,rfl,some_int (by simp),trivial⟩
      ·simp only [hsu,Option.getD_some,← hpc,outM];exact less_
      ·exact ⟨hc2,fun b' c' e=>by cases e;exact ⟨fresh_more g46 (by assumption),hc46⟩,by simp [hsu]⟩
      ·omega
     ·rw [if_neg (fun h=>hkk h.2)] at hsu
      iterate 7 refine s1_ ?_
      refine rC (Calm.bin rfl rfl (bin_bool (bin_str_neq _ _) (bnot_dec_false hn))) ?_
      iterate 3 refine s1_ ?_
      refine rUn 36 ?_
      refine ARun.callV (first:=[]) (cap:=caps) (lit_lt rfl) hgo rfl rfl (hkeep k _ hc2 (hSi.trans (hML.trans less_))) ?_
      rintro _ S1 ⟨rfl,h1⟩
      rw [h1,Bool.eq_false_iff.2 hkk];clear h1 S1
      iterate 4 refine s1_ ?_
      refine cT_ ?_
      iterate 9 refine s1_ ?_
      refine ⟨(k+1,none),?_,?_,?_,?_⟩
      all_goals (try dsimp only)
      ·exact ⟨rfl,rfl,rfl,rfl,rfl,rfl,rfl,rfl,rfl,rfl,some_int (by simp),trivial⟩
      ·(try simp only [hsu,outM,Option.getD_none,Option.getD_some]);exact less_
      ·exact ⟨hc2,hob,by simp [hsu]⟩
      ·omega
    ·rw [if_neg (fun h=>hn h.1)] at hsu
     iterate 7 refine s1_ ?_
     refine rC (Calm.bin rfl rfl (bin_bool (bin_str_neq _ _) (bnot_dec_true hn))) ?_
     iterate 8 refine s1_ ?_
     refine k_v15 0 1 13 14 15 4 5 6 24 25 26 27 8 7 41 ?_
     refine cT_ ?_
     iterate 9 refine s1_ ?_
     refine ⟨(k+1,none),?_,?_,?_,?_⟩
     all_goals (try dsimp only)
     ·exact ⟨rfl,rfl,rfl,rfl,rfl,rfl,rfl,rfl,rfl,rfl,some_int (by simp),trivial⟩
     ·(try simp only [hsu,outM,Option.getD_none,Option.getD_some]);exact less_
     ·exact ⟨hc2,hob,by simp [hsu]⟩
     ·omega
   ·obtain ⟨hfb,hcb⟩:=hob bd cd rfl
    obtain ⟨hfb1,hbd5⟩:=fresh_set hfb
    have hbd5':=Ne.symm hbd5
    obtain ⟨cur,hacc⟩ : ∃ cur,accW kp x d.waits k=some cur:=by cases h:accW kp x d.waits k with | none=>exact absurd (hoa.2 h) (by simp) | some cur=>exact ⟨cur,rfl⟩
    rw [hacc] at hsu hsz ⊢
    simp only [Option.getD_some] at hsu hsz ⊢
    have hb5:((Mi.set b5 ⟨127,[.string x.1,.string x.2],2⟩).set bd ⟨u8T,cellsB cur.data.toList,cd⟩).own b5=some ⟨127,[.string x.1,.string x.2],2⟩:=(Mem.own_set_other _ _ hbd5').trans (Mem.own_set_same _ _ _)
    simp only [outM,outV]
    have hML:Mi.Less ((Mi.set b5 ⟨127,[.string x.1,.string x.2],2⟩).set bd ⟨u8T,cellsB cur.data.toList,cd⟩):=(Mem.less_set _ _ _ f5.1).trans (Mem.less_set _ _ _ hfb.1)
    have hkw':=hkw.less hML
    iterate 7 refine s1_ ?_
    refine rC (Calm.indexS Tryz.underlying26 ty_size_168 rfl rfl (by omega) (by omega)) ?_
    refine s1_ ?_
    refine ARun.alloc (lit_lt rfl) ty_zero_168 ?_
    intro b8 f8
    have g8:=f8
    repeat ((with_reducible replace g8:=fresh_set g8);obtain ⟨g8,_⟩:=g8)
    refine nl_ ?_
    iterate 4 refine s1_ ?_
    by_cases hn:w.1=x.1
    ·by_cases hkk:kp k=true
     ·rw [if_pos ⟨hn,hkk⟩] at hsu
      obtain ⟨hw0,hw1,hw2⟩:=hfw hn
      iterate 7 refine s1_ ?_
      refine rC (Calm.bin rfl rfl (bin_bool (bin_str_neq _ _) (bnot_dec_false hn))) ?_
      iterate 3 refine s1_ ?_
      refine rUn 36 ?_
      refine ARun.callV (first:=[]) (cap:=caps) (lit_lt rfl) hgo rfl rfl (hkeep k _ hc2 (hSi.trans (hML.trans less_))) ?_
      rintro _ S1 ⟨rfl,h1⟩
      rw [h1,hkk];clear h1 S1
      iterate 4 refine s1_ ?_
      refine cF_ ?_
      iterate 9 refine s1_ ?_
      refine cF_ ?_
      iterate 2 refine s1_ ?_
      refine AWP.draw [(0,true),(1,true),(2,true),(3,true),(4,true),(5,true),(6,true),(7,false)] [7] mixed (by kernel_rfl) ?_
      iterate 4 refine s1_ ?_
      refine dP (hc:=fun _=>Calm.sliceLo (64*w.2.1.toNat) Tryz.underlying56 ty_size_5 rfl rfl (by omega) (by omega) (by omega)) (h:=?_)
      iterate 2 refine s1_ ?_
      refine draw_only rfl ?_
      refine ARun.copyStr (lit_lt rfl) ty_sl_56 rfl own_ rfl (by omega) (by simp only [cellsB_length,size_data];omega) ?_
      have hpc:=putS_cells (x:=cur) (w:=w) (by omega) hw2
      refine arun_nil ⟨fun h=>absurd h (by decide),?_⟩
      iterate 8 refine s1_ ?_
      refine ⟨(k+1,some (bd,cd)),?_,?_,?_,?_⟩
      all_goals (try dsimp only)
      ·exact ⟨rfl,rfl,rfl,rfl,rfl,rfl,rfl,rfl,rfl,rfl,some_int (by simp),trivial⟩
      ·simp only [hsu,Option.getD_some,← hpc,outM];exact less_
      ·exact ⟨hc2,hob,by simp [hsu]⟩
      ·omega
     ·rw [if_neg (fun h=>hkk h.2)] at hsu
      iterate 7 refine s1_ ?_
      refine rC (Calm.bin rfl rfl (bin_bool (bin_str_neq _ _) (bnot_dec_false hn))) ?_
      iterate 3 refine s1_ ?_
      refine rUn 36 ?_
      refine ARun.callV (first:=[]) (cap:=caps) (lit_lt rfl) hgo rfl rfl (hkeep k _ hc2 (hSi.trans (hML.trans less_))) ?_
      rintro _ S1 ⟨rfl,h1⟩
      rw [h1,Bool.eq_false_iff.2 hkk];clear h1 S1
      iterate 4 refine s1_ ?_
      refine k_v15 0 1 13 14 15 4 5 6 24 25 26 27 8 7 41 ?_
      refine cT_ ?_
      iterate 9 refine s1_ ?_
      refine ⟨(k+1,some (bd,cd)),?_,?_,?_,?_⟩
      all_goals (try dsimp only)
      ·exact ⟨rfl,rfl,rfl,rfl,rfl,rfl,rfl,rfl,rfl,rfl,some_int (by simp),trivial⟩
      ·(try simp only [hsu,outM,Option.getD_none,Option.getD_some]);exact less_
      ·exact ⟨hc2,hob,by simp [hsu]⟩
      ·omega
    ·rw [if_neg (fun h=>hn h.1)] at hsu
     iterate 7 refine s1_ ?_
     refine rC (Calm.bin rfl rfl (bin_bool (bin_str_neq _ _) (bnot_dec_true hn))) ?_
     iterate 8 refine s1_ ?_
     refine cT_ ?_
     iterate 9 refine s1_ ?_
     refine ⟨(k+1,some (bd,cd)),?_,?_,?_,?_⟩
     all_goals (try dsimp only)
     ·exact ⟨rfl,rfl,rfl,rfl,rfl,rfl,rfl,rfl,rfl,rfl,some_int (by simp),trivial⟩
     ·(try simp only [hsu,outM,Option.getD_none,Option.getD_some]);exact less_
     ·exact ⟨hc2,hob,by simp [hsu]⟩
     ·omega
  ·have hc2:k=d.waits.length:=by have:=of_decide_eq_false hc2;omega
   rw [hc2] at hoa hsz ⊢
   rcases ob with _ | ⟨bd,cd⟩
   ·have hacc:accW kp x d.waits d.waits.length=none:=hoa.1 rfl
    rw [hacc,Option.getD_none,show ((x.1,x.2):Ext)=x from rfl,← hmg,List.set_getElem_self] at hmsu
    simp only [outM,outV]
    iterate 11 refine s1_ ?_
    refine cF_ ?_
    iterate 8 refine s1_ ?_
    refine ⟨i+1,?_,?_,?_,?_⟩
    all_goals (try dsimp only)
    ·exact ⟨rfl,rfl,rfl,rfl,rfl,trivial⟩
    ·simp only [hmsu,hMi];exact less_
    ·exact ⟨hc,by simp only [hmsu];exact hoki⟩
    ·omega
   ·obtain ⟨hfb,hcb⟩:=hob bd cd rfl
    obtain ⟨hfb1,hbd5⟩:=fresh_set hfb
    have hbd5':=Ne.symm hbd5
    obtain ⟨cur,hacc⟩ : ∃ cur,accW kp x d.waits d.waits.length=some cur:=by cases h:accW kp x d.waits d.waits.length with | none=>exact absurd (hoa.2 h) (by simp) | some cur=>exact ⟨cur,rfl⟩
    rw [hacc] at hmsu hsz ⊢
    simp only [Option.getD_some] at hmsu hsz ⊢
    have n1:=hfb1.ne hpi
    have n2:=hfb1.ne hbE
    have n3:=f5.ne hbE
    have n2':=Ne.symm n2
    have n3':=Ne.symm n3
    have hfs:=flat_set ext_len (mixE kp d.waits d.ext i) i (x.1,cur) (by omega) 1 (.string cur) (by decide) (by rw [hmg];rfl)
    simp only [outM,outV]
    iterate 11 refine s1_ ?_
    refine cT_ ?_
    refine AWP.draw [(0,true),(1,true),(2,true),(3,true),(4,true),(5,true),(6,true),(7,true),(8,true),(9,true),(10,false)] [10] mixed (by kernel_rfl) ?_
    iterate 7 refine s1_ ?_
    refine dC (hc:=Calm.toStr ty_bytes_56 ty_str_9 rfl (l:=cur.data.toList) (by rw [size_data];exact hsz) (rds_own (r:=⟨u8T,cellsB cur.data.toList,cd⟩) (b:=bd) own_)) (h:=?_)
    refine dP (hc:=fun _=>Calm.indexS Tryz.underlying25 ty_size_127 rfl rfl (by omega) (by omega)) (h:=?_)
    refine s1_ ?_
    refine draw_only rfl ?_
    refine ARun.store1 rfl rfl ty_size_9 rfl (r:=⟨extT,(mixE kp d.waits d.ext i).flatMap extF,c*2⟩) own_ hcl rfl ?_
    try simp only [k_ms,k_sz,k_ss,k_za,Nat.reduceAdd]
    refine arun_nil ⟨fun h=>absurd h (by decide),?_⟩
    iterate 8 refine s1_ ?_
    refine ⟨i+1,?_,?_,?_,?_⟩
    all_goals (try dsimp only)
    ·exact ⟨rfl,rfl,rfl,rfl,rfl,trivial⟩
    ·simp only [hmsu];rw [← (hse (x.1,cur)).1,← hfs];exact less_
    ·exact ⟨hc,by simp only [hmsu];exact (hse (x.1,cur)).2⟩
    ·omega
 ·have hc:i=d.ext.length:=by have:=of_decide_eq_false hc;omega
  subst hc
  rw [mixE_all] at hoki hpi
  simp only [mixE_all]
  iterate 10 refine s1_ ?_
  refine ARun.store1 rfl rfl ty_size_26 rfl hpi (show 2<5 from by decide) rfl ?_
  try simp only [k_ms,k_sz,k_ss,k_za,Nat.reduceAdd]
  refine s1_ ?_
  have hfin:(devM S p (settleD d kp) oE none).Less ((devM S p { d with ext:=d.ext.map (doneX kp d.waits) } oE oW).set p ⟨100,[.int .i64 d.size,outV oE (d.ext.map (doneX kp d.waits)).length,.slice none 0 0,.int .i64 d.fuse,.bool d.down],5⟩):=by unfold devM;rw [Mem.set_set];show ((outN 2 S oE extT ((d.ext.map (doneX kp d.waits)).flatMap extF)).set p ⟨100,[.int .i64 d.size,outV oE (d.ext.map (doneX kp d.waits)).length,.slice none 0 0,.int .i64 d.fuse,.bool d.down],5⟩).Less _;exact Less.set (outN_over hoki.dk.w) _ _
  have hap:=hoki.apart
  have hft:=hoki.fits
  refine ⟨_,devM S p (settleD d kp) oE none,rfl,hfin,?_⟩
  exact ⟨rfl,okV_mk ⟨hap.e,(fun b c e=>by cases e),(fun b c b' c' e e'=>by cases e'),hap.p⟩ ⟨hft.e0,fun _=>rfl,hft.e,(fun b c e=>by cases e)⟩,rfl⟩
end
section
open Go.RowKit
open Mv Disk
set_option maxRecDepth 4000
theorem dev_Sync1 (k:Int) (S:Mem):ACall Tryz.prog 83 #[.int .i64 k] S fun r S'=>r = .bool true∧S'=S:=by
 refine k_E1 (rs:=[.tmp 2]) 3 Tryz.func83 rfl rfl rfl ?_
 iterate 11 refine s1_ ?_
 refine ⟨_,S,⟨_,_,rfl,rfl,rfl⟩,less_,?_⟩
 exact ⟨rfl,rfl⟩
theorem dev_Sync (p:Nat) (d:D) (S:Mem) (oE oW:Option (Nat × Nat)) (hok:OkV S p d oE oW) (hR:Right d) :
  ACall Tryz.prog 48 #[.pointer (some ⟨p,0,none⟩)] (devM S p d oE oW) fun r S'=>∃ oE' oW',OkV S p (settleD d fun _=>true) oE' oW'∧r = .tuple #[]∧S'=devM S p (settleD d fun _=>true) oE' oW':=by
 have h:=dev_settle p d S oE oW hok hR 83 [] go_83 (fun _=>true) (fun k M _ _=>dev_Sync1 k M)
 generalize devM S p d oE oW=M at *
 refine k_E1 (rs:=[]) 4 Tryz.func48 rfl rfl rfl ?_
 iterate 2 refine s1_ ?_
 refine ca_ rfl (h) ?_
 rintro _ S1 ⟨rfl,hok',h1⟩
 rw [h1];clear h1 S1
 refine s1_ ?_
 refine ⟨_,_,rfl,Mem.Less.refl _,?_⟩
 exact ⟨oE,none,hok',rfl,rfl⟩
theorem settle_lens {d:D} (hR:Right d) (kp:Nat→Bool):(settleD d kp).ext.length≤9223372036854775807∧(settleD d kp).waits.length≤9223372036854775807:=by
 have h:=right_lens hR
 exact ⟨by show (List.map _ _).length≤_;rw [List.length_map];exact h.1,by show (0:Nat)≤_;exact Nat.zero_le _⟩
end
end Go.Proofs.YtcpiknecmjbknaaGreatDoor
