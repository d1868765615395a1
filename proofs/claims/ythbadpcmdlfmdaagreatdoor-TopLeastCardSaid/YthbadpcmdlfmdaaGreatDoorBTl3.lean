/-
  Texts that belong together: MemN, DiskMath, Disk1, Disk2, DiskMath2, Disk3, Disk4, Disk5, Disk6, Disk7, Disk8, Shelf, Disk9, Disk10, Disk11, Disk12, Disk13, Disk14, Disk15, Disk16, Disk17, DiskMath3, Disk18, Disk19, Disk20, DiskR0, Draw, DR5, DR6, DR10, DiskIter, DiskSee.
-/
import Derived.Test.YthbadpcmdlfmdaaGreatDoorBTl2
import Derived.Lib.Overlaps
import Derived.Shelf.Strings.Builder1
import Derived.Shelf.Strings.Repeat
import Derived.Test.YthbadpcmdlfmdaaGreatDoorProg
import Derived.RangeFuncNested
import Derived.RangeFuncBound
import Derived.RangeFuncCalls
import Derived.RangeFuncLeaves
import Derived.Shelf.Abstract
import Derived.Shelf.RegionOpen
import Derived.WalkKit
import Derived.OwnWalkIn
import Derived.TacticsInMore
import Derived.LoopNIn
import Derived.LoopIn
set_option linter.unusedVariables false
set_option linter.unusedSimpArgs false
set_option linter.unusedSectionVars false
namespace Go.Proofs.YthbadpcmdlfmdaaGreatDoor
open Go.RowKit
namespace Mv
/-! ### Less is known of blocks -/
def Mem.Shr (S' S : Mem) : Prop := (∀ b r', S'.own b = some r' → ∃ r, S.own b = some r ∧ r.elem = r'.elem ∧ r'.cells <+: r.cells ∧ r'.room ≤ r.room) ∧ S'.ro = S.ro
theorem View.shr {S S' : Mem} {w : World} (h : View S w) (hl : S'.Shr S) : View S' w :=
 ⟨fun b r' hb=>by
  obtain ⟨r,h1,h2,h3,h4⟩:=hl.1 b r' hb
  obtain ⟨cur,fz,e1,e2,e3,e4⟩:=h.own b r h1
  exact ⟨cur,fz,by rw [← h2];exact e1,h3.trans e2,Nat.le_trans h4 e3,by rw [← h2];exact e4⟩,fun a v ha=>by
  rw [hl.2] at ha
  refine ⟨(h.ro a v ha).1,?_⟩
  cases e:S'.own a.block with
  | none=>rfl
  | some r =>
   obtain ⟨r0,h1,_⟩:=hl.1 _ _ e
   (rw [(h.ro a v ha).2] at h1;cases h1),h.fzOf hl.2 (fun k hk _=>by
  cases e:S'.own k with
  | none=>rfl
  | some r =>
   obtain ⟨r0,h1,_⟩:=hl.1 _ _ e
   rw [hk] at h1;cases h1) fun _ _ _=>rfl⟩
/-- The own memory of a slice of things of n cells. -/
def outN (n : Nat) (S : Mem) (o : Option (Nat × Nat)) (e : TypeId) (cs : List Value) : Mem := match o with
  | none => S
  | some (b, c) => S.set b ⟨e, cs, c * n⟩
theorem outN_over {n : Nat} {S : Mem} {o : Option (Nat × Nat)} {k : Nat} {e : TypeId} {cs : List Value} (h : OkO S o k) : S.Less (outN n S o e cs) := by
 cases o with
 | none=>exact Mem.Less.refl _
 | some q=>exact Mem.less_set _ _ _ (h.own q.1 q.2 rfl).1.1
theorem fresh_outN {n : Nat} {S : Mem} {o : Option (Nat × Nat)} {e : TypeId} {cs : List Value} {b : Nat} (h : Fresh (outN n S o e cs) b) : Fresh S b ∧ ∀ q c, o = some (q, c) → b ≠ q := by
 cases o with
 | none=>exact ⟨h,fun q c x=>by cases x⟩
 | some q=>obtain ⟨h1,h2⟩:=fresh_set h;exact ⟨h1,fun q' c x=>by cases x;exact h2⟩
section
variable {P : Program} {N : Nat} {ops : Array Oper} {E : Env} {S : Mem} {K : Env → Mem → Prop}
variable {ty : TypeId} {pos : String} {aft : Array Edge} {gd : Option (Nat × Bool)}
/-- append to a block of one's own, of what is known. -/
theorem ARun.appendRunK {os : List Oper} {T e : TypeId} {n y : Nat} {z : List Value} {x1 x2 : Operand} {b k c : Nat} {xs news : List Value} {a2 : Addr} {m c2 d : Nat} (hn : d < N) (hT : slT P T = some (e, n, y, z)) (hz : z.length = n)
  (hx:ev E x1=some (.slice (some ⟨b,0,none⟩) k c)) (hb:S.own b=some ⟨e,xs,c*n⟩) (hxs:xs.length=k*n)
  (hy:ev E x2=some (.slice (some a2) m c2)) (hnews:S.Knows a2 news) (hnl:news.length=m*n) (h1:∀ v ∈ news,v.oneCell'=true) (hfit:(k+m)*y≤140737488355328) (h63:k+m≤9223372036854775807)
  (h:∀ b' c',Fresh (S.del b) b'→k+m≤c'→ARun P N ops os K ((d,.slice (some ⟨b',0,none⟩) (k+m) c') :: E) ((S.del b).set b' ⟨e,xs ++ news,c'*n⟩)) :
  ARun P N ops (⟨some d,.call ⟨.builtin .append,#[x1,x2],#[T,T]⟩,ty,pos,aft,none⟩ :: os) K E S:=fun a w g hv=>by
 rw [if_pos (by simp [Region.wanted])]
 obtain ⟨hu,i,v,e1,e2,rfl,rfl,rfl⟩:=slT_spec hT
 have hz':v.cells.size=i.size:=by simpa using hz
 have hex:(execOp a.eval ⟨some d,.call ⟨.builtin .append,#[x1,x2],#[T,T]⟩,ty,pos,aft,none⟩).run P w=((Builtin.append_ #[T,T] ty #[.slice (some ⟨b,0,none⟩) k c,.slice (some a2) m c2]).run P w).andThen fun v w'=>.ok (.value v) w':=by
  simp [execOp,resolve,invoke,builtin,g.ev hx,g.ev hy]
 unfold Oper.wp
 rw [hex]
 by_cases hroom:k+m≤c
 ·obtain ⟨q1,q2⟩:=store_cells (P:=P) hv hb (vs:=news) (o:=k*i.size) (by simp [hxs]) (.inr (by simp only [hnl];rw [← Nat.add_mul];exact Nat.mul_le_mul_right _ hroom)) h1
  have hf:=run_firstCells_some (P:=P) w i.size m a2 m c2 news hnl (fun j u hj=>hnews w hv j u hj)
  have hr:(Builtin.append_ #[T,T] ty #[.slice (some ⟨b,0,none⟩) k c,.slice (some a2) m c2]).run P w = .ok (.slice (some ⟨b,0,none⟩) (k+m) c) (w.setCells b (k*i.size) news):=by
   simp [Builtin.append_,run_underlying hu,sizeOf,typeInfo,e1,Builtin.lenOf,hroom,hf,addr_add,q1]
  rw [hr]
  have hsp:spl xs (k*i.size) news=xs ++ news:=by
   unfold spl
   rw [List.take_of_length_le (by omega),List.drop_of_length_le (by omega),List.append_nil]
  simp only [hsp] at q2
  refine ⟨_,_,h b c (fresh_del (fun a v ha=>(hv.ro a v ha).2) hb) hroom,g.put hn _,?_⟩
  rw [del_set];exact q2
 ·have hfit':Builtin.nextslicecap (k+m) c*i.bytes≤281474976710656:=growslice_fits (by omega) hfit
  have hr:=run_append_grow (P:=P) w T ty e i v hu e1 e2 ⟨b,0,none⟩ k c xs hxs (fun j u hj=>hv.rd (by rw [addr_add,Nat.zero_add,rd_own hb];exact hj)) a2 m c2 news hnl (fun j u hj=>hnews w hv j u hj) (by omega) (by omega) hfit'
  rw [hr]
  have hge:=grownCap_ge w (k+m) c e
  have hvd:View S w.drew:=hv.drawn _
  have hst:=Step.allocP hvd e (xs.toArray ++ news.toArray ++ Builtin.zeroCells v.cells (grownCap w (k+m) c e-(k+m))) (xs ++ news) (grownCap w (k+m) c e*i.size) (by simp [List.append_assoc]) (by
   simp only [Array.size_append,List.size_toArray,size_zeroCells,hz',hxs,hnl,← Nat.add_mul]
   exact Nat.mul_le_mul_right _ (by omega))
  refine ⟨_,_,h w.heap.size (grownCap w (k+m) c e) (hv.freshAt.less (Less.del S b)) hge,g.put hn _,?_⟩
  exact ((Step.drawn hv _).trans hst).less (less_del S b _ _)
theorem ARun.appendNilK {os : List Oper} {T e : TypeId} {n y : Nat} {z : List Value} {x1 x2 : Operand} {news : List Value} {a2 : Addr} {m c2 d : Nat} (hn : d < N) (hT : slT P T = some (e, n, y, z)) (hz : z.length = n)
  (hx:ev E x1=some (.slice none 0 0)) (hy:ev E x2=some (.slice (some a2) m c2)) (hnews:S.Knows a2 news) (hnl:news.length=m*n) (hm:0<m) (hfit:m*y≤140737488355328) (h63:m≤9223372036854775807)
  (h:∀ b' c',Fresh S b'→m≤c'→ARun P N ops os K ((d,.slice (some ⟨b',0,none⟩) m c') :: E) (S.set b' ⟨e,news,c'*n⟩)) :
  ARun P N ops (⟨some d,.call ⟨.builtin .append,#[x1,x2],#[T,T]⟩,ty,pos,aft,none⟩ :: os) K E S:=fun a w g hv=>by
 rw [if_pos (by simp [Region.wanted])]
 obtain ⟨hu,i,v,e1,e2,rfl,rfl,rfl⟩:=slT_spec hT
 have hz':v.cells.size=i.size:=by simpa using hz
 have hex:(execOp a.eval ⟨some d,.call ⟨.builtin .append,#[x1,x2],#[T,T]⟩,ty,pos,aft,none⟩).run P w=((Builtin.append_ #[T,T] ty #[.slice none 0 0,.slice (some a2) m c2]).run P w).andThen fun v w'=>.ok (.value v) w':=by
  simp [execOp,resolve,invoke,builtin,g.ev hx,g.ev hy]
 unfold Oper.wp
 rw [hex,run_append_nil (P:=P) w T ty e i v hu e1 e2 a2 m c2 news hnl (fun j u hj=>hnews w hv j u hj) hm (by omega) (by omega)]
 have hge:=grownCap_ge w m 0 e
 have hvd:View S w.drew:=hv.drawn _
 have hst:=Step.allocP hvd e (news.toArray ++ Builtin.zeroCells v.cells (grownCap w m 0 e-m)) news (grownCap w m 0 e*i.size) (by simp) (by
  simp only [Array.size_append,List.size_toArray,size_zeroCells,hz',hnl,← Nat.add_mul]
  exact Nat.mul_le_mul_right _ (by omega))
 exact ⟨_,_,h w.heap.size (grownCap w m 0 e) hv.freshAt hge,g.put hn _,(Step.drawn hv _).trans hst⟩
/-- copy into a block of one's own. -/
theorem ARun.copyK {os : List Oper} {T T2 e : TypeId} {n y : Nat} {z : List Value} {x1 x2 : Operand} {b o k c : Nat} {r : Blk} {news : List Value} {a2 : Addr} {m c2 q d : Nat} (hn : d < N) (hT : slT P T = some (e, n, y, z))
  (hx:ev E x1=some (.slice (some ⟨b,o,none⟩) k c)) (hb:S.own b=some r) (ho:o≤r.cells.length)
  (hy:ev E x2=some (.slice (some a2) m c2)) (hq:q=min m k) (hnews:S.Knows a2 news) (hnl:news.length=q*n) (h1:∀ v ∈ news,v.oneCell'=true) (hfit:o+news.length≤r.cells.length∨o+news.length≤r.room)
  (h:ARun P N ops os K ((d,.int .i64 (q:Int)) :: E) (S.set b ⟨r.elem,spl r.cells o news,r.room⟩)) :
  ARun P N ops (⟨some d,.call ⟨.builtin .copy,#[x1,x2],#[T,T2]⟩,ty,pos,aft,none⟩ :: os) K E S:=fun a w g hv=>by
 rw [if_pos (by simp [Region.wanted])]
 obtain ⟨hu,i,v,e1,e2,rfl,rfl,rfl⟩:=slT_spec hT
 have hex:(execOp a.eval ⟨some d,.call ⟨.builtin .copy,#[x1,x2],#[T,T2]⟩,ty,pos,aft,none⟩).run P w=((Builtin.copy_ #[T,T2] ty #[.slice (some ⟨b,o,none⟩) k c,.slice (some a2) m c2]).run P w).andThen fun v w'=>.ok (.value v) w':=by
  simp [execOp,resolve,invoke,builtin,g.ev hx,g.ev hy]
 unfold Oper.wp
 rw [hex]
 obtain ⟨q1,q2⟩:=store_cells (P:=P) hv hb (vs:=news) (o:=o) ho hfit h1
 have hf:=run_firstCells_some (P:=P) w i.size q a2 m c2 news hnl (fun j u hj=>hnews w hv j u hj)
 have hq':Nat.min m k=q:=hq.symm
 have hr:(Builtin.copy_ #[T,T2] ty #[.slice (some ⟨b,o,none⟩) k c,.slice (some a2) m c2]).run P w = .ok (.int .i64 (q:Int)) (w.setCells b o news):=by
  simp [Builtin.copy_,run_underlying hu,sizeOf,typeInfo,e1,Builtin.lenOf,hq',hf,q1,goInt]
 rw [hr]
 exact ⟨_,_,h,g.put hn _,q2⟩
theorem Calm.cap {T e : TypeId} {x : Operand} {a : Option Addr} {k c : Nat} {dst : Option Nat} (hT : P.underlying T = some (.slice e)) (hx : ev E x = some (.slice a k c)) : ACalm P N ⟨dst, .call ⟨.builtin .cap, #[x], #[T]⟩, ty, pos, aft, gd⟩ E S (.int .i64 (c : Int)) := fun ac w g hv => by
 simp [execOp,resolve,invoke,builtin,g.ev hx,Builtin.cap_,run_underlying hT,goInt]
end
/-! ### Appending to a slice of one's own -/
/-- The first m things of a slice that is known. -/
def Src (M : Mem) (v : Value) (m : Nat) (news : List Value) : Prop := ∃ A c, v = .slice A m c ∧ (m = 0 ∨ ∃ a, A = some a ∧ M.Knows a news)
theorem Src.less {M M' : Mem} {v : Value} {m : Nat} {news : List Value} (h : Src M v m news) (hl : M.Less M') : Src M' v m news := by
 obtain ⟨A,c,e,h⟩:=h
 exact ⟨A,c,e,h.imp id fun ⟨a,e2,k⟩=>⟨a,e2,k.less hl⟩⟩
theorem flat_length {α : Type} {n : Nat} {f : α → List Value} (hn : ∀ x, (f x).length = n) (l : List α) : (l.flatMap f).length = l.length * n := by
 induction l with
 | nil=>simp
 | cons x l ih=>rw [List.flatMap_cons,List.length_append,hn,ih,List.length_cons,Nat.succ_mul,Nat.add_comm]
theorem flat_split {α : Type} {n : Nat} {f : α → List Value} (hn : ∀ x, (f x).length = n) : ∀ (l : List α) (j : Nat) (v : Value), (l.flatMap f)[j]? = some v → ∃ (i q : Nat) (h : i < l.length), j = i * n + q ∧ q < n ∧ (f l[i])[q]? = some v
 | [],j,v,h=>by simp at h
 | x :: l,j,v,h=>by
  rw [List.flatMap_cons] at h
  by_cases hj:j<(f x).length
  ·rw [List.getElem?_append_left hj] at h
   rw [hn] at hj
   exact ⟨0,j,by simp,by omega,hj,h⟩
  ·rw [List.getElem?_append_right (by omega)] at h
   rw [hn] at hj h
   obtain ⟨i,q,hi,e,hq,hv⟩:=flat_split hn l (j-n) v h
   exact ⟨i+1,q,by simpa using hi,by rw [Nat.succ_mul];omega,hq,by simpa using hv⟩
theorem Sl.allN {α : Type} {n : Nat} {f : α → List Value} (hn : ∀ x, (f x).length = n) {S : Mem} {b off : Nat} {len cap : Nat} {l : List α} (h : Sl n f S (.slice (some ⟨b, off, none⟩) len cap) l) : S.Knows ⟨b, off, none⟩ (l.flatMap f) := fun w hv j v hj => by
 obtain ⟨i,q,hi,rfl,hq,hx⟩:=flat_split hn l j v hj
 have:=h.at1 i hi w hv q v hx
 rw [addr_add] at this ⊢
 rw [← this];congr 2;omega
theorem Sl.src {α : Type} {n : Nat} {f : α → List Value} (hn : ∀ x, (f x).length = n) {S : Mem} {v : Value} {l : List α} (h : Sl n f S v l) : Src S v l.length (l.flatMap f) := by
 obtain ⟨a,c,rfl,_,_,h4⟩:=id h
 refine ⟨a,c,rfl,?_⟩
 rcases h4 with rfl | ⟨b,off,rfl,_⟩
 ·left;rfl
 ·right;exact ⟨_,rfl,Sl.allN hn h⟩
theorem src_own {S : Mem} {b c : Nat} {r : Blk} {news : List Value} {m : Nat} (h : S.own b = some r) (hc : news <+: r.cells) : Src S (.slice (some ⟨b, 0, none⟩) m c) m news := ⟨_, c, rfl, .inr ⟨_, rfl, (rds_prefix h hc).knows⟩⟩
structure AppN (n : Nat) (M S : Mem) (o : Option (Nat × Nat)) (e : TypeId) (cs : List Value) : Prop where
  nil : o = none → cs = [] ∧ S.Less M
  own : ∀ b c, o = some (b, c) → M.own b = some ⟨e, cs, c * n⟩ ∧ S.Less (M.del b)
theorem appN_self {n : Nat} {S : Mem} {o : Option (Nat × Nat)} {k : Nat} {e : TypeId} {cs : List Value} (h : OkO S o k) (hn : cs.length = k * n) : AppN n (outN n S o e cs) S o e cs := by
 refine ⟨fun ho=>?_,fun b c ho=>?_⟩
 ·subst ho
  exact ⟨List.eq_nil_of_length_eq_zero (by rw [hn,h.nil rfl,Nat.zero_mul]),Mem.Less.refl _⟩
 ·subst ho
  refine ⟨Mem.own_set_same _ _ _,?_⟩
  rw [show (outN n S (some (b,c)) e cs).del b=S from set_del_same' (del_base (h.own b c rfl).1)]
  exact Mem.Less.refl _
theorem AppN.temp {n : Nat} {M S : Mem} {o : Option (Nat × Nat)} {e : TypeId} {cs : List Value} {t : Nat} {r : Blk} (h : AppN n M S o e cs) (ht : Fresh M t) : AppN n (M.set t r) S o e cs := by
 refine ⟨fun ho=>⟨(h.nil ho).1,(h.nil ho).2.trans (Mem.less_set _ _ _ ht.1)⟩,fun b c ho=>?_⟩
 obtain ⟨h1,h2⟩:=h.own b c ho
 have hne:=ht.ne h1
 refine ⟨(Mem.own_set_other _ _ hne).trans h1,h2.trans ⟨fun k r' hk=>?_,rfl⟩⟩
 have hkb:k≠b:=fun e=>by subst e;simp [Mem.del] at hk
 rw [Mem.own_del_other _ hkb] at hk ⊢
 exact (Mem.own_set_other _ _ (Ne.symm (ht.ne' hk))).trans hk
section
variable {P : Program} {N : Nat} {ops : Array Oper} {E : Env} {S M : Mem} {K : Env → Mem → Prop}
variable {ty : TypeId} {pos : String} {aft : Array Edge} {gd : Option (Nat × Bool)}
theorem ARun.appendOK {os : List Oper} {T e : TypeId} {n y : Nat} {z : List Value} {x1 x2 : Operand} {o : Option (Nat × Nat)} {k m d : Nat} {cs news : List Value} {v : Value} (hn : d < N) (hT : slT P T = some (e, n, y, z)) (hz : z.length = n)
  (hx:ev E x1=some (outV o k)) (hcs:cs.length=k*n) (hok:OkO S o k) (happ:AppN n M S o e cs) (hy:ev E x2=some v) (hv:Src M v m news) (hnl:news.length=m*n) (h1:∀ v ∈ news,v.oneCell'=true) (hfit:(k+m)*y≤140737488355328) (h63:k+m≤9223372036854775807)
  (h:∀ o',OkO S o' (k+m)→ARun P N ops os K ((d,outV o' (k+m)) :: E) (outN n S o' e (cs ++ news))) :
  ARun P N ops (⟨some d,.call ⟨.builtin .append,#[x1,x2],#[T,T]⟩,ty,pos,aft,none⟩ :: os) K E M:=by
 obtain ⟨A,c2,rfl,hv⟩:=hv
 by_cases hm:m=0
 ·subst hm
  obtain rfl:news = []:=List.eq_nil_of_length_eq_zero (by rw [hnl,Nat.zero_mul])
  have h2:=h o hok
  rw [Nat.add_zero,List.append_nil] at h2
  refine AOp.toLess (K:=fun E' S'=>ARun P N ops os K E' S') ?_
  cases o with
  | none =>
   have h0:=hok.nil rfl;subst h0
   exact ARun.appendNone (os:=[]) hn hT (Nat.le_refl 0) hx hy ⟨S,(happ.nil rfl).2,h2⟩
  | some q =>
   obtain ⟨b,c⟩:=q
   obtain ⟨p1,p2⟩:=happ.own b c rfl
   refine ARun.appendNone (os:=[]) hn hT (hok.own b c rfl).2 hx hy ⟨_,?_,h2⟩
   refine ⟨fun k' r hk=>?_,p2.2⟩
   by_cases ek:k'=b
   ·subst ek;rw [show (outN n S (some (k',c)) e cs).own k'=_ from Mem.own_set_same _ _ _] at hk;rw [p1];exact hk
   ·rw [show (outN n S (some (b,c)) e cs).own k'=_ from Mem.own_set_other _ _ ek] at hk
    have:=p2.1 _ _ hk
    rwa [Mem.own_del_other _ ek] at this
 ·obtain ⟨a2,rfl,hk⟩:=hv.resolve_left hm
  cases o with
  | none =>
   have h0:=hok.nil rfl;subst h0
   obtain ⟨q1,q2⟩:=happ.nil rfl
   subst q1
   refine AOp.toLess (K:=fun E' S'=>ARun P N ops os K E' S') ?_
   refine ARun.appendNilK (os:=[]) hn hT hz hx hy hk hnl (by omega) (by simpa using hfit) (by omega) fun b c hb hc=>?_
   refine ⟨S.set b ⟨e,news,c*n⟩,Less.set q2 _ _,?_⟩
   have:=h (some (b,c)) ⟨(fun x=>by cases x),fun b' c' x=>by cases x;exact ⟨hb.less q2,by omega⟩⟩
   simpa [outN,outV] using this
  | some q =>
   obtain ⟨b0,c0⟩:=q
   obtain ⟨q1,q2⟩:=happ.own b0 c0 rfl
   refine AOp.toLess (K:=fun E' S'=>ARun P N ops os K E' S') ?_
   refine ARun.appendRunK (os:=[]) hn hT hz hx q1 hcs hy hk hnl h1 hfit h63 fun b c hb hc=>?_
   refine ⟨S.set b ⟨e,cs ++ news,c*n⟩,Less.set q2 _ _,?_⟩
   exact h (some (b,c)) ⟨(fun x=>by cases x),fun b' c' x=>by cases x;exact ⟨hb.less q2,hc⟩⟩
end
/-- A slice of one's own, as what is known. -/
theorem sl_outN {α : Type} {n : Nat} {f : α → List Value} (hn : ∀ x, (f x).length = n) {S : Mem} {o : Option (Nat × Nat)} {e : TypeId} {l : List α} {k : Nat} (h : OkO S o k) (hl : l.length = k) (hm : k ≤ 9223372036854775807) : Sl n f (outN n S o e (l.flatMap f)) (outV o k) l := by
 subst hl
 cases o with
 | none=>obtain rfl:l = []:=List.eq_nil_of_length_eq_zero (h.nil rfl);exact Sl.nil _ _ _
 | some q=>exact Sl.own (r:=⟨e,l.flatMap f,q.2*n⟩) (Mem.own_set_same _ _ _) hn List.prefix_rfl rfl (h.own _ _ rfl).2 hm
/-- What a copy of a slice is: a slice of one's own, or nil. -/
def OwnR {α : Type} (n : Nat) (f : α → List Value) (e : TypeId) (l : List α) (S : Mem) (r : Value) (S' : Mem) : Prop := ∃ o, OkO S o l.length ∧ r = outV o l.length ∧ S' = outN n S o e (l.flatMap f)
section
variable {P : Program} {N : Nat} {ops : Array Oper} {E : Env} {S : Mem} {K : Env → Mem → Prop}
variable {ty : TypeId} {pos : String} {aft : Array Edge} {gd : Option (Nat × Bool)}
/-- slices.overlaps of two slices of two blocks: no. -/
theorem ARun.overlapsNo {os : List Oper} {f : FuncId} {fn : Func} {T tR e : TypeId} {n : Nat} {xs : List Operand} {ats : Array TypeId} {t b o1 o2 la ca lb cb d : Nat} {r r2 : Blk} (hn : d < N) (hf : P.funcs[f]? = some fn) (hname : (fn.name == "runtime.NumGoroutine") = false) (hb : fn.body.isNone = true)
  (hx':Extern.findNext fn=none) (he:Extern.find fn=some (Extern.SlicesOverlaps.overlaps #[T,T] #[tR])) (ht:P.underlying T=some (.slice e)) (hz:sizeT P e=some n) (hx:evs E xs=some [.slice (some ⟨t,o1,none⟩) la ca,.slice (some ⟨b,o2,none⟩) lb cb])
  (h1:S.own t=some r) (hne:r.elem≠5) (ho1:o1<r.cells.length) (h2:S.own b=some r2) (hr2:0<r2.cells.length) (htb:t≠b)
  (h:ARun P N ops os K ((d,.bool false) :: E) S):ARun P N ops (⟨some d,.call ⟨.value (.func f),xs.toArray,ats⟩,ty,pos,aft,none⟩ :: os) K E S:=fun a w g hv=>by
 rw [if_pos (by simp [Region.wanted])]
 unfold Oper.wp
 have hc:execOp a.eval ⟨some d,.call ⟨.value (.func f),xs.toArray,ats⟩,ty,pos,aft,none⟩=callFunc f #[.slice (some ⟨t,o1,none⟩) la ca,.slice (some ⟨b,o2,none⟩) lb cb]:=by
  rw [execOp_call_go]
  simp [g.evs hx]
 obtain ⟨cur,fz,e1,e2,e3,e4⟩:=hv.own t r h1
 obtain ⟨cur2,fz2,k1,k2,k3,k4⟩:=hv.own b r2 h2
 have hl1:r.cells.length≤cur.size:=by have:=e2.length_le;simpa using this
 have hl2:r2.cells.length≤cur2.size:=by have:=k2.length_le;simpa using this
 have hr:=Lib.run_overlaps_apart (P:=P) w T tR e ht n (fun w=>run_sizeT hz w) ⟨t,o1,none⟩ ⟨b,o2,none⟩ la ca lb cb htb r.elem r2.elem cur.size cur2.size (by simp [World.shape?,e1]) (by simp [World.shape?,k1]) (by omega)
  (by have:=e4 o1 (.inl (by omega));simpa [World.frozen?,e1] using this) (by have:=e4 cur.size (.inr ⟨rfl,hne⟩);simpa [World.frozen?,e1] using this)
 rw [hc,run_callFunc_extern hf hname hb hx' he,hr]
 exact ⟨_,_,h,g.put hn _,Step.refl hv⟩
/-- append of so many zeros, where a new block is needed. -/
theorem ARun.appendMake {os : List Oper} {T Ti e : TypeId} {n y : Nat} {z : List Value} {x1 x2 : Operand} {k c m : Nat} {xs : List Value} {A : Addr} {d : Nat} (hn : d < N) (hT : slT P T = some (e, n, y, z)) (hz : z.length = n) (hTi : P.underlying Ti = some (.int .i64))
  (hx:ev E x1=some (.slice (some A) k c)) (hxs:xs.length=k*n) (hk:S.Knows A xs) (hy:ev E x2=some (.int .i64 (m:Int))) (hgrow:c<k+m) (hfit:(k+m)*y≤140737488355328) (h63:k+m≤9223372036854775807)
  (h:∀ b' c' zs,Fresh S b'→k+m≤c'→zs.length=m*n→ARun P N ops os K ((d,.slice (some ⟨b',0,none⟩) (k+m) c') :: E) (S.set b' ⟨e,xs ++ zs,c'*n⟩)) :
  ARun P N ops (⟨some d,.call ⟨.builtin .append,#[x1,x2],#[T,Ti]⟩,ty,pos,aft,none⟩ :: os) K E S:=fun a w g hv=>by
 rw [if_pos (by simp [Region.wanted])]
 obtain ⟨hu,i,v,e1,e2,rfl,rfl,rfl⟩:=slT_spec hT
 have hz':v.cells.size=i.size:=by simpa using hz
 have hex:(execOp a.eval ⟨some d,.call ⟨.builtin .append,#[x1,x2],#[T,Ti]⟩,ty,pos,aft,none⟩).run P w=((Builtin.append_ #[T,Ti] ty #[.slice (some A) k c,.int .i64 (m:Int)]).run P w).andThen fun v w'=>.ok (.value v) w':=by
  simp [execOp,resolve,invoke,builtin,g.ev hx,g.ev hy]
 unfold Oper.wp
 rw [hex]
 have hfit':Builtin.nextslicecap (k+m) c*i.bytes≤281474976710656:=growslice_fits (by omega) hfit
 have hf:=run_firstCells_some (P:=P) w i.size k A k c xs hxs (fun j u hj=>hk w hv j u hj)
 have hw:IntKind.i64.wrap (m:Int)=(m:Int):=IntWalk.i64_in _ (by omega)
 have hfo:=run_firstCells_some (P:=P) w.drew i.size k A k c xs hxs (fun j u hj=>by have:=hk w hv j u hj;simpa using this)
 have hm0 : ¬ ((m:Int)<0):=by omega
 have hmx:max (m:Int) 0=(m:Int):=by omega
 have hmy:m*i.bytes≤140737488355328:=Nat.le_trans (Nat.mul_le_mul_right _ (by omega)) hfit
 have hmb : ¬ (281474976710656<(m:Int)*(i.bytes:Int)):=by
  have:((m*i.bytes:Nat):Int)≤140737488355328:=by omega
  rw [Int.natCast_mul] at this;omega
 have hnc : ¬ (k+m≤c):=by omega
 have h63' : ¬ (9223372036854775807<((k:Int)+(m:Int))):=by omega
 have h48' : ¬ (281474976710656<Builtin.nextslicecap (k+m) c*i.bytes):=by omega
 obtain ⟨za,hza,hzl⟩ : ∃ za:Array Value,(if m*i.size=0 then (#[] : Array Value) else Builtin.zeroCells v.cells m)=za∧za.size=m*i.size:=by
  by_cases h0:m*i.size=0
  ·exact ⟨#[],by rw [if_pos h0],by simp [h0]⟩
  ·exact ⟨_,by rw [if_neg h0],by rw [size_zeroCells,hz']⟩
 have hr:(Builtin.append_ #[T,Ti] ty #[.slice (some A) k c,.int .i64 (m:Int)]).run P w = .ok (.slice (some ⟨w.heap.size,0,none⟩) (k+m) (grownCap w (k+m) c e)) (w.drew.alloc (.cells (xs.toArray ++ za ++ Builtin.zeroCells v.cells (grownCap w (k+m) c e-(k+m))) e)):=by
  subst hza
  by_cases h0:m*i.size=0
  ·have h0':=h0
   simp [Builtin.append_,run_underlying hu,run_underlying hTi,sizeOf,typeInfo,zeroValue,e1,e2,asInt,asIntOf,hw,hmx,hm0,hmb,hnc,h63',h48',h0',Question.forced,hfo,newRow,grownCap]
  ·have h0':=h0
   simp [Builtin.append_,run_underlying hu,run_underlying hTi,sizeOf,typeInfo,zeroValue,e1,e2,asInt,asIntOf,hw,hmx,hm0,hmb,hnc,h63',h48',h0',Question.forced,hfo,newRow,grownCap]
 rw [hr]
 have hge:=grownCap_ge w (k+m) c e
 have hvd:View S w.drew:=hv.drawn _
 have hst:=Step.allocP hvd e (xs.toArray ++ za ++ Builtin.zeroCells v.cells (grownCap w (k+m) c e-(k+m))) (xs ++ za.toList) (grownCap w (k+m) c e*i.size) (by simp [List.append_assoc]) (by
  simp only [Array.size_append,List.size_toArray,size_zeroCells,hz',hxs,hzl,← Nat.add_mul]
  exact Nat.mul_le_mul_right _ (by omega))
 exact ⟨_,_,h w.heap.size (grownCap w (k+m) c e) za.toList hv.freshAt hge (by simpa using hzl),g.put hn _,(Step.drawn hv _).trans hst⟩
end
section
variable {P : Program} {N : Nat} {E : Env} {S : Mem} {dst : Option Nat} {ty : TypeId} {pos : String} {aft : Array Edge} {gd : Option (Nat × Bool)}
theorem Calm.sliceLo {T e : TypeId} {x lo : Operand} {kd : IntKind} {j : Int} {b o len cap n : Nat} (l : Nat) (hT : P.underlying T = some (.slice e)) (he : sizeT P e = some n) (hx : ev E x = some (.slice (some ⟨b, o, none⟩) len cap)) (hlo : ev E lo = some (.int kd j)) (hj : j = (l : Int)) (h1 : l ≤ len) (h2 : l < cap) :
  ACalm P N ⟨dst,.slice T x (some lo) none none,ty,pos,aft,gd⟩ E S (.slice (some ⟨b,o+l*n,none⟩) (len-l) (cap-l)):=by
 subst hj
 have:=Calm.sliceSl (S:=S) (N:=N) (dst:=dst) (ty:=ty) (pos:=pos) (aft:=aft) (gd:=gd) hT he hx (bnd_none cap cap) (by simp) (bnd_none len cap) (bnd_some 0 len hlo (by omega) (by omega))
 rw [Int.toNat_natCast,if_neg (by omega)] at this
 exact this
theorem Calm.sliceHi {T e : TypeId} {x hi : Operand} {kd : IntKind} {j : Int} {b o len cap n : Nat} (h : Nat) (hT : P.underlying T = some (.slice e)) (he : sizeT P e = some n) (hx : ev E x = some (.slice (some ⟨b, o, none⟩) len cap)) (hhi : ev E hi = some (.int kd j)) (hj : j = (h : Int)) (h1 : h ≤ cap) :
  ACalm P N ⟨dst,.slice T x none (some hi) none,ty,pos,aft,gd⟩ E S (.slice (some ⟨b,o,none⟩) h cap):=by
 subst hj
 have:=Calm.sliceHead (S:=S) (N:=N) (dst:=dst) (ty:=ty) (pos:=pos) (aft:=aft) (gd:=gd) hT he hx (bnd_none cap cap) (by simp) (bnd_some len cap hhi (by omega) (by omega))
 rw [Int.toNat_natCast] at this
 exact this
end
end Mv
end Go.Proofs.YthbadpcmdlfmdaaGreatDoor
namespace Go.Proofs.YthbadpcmdlfmdaaGreatDoor
open Go.RowKit
namespace Disk
/-! ### Texts in order -/
theorem bl_irrefl (a : List UInt8) : Op.bytesLess a a = false := by
 induction a with
 | nil=>rfl
 | cons x a ih=>simp [Op.bytesLess,ih]
theorem bl_trans : ∀ (a b c : List UInt8), Op.bytesLess a b = true → Op.bytesLess b c = true → Op.bytesLess a c = true
 | _,_,[],_,h=>by simp [Op.bytesLess] at h
 | [],_,_ :: _,_,_=>rfl
 | x :: a,[],z :: c,h,_=>by simp [Op.bytesLess] at h
 | x :: a,y :: b,z :: c,h1,h2=>by
  simp only [Op.bytesLess,Bool.or_eq_true,Bool.and_eq_true,decide_eq_true_eq,beq_iff_eq] at h1 h2 ⊢
  rcases h1 with h1 | ⟨rfl,h1⟩
  ·rcases h2 with h2 | ⟨rfl,h2⟩
   ·left;exact UInt8.lt_trans h1 h2
   ·left;exact h1
  ·rcases h2 with h2 | ⟨rfl,h2⟩
   ·left;exact h2
   ·right;exact ⟨rfl,bl_trans a b c h1 h2⟩
theorem bl_tri : ∀ (a b : List UInt8), a ≠ b → Op.bytesLess a b = false → Op.bytesLess b a = true
 | [],[],h,_=>absurd rfl h
 | [],_ :: _,_,h=>by simp [Op.bytesLess] at h
 | _ :: _,[],_,_=>rfl
 | x :: a,y :: b,hne,h=>by
  simp only [Op.bytesLess,Bool.or_eq_false_iff,Bool.and_eq_false_iff,decide_eq_false_iff_not,Bool.or_eq_true,Bool.and_eq_true,decide_eq_true_eq,beq_iff_eq] at h ⊢
  by_cases e:x=y
  ·subst e
   right
   refine ⟨rfl,bl_tri a b (fun e=>hne (by rw [e])) ?_⟩
   rcases h.2 with h2 | h2
   ·simp at h2
   ·exact h2
  ·left
   have h1:=h.1
   rcases Nat.lt_trichotomy x.toNat y.toNat with h' | h' | h'
   ·exact absurd (UInt8.lt_iff_toNat_lt.2 h') h1
   ·exact absurd (UInt8.toNat_inj.1 h') e
   ·exact UInt8.lt_iff_toNat_lt.2 h'
def lt (a b : ByteArray) : Bool := Op.bytesLess a.data.toList b.data.toList
theorem lt_irrefl (a : ByteArray) : lt a a = false := bl_irrefl _
theorem lt_trans {a b c : ByteArray} (h : lt a b = true) (k : lt b c = true) : lt a c = true := bl_trans _ _ _ h k
theorem lt_tri {a b : ByteArray} (hne : a ≠ b) (h : lt a b = false) : lt b a = true := bl_tri _ _ (fun e => hne (Mv.str_ext e)) h
theorem lt_ne {a b : ByteArray} (h : lt a b = true) : a ≠ b := fun e => by subst e; rw [lt_irrefl] at h; cases h
theorem lt_asymm {a b : ByteArray} (h : lt a b = true) : lt b a = false := by
 cases h':lt b a with
 | false=>rfl
 | true=>have:=lt_trans h h';rw [lt_irrefl] at this;cases this
/-! ### What a disk is -/
abbrev Ext := ByteArray × ByteArray
abbrev Wr := ByteArray × Int × ByteArray
def extF (x : Ext) : List Value := [.string x.1, .string x.2]
def wrF (x : Wr) : List Value := [.string x.1, .int .i64 x.2.1, .string x.2.2]
structure D where
  size : Int
  ext : List Ext
  waits : List Wr
  fuse : Int
  down : Bool
def D0 : D := ⟨0, [], [], 0, false⟩
def sec (x : Ext) : Nat := x.2.size / 64
def used : List Ext → Nat
  | [] => 0
  | x :: l => sec x + used l
theorem used_append (l m : List Ext) : used (l ++ m) = used l + used m := by
 induction l with
 | nil=>simp [used]
 | cons x l ih=>simp only [List.cons_append,used,ih];omega
def nm (s : ByteArray) : Prop := s.size ≠ 0 ∧ s.size ≤ 16
instance (s : ByteArray) : Decidable (nm s) := by unfold nm; infer_instance
def eok (x : Ext) : Prop := nm x.1 ∧ x.2.size ≠ 0 ∧ x.2.size % 64 = 0
instance (x : Ext) : Decidable (eok x) := by unfold eok; infer_instance
def Asc (l : List Ext) : Prop := l.Pairwise fun x y => lt x.1 y.1 = true
def wok (l : List Ext) (w : Wr) : Prop := ∃ x ∈ l, x.1 = w.1 ∧ 0 ≤ w.2.1 ∧ w.2.1 < sec x ∧ w.2.2.size = 64
/-- Extents that are right for so many sectors. -/
structure ERight (l : List Ext) (size : Int) : Prop where
  ok : ∀ x ∈ l, eok x
  asc : Asc l
  us : (used l : Int) ≤ size
structure Right (d : D) : Prop where
  s0 : 0 ≤ d.size
  s1 : d.size ≤ 16384
  wl : d.waits.length ≤ 16384
  fu : -1 ≤ d.fuse
  ex : ERight d.ext d.size
  wr : ∀ w ∈ d.waits, wok d.ext w
theorem eok_sec {x : Ext} (h : eok x) : 1 ≤ sec x ∧ x.2.size = 64 * sec x := by
 obtain ⟨_,h1,h2⟩:=h;unfold sec;omega
theorem used_ge {l : List Ext} (h : ∀ x ∈ l, eok x) : l.length ≤ used l := by
 induction l with
 | nil=>simp [used]
 | cons x l ih =>
  have h1:=(eok_sec (h x (by simp))).1
  have h2:=ih fun y hy=>h y (by simp [hy])
  simp only [used,List.length_cons];omega
theorem used_mem {l : List Ext} {x : Ext} (h : x ∈ l) : sec x ≤ used l := by
 induction l with
 | nil=>cases h
 | cons y l ih =>
  simp only [used]
  rcases List.mem_cons.1 h with rfl | h
  ·omega
  ·have:=ih h;omega
noncomputable def chkD (d : D) : Int := by
  classical exact if Right d then 0 else 2
theorem chkD_yes {d : D} (h : Right d) : chkD d = 0 := by unfold chkD; exact if_pos h
theorem chkD_no {d : D} (h : ¬ Right d) : chkD d = 2 := by unfold chkD; exact if_neg h
theorem chkD_or (d : D) : (chkD d = 0 ∧ Right d) ∨ (chkD d = 2 ∧ ¬ Right d) := by
 by_cases h:Right d
 ·exact .inl ⟨chkD_yes h,h⟩
 ·exact .inr ⟨chkD_no h,h⟩
/-! ### Where an extent is -/
/-- How many are ahead of a name. -/
def pos (l : List Ext) (s : ByteArray) : Nat := (l.takeWhile fun x => lt x.1 s).length
def has (l : List Ext) (s : ByteArray) : Bool := l.any fun x => decide (x.1 = s)
theorem has_iff {l : List Ext} {s : ByteArray} : has l s = true ↔ ∃ x ∈ l, x.1 = s := by simp [has]
theorem pos_le (l : List Ext) (s : ByteArray) : pos l s ≤ l.length := by
 unfold pos;exact (List.takeWhile_prefix _).length_le
theorem asc_tail {x : Ext} {l : List Ext} (h : Asc (x :: l)) : Asc l := (List.pairwise_cons.1 h).2
theorem asc_get {l : List Ext} (h : Asc l) {i j : Nat} (hj : j < l.length) (hij : i < j) : lt l[i].1 l[j].1 = true := List.pairwise_iff_getElem.1 h i j (by omega) hj hij
/-- It is the only place with: ahead all are less, behind none is. -/
theorem pos_iff {l : List Ext} {s : ByteArray} {k : Nat} (hk : k ≤ l.length) (h1 : ∀ i (h : i < l.length), i < k → lt l[i].1 s = true) (h2 : ∀ (h : k < l.length), lt l[k].1 s = false) : pos l s = k := by
 induction l generalizing k with
 | nil=>simp at hk;subst hk;rfl
 | cons x l ih =>
  unfold pos
  cases k with
  | zero =>
   have:=h2 (by simp)
   simp only [List.getElem_cons_zero] at this
   rw [List.takeWhile_cons,this];rfl
  | succ k =>
   have h0:=h1 0 (by simp) (by omega)
   simp only [List.getElem_cons_zero] at h0
   rw [List.takeWhile_cons,h0]
   simp only [if_true,List.length_cons]
   have:=ih (k:=k) (by simpa using hk) (fun i h hi=>by have:=h1 (i+1) (by simpa using h) (by omega);simpa using this) (fun h=>by have:=h2 (by simpa using h);simpa using this)
   unfold pos at this;omega
theorem pos_lt {l : List Ext} {s : ByteArray} {i : Nat} (hi : i < l.length) (h : i < pos l s) : lt l[i].1 s = true := by
 unfold pos at h
 have hp:=List.takeWhile_prefix (l:=l) (fun x=>lt x.1 s)
 have h2:(l.takeWhile fun x=>lt x.1 s)[i]=l[i]:=List.IsPrefix.getElem hp h
 have h3:=List.all_takeWhile (p:=fun x:Ext=>lt x.1 s) (l:=l)
 have:=List.all_eq_true.1 h3 _ (List.getElem_mem h)
 rw [h2] at this;exact this
theorem pos_at {l : List Ext} {s : ByteArray} (h : pos l s < l.length) : lt l[pos l s].1 s = false := by
 induction l with
 | nil=>simp at h
 | cons x l ih =>
  by_cases hx:lt x.1 s=true
  ·have e:pos (x :: l) s=pos l s+1:=by unfold pos;rw [List.takeWhile_cons,hx];rfl
   simp only [e,List.getElem_cons_succ]
   exact ih (by rw [e] at h;simpa using h)
  ·have hx':lt x.1 s=false:=by simpa using hx
   have e:pos (x :: l) s=0:=by unfold pos;rw [List.takeWhile_cons,hx'];rfl
   simp only [e,List.getElem_cons_zero];exact hx'
/-- In a list that rises the name is there just if it is at its place. -/
theorem has_pos {l : List Ext} (ha : Asc l) (s : ByteArray) : has l s = true ↔ ∃ h : pos l s < l.length, l[pos l s].1 = s := by
 constructor
 ·intro h
  obtain ⟨x,hx,rfl⟩:=has_iff.1 h
  obtain ⟨j,hj,rfl⟩:=List.getElem_of_mem hx
  have e:pos l l[j].1=j:=pos_iff (by omega) (fun i h hi=>asc_get ha hj hi) (fun h=>lt_irrefl _)
  exact ⟨by rw [e];exact hj,by simp only [e]⟩
 ·rintro ⟨h,e⟩
  exact has_iff.2 ⟨_,List.getElem_mem h,e⟩
theorem pos_mem {l : List Ext} (ha : Asc l) {j : Nat} (hj : j < l.length) : pos l l[j].1 = j := pos_iff (by omega) (fun i h hi => asc_get ha hj hi) (fun h => lt_irrefl _)
theorem asc_inj {l : List Ext} (ha : Asc l) {x y : Ext} (hx : x ∈ l) (hy : y ∈ l) (h : x.1 = y.1) : x = y := by
 obtain ⟨i,hi,rfl⟩:=List.getElem_of_mem hx
 obtain ⟨j,hj,rfl⟩:=List.getElem_of_mem hy
 have h1:=pos_mem ha hi
 have h2:=pos_mem ha hj
 rw [h] at h1
 have:i=j:=by omega
 subst this;rfl
end Disk
end Go.Proofs.YthbadpcmdlfmdaaGreatDoor
namespace Go.Proofs.YthbadpcmdlfmdaaGreatDoor
open Go.RowKit
open Mv Disk
set_option maxRecDepth 4000
def strs (s : ByteArray) : List Value := [.string s]
def cmpI (a b : ByteArray) : Int := if a = b then 0 else if lt a b = true then -1 else 1
theorem lt_def (a b : ByteArray) : Op.bytesLess a.data.toList b.data.toList = lt a b := rfl
theorem size0 (s : ByteArray) : (s = ByteArray.empty) ↔ s.size = 0 := ⟨fun h => by rw [h]; rfl, fun h => by
 apply str_ext
 have:=size_data s
 rw [h] at this
 rw [List.eq_nil_of_length_eq_zero this];rfl⟩
def bad (s : ByteArray) : Bool := decide (s.size = 0 ∨ 16 < s.size)
theorem bad_iff {s : ByteArray} : bad s = true ↔ ¬ nm s := by unfold bad nm; rw [decide_eq_true_eq]; omega
theorem bad_no {s : ByteArray} : bad s = false ↔ nm s := by unfold bad nm; rw [decide_eq_false_iff_not]; omega
theorem disk_named1 (s : ByteArray) (S : Mem) : ACall Tryz.prog 87 #[.string s] S fun r S' => r = .bool (bad s) ∧ S' = S := by
 by_cases h0:s.size=0
 ·have e:(decide (s=ByteArray.empty))=true:=decide_eq_true ((size0 s).2 h0)
  refine ACall.enter (rs:=[.tmp 2]) 10 [(0,.string s)] Tryz.func87 rfl rfl (Nat.le_of_ble_eq_true rfl) rfl ⟨rfl,trivial⟩ ?_
  iterate 8 refine s1_ ?_
  refine rC (Calm.bin rfl rfl (bin_bool (bin_str_eql _ _) e)) ?_
  iterate 8 refine s1_ ?_
  refine su_ [(0,_),(2,_)] ?_
  refine s1_ ?_
  refine ⟨_,S,⟨_,_,rfl,rfl,rfl⟩,less_,?_⟩
  exact ⟨by rw [show bad s=true from decide_eq_true (.inl h0)];rfl,rfl⟩
 ·have e:(decide (s=ByteArray.empty))=false:=decide_eq_false (fun h=>h0 ((size0 s).1 h))
  refine ACall.enter (rs:=[.tmp 2]) 10 [(0,.string s)] Tryz.func87 rfl rfl (Nat.le_of_ble_eq_true rfl) rfl ⟨rfl,trivial⟩ ?_
  iterate 8 refine s1_ ?_
  refine rC (Calm.bin rfl rfl (bin_bool (bin_str_eql _ _) e)) ?_
  iterate 8 refine s1_ ?_
  refine su_ [(0,_),(2,_)] ?_
  refine s1_ ?_
  refine ⟨_,S,⟨_,_,rfl,rfl,rfl⟩,less_,?_⟩
  exact ⟨congrArg Value.bool (decide_eq_decide.2 (by omega)),rfl⟩
theorem disk_index (v : Value) (l : List ByteArray) (S : Mem) (hl : Sl 1 strs S v l) :
  ACall Tryz.prog 107 #[v,.func (.func 87) #[] #[]] S fun r S'=>(∃ n:Int,r = .int .i64 n∧(0≤n ↔ ∃ s ∈ l,¬ nm s))∧S'=S:=by
 obtain ⟨a,cap,rfl,h1,h2,h3⟩:=id hl
 refine ACall.enter (rs:=[.tmp 4]) 19 [(0,.slice a l.length cap),(1,.func (.func 87) #[] #[])] Tryz.func107 rfl rfl (Nat.le_of_ble_eq_true rfl) rfl ⟨rfl,rfl,trivial⟩ ?_
 iterate 13 refine s1_ ?_
 refine su_ [(0,_),(1,_),(4,_),(7,_),(8,_)] ?_
 refine s1_ ?_
 refine AWP.loop (X:=Nat) (fun x=>[(0,.slice a l.length cap),(1,.func (.func 87) #[] #[]),(7,.int .i64 l.length),(8,.int .i64 x)]) (fun x=>S) (fun x=>x≤l.length ∧ ∀ j (h:j<l.length),j<x→nm l[j]) (fun x=>l.length-x) (0) ⟨rfl,rfl,rfl,rfl,trivial⟩ (Mem.Less.refl _) (⟨Nat.zero_le _,fun j _ h=>absurd h (Nat.not_lt_zero _)⟩) ?_
 rintro i ⟨hi,hall⟩
 (try dsimp only at *)
 iterate 6 refine s1_ ?_
 refine AWP.condB rfl (fun hc=>?_) (fun hc=>?_)
 ·have hc:i<l.length:=by have:=of_decide_eq_true hc;omega
  obtain ⟨b,off,rfl,hk⟩:=h3.resolve_left (fun e=>by subst e;simp at hc)
  have hki:=hk i hc
  unfold strs at hki
  iterate 10 refine s1_ ?_
  refine su_ [(0,_),(1,_),(7,_),(8,_),(9,_),(5,_)] ?_
  iterate 7 refine s1_ ?_
  refine ARun.callV (lit_lt rfl) go_87 rfl rfl (disk_named1 l[i] _) ?_
  rintro _ S1 ⟨rfl,h1⟩
  rw [h1];clear h1 S1
  iterate 2 refine s1_ ?_
  refine su_ [(0,_),(1,_),(7,_),(8,_),(9,_),(5,_),(16,_)] ?_
  refine AWP.condB rfl (fun hb=>?_) (fun hb=>?_)
  ·iterate 6 refine s1_ ?_
   refine su_ [(0,_),(1,_),(7,_),(8,_),(9,_),(5,_),(16,_),(4,_)] ?_
   iterate 6 refine s1_ ?_
   refine ⟨_,S,⟨_,_,rfl,rfl,rfl⟩,less_,?_⟩
   exact ⟨⟨i,rfl,by constructor;exact fun _=>⟨_,List.getElem_mem hc,bad_iff.1 hb⟩;omega⟩,rfl⟩
  ·iterate 8 refine s1_ ?_
   refine ⟨i+1,?_,?_,?_,?_⟩
   all_goals (try dsimp only)
   ·exact ⟨rfl,rfl,rfl,rfl,trivial⟩
   ·exact less_
   ·exact ⟨hc,fun j h hj=>by rcases Nat.lt_or_ge j i with h' | h';exact hall j h h';obtain rfl:j=i:=(by omega);exact bad_no.1 hb⟩
   ·omega
 ·have hc:i=l.length:=by have:=of_decide_eq_false hc;omega
  iterate 11 refine s1_ ?_
  refine ⟨_,S,⟨_,_,rfl,rfl,rfl⟩,less_,?_⟩
  exact ⟨⟨-1,rfl,by constructor;omega;rintro ⟨s,hs,hn⟩;obtain ⟨j,hj,rfl⟩:=List.getElem_of_mem hs;exact absurd (hall j hj (by omega)) hn⟩,rfl⟩
theorem disk_contains (v : Value) (l : List ByteArray) (S : Mem) (hl : Sl 1 strs S v l) :
  ACall Tryz.prog 86 #[v,.func (.func 87) #[] #[]] S fun r S'=>(∃ t:Bool,r = .bool t∧(t=true ↔ ∃ s ∈ l,¬ nm s))∧S'=S:=by
 refine ACall.enter (rs:=[.tmp 4]) 9 [(0,v),(1,.func (.func 87) #[] #[])] Tryz.func86 rfl rfl (Nat.le_of_ble_eq_true rfl) rfl ⟨rfl,rfl,trivial⟩ ?_
 iterate 9 refine s1_ ?_
 refine ca_ rfl (disk_index v l _ hl) ?_
 rintro _ S1 ⟨⟨n,rfl,hn⟩,h1⟩
 rw [h1];clear h1 S1
 iterate 4 refine s1_ ?_
 refine su_ [(0,_),(1,_),(4,_)] ?_
 refine s1_ ?_
 refine ⟨_,S,⟨_,_,rfl,rfl,rfl⟩,less_,?_⟩
 exact ⟨⟨decide (0≤n),rfl,by rw [decide_eq_true_eq];exact hn⟩,rfl⟩
theorem disk_named (v : Value) (l : List ByteArray) (S : Mem) (hl : Sl 1 strs S v l) :
  ACall Tryz.prog 64 #[v] S fun r S'=>(∃ t:Bool,r = .bool t∧(t=true ↔ ∀ s ∈ l,nm s))∧S'=S:=by
 refine ACall.enter (rs:=[.tmp 2]) 6 [(0,v)] Tryz.func64 rfl rfl (Nat.le_of_ble_eq_true rfl) rfl ⟨rfl,trivial⟩ ?_
 iterate 8 refine s1_ ?_
 refine ca_ rfl (disk_contains v l _ hl) ?_
 rintro _ S1 ⟨⟨t,rfl,ht⟩,h1⟩
 rw [h1];clear h1 S1
 iterate 4 refine s1_ ?_
 refine su_ [(0,_),(2,_)] ?_
 refine s1_ ?_
 refine ⟨_,S,⟨_,_,rfl,rfl,rfl⟩,less_,?_⟩
 exact ⟨⟨!t,rfl,by cases t <;> simp at ht ⊢ <;> exact ht⟩,rfl⟩
theorem disk_nan (s : ByteArray) (S : Mem) : ACall Tryz.prog 106 #[.string s] S fun r S' => r = .bool false ∧ S' = S := by
 refine ACall.enter (rs:=[.tmp 2]) 6 [(0,.string s)] Tryz.func106 rfl rfl (Nat.le_of_ble_eq_true rfl) rfl ⟨rfl,trivial⟩ ?_
 iterate 9 refine s1_ ?_
 refine rC (Calm.bin rfl rfl (bin_bool (bin_str_neq _ _) (bnot_dec_false rfl))) ?_
 iterate 3 refine s1_ ?_
 refine su_ [(0,_),(2,_)] ?_
 refine s1_ ?_
 refine ⟨_,S,⟨_,_,rfl,rfl,rfl⟩,less_,?_⟩
 exact ⟨rfl,rfl⟩
theorem disk_compare (a b : ByteArray) (S : Mem) : ACall Tryz.prog 85 #[.string a, .string b] S fun r S' => r = .int .i64 (cmpI a b) ∧ S' = S := by
 unfold cmpI
 by_cases e:a=b
 ·subst e
  rw [if_pos rfl]
  refine ACall.enter (rs:=[.tmp 4]) 20 [(0,.string a),(1,.string a)] Tryz.func85 rfl rfl (Nat.le_of_ble_eq_true rfl) rfl ⟨rfl,rfl,trivial⟩ ?_
  iterate 8 refine s1_ ?_
  refine ca_ rfl (disk_nan a _) ?_
  rintro _ S1 ⟨rfl,h1⟩
  rw [h1];clear h1 S1
  iterate 3 refine s1_ ?_
  refine su_ [(0,_),(1,_),(4,_),(5,_)] ?_
  iterate 3 refine s1_ ?_
  refine ca_ rfl (disk_nan a _) ?_
  rintro _ S1 ⟨rfl,h1⟩
  rw [h1];clear h1 S1
  iterate 3 refine s1_ ?_
  refine su_ [(0,_),(1,_),(4,_),(5,_),(6,_)] ?_
  iterate 6 refine s1_ ?_
  refine cF_ ?_
  iterate 8 refine s1_ ?_
  refine cF_ ?_
  iterate 7 refine s1_ ?_
  refine rC (Calm.bin rfl rfl (bin_bool (bin_str_lss _ _) (lt_irrefl a))) ?_
  iterate 2 refine s1_ ?_
  refine su_ [(0,_),(1,_),(4,_),(5,_),(6,_),(11,_),(13,_),(16,_)] ?_
  refine cF_ ?_
  iterate 7 refine s1_ ?_
  refine rC (Calm.bin rfl rfl (bin_bool (bin_str_gtr _ _) (by rw [lt_def,lt_irrefl,decide_eq_true rfl];first | done | rfl))) ?_
  iterate 2 refine s1_ ?_
  refine su_ [(0,_),(1,_),(4,_),(5,_),(6,_),(11,_),(13,_),(16,_),(19,_)] ?_
  refine cF_ ?_
  iterate 8 refine s1_ ?_
  refine ⟨_,S,⟨_,_,rfl,rfl,rfl⟩,less_,?_⟩
  exact ⟨rfl,rfl⟩
 ·rw [if_neg e]
  by_cases h:lt a b=true
  ·rw [if_pos h]
   refine ACall.enter (rs:=[.tmp 4]) 20 [(0,.string a),(1,.string b)] Tryz.func85 rfl rfl (Nat.le_of_ble_eq_true rfl) rfl ⟨rfl,rfl,trivial⟩ ?_
   iterate 8 refine s1_ ?_
   refine ca_ rfl (disk_nan a _) ?_
   rintro _ S1 ⟨rfl,h1⟩
   rw [h1];clear h1 S1
   iterate 3 refine s1_ ?_
   refine su_ [(0,_),(1,_),(4,_),(5,_)] ?_
   iterate 3 refine s1_ ?_
   refine ca_ rfl (disk_nan b _) ?_
   rintro _ S1 ⟨rfl,h1⟩
   rw [h1];clear h1 S1
   iterate 3 refine s1_ ?_
   refine su_ [(0,_),(1,_),(4,_),(5,_),(6,_)] ?_
   iterate 6 refine s1_ ?_
   refine cF_ ?_
   iterate 8 refine s1_ ?_
   refine cF_ ?_
   iterate 7 refine s1_ ?_
   refine rC (Calm.bin rfl rfl (bin_bool (bin_str_lss _ _) h)) ?_
   iterate 2 refine s1_ ?_
   refine su_ [(0,_),(1,_),(4,_),(5,_),(6,_),(11,_),(13,_),(16,_)] ?_
   refine cT_ ?_
   iterate 7 refine s1_ ?_
   refine ⟨_,S,⟨_,_,rfl,rfl,rfl⟩,less_,?_⟩
   exact ⟨rfl,rfl⟩
  ·have h':lt a b=false:=by simpa using h
   rw [if_neg h]
   refine ACall.enter (rs:=[.tmp 4]) 20 [(0,.string a),(1,.string b)] Tryz.func85 rfl rfl (Nat.le_of_ble_eq_true rfl) rfl ⟨rfl,rfl,trivial⟩ ?_
   iterate 8 refine s1_ ?_
   refine ca_ rfl (disk_nan a _) ?_
   rintro _ S1 ⟨rfl,h1⟩
   rw [h1];clear h1 S1
   iterate 3 refine s1_ ?_
   refine su_ [(0,_),(1,_),(4,_),(5,_)] ?_
   iterate 3 refine s1_ ?_
   refine ca_ rfl (disk_nan b _) ?_
   rintro _ S1 ⟨rfl,h1⟩
   rw [h1];clear h1 S1
   iterate 3 refine s1_ ?_
   refine su_ [(0,_),(1,_),(4,_),(5,_),(6,_)] ?_
   iterate 6 refine s1_ ?_
   refine cF_ ?_
   iterate 8 refine s1_ ?_
   refine cF_ ?_
   iterate 7 refine s1_ ?_
   refine rC (Calm.bin rfl rfl (bin_bool (bin_str_lss _ _) h')) ?_
   iterate 2 refine s1_ ?_
   refine su_ [(0,_),(1,_),(4,_),(5,_),(6,_),(11,_),(13,_),(16,_)] ?_
   refine cF_ ?_
   iterate 7 refine s1_ ?_
   refine rC (Calm.bin rfl rfl (bin_bool (bin_str_gtr _ _) (by rw [lt_def,h',decide_eq_false e];first | done | rfl))) ?_
   iterate 2 refine s1_ ?_
   refine su_ [(0,_),(1,_),(4,_),(5,_),(6,_),(11,_),(13,_),(16,_),(19,_)] ?_
   refine cT_ ?_
   iterate 7 refine s1_ ?_
   refine ⟨_,S,⟨_,_,rfl,rfl,rfl⟩,less_,?_⟩
   exact ⟨rfl,rfl⟩
theorem disk_find1 (x : Ext) (s : ByteArray) (S : Mem) : ACall Tryz.prog 84 #[.agg #[.string x.1, .string x.2], .string s] S fun r S' => r = .int .i64 (cmpI x.1 s) ∧ S' = S := by
 refine ACall.enter (rs:=[.tmp 4]) 9 [(0,.agg #[.string x.1,.string x.2]),(1,.string s)] Tryz.func84 rfl rfl (Nat.le_of_ble_eq_true rfl) rfl ⟨rfl,rfl,trivial⟩ ?_
 iterate 2 refine s1_ ?_
 refine ARun.boxA (cs:=[_,_]) (lit_lt rfl) rfl ?_
 intro b2 f2
 have g2:=f2
 repeat ((with_reducible replace g2:=fresh_set g2);obtain ⟨g2,_⟩:=g2)
 refine nl_ ?_
 iterate 8 refine s1_ ?_
 refine ca_ rfl (disk_compare x.1 s _) ?_
 rintro _ S1 ⟨rfl,h1⟩
 rw [h1];clear h1 S1
 iterate 3 refine s1_ ?_
 refine su_ [(0,_),(1,_),(2,_),(4,_)] ?_
 refine s1_ ?_
 refine ⟨_,S,⟨_,_,rfl,rfl,rfl⟩,less_,?_⟩
 exact ⟨rfl,rfl⟩
end Go.Proofs.YthbadpcmdlfmdaaGreatDoor
namespace Go.Proofs.YthbadpcmdlfmdaaGreatDoor
open Go.RowKit
open Mv Disk
set_option maxRecDepth 4000
theorem cmpI_neg {a b : ByteArray} : cmpI a b < 0 ↔ lt a b = true := by
 unfold cmpI
 by_cases e:a=b
 ·subst e;rw [if_pos rfl,lt_irrefl];simp
 ·rw [if_neg e];by_cases h:lt a b=true
  ·rw [if_pos h];simp [h]
  ·rw [if_neg h];simp [h]
theorem cmpI_zero {a b : ByteArray} : cmpI a b = 0 ↔ a = b := by
 unfold cmpI
 by_cases e:a=b
 ·rw [if_pos e];simp [e]
 ·rw [if_neg e];by_cases h:lt a b=true
  ·rw [if_pos h];simp [e]
  ·rw [if_neg h];simp [e]
set_option maxHeartbeats 1000000 in
theorem disk_search (v : Value) (l : List Ext) (s : ByteArray) (S : Mem) (hl : Sl 2 extF S v l) (ha : Asc l) (hn : l.length ≤ 1048576) :
  ACall Tryz.prog 83 #[v,.string s,.func (.func 84) #[] #[]] S fun r S'=>r = .tuple #[.int .i64 (pos l s:Nat),.bool (has l s)]∧S'=S:=by
 obtain ⟨a,cap,rfl,h1,h2,h3⟩:=id hl
 refine ACall.enter (rs:=[.tmp 6,.tmp 7]) 49 [(0,.slice a l.length cap),(1,.string s),(2,.func (.func 84) #[] #[])] Tryz.func83 rfl rfl (Nat.le_of_ble_eq_true rfl) rfl ⟨rfl,rfl,rfl,trivial⟩ ?_
 iterate 13 refine s1_ ?_
 refine su_ [(0,_),(1,_),(2,_),(6,_),(7,_),(8,_)] ?_
 iterate 7 refine s1_ ?_
 refine su_ [(0,_),(1,_),(2,_),(6,_),(7,_),(8,_),(9,_),(10,_)] ?_
 iterate 2 refine s1_ ?_
 refine AWP.loop (X:=Nat × Nat) (fun x=>[(0,.slice a l.length cap),(1,.string s),(2,.func (.func 84) #[] #[]),(8,.int .i64 l.length),(9,.int .i64 x.1),(10,.int .i64 x.2)]) (fun x=>S) (fun x=>x.1≤x.2∧x.2≤l.length∧(∀ j (h:j<l.length),j<x.1→lt l[j].1 s=true) ∧ ∀ j (h:j<l.length),x.2≤j→lt l[j].1 s=false) (fun x=>x.2-x.1) ((0,l.length)) ⟨rfl,rfl,rfl,rfl,rfl,rfl,trivial⟩ (Mem.Less.refl _) (⟨Nat.zero_le _,Nat.le_refl _,fun j _ h=>absurd h (Nat.not_lt_zero _),fun j h h'=>absurd h (Nat.not_lt.2 h')⟩) ?_
 rintro ⟨i,j⟩ ⟨hij,hj,hlo,hhi⟩
 (try dsimp only at *)
 iterate 8 refine s1_ ?_
 refine su_ [(0,_),(1,_),(2,_),(8,_),(9,_),(10,_),(17,_)] ?_
 refine AWP.condB rfl (fun hc=>?_) (fun hc=>?_)
 ·have hc:i<j:=by have:=of_decide_eq_true hc;omega
  obtain ⟨b,off,rfl,hk⟩:=h3.resolve_left (fun e=>by subst e;simp at hj;omega)
  obtain ⟨m,hm⟩ : ∃ m,(i+j) / 2=m:=⟨_,rfl⟩
  have hml:m<l.length:=by omega
  have hki:=hk m hml
  unfold extF at hki
  have e1:IntKind.i64.wrap (((i:Int)+(j:Int)) / 2 ^ (1:Int).toNat)=(m:Int):=by rw [show (2:Int) ^ (1:Int).toNat=2 from rfl,IntWalk.i64_in _ (by omega)];omega
  iterate 14 refine s1_ ?_
  refine su_ [(0,_),(1,_),(2,_),(8,_),(9,_),(10,_),(17,_),(11,_)] ?_
  rw [e1]
  iterate 8 refine s1_ ?_
  refine ARun.callV (lit_lt rfl) go_84 rfl rfl (disk_find1 l[m] s _) ?_
  rintro _ S1 ⟨rfl,h1⟩
  rw [h1];clear h1 S1
  iterate 3 refine s1_ ?_
  refine su_ [(0,_),(1,_),(2,_),(8,_),(9,_),(10,_),(17,_),(11,_),(31,_)] ?_
  refine AWP.condB rfl (fun hb=>?_) (fun hb=>?_)
  ·have hb:lt l[m].1 s=true:=cmpI_neg.1 (of_decide_eq_true hb)
   have hlo':∀ k (h:k<l.length),k<m+1→lt l[k].1 s=true:=fun k h hk'=>by rcases Nat.lt_or_ge k m with h' | h';exact lt_trans (asc_get ha hml h') hb;obtain rfl:k=m:=(by omega);exact hb
   iterate 7 refine s1_ ?_
   refine ⟨(m+1,j),?_,?_,?_,?_⟩
   all_goals (try dsimp only)
   ·exact ⟨rfl,rfl,rfl,rfl,rfl,rfl,trivial⟩
   ·exact less_
   ·exact ⟨by omega,hj,hlo',hhi⟩
   ·omega
  ·have hb:lt l[m].1 s=false:=by have:=of_decide_eq_false hb;rw [cmpI_neg] at this;simpa using this
   have hhi':∀ k (h:k<l.length),m≤k→lt l[k].1 s=false:=fun k h hk'=>by rcases Nat.lt_or_ge m k with h' | h';(cases hq:lt l[k].1 s with | false=>rfl | true=>have:=lt_trans (asc_get ha h h') hq;rw [hb] at this;cases this);obtain rfl:k=m:=(by omega);exact hb
   iterate 6 refine s1_ ?_
   refine ⟨(i,m),?_,?_,?_,?_⟩
   all_goals (try dsimp only)
   ·exact ⟨rfl,rfl,rfl,rfl,rfl,rfl,trivial⟩
   ·exact less_
   ·exact ⟨by omega,by omega,hlo,hhi'⟩
   ·omega
 ·have hc:i=j:=by have:=of_decide_eq_false hc;omega
  subst hc
  have hp:pos l s=i:=pos_iff hj hlo (fun h=>hhi i h (Nat.le_refl _))
  have hh:=has_pos ha s
  by_cases hil:i<l.length
  ·obtain ⟨b,off,rfl,hk⟩:=h3.resolve_left (fun e=>by subst e;simp at hil)
   have hki:=hk i hil
   unfold extF at hki
   iterate 18 refine s1_ ?_
   refine rUn 39 ?_
   refine ARun.callV (lit_lt rfl) go_84 rfl rfl (disk_find1 l[i] s _) ?_
   rintro _ S1 ⟨rfl,h1⟩
   rw [h1];clear h1 S1
   have hbb:decide (cmpI l[i].1 s=0)=has l s:=by rw [Bool.eq_iff_iff,decide_eq_true_eq,cmpI_zero,hh];constructor;exact fun e=>⟨by rw [hp];exact hil,by simp only [hp];exact e⟩;exact fun ⟨_,e⟩=>by simpa only [hp] using e
   iterate 6 refine s1_ ?_
   refine su_ [(0,_),(1,_),(2,_),(8,_),(9,_),(10,_),(17,_),(6,_),(7,_)] ?_
   refine s1_ ?_
   refine ⟨_,S,⟨_,_,rfl,⟨_,_,rfl,rfl,rfl⟩,rfl⟩,less_,?_⟩
   exact ⟨by rw [hp,← hbb];rfl,rfl⟩
  ·have hbb:has l s=false:=by cases h:has l s with | false=>rfl | true=>obtain ⟨h',_⟩:=hh.1 h;rw [hp] at h';omega
   iterate 25 refine s1_ ?_
   refine su_ [(0,_),(1,_),(2,_),(8,_),(9,_),(10,_),(17,_),(6,_),(7,_)] ?_
   refine s1_ ?_
   refine ⟨_,S,⟨_,_,rfl,⟨_,_,rfl,rfl,rfl⟩,rfl⟩,less_,?_⟩
   exact ⟨by rw [hp,hbb];rfl,rfl⟩
theorem disk_find (v : Value) (l : List Ext) (s : ByteArray) (S : Mem) (hl : Sl 2 extF S v l) (ha : Asc l) (hn : l.length ≤ 1048576) :
  ACall Tryz.prog 63 #[v,.string s] S fun r S'=>r = .tuple #[.int .i64 (pos l s:Nat),.bool (has l s)]∧S'=S:=by
 refine ACall.enter (rs:=[.tmp 4,.tmp 5]) 11 [(0,v),(1,.string s)] Tryz.func63 rfl rfl (Nat.le_of_ble_eq_true rfl) rfl ⟨rfl,rfl,trivial⟩ ?_
 iterate 10 refine s1_ ?_
 refine ca_ rfl (disk_search v l s _ hl ha hn) ?_
 rintro _ S1 ⟨rfl,h1⟩
 rw [h1];clear h1 S1
 iterate 6 refine s1_ ?_
 refine su_ [(0,_),(1,_),(4,_),(5,_)] ?_
 refine s1_ ?_
 refine ⟨_,S,⟨_,_,rfl,⟨_,_,rfl,rfl,rfl⟩,rfl⟩,less_,?_⟩
 exact ⟨rfl,rfl⟩
theorem disk_sectors (x : Ext) (S : Mem) (hx : x.2.size ≤ 9223372036854775807) : ACall Tryz.prog 80 #[.agg #[.string x.1, .string x.2]] S fun r S' => r = .int .i64 (sec x : Nat) ∧ S' = S := by
 refine ACall.enter (rs:=[.tmp 2]) 7 [(0,.agg #[.string x.1,.string x.2])] Tryz.func80 rfl rfl (Nat.le_of_ble_eq_true rfl) rfl ⟨rfl,trivial⟩ ?_
 iterate 2 refine s1_ ?_
 refine ARun.boxA (cs:=[_,_]) (lit_lt rfl) rfl ?_
 intro b1 f1
 have g1:=f1
 repeat ((with_reducible replace g1:=fresh_set g1);obtain ⟨g1,_⟩:=g1)
 refine nl_ ?_
 iterate 12 refine s1_ ?_
 refine su_ [(0,_),(1,_),(2,_)] ?_
 refine s1_ ?_
 refine ⟨_,S,⟨_,_,rfl,rfl,rfl⟩,less_,?_⟩
 exact ⟨val_int (by unfold sec;omega),rfl⟩
end Go.Proofs.YthbadpcmdlfmdaaGreatDoor
namespace Go.Proofs.YthbadpcmdlfmdaaGreatDoor
open Go.RowKit
namespace Disk
theorem lt_empty {x : ByteArray} (h : x.size ≠ 0) : lt ByteArray.empty x = true := by
 unfold lt
 cases e:x.data.toList with
 | nil=>have:=Mv.size_data x;rw [e] at this;simp at this;omega
 | cons a l=>rfl
theorem take_get {α : Type} {l : List α} {i : Nat} (h : i < l.length) : l.take (i + 1) = l.take i ++ [l[i]] := by
 rw [List.take_add_one,List.getElem?_eq_getElem h];rfl
def lastN (l : List Ext) : Nat → ByteArray
  | 0 => ByteArray.empty
  | i + 1 => (l[i]?.map (·.1)).getD ByteArray.empty
theorem lastN_succ {l : List Ext} {i : Nat} (h : i < l.length) : lastN l (i + 1) = l[i].1 := by
 simp [lastN,List.getElem?_eq_getElem h]
/-- What is right so far. -/
structure Upto (l : List Ext) (size : Int) (i : Nat) : Prop where
  ok : ∀ x ∈ l.take i, eok x
  asc : Asc (l.take i)
  us : (used (l.take i) : Int) ≤ size
theorem upto_zero (l : List Ext) {size : Int} (h : 0 ≤ size) : Upto l size 0 := ⟨fun x h => by simp at h, by simp [Asc], by simpa [used] using h⟩
theorem upto_all {l : List Ext} {size : Int} (h : Upto l size l.length) : ERight l size := by
 obtain ⟨h1,h2,h3⟩:=h
 rw [List.take_length] at h1 h2 h3
 exact ⟨h1,h2,h3⟩
theorem upto_succ {l : List Ext} {size : Int} {i : Nat} (h : Upto l size i) (hi : i < l.length) (h1 : eok l[i]) (h2 : lt (lastN l i) l[i].1 = true) (h3 : (used (l.take i) : Int) + sec l[i] ≤ size) : Upto l size (i + 1) := by
 have e:=take_get hi
 refine ⟨fun x hx=>?_,?_,?_⟩
 ·rw [e,List.mem_append] at hx
  rcases hx with hx | hx
  ·exact h.ok x hx
  ·rw [List.mem_singleton.1 hx];exact h1
 ·rw [e]
  unfold Asc
  rw [List.pairwise_append]
  refine ⟨h.asc,by simp,fun a ha b hb=>?_⟩
  rw [List.mem_singleton.1 hb]
  obtain ⟨j,hj,rfl⟩:=List.getElem_of_mem ha
  have hj':j<i:=by simp at hj;omega
  cases i with
  | zero=>omega
  | succ i =>
   rw [lastN_succ (by omega)] at h2
   by_cases hji:j=i
   ·subst hji;simpa using h2
   ·have:=asc_get h.asc (i:=j) (j:=i) (by simp;omega) (by omega)
    simp only [List.getElem_take] at this ⊢
    exact lt_trans this h2
 ·rw [e,used_append];simp only [used];omega
theorem right_at {l : List Ext} {size : Int} (h : ERight l size) {i : Nat} (hi : i < l.length) : eok l[i] ∧ lt (lastN l i) l[i].1 = true ∧ (used (l.take i) : Int) + sec l[i] ≤ size := by
 refine ⟨h.ok _ (List.getElem_mem hi),?_,?_⟩
 ·cases i with
  | zero=>exact lt_empty (h.ok _ (List.getElem_mem hi)).1.1
  | succ i=>rw [lastN_succ (by omega)];exact asc_get h.asc hi (by omega)
 ·have h1:=h.us
  have e:l=l.take (i+1) ++ l.drop (i+1):=(List.take_append_drop _ _).symm
  rw [e,used_append,take_get hi,used_append] at h1
  simp only [used] at h1;omega
end Disk
end Go.Proofs.YthbadpcmdlfmdaaGreatDoor
namespace Go.Proofs.YthbadpcmdlfmdaaGreatDoor
open Go.RowKit
open Mv Disk
set_option maxRecDepth 4000
theorem sl_str1 {S : Mem} {b : Nat} {e : TypeId} {s : ByteArray} (h : S.own b = some ⟨e, [.string s], 1⟩) : Sl 1 strs S (.slice (some ⟨b, 0, none⟩) 1 1) [s] :=
 Sl.own1 (g:=fun s:ByteArray=>.string s) h List.prefix_rfl rfl (by decide) (by decide)
theorem leq_no {a b : ByteArray} (h : lt a b = true) : (Op.bytesLess b.data.toList a.data.toList || decide (b = a)) = false := by
 rw [lt_def,lt_asymm h,decide_eq_false (Ne.symm (lt_ne h))];rfl
theorem leq_yes {a b : ByteArray} (h : lt a b = false) : (Op.bytesLess b.data.toList a.data.toList || decide (b = a)) = true := by
 rw [lt_def]
 by_cases e:b=a
 ·rw [decide_eq_true e,Bool.or_true]
 ·rw [lt_tri (Ne.symm e) h];rfl
theorem one_all {p : ByteArray → Prop} {s : ByteArray} : (∀ x ∈ [s], p x) ↔ p s := by simp
set_option maxHeartbeats 1000000 in
theorem disk_extents (v : Value) (l : List Ext) (size : Int) (S : Mem) (hl : Sl 2 extF S v l) (h0 : 0 ≤ size) (h1 : size ≤ 16384) (hz : ∀ x ∈ l, x.2.size ≤ 140737488351232) :
  ACall Tryz.prog 79 #[v,.int .i64 size] S fun r S'=>(∃ t:Bool,r = .bool t∧(t=true ↔ ERight l size))∧S'=S:=by
 obtain ⟨a,cap,rfl,hl1,hl2,hl3⟩:=id hl
 refine ACall.enter (rs:=[.tmp 4]) 46 [(0,.slice a l.length cap),(1,.int .i64 size)] Tryz.func79 rfl rfl (Nat.le_of_ble_eq_true rfl) rfl ⟨rfl,rfl,trivial⟩ ?_
 iterate 19 refine s1_ ?_
 refine AWP.loop (X:=Nat) (fun x=>[(1,.int .i64 (size-used (l.take x))),(5,.string (lastN l x)),(8,.slice a l.length cap),(9,.int .i64 l.length),(10,.int .i64 x)]) (fun x=>S) (fun x=>x≤l.length∧Upto l size x) (fun x=>l.length-x) (0) ⟨some_int (by simp [used]),rfl,rfl,rfl,rfl,trivial⟩ (Mem.Less.refl _) (⟨Nat.zero_le _,upto_zero l h0⟩) ?_
 rintro i ⟨hi,hup⟩
 (try dsimp only at *)
 iterate 6 refine s1_ ?_
 refine AWP.condB rfl (fun hc=>?_) (fun hc=>?_)
 ·have hc:i<l.length:=by have:=of_decide_eq_true hc;omega
  obtain ⟨b,off,rfl,hk⟩:=hl3.resolve_left (fun e=>by subst e;simp at hc)
  have hki:=hk i hc
  have hzi:=hz _ (List.getElem_mem hc)
  have hus:=hup.us
  have hra:=fun h:ERight l size=>right_at h hc
  have hut:used (l.take (i+1))=used (l.take i)+sec l[i]:=by rw [take_get hc,used_append];simp [used]
  have hln:=lastN_succ hc
  have hsu:=upto_succ hup hc
  generalize hx:l[i]=x at *
  unfold extF at hki
  have hsx:sec x≤140737488351232:=by unfold sec;omega
  by_cases q1:nm x.1
  ·by_cases q2:lt (lastN l i) x.1=true
   ·have q2':=leq_no q2
    by_cases q3:x.2.size=0
    ·iterate 8 refine s1_ ?_
     refine ARun.alloc (lit_lt rfl) ty_zero_130 ?_
     intro b7 f7
     have g7:=f7
     repeat ((with_reducible replace g7:=fresh_set g7);obtain ⟨g7,_⟩:=g7)
     refine nl_ ?_
     iterate 3 refine s1_ ?_
     refine su_ [(1,_),(5,_),(8,_),(9,_),(10,_),(11,_),(7,_)] ?_
     iterate 5 refine s1_ ?_
     refine ARun.build1s (lit_lt rfl) ty_sl_153 rfl rfl ?_
     intro b16 f16
     have g16:=f16
     repeat ((with_reducible replace g16:=fresh_set g16);obtain ⟨g16,_⟩:=g16)
     refine ca_ rfl (disk_named _ [x.1] _ (sl_str1 own_)) ?_
     rintro _ S1 ⟨⟨t,rfl,ht⟩,h1⟩
     rw [h1];clear h1 S1
     obtain rfl:t=true:=ht.2 (one_all.2 q1)
     iterate 5 refine s1_ ?_
     first|refine k_q 19 ?_|refine rG 19 (Calm.bin rfl rfl (bin_bool (bin_str_leq _ _) q2')) ?_
     iterate 4 refine s1_ ?_
     first|refine k_q 25 ?_|refine rG 25 (Calm.bin rfl rfl (bin_bool (bin_str_eql _ _) (decide_eq_true ((size0 _).2 q3)))) ?_
     iterate 10 refine s1_ ?_
     refine su_ [(1,_),(5,_),(8,_),(9,_),(10,_),(11,_),(7,_),(36,_)] ?_
     refine cT_ ?_
     iterate 12 refine s1_ ?_
     refine ⟨_,S,⟨_,_,rfl,rfl,rfl⟩,less_,?_⟩
     exact ⟨⟨false,rfl,by simp;exact fun h=>(hra h).1.2.1 q3⟩,rfl⟩
    ·by_cases q4:x.2.size % 64=0
     ·iterate 8 refine s1_ ?_
      refine ARun.alloc (lit_lt rfl) ty_zero_130 ?_
      intro b7 f7
      have g7:=f7
      repeat ((with_reducible replace g7:=fresh_set g7);obtain ⟨g7,_⟩:=g7)
      refine nl_ ?_
      iterate 3 refine s1_ ?_
      refine su_ [(1,_),(5,_),(8,_),(9,_),(10,_),(11,_),(7,_)] ?_
      iterate 5 refine s1_ ?_
      refine ARun.build1s (lit_lt rfl) ty_sl_153 rfl rfl ?_
      intro b16 f16
      have g16:=f16
      repeat ((with_reducible replace g16:=fresh_set g16);obtain ⟨g16,_⟩:=g16)
      refine ca_ rfl (disk_named _ [x.1] _ (sl_str1 own_)) ?_
      rintro _ S1 ⟨⟨t,rfl,ht⟩,h1⟩
      rw [h1];clear h1 S1
      obtain rfl:t=true:=ht.2 (one_all.2 q1)
      iterate 5 refine s1_ ?_
      first|refine k_q 19 ?_|refine rG 19 (Calm.bin rfl rfl (bin_bool (bin_str_leq _ _) q2')) ?_
      iterate 4 refine s1_ ?_
      first|refine k_q 25 ?_|refine rG 25 (Calm.bin rfl rfl (bin_bool (bin_str_eql _ _) (decide_eq_false (fun e=>q3 ((size0 _).1 e))))) ?_
      iterate 10 refine s1_ ?_
      refine su_ [(1,_),(5,_),(8,_),(9,_),(10,_),(11,_),(7,_),(36,_)] ?_
      refine cF_ ?_
      iterate 7 refine s1_ ?_
      refine ca_ rfl (disk_sectors x _ (by omega)) ?_
      rintro _ S1 ⟨rfl,h1⟩
      rw [h1];clear h1 S1
      iterate 4 refine s1_ ?_
      refine su_ [(1,_),(5,_),(8,_),(9,_),(10,_),(11,_),(7,_),(36,_)] ?_
      iterate 6 refine s1_ ?_
      refine su_ [(1,_),(5,_),(8,_),(9,_),(10,_),(11,_),(7,_),(36,_),(42,_)] ?_
      refine AWP.condB rfl (fun q5=>?_) (fun q5=>?_)
      ·iterate 12 refine s1_ ?_
       refine ⟨_,S,⟨_,_,rfl,rfl,rfl⟩,less_,?_⟩
       exact ⟨⟨false,rfl,by simp;exact fun h=>absurd (hra h).2.2 (by have:=of_decide_eq_true q5;omega)⟩,rfl⟩
      ·have q5:=of_decide_eq_false q5
       iterate 9 refine s1_ ?_
       refine su_ [(1,_),(5,_),(8,_),(9,_),(10,_),(11,_),(7,_),(36,_),(42,_)] ?_
       iterate 5 refine s1_ ?_
       refine ⟨i+1,?_,?_,?_,?_⟩
       all_goals (try dsimp only)
       ·exact ⟨some_int (by rw [hut];omega),some_str hln.symm,rfl,rfl,rfl,trivial⟩
       ·exact less_
       ·exact ⟨hc,hsu ⟨q1,q3,q4⟩ q2 (by omega)⟩
       ·omega
     ·iterate 8 refine s1_ ?_
      refine ARun.alloc (lit_lt rfl) ty_zero_130 ?_
      intro b7 f7
      have g7:=f7
      repeat ((with_reducible replace g7:=fresh_set g7);obtain ⟨g7,_⟩:=g7)
      refine nl_ ?_
      iterate 3 refine s1_ ?_
      refine su_ [(1,_),(5,_),(8,_),(9,_),(10,_),(11,_),(7,_)] ?_
      iterate 5 refine s1_ ?_
      refine ARun.build1s (lit_lt rfl) ty_sl_153 rfl rfl ?_
      intro b16 f16
      have g16:=f16
      repeat ((with_reducible replace g16:=fresh_set g16);obtain ⟨g16,_⟩:=g16)
      refine ca_ rfl (disk_named _ [x.1] _ (sl_str1 own_)) ?_
      rintro _ S1 ⟨⟨t,rfl,ht⟩,h1⟩
      rw [h1];clear h1 S1
      obtain rfl:t=true:=ht.2 (one_all.2 q1)
      iterate 5 refine s1_ ?_
      first|refine k_q 19 ?_|refine rG 19 (Calm.bin rfl rfl (bin_bool (bin_str_leq _ _) q2')) ?_
      iterate 4 refine s1_ ?_
      first|refine k_q 25 ?_|refine rG 25 (Calm.bin rfl rfl (bin_bool (bin_str_eql _ _) (decide_eq_false (fun e=>q3 ((size0 _).1 e))))) ?_
      iterate 10 refine s1_ ?_
      refine su_ [(1,_),(5,_),(8,_),(9,_),(10,_),(11,_),(7,_),(36,_)] ?_
      refine cT_ ?_
      iterate 12 refine s1_ ?_
      refine ⟨_,S,⟨_,_,rfl,rfl,rfl⟩,less_,?_⟩
      exact ⟨⟨false,rfl,by simp;exact fun h=>q4 (hra h).1.2.2⟩,rfl⟩
   ·have q2':=leq_yes (Bool.eq_false_iff.2 q2)
    iterate 8 refine s1_ ?_
    refine ARun.alloc (lit_lt rfl) ty_zero_130 ?_
    intro b7 f7
    have g7:=f7
    repeat ((with_reducible replace g7:=fresh_set g7);obtain ⟨g7,_⟩:=g7)
    refine nl_ ?_
    iterate 3 refine s1_ ?_
    refine su_ [(1,_),(5,_),(8,_),(9,_),(10,_),(11,_),(7,_)] ?_
    iterate 5 refine s1_ ?_
    refine ARun.build1s (lit_lt rfl) ty_sl_153 rfl rfl ?_
    intro b16 f16
    have g16:=f16
    repeat ((with_reducible replace g16:=fresh_set g16);obtain ⟨g16,_⟩:=g16)
    refine ca_ rfl (disk_named _ [x.1] _ (sl_str1 own_)) ?_
    rintro _ S1 ⟨⟨t,rfl,ht⟩,h1⟩
    rw [h1];clear h1 S1
    obtain rfl:t=true:=ht.2 (one_all.2 q1)
    iterate 5 refine s1_ ?_
    first|refine k_q 19 ?_|refine rG 19 (Calm.bin rfl rfl (bin_bool (bin_str_leq _ _) q2')) ?_
    iterate 15 refine s1_ ?_
    refine su_ [(1,_),(5,_),(8,_),(9,_),(10,_),(11,_),(7,_),(36,_)] ?_
    refine cT_ ?_
    iterate 12 refine s1_ ?_
    refine ⟨_,S,⟨_,_,rfl,rfl,rfl⟩,less_,?_⟩
    exact ⟨⟨false,rfl,by simp;exact fun h=>q2 (hra h).2.1⟩,rfl⟩
  ·iterate 8 refine s1_ ?_
   refine ARun.alloc (lit_lt rfl) ty_zero_130 ?_
   intro b7 f7
   have g7:=f7
   repeat ((with_reducible replace g7:=fresh_set g7);obtain ⟨g7,_⟩:=g7)
   refine nl_ ?_
   iterate 3 refine s1_ ?_
   refine su_ [(1,_),(5,_),(8,_),(9,_),(10,_),(11,_),(7,_)] ?_
   iterate 5 refine s1_ ?_
   refine ARun.build1s (lit_lt rfl) ty_sl_153 rfl rfl ?_
   intro b16 f16
   have g16:=f16
   repeat ((with_reducible replace g16:=fresh_set g16);obtain ⟨g16,_⟩:=g16)
   refine ca_ rfl (disk_named _ [x.1] _ (sl_str1 own_)) ?_
   rintro _ S1 ⟨⟨t,rfl,ht⟩,h1⟩
   rw [h1];clear h1 S1
   obtain rfl:t=false:=Bool.eq_false_iff.2 (fun e=>q1 (one_all.1 (ht.1 e)))
   iterate 21 refine s1_ ?_
   refine su_ [(1,_),(5,_),(8,_),(9,_),(10,_),(11,_),(7,_),(36,_)] ?_
   refine cT_ ?_
   iterate 12 refine s1_ ?_
   refine ⟨_,S,⟨_,_,rfl,rfl,rfl⟩,less_,?_⟩
   exact ⟨⟨false,rfl,by simp;exact fun h=>q1 (hra h).1.1⟩,rfl⟩
 ·have hc:i=l.length:=by have:=of_decide_eq_false hc;omega
  subst hc
  iterate 11 refine s1_ ?_
  refine ⟨_,S,⟨_,_,rfl,rfl,rfl⟩,less_,?_⟩
  exact ⟨⟨true,rfl,by simp;exact upto_all hup⟩,rfl⟩
end Go.Proofs.YthbadpcmdlfmdaaGreatDoor
namespace Go.Proofs.YthbadpcmdlfmdaaGreatDoor
open Go.RowKit
open Mv Disk
set_option maxRecDepth 4000
theorem wok_pos {l : List Ext} (ha : Asc l) {w : Wr} {p : Nat} (hp : p < l.length) (e : l[p].1 = w.1) : wok l w ↔ 0 ≤ w.2.1 ∧ w.2.1 < sec l[p] ∧ w.2.2.size = 64 := by
 constructor
 ·rintro ⟨x,hx,e2,h⟩
  have:x=l[p]:=asc_inj ha hx (List.getElem_mem hp) (e2.trans e.symm)
  subst this;exact h
 ·intro h
  exact ⟨l[p],List.getElem_mem hp,e,h⟩
theorem wok_has {l : List Ext} {w : Wr} (h : wok l w) : has l w.1 = true := by
 obtain ⟨x,hx,e,_⟩:=h
 exact has_iff.2 ⟨x,hx,e⟩
/-- A disk over memory. -/
def DkR (S : Mem) (v : Value) (d : D) : Prop := ∃ pe ce pw cw, v = .agg #[.int .i64 d.size, .slice pe d.ext.length ce, .slice pw d.waits.length cw, .int .i64 d.fuse, .bool d.down] ∧ Sl 2 extF S (.slice pe d.ext.length ce) d.ext ∧ Sl 3 wrF S (.slice pw d.waits.length cw) d.waits
theorem DkR.less {S S' : Mem} {v : Value} {d : D} (h : DkR S v d) (hl : S.Less S') : DkR S' v d := by
 obtain ⟨pe,ce,pw,cw,e,h1,h2⟩:=h
 exact ⟨pe,ce,pw,cw,e,h1.less hl,h2.less hl⟩
/-- Bounds of what comes in. -/
structure Dz (d : D) : Prop where
  s0 : -9223372036854775808 ≤ d.size
  s1 : d.size ≤ 9223372036854775807
  f0 : -9223372036854775808 ≤ d.fuse
  f1 : d.fuse ≤ 9223372036854775807
  el : d.ext.length ≤ 4398046511104
  wl : d.waits.length ≤ 3518437208883
  ez : ∀ x ∈ d.ext, x.1.size ≤ 140737488351232 ∧ x.2.size ≤ 140737488351232
  wz : ∀ w ∈ d.waits, w.1.size ≤ 140737488351232 ∧ -9223372036854775808 ≤ w.2.1 ∧ w.2.1 ≤ 9223372036854775807 ∧ w.2.2.size ≤ 140737488351232
set_option maxHeartbeats 2000000 in
theorem disk_Check (v : Value) (d : D) (S : Mem) (hd : DkR S v d) (hz : Dz d) :
  ACall Tryz.prog 59 #[v] S fun r S'=>r = .int .i64 (chkD d)∧S'=S:=by
 obtain ⟨pe,ce,pw,cw,rfl,hE,hW⟩:=hd
 obtain ⟨size,ext,waits,fuse,down⟩:=d
 have hez:=fun x hx=>(hz.ez x hx).2
 have hs0:=hz.s0;have hs1:=hz.s1;have hf0:=hz.f0;have hf1:=hz.f1
 simp only at hE hW hez hs0 hs1 hf0 hf1 ⊢
 obtain ⟨_,_,ee1,ee2,ee3,hE3⟩:=id hE
 obtain ⟨_,_,ew1,ew2,ew3,hW3⟩:=id hW
 cases ee1;cases ew1
 refine ACall.enter (rs:=[.tmp 2]) 74 [(0,.agg #[.int .i64 size,.slice pe ext.length ce,.slice pw waits.length cw,.int .i64 fuse,.bool down])] Tryz.func59 rfl rfl (Nat.le_of_ble_eq_true rfl) rfl ⟨rfl,trivial⟩ ?_
 iterate 2 refine s1_ ?_
 refine k_b5 rfl ?_
 intro b1 f1
 have g1:=f1
 repeat ((with_reducible replace g1:=fresh_set g1);obtain ⟨g1,_⟩:=g1)
 refine nl_ ?_
 iterate 3 refine s1_ ?_
 refine named (S:=S) (b:=b1) g1.1 ?_
 intro T1 hT1 kb1
 replace hE:=hE.less hT1
 replace hW:=hW.less hT1
 by_cases q1:size<0
 ·iterate 32 refine s1_ ?_
  refine su_ [(0,_),(1,_),(2,_),(33,_)] ?_
  refine cT_ ?_
  iterate 7 refine s1_ ?_
  refine ⟨_,S,⟨_,_,rfl,rfl,rfl⟩,hT1.trans less_,?_⟩
  exact ⟨by rw [chkD_no (fun h=>absurd h.s0 (by simp only;omega))];rfl,rfl⟩
 ·by_cases q2:16384<size
  ·iterate 32 refine s1_ ?_
   refine su_ [(0,_),(1,_),(2,_),(33,_)] ?_
   refine cT_ ?_
   iterate 7 refine s1_ ?_
   refine ⟨_,S,⟨_,_,rfl,rfl,rfl⟩,hT1.trans less_,?_⟩
   exact ⟨by rw [chkD_no (fun h=>absurd h.s1 (by simp only;omega))];rfl,rfl⟩
  ·by_cases q3:16384<waits.length
   ·iterate 32 refine s1_ ?_
    refine su_ [(0,_),(1,_),(2,_),(33,_)] ?_
    refine cT_ ?_
    iterate 7 refine s1_ ?_
    refine ⟨_,S,⟨_,_,rfl,rfl,rfl⟩,hT1.trans less_,?_⟩
    exact ⟨by rw [chkD_no (fun h=>absurd h.wl (by simp only;omega))];rfl,rfl⟩
   ·by_cases q4:fuse < -1
    ·iterate 32 refine s1_ ?_
     refine su_ [(0,_),(1,_),(2,_),(33,_)] ?_
     refine cT_ ?_
     iterate 7 refine s1_ ?_
     refine ⟨_,S,⟨_,_,rfl,rfl,rfl⟩,hT1.trans less_,?_⟩
     exact ⟨by rw [chkD_no (fun h=>absurd h.fu (by simp only;omega))];rfl,rfl⟩
    ·iterate 27 refine s1_ ?_
     refine ARun.callG 19 false 26 rfl (lit_lt rfl) rfl (lit_lt rfl) go_79 rfl (disk_extents _ ext size _ hE (by omega) (by omega) hez) ?_
     rintro _ S1 ⟨⟨t,rfl,ht⟩,h1⟩
     rw [h1];clear h1 S1
     iterate 4 refine s1_ ?_
     refine su_ [(0,_),(1,_),(2,_),(33,_)] ?_
     by_cases q5:ERight ext size
     ·obtain rfl:t=true:=ht.2 q5
      refine cF_ ?_
      have hul:=used_ge q5.ok
      have hus:=q5.us
      iterate 11 refine s1_ ?_
      refine su_ [(0,_),(1,_),(2,_),(33,_),(35,_),(36,_),(37,_)] ?_
      refine s1_ ?_
      refine AWP.loop (X:=Nat) (fun x=>[(1,.pointer (some ⟨b1,0,none⟩)),(35,.slice pw waits.length cw),(36,.int .i64 waits.length),(37,.int .i64 x)]) (fun x=>T1) (fun x=>x≤waits.length ∧ ∀ j (h:j<waits.length),j<x→wok ext waits[j]) (fun x=>waits.length-x) (0) ⟨rfl,rfl,rfl,rfl,trivial⟩ (Mem.Less.refl _) (⟨Nat.zero_le _,fun j _ h=>absurd h (Nat.not_lt_zero _)⟩) ?_
      rintro i ⟨hi,hall⟩
      (try dsimp only at *)
      iterate 6 refine s1_ ?_
      refine AWP.condB rfl (fun hc=>?_) (fun hc=>?_)
      ·have hc:i<waits.length:=by have:=of_decide_eq_true hc;omega
       obtain ⟨b,off,rfl,hk⟩:=hW3.resolve_left (fun e=>by subst e;simp at hc)
       have hki:=(hk i hc).less hT1
       have hwz:=hz.wz _ (List.getElem_mem hc)
       have hwn : ¬ wok ext waits[i] → ¬ Right ⟨size,ext,waits,fuse,down⟩:=fun h h'=>h (h'.wr _ (List.getElem_mem hc))
       have hall':wok ext waits[i] → ∀ j (h:j<waits.length),j<i+1→wok ext waits[j]:=fun hw j h hj=>by rcases Nat.lt_or_ge j i with h' | h';exact hall j h h';obtain rfl:j=i:=(by omega);exact hw
       have hhp:=has_pos q5.asc waits[i].1
       have hwh:=wok_has (l:=ext) (w:=waits[i])
       have hwp:=fun (p:Nat) (hp:p<ext.length) (e:ext[p].1=(waits[i]'hc).1)=>wok_pos q5.asc hp e
       generalize waits[i]=w at *
       unfold wrF at hki
       iterate 8 refine s1_ ?_
       refine ARun.alloc (lit_lt rfl) ty_zero_134 ?_
       intro b4 f4
       have g4:=f4
       repeat ((with_reducible replace g4:=fresh_set g4);obtain ⟨g4,_⟩:=g4)
       have:=g4.ne kb1;have:=g4.ne' kb1
       refine nl_ ?_
       iterate 3 refine s1_ ?_
       refine su_ [(1,_),(35,_),(36,_),(37,_),(38,_),(4,_)] ?_
       iterate 6 refine s1_ ?_
       refine ca_ rfl (disk_find _ ext w.1 _ (hE.less less_) q5.asc (by omega)) ?_
       rintro _ S1 ⟨rfl,h1⟩
       rw [h1];clear h1 S1
       iterate 7 refine s1_ ?_
       refine su_ [(1,_),(35,_),(36,_),(37,_),(38,_),(4,_),(5,_),(6,_)] ?_
       by_cases q6:has ext w.1=true
       ·obtain ⟨hp,hpe⟩:=hhp.1 q6
        obtain ⟨be,oe,hpe2,hke⟩:=hE3.resolve_left (fun e=>by subst e;simp at hp)
        subst hpe2
        have hkp:=(hke _ hp).less hT1
        have hsz:=hez _ (List.getElem_mem hp)
        replace hwp:=hwp _ hp hpe
        rw [q6]
        generalize hpp:pos ext w.1=p at *
        generalize hxx:ext[p]=x at *
        unfold extF at hkp
        have hsx:sec x≤140737488351232:=by unfold sec;omega
        by_cases q7:w.2.1<0
        ·refine s1_ ?_
         refine AWP.draw [(0,true),(1,true),(2,true),(3,true),(4,true),(5,true),(6,true),(7,true),(8,true),(9,true),(10,true),(11,true),(12,true),(13,true),(14,true),(15,false),(16,true),(17,true),(18,true),(19,true),(20,true),(21,true),(22,true),(23,true)] [] mixed (by kernel_rfl) ?_
         iterate 15 refine s1_ ?_
         refine draw_only rfl ?_
         refine s1_ ?_
         refine arun_nil ⟨fun _=>less_,?_⟩
         iterate 10 refine s1_ ?_
         refine su_ [(1,_),(35,_),(36,_),(37,_),(38,_),(4,_),(5,_),(6,_),(72,_)] ?_
         refine cT_ ?_
         iterate 11 refine s1_ ?_
         refine ⟨_,S,⟨_,_,rfl,rfl,rfl⟩,hT1.trans less_,?_⟩
         exact ⟨by rw [chkD_no (hwn (fun h=>absurd (hwp.1 h).1 (by omega)))];rfl,rfl⟩
        ·by_cases q8:(sec x:Int)≤w.2.1
         ·refine s1_ ?_
          refine AWP.draw [(0,true),(1,true),(2,true),(3,true),(4,true),(5,true),(6,true),(7,true),(8,true),(9,true),(10,true),(11,true),(12,true),(13,true),(14,true),(15,false),(16,true),(17,true),(18,true),(19,true),(20,true),(21,true),(22,true),(23,true)] [] mixed (by kernel_rfl) ?_
          iterate 15 refine s1_ ?_
          refine draw_only rfl ?_
          refine ARun.callG 7 false 56 rfl (lit_lt rfl) rfl (lit_lt rfl) go_80 rfl (disk_sectors x _ (by omega)) ?_
          rintro _ S1 ⟨rfl,h1⟩
          rw [h1];clear h1 S1
          refine arun_nil ⟨fun _=>less_,?_⟩
          iterate 10 refine s1_ ?_
          refine su_ [(1,_),(35,_),(36,_),(37,_),(38,_),(4,_),(5,_),(6,_),(72,_)] ?_
          refine cT_ ?_
          iterate 11 refine s1_ ?_
          refine ⟨_,S,⟨_,_,rfl,rfl,rfl⟩,hT1.trans less_,?_⟩
          exact ⟨by rw [chkD_no (hwn (fun h=>absurd (hwp.1 h).2.1 (by omega)))];rfl,rfl⟩
         ·by_cases q9:w.2.2.size=64
          ·refine s1_ ?_
           refine AWP.draw [(0,true),(1,true),(2,true),(3,true),(4,true),(5,true),(6,true),(7,true),(8,true),(9,true),(10,true),(11,true),(12,true),(13,true),(14,true),(15,false),(16,true),(17,true),(18,true),(19,true),(20,true),(21,true),(22,true),(23,true)] [] mixed (by kernel_rfl) ?_
           iterate 15 refine s1_ ?_
           refine draw_only rfl ?_
           refine ARun.callG 7 false 56 rfl (lit_lt rfl) rfl (lit_lt rfl) go_80 rfl (disk_sectors x _ (by omega)) ?_
           rintro _ S1 ⟨rfl,h1⟩
           rw [h1];clear h1 S1
           refine arun_nil ⟨fun _=>less_,?_⟩
           iterate 10 refine s1_ ?_
           refine su_ [(1,_),(35,_),(36,_),(37,_),(38,_),(4,_),(5,_),(6,_),(72,_)] ?_
           refine cF_ ?_
           iterate 8 refine s1_ ?_
           refine ⟨i+1,?_,?_,?_,?_⟩
           all_goals (try dsimp only)
           ·exact ⟨rfl,rfl,rfl,rfl,trivial⟩
           ·exact less_
           ·exact ⟨hc,hall' (hwp.2 ⟨by omega,by omega,q9⟩)⟩
           ·omega
          ·refine s1_ ?_
           refine AWP.draw [(0,true),(1,true),(2,true),(3,true),(4,true),(5,true),(6,true),(7,true),(8,true),(9,true),(10,true),(11,true),(12,true),(13,true),(14,true),(15,false),(16,true),(17,true),(18,true),(19,true),(20,true),(21,true),(22,true),(23,true)] [] mixed (by kernel_rfl) ?_
           iterate 15 refine s1_ ?_
           refine draw_only rfl ?_
           refine ARun.callG 7 false 56 rfl (lit_lt rfl) rfl (lit_lt rfl) go_80 rfl (disk_sectors x _ (by omega)) ?_
           rintro _ S1 ⟨rfl,h1⟩
           rw [h1];clear h1 S1
           refine arun_nil ⟨fun _=>less_,?_⟩
           iterate 10 refine s1_ ?_
           refine su_ [(1,_),(35,_),(36,_),(37,_),(38,_),(4,_),(5,_),(6,_),(72,_)] ?_
           refine cT_ ?_
           iterate 11 refine s1_ ?_
           refine ⟨_,S,⟨_,_,rfl,rfl,rfl⟩,hT1.trans less_,?_⟩
           exact ⟨by rw [chkD_no (hwn (fun h=>q9 (hwp.1 h).2.2))];rfl,rfl⟩
       ·rw [Bool.eq_false_iff.2 q6]
        refine s1_ ?_
        refine AWP.draw [(0,true),(1,true),(2,true),(3,true),(4,true),(5,true),(6,true),(7,true),(8,true),(9,true),(10,true),(11,true),(12,true),(13,true),(14,true),(15,false),(16,true),(17,true),(18,true),(19,true),(20,true),(21,true),(22,true),(23,true)] [] mixed (by kernel_rfl) ?_
        iterate 15 refine s1_ ?_
        refine draw_only rfl ?_
        refine s1_ ?_
        refine arun_nil ⟨fun _=>less_,?_⟩
        iterate 10 refine s1_ ?_
        refine su_ [(1,_),(35,_),(36,_),(37,_),(38,_),(4,_),(5,_),(6,_),(72,_)] ?_
        refine cT_ ?_
        iterate 11 refine s1_ ?_
        refine ⟨_,S,⟨_,_,rfl,rfl,rfl⟩,hT1.trans less_,?_⟩
        exact ⟨by rw [chkD_no (hwn (fun h=>q6 (hwh h)))];rfl,rfl⟩
      ·have hc:i=waits.length:=by have:=of_decide_eq_false hc;omega
       iterate 11 refine s1_ ?_
       refine ⟨_,S,⟨_,_,rfl,rfl,rfl⟩,hT1.trans less_,?_⟩
       exact ⟨by rw [chkD_yes ⟨by simp only;omega,by simp only;omega,by simp only;omega,by simp only;omega,q5,fun w hw=>by obtain ⟨j,hj,rfl⟩:=List.getElem_of_mem hw;exact hall j hj (by have h':j<waits.length:=hj;omega)⟩];rfl,rfl⟩
     ·obtain rfl:t=false:=Bool.eq_false_iff.2 (fun e=>q5 (ht.1 e))
      refine cT_ ?_
      iterate 7 refine s1_ ?_
      refine ⟨_,S,⟨_,_,rfl,rfl,rfl⟩,hT1.trans less_,?_⟩
      exact ⟨by rw [chkD_no (fun h=>q5 h.ex)];rfl,rfl⟩
end Go.Proofs.YthbadpcmdlfmdaaGreatDoor
namespace Go.Proofs.YthbadpcmdlfmdaaGreatDoor
open Go.RowKit
open Mv Disk
set_option maxRecDepth 4000
theorem ext_len (x : Ext) : (extF x).length = 2 := rfl
theorem wr_len (x : Wr) : (wrF x).length = 3 := rfl
theorem ext_one (l : List Ext) : ∀ v ∈ l.flatMap extF, v.oneCell' = true := fun v hv => by
 obtain ⟨x,_,hx⟩:=List.mem_flatMap.1 hv
 simp only [extF,List.mem_cons,List.not_mem_nil,or_false] at hx
 rcases hx with rfl | rfl <;> rfl
theorem wr_one (l : List Wr) : ∀ v ∈ l.flatMap wrF, v.oneCell' = true := fun v hv => by
 obtain ⟨x,_,hx⟩:=List.mem_flatMap.1 hv
 simp only [wrF,List.mem_cons,List.not_mem_nil,or_false] at hx
 rcases hx with rfl | rfl | rfl <;> rfl
abbrev extT : TypeId := 130
abbrev wrT : TypeId := 134
theorem disk_CloneE (v : Value) (l : List Ext) (S : Mem) (hl : Sl 2 extF S v l) (hz : l.length ≤ 4398046511104) :
  ACall Tryz.prog 81 #[v] S (OwnR 2 extF extT l S):=by
 obtain ⟨a,cap,rfl,h1,h2,h3⟩:=id hl
 refine ACall.enter (rs:=[.tmp 2]) 8 [(0,.slice a l.length cap)] Tryz.func81 rfl rfl (Nat.le_of_ble_eq_true rfl) rfl ⟨rfl,trivial⟩ ?_
 cases a
 ·iterate 12 refine s1_ ?_
  refine su_ [(0,_),(2,_),(4,_)] ?_
  refine cT_ ?_
  obtain rfl:l = []:=h3.resolve_right (fun ⟨b,off,e,_⟩=>by cases e)
  iterate 7 refine s1_ ?_
  refine ⟨_,S,⟨_,_,rfl,rfl,rfl⟩,less_,?_⟩
  exact ⟨none,okO_nil S,rfl,rfl⟩
 ·iterate 12 refine s1_ ?_
  refine su_ [(0,_),(2,_),(4,_)] ?_
  refine cF_ ?_
  iterate 4 refine s1_ ?_
  refine ARun.build0 (lit_lt rfl) ty_sl_25 ?_
  intro b5 f5
  have g5:=f5
  repeat ((with_reducible replace g5:=fresh_set g5);obtain ⟨g5,_⟩:=g5)
  refine s1_ ?_
  refine ARun.appendOK (n:=2) (o:=some (b5,0)) (k:=0) (m:=l.length) (cs:=[]) (lit_lt rfl) ty_sl_25 rfl rfl rfl (okO_own f5 (Nat.le_refl _)) (appN_self (okO_own f5 (Nat.le_refl 0)) rfl) rfl ((hl.less less_).src ext_len) (flat_length ext_len l) (ext_one l) (by omega) (by omega) ?_
  intro o ho
  rw [Nat.zero_add] at ho ⊢
  iterate 3 refine s1_ ?_
  refine su_ [(0,_),(2,_),(4,_)] ?_
  refine s1_ ?_
  refine ⟨_,_,⟨_,_,rfl,rfl,rfl⟩,Mem.Less.refl _,?_⟩
  exact ⟨o,ho,rfl,rfl⟩
theorem disk_CloneW (v : Value) (l : List Wr) (S : Mem) (hl : Sl 3 wrF S v l) (hz : l.length ≤ 3518437208883) :
  ACall Tryz.prog 82 #[v] S (OwnR 3 wrF wrT l S):=by
 obtain ⟨a,cap,rfl,h1,h2,h3⟩:=id hl
 refine ACall.enter (rs:=[.tmp 2]) 8 [(0,.slice a l.length cap)] Tryz.func82 rfl rfl (Nat.le_of_ble_eq_true rfl) rfl ⟨rfl,trivial⟩ ?_
 cases a
 ·iterate 12 refine s1_ ?_
  refine su_ [(0,_),(2,_),(4,_)] ?_
  refine cT_ ?_
  obtain rfl:l = []:=h3.resolve_right (fun ⟨b,off,e,_⟩=>by cases e)
  iterate 7 refine s1_ ?_
  refine ⟨_,S,⟨_,_,rfl,rfl,rfl⟩,less_,?_⟩
  exact ⟨none,okO_nil S,rfl,rfl⟩
 ·iterate 12 refine s1_ ?_
  refine su_ [(0,_),(2,_),(4,_)] ?_
  refine cF_ ?_
  iterate 4 refine s1_ ?_
  refine ARun.build0 (lit_lt rfl) ty_sl_26 ?_
  intro b5 f5
  have g5:=f5
  repeat ((with_reducible replace g5:=fresh_set g5);obtain ⟨g5,_⟩:=g5)
  refine s1_ ?_
  refine ARun.appendOK (n:=3) (o:=some (b5,0)) (k:=0) (m:=l.length) (cs:=[]) (lit_lt rfl) ty_sl_26 rfl rfl rfl (okO_own f5 (Nat.le_refl _)) (appN_self (okO_own f5 (Nat.le_refl 0)) rfl) rfl ((hl.less less_).src wr_len) (flat_length wr_len l) (wr_one l) (by omega) (by omega) ?_
  intro o ho
  rw [Nat.zero_add] at ho ⊢
  iterate 3 refine s1_ ?_
  refine su_ [(0,_),(2,_),(4,_)] ?_
  refine s1_ ?_
  refine ⟨_,_,⟨_,_,rfl,rfl,rfl⟩,Mem.Less.refl _,?_⟩
  exact ⟨o,ho,rfl,rfl⟩
theorem outV_eq {S : Mem} {o : Option (Nat × Nat)} {n : Nat} (h : OkO S o n) : ∃ a c, outV o n = .slice a n c := by
 cases o with
 | none=>rw [h.nil rfl];exact ⟨none,0,rfl⟩
 | some q=>exact ⟨_,q.2,rfl⟩
/-- A disk whose slices are its own. -/
def dkV (d : D) (oE oW : Option (Nat × Nat)) : Value := .agg #[.int .i64 d.size, outV oE d.ext.length, outV oW d.waits.length, .int .i64 d.fuse, .bool d.down]
def dkM (S : Mem) (d : D) (oE oW : Option (Nat × Nat)) : Mem := outN 3 (outN 2 S oE extT (d.ext.flatMap extF)) oW wrT (d.waits.flatMap wrF)
structure OkD (S : Mem) (d : D) (oE oW : Option (Nat × Nat)) : Prop where
  e : OkO S oE d.ext.length
  w : OkO (outN 2 S oE extT (d.ext.flatMap extF)) oW d.waits.length
theorem OkD.less {S : Mem} {d : D} {oE oW : Option (Nat × Nat)} (h : OkD S d oE oW) : S.Less (dkM S d oE oW) := (outN_over h.e).trans (outN_over h.w)
theorem OkD.dk {S : Mem} {d : D} {oE oW : Option (Nat × Nat)} (h : OkD S d oE oW) (he : d.ext.length ≤ 9223372036854775807) (hw : d.waits.length ≤ 9223372036854775807) : DkR (dkM S d oE oW) (dkV d oE oW) d := by
 have h1:=sl_outN ext_len (e:=extT) h.e rfl he
 have h2:=sl_outN wr_len (e:=wrT) h.w rfl hw
 obtain ⟨a,c,e⟩:=outV_eq h.e
 obtain ⟨a',c',e'⟩:=outV_eq h.w
 rw [e] at h1;rw [e'] at h2
 exact ⟨a,c,a',c',by unfold dkV;rw [e,e'],h1.less (outN_over h.w),h2⟩
set_option maxHeartbeats 1000000 in
theorem disk_Own (v : Value) (d : D) (S : Mem) (hd : DkR S v d) (hz1 : d.ext.length ≤ 4398046511104) (hz2 : d.waits.length ≤ 3518437208883) :
  ACall Tryz.prog 60 #[v] S fun r S'=>∃ oE oW,OkD S d oE oW∧r=dkV d oE oW∧S'=dkM S d oE oW:=by
 obtain ⟨pe,ce,pw,cw,rfl,hE,hW⟩:=hd
 refine ACall.enter (rs:=[.cell 2 28]) 12 [(0,.agg #[.int .i64 d.size,.slice pe d.ext.length ce,.slice pw d.waits.length cw,.int .i64 d.fuse,.bool d.down])] Tryz.func60 rfl rfl (Nat.le_of_ble_eq_true rfl) rfl ⟨rfl,trivial⟩ ?_
 iterate 2 refine s1_ ?_
 refine k_b5 rfl ?_
 intro b1 f1
 have g1:=f1
 repeat ((with_reducible replace g1:=fresh_set g1);obtain ⟨g1,_⟩:=g1)
 refine nl_ ?_
 refine ARun.alloc (lit_lt rfl) ty_zero_28 ?_
 intro b2 f2
 have g2:=f2
 repeat ((with_reducible replace g2:=fresh_set g2);obtain ⟨g2,_⟩:=g2)
 refine nl_ ?_
 iterate 3 refine s1_ ?_
 refine AWP.draw [(0,true),(1,true),(3,true),(4,true),(2,false),(6,true),(5,false),(7,false),(8,true),(9,false)] [7,9] mixed (by kernel_rfl) ?_
 iterate 4 refine s1_ ?_
 refine draw_only rfl ?_
 refine ca_ rfl (((disk_CloneE _ d.ext S hE hz1).frame f1).frame f2) ?_
 rintro _ S1 ⟨Sa,⟨M,⟨oE,hoE,rfl,hM⟩,f1',hSa⟩,f2',h1⟩
 rw [h1,hSa];rw [hSa] at f2';clear h1 S1 hSa Sa
 obtain ⟨qe,de,hqe⟩:=outV_eq hoE
 rw [hqe]
 have hSM:S.Less M:=by rw [hM];exact outN_over hoE
 have hWM:Sl 3 wrF M (.slice pw d.waits.length cw) d.waits:=hW.less hSM
 refine arun_nil ⟨fun _=>less_,?_⟩
 refine s1_ ?_
 refine draw_only rfl ?_
 refine ca_ rfl (((disk_CloneW _ d.waits M hWM hz2).frame f1').frame f2') ?_
 rintro _ S1 ⟨Sa,⟨M2,⟨oW,hoW,rfl,hM2⟩,f1'',hSa⟩,f2'',h1⟩
 rw [h1,hSa];rw [hSa] at f2'';clear h1 S1 hSa Sa
 obtain ⟨g2m,_⟩:=fresh_set f2''
 obtain ⟨qw,dw,hqw⟩:=outV_eq hoW
 rw [hqw]
 have hSM2:S.Less M2:=hSM.trans (by rw [hM2];exact outN_over hoW)
 refine arun_nil ⟨fun _=>less_,?_⟩
 refine draw_only rfl ?_
 refine s1_ ?_
 refine arun_nil ⟨fun h=>absurd h (by decide),?_⟩
 refine s1_ ?_
 refine draw_only rfl ?_
 refine s1_ ?_
 refine arun_nil ⟨fun h=>absurd h (by decide),?_⟩
 iterate 2 refine s1_ ?_
 refine su_ [(0,_),(1,_),(2,_)] ?_
 iterate 6 refine s1_ ?_
 refine su_ [(0,_),(1,_),(2,_)] ?_
 refine s1_ ?_
 refine ⟨_,M2,⟨_,_,_,rfl,.inr ⟨ty_agg_28,[_,_,_,_,_],ty_size_28,rds_,rfl⟩,rfl,rfl⟩,less_,?_⟩
 exact ⟨oE,oW,⟨hoE,by rw [← hM];exact hoW⟩,by unfold dkV;rw [hqe,hqw];rfl,by rw [hM2,hM];rfl⟩
/-- A disk that is made or changed, and an error. -/
def DkRes (p : D × Int) (S : Mem) (r : Value) (S' : Mem) : Prop := ∃ v, r = .tuple #[v, .int .i64 p.2] ∧ S.Less S' ∧ DkR S' v p.1
theorem dkR_zero (S : Mem) : DkR S (.agg #[.int .i64 0, .slice none 0 0, .slice none 0 0, .int .i64 0, .bool false]) D0 := ⟨none, 0, none, 0, rfl, Sl.nil _ _ _, Sl.nil _ _ _⟩
def makeD (n : Int) : D × Int := if n < 0 ∨ 16384 < n then (D0, 1) else (⟨n, [], [], -1, false⟩, 0)
theorem disk_Make (n : Int) (S : Mem) : ACall Tryz.prog 6 #[.int .i64 n] S (DkRes (makeD n) S) := by
 unfold makeD
 by_cases h1:n<0
 ·rw [if_pos (.inl h1)]
  refine ACall.enter (rs:=[.cell 2 28,.tmp 3]) 13 [(0,.int .i64 n)] Tryz.func6 rfl rfl (Nat.le_of_ble_eq_true rfl) rfl ⟨rfl,trivial⟩ ?_
  iterate 2 refine s1_ ?_
  refine ARun.alloc (lit_lt rfl) ty_zero_28 ?_
  intro b2 f2
  have g2:=f2
  repeat ((with_reducible replace g2:=fresh_set g2);obtain ⟨g2,_⟩:=g2)
  refine nl_ ?_
  iterate 14 refine s1_ ?_
  refine su_ [(0,_),(2,_),(3,_),(9,_)] ?_
  refine cT_ ?_
  iterate 7 refine s1_ ?_
  refine su_ [(0,_),(2,_),(3,_),(9,_)] ?_
  iterate 2 refine s1_ ?_
  refine ⟨_,S,⟨_,_,_,rfl,.inr ⟨ty_agg_28,[_,_,_,_,_],ty_size_28,rds_,rfl⟩,⟨_,_,rfl,rfl,rfl⟩,rfl⟩,less_,?_⟩
  exact ⟨_,rfl,Mem.Less.refl _,dkR_zero S⟩
 ·by_cases h2:16384<n
  ·rw [if_pos (.inr h2)]
   refine ACall.enter (rs:=[.cell 2 28,.tmp 3]) 13 [(0,.int .i64 n)] Tryz.func6 rfl rfl (Nat.le_of_ble_eq_true rfl) rfl ⟨rfl,trivial⟩ ?_
   iterate 2 refine s1_ ?_
   refine ARun.alloc (lit_lt rfl) ty_zero_28 ?_
   intro b2 f2
   have g2:=f2
   repeat ((with_reducible replace g2:=fresh_set g2);obtain ⟨g2,_⟩:=g2)
   refine nl_ ?_
   iterate 14 refine s1_ ?_
   refine su_ [(0,_),(2,_),(3,_),(9,_)] ?_
   refine cT_ ?_
   iterate 7 refine s1_ ?_
   refine su_ [(0,_),(2,_),(3,_),(9,_)] ?_
   iterate 2 refine s1_ ?_
   refine ⟨_,S,⟨_,_,_,rfl,.inr ⟨ty_agg_28,[_,_,_,_,_],ty_size_28,rds_,rfl⟩,⟨_,_,rfl,rfl,rfl⟩,rfl⟩,less_,?_⟩
   exact ⟨_,rfl,Mem.Less.refl _,dkR_zero S⟩
  ·rw [if_neg (by omega)]
   refine ACall.enter (rs:=[.cell 2 28,.tmp 3]) 13 [(0,.int .i64 n)] Tryz.func6 rfl rfl (Nat.le_of_ble_eq_true rfl) rfl ⟨rfl,trivial⟩ ?_
   iterate 2 refine s1_ ?_
   refine ARun.alloc (lit_lt rfl) ty_zero_28 ?_
   intro b2 f2
   have g2:=f2
   repeat ((with_reducible replace g2:=fresh_set g2);obtain ⟨g2,_⟩:=g2)
   refine nl_ ?_
   iterate 14 refine s1_ ?_
   refine su_ [(0,_),(2,_),(3,_),(9,_)] ?_
   refine cF_ ?_
   iterate 10 refine s1_ ?_
   refine su_ [(0,_),(2,_),(3,_),(9,_)] ?_
   refine s1_ ?_
   refine ⟨_,S,⟨_,_,_,rfl,.inr ⟨ty_agg_28,[_,_,_,_,_],ty_size_28,rds_,rfl⟩,⟨_,_,rfl,rfl,rfl⟩,rfl⟩,less_,?_⟩
   exact ⟨_,rfl,Mem.Less.refl _,none,0,none,0,rfl,Sl.nil _ _ _,Sl.nil _ _ _⟩
/-- A disk at work: its block p, its slices its own. -/
def devM (S : Mem) (p : Nat) (d : D) (oE oW : Option (Nat × Nat)) : Mem := (dkM S d oE oW).set p ⟨95, [.int .i64 d.size, outV oE d.ext.length, outV oW d.waits.length, .int .i64 d.fuse, .bool d.down], 5⟩
structure OkV (S : Mem) (p : Nat) (d : D) (oE oW : Option (Nat × Nat)) : Prop where
  dk : OkD S d oE oW
  fr : Fresh (dkM S d oE oW) p
noncomputable def openD (d : D) : D × Int := if chkD d = 0 then (d, if d.down = true then 10 else 0) else (D0, 2)
/-- A disk at work, and an error. -/
def OpenR (p : D × Int) (S : Mem) (r : Value) (S' : Mem) : Prop := ∃ b oE oW, OkV S b p.1 oE oW ∧ r = .tuple #[.pointer (some ⟨b, 0, none⟩), .int .i64 p.2] ∧ S' = devM S b p.1 oE oW
set_option maxHeartbeats 1000000 in
theorem disk_Open (v : Value) (d : D) (S : Mem) (hd : DkR S v d) (hz : Dz d) :
  ACall Tryz.prog 37 #[v] S (OpenR (openD d) S):=by
 have hcheck:=fun M h=>disk_Check v d M h hz
 have hown:=fun M h=>disk_Own v d M h hz.el hz.wl
 obtain ⟨pe,ce,pw,cw,rfl,hE,hW⟩:=id hd
 unfold openD
 rcases chkD_or d with ⟨hk,hR⟩ | ⟨hk,hR⟩
 ·rw [if_pos hk]
  refine ACall.enter (rs:=[.tmp 2,.tmp 3]) 21 [(0,.agg #[.int .i64 d.size,.slice pe d.ext.length ce,.slice pw d.waits.length cw,.int .i64 d.fuse,.bool d.down])] Tryz.func37 rfl rfl (Nat.le_of_ble_eq_true rfl) rfl ⟨rfl,trivial⟩ ?_
  iterate 2 refine s1_ ?_
  refine k_b5 rfl ?_
  intro b1 f1
  have g1:=f1
  repeat ((with_reducible replace g1:=fresh_set g1);obtain ⟨g1,_⟩:=g1)
  refine nl_ ?_
  iterate 8 refine s1_ ?_
  refine ca_ rfl (hcheck _ (hd.less less_)) ?_
  rintro _ S1 ⟨rfl,h1⟩
  rw [h1,hk];clear h1 S1
  iterate 3 refine s1_ ?_
  refine su_ [(0,_),(1,_),(2,_),(3,_),(4,_)] ?_
  iterate 6 refine s1_ ?_
  refine su_ [(0,_),(1,_),(2,_),(3,_),(4,_),(9,_)] ?_
  refine cF_ ?_
  iterate 5 refine s1_ ?_
  refine ca_ rfl ((hown S hd).frame f1) ?_
  rintro _ S1 ⟨M,⟨oE,oW,hok,rfl,hM⟩,f1',h1⟩
  rw [h1];clear h1 S1
  have hSM:S.Less M:=by rw [hM];exact hok.less
  unfold dkV
  obtain ⟨qe,de,hqe⟩:=outV_eq hok.e
  obtain ⟨qw,dw,hqw⟩:=outV_eq hok.w
  rw [hqe,hqw]
  refine s1_ ?_
  refine k_b5 rfl ?_
  intro b16 f16
  have g16:=f16
  repeat ((with_reducible replace g16:=fresh_set g16);obtain ⟨g16,_⟩:=g16)
  refine nl_ ?_
  iterate 3 refine s1_ ?_
  refine su_ [(0,_),(1,_),(2,_),(3,_),(4,_),(9,_),(5,_)] ?_
  iterate 7 refine s1_ ?_
  refine su_ [(0,_),(1,_),(2,_),(3,_),(4,_),(9,_),(5,_),(18,_)] ?_
  refine AWP.condB rfl (fun hb=>?_) (fun hb=>?_)
  ·iterate 7 refine s1_ ?_
   refine su_ [(0,_),(1,_),(2,_),(3,_),(4,_),(9,_),(5,_),(18,_)] ?_
   iterate 2 refine s1_ ?_
   refine ⟨_,M.set b16 _,⟨_,_,rfl,⟨_,_,rfl,rfl,rfl⟩,rfl⟩,Less.set (Mem.less_set _ _ _ f1'.1) _ _,?_⟩
   exact ⟨b16,oE,oW,⟨hok,by rw [← hM];exact g16⟩,by rw [if_pos hb];rfl,by unfold devM;rw [hqe,hqw,← hM]⟩
  ·iterate 9 refine s1_ ?_
   refine su_ [(0,_),(1,_),(2,_),(3,_),(4,_),(9,_),(5,_),(18,_)] ?_
   refine s1_ ?_
   refine ⟨_,M.set b16 _,⟨_,_,rfl,⟨_,_,rfl,rfl,rfl⟩,rfl⟩,Less.set (Mem.less_set _ _ _ f1'.1) _ _,?_⟩
   exact ⟨b16,oE,oW,⟨hok,by rw [← hM];exact g16⟩,by rw [if_neg (Bool.eq_false_iff.1 hb)];rfl,by unfold devM;rw [hqe,hqw,← hM]⟩
 ·rw [if_neg (by rw [hk];decide)]
  refine ACall.enter (rs:=[.tmp 2,.tmp 3]) 21 [(0,.agg #[.int .i64 d.size,.slice pe d.ext.length ce,.slice pw d.waits.length cw,.int .i64 d.fuse,.bool d.down])] Tryz.func37 rfl rfl (Nat.le_of_ble_eq_true rfl) rfl ⟨rfl,trivial⟩ ?_
  iterate 2 refine s1_ ?_
  refine k_b5 rfl ?_
  intro b1 f1
  have g1:=f1
  repeat ((with_reducible replace g1:=fresh_set g1);obtain ⟨g1,_⟩:=g1)
  refine nl_ ?_
  iterate 8 refine s1_ ?_
  refine ca_ rfl (hcheck _ (hd.less less_)) ?_
  rintro _ S1 ⟨rfl,h1⟩
  rw [h1,hk];clear h1 S1
  iterate 3 refine s1_ ?_
  refine su_ [(0,_),(1,_),(2,_),(3,_),(4,_)] ?_
  iterate 6 refine s1_ ?_
  refine su_ [(0,_),(1,_),(2,_),(3,_),(4,_),(9,_)] ?_
  refine cT_ ?_
  iterate 3 refine s1_ ?_
  refine k_b5 rfl ?_
  intro b11 f11
  have g11:=f11
  repeat ((with_reducible replace g11:=fresh_set g11);obtain ⟨g11,_⟩:=g11)
  refine nl_ ?_
  iterate 5 refine s1_ ?_
  refine su_ [(0,_),(1,_),(2,_),(3,_),(4,_),(9,_)] ?_
  iterate 2 refine s1_ ?_
  refine ⟨_,S.set b11 _,⟨_,_,rfl,⟨_,_,rfl,rfl,rfl⟩,rfl⟩,Less.set (Mem.less_set _ _ _ f1.1) _ _,?_⟩
  exact ⟨b11,none,none,⟨⟨okO_nil _,okO_nil _⟩,g11⟩,rfl,rfl⟩
end Go.Proofs.YthbadpcmdlfmdaaGreatDoor
namespace Go.Proofs.YthbadpcmdlfmdaaGreatDoor
open Go.RowKit
open Mv Disk
set_option maxRecDepth 4000
/-- A disk at work that is read. -/
def RdV (M : Mem) (p : Nat) (d : D) : Prop := ∃ qe de qw dw, M.own p = some ⟨95, [.int .i64 d.size, .slice qe d.ext.length de, .slice qw d.waits.length dw, .int .i64 d.fuse, .bool d.down], 5⟩ ∧ Sl 2 extF M (.slice qe d.ext.length de) d.ext ∧ Sl 3 wrF M (.slice qw d.waits.length dw) d.waits
theorem RdV.less {M M' : Mem} {p : Nat} {d : D} (h : RdV M p d) (hl : M.Less M') : RdV M' p d := by
 obtain ⟨qe,de,qw,dw,h1,h2,h3⟩:=h
 exact ⟨qe,de,qw,dw,hl.own h1,h2.less hl,h3.less hl⟩
theorem OkV.rd {S : Mem} {p : Nat} {d : D} {oE oW : Option (Nat × Nat)} (h : OkV S p d oE oW) (he : d.ext.length ≤ 9223372036854775807) (hw : d.waits.length ≤ 9223372036854775807) : RdV (devM S p d oE oW) p d := by
 obtain ⟨a,c,e⟩:=outV_eq h.dk.e
 obtain ⟨a',c',e'⟩:=outV_eq h.dk.w
 have h1:=sl_outN ext_len (e:=extT) h.dk.e rfl he
 have h2:=sl_outN wr_len (e:=wrT) h.dk.w rfl hw
 rw [e] at h1;rw [e'] at h2
 have hl:(dkM S d oE oW).Less (devM S p d oE oW):=Mem.less_set _ _ _ h.fr.1
 refine ⟨a,c,a',c',?_,(h1.less (outN_over h.dk.w)).less hl,h2.less hl⟩
 unfold devM;rw [e,e'];exact Mem.own_set_same _ _ _
theorem OkV.less {S : Mem} {p : Nat} {d : D} {oE oW : Option (Nat × Nat)} (h : OkV S p d oE oW) : S.Less (devM S p d oE oW) := h.dk.less.trans (Mem.less_set _ _ _ h.fr.1)
theorem right_len {d : D} (h : Right d) : d.ext.length ≤ 16384 ∧ used d.ext ≤ 16384 := by
 have h1:=used_ge h.ex.ok;have h2:=h.ex.us;have h3:=h.s1;omega
theorem right_sec {d : D} (h : Right d) {x : Ext} (hx : x ∈ d.ext) : sec x ≤ 16384 ∧ x.2.size = 64 * sec x ∧ 1 ≤ sec x := by
 have h1:=used_mem hx;have h2:=right_len h;have h3:=eok_sec (h.ex.ok x hx);omega
theorem openD_or (d : D) : (openD d = (D0, 2) ∧ ¬ Right d) ∨ (openD d = (d, 10) ∧ Right d ∧ d.down = true) ∨ (openD d = (d, 0) ∧ Right d ∧ d.down = false) := by
 unfold openD
 rcases chkD_or d with ⟨hk,hR⟩ | ⟨hk,hR⟩
 ·right
  rw [if_pos hk]
  cases hdn:d.down with
  | true=>left;exact ⟨rfl,hR,rfl⟩
  | false=>right;exact ⟨rfl,hR,rfl⟩
 ·left;rw [if_neg (by rw [hk];decide)];exact ⟨rfl,hR⟩
theorem used_take {l : List Ext} {i : Nat} (h : i < l.length) : used (l.take (i + 1)) = used (l.take i) + sec l[i] := by rw [take_get h, used_append]; simp [used]
theorem used_take_le (l : List Ext) (i : Nat) : used (l.take i) ≤ used l := by
 have:=used_append (l.take i) (l.drop i)
 rw [List.take_append_drop] at this;omega
set_option maxHeartbeats 1000000 in
theorem dev_Room (p : Nat) (d : D) (M : Mem) (h : RdV M p d) (hR : Right d) : ACall Tryz.prog 65 #[.pointer (some ⟨p, 0, none⟩)] M fun r S' => r = .int .i64 (d.size - used d.ext) ∧ S' = M := by
 obtain ⟨qe,de,qw,dw,hp,hE,hW⟩:=h
 obtain ⟨_,_,ee1,ee2,ee3,hE3⟩:=id hE
 cases ee1
 have hrl:=right_len hR
 have hs0:=hR.s0;have hs1:=hR.s1
 refine ACall.enter (rs:=[.tmp 2]) 27 [(0,.pointer (some ⟨p,0,none⟩))] Tryz.func65 rfl rfl (Nat.le_of_ble_eq_true rfl) rfl ⟨rfl,trivial⟩ ?_
 iterate 15 refine s1_ ?_
 refine su_ [(0,_),(2,_),(3,_)] ?_
 iterate 12 refine s1_ ?_
 refine su_ [(0,_),(2,_),(3,_),(15,_),(16,_),(17,_)] ?_
 refine s1_ ?_
 refine AWP.loop (X:=Nat) (fun x=>[(3,.int .i64 (d.size-used (d.ext.take x))),(15,.slice qe d.ext.length de),(16,.int .i64 d.ext.length),(17,.int .i64 x)]) (fun x=>M) (fun x=>x≤d.ext.length) (fun x=>d.ext.length-x) (0) ⟨some_int (by simp [used]),rfl,rfl,rfl,trivial⟩ (Mem.Less.refl _) (Nat.zero_le _) ?_
 rintro i hi
 (try dsimp only at *)
 iterate 6 refine s1_ ?_
 refine AWP.condB rfl (fun hc=>?_) (fun hc=>?_)
 ·have hc:i<d.ext.length:=by have:=of_decide_eq_true hc;omega
  obtain ⟨b,off,rfl,hk⟩:=hE3.resolve_left (fun e=>by rw [e] at hc;simp at hc)
  have hki:=hk i hc
  have hut:=used_take hc
  have hul:=used_take_le d.ext (i+1)
  have hsx:=right_sec hR (List.getElem_mem hc)
  generalize d.ext[i]=x at *
  unfold extF at hki
  iterate 8 refine s1_ ?_
  refine ARun.alloc (lit_lt rfl) ty_zero_130 ?_
  intro b5 f5
  have g5:=f5
  repeat ((with_reducible replace g5:=fresh_set g5);obtain ⟨g5,_⟩:=g5)
  have:=g5.ne hp;have:=g5.ne' hp
  refine nl_ ?_
  iterate 3 refine s1_ ?_
  refine su_ [(3,_),(15,_),(16,_),(17,_),(18,_),(5,_)] ?_
  iterate 3 refine s1_ ?_
  refine ca_ rfl (disk_sectors x _ (by omega)) ?_
  rintro _ S1 ⟨rfl,h1⟩
  rw [h1];clear h1 S1
  iterate 5 refine s1_ ?_
  refine su_ [(3,_),(15,_),(16,_),(17,_),(18,_),(5,_)] ?_
  iterate 5 refine s1_ ?_
  refine ⟨i+1,?_,?_,?_,?_⟩
  all_goals (try dsimp only)
  ·exact ⟨some_int (by omega),rfl,rfl,rfl,trivial⟩
  ·exact less_
  ·exact hc
  ·omega
 ·have hc:i=d.ext.length:=by have:=of_decide_eq_false hc;omega
  subst hc
  rw [List.take_length]
  iterate 11 refine s1_ ?_
  refine su_ [(3,_),(15,_),(16,_),(17,_),(18,_),(2,_)] ?_
  refine s1_ ?_
  refine ⟨_,M,⟨_,_,rfl,rfl,rfl⟩,less_,?_⟩
  exact ⟨rfl,rfl⟩
noncomputable def roomD (d : D) : Int × Int := if (openD d).2 ≠ 0 then (0, (openD d).2) else (d.size - used d.ext, 0)
/-- The extent of a name. -/
def exOf (l : List Ext) (s : ByteArray) : Ext := l.getD (pos l s) (ByteArray.empty, ByteArray.empty)
theorem exOf_eq {l : List Ext} {s : ByteArray} (h : pos l s < l.length) : exOf l s = l[pos l s] := by simp [exOf, List.getD, List.getElem?_eq_getElem h]
noncomputable def sectorsD (d : D) (s : ByteArray) : Int × Int := if (openD d).2 ≠ 0 then (0, (openD d).2) else if has d.ext s = true then ((sec (exOf d.ext s) : Nat), 0) else (0, 3)
/-- Where an extent is that has a sector; why there is none. -/
def placeD (d : D) (s : ByteArray) (k : Int) : Nat × Int := if has d.ext s = true then (if k < 0 ∨ (sec (exOf d.ext s) : Int) ≤ k then (0, 1) else (pos d.ext s, 0)) else (0, 3)
set_option maxHeartbeats 1000000 in
theorem dev_place (p : Nat) (d : D) (s : ByteArray) (i : Int) (M : Mem) (h : RdV M p d) (hR : Right d) : ACall Tryz.prog 68 #[.pointer (some ⟨p, 0, none⟩), .string s, .int .i64 i] M fun r S' => r = .tuple #[.int .i64 ((placeD d s i).1 : Nat), .int .i64 (placeD d s i).2] ∧ S' = M := by
 obtain ⟨qe,de,qw,dw,hp,hME,hMW⟩:=h
 have hhp:=has_pos hR.ex.asc s
 unfold placeD
 by_cases q:has d.ext s=true
 ·obtain ⟨hlt,he⟩:=hhp.1 q
  have hsx:=right_sec hR (List.getElem_mem hlt)
  have hfind:=disk_find _ d.ext s M hME hR.ex.asc (Nat.le_trans (right_len hR).1 (by decide))
  rw [if_pos q,exOf_eq hlt]
  obtain ⟨_,_,ee1,ee2,ee3,hE3⟩:=id hME
  cases ee1
  obtain ⟨b,off,rfl,hk⟩:=hE3.resolve_left (fun e=>by rw [e] at hlt;simp at hlt)
  have hki:=hk _ hlt
  generalize hpp:pos d.ext s=k at *
  generalize d.ext[k]=x at *
  unfold extF at hki
  by_cases q1:i<0
  ·rw [if_pos (.inl q1)]
   refine ACall.enter (rs:=[.tmp 6,.tmp 7]) 40 [(0,.pointer (some ⟨p,0,none⟩)),(1,.string s),(2,.int .i64 i)] Tryz.func68 rfl rfl (Nat.le_of_ble_eq_true rfl) rfl ⟨rfl,rfl,rfl,trivial⟩ ?_
   iterate 14 refine s1_ ?_
   refine ca_ rfl (hfind) ?_
   rintro _ S1 ⟨rfl,h1⟩
   rw [h1,q];clear h1 S1
   iterate 7 refine s1_ ?_
   refine su_ [(0,_),(1,_),(2,_),(6,_),(7,_),(8,_),(9,_)] ?_
   iterate 9 refine s1_ ?_
   refine su_ [(0,_),(1,_),(2,_),(6,_),(7,_),(8,_),(9,_),(20,_)] ?_
   refine cF_ ?_
   iterate 20 refine s1_ ?_
   refine su_ [(0,_),(1,_),(2,_),(6,_),(7,_),(8,_),(9,_),(20,_),(23,_)] ?_
   refine cT_ ?_
   iterate 9 refine s1_ ?_
   refine ⟨_,M,⟨_,_,rfl,⟨_,_,rfl,rfl,rfl⟩,rfl⟩,less_,?_⟩
   exact ⟨rfl,rfl⟩
  ·by_cases q2:(sec x:Int)≤i
   ·rw [if_pos (.inr q2)]
    refine ACall.enter (rs:=[.tmp 6,.tmp 7]) 40 [(0,.pointer (some ⟨p,0,none⟩)),(1,.string s),(2,.int .i64 i)] Tryz.func68 rfl rfl (Nat.le_of_ble_eq_true rfl) rfl ⟨rfl,rfl,rfl,trivial⟩ ?_
    iterate 14 refine s1_ ?_
    refine ca_ rfl (hfind) ?_
    rintro _ S1 ⟨rfl,h1⟩
    rw [h1,q];clear h1 S1
    iterate 7 refine s1_ ?_
    refine su_ [(0,_),(1,_),(2,_),(6,_),(7,_),(8,_),(9,_)] ?_
    iterate 9 refine s1_ ?_
    refine su_ [(0,_),(1,_),(2,_),(6,_),(7,_),(8,_),(9,_),(20,_)] ?_
    refine cF_ ?_
    iterate 14 refine s1_ ?_
    refine ARun.callG 2 false 26 rfl (lit_lt rfl) rfl (lit_lt rfl) go_80 rfl (disk_sectors x _ (by omega)) ?_
    rintro _ S1 ⟨rfl,h1⟩
    rw [h1];clear h1 S1
    iterate 5 refine s1_ ?_
    refine su_ [(0,_),(1,_),(2,_),(6,_),(7,_),(8,_),(9,_),(20,_),(23,_)] ?_
    refine cT_ ?_
    iterate 9 refine s1_ ?_
    refine ⟨_,M,⟨_,_,rfl,⟨_,_,rfl,rfl,rfl⟩,rfl⟩,less_,?_⟩
    exact ⟨rfl,rfl⟩
   ·rw [if_neg (by omega)]
    refine ACall.enter (rs:=[.tmp 6,.tmp 7]) 40 [(0,.pointer (some ⟨p,0,none⟩)),(1,.string s),(2,.int .i64 i)] Tryz.func68 rfl rfl (Nat.le_of_ble_eq_true rfl) rfl ⟨rfl,rfl,rfl,trivial⟩ ?_
    iterate 14 refine s1_ ?_
    refine ca_ rfl (hfind) ?_
    rintro _ S1 ⟨rfl,h1⟩
    rw [h1,q];clear h1 S1
    iterate 7 refine s1_ ?_
    refine su_ [(0,_),(1,_),(2,_),(6,_),(7,_),(8,_),(9,_)] ?_
    iterate 9 refine s1_ ?_
    refine su_ [(0,_),(1,_),(2,_),(6,_),(7,_),(8,_),(9,_),(20,_)] ?_
    refine cF_ ?_
    iterate 14 refine s1_ ?_
    refine ARun.callG 2 false 26 rfl (lit_lt rfl) rfl (lit_lt rfl) go_80 rfl (disk_sectors x _ (by omega)) ?_
    rintro _ S1 ⟨rfl,h1⟩
    rw [h1];clear h1 S1
    iterate 5 refine s1_ ?_
    refine su_ [(0,_),(1,_),(2,_),(6,_),(7,_),(8,_),(9,_),(20,_),(23,_)] ?_
    refine cF_ ?_
    iterate 10 refine s1_ ?_
    refine su_ [(0,_),(1,_),(2,_),(6,_),(7,_),(8,_),(9,_),(20,_),(23,_)] ?_
    refine s1_ ?_
    refine ⟨_,M,⟨_,_,rfl,⟨_,_,rfl,rfl,rfl⟩,rfl⟩,less_,?_⟩
    exact ⟨rfl,rfl⟩
 ·rw [if_neg q]
  refine ACall.enter (rs:=[.tmp 6,.tmp 7]) 40 [(0,.pointer (some ⟨p,0,none⟩)),(1,.string s),(2,.int .i64 i)] Tryz.func68 rfl rfl (Nat.le_of_ble_eq_true rfl) rfl ⟨rfl,rfl,rfl,trivial⟩ ?_
  iterate 14 refine s1_ ?_
  refine ca_ rfl (disk_find _ d.ext s _ hME hR.ex.asc (Nat.le_trans (right_len hR).1 (by decide))) ?_
  rintro _ S1 ⟨rfl,h1⟩
  rw [h1,Bool.eq_false_iff.2 q];clear h1 S1
  iterate 7 refine s1_ ?_
  refine su_ [(0,_),(1,_),(2,_),(6,_),(7,_),(8,_),(9,_)] ?_
  iterate 9 refine s1_ ?_
  refine su_ [(0,_),(1,_),(2,_),(6,_),(7,_),(8,_),(9,_),(20,_)] ?_
  refine cT_ ?_
  iterate 9 refine s1_ ?_
  refine ⟨_,M,⟨_,_,rfl,⟨_,_,rfl,rfl,rfl⟩,rfl⟩,less_,?_⟩
  exact ⟨rfl,rfl⟩
end Go.Proofs.YthbadpcmdlfmdaaGreatDoor
namespace Go.Proofs.YthbadpcmdlfmdaaGreatDoor
open Go.RowKit
open Mv Disk
set_option maxRecDepth 4000
theorem spl_mid {A Y X B : List Value} {k : Nat} (hk : A.length = k) (hl : Y.length = X.length) : spl (A ++ (Y ++ B)) k X = A ++ (X ++ B) := by
 subst hk
 unfold spl
 rw [List.take_left,← List.drop_drop,List.drop_left,← hl,List.drop_left,List.append_assoc]
theorem spl_end {A Y X : List Value} {k : Nat} (hk : A.length = k) (hl : Y.length ≤ X.length) : spl (A ++ Y) k X = A ++ X := by
 subst hk
 unfold spl
 rw [List.take_left,List.drop_of_length_le (by rw [List.length_append];omega),List.append_nil]
theorem flat_take {α : Type} {n : Nat} {f : α → List Value} (l : List α) (i : Nat) : l.flatMap f = (l.take i).flatMap f ++ (l.drop i).flatMap f := by
 rw [← List.flatMap_append,List.take_append_drop]
theorem room_cells {A D X : List Value} {i : Nat} (hA : A.length = i * 2) (hX : X.length = 2) (hD : 2 ≤ D.length) : spl (spl (A ++ D) (0 + (i + 1) * 2) D) (0 + i * 2) X = A ++ (X ++ D) := by
 have e:spl (A ++ D) (0+(i+1)*2) D=A ++ (D.take 2 ++ D):=by
  have e1:A ++ D=(A ++ D.take 2) ++ D.drop 2:=by rw [List.append_assoc,List.take_append_drop]
  rw [e1,spl_end (by simp [hA];omega) (by simp),List.append_assoc]
 rw [e]
 exact spl_mid (by omega) (by simp [hX];omega)
theorem grow_cells {A D X zs : List Value} {i : Nat} (hA : A.length = i * 2) (hX : X.length = 2) (hz : zs.length = 2 + D.length) : spl (spl (A ++ zs) (0 + i * 2) X) (0 + (i + 1) * 2) D = A ++ (X ++ D) := by
 have e:spl (A ++ zs) (0+i*2) X=(A ++ X) ++ zs.drop 2:=by
  have e1:A ++ zs=A ++ (zs.take 2 ++ zs.drop 2):=by rw [List.take_append_drop]
  rw [e1,spl_mid (by omega) (by simp [hX];omega),List.append_assoc]
 rw [e,spl_end (by simp [hA,hX];omega) (by simp;omega),List.append_assoc]
def insAt (l : List Ext) (i : Nat) (x : Ext) : List Ext := l.take i ++ x :: l.drop i
theorem ins_flat (l : List Ext) (i : Nat) (x : Ext) : (insAt l i x).flatMap extF = (l.take i).flatMap extF ++ (extF x ++ (l.drop i).flatMap extF) := by
 unfold insAt;rw [List.flatMap_append,List.flatMap_cons]
theorem ins_len {l : List Ext} {i : Nat} (h : i ≤ l.length) (x : Ext) : (insAt l i x).length = l.length + 1 := by
 unfold insAt;simp;omega
set_option maxHeartbeats 2000000 in
theorem ins_ext (B : Mem) (o : Option (Nat × Nat)) (l : List Ext) (i : Nat) (x : Ext) (t : Nat) (ho : OkO B o l.length) (ht : Fresh (outN 2 B o extT (l.flatMap extF)) t) (hi : i ≤ l.length) (hlen : l.length ≤ 16384) :
  ACall Tryz.prog 66 #[outV o l.length,.int .i64 (i:Int),.slice (some ⟨t,0,none⟩) 1 1] ((outN 2 B o extT (l.flatMap extF)).set t ⟨extT,extF x,2⟩) fun r S'=>∃ o',OkO B o' (l.length+1)∧r=outV o' (l.length+1)∧S'=outN 2 B o' extT ((insAt l i x).flatMap extF):=by
 have hfl:=flat_length ext_len l
 have hx1:∀ v ∈ extF x,v.oneCell'=true:=fun v hv=>ext_one [x] v (by simpa using hv)
 have happ:AppN 2 ((outN 2 B o extT (l.flatMap extF)).set t ⟨extT,extF x,2⟩) B o extT (l.flatMap extF):=(appN_self ho hfl).temp ht
 by_cases hil:i=l.length
 ·subst hil
  have he:(insAt l l.length x).flatMap extF=l.flatMap extF ++ extF x:=by rw [ins_flat];simp
  rw [he]
  cases o with
  | none =>
   obtain rfl:l = []:=List.eq_nil_of_length_eq_zero (ho.nil rfl)
   refine ACall.enter (rs:=[.tmp 6]) 95 [(0,.slice none 0 0),(1,.int .i64 0),(2,.slice (some ⟨t,0,none⟩) 1 1)] Tryz.func66 rfl rfl (Nat.le_of_ble_eq_true rfl) rfl ⟨rfl,rfl,rfl,trivial⟩ ?_
   iterate 12 refine s1_ ?_
   refine su_ [(0,_),(1,_),(2,_),(6,_)] ?_
   iterate 7 refine s1_ ?_
   refine su_ [(0,_),(1,_),(2,_),(6,_),(7,_)] ?_
   iterate 7 refine s1_ ?_
   refine su_ [(0,_),(1,_),(2,_),(6,_),(7,_),(16,_)] ?_
   refine cF_ ?_
   iterate 9 refine s1_ ?_
   refine su_ [(0,_),(1,_),(2,_),(6,_),(7,_),(16,_),(8,_)] ?_
   iterate 8 refine s1_ ?_
   refine su_ [(0,_),(1,_),(2,_),(6,_),(7,_),(16,_),(8,_),(22,_)] ?_
   refine cT_ ?_
   iterate 4 refine s1_ ?_
   refine ARun.appendOK (n:=2) (o:=none) (k:=0) (m:=1) (cs:=[]) (lit_lt rfl) ty_sl_25 rfl rfl hfl ho happ rfl (src_own (Mem.own_set_same _ _ _) List.prefix_rfl) rfl hx1 (by omega) (by omega) ?_
   intro o' ho'
   iterate 3 refine s1_ ?_
   refine su_ [(0,_),(1,_),(2,_),(6,_),(7,_),(16,_),(8,_),(22,_)] ?_
   iterate 2 refine s1_ ?_
   refine ⟨_,_,⟨_,_,rfl,rfl,rfl⟩,Mem.Less.refl _,?_⟩
   exact ⟨o',ho',rfl,rfl⟩
  | some q =>
   obtain ⟨b,c⟩:=q
   have hc:=(ho.own b c rfl).2
   refine ACall.enter (rs:=[.tmp 6]) 95 [(0,outV (some (b,c)) l.length),(1,.int .i64 (l.length:Int)),(2,.slice (some ⟨t,0,none⟩) 1 1)] Tryz.func66 rfl rfl (Nat.le_of_ble_eq_true rfl) rfl ⟨rfl,rfl,rfl,trivial⟩ ?_
   iterate 12 refine s1_ ?_
   refine su_ [(0,_),(1,_),(2,_),(6,_)] ?_
   iterate 7 refine s1_ ?_
   refine su_ [(0,_),(1,_),(2,_),(6,_),(7,_)] ?_
   iterate 7 refine s1_ ?_
   refine su_ [(0,_),(1,_),(2,_),(6,_),(7,_),(16,_)] ?_
   refine cF_ ?_
   iterate 9 refine s1_ ?_
   refine su_ [(0,_),(1,_),(2,_),(6,_),(7,_),(16,_),(8,_)] ?_
   iterate 8 refine s1_ ?_
   refine su_ [(0,_),(1,_),(2,_),(6,_),(7,_),(16,_),(8,_),(22,_)] ?_
   refine cT_ ?_
   iterate 4 refine s1_ ?_
   refine ARun.appendOK (n:=2) (o:=some (b,c)) (k:=l.length) (m:=1) (cs:=l.flatMap extF) (lit_lt rfl) ty_sl_25 rfl rfl hfl ho happ rfl (src_own (Mem.own_set_same _ _ _) List.prefix_rfl) rfl hx1 (by omega) (by omega) ?_
   intro o' ho'
   iterate 3 refine s1_ ?_
   refine su_ [(0,_),(1,_),(2,_),(6,_),(7,_),(16,_),(8,_),(22,_)] ?_
   iterate 2 refine s1_ ?_
   refine ⟨_,_,⟨_,_,rfl,rfl,rfl⟩,Mem.Less.refl _,?_⟩
   exact ⟨o',ho',rfl,rfl⟩
 ·obtain ⟨⟨b,c⟩,rfl⟩ : ∃ q,o=some q:=by
   cases o with
   | none=>have:=ho.nil rfl;omega
   | some q=>exact ⟨q,rfl⟩
  have hc:=(ho.own b c rfl).2
  have hfb:=(ho.own b c rfl).1
  obtain ⟨htB,htb⟩:=fresh_set ht
  have hA:=flat_length ext_len (l.take i)
  have hD:=flat_length ext_len (l.drop i)
  rw [List.length_take,Nat.min_eq_left hi] at hA
  rw [List.length_drop] at hD
  have hsplit:=flat_take (n:=2) (f:=extF) l i
  have hsl:(spl (l.flatMap extF) (0+(i+1)*2) ((l.drop i).flatMap extF)).length=l.length*2+2:=by
   unfold spl;simp only [List.length_append,List.length_take,List.length_drop,hfl,hD];omega
  rw [ins_flat]
  dsimp only [outN,outV]
  by_cases hroom:l.length+1≤c
  ·skip
   refine ACall.enter (rs:=[.tmp 6]) 95 [(0,.slice (some ⟨b,0,none⟩) l.length c),(1,.int .i64 (i:Int)),(2,.slice (some ⟨t,0,none⟩) 1 1)] Tryz.func66 rfl rfl (Nat.le_of_ble_eq_true rfl) rfl ⟨rfl,rfl,rfl,trivial⟩ ?_
   iterate 12 refine s1_ ?_
   refine su_ [(0,_),(1,_),(2,_),(6,_)] ?_
   iterate 7 refine s1_ ?_
   refine su_ [(0,_),(1,_),(2,_),(6,_),(7,_)] ?_
   iterate 7 refine s1_ ?_
   refine su_ [(0,_),(1,_),(2,_),(6,_),(7,_),(16,_)] ?_
   refine cF_ ?_
   iterate 9 refine s1_ ?_
   refine su_ [(0,_),(1,_),(2,_),(6,_),(7,_),(16,_),(8,_)] ?_
   iterate 8 refine s1_ ?_
   refine su_ [(0,_),(1,_),(2,_),(6,_),(7,_),(16,_),(8,_),(22,_)] ?_
   refine cF_ ?_
   iterate 9 refine s1_ ?_
   refine rC (Calm.cap Tryz.underlying25 rfl) ?_
   iterate 3 refine s1_ ?_
   refine su_ [(0,_),(1,_),(2,_),(6,_),(7,_),(16,_),(8,_),(22,_),(31,_)] ?_
   refine cF_ ?_
   iterate 8 refine s1_ ?_
   refine rC (Calm.sliceHi (l.length+1) Tryz.underlying25 ty_size_130 rfl rfl (by omega) (by omega)) ?_
   iterate 3 refine s1_ ?_
   refine su_ [(0,_),(1,_),(2,_),(6,_),(7,_),(16,_),(8,_),(22,_),(31,_)] ?_
   iterate 8 refine s1_ ?_
   refine rC (Calm.sliceLo (i+1) Tryz.underlying25 ty_size_130 rfl rfl (by omega) (by omega) (by omega)) ?_
   refine ARun.overlapsNo (T:=25) (tR:=4) (lit_lt rfl) Tryz.func88 rfl rfl rfl rfl Tryz.underlying25 ty_size_130 rfl (Mem.own_set_same _ _ _) (Nat.ne_of_beq_eq_false rfl) (show 0<2 from by decide) own_ (by simp only [hfl];omega) htb ?_
   iterate 3 refine s1_ ?_
   refine su_ [(0,_),(1,_),(2,_),(6,_),(7,_),(16,_),(8,_),(22,_),(31,_),(68,_)] ?_
   refine cT_ ?_
   refine s1_ ?_
   refine AWP.draw [(0,true),(1,true),(2,true),(3,true),(4,true),(5,true),(6,true),(7,true),(8,false)] [8] mixed (by kernel_rfl) ?_
   iterate 4 refine s1_ ?_
   refine dP (hc:=fun _=>Calm.sliceLo (i+1) Tryz.underlying25 ty_size_130 rfl rfl (by omega) (by omega) (by omega)) (h:=?_)
   iterate 2 refine s1_ ?_
   refine dP (hc:=fun _=>Calm.sliceLo (i) Tryz.underlying25 ty_size_130 rfl rfl (by omega) (by omega) (by omega)) (h:=?_)
   refine draw_only rfl ?_
   refine ARun.copyK (n:=2) (q:=l.length-i) (news:=(l.drop i).flatMap extF) (lit_lt rfl) ty_sl_25 rfl own_ (by simp only [hfl];omega) rfl (by omega) (Mem.own_knows (r:=⟨extT,l.flatMap extF,c*2⟩) own_ _ _ (fun j v hj=>by simp only;rw [hsplit,List.getElem?_append_right (by omega),← hj];congr 1;omega)) hD (ext_one _) (.inr (by simp only [hD];omega)) ?_
   refine arun_nil ⟨fun h=>absurd h (by decide),?_⟩
   iterate 2 refine s1_ ?_
   refine su_ [(0,_),(1,_),(2,_),(6,_),(7,_),(16,_),(8,_),(22,_),(31,_),(68,_)] ?_
   iterate 4 refine s1_ ?_
   refine rC (Calm.sliceLo (i) Tryz.underlying25 ty_size_130 rfl rfl (by omega) (by omega) (by omega)) ?_
   refine s1_ ?_
   refine ARun.copyK (n:=2) (q:=1) (news:=extF x) (lit_lt rfl) ty_sl_25 rfl own_ (by simp only [hsl];omega) rfl (by omega) (Mem.own_knows (r:=⟨extT,extF x,2⟩) own_ 0 _ (fun j v hj=>by rw [Nat.zero_add];exact hj)) rfl hx1 (.inr (by simp only [ext_len];omega)) ?_
   iterate 2 refine s1_ ?_
   refine su_ [(0,_),(1,_),(2,_),(6,_),(7,_),(16,_),(8,_),(22,_),(31,_),(68,_)] ?_
   iterate 6 refine s1_ ?_
   refine su_ [(0,_),(1,_),(2,_),(6,_),(7,_),(16,_),(8,_),(22,_),(31,_),(68,_)] ?_
   iterate 2 refine s1_ ?_
   refine ⟨_,B.set b ⟨extT,spl (spl (l.flatMap extF) (0+(i+1)*2) ((l.drop i).flatMap extF)) (0+i*2) (extF x),c*2⟩,⟨_,_,rfl,rfl,rfl⟩,less_,?_⟩
   exact ⟨some (b,c),okO_own hfb hroom,rfl,by rw [hsplit,room_cells hA rfl (by rw [hD];omega)]⟩
  ·skip
   refine ACall.enter (rs:=[.tmp 6]) 95 [(0,.slice (some ⟨b,0,none⟩) l.length c),(1,.int .i64 (i:Int)),(2,.slice (some ⟨t,0,none⟩) 1 1)] Tryz.func66 rfl rfl (Nat.le_of_ble_eq_true rfl) rfl ⟨rfl,rfl,rfl,trivial⟩ ?_
   iterate 12 refine s1_ ?_
   refine su_ [(0,_),(1,_),(2,_),(6,_)] ?_
   iterate 7 refine s1_ ?_
   refine su_ [(0,_),(1,_),(2,_),(6,_),(7,_)] ?_
   iterate 7 refine s1_ ?_
   refine su_ [(0,_),(1,_),(2,_),(6,_),(7,_),(16,_)] ?_
   refine cF_ ?_
   iterate 9 refine s1_ ?_
   refine su_ [(0,_),(1,_),(2,_),(6,_),(7,_),(16,_),(8,_)] ?_
   iterate 8 refine s1_ ?_
   refine su_ [(0,_),(1,_),(2,_),(6,_),(7,_),(16,_),(8,_),(22,_)] ?_
   refine cF_ ?_
   iterate 9 refine s1_ ?_
   refine rC (Calm.cap Tryz.underlying25 rfl) ?_
   iterate 3 refine s1_ ?_
   refine su_ [(0,_),(1,_),(2,_),(6,_),(7,_),(16,_),(8,_),(22,_),(31,_)] ?_
   refine cT_ ?_
   iterate 4 refine s1_ ?_
   refine rC (Calm.sliceHi (i) Tryz.underlying25 ty_size_130 rfl rfl (by omega) (by omega)) ?_
   iterate 5 refine s1_ ?_
   refine ARun.appendMake (k:=i) (m:=l.length+1-i) (xs:=(l.take i).flatMap extF) (c:=c) (lit_lt rfl) ty_sl_25 rfl Tryz.underlying3 rfl hA ((rds_prefix (r:=⟨extT,l.flatMap extF,c*2⟩) own_ (by rw [hsplit];exact List.prefix_append _ _)).knows) (congrArg some (congrArg (Value.int .i64) (by omega))) (by omega) (by omega) (by omega) ?_
   intro b' c' zs hfb' hc' hzs
   obtain ⟨hfb1,htb'⟩:=fresh_set hfb'
   obtain ⟨hfb2,hbb'⟩:=fresh_set hfb1
   have hbb'':=Ne.symm hbb'
   have htb'':=Ne.symm htb'
   have hz1:(((l.take i).flatMap extF) ++ zs).length=l.length*2+2:=by simp only [List.length_append,hA,hzs];omega
   iterate 3 refine s1_ ?_
   refine su_ [(0,_),(1,_),(2,_),(6,_),(7,_),(16,_),(8,_),(22,_),(31,_),(9,_)] ?_
   iterate 4 refine s1_ ?_
   refine rC (Calm.sliceLo (i) Tryz.underlying25 ty_size_130 rfl rfl (by omega) (by omega) (by omega)) ?_
   refine s1_ ?_
   refine ARun.copyK (n:=2) (q:=1) (news:=extF x) (lit_lt rfl) ty_sl_25 rfl (Mem.own_set_same _ _ _) (by simp only [hz1];omega) rfl (by omega) (Mem.own_knows (r:=⟨extT,extF x,2⟩) own_ 0 _ (fun j v hj=>by rw [Nat.zero_add];exact hj)) rfl hx1 (.inl (by simp only [hz1,ext_len];omega)) ?_
   have hz2:(spl ((l.take i).flatMap extF ++ zs) (0+i*2) (extF x)).length=l.length*2+2:=by rw [spl_length _ _ _ (by simp only [hz1,ext_len];omega),hz1]
   iterate 2 refine s1_ ?_
   refine su_ [(0,_),(1,_),(2,_),(6,_),(7,_),(16,_),(8,_),(22,_),(31,_),(9,_)] ?_
   refine s1_ ?_
   refine AWP.draw [(0,true),(1,true),(2,true),(3,true),(4,true),(5,true),(6,true),(7,true),(8,false)] [8] mixed (by kernel_rfl) ?_
   iterate 4 refine s1_ ?_
   refine dP (hc:=fun _=>Calm.sliceLo (i+1) Tryz.underlying25 ty_size_130 rfl rfl (by omega) (by omega) (by omega)) (h:=?_)
   iterate 2 refine s1_ ?_
   refine dP (hc:=fun _=>Calm.sliceLo (i) Tryz.underlying25 ty_size_130 rfl rfl (by omega) (by omega) (by omega)) (h:=?_)
   refine draw_only rfl ?_
   refine ARun.copyK (n:=2) (q:=l.length-i) (news:=(l.drop i).flatMap extF) (lit_lt rfl) ty_sl_25 rfl (Mem.own_set_same _ _ _) (by simp only [hz2];omega) rfl (by omega) (Mem.own_knows (r:=⟨extT,l.flatMap extF,c*2⟩) own_ _ _ (fun j v hj=>by simp only;rw [hsplit,List.getElem?_append_right (by omega),← hj];congr 1;omega)) hD (ext_one _) (.inl (by simp only [hz2,hD];omega)) ?_
   refine arun_nil ⟨fun h=>absurd h (by decide),?_⟩
   iterate 2 refine s1_ ?_
   refine su_ [(0,_),(1,_),(2,_),(6,_),(7,_),(16,_),(8,_),(22,_),(31,_),(9,_)] ?_
   iterate 6 refine s1_ ?_
   refine su_ [(0,_),(1,_),(2,_),(6,_),(7,_),(16,_),(8,_),(22,_),(31,_),(9,_)] ?_
   iterate 2 refine s1_ ?_
   refine ⟨_,B.set b' ⟨extT,spl (spl ((l.take i).flatMap extF ++ zs) (0+i*2) (extF x)) (0+(i+1)*2) ((l.drop i).flatMap extF),c'*2⟩,⟨_,_,rfl,rfl,rfl⟩,less_,?_⟩
   exact ⟨some (b',c'),okO_own hfb2 (by omega),congrArg (fun n=>Value.slice (some ⟨b',0,none⟩) n c') (by omega),by rw [grow_cells hA rfl (by rw [hD,hzs];omega)]⟩
end Go.Proofs.YthbadpcmdlfmdaaGreatDoor
namespace Go.Proofs.YthbadpcmdlfmdaaGreatDoor
open Go.RowKit
open Mv Disk
set_option maxRecDepth 4000
theorem outN_set {n : Nat} {S : Mem} {o : Option (Nat × Nat)} {e : TypeId} {cs : List Value} {b : Nat} {r : Blk} (h : ∀ q c, o = some (q, c) → q ≠ b) : outN n (S.set b r) o e cs = (outN n S o e cs).set b r := by
 cases o with
 | none=>rfl
 | some q=>exact Mem.set_comm _ _ _ (Ne.symm (h _ _ rfl))
theorem outN_comm {n m : Nat} {S : Mem} {o o' : Option (Nat × Nat)} {e e' : TypeId} {cs cs' : List Value} (h : ∀ q c q' c', o = some (q, c) → o' = some (q', c') → q ≠ q') : outN n (outN m S o' e' cs') o e cs = outN m (outN n S o e cs) o' e' cs' := by
 cases o with
 | none=>rfl
 | some q =>
  cases o' with
  | none=>rfl
  | some q'=>exact Mem.set_comm _ _ _ (Ne.symm (h _ _ _ _ rfl rfl))
theorem own_outN' {n : Nat} {S : Mem} {o : Option (Nat × Nat)} {e : TypeId} {cs : List Value} {b : Nat} {r : Blk} (hb : S.own b = some r) (h : ∀ q c, o = some (q, c) → q ≠ b) : (outN n S o e cs).own b = some r := by
 cases o with
 | none=>exact hb
 | some q=>exact (Mem.own_set_other _ _ (Ne.symm (h _ _ rfl))).trans hb
theorem fresh_outN_mk {n : Nat} {S : Mem} {o : Option (Nat × Nat)} {e : TypeId} {cs : List Value} {b : Nat} (hb : Fresh S b) (h : ∀ q c, o = some (q, c) → q ≠ b) : Fresh (outN n S o e cs) b := by
 cases o with
 | none=>exact hb
 | some q=>exact fresh_more hb (Ne.symm (h _ _ rfl))
/-- The block of a disk at work. -/
def devB (d : D) (oE oW : Option (Nat × Nat)) : Blk := ⟨95, [.int .i64 d.size, outV oE d.ext.length, outV oW d.waits.length, .int .i64 d.fuse, .bool d.down], 5⟩
theorem devM_eq (S : Mem) (p : Nat) (d : D) (oE oW : Option (Nat × Nat)) : devM S p d oE oW = (outN 3 (outN 2 S oE extT (d.ext.flatMap extF)) oW wrT (d.waits.flatMap wrF)).set p (devB d oE oW) := rfl
/-- What is apart. -/
structure Apart (S : Mem) (p : Nat) (oE oW : Option (Nat × Nat)) : Prop where
  e : ∀ b c, oE = some (b, c) → Fresh S b ∧ b ≠ p
  w : ∀ b c, oW = some (b, c) → Fresh S b ∧ b ≠ p
  ew : ∀ b c b' c', oE = some (b, c) → oW = some (b', c') → b ≠ b'
  p : Fresh S p
structure Fits (d : D) (oE oW : Option (Nat × Nat)) : Prop where
  e0 : oE = none → d.ext.length = 0
  w0 : oW = none → d.waits.length = 0
  e : ∀ b c, oE = some (b, c) → d.ext.length ≤ c
  w : ∀ b c, oW = some (b, c) → d.waits.length ≤ c
theorem OkV.apart {S : Mem} {p : Nat} {d : D} {oE oW : Option (Nat × Nat)} (h : OkV S p d oE oW) : Apart S p oE oW := by
 obtain ⟨h1,h2⟩:=fresh_outN h.fr
 obtain ⟨h3,h4⟩:=fresh_outN h1
 exact ⟨fun b c e=>⟨(h.dk.e.own b c e).1,Ne.symm (h4 b c e)⟩,fun b c e=>⟨(fresh_outN (h.dk.w.own b c e).1).1,Ne.symm (h2 b c e)⟩,fun b c b' c' e e'=>Ne.symm ((fresh_outN (h.dk.w.own b' c' e').1).2 b c e),h3⟩
theorem OkV.fits {S : Mem} {p : Nat} {d : D} {oE oW : Option (Nat × Nat)} (h : OkV S p d oE oW) : Fits d oE oW := ⟨h.dk.e.nil, h.dk.w.nil, fun b c e => (h.dk.e.own b c e).2, fun b c e => (h.dk.w.own b c e).2⟩
theorem okV_mk {S : Mem} {p : Nat} {d : D} {oE oW : Option (Nat × Nat)} (h : Apart S p oE oW) (f : Fits d oE oW) : OkV S p d oE oW :=
 ⟨⟨⟨f.e0,fun b c e=>⟨(h.e b c e).1,f.e b c e⟩⟩,⟨f.w0,fun b c e=>⟨fresh_outN_mk (h.w b c e).1 (fun q c' e'=>h.ew q c' b c e' e),f.w b c e⟩⟩⟩,fresh_outN_mk (fresh_outN_mk h.p (fun q c e=>(h.e q c e).2)) (fun q c e=>(h.w q c e).2)⟩
/-- All but the extents. -/
def baseE (S : Mem) (p : Nat) (d : D) (oW : Option (Nat × Nat)) (r : Blk) : Mem := (outN 3 S oW wrT (d.waits.flatMap wrF)).set p r
theorem devM_E {S : Mem} {p : Nat} {d : D} {oE oW : Option (Nat × Nat)} (h : Apart S p oE oW) (r : Blk) : outN 2 (baseE S p d oW r) oE extT (d.ext.flatMap extF) = (outN 3 (outN 2 S oE extT (d.ext.flatMap extF)) oW wrT (d.waits.flatMap wrF)).set p r := by
 unfold baseE
 rw [outN_set (fun q c e=>(h.e q c e).2),outN_comm (fun q c q' c' e e'=>h.ew q c q' c' e e')]
theorem okO_baseE {S : Mem} {p : Nat} {d : D} {oE oW : Option (Nat × Nat)} (h : Apart S p oE oW) (f : Fits d oE oW) (r : Blk) : OkO (baseE S p d oW r) oE d.ext.length :=
 ⟨f.e0,fun b c e=>⟨fresh_more (fresh_outN_mk (h.e b c e).1 (fun q c' e'=>Ne.symm (h.ew b c q c' e e'))) (h.e b c e).2,f.e b c e⟩⟩
theorem apart_E {S : Mem} {p : Nat} {d : D} {oE oE' oW : Option (Nat × Nat)} {r : Blk} {k : Nat} (h : Apart S p oE oW) (h' : OkO (baseE S p d oW r) oE' k) : Apart S p oE' oW :=
 ⟨fun b c e=>by
  obtain ⟨h1,h2⟩:=fresh_set (h'.own b c e).1
  exact ⟨(fresh_outN h1).1,h2⟩,h.w,fun b c b' c' e e'=>by
  obtain ⟨h1,h2⟩:=fresh_set (h'.own b c e).1
  exact (fresh_outN h1).2 b' c' e',h.p⟩
theorem fits_E {S : Mem} {p : Nat} {d d' : D} {oE oE' oW : Option (Nat × Nat)} {r : Blk} {k : Nat} (f : Fits d oE oW) (h' : OkO (baseE S p d oW r) oE' k) (hk : d'.ext.length = k) (hw : d'.waits = d.waits) : Fits d' oE' oW :=
 ⟨fun e=>by rw [hk];exact h'.nil e,fun e=>by rw [hw];exact f.w0 e,fun b c e=>by rw [hk];exact (h'.own b c e).2,fun b c e=>by rw [hw];exact f.w b c e⟩
/-- The extents have turned: the block is written anew. -/
theorem devM_E' {S : Mem} {p : Nat} {d d' : D} {oE oE' oW : Option (Nat × Nat)} {r : Blk} {k : Nat} (h : Apart S p oE oW) (h' : OkO (baseE S p d oW r) oE' k) (hw : d'.waits = d.waits) : (outN 2 (baseE S p d oW r) oE' extT (d'.ext.flatMap extF)).set p (devB d' oE' oW) = devM S p d' oE' oW := by
 have ha:=apart_E h h'
 rw [devM_eq]
 unfold baseE
 rw [outN_set (fun q c e=>(ha.e q c e).2),Mem.set_set,outN_comm (fun q c q' c' e e'=>ha.ew q c q' c' e e'),hw]
/-- All but what waits. -/
def baseW (S : Mem) (p : Nat) (d : D) (oE : Option (Nat × Nat)) (r : Blk) : Mem := (outN 2 S oE extT (d.ext.flatMap extF)).set p r
theorem devM_W {S : Mem} {p : Nat} {d : D} {oE oW : Option (Nat × Nat)} (h : Apart S p oE oW) (r : Blk) : outN 3 (baseW S p d oE r) oW wrT (d.waits.flatMap wrF) = (outN 3 (outN 2 S oE extT (d.ext.flatMap extF)) oW wrT (d.waits.flatMap wrF)).set p r := by
 unfold baseW
 rw [outN_set (fun q c e=>(h.w q c e).2)]
theorem okO_baseW {S : Mem} {p : Nat} {d : D} {oE oW : Option (Nat × Nat)} (h : Apart S p oE oW) (f : Fits d oE oW) (r : Blk) : OkO (baseW S p d oE r) oW d.waits.length :=
 ⟨f.w0,fun b c e=>⟨fresh_more (fresh_outN_mk (h.w b c e).1 (fun q c' e'=>h.ew q c' b c e' e)) (h.w b c e).2,f.w b c e⟩⟩
theorem apart_W {S : Mem} {p : Nat} {d : D} {oE oW oW' : Option (Nat × Nat)} {r : Blk} {k : Nat} (h : Apart S p oE oW) (h' : OkO (baseW S p d oE r) oW' k) : Apart S p oE oW' :=
 ⟨h.e,fun b c e=>by
  obtain ⟨h1,h2⟩:=fresh_set (h'.own b c e).1
  exact ⟨(fresh_outN h1).1,h2⟩,fun b c b' c' e e'=>by
  obtain ⟨h1,h2⟩:=fresh_set (h'.own b' c' e').1
  exact Ne.symm ((fresh_outN h1).2 b c e),h.p⟩
theorem fits_W {S : Mem} {p : Nat} {d d' : D} {oE oW oW' : Option (Nat × Nat)} {r : Blk} {k : Nat} (f : Fits d oE oW) (h' : OkO (baseW S p d oE r) oW' k) (hk : d'.waits.length = k) (he : d'.ext = d.ext) : Fits d' oE oW' :=
 ⟨fun e=>by rw [he];exact f.e0 e,fun e=>by rw [hk];exact h'.nil e,fun b c e=>by rw [he];exact f.e b c e,fun b c e=>by rw [hk];exact (h'.own b c e).2⟩
theorem devM_W' {S : Mem} {p : Nat} {d d' : D} {oE oW oW' : Option (Nat × Nat)} {r : Blk} {k : Nat} (h : Apart S p oE oW) (h' : OkO (baseW S p d oE r) oW' k) (he : d'.ext = d.ext) : (outN 3 (baseW S p d oE r) oW' wrT (d'.waits.flatMap wrF)).set p (devB d' oE oW') = devM S p d' oE oW' := by
 have ha:=apart_W h h'
 rw [devM_eq]
 unfold baseW
 rw [outN_set (fun q c e=>(ha.w q c e).2),Mem.set_set,he]
theorem outV_cells (o : Option (Nat × Nat)) (n : Nat) : (outV o n).cells = #[outV o n] := by cases o <;> rfl
theorem outV_one (o : Option (Nat × Nat)) (n : Nat) : (outV o n).oneCell' = true := by cases o <;> rfl
end Go.Proofs.YthbadpcmdlfmdaaGreatDoor
namespace Go.Proofs
open Go.Shelf
def Tryz.lays105_ren : Go.Shelf.Ren := ⟨fun | 105 => 67 | 212 => 90 | 99 => 91 | 165 => 92 | 166 => 17 | 170 => 93 | 169 => 19 | 263 => 109 | 264 => 110 | 206 => 111 | 240 => 41 | 241 => 112 | 276 => 62 | 277 => 120 | n => n, fun | 9 => 9 | 3 => 3 | 4 => 4 | 20 => 20 | 0 => 0 | 46 => 116 | 109 => 157 | 5 => 5 | 72 => 57 | 76 => 62 | 51 => 162 | 146 => 173 | 53 => 50 | 148 => 175 | 70 => 54 | 37 => 55 | 75 => 61 | 127 => 106 | 164 => 124 | 80 => 65 | n => n, fun | n => n⟩
theorem Tryz.lays105 : Go.Proofs.Lays.n105 Tryz.prog Tryz.lays105_ren := {
 mixed:=by kernel_rfl
 f99:=Tryz.func91.trans (congrArg some (by kernel_rfl))
 f105:=Tryz.func67.trans (congrArg some (by kernel_rfl))
 f165:=Tryz.func92.trans (congrArg some (by kernel_rfl))
 f166:=Tryz.func17.trans (congrArg some (by kernel_rfl))
 f169:=Tryz.func19.trans (congrArg some (by kernel_rfl))
 f170:=Tryz.func93.trans (congrArg some (by kernel_rfl))
 f206:=Tryz.func111.trans (congrArg some (by kernel_rfl))
 f212:=Tryz.func90.trans (congrArg some (by kernel_rfl))
 f240:=Tryz.func41.trans (congrArg some (by kernel_rfl))
 f241:=Tryz.func112.trans (congrArg some (by kernel_rfl))
 f263:=Tryz.func109.trans (congrArg some (by kernel_rfl))
 f264:=Tryz.func110.trans (congrArg some (by kernel_rfl))
 f276:=Tryz.func62.trans (congrArg some (by kernel_rfl))
 f277:=Tryz.func120.trans (congrArg some (by kernel_rfl))
 t0:=Tryz.underlying0
 a0:=Tryz.isAgg0
 z0:=Tryz.sizeOf0
 v0:=Tryz.zeroValue0
 t3:=Tryz.underlying3
 a3:=Tryz.isAgg3
 z3:=Tryz.sizeOf3
 v3:=Tryz.zeroValue3
 t4:=Tryz.underlying4
 a4:=Tryz.isAgg4
 z4:=Tryz.sizeOf4
 v4:=Tryz.zeroValue4
 t5:=Tryz.underlying5
 a5:=Tryz.isAgg5
 z5:=Tryz.sizeOf5
 v5:=Tryz.zeroValue5
 t9:=Tryz.underlying9
 a9:=Tryz.isAgg9
 z9:=Tryz.sizeOf9
 v9:=Tryz.zeroValue9
 t20:=Tryz.underlying20
 a20:=Tryz.isAgg20
 z20:=Tryz.sizeOf20
 v20:=Tryz.zeroValue20
 t37:=Tryz.underlying55
 a37:=Tryz.isAgg55
 z37:=Tryz.sizeOf55
 v37:=Tryz.zeroValue55
 t46:=Tryz.underlying116
 a46:=Tryz.isAgg116
 z46:=Tryz.sizeOf116
 v46:=Tryz.zeroValue116
 t51:=Tryz.underlying162
 a51:=Tryz.isAgg162
 z51:=Tryz.sizeOf162
 v51:=Tryz.zeroValue162
 t53:=Tryz.underlying50
 a53:=Tryz.isAgg50
 z53:=Tryz.sizeOf50
 v53:=Tryz.zeroValue50
 t70:=Tryz.underlying54
 a70:=Tryz.isAgg54
 z70:=Tryz.sizeOf54
 v70:=Tryz.zeroValue54
 t72:=Tryz.underlying57
 a72:=Tryz.isAgg57
 z72:=Tryz.sizeOf57
 v72:=Tryz.zeroValue57
 t75:=Tryz.underlying61
 a75:=Tryz.isAgg61
 z75:=Tryz.sizeOf61
 v75:=Tryz.zeroValue61
 t76:=Tryz.underlying62
 a76:=Tryz.isAgg62
 z76:=Tryz.sizeOf62
 v76:=Tryz.zeroValue62
 t109:=Tryz.underlying157
 a109:=Tryz.isAgg157
 z109:=Tryz.sizeOf157
 v109:=Tryz.zeroValue157
 t127:=Tryz.underlying106
 a127:=Tryz.isAgg106
 z127:=Tryz.sizeOf106
 v127:=Tryz.zeroValue106
 t146:=Tryz.underlying173
 a146:=Tryz.isAgg173
 z146:=Tryz.sizeOf173
 v146:=Tryz.zeroValue173
 t148:=Tryz.underlying175
 a148:=Tryz.isAgg175
 z148:=Tryz.sizeOf175
 v148:=Tryz.zeroValue175
 t164:=Tryz.underlying124
 a164:=Tryz.isAgg124
 z164:=Tryz.sizeOf124
 v164:=Tryz.zeroValue124 }
theorem Tryz.Builder_Extra_105 : Builder.Extra Tryz.prog Tryz.lays105_ren := {
 sizeBuilder:=by kernel_rfl
 liesBuilder:=by kernel_rfl
 t5:=Tryz.underlying5
 a5:=Tryz.isAgg5
 z5:=Tryz.sizeOf5
 v5:=Tryz.zeroValue5
 infoByte:=by kernel_rfl
 cellsByte:=by kernel_rfl
 sizeByte:=by kernel_rfl
 neB5:=by decide }
open Go.RowKit Go.Lib in
/-- THE MAIN CASE: at least two copies of a string that is not empty. (LAID: no walk: one application.) -/
theorem Tryz.strings_Repeat_main (s : ByteArray) (c : Nat) (w : World) (hc2 : 2 ≤ c) (hc : c ≤ 9223372036854775807) (hlen : s.size * c ≤ 140737488355328) (h0 : 0 < s.size) :
  Calls Tryz.prog 67 #[.string s,.int .i64 c] w fun e w'=>e = .returned (.string ⟨(Lib.repeatL s.data.toList c).toArray⟩)∧Below w.heap.size w w':=Any.strings_Repeat_main Tryz.lays105 Tryz.Builder_Extra_105 s c w hc2 hc hlen h0
open Go.RowKit Go.Lib in
/-- **strings.Repeat: count ≥ 0, the result within one allocation: count copies of s.** (LAID: no walk: one application.) -/
theorem Tryz.strings_Repeat (s : ByteArray) (c : Nat) (w : World) (hc : c ≤ 9223372036854775807) (hlen : s.size * c ≤ 140737488355328) :
  Calls Tryz.prog 67 #[.string s,.int .i64 c] w fun e w'=>e = .returned (.string ⟨(Lib.repeatL s.data.toList c).toArray⟩)∧Below w.heap.size w w':=Any.strings_Repeat Tryz.lays105 Tryz.Builder_Extra_105 s c w hc hlen
end Go.Proofs
namespace Go.Proofs.YthbadpcmdlfmdaaGreatDoor
open Go.RowKit
open Mv Disk
set_option maxRecDepth 4000
def zeros (n : Nat) : ByteArray := bs (List.replicate (64 * n) 0)
theorem zeros_size (n : Nat) : (zeros n).size = 64 * n := by unfold zeros; rw [size_bs]; simp
def newD (d : D) (s : ByteArray) (n : Int) : D × Int := if ¬ nm s ∨ n < 1 then (d, 1) else if has d.ext s = true then (d, 4) else if d.size - used d.ext < n then (d, 8) else ({ d with ext := insAt d.ext (pos d.ext s) (s, zeros n.toNat) }, 0)
/-- What a disk at work answers, and becomes. -/
def DevR (S : Mem) (p : Nat) (q : D × Int) (r : Value) (S' : Mem) : Prop := ∃ oE oW, OkV S p q.1 oE oW ∧ r = .int .i64 q.2 ∧ S' = devM S p q.1 oE oW
theorem repeat_zero (c : Nat) : Lib.repeatL [0] c = List.replicate c (0 : UInt8) := by
 induction c with
 | zero=>rfl
 | succ c ih=>rw [List.replicate_succ,← ih];rfl
theorem shelf_Repeat (c : Nat) (S : Mem) (h1 : 2 ≤ c) (h2 : c ≤ 140737488355328) : ACall Tryz.prog 67 #[.string ⟨#[0]⟩, .int .i64 (c : Int)] S fun r S' => r = .string (bs (List.replicate c 0)) ∧ S' = S :=
 ACall.of_calls fun w=>by
  have:=Tryz.strings_Repeat_main ⟨#[0]⟩ c w h1 (by omega) (by show 1*c≤_;omega) (by decide)
  rw [show (⟨#[0]⟩ : ByteArray).data.toList = [0] from rfl,repeat_zero] at this
  exact this
set_option maxHeartbeats 2000000 in
theorem dev_New (p : Nat) (d : D) (s : ByteArray) (n : Int) (S : Mem) (oE oW : Option (Nat × Nat)) (hok : OkV S p d oE oW) (hR : Right d) :
  ACall Tryz.prog 43 #[.pointer (some ⟨p,0,none⟩),.string s,.int .i64 n] (devM S p d oE oW) (DevR S p (newD d s n)):=by
 have hrl:=right_len hR
 have hrd:=hok.rd (Nat.le_trans hrl.1 (by decide)) (Nat.le_trans hR.wl (by decide))
 have hp:(devM S p d oE oW).own p=some (devB d oE oW):=Mem.own_set_same _ _ _
 have hE:Sl 2 extF (devM S p d oE oW) (outV oE d.ext.length) d.ext:=((sl_outN ext_len (e:=extT) hok.dk.e rfl (Nat.le_trans hrl.1 (by decide))).less (outN_over hok.dk.w)).less (Mem.less_set _ _ _ hok.fr.1)
 have hap:=hok.apart
 have hft:=hok.fits
 have hs0:=hR.s0;have hs1:=hR.s1
 have hME:=devM_E hap (devB d oE oW) (d:=d)
 have hoE:=okO_baseE hap hft (devB d oE oW)
 rw [← devM_eq] at hME
 generalize hM:devM S p d oE oW=M at *
 unfold devB at hp
 unfold newD
 by_cases q1:nm s
 ·by_cases q2:n<1
  ·rw [if_pos (.inr q2)]
   refine ACall.enter (rs:=[.tmp 6]) 52 [(0,.pointer (some ⟨p,0,none⟩)),(1,.string s),(2,.int .i64 n)] Tryz.func43 rfl rfl (Nat.le_of_ble_eq_true rfl) rfl ⟨rfl,rfl,rfl,trivial⟩ ?_
   iterate 13 refine s1_ ?_
   refine ca_ rfl (disk_find _ d.ext s _ hE hR.ex.asc (Nat.le_trans hrl.1 (by decide))) ?_
   rintro _ S1 ⟨rfl,h1⟩
   rw [h1];clear h1 S1
   iterate 7 refine s1_ ?_
   refine su_ [(0,_),(1,_),(2,_),(6,_),(7,_),(8,_)] ?_
   iterate 5 refine s1_ ?_
   refine ARun.build1s (lit_lt rfl) ty_sl_153 rfl rfl ?_
   intro b21 f21
   have g21:=f21
   repeat ((with_reducible replace g21:=fresh_set g21);obtain ⟨g21,_⟩:=g21)
   have:=g21.ne hp;have:=g21.ne' hp
   refine ca_ rfl (disk_named _ [s] _ (sl_str1 own_)) ?_
   rintro _ S1 ⟨⟨t,rfl,ht⟩,h1⟩
   rw [h1];clear h1 S1
   obtain rfl:t=true:=ht.2 (one_all.2 q1)
   iterate 8 refine s1_ ?_
   refine su_ [(0,_),(1,_),(2,_),(6,_),(7,_),(8,_),(19,_)] ?_
   refine cT_ ?_
   iterate 8 refine s1_ ?_
   refine ⟨_,M,⟨_,_,rfl,rfl,rfl⟩,less_,?_⟩
   exact ⟨oE,oW,hok,rfl,hM.symm⟩
  ·rw [if_neg (fun h=>h.elim (fun h=>h q1) q2)]
   by_cases q3:has d.ext s=true
   ·rw [if_pos q3]
    refine ACall.enter (rs:=[.tmp 6]) 52 [(0,.pointer (some ⟨p,0,none⟩)),(1,.string s),(2,.int .i64 n)] Tryz.func43 rfl rfl (Nat.le_of_ble_eq_true rfl) rfl ⟨rfl,rfl,rfl,trivial⟩ ?_
    iterate 13 refine s1_ ?_
    refine ca_ rfl (disk_find _ d.ext s _ hE hR.ex.asc (Nat.le_trans hrl.1 (by decide))) ?_
    rintro _ S1 ⟨rfl,h1⟩
    rw [h1,q3];clear h1 S1
    iterate 7 refine s1_ ?_
    refine su_ [(0,_),(1,_),(2,_),(6,_),(7,_),(8,_)] ?_
    iterate 5 refine s1_ ?_
    refine ARun.build1s (lit_lt rfl) ty_sl_153 rfl rfl ?_
    intro b21 f21
    have g21:=f21
    repeat ((with_reducible replace g21:=fresh_set g21);obtain ⟨g21,_⟩:=g21)
    have:=g21.ne hp;have:=g21.ne' hp
    refine ca_ rfl (disk_named _ [s] _ (sl_str1 own_)) ?_
    rintro _ S1 ⟨⟨t,rfl,ht⟩,h1⟩
    rw [h1];clear h1 S1
    obtain rfl:t=true:=ht.2 (one_all.2 q1)
    iterate 8 refine s1_ ?_
    refine su_ [(0,_),(1,_),(2,_),(6,_),(7,_),(8,_),(19,_)] ?_
    refine cF_ ?_
    iterate 6 refine s1_ ?_
    refine su_ [(0,_),(1,_),(2,_),(6,_),(7,_),(8,_),(19,_),(28,_)] ?_
    refine cT_ ?_
    iterate 8 refine s1_ ?_
    refine ⟨_,M,⟨_,_,rfl,rfl,rfl⟩,less_,?_⟩
    exact ⟨oE,oW,hok,rfl,hM.symm⟩
   ·rw [if_neg q3]
    have q3':=Bool.eq_false_iff.2 q3
    by_cases q4:d.size-used d.ext<n
    ·rw [if_pos q4]
     refine ACall.enter (rs:=[.tmp 6]) 52 [(0,.pointer (some ⟨p,0,none⟩)),(1,.string s),(2,.int .i64 n)] Tryz.func43 rfl rfl (Nat.le_of_ble_eq_true rfl) rfl ⟨rfl,rfl,rfl,trivial⟩ ?_
     iterate 13 refine s1_ ?_
     refine ca_ rfl (disk_find _ d.ext s _ hE hR.ex.asc (Nat.le_trans hrl.1 (by decide))) ?_
     rintro _ S1 ⟨rfl,h1⟩
     rw [h1,q3'];clear h1 S1
     iterate 7 refine s1_ ?_
     refine su_ [(0,_),(1,_),(2,_),(6,_),(7,_),(8,_)] ?_
     iterate 5 refine s1_ ?_
     refine ARun.build1s (lit_lt rfl) ty_sl_153 rfl rfl ?_
     intro b21 f21
     have g21:=f21
     repeat ((with_reducible replace g21:=fresh_set g21);obtain ⟨g21,_⟩:=g21)
     have:=g21.ne hp;have:=g21.ne' hp
     refine ca_ rfl (disk_named _ [s] _ (sl_str1 own_)) ?_
     rintro _ S1 ⟨⟨t,rfl,ht⟩,h1⟩
     rw [h1];clear h1 S1
     obtain rfl:t=true:=ht.2 (one_all.2 q1)
     iterate 8 refine s1_ ?_
     refine su_ [(0,_),(1,_),(2,_),(6,_),(7,_),(8,_),(19,_)] ?_
     refine cF_ ?_
     iterate 6 refine s1_ ?_
     refine su_ [(0,_),(1,_),(2,_),(6,_),(7,_),(8,_),(19,_),(28,_)] ?_
     refine cF_ ?_
     iterate 4 refine s1_ ?_
     refine ca_ rfl (dev_Room p d _ (hrd.less less_) hR) ?_
     rintro _ S1 ⟨rfl,h1⟩
     rw [h1];clear h1 S1
     iterate 4 refine s1_ ?_
     refine su_ [(0,_),(1,_),(2,_),(6,_),(7,_),(8,_),(19,_),(28,_),(30,_)] ?_
     refine cT_ ?_
     iterate 8 refine s1_ ?_
     refine ⟨_,M,⟨_,_,rfl,rfl,rfl⟩,less_,?_⟩
     exact ⟨oE,oW,hok,rfl,hM.symm⟩
    ·rw [if_neg q4]
     obtain ⟨m,rfl⟩ : ∃ m:Nat,n=m:=⟨n.toNat,by omega⟩
     rw [Int.toNat_natCast]
     refine ACall.enter (rs:=[.tmp 6]) 52 [(0,.pointer (some ⟨p,0,none⟩)),(1,.string s),(2,.int .i64 (m:Int))] Tryz.func43 rfl rfl (Nat.le_of_ble_eq_true rfl) rfl ⟨rfl,rfl,rfl,trivial⟩ ?_
     iterate 13 refine s1_ ?_
     refine ca_ rfl (disk_find _ d.ext s _ hE hR.ex.asc (Nat.le_trans hrl.1 (by decide))) ?_
     rintro _ S1 ⟨rfl,h1⟩
     rw [h1,q3'];clear h1 S1
     iterate 7 refine s1_ ?_
     refine su_ [(0,_),(1,_),(2,_),(6,_),(7,_),(8,_)] ?_
     iterate 5 refine s1_ ?_
     refine ARun.build1s (lit_lt rfl) ty_sl_153 rfl rfl ?_
     intro b21 f21
     have g21:=f21
     repeat ((with_reducible replace g21:=fresh_set g21);obtain ⟨g21,_⟩:=g21)
     have:=g21.ne hp;have:=g21.ne' hp
     refine ca_ rfl (disk_named _ [s] _ (sl_str1 own_)) ?_
     rintro _ S1 ⟨⟨t,rfl,ht⟩,h1⟩
     rw [h1];clear h1 S1
     obtain rfl:t=true:=ht.2 (one_all.2 q1)
     iterate 8 refine s1_ ?_
     refine su_ [(0,_),(1,_),(2,_),(6,_),(7,_),(8,_),(19,_)] ?_
     refine cF_ ?_
     iterate 6 refine s1_ ?_
     refine su_ [(0,_),(1,_),(2,_),(6,_),(7,_),(8,_),(19,_),(28,_)] ?_
     refine cF_ ?_
     iterate 4 refine s1_ ?_
     refine ca_ rfl (dev_Room p d _ (hrd.less less_) hR) ?_
     rintro _ S1 ⟨rfl,h1⟩
     rw [h1];clear h1 S1
     iterate 4 refine s1_ ?_
     refine su_ [(0,_),(1,_),(2,_),(6,_),(7,_),(8,_),(19,_),(28,_),(30,_)] ?_
     refine cF_ ?_
     refine AWP.less M less_ ?_
     iterate 4 refine s1_ ?_
     refine AWP.draw [(0,true),(1,true),(2,true),(3,true),(4,true),(5,true),(6,true),(7,true),(8,true),(9,true),(10,false),(11,true),(12,false),(13,false),(14,true),(15,true),(16,true),(17,false)] [13,17] mixed (by kernel_rfl) ?_
     iterate 9 refine s1_ ?_
     refine dP (hc:=fun _=>Calm.as (v:=.int .i64 ((m:Int)*64)) (v':=.int .i64 ((64*m:Nat):Int)) (congrArg (Value.int .i64) (by omega)) (Calm.bin rfl rfl (bin_mulW (IntWalk.i64_in _ (by omega))))) (h:=?_)
     refine draw_only rfl ?_
     refine ca_ rfl (shelf_Repeat (64*m) _ (by omega) (by omega)) ?_
     rintro _ S1 ⟨rfl,h1⟩
     rw [h1];clear h1 S1
     refine arun_nil ⟨fun _=>less_,?_⟩
     refine s1_ ?_
     refine draw_only rfl ?_
     refine ARun.build1 (lit_lt rfl) ty_sl_25 rfl (by decide) (by decide) rfl rfl ?_
     intro b47 f47
     have g47:=f47
     repeat ((with_reducible replace g47:=fresh_set g47);obtain ⟨g47,_⟩:=g47)
     have:=g47.ne hp;have:=g47.ne' hp
     have hins:=ins_ext (baseE S p d oW (devB d oE oW)) oE d.ext (pos d.ext s) (s,zeros m) b47 hoE (by rw [hME];exact f47) (pos_le _ _) hrl.1
     rw [hME] at hins
     refine arun_nil ⟨fun _=>less_,?_⟩
     refine draw_only rfl ?_
     refine ca_ rfl (hins) ?_
     rintro _ S1 ⟨o',ho',rfl,h1⟩
     rw [h1];clear h1 S1
     have hap':=apart_E hap ho'
     have hp2:(outN 2 (baseE S p d oW (devB d oE oW)) o' extT ((insAt d.ext (pos d.ext s) (s,zeros m)).flatMap extF)).own p=some (devB d oE oW):=own_outN' (Mem.own_set_same _ _ _) (fun q c e=>(hap'.e q c e).2)
     have hE':=devM_E' (d':={ d with ext:=insAt d.ext (pos d.ext s) (s,zeros m) }) hap ho' rfl
     have hln:=ins_len (pos_le d.ext s) (s,zeros m)
     unfold devB at hp2
     refine arun_nil ⟨fun h=>absurd h (by decide),?_⟩
     iterate 3 refine s1_ ?_
     refine draw_only rfl ?_
     refine ARun.store1 rfl rfl ty_size_25 (outV_cells _ _) hp2 (show 1<5 from by decide) (outV_one _ _) ?_
     try simp only [k_ms,k_sz,k_ss,k_za,Nat.reduceAdd]
     refine arun_nil ⟨fun h=>absurd h (by decide),?_⟩
     iterate 2 refine s1_ ?_
     refine su_ [(0,_),(1,_),(2,_),(6,_),(7,_),(8,_),(19,_),(28,_),(30,_)] ?_
     iterate 6 refine s1_ ?_
     refine ⟨_,devM S p _ o' oW,⟨_,_,rfl,rfl,rfl⟩,(by rw [← hE'];unfold devB;rw [hln];exact Mem.Less.refl _),?_⟩
     exact ⟨o',oW,okV_mk hap' (fits_E hft ho' hln rfl),rfl,rfl⟩
 ·rw [if_pos (.inl q1)]
  refine ACall.enter (rs:=[.tmp 6]) 52 [(0,.pointer (some ⟨p,0,none⟩)),(1,.string s),(2,.int .i64 n)] Tryz.func43 rfl rfl (Nat.le_of_ble_eq_true rfl) rfl ⟨rfl,rfl,rfl,trivial⟩ ?_
  iterate 13 refine s1_ ?_
  refine ca_ rfl (disk_find _ d.ext s _ hE hR.ex.asc (Nat.le_trans hrl.1 (by decide))) ?_
  rintro _ S1 ⟨rfl,h1⟩
  rw [h1];clear h1 S1
  iterate 7 refine s1_ ?_
  refine su_ [(0,_),(1,_),(2,_),(6,_),(7,_),(8,_)] ?_
  iterate 5 refine s1_ ?_
  refine ARun.build1s (lit_lt rfl) ty_sl_153 rfl rfl ?_
  intro b21 f21
  have g21:=f21
  repeat ((with_reducible replace g21:=fresh_set g21);obtain ⟨g21,_⟩:=g21)
  have:=g21.ne hp;have:=g21.ne' hp
  refine ca_ rfl (disk_named _ [s] _ (sl_str1 own_)) ?_
  rintro _ S1 ⟨⟨t,rfl,ht⟩,h1⟩
  rw [h1];clear h1 S1
  obtain rfl:t=false:=Bool.eq_false_iff.2 (fun e=>q1 (one_all.1 (ht.1 e)))
  iterate 8 refine s1_ ?_
  refine su_ [(0,_),(1,_),(2,_),(6,_),(7,_),(8,_),(19,_)] ?_
  refine cT_ ?_
  iterate 8 refine s1_ ?_
  refine ⟨_,M,⟨_,_,rfl,rfl,rfl⟩,less_,?_⟩
  exact ⟨oE,oW,hok,rfl,hM.symm⟩
end Go.Proofs.YthbadpcmdlfmdaaGreatDoor
namespace Go.Proofs.YthbadpcmdlfmdaaGreatDoor
open Go.RowKit
open Mv Disk
set_option maxRecDepth 4000
noncomputable def opened (d : D) (f : D × Int) : D × Int := if (openD d).2 = 0 then f else openD d
theorem newD_lens {d : D} (hR : Right d) (s : ByteArray) (n : Int) : (newD d s n).1.ext.length ≤ 9223372036854775807 ∧ (newD d s n).1.waits.length ≤ 9223372036854775807 := by
 have h1:=(right_len hR).1
 have h2:=hR.wl
 have h3:=ins_len (pos_le d.ext s) (s,zeros n.toNat)
 unfold newD
 repeat' split
 all_goals (constructor <;> simp only <;> omega)
end Go.Proofs.YthbadpcmdlfmdaaGreatDoor
namespace Go.Proofs.YthbadpcmdlfmdaaGreatDoor
open Go.RowKit
open Mv Disk
set_option maxRecDepth 4000
theorem drop_get {α : Type} {l : List α} {i : Nat} (h : i < l.length) : l.drop i = l[i] :: l.drop (i + 1) := List.drop_eq_getElem_cons h
section
variable {P : Program} {N : Nat} {E : Env} {S : Mem} {dst : Option Nat} {ty : TypeId} {pos : String} {aft : Array Edge} {gd : Option (Nat × Bool)}
end
end Go.Proofs.YthbadpcmdlfmdaaGreatDoor
namespace Go.Proofs.YthbadpcmdlfmdaaGreatDoor
open Go.RowKit
open Mv Disk
set_option maxRecDepth 4000
def isN (s : ByteArray) (w : Wr) : Bool := decide (w.1 = s)
def filt (s : ByteArray) (l : List Wr) : List Wr := l.filter fun w => !isN s w
theorem filt_all {s : ByteArray} {l : List Wr} (h : ∀ w ∈ l, isN s w = false) : filt s l = l := by
 unfold filt;rw [List.filter_eq_self];intro w hw;rw [h w hw];rfl
end Go.Proofs.YthbadpcmdlfmdaaGreatDoor
namespace Go.Proofs.YthbadpcmdlfmdaaGreatDoor
open Go.RowKit
open Mv Disk
set_option maxRecDepth 4000
def forgetD (d : D) (s : ByteArray) : D := { d with waits := filt s d.waits }
/-- An extent is no more. -/
def eraseD (d : D) (s : ByteArray) : D := { d with ext := d.ext.eraseIdx (pos d.ext s) }
def freeD (d : D) (s : ByteArray) : D × Int := if has d.ext s = true then (forgetD (eraseD d s) s, 0) else (d, 3)
end Go.Proofs.YthbadpcmdlfmdaaGreatDoor
namespace Go.Proofs.YthbadpcmdlfmdaaGreatDoor
open Go.RowKit
open Mv Disk
set_option maxRecDepth 4000
theorem isN_no {s : ByteArray} {w : Wr} : isN s w = false ↔ w.1 ≠ s := by unfold isN; simp
def freesD (d0 : D) : D → List ByteArray → D × Int
  | d, [] => (d, 0)
  | d, s :: l => if (freeD d s).2 = 0 then freesD d0 (freeD d s).1 l else (d0, (freeD d s).2)
theorem right_lens {d : D} (h : Right d) : d.ext.length ≤ 9223372036854775807 ∧ d.waits.length ≤ 9223372036854775807 := ⟨Nat.le_trans (right_len h).1 (by decide), Nat.le_trans h.wl (by decide)⟩
end Go.Proofs.YthbadpcmdlfmdaaGreatDoor
namespace Go.Proofs.YthbadpcmdlfmdaaGreatDoor
open Go.RowKit
open Mv Disk
set_option maxRecDepth 4000
def addW (d : D) (w : Wr) : D := { d with waits := d.waits ++ [w] }
def fuseD (d : D) : D × Int := if d.fuse = 0 then ({ d with down := true }, 10) else if 0 < d.fuse then ({ d with fuse := d.fuse - 1 }, 0) else (d, 0)
def writeD (d : D) (s : ByteArray) (i : Int) (data : ByteArray) : D × Int := if (placeD d s i).2 ≠ 0 then (d, (placeD d s i).2) else if data.size ≠ 64 then (d, 2) else if d.waits.length = 16384 then (d, 8) else fuseD (addW d (s, i, data))
theorem add_flat (d : D) (w : Wr) : (addW d w).waits.flatMap wrF = d.waits.flatMap wrF ++ wrF w := by unfold addW; simp
theorem add_len (d : D) (w : Wr) : (addW d w).waits.length = d.waits.length + 1 := by unfold addW; simp
set_option maxHeartbeats 2000000 in
theorem dev_Write (p : Nat) (d : D) (s : ByteArray) (i : Int) (data : ByteArray) (S : Mem) (oE oW : Option (Nat × Nat)) (hok : OkV S p d oE oW) (hR : Right d) (hf1 : d.fuse ≤ 9223372036854775807) :
  ACall Tryz.prog 45 #[.pointer (some ⟨p,0,none⟩),.string s,.int .i64 i,.string data] (devM S p d oE oW) (DevR S p (writeD d s i data)):=by
 have hlens:=right_lens hR
 have hwl:=hR.wl
 have hf0:=hR.fu
 have hpl:=dev_place p d s i _ (hok.rd hlens.1 hlens.2) hR
 have hp:(devM S p d oE oW).own p=some (devB d oE oW):=Mem.own_set_same _ _ _
 have hap:=hok.apart
 have hft:=hok.fits
 have hME:=devM_W hap (devB d oE oW) (d:=d)
 have hoW:=okO_baseW hap hft (devB d oE oW)
 rw [← devM_eq] at hME
 have hfl:=flat_length wr_len d.waits
 have happ:=appN_self (e:=wrT) hoW hfl
 rw [hME] at happ
 have hmeq:=devM_eq S p d oE oW
 have hdc:∀ oW',(devM S p (addW d (s,i,data)) oE oW').own p=some (devB (addW d (s,i,data)) oE oW'):=fun oW'=>Mem.own_set_same _ _ _
 obtain ⟨qw,dw,hqw⟩:=outV_eq hok.dk.w
 generalize hM:devM S p d oE oW=M at *
 unfold devB at hp
 unfold writeD
 by_cases q1:(placeD d s i).2=0
 ·rw [if_neg (fun h=>h q1)]
  rw [q1] at hpl
  by_cases q2:data.size=64
  ·rw [if_neg (fun h=>h q2)]
   by_cases q3:d.waits.length=16384
   ·rw [if_pos q3]
    rw [hqw] at hp
    refine ACall.enter (rs:=[.tmp 8]) 75 [(0,.pointer (some ⟨p,0,none⟩)),(1,.string s),(2,.int .i64 i),(3,.string data)] Tryz.func45 rfl rfl (Nat.le_of_ble_eq_true rfl) rfl ⟨rfl,rfl,rfl,rfl,trivial⟩ ?_
    iterate 11 refine s1_ ?_
    refine ca_ rfl (hpl) ?_
    rintro _ S1 ⟨rfl,h1⟩
    rw [h1];clear h1 S1
    iterate 7 refine s1_ ?_
    refine su_ [(0,_),(1,_),(2,_),(3,_),(8,_),(10,_)] ?_
    iterate 6 refine s1_ ?_
    refine su_ [(0,_),(1,_),(2,_),(3,_),(8,_),(10,_),(19,_)] ?_
    refine cF_ ?_
    iterate 12 refine s1_ ?_
    refine su_ [(0,_),(1,_),(2,_),(3,_),(8,_),(10,_),(19,_),(21,_)] ?_
    refine cF_ ?_
    iterate 12 refine s1_ ?_
    refine su_ [(0,_),(1,_),(2,_),(3,_),(8,_),(10,_),(19,_),(21,_),(25,_)] ?_
    refine cT_ ?_
    iterate 8 refine s1_ ?_
    refine ⟨_,M,⟨_,_,rfl,rfl,rfl⟩,less_,?_⟩
    exact ⟨oE,oW,hok,rfl,hM.symm⟩
   ·rw [if_neg q3]
    refine ACall.enter (rs:=[.tmp 8]) 75 [(0,.pointer (some ⟨p,0,none⟩)),(1,.string s),(2,.int .i64 i),(3,.string data)] Tryz.func45 rfl rfl (Nat.le_of_ble_eq_true rfl) rfl ⟨rfl,rfl,rfl,rfl,trivial⟩ ?_
    iterate 11 refine s1_ ?_
    refine ca_ rfl (hpl) ?_
    rintro _ S1 ⟨rfl,h1⟩
    rw [h1];clear h1 S1
    iterate 7 refine s1_ ?_
    refine su_ [(0,_),(1,_),(2,_),(3,_),(8,_),(10,_)] ?_
    iterate 6 refine s1_ ?_
    refine su_ [(0,_),(1,_),(2,_),(3,_),(8,_),(10,_),(19,_)] ?_
    refine cF_ ?_
    iterate 12 refine s1_ ?_
    refine su_ [(0,_),(1,_),(2,_),(3,_),(8,_),(10,_),(19,_),(21,_)] ?_
    refine cF_ ?_
    iterate 7 refine s1_ ?_
    refine rC ((by rw [hqw];exact Calm.lenSl Tryz.underlying26 rfl)) ?_
    iterate 4 refine s1_ ?_
    refine su_ [(0,_),(1,_),(2,_),(3,_),(8,_),(10,_),(19,_),(21,_),(25,_)] ?_
    refine cF_ ?_
    iterate 15 refine s1_ ?_
    refine ARun.build1 (lit_lt rfl) ty_sl_26 rfl (by decide) (by decide) rfl rfl ?_
    intro b43 f43
    have g43:=f43
    repeat ((with_reducible replace g43:=fresh_set g43);obtain ⟨g43,_⟩:=g43)
    have:=g43.ne hp;have:=g43.ne' hp
    refine ARun.appendOK (n:=3) (o:=oW) (k:=d.waits.length) (m:=1) (cs:=d.waits.flatMap wrF) (lit_lt rfl) ty_sl_26 rfl rfl hfl hoW (happ.temp f43) rfl (src_own (Mem.own_set_same _ _ _) List.prefix_rfl) rfl (fun v hv=>wr_one [(s,i,data)] v (by rw [List.flatMap_cons,List.flatMap_nil,List.append_nil];exact hv)) (by omega) (by omega) ?_
    intro o' ho'
    have hp2:∀ cs,(outN 3 (baseW S p d oE (devB d oE oW)) o' wrT cs).own p=some (devB d oE oW):=fun cs=>own_outN' (Mem.own_set_same _ _ _) (fun q c e=>((apart_W hap ho').w q c e).2)
    have hE':=devM_W' (d':=addW d (s,i,data)) hap ho' rfl
    rw [add_flat] at hE'
    unfold devB at hp2
    iterate 3 refine s1_ ?_
    refine ARun.store1 rfl rfl ty_size_26 (outV_cells _ _) (hp2 _) (show 2<5 from by decide) (outV_one _ _) ?_
    try simp only [k_ms,k_sz,k_ss,k_za,Nat.reduceAdd]
    iterate 2 refine s1_ ?_
    refine su_ [(0,_),(1,_),(2,_),(3,_),(8,_),(10,_),(19,_),(21,_),(25,_)] ?_
    refine AWP.less (devM S p (addW d (s,i,data)) oE o') (by rw [← hE'];unfold devB;rw [add_len];exact Mem.Less.refl _) ?_
    have hp3:=hdc o'
    have hokk:∀ d',d'.waits=(addW d (s,i,data)).waits→d'.ext=d.ext→OkV S p d' oE o':=fun d' e1 e2=>okV_mk (apart_W hap ho') (fits_W hft ho' (by rw [e1,add_len]) e2)
    unfold devB at hp3
    simp only [show (addW d (s,i,data)).size=d.size from rfl,show (addW d (s,i,data)).fuse=d.fuse from rfl,show (addW d (s,i,data)).down=d.down from rfl] at hp3
    have hfu:(addW d (s,i,data)).fuse=d.fuse:=rfl
    generalize hM2:devM S p (addW d (s,i,data)) oE o'=M2 at *
    unfold fuseD
    rw [hfu]
    by_cases q4:d.fuse=0
    ·rw [if_pos q4]
     iterate 13 refine s1_ ?_
     refine su_ [(0,_),(1,_),(2,_),(3,_),(8,_),(10,_),(19,_),(21,_),(25,_),(48,_)] ?_
     refine cT_ ?_
     iterate 6 refine s1_ ?_
     refine ARun.store1 rfl rfl ty_size_4 rfl hp3 (show 4<5 from by decide) rfl ?_
     try simp only [k_ms,k_sz,k_ss,k_za,Nat.reduceAdd]
     iterate 2 refine s1_ ?_
     refine su_ [(0,_),(1,_),(2,_),(3,_),(8,_),(10,_),(19,_),(21,_),(25,_),(48,_)] ?_
     iterate 8 refine s1_ ?_
     refine ⟨_,devM S p { addW d (s,i,data) with down:=true } oE o',⟨_,_,rfl,rfl,rfl⟩,(by rw [← hM2];unfold devM;rw [Mem.set_set];exact Mem.Less.refl _),?_⟩
     exact ⟨oE,o',hokk _ rfl rfl,rfl,rfl⟩
    ·rw [if_neg q4]
     by_cases q5:0<d.fuse
     ·rw [if_pos q5]
      iterate 13 refine s1_ ?_
      refine su_ [(0,_),(1,_),(2,_),(3,_),(8,_),(10,_),(19,_),(21,_),(25,_),(48,_)] ?_
      refine cF_ ?_
      iterate 11 refine s1_ ?_
      refine su_ [(0,_),(1,_),(2,_),(3,_),(8,_),(10,_),(19,_),(21,_),(25,_),(48,_),(59,_)] ?_
      refine cT_ ?_
      iterate 10 refine s1_ ?_
      refine ARun.store1 rfl rfl ty_size_3 rfl hp3 (show 3<5 from by decide) rfl ?_
      try simp only [k_ms,k_sz,k_ss,k_za,Nat.reduceAdd]
      iterate 3 refine s1_ ?_
      refine su_ [(0,_),(1,_),(2,_),(3,_),(8,_),(10,_),(19,_),(21,_),(25,_),(48,_),(59,_)] ?_
      iterate 6 refine s1_ ?_
      refine ⟨_,devM S p { addW d (s,i,data) with fuse:=d.fuse-1 } oE o',⟨_,_,rfl,rfl,rfl⟩,(by rw [← hM2];unfold devM;rw [Mem.set_set];exact Mem.Less.refl _),?_⟩
      exact ⟨oE,o',hokk _ rfl rfl,rfl,rfl⟩
     ·rw [if_neg q5]
      iterate 13 refine s1_ ?_
      refine su_ [(0,_),(1,_),(2,_),(3,_),(8,_),(10,_),(19,_),(21,_),(25,_),(48,_)] ?_
      refine cF_ ?_
      iterate 11 refine s1_ ?_
      refine su_ [(0,_),(1,_),(2,_),(3,_),(8,_),(10,_),(19,_),(21,_),(25,_),(48,_),(59,_)] ?_
      refine cF_ ?_
      iterate 9 refine s1_ ?_
      refine ⟨_,devM S p (addW d (s,i,data)) oE o',⟨_,_,rfl,rfl,rfl⟩,(by rw [← hM2];exact Mem.Less.refl _),?_⟩
      exact ⟨oE,o',hokk _ rfl rfl,rfl,rfl⟩
  ·rw [if_pos q2]
   refine ACall.enter (rs:=[.tmp 8]) 75 [(0,.pointer (some ⟨p,0,none⟩)),(1,.string s),(2,.int .i64 i),(3,.string data)] Tryz.func45 rfl rfl (Nat.le_of_ble_eq_true rfl) rfl ⟨rfl,rfl,rfl,rfl,trivial⟩ ?_
   iterate 11 refine s1_ ?_
   refine ca_ rfl (hpl) ?_
   rintro _ S1 ⟨rfl,h1⟩
   rw [h1];clear h1 S1
   iterate 7 refine s1_ ?_
   refine su_ [(0,_),(1,_),(2,_),(3,_),(8,_),(10,_)] ?_
   iterate 6 refine s1_ ?_
   refine su_ [(0,_),(1,_),(2,_),(3,_),(8,_),(10,_),(19,_)] ?_
   refine cF_ ?_
   iterate 12 refine s1_ ?_
   refine su_ [(0,_),(1,_),(2,_),(3,_),(8,_),(10,_),(19,_),(21,_)] ?_
   refine cT_ ?_
   iterate 8 refine s1_ ?_
   refine ⟨_,M,⟨_,_,rfl,rfl,rfl⟩,less_,?_⟩
   exact ⟨oE,oW,hok,rfl,hM.symm⟩
 ·rw [if_pos q1]
  have hp1:(placeD d s i).2=1∨(placeD d s i).2=3:=by
   unfold placeD at q1 ⊢;repeat' split
   all_goals simp_all
  refine ACall.enter (rs:=[.tmp 8]) 75 [(0,.pointer (some ⟨p,0,none⟩)),(1,.string s),(2,.int .i64 i),(3,.string data)] Tryz.func45 rfl rfl (Nat.le_of_ble_eq_true rfl) rfl ⟨rfl,rfl,rfl,rfl,trivial⟩ ?_
  iterate 11 refine s1_ ?_
  refine ca_ rfl (hpl) ?_
  rintro _ S1 ⟨rfl,h1⟩
  rw [h1];clear h1 S1
  iterate 7 refine s1_ ?_
  refine su_ [(0,_),(1,_),(2,_),(3,_),(8,_),(10,_)] ?_
  iterate 6 refine s1_ ?_
  refine su_ [(0,_),(1,_),(2,_),(3,_),(8,_),(10,_),(19,_)] ?_
  refine cT_ ?_
  iterate 6 refine s1_ ?_
  refine su_ [(0,_),(1,_),(2,_),(3,_),(8,_),(10,_),(19,_)] ?_
  iterate 2 refine s1_ ?_
  refine ⟨_,M,⟨_,_,rfl,rfl,rfl⟩,less_,?_⟩
  exact ⟨oE,oW,hok,rfl,hM.symm⟩
end Go.Proofs.YthbadpcmdlfmdaaGreatDoor
namespace Go.Proofs.YthbadpcmdlfmdaaGreatDoor
open Go.RowKit
open Mv Disk
set_option maxRecDepth 4000
theorem flat_set {α : Type} {n : Nat} {f : α → List Value} (hn : ∀ x, (f x).length = n) (l : List α) (k : Nat) (y : α) (h : k < l.length) (q : Nat) (v : Value) (hq : q < n) (he : (f l[k]).set q v = f y) : (l.flatMap f).set (k * n + q) v = (l.set k y).flatMap f := by
 have e1:l=l.take k ++ l[k] :: l.drop (k+1):=by rw [← drop_get h,List.take_append_drop]
 have e2:l.set k y=l.take k ++ y :: l.drop (k+1):=by rw [List.set_eq_take_append_cons_drop,if_pos h]
 rw [e2]
 conv=>lhs;rw [e1]
 rw [List.flatMap_append,List.flatMap_append,List.flatMap_cons,List.flatMap_cons]
 have hl:=flat_length hn (l.take k)
 rw [List.length_take,Nat.min_eq_left (Nat.le_of_lt h)] at hl
 rw [List.set_append_right _ _ (by omega),List.set_append_left _ _ (by rw [hn];omega),show k*n+q-(List.flatMap f (List.take k l)).length=q from by omega,he]
theorem kn_at {S : Mem} {b o : Nat} {cs : List Value} (h : S.Knows ⟨b, o, none⟩ cs) (k : Nat) {v : Value} (hk : cs[k]? = some v) : S.Knows ⟨b, o + k, none⟩ [v] := fun w hv j u hj => by
 cases j with
 | zero =>
  simp only [List.getElem?_cons_zero,Option.some.injEq] at hj
  subst hj
  have:=h w hv k v hk
  rw [addr_add] at this ⊢;exact this
 | succ j=>simp at hj
theorem dev_ownE {S : Mem} {p : Nat} {d : D} {b c : Nat} {oW : Option (Nat × Nat)} (h : OkV S p d (some (b, c)) oW) : (devM S p d (some (b, c)) oW).own b = some ⟨extT, d.ext.flatMap extF, c * 2⟩ := by
 rw [devM_eq,← devM_E h.apart];exact Mem.own_set_same _ _ _
theorem dev_setE {S : Mem} {p : Nat} {d d' : D} {b c : Nat} {oW : Option (Nat × Nat)} (h : OkV S p d (some (b, c)) oW) (hw : d'.waits = d.waits) (hl : d'.ext.length = d.ext.length) (h1 : d'.size = d.size) (h2 : d'.fuse = d.fuse) (h3 : d'.down = d.down) : (devM S p d (some (b, c)) oW).set b ⟨extT, d'.ext.flatMap extF, c * 2⟩ = devM S p d' (some (b, c)) oW ∧ OkV S p d' (some (b, c)) oW := by
 have hf:=h.fits
 have e:devB d (some (b,c)) oW=devB d' (some (b,c)) oW:=by unfold devB;rw [hw,hl,h1,h2,h3]
 refine ⟨?_,okV_mk h.apart ⟨(fun x=>by cases x),fun x=>by rw [hw];exact hf.w0 x,fun b c x=>by rw [hl];exact hf.e b c x,fun b c x=>by rw [hw];exact hf.w b c x⟩⟩
 rw [devM_eq,devM_eq,← devM_E h.apart,← devM_E h.apart,e]
 unfold baseE
 rw [hw]
 exact Mem.set_set _ _ _ _
end Go.Proofs.YthbadpcmdlfmdaaGreatDoor
namespace Go.Proofs.YthbadpcmdlfmdaaGreatDoor
open Go.RowKit
open Mv Disk
set_option maxRecDepth 4000
theorem writeD_lens {d : D} (hR : Right d) (s : ByteArray) (i : Int) (data : ByteArray) : (writeD d s i data).1.ext.length ≤ 9223372036854775807 ∧ (writeD d s i data).1.waits.length ≤ 9223372036854775807 := by
 have h:=right_lens hR
 have h2:=hR.wl
 have h3:=add_len d (s,i,data)
 unfold writeD fuseD
 repeat' split
 ·exact h
 ·exact h
 ·exact h
 all_goals exact ⟨h.1,by simp only;omega⟩
end Go.Proofs.YthbadpcmdlfmdaaGreatDoor
namespace Go.Proofs.YthbadpcmdlfmdaaGreatDoor
open Go.RowKit
namespace Disk
open Mv
/-- A sector is put into a text. -/
def putS (x : ByteArray) (w : Wr) : ByteArray := bs (x.data.toList.take (64 * w.2.1.toNat) ++ w.2.2.data.toList ++ x.data.toList.drop (64 * w.2.1.toNat + 64))
theorem putS_size {x : ByteArray} {w : Wr} (h1 : 64 * w.2.1.toNat + 64 ≤ x.size) (h2 : w.2.2.size = 64) : (putS x w).size = x.size := by
 unfold putS
 rw [size_bs]
 simp only [List.length_append,List.length_take,List.length_drop,size_data,h2]
 omega
def accW (kp : Nat → Bool) (x : Ext) (l : List Wr) : Nat → Option ByteArray
  | 0 => none
  | n + 1 => match l[n]? with
    | some w => if w.1 = x.1 ∧ kp n = true then some (putS ((accW kp x l n).getD x.2) w) else accW kp x l n
    | none => accW kp x l n
theorem accW_succ (kp : Nat → Bool) (x : Ext) (l : List Wr) (n : Nat) (h : n < l.length) : accW kp x l (n + 1) = if l[n].1 = x.1 ∧ kp n = true then some (putS ((accW kp x l n).getD x.2) l[n]) else accW kp x l n := by
 rw [accW,List.getElem?_eq_getElem h]
/-- All that waits for an extent fits. -/
def Fit (x : Ext) (l : List Wr) : Prop := ∀ w ∈ l, w.1 = x.1 → 0 ≤ w.2.1 ∧ 64 * w.2.1.toNat + 64 ≤ x.2.size ∧ w.2.2.size = 64
theorem acc_size {kp : Nat → Bool} {x : Ext} {l : List Wr} (hf : Fit x l) : ∀ n, n ≤ l.length → ((accW kp x l n).getD x.2).size = x.2.size
 | 0,_=>rfl
 | n+1,h=>by
  have ih:=acc_size (kp:=kp) hf n (by omega)
  rw [accW_succ kp x l n (by omega)]
  split
  ·rename_i hc
   obtain ⟨_,h1,h2⟩:=hf _ (List.getElem_mem (by omega:n<l.length)) hc.1
   simp only [Option.getD_some]
   rw [putS_size (by rw [ih];exact h1) h2];exact ih
  ·exact ih
def doneX (kp : Nat → Bool) (l : List Wr) (x : Ext) : Ext := (x.1, (accW kp x l l.length).getD x.2)
def settleD (d : D) (kp : Nat → Bool) : D := { d with ext := d.ext.map (doneX kp d.waits), waits := [] }
/-- The first i of them done. -/
def mixE (kp : Nat → Bool) (w : List Wr) (l : List Ext) (i : Nat) : List Ext := (l.take i).map (doneX kp w) ++ l.drop i
theorem mixE_len (kp : Nat → Bool) (w : List Wr) (l : List Ext) (i : Nat) : (mixE kp w l i).length = l.length := by unfold mixE; simp; omega
theorem mixE_zero (kp : Nat → Bool) (w : List Wr) (l : List Ext) : mixE kp w l 0 = l := by simp [mixE]
theorem mixE_all (kp : Nat → Bool) (w : List Wr) (l : List Ext) : mixE kp w l l.length = l.map (doneX kp w) := by simp [mixE]
theorem mixE_at (kp : Nat → Bool) (w : List Wr) (l : List Ext) (i : Nat) (h : i < l.length) : mixE kp w l i = (l.take i).map (doneX kp w) ++ l[i] :: l.drop (i + 1) := by unfold mixE; rw [List.drop_eq_getElem_cons h]
theorem mixE_get (kp : Nat → Bool) (w : List Wr) (l : List Ext) (i : Nat) (h : i < l.length) (h' : i < (mixE kp w l i).length) : (mixE kp w l i)[i] = l[i] := by
 simp only [mixE_at kp w l i h]
 rw [List.getElem_append_right (by simp;omega)]
 simp [Nat.min_eq_left (Nat.le_of_lt h)]
theorem mixE_succ (kp : Nat → Bool) (w : List Wr) (l : List Ext) (i : Nat) (h : i < l.length) : mixE kp w l (i + 1) = (mixE kp w l i).set i (doneX kp w l[i]) := by
 rw [mixE_at kp w l i h,List.set_append_right _ _ (by simp;omega)]
 unfold mixE
 rw [take_get h,List.map_append,List.append_assoc,List.length_map,List.length_take,Nat.min_eq_left (Nat.le_of_lt h),Nat.sub_self]
 rfl
theorem right_fit {d : D} (h : Right d) {x : Ext} (hx : x ∈ d.ext) : Fit x d.waits := fun w hw e => by
 obtain ⟨y,hy,e2,h0,h1,h2⟩:=h.wr w hw
 have:y=x:=asc_inj h.ex.asc hy hx (e2.trans e)
 subst this
 have:=(eok_sec (h.ex.ok y hy)).2
 exact ⟨h0,by omega,h2⟩
end Disk
end Go.Proofs.YthbadpcmdlfmdaaGreatDoor
namespace Go.Proofs.YthbadpcmdlfmdaaGreatDoor
open Go.RowKit
open Mv Disk
set_option maxRecDepth 4000
section
variable {P : Program} {N : Nat} {ops : Array Oper} {E : Env} {S : Mem} {K : Env → Mem → Prop}
variable {ty : TypeId} {pos : String} {aft : Array Edge} {gd : Option (Nat × Bool)}
/-- copy of a text into bytes of one's own. -/
theorem Mv.ARun.copyStr {os : List Oper} {T T2 e : TypeId} {y : Nat} {z : List Value} {x1 x2 : Operand} {b o k c d : Nat} {r : Blk} {t : ByteArray} (hn : d < N) (hT : slT P T = some (e, 1, y, z))
  (hx:ev E x1=some (.slice (some ⟨b,o,none⟩) k c)) (hb:S.own b=some r) (hy:ev E x2=some (.string t)) (hle:t.size≤k) (ho:o+t.size≤r.cells.length)
  (h:ARun P N ops os K ((d,.int .i64 (t.size:Int)) :: E) (S.set b ⟨r.elem,spl r.cells o (cellsB t.data.toList),r.room⟩)) :
  ARun P N ops (⟨some d,.call ⟨.builtin .copy,#[x1,x2],#[T,T2]⟩,ty,pos,aft,none⟩ :: os) K E S:=fun a w g hv=>by
 rw [if_pos (by simp [Region.wanted])]
 obtain ⟨hu,i,v,e1,e2,e3,e4,e5⟩:=slT_spec hT
 have hex:(execOp a.eval ⟨some d,.call ⟨.builtin .copy,#[x1,x2],#[T,T2]⟩,ty,pos,aft,none⟩).run P w=((Builtin.copy_ #[T,T2] ty #[.slice (some ⟨b,o,none⟩) k c,.string t]).run P w).andThen fun v w'=>.ok (.value v) w':=by
  simp [execOp,resolve,invoke,builtin,g.ev hx,g.ev hy]
 unfold Oper.wp
 rw [hex]
 obtain ⟨cur,fz,k1,k2,k3,k4⟩:=hv.own b r hb
 have hcur:r.cells.length≤cur.size:=by have:=k2.length_le;simpa using this
 have hl:(cellsB t.data.toList).length=t.size:=by rw [cellsB_length,size_data]
 obtain ⟨q1,q2⟩:=store_cells (P:=P) hv hb (vs:=cellsB t.data.toList) (o:=o) (by omega) (.inl (by rw [hl];exact ho)) (fun v hv=>by
  obtain ⟨x,_,rfl⟩:=List.mem_map.1 hv
  rfl)
 have hr:=run_copy_string (P:=P) w T T2 ty e b o k c t hu (fun w=>by simp [Go.sizeOf,typeInfo,e1,e3]) hle
  (fun j hj=>by simp [World.cell?,k1];omega) (fun j hj=>by have:=k4 (o+j) (.inl (by omega));simpa [World.frozen?,k1] using this)
 rw [hr]
 exact ⟨_,_,h,g.put hn _,q2⟩
end
theorem spl_cells {l t : List UInt8} {k : Nat} (h : k + t.length ≤ l.length) : spl (cellsB l) k (cellsB t) = cellsB (l.take k ++ t ++ l.drop (k + t.length)) := by
 unfold spl cellsB
 simp only [List.map_append,List.map_take,List.map_drop,List.length_map]
theorem putS_cells {x : ByteArray} {w : Wr} (h : 64 * w.2.1.toNat + 64 ≤ x.size) (h2 : w.2.2.size = 64) : spl (cellsB x.data.toList) (0 + 64 * w.2.1.toNat * 1) (cellsB w.2.2.data.toList) = cellsB (putS x w).data.toList := by
 rw [show 0+64*w.2.1.toNat*1=64*w.2.1.toNat from by omega,spl_cells (by rw [size_data,size_data,h2];exact h),size_data,h2]
 unfold putS;rfl
end Go.Proofs.YthbadpcmdlfmdaaGreatDoor
namespace Go.Proofs.YthbadpcmdlfmdaaGreatDoor
open Go.RowKit
open Mv Disk
set_option maxRecDepth 4000
abbrev u8T : TypeId := 5
/-- What the bytes of an extent are in: none, or a block of one's own. -/
def OkB (M : Mem) (o : Option (Nat × Nat)) (n : Nat) : Prop := ∀ b c, o = some (b, c) → Fresh M b ∧ n ≤ c
set_option maxHeartbeats 8000000 in
theorem dev_settle (p : Nat) (d : D) (S : Mem) (oE oW : Option (Nat × Nat)) (hok : OkV S p d oE oW) (hR : Right d) (f : FuncId) (caps : List Value) (hgo : goFn Tryz.prog f = true) (kp : Nat → Bool)
  (hkeep:∀ (k:Nat) (M:Mem),k<d.waits.length→S.Less M→ACall Tryz.prog f (([] : List Value) ++ [Value.int .i64 (k:Int)] ++ caps).toArray M fun r S'=>r = .bool (kp k)∧S'=M) :
  ACall Tryz.prog 69 #[.pointer (some ⟨p,0,none⟩),.func (.func f) #[] caps.toArray] (devM S p d oE oW) fun r S'=>r = .tuple #[]∧OkV S p (settleD d kp) oE none∧S'=devM S p (settleD d kp) oE none:=by
 have hrl:=right_len hR
 have hlens:=right_lens hR
 have hwl:=hR.wl
 have hp:(devM S p d oE oW).own p=some (devB d oE oW):=Mem.own_set_same _ _ _
 obtain ⟨qe,de,hqe⟩:=outV_eq hok.dk.e
 obtain ⟨qw,dw,hqw⟩:=outV_eq hok.dk.w
 have hp':=hp
 unfold devB at hp'
 refine ACall.enter (rs:=[]) 73 [(0,.pointer (some ⟨p,0,none⟩)),(1,.func (.func f) #[] caps.toArray)] Tryz.func69 rfl rfl (Nat.le_of_ble_eq_true rfl) rfl ⟨rfl,rfl,trivial⟩ ?_
 iterate 8 refine s1_ ?_
 refine rC ((by rw [hqe];exact Calm.lenSl Tryz.underlying25 rfl)) ?_
 iterate 3 refine s1_ ?_
 refine su_ [(0,_),(1,_),(13,_),(14,_),(15,_)] ?_
 refine s1_ ?_
 refine AWP.loop (X:=Nat) (fun x=>[(0,.pointer (some ⟨p,0,none⟩)),(1,.func (.func f) #[] caps.toArray),(13,outV oE d.ext.length),(14,.int .i64 d.ext.length),(15,.int .i64 x)]) (fun x=>devM S p { d with ext:=mixE kp d.waits d.ext x } oE oW) (fun x=>x≤d.ext.length∧OkV S p { d with ext:=mixE kp d.waits d.ext x } oE oW) (fun x=>d.ext.length-x) (0) ⟨rfl,rfl,rfl,rfl,rfl,trivial⟩ (by rw [mixE_zero];exact Mem.Less.refl _) (⟨Nat.zero_le _,by rw [mixE_zero];exact hok⟩) ?_
 rintro i ⟨hi,hoki⟩
 (try dsimp only at *)
 have hml:=mixE_len kp d.waits d.ext i
 have hpi:(devM S p { d with ext:=mixE kp d.waits d.ext i } oE oW).own p=some (devB { d with ext:=mixE kp d.waits d.ext i } oE oW):=Mem.own_set_same _ _ _
 unfold devB at hpi
 simp only at hpi
 iterate 6 refine s1_ ?_
 refine AWP.condB rfl (fun hc=>?_) (fun hc=>?_)
 ·have hc:i<d.ext.length:=by have:=of_decide_eq_true hc;omega
  obtain ⟨⟨b,c⟩,rfl⟩ : ∃ q,oE=some q:=by cases hq:oE with | none=>(have:=hoki.fits.e0 hq;simp only at this;omega) | some q=>exact ⟨q,rfl⟩
  have hbE:=dev_ownE hoki
  have hmg:=mixE_get kp d.waits d.ext i hc (by omega)
  have hmsu:=mixE_succ kp d.waits d.ext i hc
  have hxm:=List.getElem_mem hc
  have hfit:=right_fit hR hxm
  have hsx:=right_sec hR hxm
  have hasz:=fun n h=>acc_size (kp:=kp) hfit n h
  have hSi:=hoki.less
  have hWS:Sl 3 wrF (devM S p { d with ext:=mixE kp d.waits d.ext i } (some (b,c)) oW) (outV oW d.waits.length) d.waits:=(sl_outN wr_len (e:=wrT) hoki.dk.w rfl hlens.2).less (Mem.less_set _ _ _ hoki.fr.1)
  rw [hqw] at hWS
  have hki:(devM S p { d with ext:=mixE kp d.waits d.ext i } (some (b,c)) oW).Knows ⟨b,0+i*2,none⟩ (extF d.ext[i]):=Mem.own_knows hbE _ _ (fun j v hj=>by have:=flat_get ext_len (mixE kp d.waits d.ext i) i (by omega) j v (by rw [hmg];exact hj);rw [← this];congr 1;omega)
  have hdx:doneX kp d.waits d.ext[i]=(d.ext[i].1,(accW kp d.ext[i] d.waits d.waits.length).getD d.ext[i].2):=rfl
  rw [hdx] at hmsu
  have hasu:=accW_succ kp d.ext[i] d.waits
  have hse:=fun y=>dev_setE (d':={ d with ext:=(mixE kp d.waits d.ext i).set i y }) hoki rfl (by simp) rfl rfl rfl
  have hcl:0+i*2+1<((mixE kp d.waits d.ext i).flatMap extF).length:=by rw [flat_length ext_len,hml];omega
  simp only at hbE hse
  generalize hxx:d.ext[i]=x at *
  unfold extF at hki
  generalize hMi:devM S p { d with ext:=mixE kp d.waits d.ext i } (some (b,c)) oW=Mi at *
  iterate 7 refine s1_ ?_
  refine rC (Calm.indexS Tryz.underlying25 ty_size_130 rfl rfl (by omega) (by omega)) ?_
  refine s1_ ?_
  refine ARun.alloc (lit_lt rfl) ty_zero_130 ?_
  intro b5 f5
  have g5:=f5
  repeat ((with_reducible replace g5:=fresh_set g5);obtain ⟨g5,_⟩:=g5)
  refine nl_ ?_
  iterate 4 refine s1_ ?_
  refine su_ [(0,_),(1,_),(13,_),(14,_),(15,_),(16,_),(5,_),(4,_)] ?_
  have hpb5:=f5.ne hpi
  iterate 13 refine s1_ ?_
  refine rC ((by rw [hqw];exact Calm.lenSl Tryz.underlying26 rfl)) ?_
  rw [hqw]
  iterate 3 refine s1_ ?_
  refine su_ [(0,_),(1,_),(13,_),(14,_),(15,_),(16,_),(5,_),(4,_),(6,_),(24,_),(25,_),(26,_)] ?_
  refine s1_ ?_
  refine AWP.loop (X:=Nat × Option (Nat × Nat)) (fun y=>[(0,.pointer (some ⟨p,0,none⟩)),(1,.func (.func f) #[] caps.toArray),(13,outV (some (b,c)) d.ext.length),(14,.int .i64 d.ext.length),(15,.int .i64 i),(4,.int .i64 i),(5,.pointer (some ⟨b5,0,none⟩)),(6,outV y.2 x.2.size),(24,.slice qw d.waits.length dw),(25,.int .i64 d.waits.length),(26,.int .i64 y.1)]) (fun y=>outM (Mi.set b5 ⟨130,[.string x.1,.string x.2],2⟩) y.2 u8T (cellsB ((accW kp x d.waits y.1).getD x.2).data.toList)) (fun y=>y.1≤d.waits.length∧OkB (Mi.set b5 ⟨130,[.string x.1,.string x.2],2⟩) y.2 x.2.size∧(y.2=none ↔ accW kp x d.waits y.1=none)) (fun y=>d.waits.length-y.1) ((0,none)) ⟨rfl,rfl,rfl,rfl,rfl,rfl,rfl,rfl,rfl,rfl,rfl,trivial⟩ (Mem.Less.refl _) (⟨Nat.zero_le _,(fun b c e=>by cases e),by simp [accW]⟩) ?_
  rintro ⟨k,ob⟩ ⟨hk,hob,hoa⟩
  (try dsimp only at *)
  have hsz:=hasz k hk
  iterate 6 refine s1_ ?_
  refine AWP.condB rfl (fun hc2=>?_) (fun hc2=>?_)
  ·have hc2:k<d.waits.length:=by have:=of_decide_eq_true hc2;omega
   obtain ⟨_,_,ew1,ew2,ew3,hW3⟩:=id hWS
   cases ew1
   obtain ⟨bw,ow,rfl,hkkw⟩:=hW3.resolve_left (fun e=>by rw [e] at hc2;simp at hc2)
   have hkw:=hkkw k hc2
   have hsu:=hasu k hc2
   have hfw:=hfit _ (List.getElem_mem hc2)
   generalize hw:d.waits[k]=w at *
   unfold wrF at hkw
   rcases ob with _ | ⟨bd,cd⟩
   ·have hacc:accW kp x d.waits k=none:=hoa.1 rfl
    rw [hacc] at hsu hsz
    simp only [Option.getD_none] at hsu hsz
    have hb5:(Mi.set b5 ⟨130,[.string x.1,.string x.2],2⟩).own b5=some ⟨130,[.string x.1,.string x.2],2⟩:=Mem.own_set_same _ _ _
    simp only [outM,outV]
    have hML:Mi.Less (Mi.set b5 ⟨130,[.string x.1,.string x.2],2⟩):=Mem.less_set _ _ _ f5.1
    have hkw':=hkw.less hML
    iterate 7 refine s1_ ?_
    refine rC (Calm.indexS Tryz.underlying26 ty_size_134 rfl rfl (by omega) (by omega)) ?_
    refine s1_ ?_
    refine ARun.alloc (lit_lt rfl) ty_zero_134 ?_
    intro b8 f8
    have g8:=f8
    repeat ((with_reducible replace g8:=fresh_set g8);obtain ⟨g8,_⟩:=g8)
    refine nl_ ?_
    iterate 4 refine s1_ ?_
    refine su_ [(0,_),(1,_),(13,_),(14,_),(15,_),(4,_),(5,_),(6,_),(24,_),(25,_),(26,_),(27,_),(8,_),(7,_)] ?_
    by_cases hn:w.1=x.1
    ·by_cases hkk:kp k=true
     ·rw [if_pos ⟨hn,hkk⟩] at hsu
      obtain ⟨hw0,hw1,hw2⟩:=hfw hn
      iterate 7 refine s1_ ?_
      refine rC (Calm.bin rfl rfl (bin_bool (bin_str_neq _ _) (bnot_dec_false hn))) ?_
      iterate 3 refine s1_ ?_
      refine rUn 36 ?_
      refine ARun.callV (first:=[]) (cap:=caps) (lit_lt rfl) hgo rfl rfl (hkeep k _ hc2 (hSi.trans (hML.trans less_))) ?_
      rintro _ S1 ⟨rfl,h1⟩
      rw [h1,hkk];clear h1 S1
      iterate 4 refine s1_ ?_
      refine su_ [(0,_),(1,_),(13,_),(14,_),(15,_),(4,_),(5,_),(6,_),(24,_),(25,_),(26,_),(27,_),(8,_),(7,_),(41,_)] ?_
      refine cF_ ?_
      iterate 9 refine s1_ ?_
      refine su_ [(0,_),(1,_),(13,_),(14,_),(15,_),(4,_),(5,_),(6,_),(24,_),(25,_),(26,_),(27,_),(8,_),(7,_),(41,_),(43,_)] ?_
      refine cT_ ?_
      iterate 3 refine s1_ ?_
      refine ARun.toBytes (lit_lt rfl) ty_str_9 ty_bytes_55 rfl ?_
      intro b46 c46 f46 hc46
      have g46:=f46
      repeat ((with_reducible replace g46:=fresh_set g46);obtain ⟨g46,_⟩:=g46)
      iterate 3 refine s1_ ?_
      refine su_ [(0,_),(1,_),(13,_),(14,_),(15,_),(4,_),(5,_),(6,_),(24,_),(25,_),(26,_),(27,_),(8,_),(7,_),(41,_),(43,_)] ?_
      refine AWP.draw [(0,true),(1,true),(2,true),(3,true),(4,true),(5,true),(6,true),(7,false)] [7] mixed (by kernel_rfl) ?_
      iterate 4 refine s1_ ?_
      refine dP (hc:=fun _=>Calm.sliceLo (64*w.2.1.toNat) Tryz.underlying55 ty_size_5 rfl rfl (by omega) (by omega) (by omega)) (h:=?_)
      iterate 2 refine s1_ ?_
      refine draw_only rfl ?_
      refine ARun.copyStr (lit_lt rfl) ty_sl_55 rfl own_ rfl (by omega) (by simp only [cellsB_length,size_data];omega) ?_
      have hpc:=putS_cells (x:=x.2) (w:=w) hw1 hw2
      refine arun_nil ⟨fun h=>absurd h (by decide),?_⟩
      iterate 3 refine s1_ ?_
      refine su_ [(0,_),(1,_),(13,_),(14,_),(15,_),(4,_),(5,_),(6,_),(24,_),(25,_),(26,_),(27,_),(8,_),(7,_),(41,_),(43,_)] ?_
      iterate 5 refine s1_ ?_
      refine ⟨(k+1,some (b46,c46)),?_,?_,?_,?_⟩
      all_goals (try dsimp only)
      ·exact ⟨rfl,rfl,rfl,rfl,rfl,rfl,rfl,rfl,rfl,rfl,some_int (by simp),trivial⟩
      ·simp only [hsu,Option.getD_some,← hpc,outM];exact less_
      ·exact ⟨hc2,fun b' c' e=>by cases e;exact ⟨fresh_more g46 (by assumption),hc46⟩,by simp [hsu]⟩
      ·omega
     ·rw [if_neg (fun h=>hkk h.2)] at hsu
      iterate 7 refine s1_ ?_
      refine rC (Calm.bin rfl rfl (bin_bool (bin_str_neq _ _) (bnot_dec_false hn))) ?_
      iterate 3 refine s1_ ?_
      refine rUn 36 ?_
      refine ARun.callV (first:=[]) (cap:=caps) (lit_lt rfl) hgo rfl rfl (hkeep k _ hc2 (hSi.trans (hML.trans less_))) ?_
      rintro _ S1 ⟨rfl,h1⟩
      rw [h1,Bool.eq_false_iff.2 hkk];clear h1 S1
      iterate 4 refine s1_ ?_
      refine su_ [(0,_),(1,_),(13,_),(14,_),(15,_),(4,_),(5,_),(6,_),(24,_),(25,_),(26,_),(27,_),(8,_),(7,_),(41,_)] ?_
      refine cT_ ?_
      iterate 9 refine s1_ ?_
      refine ⟨(k+1,none),?_,?_,?_,?_⟩
      all_goals (try dsimp only)
      ·exact ⟨rfl,rfl,rfl,rfl,rfl,rfl,rfl,rfl,rfl,rfl,some_int (by simp),trivial⟩
      ·(try simp only [hsu,outM,Option.getD_none,Option.getD_some]);exact less_
      ·exact ⟨hc2,hob,by simp [hsu]⟩
      ·omega
    ·rw [if_neg (fun h=>hn h.1)] at hsu
     iterate 7 refine s1_ ?_
     refine rC (Calm.bin rfl rfl (bin_bool (bin_str_neq _ _) (bnot_dec_true hn))) ?_
     iterate 8 refine s1_ ?_
     refine su_ [(0,_),(1,_),(13,_),(14,_),(15,_),(4,_),(5,_),(6,_),(24,_),(25,_),(26,_),(27,_),(8,_),(7,_),(41,_)] ?_
     refine cT_ ?_
     iterate 9 refine s1_ ?_
     refine ⟨(k+1,none),?_,?_,?_,?_⟩
     all_goals (try dsimp only)
     ·exact ⟨rfl,rfl,rfl,rfl,rfl,rfl,rfl,rfl,rfl,rfl,some_int (by simp),trivial⟩
     ·(try simp only [hsu,outM,Option.getD_none,Option.getD_some]);exact less_
     ·exact ⟨hc2,hob,by simp [hsu]⟩
     ·omega
   ·obtain ⟨hfb,hcb⟩:=hob bd cd rfl
    obtain ⟨hfb1,hbd5⟩:=fresh_set hfb
    have hbd5':=Ne.symm hbd5
    obtain ⟨cur,hacc⟩ : ∃ cur,accW kp x d.waits k=some cur:=by cases h:accW kp x d.waits k with | none=>exact absurd (hoa.2 h) (by simp) | some cur=>exact ⟨cur,rfl⟩
    rw [hacc] at hsu hsz ⊢
    simp only [Option.getD_some] at hsu hsz ⊢
    have hb5:((Mi.set b5 ⟨130,[.string x.1,.string x.2],2⟩).set bd ⟨u8T,cellsB cur.data.toList,cd⟩).own b5=some ⟨130,[.string x.1,.string x.2],2⟩:=(Mem.own_set_other _ _ hbd5').trans (Mem.own_set_same _ _ _)
    simp only [outM,outV]
    have hML:Mi.Less ((Mi.set b5 ⟨130,[.string x.1,.string x.2],2⟩).set bd ⟨u8T,cellsB cur.data.toList,cd⟩):=(Mem.less_set _ _ _ f5.1).trans (Mem.less_set _ _ _ hfb.1)
    have hkw':=hkw.less hML
    iterate 7 refine s1_ ?_
    refine rC (Calm.indexS Tryz.underlying26 ty_size_134 rfl rfl (by omega) (by omega)) ?_
    refine s1_ ?_
    refine ARun.alloc (lit_lt rfl) ty_zero_134 ?_
    intro b8 f8
    have g8:=f8
    repeat ((with_reducible replace g8:=fresh_set g8);obtain ⟨g8,_⟩:=g8)
    refine nl_ ?_
    iterate 4 refine s1_ ?_
    refine su_ [(0,_),(1,_),(13,_),(14,_),(15,_),(4,_),(5,_),(6,_),(24,_),(25,_),(26,_),(27,_),(8,_),(7,_)] ?_
    by_cases hn:w.1=x.1
    ·by_cases hkk:kp k=true
     ·rw [if_pos ⟨hn,hkk⟩] at hsu
      obtain ⟨hw0,hw1,hw2⟩:=hfw hn
      iterate 7 refine s1_ ?_
      refine rC (Calm.bin rfl rfl (bin_bool (bin_str_neq _ _) (bnot_dec_false hn))) ?_
      iterate 3 refine s1_ ?_
      refine rUn 36 ?_
      refine ARun.callV (first:=[]) (cap:=caps) (lit_lt rfl) hgo rfl rfl (hkeep k _ hc2 (hSi.trans (hML.trans less_))) ?_
      rintro _ S1 ⟨rfl,h1⟩
      rw [h1,hkk];clear h1 S1
      iterate 4 refine s1_ ?_
      refine su_ [(0,_),(1,_),(13,_),(14,_),(15,_),(4,_),(5,_),(6,_),(24,_),(25,_),(26,_),(27,_),(8,_),(7,_),(41,_)] ?_
      refine cF_ ?_
      iterate 9 refine s1_ ?_
      refine su_ [(0,_),(1,_),(13,_),(14,_),(15,_),(4,_),(5,_),(6,_),(24,_),(25,_),(26,_),(27,_),(8,_),(7,_),(41,_),(43,_)] ?_
      refine cF_ ?_
      iterate 2 refine s1_ ?_
      refine AWP.draw [(0,true),(1,true),(2,true),(3,true),(4,true),(5,true),(6,true),(7,false)] [7] mixed (by kernel_rfl) ?_
      iterate 4 refine s1_ ?_
      refine dP (hc:=fun _=>Calm.sliceLo (64*w.2.1.toNat) Tryz.underlying55 ty_size_5 rfl rfl (by omega) (by omega) (by omega)) (h:=?_)
      iterate 2 refine s1_ ?_
      refine draw_only rfl ?_
      refine ARun.copyStr (lit_lt rfl) ty_sl_55 rfl own_ rfl (by omega) (by simp only [cellsB_length,size_data];omega) ?_
      have hpc:=putS_cells (x:=cur) (w:=w) (by omega) hw2
      refine arun_nil ⟨fun h=>absurd h (by decide),?_⟩
      iterate 3 refine s1_ ?_
      refine su_ [(0,_),(1,_),(13,_),(14,_),(15,_),(4,_),(5,_),(6,_),(24,_),(25,_),(26,_),(27,_),(8,_),(7,_),(41,_),(43,_)] ?_
      iterate 5 refine s1_ ?_
      refine ⟨(k+1,some (bd,cd)),?_,?_,?_,?_⟩
      all_goals (try dsimp only)
      ·exact ⟨rfl,rfl,rfl,rfl,rfl,rfl,rfl,rfl,rfl,rfl,some_int (by simp),trivial⟩
      ·simp only [hsu,Option.getD_some,← hpc,outM];exact less_
      ·exact ⟨hc2,hob,by simp [hsu]⟩
      ·omega
     ·rw [if_neg (fun h=>hkk h.2)] at hsu
      iterate 7 refine s1_ ?_
      refine rC (Calm.bin rfl rfl (bin_bool (bin_str_neq _ _) (bnot_dec_false hn))) ?_
      iterate 3 refine s1_ ?_
      refine rUn 36 ?_
      refine ARun.callV (first:=[]) (cap:=caps) (lit_lt rfl) hgo rfl rfl (hkeep k _ hc2 (hSi.trans (hML.trans less_))) ?_
      rintro _ S1 ⟨rfl,h1⟩
      rw [h1,Bool.eq_false_iff.2 hkk];clear h1 S1
      iterate 4 refine s1_ ?_
      refine su_ [(0,_),(1,_),(13,_),(14,_),(15,_),(4,_),(5,_),(6,_),(24,_),(25,_),(26,_),(27,_),(8,_),(7,_),(41,_)] ?_
      refine cT_ ?_
      iterate 9 refine s1_ ?_
      refine ⟨(k+1,some (bd,cd)),?_,?_,?_,?_⟩
      all_goals (try dsimp only)
      ·exact ⟨rfl,rfl,rfl,rfl,rfl,rfl,rfl,rfl,rfl,rfl,some_int (by simp),trivial⟩
      ·(try simp only [hsu,outM,Option.getD_none,Option.getD_some]);exact less_
      ·exact ⟨hc2,hob,by simp [hsu]⟩
      ·omega
    ·rw [if_neg (fun h=>hn h.1)] at hsu
     iterate 7 refine s1_ ?_
     refine rC (Calm.bin rfl rfl (bin_bool (bin_str_neq _ _) (bnot_dec_true hn))) ?_
     iterate 8 refine s1_ ?_
     refine su_ [(0,_),(1,_),(13,_),(14,_),(15,_),(4,_),(5,_),(6,_),(24,_),(25,_),(26,_),(27,_),(8,_),(7,_),(41,_)] ?_
     refine cT_ ?_
     iterate 9 refine s1_ ?_
     refine ⟨(k+1,some (bd,cd)),?_,?_,?_,?_⟩
     all_goals (try dsimp only)
     ·exact ⟨rfl,rfl,rfl,rfl,rfl,rfl,rfl,rfl,rfl,rfl,some_int (by simp),trivial⟩
     ·(try simp only [hsu,outM,Option.getD_none,Option.getD_some]);exact less_
     ·exact ⟨hc2,hob,by simp [hsu]⟩
     ·omega
  ·have hc2:k=d.waits.length:=by have:=of_decide_eq_false hc2;omega
   rw [hc2] at hoa hsz ⊢
   rcases ob with _ | ⟨bd,cd⟩
   ·have hacc:accW kp x d.waits d.waits.length=none:=hoa.1 rfl
    rw [hacc,Option.getD_none,show ((x.1,x.2):Ext)=x from rfl,← hmg,List.set_getElem_self] at hmsu
    simp only [outM,outV]
    iterate 11 refine s1_ ?_
    refine su_ [(0,_),(1,_),(13,_),(14,_),(15,_),(4,_),(5,_),(6,_),(24,_),(25,_),(26,_),(27,_),(57,_)] ?_
    refine cF_ ?_
    iterate 8 refine s1_ ?_
    refine ⟨i+1,?_,?_,?_,?_⟩
    all_goals (try dsimp only)
    ·exact ⟨rfl,rfl,rfl,rfl,rfl,trivial⟩
    ·simp only [hmsu,hMi];exact less_
    ·exact ⟨hc,by simp only [hmsu];exact hoki⟩
    ·omega
   ·obtain ⟨hfb,hcb⟩:=hob bd cd rfl
    obtain ⟨hfb1,hbd5⟩:=fresh_set hfb
    have hbd5':=Ne.symm hbd5
    obtain ⟨cur,hacc⟩ : ∃ cur,accW kp x d.waits d.waits.length=some cur:=by cases h:accW kp x d.waits d.waits.length with | none=>exact absurd (hoa.2 h) (by simp) | some cur=>exact ⟨cur,rfl⟩
    rw [hacc] at hmsu hsz ⊢
    simp only [Option.getD_some] at hmsu hsz ⊢
    have n1:=hfb1.ne hpi
    have n2:=hfb1.ne hbE
    have n3:=f5.ne hbE
    have n2':=Ne.symm n2
    have n3':=Ne.symm n3
    have hfs:=flat_set ext_len (mixE kp d.waits d.ext i) i (x.1,cur) (by omega) 1 (.string cur) (by decide) (by rw [hmg];rfl)
    simp only [outM,outV]
    iterate 11 refine s1_ ?_
    refine su_ [(0,_),(1,_),(13,_),(14,_),(15,_),(4,_),(5,_),(6,_),(24,_),(25,_),(26,_),(27,_),(57,_)] ?_
    refine cT_ ?_
    refine AWP.draw [(0,true),(1,true),(2,true),(3,true),(4,true),(5,true),(6,true),(7,true),(8,true),(9,true),(10,false)] [10] mixed (by kernel_rfl) ?_
    iterate 7 refine s1_ ?_
    refine dC (hc:=Calm.toStr ty_bytes_55 ty_str_9 rfl (l:=cur.data.toList) (by rw [size_data];exact hsz) (rds_own (r:=⟨u8T,cellsB cur.data.toList,cd⟩) (b:=bd) own_)) (h:=?_)
    refine dP (hc:=fun _=>Calm.indexS Tryz.underlying25 ty_size_130 rfl rfl (by omega) (by omega)) (h:=?_)
    refine s1_ ?_
    refine draw_only rfl ?_
    refine ARun.store1 rfl rfl ty_size_9 rfl (r:=⟨extT,(mixE kp d.waits d.ext i).flatMap extF,c*2⟩) own_ hcl rfl ?_
    try simp only [k_ms,k_sz,k_ss,k_za,Nat.reduceAdd]
    refine arun_nil ⟨fun h=>absurd h (by decide),?_⟩
    iterate 3 refine s1_ ?_
    refine su_ [(0,_),(1,_),(13,_),(14,_),(15,_),(4,_),(5,_),(6,_),(24,_),(25,_),(26,_),(27,_),(57,_)] ?_
    iterate 5 refine s1_ ?_
    refine ⟨i+1,?_,?_,?_,?_⟩
    all_goals (try dsimp only)
    ·exact ⟨rfl,rfl,rfl,rfl,rfl,trivial⟩
    ·simp only [hmsu];rw [← (hse (x.1,cur)).1,← hfs];exact less_
    ·exact ⟨hc,by simp only [hmsu];exact (hse (x.1,cur)).2⟩
    ·omega
 ·have hc:i=d.ext.length:=by have:=of_decide_eq_false hc;omega
  subst hc
  rw [mixE_all] at hoki hpi
  simp only [mixE_all]
  iterate 10 refine s1_ ?_
  refine ARun.store1 rfl rfl ty_size_26 rfl hpi (show 2<5 from by decide) rfl ?_
  try simp only [k_ms,k_sz,k_ss,k_za,Nat.reduceAdd]
  refine s1_ ?_
  have hfin:(devM S p (settleD d kp) oE none).Less ((devM S p { d with ext:=d.ext.map (doneX kp d.waits) } oE oW).set p ⟨95,[.int .i64 d.size,outV oE (d.ext.map (doneX kp d.waits)).length,.slice none 0 0,.int .i64 d.fuse,.bool d.down],5⟩):=by unfold devM;rw [Mem.set_set];show ((outN 2 S oE extT ((d.ext.map (doneX kp d.waits)).flatMap extF)).set p ⟨95,[.int .i64 d.size,outV oE (d.ext.map (doneX kp d.waits)).length,.slice none 0 0,.int .i64 d.fuse,.bool d.down],5⟩).Less _;exact Less.set (outN_over hoki.dk.w) _ _
  have hap:=hoki.apart
  have hft:=hoki.fits
  refine ⟨_,devM S p (settleD d kp) oE none,rfl,hfin,?_⟩
  exact ⟨rfl,okV_mk ⟨hap.e,(fun b c e=>by cases e),(fun b c b' c' e e'=>by cases e'),hap.p⟩ ⟨hft.e0,fun _=>rfl,hft.e,(fun b c e=>by cases e)⟩,rfl⟩
end Go.Proofs.YthbadpcmdlfmdaaGreatDoor
namespace Go.Proofs.YthbadpcmdlfmdaaGreatDoor
open Go.RowKit
open Mv Disk
set_option maxRecDepth 4000
theorem dev_Sync1 (k : Int) (S : Mem) : ACall Tryz.prog 70 #[.int .i64 k] S fun r S' => r = .bool true ∧ S' = S := by
 refine ACall.enter (rs:=[.tmp 2]) 3 [(0,.int .i64 k)] Tryz.func70 rfl rfl (Nat.le_of_ble_eq_true rfl) rfl ⟨rfl,trivial⟩ ?_
 iterate 5 refine s1_ ?_
 refine su_ [(2,_)] ?_
 iterate 6 refine s1_ ?_
 refine ⟨_,S,⟨_,_,rfl,rfl,rfl⟩,less_,?_⟩
 exact ⟨rfl,rfl⟩
theorem dev_Sync (p : Nat) (d : D) (S : Mem) (oE oW : Option (Nat × Nat)) (hok : OkV S p d oE oW) (hR : Right d) :
  ACall Tryz.prog 46 #[.pointer (some ⟨p,0,none⟩)] (devM S p d oE oW) fun r S'=>∃ oE' oW',OkV S p (settleD d fun _=>true) oE' oW'∧r = .tuple #[]∧S'=devM S p (settleD d fun _=>true) oE' oW':=by
 have h:=dev_settle p d S oE oW hok hR 70 [] go_70 (fun _=>true) (fun k M _ _=>dev_Sync1 k M)
 generalize devM S p d oE oW=M at *
 refine ACall.enter (rs:=[]) 4 [(0,.pointer (some ⟨p,0,none⟩))] Tryz.func46 rfl rfl (Nat.le_of_ble_eq_true rfl) rfl ⟨rfl,trivial⟩ ?_
 iterate 2 refine s1_ ?_
 refine ca_ rfl (h) ?_
 rintro _ S1 ⟨rfl,hok',h1⟩
 rw [h1];clear h1 S1
 refine s1_ ?_
 refine ⟨_,_,rfl,Mem.Less.refl _,?_⟩
 exact ⟨oE,none,hok',rfl,rfl⟩
theorem settle_lens {d : D} (hR : Right d) (kp : Nat → Bool) : (settleD d kp).ext.length ≤ 9223372036854775807 ∧ (settleD d kp).waits.length ≤ 9223372036854775807 := by
 have h:=right_lens hR
 exact ⟨by show (List.map _ _).length≤_;rw [List.length_map];exact h.1,by show (0:Nat)≤_;exact Nat.zero_le _⟩
end Go.Proofs.YthbadpcmdlfmdaaGreatDoor
namespace Go.Proofs.YthbadpcmdlfmdaaGreatDoor
open Go.RowKit
open Mv Disk
theorem has_no {l : List Ext} {s : ByteArray} : has l s = false ↔ ∀ x ∈ l, x.1 ≠ s := by
 rw [← Bool.not_eq_true,has_iff]
 exact ⟨fun h x hx e=>h ⟨x,hx,e⟩,fun h ⟨x,hx,e⟩=>h x hx e⟩
def dropE (l : List Ext) (s : ByteArray) : List Ext := l.filter fun x => decide (x.1 ≠ s)
/-- A disk without an extent. -/
def lessD (d : D) (s : ByteArray) : D := { d with ext := dropE d.ext s, waits := filt s d.waits }
theorem dropE_none {l : List Ext} {s : ByteArray} (h : has l s = false) : dropE l s = l :=
 List.filter_eq_self.2 fun x hx=>by simpa using has_no.1 h x hx
theorem pos_yes {x : Ext} {l : List Ext} {s : ByteArray} (h : lt x.1 s = true) : pos (x :: l) s = pos l s + 1 := by unfold pos; rw [List.takeWhile_cons, h]; rfl
theorem pos_no {x : Ext} {l : List Ext} {s : ByteArray} (h : lt x.1 s = false) : pos (x :: l) s = 0 := by unfold pos; rw [List.takeWhile_cons, h]; rfl
theorem has_cons (x : Ext) (l : List Ext) (s : ByteArray) : has (x :: l) s = (decide (x.1 = s) || has l s) := rfl
theorem dropE_cons_eq {x : Ext} {l : List Ext} {s : ByteArray} (h : x.1 = s) : dropE (x :: l) s = dropE l s := by
 unfold dropE;rw [List.filter_cons,if_neg (by simpa using h)]
theorem dropE_cons_ne {x : Ext} {l : List Ext} {s : ByteArray} (h : x.1 ≠ s) : dropE (x :: l) s = x :: dropE l s := by
 unfold dropE;rw [List.filter_cons,if_pos (by simpa using h)]
theorem asc_behind {x : Ext} {l : List Ext} (ha : Asc (x :: l)) : ∀ y ∈ l, lt x.1 y.1 = true := (List.pairwise_cons.1 ha).1
theorem asc_has_no {x : Ext} {l : List Ext} (ha : Asc (x :: l)) : has l x.1 = false := has_no.2 fun y hy e => by
 have:=asc_behind ha y hy;rw [e,lt_irrefl] at this;cases this
theorem asc_lt_has {x : Ext} {l : List Ext} {s : ByteArray} (ha : Asc (x :: l)) (h : has l s = true) : lt x.1 s = true := by
 obtain ⟨y,hy,rfl⟩:=has_iff.1 h
 exact asc_behind ha y hy
theorem dropE_erase {l : List Ext} {s : ByteArray} (ha : Asc l) (h : has l s = true) : dropE l s = l.eraseIdx (pos l s) := by
 induction l with
 | nil=>cases h
 | cons x l ih =>
  by_cases e:x.1=s
  ·subst e
   rw [pos_no (lt_irrefl _),dropE_cons_eq rfl,dropE_none (asc_has_no ha)];rfl
  ·rw [has_cons,decide_eq_false e,Bool.false_or] at h
   rw [dropE_cons_ne e,pos_yes (asc_lt_has ha h),ih (asc_tail ha) h];rfl
theorem free_less {d : D} {s : ByteArray} (hR : Right d) (h : has d.ext s = true) : forgetD (eraseD d s) s = lessD d s := by
 unfold forgetD eraseD lessD
 rw [dropE_erase hR.ex.asc h]
theorem filt_wait {d : D} {s : ByteArray} (hR : Right d) (h : has d.ext s = false) : filt s d.waits = d.waits := filt_all fun w hw => isN_no.2 fun e => by
 obtain ⟨x,hx,e1,_⟩:=hR.wr w hw
 exact has_no.1 h x hx (e1.trans e)
/-! ### Writes that are done -/
theorem has_map {f : Ext → Ext} (hf : ∀ x, (f x).1 = x.1) (l : List Ext) (s : ByteArray) : has (l.map f) s = has l s := by
 induction l with
 | nil=>rfl
 | cons x l ih=>rw [List.map_cons,has_cons,has_cons,ih,hf]
theorem asc_map {f : Ext → Ext} (hf : ∀ x, (f x).1 = x.1) {l : List Ext} (h : Asc l) : Asc (l.map f) := by
 unfold Asc at *
 rw [List.pairwise_map]
 exact h.imp fun {a b} q=>by rw [hf,hf];exact q
end Go.Proofs.YthbadpcmdlfmdaaGreatDoor
namespace Go.Proofs.YthbadpcmdlfmdaaGreatDoor
open Go.RowKit
namespace Mv
section
variable {P : Program} {N : Nat} {l : List Oper} {W : List Nat} {S0 : Mem} {K : Env → Mem → Prop}
/-- From here on, whatever comes up. -/
def DG (P : Program) (N : Nat) (l : List Oper) (W : List Nat) (S0 : Mem) (K : Env → Mem → Prop) (n : Nat) (listed : Array Bool) (E : Env) (S : Mem) : Prop :=
  ∀ w0 a w, Closed l.toArray listed → Good N E a → View S w → Step S0 w0 S w → wpAnyG P l.toArray (Q0 N K S0 w0) (fun i => W.contains i) (View S0) n listed a w
theorem DG.nil {listed : Array Bool} {E : Env} {S : Mem} (hr : Region.ready .any l.toArray listed = []) (h : K E S) : DG P N l W S0 K 0 listed E S :=
 fun w0 a w _ g hv hs=>⟨hr,E,S,h,g,hs⟩
/-- Each of those that may come up. -/
theorem DG.fork {n : Nat} {listed : Array Bool} {E : Env} {S : Mem} (is : List Nat) (hr : (Region.ready .any l.toArray listed == is) = true) (hne : is ≠ [])
  (h:∀ i ∈ is,∃ o,l[i]?=some o∧AOp P N l.toArray o (fun E' S'=>(W.contains i=false→S0.Less S')∧DG P N l W S0 K n (listed.setIfInBounds i true) E' S') E S):DG P N l W S0 K (n+1) listed E S:=fun w0 a w hcl g hv hs=>by
 have hr:=beq_iff_eq.1 hr
 refine ⟨fun h0=>absurd (hr.symm.trans h0) hne,fun j hj=>?_⟩
 have hj':=hj
 rw [hr] at hj
 obtain ⟨o,ho,hop⟩:=h j hj
 have h1:=hop a w g hv
 unfold wpOp
 have ho':l.toArray[j]?=some o:=by simpa using ho
 simp only [ho']
 have next:∀ a1 w1,Post N (fun E' S'=>(W.contains j=false→S0.Less S')∧DG P N l W S0 K n (listed.setIfInBounds j true) E' S') S w a1 w1→(W.contains j=false→View S0 w→View S0 w1)∧wpAnyG P l.toArray (Q0 N K S0 w0) (fun i=>W.contains i) (View S0) n (listed.setIfInBounds j true) a1 w1:=fun a1 w1 ⟨E1,S1,⟨k1,k2⟩,g1,s1⟩ =>
  ⟨fun hw _=>s1.view.less (k1 hw),k2 w0 a1 w1 (closed_put hcl hj') g1 s1.view (hs.trans s1)⟩
 split
 ·rename_i hw;rw [if_pos hw] at h1
  exact .inl (upon_noQ (Oper.wp_mono next h1))
 ·rename_i hw;rw [if_neg hw] at h1
  exact next _ _ h1
theorem DG.fork1 {n : Nat} {listed : Array Bool} {E : Env} {S : Mem} (i : Nat) (hr : (Region.ready .any l.toArray listed == [i]) = true)
  (h:∃ o,l[i]?=some o∧AOp P N l.toArray o (fun E' S'=>(W.contains i=false→S0.Less S')∧DG P N l W S0 K n (listed.setIfInBounds i true) E' S') E S):DG P N l W S0 K (n+1) listed E S :=
 DG.fork [i] hr (by simp) fun j hj=>by
  have e:j=i:=by simpa using hj
  rw [e];exact h
theorem DG.fork2 {n : Nat} {listed : Array Bool} {E : Env} {S : Mem} (i j : Nat) (hr : (Region.ready .any l.toArray listed == [i, j]) = true)
  (h:∃ o,l[i]?=some o∧AOp P N l.toArray o (fun E' S'=>(W.contains i=false→S0.Less S')∧DG P N l W S0 K n (listed.setIfInBounds i true) E' S') E S)
  (k:∃ o,l[j]?=some o∧AOp P N l.toArray o (fun E' S'=>(W.contains j=false→S0.Less S')∧DG P N l W S0 K n (listed.setIfInBounds j true) E' S') E S):DG P N l W S0 K (n+1) listed E S :=
 DG.fork [i,j] hr (by simp) fun q hq=>by
  rcases List.mem_cons.1 hq with rfl | hq
  ·exact h
  ·obtain rfl:q=j:=by simpa using hq
   exact k
/-- One that only looks is taken first. -/
theorem DG.first {n : Nat} {listed : Array Bool} {E : Env} {S : Mem} (i : Nat) (hsel : Region.noSelect l.toArray = true) (hc1 : mayFirst l W listed i = true)
  (h:∃ o d v,l[i]?=some o∧o.dst=some d∧d<N∧(pureOp o=true∨S0.Less S)∧ACalmG P N l.toArray o E (if pureOp o then noMem else S0) v∧DG P N l W S0 K n (listed.setIfInBounds i true) ((d,v) :: E) S):DG P N l W S0 K (n+1) listed E S:=fun w0 a w hcl g hv hs=>by
 obtain ⟨o,d,v,ho,hd,hn,hless,hcalm,hrest⟩:=h
 simp only [mayFirst,Bool.and_eq_true,Bool.or_eq_true] at hc1
 obtain ⟨⟨hr,hf⟩,hp⟩:=hc1
 have ho':l.toArray[i]?=some o:=by simpa using ho
 have hri:i ∈ Region.ready .any l.toArray listed:=by simpa using hr
 let D:World→Prop:=fun w'=>if pureOp o=true then True else View S0 w'
 have hDw:D w:=by
  simp only [D]
  split
  ·trivial
  ·rename_i hx
   exact hv.less (hless.resolve_left hx)
 have hmem:∀ w',D w'→View (if pureOp o then noMem else S0) w':=fun w' h=>by
  simp only [D] at h
  split
  ·exact view_noMem _
  ·rename_i hx;rw [if_neg hx] at h;exact h
 refine wpAnyG_first (D:=D) (v:=v) ho' (Region.noSelect_spec hsel) (fun c a w h=>h) ?_ n listed a w hcl (Region.free_spec ho' hf) hri ?_ hDw ?_
 ·intro j w1 w2 listed' hcl' hun hj hD1 hpres
  simp only [D] at hD1 ⊢
  split
  ·trivial
  ·rename_i hx
   rw [if_neg hx] at hD1
   refine hpres ?_ hD1
   rcases hp with hp | hp
   ·rw [ho] at hp;exact absurd (by simpa using hp) hx
   ·cases hwc:W.contains j with
    | false=>rfl
    | true =>
     have h1:=List.all_eq_true.1 hp j (by simpa using hwc)
     obtain ⟨hju,oj,hoj,hall⟩:=mem_ready.1 hj
     have h2:=waitsFor_spec h1 listed' hcl' fun o2 ho2 e he hb=>by
      obtain rfl:oj=o2:=Option.some.inj (hoj.symm.trans ho2)
      exact hall e he hb
     rcases Nat.lt_or_ge i listed'.size with hlt | hge
     ·simp [hlt] at hun h2;rw [hun] at h2;cases h2
     ·simp [Array.getElem?_eq_none hge] at h2
 ·by_cases hw:Region.wanted o (yielded l.toArray a.tmps)=true
  ·refine .inl ⟨hw,fun w' hD'=>?_⟩
   rcases hcalm a w' g (hmem w' hD') with h1 | h1
   ·exact h1.2
   ·rw [hw] at h1;cases h1.1
  ·rcases hcalm a w g (hmem w hDw) with h1 | h1
   ·exact absurd h1.1 hw
   ·exact .inr h1
 ·rw [hd]
  exact hrest w0 _ w (closed_put hcl hri) (g.put hn v) hv hs
theorem DG.pure {n : Nat} {listed : Array Bool} {E : Env} {S : Mem} {o : Oper} {d : Nat} {v : Value} (i : Nat) (hsel : Region.noSelect l.toArray = true) (hc1 : mayFirst l W listed i = true) (ho : l[i]? = some o) (hp : pureOp o = true) (hg : o.guard = none) (hd : o.dst = some d) (hn : d < N)
  (hc:∀ S',ACalm P N o E S' v) (h:DG P N l W S0 K n (listed.setIfInBounds i true) ((d,v) :: E) S):DG P N l W S0 K (n+1) listed E S :=
 DG.first i hsel hc1 ⟨o,d,v,ho,hd,hn,.inl hp,fun a w g hv=>.inl ⟨by simp [Region.wanted,hg],hc _ a w g hv⟩,h⟩
theorem DG.look {n : Nat} {listed : Array Bool} {E : Env} {S : Mem} {o : Oper} {d : Nat} {v : Value} (i : Nat) (hsel : Region.noSelect l.toArray = true) (hc1 : mayFirst l W listed i = true) (ho : l[i]? = some o) (hp : pureOp o = false) (hg : o.guard = none) (hd : o.dst = some d) (hn : d < N) (hl : S0.Less S)
  (hc:ACalm P N o E S0 v) (h:DG P N l W S0 K n (listed.setIfInBounds i true) ((d,v) :: E) S):DG P N l W S0 K (n+1) listed E S :=
 DG.first i hsel hc1 ⟨o,d,v,ho,hd,hn,.inr hl,fun a w g hv=>.inl ⟨by simp [Region.wanted,hg],by rw [hp] at hv;exact hc a w g hv⟩,h⟩
theorem DG.only {n : Nat} {listed : Array Bool} {E : Env} {S : Mem} {o : Oper} (i : Nat) (hr : (Region.ready .any l.toArray listed == [i]) = true) (ho : l[i]? = some o)
  (h:ARun P N l.toArray [o] (fun E' S'=>(W.contains i=false→S0.Less S')∧DG P N l W S0 K n (listed.setIfInBounds i true) E' S') E S):DG P N l W S0 K (n+1) listed E S:=DG.fork1 i hr ⟨o,ho,h⟩
theorem DG.two {n : Nat} {listed : Array Bool} {E : Env} {S : Mem} {o o' : Oper} (i j : Nat) (hr : (Region.ready .any l.toArray listed == [i, j]) = true) (ho : l[i]? = some o)
  (h:ARun P N l.toArray [o] (fun E' S'=>(W.contains i=false→S0.Less S')∧DG P N l W S0 K n (listed.setIfInBounds i true) E' S') E S) (ho':l[j]?=some o')
  (h':ARun P N l.toArray [o'] (fun E' S'=>(W.contains j=false→S0.Less S')∧DG P N l W S0 K n (listed.setIfInBounds j true) E' S') E S):DG P N l W S0 K (n+1) listed E S:=DG.fork2 i j hr ⟨o,ho,h⟩ ⟨o',ho',h'⟩
theorem DG.end_ {listed : Array Bool} {E : Env} {S : Mem} (hr : (Region.ready .any l.toArray listed).isEmpty = true) (h : K E S) : DG P N l W S0 K 0 listed E S := DG.nil (by simpa using hr) h
theorem AWP.drawG {id : Nat} {Q : Exit → Env → Mem → Prop} {E : Env} {S : Mem} (W : List Nat) (hm : P.follows .mixedOrders = true)
  (h:DG P N l W S (Q .normal) l.length (Array.replicate l.length false) E S):AWP P N (.region id l.toArray true) Q E S:=fun a w g hv=>by
 refine wp_mono (Q:=Q0 N (Q .normal) S w) ?_ (fun e a' w' x=>by cases e <;> first | exact x | exact x.elim)
 refine wp_region_any hm ?_
 refine wpAny_of_G (W:=fun i=>W.contains i) (C:=View S) _ _ _ _ ?_
 have hst:Step S w S { w with drawn:=w.drawn+1 }:=Step.drawn hv _
 have:=h w a _ (closed_start _ _) g hst.view hst
 simpa using this
end
end Mv
end Go.Proofs.YthbadpcmdlfmdaaGreatDoor
namespace Go.Proofs.YthbadpcmdlfmdaaGreatDoor
open Go.RowKit
open Mv Disk
set_option maxRecDepth 4000
section
variable {P : Program} {N : Nat} {E : Env} {S : Mem} {dst : Option Nat} {ty : TypeId} {pos : String} {aft : Array Edge} {gd : Option (Nat × Bool)}
end
theorem Mv.AppN.lessL {n : Nat} {M S S' : Mem} {o : Option (Nat × Nat)} {e : TypeId} {cs : List Value} (h : AppN n M S o e cs) (hl : S'.Less S) : AppN n M S' o e cs :=
 ⟨fun ho=>⟨(h.nil ho).1,hl.trans (h.nil ho).2⟩,fun b c ho=>⟨(h.own b c ho).1,hl.trans (h.own b c ho).2⟩⟩
end Go.Proofs.YthbadpcmdlfmdaaGreatDoor
namespace Go.Proofs.YthbadpcmdlfmdaaGreatDoor
open Go.RowKit
open Mv Disk
set_option maxRecDepth 4000
theorem Mv.OkO.lessL {S T : Mem} {o : Option (Nat × Nat)} {n : Nat} (h : OkO T o n) (hl : S.Less T) : OkO S o n :=
 ⟨h.nil,fun q c e=>⟨⟨(by
  have h1:=(h.own q c e).1.1
  cases hs:S.own q with
  | none=>rfl
  | some r=>rw [hl.1 q r hs] at h1;cases h1),fun a v ha=>(h.own q c e).1.2 a v (by rw [← hl.2];exact ha)⟩,(h.own q c e).2⟩⟩
end Go.Proofs.YthbadpcmdlfmdaaGreatDoor
namespace Go.Proofs.YthbadpcmdlfmdaaGreatDoor
open Go.RowKit
open Mv Disk
set_option maxRecDepth 4000

theorem frees_cons (d0 d : D) (s : ByteArray) (l : List ByteArray) : freesD d0 d (s :: l) = if has d.ext s = true then freesD d0 (forgetD (eraseD d s) s) l else (d0, 3) := by
 rw [freesD]
 unfold freeD
 by_cases q:has d.ext s=true
 ·rw [if_pos q,if_pos q];rfl
 ·rw [if_neg q,if_neg q];rfl
end Go.Proofs.YthbadpcmdlfmdaaGreatDoor
namespace Go.Proofs.YthbadpcmdlfmdaaGreatDoor
open Go.RowKit Go.Shelf
open Mv Disk
attribute [local go_sem] Oper.semAt_some
def upto {α : Type} (f : Nat → α) (k : Nat) : List α := (List.range k).map f
theorem upto_succ' {α : Type} (f : Nat → α) (k : Nat) : upto f (k + 1) = upto f k ++ [f k] := by simp [upto, List.range_succ]
theorem upto_length' {α : Type} (f : Nat → α) (k : Nat) : (upto f k).length = k := by simp [upto]
def w0 : Wr := (ByteArray.empty, 0, ByteArray.empty)
/-- What is told in round j of so many: the index, the write. -/
def backF (l : List Wr) (j : Nat) : Nat × Wr := (l.length - 1 - j, l.getD (l.length - 1 - j) w0)
def wrV (w : Wr) : Value := .agg #[.string w.1, .int .i64 w.2.1, .string w.2.2]
set_option maxRecDepth 100000 in
set_option maxHeartbeats 2000000 in
theorem back1_in (F : Fence) (n : Nat) (h8 : F.fn 97) (hro : F.round = none) (hn : 1 ≤ n) (l Bs n₀ b off cap : Nat) (zs : List Wr) (hreach : zs.length ≤ 16384) (hb : b < n₀) (hBn : Bs < n₀) (J Jx : List (Nat × Wr) → World → Prop)
  (hY:∀ pre x W,J pre W→pre.length<zs.length→YieldAt F (n-1) Tryz.prog l #[.int .i64 (x.1:Int),wrV x.2] W fun e W' =>
   (e = .returned (.bool true)∧J (pre ++ [x]) W'∧Below n₀ W W')∨(e = .returned (.bool false)∧Jx (pre ++ [x]) W'))
  (W:World) (hBs:W.cell? ⟨Bs,0,none⟩=some (.slice (some ⟨b,off,none⟩) zs.length cap)) (hc:∀ j (h:j<zs.length) q v,(wrF zs[j])[q]?=some v→W.cell? ⟨b,off+j*3+q,none⟩=some v) (h0:J [] W) :
  CallsIn F n Tryz.prog 97 #[.func (.yield l) #[] #[],.pointer (some ⟨Bs,0,none⟩)] W fun e W'=>(∃ v,e = .returned v) ∧
   ((∃ ys,ys=upto (backF zs) zs.length∧J ys W')∨(∃ pre,(∃ k,k≤zs.length∧pre=upto (backF zs) k)∧Jx pre W')):=by
 refine callsIn_of_wp Tryz.func97 rfl h8 ?_ hro
 simp only [Tryz.ntmps97,List.size_toArray,List.length_cons,List.length_nil,Nat.reduceAdd,Nat.reduceSub,Array.replicate_succ,Array.replicate_zero,List.push_toArray,List.append_toArray,List.nil_append,List.cons_append]
 gi_wp2
 gi_loopw [3] (fun i wr=>∃ k:Nat,k≤zs.length∧i = .int .i64 ((zs.length:Int)-1-k)∧J (upto (backF zs) k) wr∧Below n₀ W wr)
  (fun i _=>(intOf i+1).toNat)
 case atStart=>exact ⟨0,Nat.zero_le _,by simp,h0,Below.refl _ _⟩
 case round =>
  obtain ⟨k,hk,rfl,hJs,hnx⟩:=hrel
  by_cases hlt:k<zs.length
  ·obtain ⟨m,hm⟩ : ∃ m,zs.length-1-k=m:=⟨_,rfl⟩
   have hml:m<zs.length:=by omega
   have hm':(zs.length:Int)-1-k=m:=by omega
   have hbk:backF zs k=(m,zs[m]):=by unfold backF;rw [hm];simp [List.getD,List.getElem?_eq_getElem hml]
   obtain ⟨fn,tmps,assign,body,hy,hR⟩:=hY _ (backF zs k) wr hJs (by rw [upto_length'];exact hlt)
   rw [hbk] at hy hR
   dsimp only [wrV] at hy
   rw [hm']
   have hcx:∀ q v,(wrF zs[m])[q]?=some v→wr.cell? ⟨b,off+m*3+q,none⟩=some v:=fun q v hq=>(hnx.cell (p:=⟨b,off+m*3+q,none⟩) hb).trans (hc m hml q v hq)
   have hc0:wr.cell? ⟨b,off+m*3,none⟩=some (.string zs[m].1):=hcx 0 _ rfl
   have hc1:wr.cell? ⟨b,off+m*3+1,none⟩=some (.int .i64 zs[m].2.1):=hcx 1 _ rfl
   have hc2:wr.cell? ⟨b,off+m*3+2,none⟩=some (.string zs[m].2.2):=hcx 2 _ rfl
   have hBs':=(hnx.cell (p:=⟨Bs,0,none⟩) hBn).trans hBs
   gi_wp2
   refine hR.mono ?_
   rintro e W3 (⟨rfl,hJ3,hk3⟩ | ⟨rfl,hJx3⟩)
   ·gi_wp2
    go_roundw
    case rel=>exact ⟨k+1,by omega,by simp;omega,by rw [upto_succ',hbk];exact hJ3,hnx.trans hk3⟩
    case measure=>simp [intOf]
   ·gi_wp2
    refine bodyPost_ret (results_none rfl _ _ _) rfl ?_
    exact ⟨⟨_,rfl⟩,.inr ⟨_,⟨k+1,by omega,by rw [upto_succ',hbk]⟩,hJx3⟩⟩
  ·obtain rfl:k=zs.length:=by omega
   have e1:(zs.length:Int)-1-zs.length = -1:=by omega
   rw [e1]
   gi_wp2
   go_end0
   exact ⟨⟨_,rfl⟩,.inl ⟨_,rfl,hJs⟩⟩
set_option maxRecDepth 100000 in
set_option maxHeartbeats 1000000 in
theorem back1_nil_in (F : Fence) (n : Nat) (h8 : F.fn 97) (hro : F.round = none) (l Bs : Nat) (A : Option Addr) (cap : Nat) (J : List (Nat × Wr) → World → Prop) (W : World) (hBs : W.cell? ⟨Bs, 0, none⟩ = some (.slice A 0 cap)) (h0 : J [] W) :
  CallsIn F n Tryz.prog 97 #[.func (.yield l) #[] #[],.pointer (some ⟨Bs,0,none⟩)] W fun e W'=>(∃ v,e = .returned v)∧J [] W':=by
 refine callsIn_of_wp Tryz.func97 rfl h8 ?_ hro
 simp only [Tryz.ntmps97,List.size_toArray,List.length_cons,List.length_nil,Nat.reduceAdd,Nat.reduceSub,Array.replicate_succ,Array.replicate_zero,List.push_toArray,List.append_toArray,List.nil_append,List.cons_append]
 gi_wp2
 gi_loopw [3] (fun i wr=>i = .int .i64 (-1)∧J [] wr) (fun _ _=>0)
 case atStart=>exact ⟨rfl,h0⟩
 case round =>
  obtain ⟨rfl,hJs⟩:=hrel
  gi_wp2
  go_end0
  exact ⟨⟨_,rfl⟩,hJs⟩
set_option maxHeartbeats 1000000 in
theorem back_in (F : Fence) (n : Nat) (h5 : F.fn 76) (hro : F.round = none) (a : Option Addr) (len cap : Nat) (w : World) :
  CallsIn F n Tryz.prog 76 #[.slice a len cap] w fun e w'=>e = .returned (.func (.func 97) #[] #[.pointer (some ⟨w.heap.size,0,none⟩)])∧w'=w.alloc (.cells #[.slice a len cap] 26):=by
 refine callsIn_of_wp Tryz.func76 rfl h5 ?_ hro
 simp only [Tryz.ntmps76,List.size_toArray,List.length_cons,List.length_nil,Nat.reduceAdd,Nat.reduceSub,Array.replicate_succ,Array.replicate_zero,List.push_toArray,List.append_toArray,List.nil_append,List.cons_append]
 gi_wp2
 go_ret
 exact ⟨rfl,rfl⟩
/-- Of what waits, in a block below n₀. -/
def Waits (n₀ : Nat) (W : World) (sv : Value) (zs : List Wr) : Prop :=
  ∃ A cap, sv = .slice A zs.length cap ∧ (zs = [] ∨ ∃ b off, A = some ⟨b, off, none⟩ ∧ b < n₀ ∧ ∀ j (h : j < zs.length) q v, (wrF zs[j])[q]? = some v → W.cell? ⟨b, off + j * 3 + q, none⟩ = some v)
theorem Waits.below {n₀ : Nat} {A B : World} (h : Below n₀ A B) {sv : Value} {zs : List Wr} (hw : Waits n₀ A sv zs) : Waits n₀ B sv zs := by
 obtain ⟨a,cap,e,h1⟩:=hw
 exact ⟨a,cap,e,h1.imp id fun ⟨b,off,e1,hb,hc⟩=>⟨b,off,e1,hb,fun j hj q v hq=>(h.cell (p:=⟨b,off+j*3+q,none⟩) hb).trans (hc j hj q v hq)⟩⟩
theorem back_stops (F : Fence) (n : Nat) (h8 : F.fn 97) (hro : F.round = none) (hn : 1 ≤ n) (Bs n₀ : Nat) (sv : Value) (zs : List Wr) (hreach : zs.length ≤ 16384) (w : World) (hBs : Bs < n₀) (hn₀ : n₀ ≤ w.heap.size)
  (hc:w.cell? ⟨Bs,0,none⟩=some sv) (hI:Waits n₀ w sv zs) :
  SeqStopsK F n Tryz.prog 97 #[.pointer (some ⟨Bs,0,none⟩)] (fun x:Nat × Wr=>#[Value.int .i64 (x.1:Int),wrV x.2]) (Below n₀) (fun ys=>ys=upto (backF zs) zs.length) (fun pre=>∃ k,k≤zs.length∧pre=upto (backF zs) k) zs.length w:=fun l J Jx W hW _ _ hY h0=>by
 have hWn:=hW.mono hn₀
 have hc':=(hWn.cell (p:=⟨Bs,0,none⟩) hBs).trans hc
 obtain ⟨A,cap,rfl,h1⟩:=hI.below hWn
 rcases h1 with rfl | ⟨b,off,rfl,hb,hcs⟩
 ·exact (back1_nil_in F n h8 hro l Bs A cap J W hc' h0).mono fun e W' ⟨he,hj⟩=>⟨he,.inl ⟨_,rfl,hj⟩⟩
 ·refine (back1_in F n h8 hro hn l Bs n₀ b off cap zs hreach hb hBs J Jx hY W hc' hcs h0).mono ?_
  rintro e W' ⟨he,⟨ys,rfl,hj⟩ | ⟨pre,⟨k,hk,rfl⟩,hj⟩⟩
  ·exact ⟨he,.inl ⟨_,rfl,hj⟩⟩
  ·exact ⟨he,.inr ⟨_,⟨k,hk,rfl⟩,hj⟩⟩
end Go.Proofs.YthbadpcmdlfmdaaGreatDoor
namespace Go.Proofs.YthbadpcmdlfmdaaGreatDoor
open Go.RowKit
open Mv Disk
def hit (s : ByteArray) (k : Int) (y : Nat × Wr) : Bool := y.2.2.1 == k && (y.2.1.toList == s.toList)
def lastW (l : List Wr) (s : ByteArray) (k : Int) : Option (Nat × Wr) := (upto (backF l) l.length).find? (hit s k)
def readD (d : D) (s : ByteArray) (k : Int) : ByteArray × Int :=
  if (placeD d s k).2 ≠ 0 then (ByteArray.empty, (placeD d s k).2) else match lastW d.waits s k with
    | some y => (y.2.2.2, 0)
    | none => ((exOf d.ext s).2.extract (64 * k.toNat) (64 * k.toNat + 64), 0)
/-- What is seen when so many of the writes (of these) have been met. -/
def seeW (kp : Nat → Bool) (l : List Wr) (s : ByteArray) (k : Int) (b : ByteArray) : Nat → ByteArray
  | 0 => b
  | n + 1 => match l[n]? with
    | some w => if w.1 = s ∧ w.2.1 = k ∧ kp n = true then w.2.2 else seeW kp l s k b n
    | none => seeW kp l s k b n
theorem seeW_succ (kp : Nat → Bool) (l : List Wr) (s : ByteArray) (k : Int) (b : ByteArray) {n : Nat} (h : n < l.length) : seeW kp l s k b (n + 1) = if l[n].1 = s ∧ l[n].2.1 = k ∧ kp n = true then l[n].2.2 else seeW kp l s k b n := by
 rw [seeW,List.getElem?_eq_getElem h]
def allK : Nat → Bool := fun _ => true
def revN (l : List Wr) (n : Nat) : List (Nat × Wr) := (List.range n).reverse.map fun i => (i, l.getD i w0)
theorem upto_rev (l : List Wr) : upto (backF l) l.length = revN l l.length := by
 unfold upto revN
 refine List.ext_getElem (by simp) fun i h1 h2=>?_
 simp only [List.length_map,List.length_range] at h1
 simp [backF,List.getElem_reverse]
theorem revN_succ (l : List Wr) (n : Nat) : revN l (n + 1) = (n, l.getD n w0) :: revN l n := by
 unfold revN;rw [List.range_succ,List.reverse_append];rfl
theorem toList_inj' {a b : ByteArray} : (a.toList == b.toList) = decide (a = b) := by
 rw [Bool.eq_iff_iff,beq_iff_eq,decide_eq_true_eq]
 exact ⟨fun h=>str_ext (by rw [← Lib.toList_data,← Lib.toList_data];exact h),fun h=>by rw [h]⟩
theorem find_see (l : List Wr) (s : ByteArray) (k : Int) (b : ByteArray) : ∀ n, n ≤ l.length → (match (revN l n).find? (hit s k) with | some y => y.2.2.2 | none => b) = seeW allK l s k b n
 | 0,_=>rfl
 | n+1,h=>by
  rw [revN_succ,seeW_succ _ _ _ _ _ (by omega),List.find?_cons]
  have e:l.getD n w0=l[n]:=by simp [List.getD,List.getElem?_eq_getElem (show n<l.length by omega)]
  have eh:hit s k (n,l.getD n w0)=decide (l[n].1=s∧l[n].2.1=k∧allK n=true):=by
   rw [e];unfold hit allK
   rw [toList_inj',Bool.eq_iff_iff];simp [and_comm]
  rw [eh]
  by_cases q:l[n].1=s∧l[n].2.1=k∧allK n=true
  ·rw [if_pos q,decide_eq_true q,e]
  ·rw [if_neg q,decide_eq_false q];exact find_see l s k b n (by omega)
/-- What is seen, in plain words. -/
def seen (d : D) (s : ByteArray) (k : Int) : ByteArray := seeW allK d.waits s k ((exOf d.ext s).2.extract (64 * k.toNat) (64 * k.toNat + 64)) d.waits.length
theorem readD_see (d : D) (s : ByteArray) (k : Int) : readD d s k = if (placeD d s k).2 ≠ 0 then (ByteArray.empty, (placeD d s k).2) else (seen d s k, 0) := by
 unfold readD seen
 by_cases q:(placeD d s k).2≠0
 ·rw [if_pos q,if_pos q]
 ·rw [if_neg q,if_neg q,← find_see _ _ _ _ _ (Nat.le_refl _)]
  unfold lastW
  rw [upto_rev]
  cases (revN d.waits d.waits.length).find? (hit s k) <;> rfl
/-! ### A sector of what was done -/
theorem ba_extract_bs (x : ByteArray) (i j : Nat) : x.extract i j = bs ((x.data.toList.take j).drop i) := by
 apply str_ext
 rw [bs_data,ByteArray.data_extract,Array.toList_extract,List.extract_eq_take_drop,List.drop_take]
theorem cut_other {α : Type} (X W : List α) (m k : Nat) (hW : W.length = 64) (hm : 64 * m + 64 ≤ X.length) (hk : 64 * k + 64 ≤ X.length) : ((X.take (64 * m) ++ W ++ X.drop (64 * m + 64)).take (64 * k + 64)).drop (64 * k) = if m = k then W else (X.take (64 * k + 64)).drop (64 * k) := by
 apply List.ext_getElem?
 intro i
 by_cases e:m=k
 ·subst e
  rw [if_pos rfl,List.getElem?_drop,List.getElem?_take]
  by_cases hi:i<64
  ·rw [if_pos (by omega),List.getElem?_append_left (by simp;omega),List.getElem?_append_right (by simp;omega)]
   congr 1;simp;omega
  ·rw [if_neg (by omega),List.getElem?_eq_none (by omega)]
 ·rw [if_neg e,List.getElem?_drop,List.getElem?_take,List.getElem?_drop,List.getElem?_take]
  by_cases hi:i<64
  ·rw [if_pos (by omega),if_pos (by omega)]
   rcases Nat.lt_or_ge k m with q | q
   ·rw [List.getElem?_append_left (by simp;omega),List.getElem?_append_left (by simp;omega),List.getElem?_take,if_pos (by omega)]
   ·rw [List.getElem?_append_right (by simp;omega),List.getElem?_drop]
    congr 1;simp;omega
  ·rw [if_neg (by omega),if_neg (by omega)]
theorem putS_see {x : ByteArray} {w : Wr} {k : Nat} (h1 : 64 * w.2.1.toNat + 64 ≤ x.size) (h2 : w.2.2.size = 64) (hk : 64 * k + 64 ≤ x.size) : (putS x w).extract (64 * k) (64 * k + 64) = if w.2.1.toNat = k then w.2.2 else x.extract (64 * k) (64 * k + 64) := by
 rw [ba_extract_bs,ba_extract_bs]
 have hx:x.data.toList.length=x.size:=size_data x
 have hw:w.2.2.data.toList.length=64:=by rw [size_data,h2]
 have hp:(putS x w).data.toList=x.data.toList.take (64*w.2.1.toNat) ++ w.2.2.data.toList ++ x.data.toList.drop (64*w.2.1.toNat+64):=by unfold putS;rw [bs_data]
 rw [hp,cut_other _ _ _ _ hw (by omega) (by omega)]
 split
 ·exact bs_of _
 ·rfl
theorem acc_see {kp : Nat → Bool} {x : Ext} {l : List Wr} {k : Nat} (hf : Fit x l) (hk : 64 * k + 64 ≤ x.2.size) : ∀ n, n ≤ l.length → ((accW kp x l n).getD x.2).extract (64 * k) (64 * k + 64) = seeW kp l x.1 (k : Int) (x.2.extract (64 * k) (64 * k + 64)) n
 | 0,_=>rfl
 | n+1,h=>by
  have ih:=acc_see (kp:=kp) hf hk n (by omega)
  have hs:=acc_size (kp:=kp) hf n (by omega)
  rw [accW_succ kp x l n (by omega),seeW_succ _ _ _ _ _ (by omega)]
  by_cases q:l[n].1=x.1∧kp n=true
  ·obtain ⟨h0,h1,h2⟩:=hf _ (List.getElem_mem (by omega:n<l.length)) q.1
   rw [if_pos q,Option.getD_some,putS_see (by rw [hs];exact h1) h2 (by rw [hs];exact hk)]
   by_cases e:l[n].2.1=(k:Int)
   ·rw [if_pos (by omega),if_pos ⟨q.1,e,q.2⟩]
   ·rw [if_neg (by omega),if_neg (fun z=>e z.2.1)];exact ih
  ·rw [if_neg q,if_neg (fun z=>q ⟨z.1,z.2.2⟩)];exact ih
theorem seeW_mem (kp : Nat → Bool) (l : List Wr) (s : ByteArray) (k : Int) (b : ByteArray) : ∀ n, seeW kp l s k b n = b ∨ ∃ w ∈ l, w.1 = s ∧ w.2.1 = k ∧ seeW kp l s k b n = w.2.2
 | 0=>.inl rfl
 | n+1=>by
  by_cases h:n<l.length
  ·rw [seeW_succ _ _ _ _ _ h]
   by_cases q:l[n].1=s∧l[n].2.1=k∧kp n=true
   ·rw [if_pos q];exact .inr ⟨_,List.getElem_mem h,q.1,q.2.1,rfl⟩
   ·rw [if_neg q];exact seeW_mem kp l s k b n
  ·rw [seeW,List.getElem?_eq_none (by omega)];exact seeW_mem kp l s k b n
theorem seeW_front (kp : Nat → Bool) (l m : List Wr) (s : ByteArray) (k : Int) (b : ByteArray) : ∀ n, n ≤ l.length → seeW kp (l ++ m) s k b n = seeW kp l s k b n
 | 0,_=>rfl
 | n+1,h=>by
  rw [seeW_succ _ _ _ _ _ (show n<(l ++ m).length by simp;omega),seeW_succ _ _ _ _ _ (show n<l.length by omega),List.getElem_append_left (by omega),seeW_front kp l m s k b n (by omega)]
theorem seeW_snoc (kp : Nat → Bool) (l : List Wr) (w : Wr) (s : ByteArray) (k : Int) (b : ByteArray) : seeW kp (l ++ [w]) s k b (l ++ [w]).length = if w.1 = s ∧ w.2.1 = k ∧ kp l.length = true then w.2.2 else seeW kp l s k b l.length := by
 rw [show (l ++ [w]).length=l.length+1 by simp,seeW_succ _ _ _ _ _ (by simp),seeW_front _ _ _ _ _ _ _ (Nat.le_refl _)]
 simp
/-! ### Behind what is done -/
theorem seen_add (d : D) (s' : ByteArray) (i : Int) (data s : ByteArray) (k : Int) : seen (addW d (s', i, data)) s k = if s' = s ∧ i = k then data else seen d s k := by
 unfold seen addW
 rw [seeW_snoc]
 simp only [allK,and_true]
theorem exOf_mem {l : List Ext} (ha : Asc l) {x : Ext} (hx : x ∈ l) : exOf l x.1 = x := by
 obtain ⟨i,hi,rfl⟩:=List.getElem_of_mem hx
 have e:=pos_mem ha hi
 rw [exOf_eq (by rw [e];exact hi)]
 simp only [e]
theorem exOf_has {l : List Ext} {s : ByteArray} (ha : Asc l) (h : has l s = true) : exOf l s ∈ l ∧ (exOf l s).1 = s := by
 obtain ⟨x,hx,rfl⟩:=has_iff.1 h
 rw [exOf_mem ha hx];exact ⟨hx,rfl⟩
theorem exOf_map {f : Ext → Ext} (hf : ∀ x, (f x).1 = x.1) {l : List Ext} {s : ByteArray} (ha : Asc l) (h : has l s = true) : exOf (l.map f) s = f (exOf l s) := by
 obtain ⟨x,hx,rfl⟩:=has_iff.1 h
 have:=exOf_mem (asc_map hf ha) (List.mem_map_of_mem hx)
 rw [hf] at this
 rw [this,exOf_mem ha hx]
theorem place0 {d : D} {s : ByteArray} {k : Int} (h : (placeD d s k).2 = 0) : has d.ext s = true ∧ 0 ≤ k ∧ k < sec (exOf d.ext s) := by
 unfold placeD at h
 by_cases q:has d.ext s=true
 ·rw [if_pos q] at h
  by_cases q1:k<0∨(sec (exOf d.ext s):Int)≤k
  ·rw [if_pos q1] at h;simp at h
  ·exact ⟨q,by omega,by omega⟩
 ·rw [if_neg q] at h;simp at h
theorem seen_settle {d : D} {s : ByteArray} {k : Int} (hR : Right d) (h : (placeD d s k).2 = 0) (kp : Nat → Bool) : seen (settleD d kp) s k = seeW kp d.waits s k ((exOf d.ext s).2.extract (64 * k.toNat) (64 * k.toNat + 64)) d.waits.length := by
 obtain ⟨hh,h0,h1⟩:=place0 h
 obtain ⟨hm,hn⟩:=exOf_has hR.ex.asc hh
 have hs:=(eok_sec (hR.ex.ok _ hm)).2
 obtain ⟨m,rfl⟩ : ∃ m:Nat,k=m:=⟨k.toNat,by omega⟩
 unfold seen settleD
 simp only [List.length_nil,seeW]
 rw [exOf_map (f:=doneX kp d.waits) (fun _=>rfl) hR.ex.asc hh]
 have:=acc_see (kp:=kp) (k:=m) (right_fit hR hm) (by omega) d.waits.length (Nat.le_refl _)
 rw [hn] at this
 exact this
end Go.Proofs.YthbadpcmdlfmdaaGreatDoor
