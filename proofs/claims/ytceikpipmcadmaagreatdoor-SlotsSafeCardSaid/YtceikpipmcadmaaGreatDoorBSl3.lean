/-
  Texts that belong together: MemN, DiskMath, Types, Disk1, Disk2, DiskMath2, Disk3, Disk4, Disk5, Disk6.
-/
import Derived.Test.YtceikpipmcadmaaGreatDoorBSl2
import Derived.Lib.Overlaps
set_option linter.unusedVariables false
set_option linter.unusedSimpArgs false
set_option linter.unusedSectionVars false
namespace Go.Proofs.YtceikpipmcadmaaGreatDoor
open Go.RowKit
namespace Mv
/-! ### Less is known of blocks -/
def Mem.Shr (S' S : Mem) : Prop := (∀ b r', S'.own b = some r' → ∃ r, S.own b = some r ∧ r.elem = r'.elem ∧ r'.cells <+: r.cells ∧ r'.room ≤ r.room) ∧ S'.ro = S.ro
theorem View.shr {S S' : Mem} {w : World} (h : View S w) (hl : S'.Shr S) : View S' w :=
 ⟨fun b r' hb=>by
  obtain ⟨r,h1,h2,h3,h4⟩:=hl.1 b r' hb
  obtain ⟨cur,fz,e1,e2,e3,e4⟩:=h.own b r h1
  exact ⟨cur,fz,by rw [← h2];exact e1,h3.trans e2,Nat.le_trans h4 e3,by rw [← h2];exact e4⟩,fun a v ha=>by
  rw [hl.2] at ha
  refine ⟨(h.ro a v ha).1,?_⟩
  cases e:S'.own a.block with
  | none=>rfl
  | some r =>
   obtain ⟨r0,h1,_⟩:=hl.1 _ _ e
   (rw [(h.ro a v ha).2] at h1;cases h1),h.fzOf hl.2 (fun k hk _=>by
  cases e:S'.own k with
  | none=>rfl
  | some r =>
   obtain ⟨r0,h1,_⟩:=hl.1 _ _ e
   rw [hk] at h1;cases h1) fun _ _ _=>rfl⟩
/-- The own memory of a slice of things of n cells. -/
def outN (n : Nat) (S : Mem) (o : Option (Nat × Nat)) (e : TypeId) (cs : List Value) : Mem := match o with
  | none => S
  | some (b, c) => S.set b ⟨e, cs, c * n⟩
theorem outN_over {n : Nat} {S : Mem} {o : Option (Nat × Nat)} {k : Nat} {e : TypeId} {cs : List Value} (h : OkO S o k) : S.Less (outN n S o e cs) := by
 cases o with
 | none=>exact Mem.Less.refl _
 | some q=>exact Mem.less_set _ _ _ (h.own q.1 q.2 rfl).1.1
theorem fresh_outN {n : Nat} {S : Mem} {o : Option (Nat × Nat)} {e : TypeId} {cs : List Value} {b : Nat} (h : Fresh (outN n S o e cs) b) : Fresh S b ∧ ∀ q c, o = some (q, c) → b ≠ q := by
 cases o with
 | none=>exact ⟨h,fun q c x=>by cases x⟩
 | some q=>obtain ⟨h1,h2⟩:=fresh_set h;exact ⟨h1,fun q' c x=>by cases x;exact h2⟩
section
variable {P : Program} {N : Nat} {ops : Array Oper} {E : Env} {S : Mem} {K : Env → Mem → Prop}
variable {ty : TypeId} {pos : String} {aft : Array Edge} {gd : Option (Nat × Bool)}
/-- append to a block of one's own, of what is known. -/
theorem ARun.appendRunK {os : List Oper} {T e : TypeId} {n y : Nat} {z : List Value} {x1 x2 : Operand} {b k c : Nat} {xs news : List Value} {a2 : Addr} {m c2 d : Nat} (hn : d < N) (hT : slT P T = some (e, n, y, z)) (hz : z.length = n)
  (hx:ev E x1=some (.slice (some ⟨b,0,none⟩) k c)) (hb:S.own b=some ⟨e,xs,c*n⟩) (hxs:xs.length=k*n)
  (hy:ev E x2=some (.slice (some a2) m c2)) (hnews:S.Knows a2 news) (hnl:news.length=m*n) (h1:∀ v ∈ news,v.oneCell'=true) (hfit:(k+m)*y≤140737488355328) (h63:k+m≤9223372036854775807)
  (h:∀ b' c',Fresh (S.del b) b'→k+m≤c'→ARun P N ops os K ((d,.slice (some ⟨b',0,none⟩) (k+m) c') :: E) ((S.del b).set b' ⟨e,xs ++ news,c'*n⟩)) :
  ARun P N ops (⟨some d,.call ⟨.builtin .append,#[x1,x2],#[T,T]⟩,ty,pos,aft,none⟩ :: os) K E S:=fun a w g hv=>by
 rw [if_pos (by simp [Region.wanted])]
 obtain ⟨hu,i,v,e1,e2,rfl,rfl,rfl⟩:=slT_spec hT
 have hz':v.cells.size=i.size:=by simpa using hz
 have hex:(execOp a.eval ⟨some d,.call ⟨.builtin .append,#[x1,x2],#[T,T]⟩,ty,pos,aft,none⟩).run P w=((Builtin.append_ #[T,T] ty #[.slice (some ⟨b,0,none⟩) k c,.slice (some a2) m c2]).run P w).andThen fun v w'=>.ok (.value v) w':=by
  simp [execOp,resolve,invoke,builtin,g.ev hx,g.ev hy]
 unfold Oper.wp
 rw [hex]
 by_cases hroom:k+m≤c
 ·obtain ⟨q1,q2⟩:=store_cells (P:=P) hv hb (vs:=news) (o:=k*i.size) (by simp [hxs]) (.inr (by simp only [hnl];rw [← Nat.add_mul];exact Nat.mul_le_mul_right _ hroom)) h1
  have hf:=run_firstCells_some (P:=P) w i.size m a2 m c2 news hnl (fun j u hj=>hnews w hv j u hj)
  have hr:(Builtin.append_ #[T,T] ty #[.slice (some ⟨b,0,none⟩) k c,.slice (some a2) m c2]).run P w = .ok (.slice (some ⟨b,0,none⟩) (k+m) c) (w.setCells b (k*i.size) news):=by
   simp [Builtin.append_,run_underlying hu,sizeOf,typeInfo,e1,Builtin.lenOf,hroom,hf,addr_add,q1]
  rw [hr]
  have hsp:spl xs (k*i.size) news=xs ++ news:=by
   unfold spl
   rw [List.take_of_length_le (by omega),List.drop_of_length_le (by omega),List.append_nil]
  simp only [hsp] at q2
  refine ⟨_,_,h b c (fresh_del (fun a v ha=>(hv.ro a v ha).2) hb) hroom,g.put hn _,?_⟩
  rw [del_set];exact q2
 ·have hfit':Builtin.nextslicecap (k+m) c*i.bytes≤281474976710656:=growslice_fits (by omega) hfit
  have hr:=run_append_grow (P:=P) w T ty e i v hu e1 e2 ⟨b,0,none⟩ k c xs hxs (fun j u hj=>hv.rd (by rw [addr_add,Nat.zero_add,rd_own hb];exact hj)) a2 m c2 news hnl (fun j u hj=>hnews w hv j u hj) (by omega) (by omega) hfit'
  rw [hr]
  have hge:=grownCap_ge w (k+m) c e
  have hvd:View S w.drew:=hv.drawn _
  have hst:=Step.allocP hvd e (xs.toArray ++ news.toArray ++ Builtin.zeroCells v.cells (grownCap w (k+m) c e-(k+m))) (xs ++ news) (grownCap w (k+m) c e*i.size) (by simp [List.append_assoc]) (by
   simp only [Array.size_append,List.size_toArray,size_zeroCells,hz',hxs,hnl,← Nat.add_mul]
   exact Nat.mul_le_mul_right _ (by omega))
  refine ⟨_,_,h w.heap.size (grownCap w (k+m) c e) (hv.freshAt.less (Less.del S b)) hge,g.put hn _,?_⟩
  exact ((Step.drawn hv _).trans hst).less (less_del S b _ _)
theorem ARun.appendNilK {os : List Oper} {T e : TypeId} {n y : Nat} {z : List Value} {x1 x2 : Operand} {news : List Value} {a2 : Addr} {m c2 d : Nat} (hn : d < N) (hT : slT P T = some (e, n, y, z)) (hz : z.length = n)
  (hx:ev E x1=some (.slice none 0 0)) (hy:ev E x2=some (.slice (some a2) m c2)) (hnews:S.Knows a2 news) (hnl:news.length=m*n) (hm:0<m) (hfit:m*y≤140737488355328) (h63:m≤9223372036854775807)
  (h:∀ b' c',Fresh S b'→m≤c'→ARun P N ops os K ((d,.slice (some ⟨b',0,none⟩) m c') :: E) (S.set b' ⟨e,news,c'*n⟩)) :
  ARun P N ops (⟨some d,.call ⟨.builtin .append,#[x1,x2],#[T,T]⟩,ty,pos,aft,none⟩ :: os) K E S:=fun a w g hv=>by
 rw [if_pos (by simp [Region.wanted])]
 obtain ⟨hu,i,v,e1,e2,rfl,rfl,rfl⟩:=slT_spec hT
 have hz':v.cells.size=i.size:=by simpa using hz
 have hex:(execOp a.eval ⟨some d,.call ⟨.builtin .append,#[x1,x2],#[T,T]⟩,ty,pos,aft,none⟩).run P w=((Builtin.append_ #[T,T] ty #[.slice none 0 0,.slice (some a2) m c2]).run P w).andThen fun v w'=>.ok (.value v) w':=by
  simp [execOp,resolve,invoke,builtin,g.ev hx,g.ev hy]
 unfold Oper.wp
 rw [hex,run_append_nil (P:=P) w T ty e i v hu e1 e2 a2 m c2 news hnl (fun j u hj=>hnews w hv j u hj) hm (by omega) (by omega)]
 have hge:=grownCap_ge w m 0 e
 have hvd:View S w.drew:=hv.drawn _
 have hst:=Step.allocP hvd e (news.toArray ++ Builtin.zeroCells v.cells (grownCap w m 0 e-m)) news (grownCap w m 0 e*i.size) (by simp) (by
  simp only [Array.size_append,List.size_toArray,size_zeroCells,hz',hnl,← Nat.add_mul]
  exact Nat.mul_le_mul_right _ (by omega))
 exact ⟨_,_,h w.heap.size (grownCap w m 0 e) hv.freshAt hge,g.put hn _,(Step.drawn hv _).trans hst⟩
/-- copy into a block of one's own. -/
theorem ARun.copyK {os : List Oper} {T T2 e : TypeId} {n y : Nat} {z : List Value} {x1 x2 : Operand} {b o k c : Nat} {r : Blk} {news : List Value} {a2 : Addr} {m c2 q d : Nat} (hn : d < N) (hT : slT P T = some (e, n, y, z))
  (hx:ev E x1=some (.slice (some ⟨b,o,none⟩) k c)) (hb:S.own b=some r) (ho:o≤r.cells.length)
  (hy:ev E x2=some (.slice (some a2) m c2)) (hq:q=min m k) (hnews:S.Knows a2 news) (hnl:news.length=q*n) (h1:∀ v ∈ news,v.oneCell'=true) (hfit:o+news.length≤r.cells.length∨o+news.length≤r.room)
  (h:ARun P N ops os K ((d,.int .i64 (q:Int)) :: E) (S.set b ⟨r.elem,spl r.cells o news,r.room⟩)) :
  ARun P N ops (⟨some d,.call ⟨.builtin .copy,#[x1,x2],#[T,T2]⟩,ty,pos,aft,none⟩ :: os) K E S:=fun a w g hv=>by
 rw [if_pos (by simp [Region.wanted])]
 obtain ⟨hu,i,v,e1,e2,rfl,rfl,rfl⟩:=slT_spec hT
 have hex:(execOp a.eval ⟨some d,.call ⟨.builtin .copy,#[x1,x2],#[T,T2]⟩,ty,pos,aft,none⟩).run P w=((Builtin.copy_ #[T,T2] ty #[.slice (some ⟨b,o,none⟩) k c,.slice (some a2) m c2]).run P w).andThen fun v w'=>.ok (.value v) w':=by
  simp [execOp,resolve,invoke,builtin,g.ev hx,g.ev hy]
 unfold Oper.wp
 rw [hex]
 obtain ⟨q1,q2⟩:=store_cells (P:=P) hv hb (vs:=news) (o:=o) ho hfit h1
 have hf:=run_firstCells_some (P:=P) w i.size q a2 m c2 news hnl (fun j u hj=>hnews w hv j u hj)
 have hq':Nat.min m k=q:=hq.symm
 have hr:(Builtin.copy_ #[T,T2] ty #[.slice (some ⟨b,o,none⟩) k c,.slice (some a2) m c2]).run P w = .ok (.int .i64 (q:Int)) (w.setCells b o news):=by
  simp [Builtin.copy_,run_underlying hu,sizeOf,typeInfo,e1,Builtin.lenOf,hq',hf,q1,goInt]
 rw [hr]
 exact ⟨_,_,h,g.put hn _,q2⟩
theorem Calm.cap {T e : TypeId} {x : Operand} {a : Option Addr} {k c : Nat} {dst : Option Nat} (hT : P.underlying T = some (.slice e)) (hx : ev E x = some (.slice a k c)) : ACalm P N ⟨dst, .call ⟨.builtin .cap, #[x], #[T]⟩, ty, pos, aft, gd⟩ E S (.int .i64 (c : Int)) := fun ac w g hv => by
 simp [execOp,resolve,invoke,builtin,g.ev hx,Builtin.cap_,run_underlying hT,goInt]
end
/-! ### Appending to a slice of one's own -/
/-- The first m things of a slice that is known. -/
def Src (M : Mem) (v : Value) (m : Nat) (news : List Value) : Prop := ∃ A c, v = .slice A m c ∧ (m = 0 ∨ ∃ a, A = some a ∧ M.Knows a news)
theorem Src.less {M M' : Mem} {v : Value} {m : Nat} {news : List Value} (h : Src M v m news) (hl : M.Less M') : Src M' v m news := by
 obtain ⟨A,c,e,h⟩:=h
 exact ⟨A,c,e,h.imp id fun ⟨a,e2,k⟩=>⟨a,e2,k.less hl⟩⟩
theorem flat_length {α : Type} {n : Nat} {f : α → List Value} (hn : ∀ x, (f x).length = n) (l : List α) : (l.flatMap f).length = l.length * n := by
 induction l with
 | nil=>simp
 | cons x l ih=>rw [List.flatMap_cons,List.length_append,hn,ih,List.length_cons,Nat.succ_mul,Nat.add_comm]
theorem flat_split {α : Type} {n : Nat} {f : α → List Value} (hn : ∀ x, (f x).length = n) : ∀ (l : List α) (j : Nat) (v : Value), (l.flatMap f)[j]? = some v → ∃ (i q : Nat) (h : i < l.length), j = i * n + q ∧ q < n ∧ (f l[i])[q]? = some v
 | [],j,v,h=>by simp at h
 | x :: l,j,v,h=>by
  rw [List.flatMap_cons] at h
  by_cases hj:j<(f x).length
  ·rw [List.getElem?_append_left hj] at h
   rw [hn] at hj
   exact ⟨0,j,by simp,by omega,hj,h⟩
  ·rw [List.getElem?_append_right (by omega)] at h
   rw [hn] at hj h
   obtain ⟨i,q,hi,e,hq,hv⟩:=flat_split hn l (j-n) v h
   exact ⟨i+1,q,by simpa using hi,by rw [Nat.succ_mul];omega,hq,by simpa using hv⟩
theorem Sl.allN {α : Type} {n : Nat} {f : α → List Value} (hn : ∀ x, (f x).length = n) {S : Mem} {b off : Nat} {len cap : Nat} {l : List α} (h : Sl n f S (.slice (some ⟨b, off, none⟩) len cap) l) : S.Knows ⟨b, off, none⟩ (l.flatMap f) := fun w hv j v hj => by
 obtain ⟨i,q,hi,rfl,hq,hx⟩:=flat_split hn l j v hj
 have:=h.at1 i hi w hv q v hx
 rw [addr_add] at this ⊢
 rw [← this];congr 2;omega
theorem Sl.src {α : Type} {n : Nat} {f : α → List Value} (hn : ∀ x, (f x).length = n) {S : Mem} {v : Value} {l : List α} (h : Sl n f S v l) : Src S v l.length (l.flatMap f) := by
 obtain ⟨a,c,rfl,_,_,h4⟩:=id h
 refine ⟨a,c,rfl,?_⟩
 rcases h4 with rfl | ⟨b,off,rfl,_⟩
 ·left;rfl
 ·right;exact ⟨_,rfl,Sl.allN hn h⟩
theorem src_own {S : Mem} {b c : Nat} {r : Blk} {news : List Value} {m : Nat} (h : S.own b = some r) (hc : news <+: r.cells) : Src S (.slice (some ⟨b, 0, none⟩) m c) m news := ⟨_, c, rfl, .inr ⟨_, rfl, (rds_prefix h hc).knows⟩⟩
structure AppN (n : Nat) (M S : Mem) (o : Option (Nat × Nat)) (e : TypeId) (cs : List Value) : Prop where
  nil : o = none → cs = [] ∧ S.Less M
  own : ∀ b c, o = some (b, c) → M.own b = some ⟨e, cs, c * n⟩ ∧ S.Less (M.del b)
theorem appN_self {n : Nat} {S : Mem} {o : Option (Nat × Nat)} {k : Nat} {e : TypeId} {cs : List Value} (h : OkO S o k) (hn : cs.length = k * n) : AppN n (outN n S o e cs) S o e cs := by
 refine ⟨fun ho=>?_,fun b c ho=>?_⟩
 ·subst ho
  exact ⟨List.eq_nil_of_length_eq_zero (by rw [hn,h.nil rfl,Nat.zero_mul]),Mem.Less.refl _⟩
 ·subst ho
  refine ⟨Mem.own_set_same _ _ _,?_⟩
  rw [show (outN n S (some (b,c)) e cs).del b=S from set_del_same' (del_base (h.own b c rfl).1)]
  exact Mem.Less.refl _
theorem AppN.temp {n : Nat} {M S : Mem} {o : Option (Nat × Nat)} {e : TypeId} {cs : List Value} {t : Nat} {r : Blk} (h : AppN n M S o e cs) (ht : Fresh M t) : AppN n (M.set t r) S o e cs := by
 refine ⟨fun ho=>⟨(h.nil ho).1,(h.nil ho).2.trans (Mem.less_set _ _ _ ht.1)⟩,fun b c ho=>?_⟩
 obtain ⟨h1,h2⟩:=h.own b c ho
 have hne:=ht.ne h1
 refine ⟨(Mem.own_set_other _ _ hne).trans h1,h2.trans ⟨fun k r' hk=>?_,rfl⟩⟩
 have hkb:k≠b:=fun e=>by subst e;simp [Mem.del] at hk
 rw [Mem.own_del_other _ hkb] at hk ⊢
 exact (Mem.own_set_other _ _ (Ne.symm (ht.ne' hk))).trans hk
section
variable {P : Program} {N : Nat} {ops : Array Oper} {E : Env} {S M : Mem} {K : Env → Mem → Prop}
variable {ty : TypeId} {pos : String} {aft : Array Edge} {gd : Option (Nat × Bool)}
theorem ARun.appendOK {os : List Oper} {T e : TypeId} {n y : Nat} {z : List Value} {x1 x2 : Operand} {o : Option (Nat × Nat)} {k m d : Nat} {cs news : List Value} {v : Value} (hn : d < N) (hT : slT P T = some (e, n, y, z)) (hz : z.length = n)
  (hx:ev E x1=some (outV o k)) (hcs:cs.length=k*n) (hok:OkO S o k) (happ:AppN n M S o e cs) (hy:ev E x2=some v) (hv:Src M v m news) (hnl:news.length=m*n) (h1:∀ v ∈ news,v.oneCell'=true) (hfit:(k+m)*y≤140737488355328) (h63:k+m≤9223372036854775807)
  (h:∀ o',OkO S o' (k+m)→ARun P N ops os K ((d,outV o' (k+m)) :: E) (outN n S o' e (cs ++ news))) :
  ARun P N ops (⟨some d,.call ⟨.builtin .append,#[x1,x2],#[T,T]⟩,ty,pos,aft,none⟩ :: os) K E M:=by
 obtain ⟨A,c2,rfl,hv⟩:=hv
 by_cases hm:m=0
 ·subst hm
  obtain rfl:news = []:=List.eq_nil_of_length_eq_zero (by rw [hnl,Nat.zero_mul])
  have h2:=h o hok
  rw [Nat.add_zero,List.append_nil] at h2
  refine AOp.toLess (K:=fun E' S'=>ARun P N ops os K E' S') ?_
  cases o with
  | none =>
   have h0:=hok.nil rfl;subst h0
   exact ARun.appendNone (os:=[]) hn hT (Nat.le_refl 0) hx hy ⟨S,(happ.nil rfl).2,h2⟩
  | some q =>
   obtain ⟨b,c⟩:=q
   obtain ⟨p1,p2⟩:=happ.own b c rfl
   refine ARun.appendNone (os:=[]) hn hT (hok.own b c rfl).2 hx hy ⟨_,?_,h2⟩
   refine ⟨fun k' r hk=>?_,p2.2⟩
   by_cases ek:k'=b
   ·subst ek;rw [show (outN n S (some (k',c)) e cs).own k'=_ from Mem.own_set_same _ _ _] at hk;rw [p1];exact hk
   ·rw [show (outN n S (some (b,c)) e cs).own k'=_ from Mem.own_set_other _ _ ek] at hk
    have:=p2.1 _ _ hk
    rwa [Mem.own_del_other _ ek] at this
 ·obtain ⟨a2,rfl,hk⟩:=hv.resolve_left hm
  cases o with
  | none =>
   have h0:=hok.nil rfl;subst h0
   obtain ⟨q1,q2⟩:=happ.nil rfl
   subst q1
   refine AOp.toLess (K:=fun E' S'=>ARun P N ops os K E' S') ?_
   refine ARun.appendNilK (os:=[]) hn hT hz hx hy hk hnl (by omega) (by simpa using hfit) (by omega) fun b c hb hc=>?_
   refine ⟨S.set b ⟨e,news,c*n⟩,Less.set q2 _ _,?_⟩
   have:=h (some (b,c)) ⟨(fun x=>by cases x),fun b' c' x=>by cases x;exact ⟨hb.less q2,by omega⟩⟩
   simpa [outN,outV] using this
  | some q =>
   obtain ⟨b0,c0⟩:=q
   obtain ⟨q1,q2⟩:=happ.own b0 c0 rfl
   refine AOp.toLess (K:=fun E' S'=>ARun P N ops os K E' S') ?_
   refine ARun.appendRunK (os:=[]) hn hT hz hx q1 hcs hy hk hnl h1 hfit h63 fun b c hb hc=>?_
   refine ⟨S.set b ⟨e,cs ++ news,c*n⟩,Less.set q2 _ _,?_⟩
   exact h (some (b,c)) ⟨(fun x=>by cases x),fun b' c' x=>by cases x;exact ⟨hb.less q2,hc⟩⟩
end
/-- A slice of one's own, as what is known. -/
theorem sl_outN {α : Type} {n : Nat} {f : α → List Value} (hn : ∀ x, (f x).length = n) {S : Mem} {o : Option (Nat × Nat)} {e : TypeId} {l : List α} {k : Nat} (h : OkO S o k) (hl : l.length = k) (hm : k ≤ 9223372036854775807) : Sl n f (outN n S o e (l.flatMap f)) (outV o k) l := by
 subst hl
 cases o with
 | none=>obtain rfl:l = []:=List.eq_nil_of_length_eq_zero (h.nil rfl);exact Sl.nil _ _ _
 | some q=>exact Sl.own (r:=⟨e,l.flatMap f,q.2*n⟩) (Mem.own_set_same _ _ _) hn List.prefix_rfl rfl (h.own _ _ rfl).2 hm
/-- What a copy of a slice is: a slice of one's own, or nil. -/
def OwnR {α : Type} (n : Nat) (f : α → List Value) (e : TypeId) (l : List α) (S : Mem) (r : Value) (S' : Mem) : Prop := ∃ o, OkO S o l.length ∧ r = outV o l.length ∧ S' = outN n S o e (l.flatMap f)
section
variable {P : Program} {N : Nat} {ops : Array Oper} {E : Env} {S : Mem} {K : Env → Mem → Prop}
variable {ty : TypeId} {pos : String} {aft : Array Edge} {gd : Option (Nat × Bool)}
/-- slices.overlaps of two slices of two blocks: no. -/
theorem ARun.overlapsNo {os : List Oper} {f : FuncId} {fn : Func} {T tR e : TypeId} {n : Nat} {xs : List Operand} {ats : Array TypeId} {t b o1 o2 la ca lb cb d : Nat} {r r2 : Blk} (hn : d < N) (hf : P.funcs[f]? = some fn) (hname : (fn.name == "runtime.NumGoroutine") = false) (hb : fn.body.isNone = true)
  (hx':Extern.findNext fn=none) (he:Extern.find fn=some (Extern.SlicesOverlaps.overlaps #[T,T] #[tR])) (ht:P.underlying T=some (.slice e)) (hz:sizeT P e=some n) (hx:evs E xs=some [.slice (some ⟨t,o1,none⟩) la ca,.slice (some ⟨b,o2,none⟩) lb cb])
  (h1:S.own t=some r) (hne:r.elem≠5) (ho1:o1<r.cells.length) (h2:S.own b=some r2) (hr2:0<r2.cells.length) (htb:t≠b)
  (h:ARun P N ops os K ((d,.bool false) :: E) S):ARun P N ops (⟨some d,.call ⟨.value (.func f),xs.toArray,ats⟩,ty,pos,aft,none⟩ :: os) K E S:=fun a w g hv=>by
 rw [if_pos (by simp [Region.wanted])]
 unfold Oper.wp
 have hc:execOp a.eval ⟨some d,.call ⟨.value (.func f),xs.toArray,ats⟩,ty,pos,aft,none⟩=callFunc f #[.slice (some ⟨t,o1,none⟩) la ca,.slice (some ⟨b,o2,none⟩) lb cb]:=by
  rw [execOp_call_go]
  simp [g.evs hx]
 obtain ⟨cur,fz,e1,e2,e3,e4⟩:=hv.own t r h1
 obtain ⟨cur2,fz2,k1,k2,k3,k4⟩:=hv.own b r2 h2
 have hl1:r.cells.length≤cur.size:=by have:=e2.length_le;simpa using this
 have hl2:r2.cells.length≤cur2.size:=by have:=k2.length_le;simpa using this
 have hr:=Lib.run_overlaps_apart (P:=P) w T tR e ht n (fun w=>run_sizeT hz w) ⟨t,o1,none⟩ ⟨b,o2,none⟩ la ca lb cb htb r.elem r2.elem cur.size cur2.size (by simp [World.shape?,e1]) (by simp [World.shape?,k1]) (by omega)
  (by have:=e4 o1 (.inl (by omega));simpa [World.frozen?,e1] using this) (by have:=e4 cur.size (.inr ⟨rfl,hne⟩);simpa [World.frozen?,e1] using this)
 rw [hc,run_callFunc_extern hf hname hb hx' he,hr]
 exact ⟨_,_,h,g.put hn _,Step.refl hv⟩
/-- append of so many zeros, where a new block is needed. -/
theorem ARun.appendMake {os : List Oper} {T Ti e : TypeId} {n y : Nat} {z : List Value} {x1 x2 : Operand} {k c m : Nat} {xs : List Value} {A : Addr} {d : Nat} (hn : d < N) (hT : slT P T = some (e, n, y, z)) (hz : z.length = n) (hTi : P.underlying Ti = some (.int .i64))
  (hx:ev E x1=some (.slice (some A) k c)) (hxs:xs.length=k*n) (hk:S.Knows A xs) (hy:ev E x2=some (.int .i64 (m:Int))) (hgrow:c<k+m) (hfit:(k+m)*y≤140737488355328) (h63:k+m≤9223372036854775807)
  (h:∀ b' c' zs,Fresh S b'→k+m≤c'→zs.length=m*n→ARun P N ops os K ((d,.slice (some ⟨b',0,none⟩) (k+m) c') :: E) (S.set b' ⟨e,xs ++ zs,c'*n⟩)) :
  ARun P N ops (⟨some d,.call ⟨.builtin .append,#[x1,x2],#[T,Ti]⟩,ty,pos,aft,none⟩ :: os) K E S:=fun a w g hv=>by
 rw [if_pos (by simp [Region.wanted])]
 obtain ⟨hu,i,v,e1,e2,rfl,rfl,rfl⟩:=slT_spec hT
 have hz':v.cells.size=i.size:=by simpa using hz
 have hex:(execOp a.eval ⟨some d,.call ⟨.builtin .append,#[x1,x2],#[T,Ti]⟩,ty,pos,aft,none⟩).run P w=((Builtin.append_ #[T,Ti] ty #[.slice (some A) k c,.int .i64 (m:Int)]).run P w).andThen fun v w'=>.ok (.value v) w':=by
  simp [execOp,resolve,invoke,builtin,g.ev hx,g.ev hy]
 unfold Oper.wp
 rw [hex]
 have hfit':Builtin.nextslicecap (k+m) c*i.bytes≤281474976710656:=growslice_fits (by omega) hfit
 have hf:=run_firstCells_some (P:=P) w i.size k A k c xs hxs (fun j u hj=>hk w hv j u hj)
 have hw:IntKind.i64.wrap (m:Int)=(m:Int):=IntWalk.i64_in _ (by omega)
 have hfo:=run_firstCells_some (P:=P) w.drew i.size k A k c xs hxs (fun j u hj=>by have:=hk w hv j u hj;simpa using this)
 have hm0 : ¬ ((m:Int)<0):=by omega
 have hmx:max (m:Int) 0=(m:Int):=by omega
 have hmy:m*i.bytes≤140737488355328:=Nat.le_trans (Nat.mul_le_mul_right _ (by omega)) hfit
 have hmb : ¬ (281474976710656<(m:Int)*(i.bytes:Int)):=by
  have:((m*i.bytes:Nat):Int)≤140737488355328:=by omega
  rw [Int.natCast_mul] at this;omega
 have hnc : ¬ (k+m≤c):=by omega
 have h63' : ¬ (9223372036854775807<((k:Int)+(m:Int))):=by omega
 have h48' : ¬ (281474976710656<Builtin.nextslicecap (k+m) c*i.bytes):=by omega
 obtain ⟨za,hza,hzl⟩ : ∃ za:Array Value,(if m*i.size=0 then (#[] : Array Value) else Builtin.zeroCells v.cells m)=za∧za.size=m*i.size:=by
  by_cases h0:m*i.size=0
  ·exact ⟨#[],by rw [if_pos h0],by simp [h0]⟩
  ·exact ⟨_,by rw [if_neg h0],by rw [size_zeroCells,hz']⟩
 have hr:(Builtin.append_ #[T,Ti] ty #[.slice (some A) k c,.int .i64 (m:Int)]).run P w = .ok (.slice (some ⟨w.heap.size,0,none⟩) (k+m) (grownCap w (k+m) c e)) (w.drew.alloc (.cells (xs.toArray ++ za ++ Builtin.zeroCells v.cells (grownCap w (k+m) c e-(k+m))) e)):=by
  subst hza
  by_cases h0:m*i.size=0
  ·have h0':=h0
   simp [Builtin.append_,run_underlying hu,run_underlying hTi,sizeOf,typeInfo,zeroValue,e1,e2,asInt,asIntOf,hw,hmx,hm0,hmb,hnc,h63',h48',h0',Question.forced,hfo,newRow,grownCap]
  ·have h0':=h0
   simp [Builtin.append_,run_underlying hu,run_underlying hTi,sizeOf,typeInfo,zeroValue,e1,e2,asInt,asIntOf,hw,hmx,hm0,hmb,hnc,h63',h48',h0',Question.forced,hfo,newRow,grownCap]
 rw [hr]
 have hge:=grownCap_ge w (k+m) c e
 have hvd:View S w.drew:=hv.drawn _
 have hst:=Step.allocP hvd e (xs.toArray ++ za ++ Builtin.zeroCells v.cells (grownCap w (k+m) c e-(k+m))) (xs ++ za.toList) (grownCap w (k+m) c e*i.size) (by simp [List.append_assoc]) (by
  simp only [Array.size_append,List.size_toArray,size_zeroCells,hz',hxs,hzl,← Nat.add_mul]
  exact Nat.mul_le_mul_right _ (by omega))
 exact ⟨_,_,h w.heap.size (grownCap w (k+m) c e) za.toList hv.freshAt hge (by simpa using hzl),g.put hn _,(Step.drawn hv _).trans hst⟩
end
section
variable {P : Program} {N : Nat} {E : Env} {S : Mem} {dst : Option Nat} {ty : TypeId} {pos : String} {aft : Array Edge} {gd : Option (Nat × Bool)}
theorem Calm.sliceLo {T e : TypeId} {x lo : Operand} {kd : IntKind} {j : Int} {b o len cap n : Nat} (l : Nat) (hT : P.underlying T = some (.slice e)) (he : sizeT P e = some n) (hx : ev E x = some (.slice (some ⟨b, o, none⟩) len cap)) (hlo : ev E lo = some (.int kd j)) (hj : j = (l : Int)) (h1 : l ≤ len) (h2 : l < cap) :
  ACalm P N ⟨dst,.slice T x (some lo) none none,ty,pos,aft,gd⟩ E S (.slice (some ⟨b,o+l*n,none⟩) (len-l) (cap-l)):=by
 subst hj
 have:=Calm.sliceSl (S:=S) (N:=N) (dst:=dst) (ty:=ty) (pos:=pos) (aft:=aft) (gd:=gd) hT he hx (bnd_none cap cap) (by simp) (bnd_none len cap) (bnd_some 0 len hlo (by omega) (by omega))
 rw [Int.toNat_natCast,if_neg (by omega)] at this
 exact this
theorem Calm.sliceHi {T e : TypeId} {x hi : Operand} {kd : IntKind} {j : Int} {b o len cap n : Nat} (h : Nat) (hT : P.underlying T = some (.slice e)) (he : sizeT P e = some n) (hx : ev E x = some (.slice (some ⟨b, o, none⟩) len cap)) (hhi : ev E hi = some (.int kd j)) (hj : j = (h : Int)) (h1 : h ≤ cap) :
  ACalm P N ⟨dst,.slice T x none (some hi) none,ty,pos,aft,gd⟩ E S (.slice (some ⟨b,o,none⟩) h cap):=by
 subst hj
 have:=Calm.sliceHead (S:=S) (N:=N) (dst:=dst) (ty:=ty) (pos:=pos) (aft:=aft) (gd:=gd) hT he hx (bnd_none cap cap) (by simp) (bnd_some len cap hhi (by omega) (by omega))
 rw [Int.toNat_natCast] at this
 exact this
end
end Mv
end Go.Proofs.YtceikpipmcadmaaGreatDoor
namespace Go.Proofs.YtceikpipmcadmaaGreatDoor
open Go.RowKit
namespace Disk
/-! ### Texts in order -/
theorem bl_irrefl (a : List UInt8) : Op.bytesLess a a = false := by
 induction a with
 | nil=>rfl
 | cons x a ih=>simp [Op.bytesLess,ih]
theorem bl_trans : ∀ (a b c : List UInt8), Op.bytesLess a b = true → Op.bytesLess b c = true → Op.bytesLess a c = true
 | _,_,[],_,h=>by simp [Op.bytesLess] at h
 | [],_,_ :: _,_,_=>rfl
 | x :: a,[],z :: c,h,_=>by simp [Op.bytesLess] at h
 | x :: a,y :: b,z :: c,h1,h2=>by
  simp only [Op.bytesLess,Bool.or_eq_true,Bool.and_eq_true,decide_eq_true_eq,beq_iff_eq] at h1 h2 ⊢
  rcases h1 with h1 | ⟨rfl,h1⟩
  ·rcases h2 with h2 | ⟨rfl,h2⟩
   ·left;exact UInt8.lt_trans h1 h2
   ·left;exact h1
  ·rcases h2 with h2 | ⟨rfl,h2⟩
   ·left;exact h2
   ·right;exact ⟨rfl,bl_trans a b c h1 h2⟩
theorem bl_tri : ∀ (a b : List UInt8), a ≠ b → Op.bytesLess a b = false → Op.bytesLess b a = true
 | [],[],h,_=>absurd rfl h
 | [],_ :: _,_,h=>by simp [Op.bytesLess] at h
 | _ :: _,[],_,_=>rfl
 | x :: a,y :: b,hne,h=>by
  simp only [Op.bytesLess,Bool.or_eq_false_iff,Bool.and_eq_false_iff,decide_eq_false_iff_not,Bool.or_eq_true,Bool.and_eq_true,decide_eq_true_eq,beq_iff_eq] at h ⊢
  by_cases e:x=y
  ·subst e
   right
   refine ⟨rfl,bl_tri a b (fun e=>hne (by rw [e])) ?_⟩
   rcases h.2 with h2 | h2
   ·simp at h2
   ·exact h2
  ·left
   have h1:=h.1
   rcases Nat.lt_trichotomy x.toNat y.toNat with h' | h' | h'
   ·exact absurd (UInt8.lt_iff_toNat_lt.2 h') h1
   ·exact absurd (UInt8.toNat_inj.1 h') e
   ·exact UInt8.lt_iff_toNat_lt.2 h'
def lt (a b : ByteArray) : Bool := Op.bytesLess a.data.toList b.data.toList
theorem lt_irrefl (a : ByteArray) : lt a a = false := bl_irrefl _
theorem lt_trans {a b c : ByteArray} (h : lt a b = true) (k : lt b c = true) : lt a c = true := bl_trans _ _ _ h k
theorem lt_tri {a b : ByteArray} (hne : a ≠ b) (h : lt a b = false) : lt b a = true := bl_tri _ _ (fun e => hne (Mv.str_ext e)) h
theorem lt_ne {a b : ByteArray} (h : lt a b = true) : a ≠ b := fun e => by subst e; rw [lt_irrefl] at h; cases h
theorem lt_asymm {a b : ByteArray} (h : lt a b = true) : lt b a = false := by
 cases h':lt b a with
 | false=>rfl
 | true=>have:=lt_trans h h';rw [lt_irrefl] at this;cases this
/-! ### What a disk is -/
abbrev Ext := ByteArray × ByteArray
abbrev Wr := ByteArray × Int × ByteArray
def extF (x : Ext) : List Value := [.string x.1, .string x.2]
def wrF (x : Wr) : List Value := [.string x.1, .int .i64 x.2.1, .string x.2.2]
structure D where
  size : Int
  ext : List Ext
  waits : List Wr
  fuse : Int
  down : Bool
def D0 : D := ⟨0, [], [], 0, false⟩
def sec (x : Ext) : Nat := x.2.size / 64
def used : List Ext → Nat
  | [] => 0
  | x :: l => sec x + used l
theorem used_append (l m : List Ext) : used (l ++ m) = used l + used m := by
 induction l with
 | nil=>simp [used]
 | cons x l ih=>simp only [List.cons_append,used,ih];omega
def nm (s : ByteArray) : Prop := s.size ≠ 0 ∧ s.size ≤ 16
instance (s : ByteArray) : Decidable (nm s) := by unfold nm; infer_instance
def eok (x : Ext) : Prop := nm x.1 ∧ x.2.size ≠ 0 ∧ x.2.size % 64 = 0
instance (x : Ext) : Decidable (eok x) := by unfold eok; infer_instance
def Asc (l : List Ext) : Prop := l.Pairwise fun x y => lt x.1 y.1 = true
def wok (l : List Ext) (w : Wr) : Prop := ∃ x ∈ l, x.1 = w.1 ∧ 0 ≤ w.2.1 ∧ w.2.1 < sec x ∧ w.2.2.size = 64
/-- Extents that are right for so many sectors. -/
structure ERight (l : List Ext) (size : Int) : Prop where
  ok : ∀ x ∈ l, eok x
  asc : Asc l
  us : (used l : Int) ≤ size
structure Right (d : D) : Prop where
  s0 : 0 ≤ d.size
  s1 : d.size ≤ 16384
  wl : d.waits.length ≤ 16384
  fu : -1 ≤ d.fuse
  ex : ERight d.ext d.size
  wr : ∀ w ∈ d.waits, wok d.ext w
theorem eok_sec {x : Ext} (h : eok x) : 1 ≤ sec x ∧ x.2.size = 64 * sec x := by
 obtain ⟨_,h1,h2⟩:=h;unfold sec;omega
theorem used_ge {l : List Ext} (h : ∀ x ∈ l, eok x) : l.length ≤ used l := by
 induction l with
 | nil=>simp [used]
 | cons x l ih =>
  have h1:=(eok_sec (h x (by simp))).1
  have h2:=ih fun y hy=>h y (by simp [hy])
  simp only [used,List.length_cons];omega
theorem used_mem {l : List Ext} {x : Ext} (h : x ∈ l) : sec x ≤ used l := by
 induction l with
 | nil=>cases h
 | cons y l ih =>
  simp only [used]
  rcases List.mem_cons.1 h with rfl | h
  ·omega
  ·have:=ih h;omega
noncomputable def chkD (d : D) : Int := by
  classical exact if Right d then 0 else 2
theorem chkD_yes {d : D} (h : Right d) : chkD d = 0 := by unfold chkD; exact if_pos h
theorem chkD_no {d : D} (h : ¬ Right d) : chkD d = 2 := by unfold chkD; exact if_neg h
theorem chkD_or (d : D) : (chkD d = 0 ∧ Right d) ∨ (chkD d = 2 ∧ ¬ Right d) := by
 by_cases h:Right d
 ·exact .inl ⟨chkD_yes h,h⟩
 ·exact .inr ⟨chkD_no h,h⟩
/-! ### Where an extent is -/
/-- How many are ahead of a name. -/
def pos (l : List Ext) (s : ByteArray) : Nat := (l.takeWhile fun x => lt x.1 s).length
def has (l : List Ext) (s : ByteArray) : Bool := l.any fun x => decide (x.1 = s)
theorem has_iff {l : List Ext} {s : ByteArray} : has l s = true ↔ ∃ x ∈ l, x.1 = s := by simp [has]
theorem pos_le (l : List Ext) (s : ByteArray) : pos l s ≤ l.length := by
 unfold pos;exact (List.takeWhile_prefix _).length_le
theorem asc_tail {x : Ext} {l : List Ext} (h : Asc (x :: l)) : Asc l := (List.pairwise_cons.1 h).2
theorem asc_get {l : List Ext} (h : Asc l) {i j : Nat} (hj : j < l.length) (hij : i < j) : lt l[i].1 l[j].1 = true := List.pairwise_iff_getElem.1 h i j (by omega) hj hij
/-- It is the only place with: ahead all are less, behind none is. -/
theorem pos_iff {l : List Ext} {s : ByteArray} {k : Nat} (hk : k ≤ l.length) (h1 : ∀ i (h : i < l.length), i < k → lt l[i].1 s = true) (h2 : ∀ (h : k < l.length), lt l[k].1 s = false) : pos l s = k := by
 induction l generalizing k with
 | nil=>simp at hk;subst hk;rfl
 | cons x l ih =>
  unfold pos
  cases k with
  | zero =>
   have:=h2 (by simp)
   simp only [List.getElem_cons_zero] at this
   rw [List.takeWhile_cons,this];rfl
  | succ k =>
   have h0:=h1 0 (by simp) (by omega)
   simp only [List.getElem_cons_zero] at h0
   rw [List.takeWhile_cons,h0]
   simp only [if_true,List.length_cons]
   have:=ih (k:=k) (by simpa using hk) (fun i h hi=>by have:=h1 (i+1) (by simpa using h) (by omega);simpa using this) (fun h=>by have:=h2 (by simpa using h);simpa using this)
   unfold pos at this;omega
theorem pos_lt {l : List Ext} {s : ByteArray} {i : Nat} (hi : i < l.length) (h : i < pos l s) : lt l[i].1 s = true := by
 unfold pos at h
 have hp:=List.takeWhile_prefix (l:=l) (fun x=>lt x.1 s)
 have h2:(l.takeWhile fun x=>lt x.1 s)[i]=l[i]:=List.IsPrefix.getElem hp h
 have h3:=List.all_takeWhile (p:=fun x:Ext=>lt x.1 s) (l:=l)
 have:=List.all_eq_true.1 h3 _ (List.getElem_mem h)
 rw [h2] at this;exact this
theorem pos_at {l : List Ext} {s : ByteArray} (h : pos l s < l.length) : lt l[pos l s].1 s = false := by
 induction l with
 | nil=>simp at h
 | cons x l ih =>
  by_cases hx:lt x.1 s=true
  ·have e:pos (x :: l) s=pos l s+1:=by unfold pos;rw [List.takeWhile_cons,hx];rfl
   simp only [e,List.getElem_cons_succ]
   exact ih (by rw [e] at h;simpa using h)
  ·have hx':lt x.1 s=false:=by simpa using hx
   have e:pos (x :: l) s=0:=by unfold pos;rw [List.takeWhile_cons,hx'];rfl
   simp only [e,List.getElem_cons_zero];exact hx'
/-- In a list that rises the name is there just if it is at its place. -/
theorem has_pos {l : List Ext} (ha : Asc l) (s : ByteArray) : has l s = true ↔ ∃ h : pos l s < l.length, l[pos l s].1 = s := by
 constructor
 ·intro h
  obtain ⟨x,hx,rfl⟩:=has_iff.1 h
  obtain ⟨j,hj,rfl⟩:=List.getElem_of_mem hx
  have e:pos l l[j].1=j:=pos_iff (by omega) (fun i h hi=>asc_get ha hj hi) (fun h=>lt_irrefl _)
  exact ⟨by rw [e];exact hj,by simp only [e]⟩
 ·rintro ⟨h,e⟩
  exact has_iff.2 ⟨_,List.getElem_mem h,e⟩
theorem pos_mem {l : List Ext} (ha : Asc l) {j : Nat} (hj : j < l.length) : pos l l[j].1 = j := pos_iff (by omega) (fun i h hi => asc_get ha hj hi) (fun h => lt_irrefl _)
theorem asc_inj {l : List Ext} (ha : Asc l) {x y : Ext} (hx : x ∈ l) (hy : y ∈ l) (h : x.1 = y.1) : x = y := by
 obtain ⟨i,hi,rfl⟩:=List.getElem_of_mem hx
 obtain ⟨j,hj,rfl⟩:=List.getElem_of_mem hy
 have h1:=pos_mem ha hi
 have h2:=pos_mem ha hj
 rw [h] at h1
 have:i=j:=by omega
 subst this;rfl
end Disk
end Go.Proofs.YtceikpipmcadmaaGreatDoor
namespace Go.Proofs.YtceikpipmcadmaaGreatDoor
open Mv
namespace Mv
theorem mixed : Tryz.prog.follows .mixedOrders = true := by kernel_rfl
instance : TMix Tryz.prog := ⟨mixed⟩
theorem ty_plain_1 : plainT Tryz.prog 1 = true := by kernel_rfl
theorem ty_size_1 : sizeT Tryz.prog 1 = some 1 := by kernel_rfl
theorem ty_plain_2 : plainT Tryz.prog 2 = true := by kernel_rfl
theorem ty_size_2 : sizeT Tryz.prog 2 = some 1 := by kernel_rfl
theorem ty_plain_3 : plainT Tryz.prog 3 = true := by kernel_rfl
theorem ty_size_3 : sizeT Tryz.prog 3 = some 1 := by kernel_rfl
theorem ty_plain_4 : plainT Tryz.prog 4 = true := by kernel_rfl
theorem ty_size_4 : sizeT Tryz.prog 4 = some 1 := by kernel_rfl
theorem ty_plain_5 : plainT Tryz.prog 5 = true := by kernel_rfl
theorem ty_size_5 : sizeT Tryz.prog 5 = some 1 := by kernel_rfl
theorem ty_plain_6 : plainT Tryz.prog 6 = true := by kernel_rfl
theorem ty_size_6 : sizeT Tryz.prog 6 = some 1 := by kernel_rfl
theorem ty_agg_7 : aggT Tryz.prog 7 = true := by kernel_rfl
theorem ty_bld_7 : bldT Tryz.prog 7 = some ([(0, 1), (1, 1), (2, 1), (3, 1)], [.int .i64 0, .int .i64 0, .bool false, .int .u8 0]) := by kernel_rfl
theorem ty_field_7_0 : fieldT Tryz.prog 7 0 = some (0, 0 + 1) := by kernel_rfl
theorem ty_field_7_1 : fieldT Tryz.prog 7 1 = some (1, 0 + 1) := by kernel_rfl
theorem ty_field_7_2 : fieldT Tryz.prog 7 2 = some (2, 0 + 1) := by kernel_rfl
theorem ty_field_7_3 : fieldT Tryz.prog 7 3 = some (3, 0 + 1) := by kernel_rfl
theorem ty_size_7 : sizeT Tryz.prog 7 = some 4 := by kernel_rfl
theorem ty_agg_8 : aggT Tryz.prog 8 = true := by kernel_rfl
theorem ty_bld_8 : bldT Tryz.prog 8 = some ([(0, 1), (1, 1), (2, 1), (3, 1)], [.int .i64 0, .int .i64 0, .bool false, .int .u8 0]) := by kernel_rfl
theorem ty_field_8_0 : fieldT Tryz.prog 8 0 = some (0, 0 + 1) := by kernel_rfl
theorem ty_field_8_1 : fieldT Tryz.prog 8 1 = some (1, 0 + 1) := by kernel_rfl
theorem ty_field_8_2 : fieldT Tryz.prog 8 2 = some (2, 0 + 1) := by kernel_rfl
theorem ty_field_8_3 : fieldT Tryz.prog 8 3 = some (3, 0 + 1) := by kernel_rfl
theorem ty_size_8 : sizeT Tryz.prog 8 = some 4 := by kernel_rfl
theorem ty_plain_9 : plainT Tryz.prog 9 = true := by kernel_rfl
theorem ty_size_9 : sizeT Tryz.prog 9 = some 1 := by kernel_rfl
theorem ty_str_9 : strT Tryz.prog 9 = true := by kernel_rfl
theorem ty_plain_10 : plainT Tryz.prog 10 = true := by kernel_rfl
theorem ty_size_10 : sizeT Tryz.prog 10 = some 1 := by kernel_rfl
theorem ty_str_10 : strT Tryz.prog 10 = true := by kernel_rfl
theorem ty_plain_11 : plainT Tryz.prog 11 = true := by kernel_rfl
theorem ty_size_11 : sizeT Tryz.prog 11 = some 1 := by kernel_rfl
theorem ty_str_11 : strT Tryz.prog 11 = true := by kernel_rfl
theorem ty_plain_12 : plainT Tryz.prog 12 = true := by kernel_rfl
theorem ty_size_12 : sizeT Tryz.prog 12 = some 1 := by kernel_rfl
theorem ty_agg_13 : aggT Tryz.prog 13 = true := by kernel_rfl
theorem ty_bld_13 : bldT Tryz.prog 13 = some ([(0, 1), (1, 1)], [.string ByteArray.empty, .int .u64 0]) := by kernel_rfl
theorem ty_field_13_0 : fieldT Tryz.prog 13 0 = some (0, 0 + 1) := by kernel_rfl
theorem ty_field_13_1 : fieldT Tryz.prog 13 1 = some (1, 0 + 1) := by kernel_rfl
theorem ty_size_13 : sizeT Tryz.prog 13 = some 2 := by kernel_rfl
theorem ty_agg_14 : aggT Tryz.prog 14 = true := by kernel_rfl
theorem ty_bld_14 : bldT Tryz.prog 14 = some ([(0, 1), (1, 1)], [.string ByteArray.empty, .int .u64 0]) := by kernel_rfl
theorem ty_field_14_0 : fieldT Tryz.prog 14 0 = some (0, 0 + 1) := by kernel_rfl
theorem ty_field_14_1 : fieldT Tryz.prog 14 1 = some (1, 0 + 1) := by kernel_rfl
theorem ty_size_14 : sizeT Tryz.prog 14 = some 2 := by kernel_rfl
theorem ty_plain_15 : plainT Tryz.prog 15 = true := by kernel_rfl
theorem ty_size_15 : sizeT Tryz.prog 15 = some 1 := by kernel_rfl
theorem ty_plain_16 : plainT Tryz.prog 16 = true := by kernel_rfl
theorem ty_size_16 : sizeT Tryz.prog 16 = some 1 := by kernel_rfl
theorem ty_plain_17 : plainT Tryz.prog 17 = true := by kernel_rfl
theorem ty_size_17 : sizeT Tryz.prog 17 = some 1 := by kernel_rfl
theorem ty_agg_18 : aggT Tryz.prog 18 = true := by kernel_rfl
theorem ty_bld_18 : bldT Tryz.prog 18 = some ([(0, 1)], [.pointer none]) := by kernel_rfl
theorem ty_field_18_0 : fieldT Tryz.prog 18 0 = some (0, 0 + 1) := by kernel_rfl
theorem ty_size_18 : sizeT Tryz.prog 18 = some 1 := by kernel_rfl
theorem ty_agg_19 : aggT Tryz.prog 19 = true := by kernel_rfl
theorem ty_bld_19 : bldT Tryz.prog 19 = some ([(0, 1)], [.pointer none]) := by kernel_rfl
theorem ty_field_19_0 : fieldT Tryz.prog 19 0 = some (0, 0 + 1) := by kernel_rfl
theorem ty_size_19 : sizeT Tryz.prog 19 = some 1 := by kernel_rfl
theorem ty_plain_20 : plainT Tryz.prog 20 = true := by kernel_rfl
theorem ty_size_20 : sizeT Tryz.prog 20 = some 1 := by kernel_rfl
theorem ty_plain_21 : plainT Tryz.prog 21 = true := by kernel_rfl
theorem ty_size_21 : sizeT Tryz.prog 21 = some 1 := by kernel_rfl
theorem ty_plain_22 : plainT Tryz.prog 22 = true := by kernel_rfl
theorem ty_size_22 : sizeT Tryz.prog 22 = some 1 := by kernel_rfl
theorem ty_sl_22 : slT Tryz.prog 22 = some (81, 2, 32, [.string ByteArray.empty, .string ByteArray.empty]) := by kernel_rfl
theorem ty_plain_23 : plainT Tryz.prog 23 = true := by kernel_rfl
theorem ty_size_23 : sizeT Tryz.prog 23 = some 1 := by kernel_rfl
theorem ty_sl_23 : slT Tryz.prog 23 = some (83, 3, 40, [.string ByteArray.empty, .int .i64 0, .string ByteArray.empty]) := by kernel_rfl
theorem ty_agg_24 : aggT Tryz.prog 24 = true := by kernel_rfl
theorem ty_bld_24 : bldT Tryz.prog 24 = some ([(0, 1), (1, 1), (2, 1), (3, 1), (4, 1)], [.int .i64 0, .slice none 0 0, .slice none 0 0, .int .i64 0, .bool false]) := by kernel_rfl
theorem ty_field_24_0 : fieldT Tryz.prog 24 0 = some (0, 0 + 1) := by kernel_rfl
theorem ty_field_24_1 : fieldT Tryz.prog 24 1 = some (1, 0 + 1) := by kernel_rfl
theorem ty_field_24_2 : fieldT Tryz.prog 24 2 = some (2, 0 + 1) := by kernel_rfl
theorem ty_field_24_3 : fieldT Tryz.prog 24 3 = some (3, 0 + 1) := by kernel_rfl
theorem ty_field_24_4 : fieldT Tryz.prog 24 4 = some (4, 0 + 1) := by kernel_rfl
theorem ty_size_24 : sizeT Tryz.prog 24 = some 5 := by kernel_rfl
theorem ty_agg_25 : aggT Tryz.prog 25 = true := by kernel_rfl
theorem ty_bld_25 : bldT Tryz.prog 25 = some ([(0, 1), (1, 1), (2, 1), (3, 1), (4, 1)], [.int .i64 0, .slice none 0 0, .slice none 0 0, .int .i64 0, .bool false]) := by kernel_rfl
theorem ty_field_25_0 : fieldT Tryz.prog 25 0 = some (0, 0 + 1) := by kernel_rfl
theorem ty_field_25_1 : fieldT Tryz.prog 25 1 = some (1, 0 + 1) := by kernel_rfl
theorem ty_field_25_2 : fieldT Tryz.prog 25 2 = some (2, 0 + 1) := by kernel_rfl
theorem ty_field_25_3 : fieldT Tryz.prog 25 3 = some (3, 0 + 1) := by kernel_rfl
theorem ty_field_25_4 : fieldT Tryz.prog 25 4 = some (4, 0 + 1) := by kernel_rfl
theorem ty_size_25 : sizeT Tryz.prog 25 = some 5 := by kernel_rfl
theorem ty_zero_25 : zeroT Tryz.prog 25 = some [.int .i64 0, .slice none 0 0, .slice none 0 0, .int .i64 0, .bool false] := by kernel_rfl
theorem ty_plain_26 : plainT Tryz.prog 26 = true := by kernel_rfl
theorem ty_size_26 : sizeT Tryz.prog 26 = some 1 := by kernel_rfl
theorem ty_plain_27 : plainT Tryz.prog 27 = true := by kernel_rfl
theorem ty_size_27 : sizeT Tryz.prog 27 = some 1 := by kernel_rfl
theorem ty_plain_28 : plainT Tryz.prog 28 = true := by kernel_rfl
theorem ty_size_28 : sizeT Tryz.prog 28 = some 1 := by kernel_rfl
theorem ty_plain_29 : plainT Tryz.prog 29 = true := by kernel_rfl
theorem ty_size_29 : sizeT Tryz.prog 29 = some 1 := by kernel_rfl
theorem ty_zero_29 : zeroT Tryz.prog 29 = some [.int .i64 0] := by kernel_rfl
theorem ty_plain_31 : plainT Tryz.prog 31 = true := by kernel_rfl
theorem ty_size_31 : sizeT Tryz.prog 31 = some 1 := by kernel_rfl
theorem ty_plain_32 : plainT Tryz.prog 32 = true := by kernel_rfl
theorem ty_size_32 : sizeT Tryz.prog 32 = some 1 := by kernel_rfl
theorem ty_plain_34 : plainT Tryz.prog 34 = true := by kernel_rfl
theorem ty_size_34 : sizeT Tryz.prog 34 = some 1 := by kernel_rfl
theorem ty_plain_35 : plainT Tryz.prog 35 = true := by kernel_rfl
theorem ty_size_35 : sizeT Tryz.prog 35 = some 1 := by kernel_rfl
theorem ty_plain_36 : plainT Tryz.prog 36 = true := by kernel_rfl
theorem ty_size_36 : sizeT Tryz.prog 36 = some 1 := by kernel_rfl
theorem ty_plain_37 : plainT Tryz.prog 37 = true := by kernel_rfl
theorem ty_size_37 : sizeT Tryz.prog 37 = some 1 := by kernel_rfl
theorem ty_plain_39 : plainT Tryz.prog 39 = true := by kernel_rfl
theorem ty_size_39 : sizeT Tryz.prog 39 = some 1 := by kernel_rfl
theorem ty_plain_41 : plainT Tryz.prog 41 = true := by kernel_rfl
theorem ty_size_41 : sizeT Tryz.prog 41 = some 1 := by kernel_rfl
theorem ty_plain_43 : plainT Tryz.prog 43 = true := by kernel_rfl
theorem ty_size_43 : sizeT Tryz.prog 43 = some 1 := by kernel_rfl
theorem ty_plain_44 : plainT Tryz.prog 44 = true := by kernel_rfl
theorem ty_size_44 : sizeT Tryz.prog 44 = some 1 := by kernel_rfl
theorem ty_plain_45 : plainT Tryz.prog 45 = true := by kernel_rfl
theorem ty_size_45 : sizeT Tryz.prog 45 = some 1 := by kernel_rfl
theorem ty_plain_46 : plainT Tryz.prog 46 = true := by kernel_rfl
theorem ty_size_46 : sizeT Tryz.prog 46 = some 1 := by kernel_rfl
theorem ty_plain_47 : plainT Tryz.prog 47 = true := by kernel_rfl
theorem ty_size_47 : sizeT Tryz.prog 47 = some 1 := by kernel_rfl
theorem ty_plain_48 : plainT Tryz.prog 48 = true := by kernel_rfl
theorem ty_size_48 : sizeT Tryz.prog 48 = some 1 := by kernel_rfl
theorem ty_plain_49 : plainT Tryz.prog 49 = true := by kernel_rfl
theorem ty_size_49 : sizeT Tryz.prog 49 = some 1 := by kernel_rfl
theorem ty_plain_50 : plainT Tryz.prog 50 = true := by kernel_rfl
theorem ty_size_50 : sizeT Tryz.prog 50 = some 1 := by kernel_rfl
theorem ty_plain_51 : plainT Tryz.prog 51 = true := by kernel_rfl
theorem ty_size_51 : sizeT Tryz.prog 51 = some 1 := by kernel_rfl
theorem ty_plain_52 : plainT Tryz.prog 52 = true := by kernel_rfl
theorem ty_size_52 : sizeT Tryz.prog 52 = some 1 := by kernel_rfl
theorem ty_plain_53 : plainT Tryz.prog 53 = true := by kernel_rfl
theorem ty_size_53 : sizeT Tryz.prog 53 = some 1 := by kernel_rfl
theorem ty_agg_54 : aggT Tryz.prog 54 = true := by kernel_rfl
theorem ty_bld_54 : bldT Tryz.prog 54 = some ([(0, 1), (1, 1), (2, 1), (3, 1), (4, 1), (5, 1), (6, 1)], [.int .u64 0, .int .u8 0, .int .u64 0, .int .u64 0, .int .u32 0, .string ByteArray.empty, .string ByteArray.empty]) := by kernel_rfl
theorem ty_field_54_0 : fieldT Tryz.prog 54 0 = some (0, 0 + 1) := by kernel_rfl
theorem ty_field_54_1 : fieldT Tryz.prog 54 1 = some (1, 0 + 1) := by kernel_rfl
theorem ty_field_54_2 : fieldT Tryz.prog 54 2 = some (2, 0 + 1) := by kernel_rfl
theorem ty_field_54_3 : fieldT Tryz.prog 54 3 = some (3, 0 + 1) := by kernel_rfl
theorem ty_field_54_4 : fieldT Tryz.prog 54 4 = some (4, 0 + 1) := by kernel_rfl
theorem ty_field_54_5 : fieldT Tryz.prog 54 5 = some (5, 0 + 1) := by kernel_rfl
theorem ty_field_54_6 : fieldT Tryz.prog 54 6 = some (6, 0 + 1) := by kernel_rfl
theorem ty_size_54 : sizeT Tryz.prog 54 = some 7 := by kernel_rfl
theorem ty_agg_55 : aggT Tryz.prog 55 = true := by kernel_rfl
theorem ty_bld_55 : bldT Tryz.prog 55 = some ([(0, 1), (1, 1), (2, 1), (3, 1), (4, 1), (5, 1), (6, 1)], [.int .u64 0, .int .u8 0, .int .u64 0, .int .u64 0, .int .u32 0, .string ByteArray.empty, .string ByteArray.empty]) := by kernel_rfl
theorem ty_field_55_0 : fieldT Tryz.prog 55 0 = some (0, 0 + 1) := by kernel_rfl
theorem ty_field_55_1 : fieldT Tryz.prog 55 1 = some (1, 0 + 1) := by kernel_rfl
theorem ty_field_55_2 : fieldT Tryz.prog 55 2 = some (2, 0 + 1) := by kernel_rfl
theorem ty_field_55_3 : fieldT Tryz.prog 55 3 = some (3, 0 + 1) := by kernel_rfl
theorem ty_field_55_4 : fieldT Tryz.prog 55 4 = some (4, 0 + 1) := by kernel_rfl
theorem ty_field_55_5 : fieldT Tryz.prog 55 5 = some (5, 0 + 1) := by kernel_rfl
theorem ty_field_55_6 : fieldT Tryz.prog 55 6 = some (6, 0 + 1) := by kernel_rfl
theorem ty_size_55 : sizeT Tryz.prog 55 = some 7 := by kernel_rfl
theorem ty_zero_55 : zeroT Tryz.prog 55 = some [.int .u64 0, .int .u8 0, .int .u64 0, .int .u64 0, .int .u32 0, .string ByteArray.empty, .string ByteArray.empty] := by kernel_rfl
theorem ty_plain_56 : plainT Tryz.prog 56 = true := by kernel_rfl
theorem ty_size_56 : sizeT Tryz.prog 56 = some 1 := by kernel_rfl
theorem ty_plain_58 : plainT Tryz.prog 58 = true := by kernel_rfl
theorem ty_size_58 : sizeT Tryz.prog 58 = some 1 := by kernel_rfl
theorem ty_plain_59 : plainT Tryz.prog 59 = true := by kernel_rfl
theorem ty_size_59 : sizeT Tryz.prog 59 = some 1 := by kernel_rfl
theorem ty_plain_60 : plainT Tryz.prog 60 = true := by kernel_rfl
theorem ty_size_60 : sizeT Tryz.prog 60 = some 1 := by kernel_rfl
theorem ty_plain_61 : plainT Tryz.prog 61 = true := by kernel_rfl
theorem ty_size_61 : sizeT Tryz.prog 61 = some 1 := by kernel_rfl
theorem ty_sl_61 : slT Tryz.prog 61 = some (5, 1, 1, [.int .u8 0]) := by kernel_rfl
theorem ty_bytes_61 : bytesT Tryz.prog 61 = some 5 := by kernel_rfl
theorem ty_plain_62 : plainT Tryz.prog 62 = true := by kernel_rfl
theorem ty_size_62 : sizeT Tryz.prog 62 = some 1 := by kernel_rfl
theorem ty_plain_63 : plainT Tryz.prog 63 = true := by kernel_rfl
theorem ty_size_63 : sizeT Tryz.prog 63 = some 1 := by kernel_rfl
theorem ty_plain_64 : plainT Tryz.prog 64 = true := by kernel_rfl
theorem ty_size_64 : sizeT Tryz.prog 64 = some 1 := by kernel_rfl
theorem ty_plain_65 : plainT Tryz.prog 65 = true := by kernel_rfl
theorem ty_size_65 : sizeT Tryz.prog 65 = some 1 := by kernel_rfl
theorem ty_plain_66 : plainT Tryz.prog 66 = true := by kernel_rfl
theorem ty_size_66 : sizeT Tryz.prog 66 = some 1 := by kernel_rfl
theorem ty_agg_67 : aggT Tryz.prog 67 = true := by kernel_rfl
theorem ty_bld_67 : bldT Tryz.prog 67 = some ([(0, 1), (1, 1)], [.pointer none, .slice none 0 0]) := by kernel_rfl
theorem ty_field_67_0 : fieldT Tryz.prog 67 0 = some (0, 0 + 1) := by kernel_rfl
theorem ty_field_67_1 : fieldT Tryz.prog 67 1 = some (1, 0 + 1) := by kernel_rfl
theorem ty_size_67 : sizeT Tryz.prog 67 = some 2 := by kernel_rfl
theorem ty_agg_68 : aggT Tryz.prog 68 = true := by kernel_rfl
theorem ty_bld_68 : bldT Tryz.prog 68 = some ([(0, 1), (1, 1)], [.pointer none, .slice none 0 0]) := by kernel_rfl
theorem ty_field_68_0 : fieldT Tryz.prog 68 0 = some (0, 0 + 1) := by kernel_rfl
theorem ty_field_68_1 : fieldT Tryz.prog 68 1 = some (1, 0 + 1) := by kernel_rfl
theorem ty_size_68 : sizeT Tryz.prog 68 = some 2 := by kernel_rfl
theorem ty_zero_68 : zeroT Tryz.prog 68 = some [.pointer none, .slice none 0 0] := by kernel_rfl
theorem ty_plain_69 : plainT Tryz.prog 69 = true := by kernel_rfl
theorem ty_size_69 : sizeT Tryz.prog 69 = some 1 := by kernel_rfl
theorem ty_plain_70 : plainT Tryz.prog 70 = true := by kernel_rfl
theorem ty_size_70 : sizeT Tryz.prog 70 = some 1 := by kernel_rfl
theorem ty_plain_71 : plainT Tryz.prog 71 = true := by kernel_rfl
theorem ty_size_71 : sizeT Tryz.prog 71 = some 1 := by kernel_rfl
theorem ty_plain_72 : plainT Tryz.prog 72 = true := by kernel_rfl
theorem ty_size_72 : sizeT Tryz.prog 72 = some 1 := by kernel_rfl
theorem ty_plain_74 : plainT Tryz.prog 74 = true := by kernel_rfl
theorem ty_size_74 : sizeT Tryz.prog 74 = some 1 := by kernel_rfl
theorem ty_plain_75 : plainT Tryz.prog 75 = true := by kernel_rfl
theorem ty_size_75 : sizeT Tryz.prog 75 = some 1 := by kernel_rfl
theorem ty_plain_76 : plainT Tryz.prog 76 = true := by kernel_rfl
theorem ty_size_76 : sizeT Tryz.prog 76 = some 1 := by kernel_rfl
theorem ty_plain_77 : plainT Tryz.prog 77 = true := by kernel_rfl
theorem ty_size_77 : sizeT Tryz.prog 77 = some 1 := by kernel_rfl
theorem ty_plain_78 : plainT Tryz.prog 78 = true := by kernel_rfl
theorem ty_size_78 : sizeT Tryz.prog 78 = some 1 := by kernel_rfl
theorem ty_plain_79 : plainT Tryz.prog 79 = true := by kernel_rfl
theorem ty_size_79 : sizeT Tryz.prog 79 = some 1 := by kernel_rfl
theorem ty_agg_80 : aggT Tryz.prog 80 = true := by kernel_rfl
theorem ty_bld_80 : bldT Tryz.prog 80 = some ([(0, 1), (1, 1)], [.string ByteArray.empty, .string ByteArray.empty]) := by kernel_rfl
theorem ty_field_80_0 : fieldT Tryz.prog 80 0 = some (0, 0 + 1) := by kernel_rfl
theorem ty_field_80_1 : fieldT Tryz.prog 80 1 = some (1, 0 + 1) := by kernel_rfl
theorem ty_size_80 : sizeT Tryz.prog 80 = some 2 := by kernel_rfl
theorem ty_agg_81 : aggT Tryz.prog 81 = true := by kernel_rfl
theorem ty_bld_81 : bldT Tryz.prog 81 = some ([(0, 1), (1, 1)], [.string ByteArray.empty, .string ByteArray.empty]) := by kernel_rfl
theorem ty_field_81_0 : fieldT Tryz.prog 81 0 = some (0, 0 + 1) := by kernel_rfl
theorem ty_field_81_1 : fieldT Tryz.prog 81 1 = some (1, 0 + 1) := by kernel_rfl
theorem ty_size_81 : sizeT Tryz.prog 81 = some 2 := by kernel_rfl
theorem ty_zero_81 : zeroT Tryz.prog 81 = some [.string ByteArray.empty, .string ByteArray.empty] := by kernel_rfl
theorem ty_agg_82 : aggT Tryz.prog 82 = true := by kernel_rfl
theorem ty_bld_82 : bldT Tryz.prog 82 = some ([(0, 1), (1, 1), (2, 1)], [.string ByteArray.empty, .int .i64 0, .string ByteArray.empty]) := by kernel_rfl
theorem ty_field_82_0 : fieldT Tryz.prog 82 0 = some (0, 0 + 1) := by kernel_rfl
theorem ty_field_82_1 : fieldT Tryz.prog 82 1 = some (1, 0 + 1) := by kernel_rfl
theorem ty_field_82_2 : fieldT Tryz.prog 82 2 = some (2, 0 + 1) := by kernel_rfl
theorem ty_size_82 : sizeT Tryz.prog 82 = some 3 := by kernel_rfl
theorem ty_agg_83 : aggT Tryz.prog 83 = true := by kernel_rfl
theorem ty_bld_83 : bldT Tryz.prog 83 = some ([(0, 1), (1, 1), (2, 1)], [.string ByteArray.empty, .int .i64 0, .string ByteArray.empty]) := by kernel_rfl
theorem ty_field_83_0 : fieldT Tryz.prog 83 0 = some (0, 0 + 1) := by kernel_rfl
theorem ty_field_83_1 : fieldT Tryz.prog 83 1 = some (1, 0 + 1) := by kernel_rfl
theorem ty_field_83_2 : fieldT Tryz.prog 83 2 = some (2, 0 + 1) := by kernel_rfl
theorem ty_size_83 : sizeT Tryz.prog 83 = some 3 := by kernel_rfl
theorem ty_zero_83 : zeroT Tryz.prog 83 = some [.string ByteArray.empty, .int .i64 0, .string ByteArray.empty] := by kernel_rfl
theorem ty_plain_84 : plainT Tryz.prog 84 = true := by kernel_rfl
theorem ty_size_84 : sizeT Tryz.prog 84 = some 1 := by kernel_rfl
theorem ty_plain_86 : plainT Tryz.prog 86 = true := by kernel_rfl
theorem ty_size_86 : sizeT Tryz.prog 86 = some 1 := by kernel_rfl
theorem ty_plain_87 : plainT Tryz.prog 87 = true := by kernel_rfl
theorem ty_size_87 : sizeT Tryz.prog 87 = some 1 := by kernel_rfl
theorem ty_plain_88 : plainT Tryz.prog 88 = true := by kernel_rfl
theorem ty_size_88 : sizeT Tryz.prog 88 = some 1 := by kernel_rfl
theorem ty_plain_89 : plainT Tryz.prog 89 = true := by kernel_rfl
theorem ty_size_89 : sizeT Tryz.prog 89 = some 1 := by kernel_rfl
theorem ty_plain_90 : plainT Tryz.prog 90 = true := by kernel_rfl
theorem ty_size_90 : sizeT Tryz.prog 90 = some 1 := by kernel_rfl
theorem ty_plain_92 : plainT Tryz.prog 92 = true := by kernel_rfl
theorem ty_size_92 : sizeT Tryz.prog 92 = some 1 := by kernel_rfl
theorem ty_plain_94 : plainT Tryz.prog 94 = true := by kernel_rfl
theorem ty_size_94 : sizeT Tryz.prog 94 = some 1 := by kernel_rfl
theorem ty_plain_96 : plainT Tryz.prog 96 = true := by kernel_rfl
theorem ty_size_96 : sizeT Tryz.prog 96 = some 1 := by kernel_rfl
theorem ty_plain_97 : plainT Tryz.prog 97 = true := by kernel_rfl
theorem ty_size_97 : sizeT Tryz.prog 97 = some 1 := by kernel_rfl
theorem ty_plain_98 : plainT Tryz.prog 98 = true := by kernel_rfl
theorem ty_size_98 : sizeT Tryz.prog 98 = some 1 := by kernel_rfl
theorem ty_plain_99 : plainT Tryz.prog 99 = true := by kernel_rfl
theorem ty_size_99 : sizeT Tryz.prog 99 = some 1 := by kernel_rfl
theorem ty_plain_100 : plainT Tryz.prog 100 = true := by kernel_rfl
theorem ty_size_100 : sizeT Tryz.prog 100 = some 1 := by kernel_rfl
theorem ty_agg_101 : aggT Tryz.prog 101 = true := by kernel_rfl
theorem ty_bld_101 : bldT Tryz.prog 101 = some ([(0, 5)], [.int .i64 0, .slice none 0 0, .slice none 0 0, .int .i64 0, .bool false]) := by kernel_rfl
theorem ty_field_101_0 : fieldT Tryz.prog 101 0 = some (0, 4 + 1) := by kernel_rfl
theorem ty_size_101 : sizeT Tryz.prog 101 = some 5 := by kernel_rfl
theorem ty_agg_102 : aggT Tryz.prog 102 = true := by kernel_rfl
theorem ty_bld_102 : bldT Tryz.prog 102 = some ([(0, 5)], [.int .i64 0, .slice none 0 0, .slice none 0 0, .int .i64 0, .bool false]) := by kernel_rfl
theorem ty_field_102_0 : fieldT Tryz.prog 102 0 = some (0, 4 + 1) := by kernel_rfl
theorem ty_size_102 : sizeT Tryz.prog 102 = some 5 := by kernel_rfl
theorem ty_plain_103 : plainT Tryz.prog 103 = true := by kernel_rfl
theorem ty_size_103 : sizeT Tryz.prog 103 = some 1 := by kernel_rfl
theorem ty_plain_104 : plainT Tryz.prog 104 = true := by kernel_rfl
theorem ty_size_104 : sizeT Tryz.prog 104 = some 1 := by kernel_rfl
theorem ty_agg_105 : aggT Tryz.prog 105 = true := by kernel_rfl
theorem ty_arr_105 : arrT Tryz.prog 105 = some (1, [.int .u8 0, .int .u8 0, .int .u8 0, .int .u8 0, .int .u8 0]) := by kernel_rfl
theorem ty_size_105 : sizeT Tryz.prog 105 = some 5 := by kernel_rfl
theorem ty_zero_105 : zeroT Tryz.prog 105 = some [.int .u8 0, .int .u8 0, .int .u8 0, .int .u8 0, .int .u8 0] := by kernel_rfl
theorem ty_plain_106 : plainT Tryz.prog 106 = true := by kernel_rfl
theorem ty_size_106 : sizeT Tryz.prog 106 = some 1 := by kernel_rfl
theorem ty_plain_107 : plainT Tryz.prog 107 = true := by kernel_rfl
theorem ty_size_107 : sizeT Tryz.prog 107 = some 1 := by kernel_rfl
theorem ty_plain_108 : plainT Tryz.prog 108 = true := by kernel_rfl
theorem ty_size_108 : sizeT Tryz.prog 108 = some 1 := by kernel_rfl
theorem ty_plain_109 : plainT Tryz.prog 109 = true := by kernel_rfl
theorem ty_size_109 : sizeT Tryz.prog 109 = some 1 := by kernel_rfl
theorem ty_plain_110 : plainT Tryz.prog 110 = true := by kernel_rfl
theorem ty_size_110 : sizeT Tryz.prog 110 = some 1 := by kernel_rfl
theorem ty_plain_111 : plainT Tryz.prog 111 = true := by kernel_rfl
theorem ty_size_111 : sizeT Tryz.prog 111 = some 1 := by kernel_rfl
theorem ty_plain_112 : plainT Tryz.prog 112 = true := by kernel_rfl
theorem ty_size_112 : sizeT Tryz.prog 112 = some 1 := by kernel_rfl
theorem ty_plain_113 : plainT Tryz.prog 113 = true := by kernel_rfl
theorem ty_size_113 : sizeT Tryz.prog 113 = some 1 := by kernel_rfl
theorem ty_plain_114 : plainT Tryz.prog 114 = true := by kernel_rfl
theorem ty_size_114 : sizeT Tryz.prog 114 = some 1 := by kernel_rfl
theorem ty_plain_116 : plainT Tryz.prog 116 = true := by kernel_rfl
theorem ty_size_116 : sizeT Tryz.prog 116 = some 1 := by kernel_rfl
theorem ty_plain_117 : plainT Tryz.prog 117 = true := by kernel_rfl
theorem ty_size_117 : sizeT Tryz.prog 117 = some 1 := by kernel_rfl
theorem ty_plain_118 : plainT Tryz.prog 118 = true := by kernel_rfl
theorem ty_size_118 : sizeT Tryz.prog 118 = some 1 := by kernel_rfl
theorem ty_plain_119 : plainT Tryz.prog 119 = true := by kernel_rfl
theorem ty_size_119 : sizeT Tryz.prog 119 = some 1 := by kernel_rfl
theorem ty_plain_120 : plainT Tryz.prog 120 = true := by kernel_rfl
theorem ty_size_120 : sizeT Tryz.prog 120 = some 1 := by kernel_rfl
theorem ty_plain_121 : plainT Tryz.prog 121 = true := by kernel_rfl
theorem ty_size_121 : sizeT Tryz.prog 121 = some 1 := by kernel_rfl
theorem ty_plain_122 : plainT Tryz.prog 122 = true := by kernel_rfl
theorem ty_size_122 : sizeT Tryz.prog 122 = some 1 := by kernel_rfl
theorem ty_plain_123 : plainT Tryz.prog 123 = true := by kernel_rfl
theorem ty_size_123 : sizeT Tryz.prog 123 = some 1 := by kernel_rfl
theorem ty_plain_124 : plainT Tryz.prog 124 = true := by kernel_rfl
theorem ty_size_124 : sizeT Tryz.prog 124 = some 1 := by kernel_rfl
theorem ty_plain_125 : plainT Tryz.prog 125 = true := by kernel_rfl
theorem ty_size_125 : sizeT Tryz.prog 125 = some 1 := by kernel_rfl
theorem ty_plain_126 : plainT Tryz.prog 126 = true := by kernel_rfl
theorem ty_size_126 : sizeT Tryz.prog 126 = some 1 := by kernel_rfl
theorem ty_plain_127 : plainT Tryz.prog 127 = true := by kernel_rfl
theorem ty_size_127 : sizeT Tryz.prog 127 = some 1 := by kernel_rfl
theorem ty_plain_128 : plainT Tryz.prog 128 = true := by kernel_rfl
theorem ty_size_128 : sizeT Tryz.prog 128 = some 1 := by kernel_rfl
theorem ty_plain_129 : plainT Tryz.prog 129 = true := by kernel_rfl
theorem ty_size_129 : sizeT Tryz.prog 129 = some 1 := by kernel_rfl
theorem ty_plain_130 : plainT Tryz.prog 130 = true := by kernel_rfl
theorem ty_size_130 : sizeT Tryz.prog 130 = some 1 := by kernel_rfl
theorem ty_plain_131 : plainT Tryz.prog 131 = true := by kernel_rfl
theorem ty_size_131 : sizeT Tryz.prog 131 = some 1 := by kernel_rfl
theorem ty_plain_132 : plainT Tryz.prog 132 = true := by kernel_rfl
theorem ty_size_132 : sizeT Tryz.prog 132 = some 1 := by kernel_rfl
theorem ty_plain_133 : plainT Tryz.prog 133 = true := by kernel_rfl
theorem ty_size_133 : sizeT Tryz.prog 133 = some 1 := by kernel_rfl
theorem ty_plain_134 : plainT Tryz.prog 134 = true := by kernel_rfl
theorem ty_size_134 : sizeT Tryz.prog 134 = some 1 := by kernel_rfl
theorem ty_plain_135 : plainT Tryz.prog 135 = true := by kernel_rfl
theorem ty_size_135 : sizeT Tryz.prog 135 = some 1 := by kernel_rfl
theorem ty_plain_136 : plainT Tryz.prog 136 = true := by kernel_rfl
theorem ty_size_136 : sizeT Tryz.prog 136 = some 1 := by kernel_rfl
theorem ty_plain_137 : plainT Tryz.prog 137 = true := by kernel_rfl
theorem ty_size_137 : sizeT Tryz.prog 137 = some 1 := by kernel_rfl
theorem ty_plain_138 : plainT Tryz.prog 138 = true := by kernel_rfl
theorem ty_size_138 : sizeT Tryz.prog 138 = some 1 := by kernel_rfl
theorem ty_plain_139 : plainT Tryz.prog 139 = true := by kernel_rfl
theorem ty_size_139 : sizeT Tryz.prog 139 = some 1 := by kernel_rfl
theorem ty_plain_140 : plainT Tryz.prog 140 = true := by kernel_rfl
theorem ty_size_140 : sizeT Tryz.prog 140 = some 1 := by kernel_rfl
theorem ty_plain_141 : plainT Tryz.prog 141 = true := by kernel_rfl
theorem ty_size_141 : sizeT Tryz.prog 141 = some 1 := by kernel_rfl
theorem ty_plain_143 : plainT Tryz.prog 143 = true := by kernel_rfl
theorem ty_size_143 : sizeT Tryz.prog 143 = some 1 := by kernel_rfl
theorem ty_plain_144 : plainT Tryz.prog 144 = true := by kernel_rfl
theorem ty_size_144 : sizeT Tryz.prog 144 = some 1 := by kernel_rfl
theorem ty_plain_145 : plainT Tryz.prog 145 = true := by kernel_rfl
theorem ty_size_145 : sizeT Tryz.prog 145 = some 1 := by kernel_rfl
theorem ty_plain_146 : plainT Tryz.prog 146 = true := by kernel_rfl
theorem ty_size_146 : sizeT Tryz.prog 146 = some 1 := by kernel_rfl
theorem ty_plain_147 : plainT Tryz.prog 147 = true := by kernel_rfl
theorem ty_size_147 : sizeT Tryz.prog 147 = some 1 := by kernel_rfl
theorem ty_plain_148 : plainT Tryz.prog 148 = true := by kernel_rfl
theorem ty_size_148 : sizeT Tryz.prog 148 = some 1 := by kernel_rfl
theorem ty_plain_149 : plainT Tryz.prog 149 = true := by kernel_rfl
theorem ty_size_149 : sizeT Tryz.prog 149 = some 1 := by kernel_rfl
theorem ty_sl_149 : slT Tryz.prog 149 = some (9, 1, 16, [.string ByteArray.empty]) := by kernel_rfl
theorem ty_plain_150 : plainT Tryz.prog 150 = true := by kernel_rfl
theorem ty_size_150 : sizeT Tryz.prog 150 = some 1 := by kernel_rfl
theorem ty_plain_151 : plainT Tryz.prog 151 = true := by kernel_rfl
theorem ty_size_151 : sizeT Tryz.prog 151 = some 1 := by kernel_rfl
theorem ty_agg_152 : aggT Tryz.prog 152 = true := by kernel_rfl
theorem ty_bld_152 : bldT Tryz.prog 152 = some ([(0, 1)], [.int .i64 0]) := by kernel_rfl
theorem ty_field_152_0 : fieldT Tryz.prog 152 0 = some (0, 0 + 1) := by kernel_rfl
theorem ty_size_152 : sizeT Tryz.prog 152 = some 1 := by kernel_rfl
theorem ty_agg_153 : aggT Tryz.prog 153 = true := by kernel_rfl
theorem ty_bld_153 : bldT Tryz.prog 153 = some ([(0, 1)], [.int .i64 0]) := by kernel_rfl
theorem ty_field_153_0 : fieldT Tryz.prog 153 0 = some (0, 0 + 1) := by kernel_rfl
theorem ty_size_153 : sizeT Tryz.prog 153 = some 1 := by kernel_rfl
theorem ty_plain_154 : plainT Tryz.prog 154 = true := by kernel_rfl
theorem ty_size_154 : sizeT Tryz.prog 154 = some 1 := by kernel_rfl
theorem ty_plain_155 : plainT Tryz.prog 155 = true := by kernel_rfl
theorem ty_size_155 : sizeT Tryz.prog 155 = some 1 := by kernel_rfl
theorem ty_plain_156 : plainT Tryz.prog 156 = true := by kernel_rfl
theorem ty_size_156 : sizeT Tryz.prog 156 = some 1 := by kernel_rfl
theorem ty_agg_157 : aggT Tryz.prog 157 = true := by kernel_rfl
theorem ty_bld_157 : bldT Tryz.prog 157 = some ([(0, 1)], [.string ByteArray.empty]) := by kernel_rfl
theorem ty_field_157_0 : fieldT Tryz.prog 157 0 = some (0, 0 + 1) := by kernel_rfl
theorem ty_size_157 : sizeT Tryz.prog 157 = some 1 := by kernel_rfl
theorem ty_agg_158 : aggT Tryz.prog 158 = true := by kernel_rfl
theorem ty_bld_158 : bldT Tryz.prog 158 = some ([(0, 1)], [.string ByteArray.empty]) := by kernel_rfl
theorem ty_field_158_0 : fieldT Tryz.prog 158 0 = some (0, 0 + 1) := by kernel_rfl
theorem ty_size_158 : sizeT Tryz.prog 158 = some 1 := by kernel_rfl
theorem ty_plain_159 : plainT Tryz.prog 159 = true := by kernel_rfl
theorem ty_size_159 : sizeT Tryz.prog 159 = some 1 := by kernel_rfl
theorem ty_plain_160 : plainT Tryz.prog 160 = true := by kernel_rfl
theorem ty_size_160 : sizeT Tryz.prog 160 = some 1 := by kernel_rfl
theorem ty_size_161 : sizeT Tryz.prog 161 = some 1 := by kernel_rfl
theorem ty_plain_162 : plainT Tryz.prog 162 = true := by kernel_rfl
theorem ty_size_162 : sizeT Tryz.prog 162 = some 1 := by kernel_rfl
theorem ty_agg_163 : aggT Tryz.prog 163 = true := by kernel_rfl
theorem ty_bld_163 : bldT Tryz.prog 163 = some ([(0, 1), (1, 1), (2, 1)], [.pointer none, .pointer none, .int .u64 0]) := by kernel_rfl
theorem ty_field_163_0 : fieldT Tryz.prog 163 0 = some (0, 0 + 1) := by kernel_rfl
theorem ty_field_163_1 : fieldT Tryz.prog 163 1 = some (1, 0 + 1) := by kernel_rfl
theorem ty_field_163_2 : fieldT Tryz.prog 163 2 = some (2, 0 + 1) := by kernel_rfl
theorem ty_size_163 : sizeT Tryz.prog 163 = some 3 := by kernel_rfl
theorem ty_agg_164 : aggT Tryz.prog 164 = true := by kernel_rfl
theorem ty_bld_164 : bldT Tryz.prog 164 = some ([(0, 1), (1, 1), (2, 1)], [.pointer none, .pointer none, .int .u64 0]) := by kernel_rfl
theorem ty_field_164_0 : fieldT Tryz.prog 164 0 = some (0, 0 + 1) := by kernel_rfl
theorem ty_field_164_1 : fieldT Tryz.prog 164 1 = some (1, 0 + 1) := by kernel_rfl
theorem ty_field_164_2 : fieldT Tryz.prog 164 2 = some (2, 0 + 1) := by kernel_rfl
theorem ty_size_164 : sizeT Tryz.prog 164 = some 3 := by kernel_rfl
theorem ty_plain_165 : plainT Tryz.prog 165 = true := by kernel_rfl
theorem ty_size_165 : sizeT Tryz.prog 165 = some 1 := by kernel_rfl
theorem ty_plain_166 : plainT Tryz.prog 166 = true := by kernel_rfl
theorem ty_size_166 : sizeT Tryz.prog 166 = some 1 := by kernel_rfl
theorem ty_plain_167 : plainT Tryz.prog 167 = true := by kernel_rfl
theorem ty_size_167 : sizeT Tryz.prog 167 = some 1 := by kernel_rfl
theorem ty_plain_168 : plainT Tryz.prog 168 = true := by kernel_rfl
theorem ty_size_168 : sizeT Tryz.prog 168 = some 1 := by kernel_rfl
theorem ty_plain_169 : plainT Tryz.prog 169 = true := by kernel_rfl
theorem ty_size_169 : sizeT Tryz.prog 169 = some 1 := by kernel_rfl
theorem ty_plain_170 : plainT Tryz.prog 170 = true := by kernel_rfl
theorem ty_size_170 : sizeT Tryz.prog 170 = some 1 := by kernel_rfl
theorem ty_plain_171 : plainT Tryz.prog 171 = true := by kernel_rfl
theorem ty_size_171 : sizeT Tryz.prog 171 = some 1 := by kernel_rfl
theorem ty_plain_172 : plainT Tryz.prog 172 = true := by kernel_rfl
theorem ty_size_172 : sizeT Tryz.prog 172 = some 1 := by kernel_rfl
theorem ty_plain_173 : plainT Tryz.prog 173 = true := by kernel_rfl
theorem ty_size_173 : sizeT Tryz.prog 173 = some 1 := by kernel_rfl
theorem ty_plain_174 : plainT Tryz.prog 174 = true := by kernel_rfl
theorem ty_size_174 : sizeT Tryz.prog 174 = some 1 := by kernel_rfl
theorem ty_plain_175 : plainT Tryz.prog 175 = true := by kernel_rfl
theorem ty_size_175 : sizeT Tryz.prog 175 = some 1 := by kernel_rfl
theorem ty_plain_176 : plainT Tryz.prog 176 = true := by kernel_rfl
theorem ty_size_176 : sizeT Tryz.prog 176 = some 1 := by kernel_rfl
theorem ty_plain_177 : plainT Tryz.prog 177 = true := by kernel_rfl
theorem ty_size_177 : sizeT Tryz.prog 177 = some 1 := by kernel_rfl
theorem ty_plain_178 : plainT Tryz.prog 178 = true := by kernel_rfl
theorem ty_size_178 : sizeT Tryz.prog 178 = some 1 := by kernel_rfl
theorem ty_plain_179 : plainT Tryz.prog 179 = true := by kernel_rfl
theorem ty_size_179 : sizeT Tryz.prog 179 = some 1 := by kernel_rfl
theorem ty_plain_180 : plainT Tryz.prog 180 = true := by kernel_rfl
theorem ty_size_180 : sizeT Tryz.prog 180 = some 1 := by kernel_rfl
theorem ty_plain_181 : plainT Tryz.prog 181 = true := by kernel_rfl
theorem ty_size_181 : sizeT Tryz.prog 181 = some 1 := by kernel_rfl
theorem ty_plain_182 : plainT Tryz.prog 182 = true := by kernel_rfl
theorem ty_size_182 : sizeT Tryz.prog 182 = some 1 := by kernel_rfl
theorem ty_plain_183 : plainT Tryz.prog 183 = true := by kernel_rfl
theorem ty_size_183 : sizeT Tryz.prog 183 = some 1 := by kernel_rfl
theorem ty_plain_184 : plainT Tryz.prog 184 = true := by kernel_rfl
theorem ty_size_184 : sizeT Tryz.prog 184 = some 1 := by kernel_rfl
theorem ty_plain_185 : plainT Tryz.prog 185 = true := by kernel_rfl
theorem ty_size_185 : sizeT Tryz.prog 185 = some 1 := by kernel_rfl
theorem ty_plain_187 : plainT Tryz.prog 187 = true := by kernel_rfl
theorem ty_size_187 : sizeT Tryz.prog 187 = some 1 := by kernel_rfl
theorem ty_plain_188 : plainT Tryz.prog 188 = true := by kernel_rfl
theorem ty_size_188 : sizeT Tryz.prog 188 = some 1 := by kernel_rfl
theorem ty_plain_189 : plainT Tryz.prog 189 = true := by kernel_rfl
theorem ty_size_189 : sizeT Tryz.prog 189 = some 1 := by kernel_rfl
theorem ty_agg_190 : aggT Tryz.prog 190 = true := by kernel_rfl
theorem ty_size_190 : sizeT Tryz.prog 190 = some 256 := by kernel_rfl
theorem ty_agg_191 : aggT Tryz.prog 191 = true := by kernel_rfl
theorem ty_size_191 : sizeT Tryz.prog 191 = some 256 := by kernel_rfl
theorem ty_plain_193 : plainT Tryz.prog 193 = true := by kernel_rfl
theorem ty_size_193 : sizeT Tryz.prog 193 = some 1 := by kernel_rfl
theorem ty_plain_194 : plainT Tryz.prog 194 = true := by kernel_rfl
theorem ty_size_194 : sizeT Tryz.prog 194 = some 1 := by kernel_rfl
theorem ty_plain_195 : plainT Tryz.prog 195 = true := by kernel_rfl
theorem ty_size_195 : sizeT Tryz.prog 195 = some 1 := by kernel_rfl
theorem ty_agg_196 : aggT Tryz.prog 196 = true := by kernel_rfl
theorem ty_bld_196 : bldT Tryz.prog 196 = some ([(0, 1)], [.pointer none]) := by kernel_rfl
theorem ty_field_196_0 : fieldT Tryz.prog 196 0 = some (0, 0 + 1) := by kernel_rfl
theorem ty_size_196 : sizeT Tryz.prog 196 = some 1 := by kernel_rfl
theorem ty_agg_197 : aggT Tryz.prog 197 = true := by kernel_rfl
theorem ty_bld_197 : bldT Tryz.prog 197 = some ([(0, 1)], [.pointer none]) := by kernel_rfl
theorem ty_field_197_0 : fieldT Tryz.prog 197 0 = some (0, 0 + 1) := by kernel_rfl
theorem ty_size_197 : sizeT Tryz.prog 197 = some 1 := by kernel_rfl
theorem ty_plain_198 : plainT Tryz.prog 198 = true := by kernel_rfl
theorem ty_size_198 : sizeT Tryz.prog 198 = some 1 := by kernel_rfl
theorem ty_plain_199 : plainT Tryz.prog 199 = true := by kernel_rfl
theorem ty_size_199 : sizeT Tryz.prog 199 = some 1 := by kernel_rfl
theorem ty_plain_200 : plainT Tryz.prog 200 = true := by kernel_rfl
theorem ty_size_200 : sizeT Tryz.prog 200 = some 1 := by kernel_rfl
theorem ty_plain_201 : plainT Tryz.prog 201 = true := by kernel_rfl
theorem ty_size_201 : sizeT Tryz.prog 201 = some 1 := by kernel_rfl
theorem ty_plain_202 : plainT Tryz.prog 202 = true := by kernel_rfl
theorem ty_size_202 : sizeT Tryz.prog 202 = some 1 := by kernel_rfl
theorem ty_plain_204 : plainT Tryz.prog 204 = true := by kernel_rfl
theorem ty_size_204 : sizeT Tryz.prog 204 = some 1 := by kernel_rfl
theorem ty_plain_205 : plainT Tryz.prog 205 = true := by kernel_rfl
theorem ty_size_205 : sizeT Tryz.prog 205 = some 1 := by kernel_rfl
theorem ty_plain_206 : plainT Tryz.prog 206 = true := by kernel_rfl
theorem ty_size_206 : sizeT Tryz.prog 206 = some 1 := by kernel_rfl
theorem ty_plain_207 : plainT Tryz.prog 207 = true := by kernel_rfl
theorem ty_size_207 : sizeT Tryz.prog 207 = some 1 := by kernel_rfl
theorem ty_plain_208 : plainT Tryz.prog 208 = true := by kernel_rfl
theorem ty_size_208 : sizeT Tryz.prog 208 = some 1 := by kernel_rfl
theorem ty_plain_209 : plainT Tryz.prog 209 = true := by kernel_rfl
theorem ty_size_209 : sizeT Tryz.prog 209 = some 1 := by kernel_rfl
theorem ty_plain_210 : plainT Tryz.prog 210 = true := by kernel_rfl
theorem ty_size_210 : sizeT Tryz.prog 210 = some 1 := by kernel_rfl
theorem ty_plain_211 : plainT Tryz.prog 211 = true := by kernel_rfl
theorem ty_size_211 : sizeT Tryz.prog 211 = some 1 := by kernel_rfl
theorem ty_plain_212 : plainT Tryz.prog 212 = true := by kernel_rfl
theorem ty_size_212 : sizeT Tryz.prog 212 = some 1 := by kernel_rfl
theorem ty_plain_214 : plainT Tryz.prog 214 = true := by kernel_rfl
theorem ty_size_214 : sizeT Tryz.prog 214 = some 1 := by kernel_rfl
theorem ty_plain_216 : plainT Tryz.prog 216 = true := by kernel_rfl
theorem ty_size_216 : sizeT Tryz.prog 216 = some 1 := by kernel_rfl
theorem ty_plain_217 : plainT Tryz.prog 217 = true := by kernel_rfl
theorem ty_size_217 : sizeT Tryz.prog 217 = some 1 := by kernel_rfl
theorem ty_plain_219 : plainT Tryz.prog 219 = true := by kernel_rfl
theorem ty_size_219 : sizeT Tryz.prog 219 = some 1 := by kernel_rfl
theorem ty_plain_220 : plainT Tryz.prog 220 = true := by kernel_rfl
theorem ty_size_220 : sizeT Tryz.prog 220 = some 1 := by kernel_rfl
theorem ty_plain_221 : plainT Tryz.prog 221 = true := by kernel_rfl
theorem ty_size_221 : sizeT Tryz.prog 221 = some 1 := by kernel_rfl
theorem ty_plain_222 : plainT Tryz.prog 222 = true := by kernel_rfl
theorem ty_size_222 : sizeT Tryz.prog 222 = some 1 := by kernel_rfl
theorem ty_plain_223 : plainT Tryz.prog 223 = true := by kernel_rfl
theorem ty_size_223 : sizeT Tryz.prog 223 = some 1 := by kernel_rfl
theorem ty_agg_224 : aggT Tryz.prog 224 = true := by kernel_rfl
theorem ty_size_224 : sizeT Tryz.prog 224 = some 256 := by kernel_rfl
theorem ty_agg_225 : aggT Tryz.prog 225 = true := by kernel_rfl
theorem ty_bld_225 : bldT Tryz.prog 225 = some ([(0, 1), (1, 1)], [.int .u8 0, .int .u8 0]) := by kernel_rfl
theorem ty_field_225_0 : fieldT Tryz.prog 225 0 = some (0, 0 + 1) := by kernel_rfl
theorem ty_field_225_1 : fieldT Tryz.prog 225 1 = some (1, 0 + 1) := by kernel_rfl
theorem ty_size_225 : sizeT Tryz.prog 225 = some 2 := by kernel_rfl
theorem ty_agg_226 : aggT Tryz.prog 226 = true := by kernel_rfl
theorem ty_bld_226 : bldT Tryz.prog 226 = some ([(0, 1), (1, 1)], [.int .u8 0, .int .u8 0]) := by kernel_rfl
theorem ty_field_226_0 : fieldT Tryz.prog 226 0 = some (0, 0 + 1) := by kernel_rfl
theorem ty_field_226_1 : fieldT Tryz.prog 226 1 = some (1, 0 + 1) := by kernel_rfl
theorem ty_size_226 : sizeT Tryz.prog 226 = some 2 := by kernel_rfl
theorem ty_agg_227 : aggT Tryz.prog 227 = true := by kernel_rfl
theorem ty_size_227 : sizeT Tryz.prog 227 = some 32 := by kernel_rfl
theorem ty_plain_228 : plainT Tryz.prog 228 = true := by kernel_rfl
theorem ty_size_228 : sizeT Tryz.prog 228 = some 1 := by kernel_rfl
theorem ty_plain_229 : plainT Tryz.prog 229 = true := by kernel_rfl
theorem ty_size_229 : sizeT Tryz.prog 229 = some 1 := by kernel_rfl
theorem ty_agg_230 : aggT Tryz.prog 230 = true := by kernel_rfl
theorem ty_bld_230 : bldT Tryz.prog 230 = some ([(0, 1), (1, 1), (2, 1), (3, 1)], [.pointer none, .pointer none, .pointer none, .string ByteArray.empty]) := by kernel_rfl
theorem ty_field_230_0 : fieldT Tryz.prog 230 0 = some (0, 0 + 1) := by kernel_rfl
theorem ty_field_230_1 : fieldT Tryz.prog 230 1 = some (1, 0 + 1) := by kernel_rfl
theorem ty_field_230_2 : fieldT Tryz.prog 230 2 = some (2, 0 + 1) := by kernel_rfl
theorem ty_field_230_3 : fieldT Tryz.prog 230 3 = some (3, 0 + 1) := by kernel_rfl
theorem ty_size_230 : sizeT Tryz.prog 230 = some 4 := by kernel_rfl
theorem ty_agg_231 : aggT Tryz.prog 231 = true := by kernel_rfl
theorem ty_bld_231 : bldT Tryz.prog 231 = some ([(0, 1), (1, 1), (2, 1), (3, 1)], [.pointer none, .pointer none, .pointer none, .string ByteArray.empty]) := by kernel_rfl
theorem ty_field_231_0 : fieldT Tryz.prog 231 0 = some (0, 0 + 1) := by kernel_rfl
theorem ty_field_231_1 : fieldT Tryz.prog 231 1 = some (1, 0 + 1) := by kernel_rfl
theorem ty_field_231_2 : fieldT Tryz.prog 231 2 = some (2, 0 + 1) := by kernel_rfl
theorem ty_field_231_3 : fieldT Tryz.prog 231 3 = some (3, 0 + 1) := by kernel_rfl
theorem ty_size_231 : sizeT Tryz.prog 231 = some 4 := by kernel_rfl
theorem ty_agg_232 : aggT Tryz.prog 232 = true := by kernel_rfl
theorem ty_size_232 : sizeT Tryz.prog 232 = some 0 := by kernel_rfl
theorem ty_agg_233 : aggT Tryz.prog 233 = true := by kernel_rfl
theorem ty_bld_233 : bldT Tryz.prog 233 = some ([(0, 0)], []) := by kernel_rfl
theorem ty_size_233 : sizeT Tryz.prog 233 = some 0 := by kernel_rfl
theorem ty_agg_234 : aggT Tryz.prog 234 = true := by kernel_rfl
theorem ty_bld_234 : bldT Tryz.prog 234 = some ([(0, 0)], []) := by kernel_rfl
theorem ty_size_234 : sizeT Tryz.prog 234 = some 0 := by kernel_rfl
theorem ty_plain_235 : plainT Tryz.prog 235 = true := by kernel_rfl
theorem ty_size_235 : sizeT Tryz.prog 235 = some 1 := by kernel_rfl
theorem ty_plain_236 : plainT Tryz.prog 236 = true := by kernel_rfl
theorem ty_size_236 : sizeT Tryz.prog 236 = some 1 := by kernel_rfl
theorem ty_plain_237 : plainT Tryz.prog 237 = true := by kernel_rfl
theorem ty_size_237 : sizeT Tryz.prog 237 = some 1 := by kernel_rfl
theorem ty_plain_238 : plainT Tryz.prog 238 = true := by kernel_rfl
theorem ty_size_238 : sizeT Tryz.prog 238 = some 1 := by kernel_rfl
theorem ty_plain_239 : plainT Tryz.prog 239 = true := by kernel_rfl
theorem ty_size_239 : sizeT Tryz.prog 239 = some 1 := by kernel_rfl
theorem ty_agg_240 : aggT Tryz.prog 240 = true := by kernel_rfl
theorem ty_bld_240 : bldT Tryz.prog 240 = some ([(0, 1), (1, 1), (2, 1), (3, 1), (4, 1), (5, 1), (6, 1), (7, 1), (8, 1), (9, 1), (10, 1)], [.int .u64 0, .int .u64 0, .int .u32 0, .int .u8 0, .int .u8 0, .int .u8 0, .int .u8 0, .nilFunc, .pointer none, .int .i32 0, .int .i32 0]) := by kernel_rfl
theorem ty_field_240_0 : fieldT Tryz.prog 240 0 = some (0, 0 + 1) := by kernel_rfl
theorem ty_field_240_1 : fieldT Tryz.prog 240 1 = some (1, 0 + 1) := by kernel_rfl
theorem ty_field_240_2 : fieldT Tryz.prog 240 2 = some (2, 0 + 1) := by kernel_rfl
theorem ty_field_240_3 : fieldT Tryz.prog 240 3 = some (3, 0 + 1) := by kernel_rfl
theorem ty_field_240_4 : fieldT Tryz.prog 240 4 = some (4, 0 + 1) := by kernel_rfl
theorem ty_field_240_5 : fieldT Tryz.prog 240 5 = some (5, 0 + 1) := by kernel_rfl
theorem ty_field_240_6 : fieldT Tryz.prog 240 6 = some (6, 0 + 1) := by kernel_rfl
theorem ty_field_240_7 : fieldT Tryz.prog 240 7 = some (7, 0 + 1) := by kernel_rfl
theorem ty_field_240_8 : fieldT Tryz.prog 240 8 = some (8, 0 + 1) := by kernel_rfl
theorem ty_field_240_9 : fieldT Tryz.prog 240 9 = some (9, 0 + 1) := by kernel_rfl
theorem ty_field_240_10 : fieldT Tryz.prog 240 10 = some (10, 0 + 1) := by kernel_rfl
theorem ty_size_240 : sizeT Tryz.prog 240 = some 11 := by kernel_rfl
theorem ty_agg_241 : aggT Tryz.prog 241 = true := by kernel_rfl
theorem ty_bld_241 : bldT Tryz.prog 241 = some ([(0, 1), (1, 1), (2, 1), (3, 1), (4, 1), (5, 1), (6, 1), (7, 1), (8, 1), (9, 1), (10, 1)], [.int .u64 0, .int .u64 0, .int .u32 0, .int .u8 0, .int .u8 0, .int .u8 0, .int .u8 0, .nilFunc, .pointer none, .int .i32 0, .int .i32 0]) := by kernel_rfl
theorem ty_field_241_0 : fieldT Tryz.prog 241 0 = some (0, 0 + 1) := by kernel_rfl
theorem ty_field_241_1 : fieldT Tryz.prog 241 1 = some (1, 0 + 1) := by kernel_rfl
theorem ty_field_241_2 : fieldT Tryz.prog 241 2 = some (2, 0 + 1) := by kernel_rfl
theorem ty_field_241_3 : fieldT Tryz.prog 241 3 = some (3, 0 + 1) := by kernel_rfl
theorem ty_field_241_4 : fieldT Tryz.prog 241 4 = some (4, 0 + 1) := by kernel_rfl
theorem ty_field_241_5 : fieldT Tryz.prog 241 5 = some (5, 0 + 1) := by kernel_rfl
theorem ty_field_241_6 : fieldT Tryz.prog 241 6 = some (6, 0 + 1) := by kernel_rfl
theorem ty_field_241_7 : fieldT Tryz.prog 241 7 = some (7, 0 + 1) := by kernel_rfl
theorem ty_field_241_8 : fieldT Tryz.prog 241 8 = some (8, 0 + 1) := by kernel_rfl
theorem ty_field_241_9 : fieldT Tryz.prog 241 9 = some (9, 0 + 1) := by kernel_rfl
theorem ty_field_241_10 : fieldT Tryz.prog 241 10 = some (10, 0 + 1) := by kernel_rfl
theorem ty_size_241 : sizeT Tryz.prog 241 = some 11 := by kernel_rfl
theorem ty_plain_242 : plainT Tryz.prog 242 = true := by kernel_rfl
theorem ty_size_242 : sizeT Tryz.prog 242 = some 1 := by kernel_rfl
theorem ty_plain_243 : plainT Tryz.prog 243 = true := by kernel_rfl
theorem ty_size_243 : sizeT Tryz.prog 243 = some 1 := by kernel_rfl
theorem ty_agg_244 : aggT Tryz.prog 244 = true := by kernel_rfl
theorem ty_bld_244 : bldT Tryz.prog 244 = some ([(0, 1), (1, 1)], [.string ByteArray.empty, .int .u8 0]) := by kernel_rfl
theorem ty_field_244_0 : fieldT Tryz.prog 244 0 = some (0, 0 + 1) := by kernel_rfl
theorem ty_field_244_1 : fieldT Tryz.prog 244 1 = some (1, 0 + 1) := by kernel_rfl
theorem ty_size_244 : sizeT Tryz.prog 244 = some 2 := by kernel_rfl
theorem ty_agg_245 : aggT Tryz.prog 245 = true := by kernel_rfl
theorem ty_bld_245 : bldT Tryz.prog 245 = some ([(0, 1), (1, 1)], [.string ByteArray.empty, .int .u8 0]) := by kernel_rfl
theorem ty_field_245_0 : fieldT Tryz.prog 245 0 = some (0, 0 + 1) := by kernel_rfl
theorem ty_field_245_1 : fieldT Tryz.prog 245 1 = some (1, 0 + 1) := by kernel_rfl
theorem ty_size_245 : sizeT Tryz.prog 245 = some 2 := by kernel_rfl
theorem ty_plain_246 : plainT Tryz.prog 246 = true := by kernel_rfl
theorem ty_size_246 : sizeT Tryz.prog 246 = some 1 := by kernel_rfl
theorem ty_plain_247 : plainT Tryz.prog 247 = true := by kernel_rfl
theorem ty_size_247 : sizeT Tryz.prog 247 = some 1 := by kernel_rfl
theorem ty_plain_248 : plainT Tryz.prog 248 = true := by kernel_rfl
theorem ty_size_248 : sizeT Tryz.prog 248 = some 1 := by kernel_rfl
theorem ty_agg_249 : aggT Tryz.prog 249 = true := by kernel_rfl
theorem ty_bld_249 : bldT Tryz.prog 249 = some ([(0, 1), (1, 1), (2, 1), (3, 1), (4, 1)], [.int .i32 0, .int .u16 0, .int .u16 0, .int .u32 0, .int .u32 0]) := by kernel_rfl
theorem ty_field_249_0 : fieldT Tryz.prog 249 0 = some (0, 0 + 1) := by kernel_rfl
theorem ty_field_249_1 : fieldT Tryz.prog 249 1 = some (1, 0 + 1) := by kernel_rfl
theorem ty_field_249_2 : fieldT Tryz.prog 249 2 = some (2, 0 + 1) := by kernel_rfl
theorem ty_field_249_3 : fieldT Tryz.prog 249 3 = some (3, 0 + 1) := by kernel_rfl
theorem ty_field_249_4 : fieldT Tryz.prog 249 4 = some (4, 0 + 1) := by kernel_rfl
theorem ty_size_249 : sizeT Tryz.prog 249 = some 5 := by kernel_rfl
theorem ty_agg_250 : aggT Tryz.prog 250 = true := by kernel_rfl
theorem ty_bld_250 : bldT Tryz.prog 250 = some ([(0, 1), (1, 1), (2, 1), (3, 1), (4, 1)], [.int .i32 0, .int .u16 0, .int .u16 0, .int .u32 0, .int .u32 0]) := by kernel_rfl
theorem ty_field_250_0 : fieldT Tryz.prog 250 0 = some (0, 0 + 1) := by kernel_rfl
theorem ty_field_250_1 : fieldT Tryz.prog 250 1 = some (1, 0 + 1) := by kernel_rfl
theorem ty_field_250_2 : fieldT Tryz.prog 250 2 = some (2, 0 + 1) := by kernel_rfl
theorem ty_field_250_3 : fieldT Tryz.prog 250 3 = some (3, 0 + 1) := by kernel_rfl
theorem ty_field_250_4 : fieldT Tryz.prog 250 4 = some (4, 0 + 1) := by kernel_rfl
theorem ty_size_250 : sizeT Tryz.prog 250 = some 5 := by kernel_rfl
theorem ty_plain_251 : plainT Tryz.prog 251 = true := by kernel_rfl
theorem ty_size_251 : sizeT Tryz.prog 251 = some 1 := by kernel_rfl
theorem ty_plain_252 : plainT Tryz.prog 252 = true := by kernel_rfl
theorem ty_size_252 : sizeT Tryz.prog 252 = some 1 := by kernel_rfl
theorem ty_agg_253 : aggT Tryz.prog 253 = true := by kernel_rfl
theorem ty_bld_253 : bldT Tryz.prog 253 = some ([(0, 1), (1, 1), (2, 1), (3, 1)], [.int .i32 0, .int .i32 0, .int .i32 0, .int .i32 0]) := by kernel_rfl
theorem ty_field_253_0 : fieldT Tryz.prog 253 0 = some (0, 0 + 1) := by kernel_rfl
theorem ty_field_253_1 : fieldT Tryz.prog 253 1 = some (1, 0 + 1) := by kernel_rfl
theorem ty_field_253_2 : fieldT Tryz.prog 253 2 = some (2, 0 + 1) := by kernel_rfl
theorem ty_field_253_3 : fieldT Tryz.prog 253 3 = some (3, 0 + 1) := by kernel_rfl
theorem ty_size_253 : sizeT Tryz.prog 253 = some 4 := by kernel_rfl
theorem ty_agg_254 : aggT Tryz.prog 254 = true := by kernel_rfl
theorem ty_bld_254 : bldT Tryz.prog 254 = some ([(0, 1), (1, 1), (2, 1), (3, 1)], [.int .i32 0, .int .i32 0, .int .i32 0, .int .i32 0]) := by kernel_rfl
theorem ty_field_254_0 : fieldT Tryz.prog 254 0 = some (0, 0 + 1) := by kernel_rfl
theorem ty_field_254_1 : fieldT Tryz.prog 254 1 = some (1, 0 + 1) := by kernel_rfl
theorem ty_field_254_2 : fieldT Tryz.prog 254 2 = some (2, 0 + 1) := by kernel_rfl
theorem ty_field_254_3 : fieldT Tryz.prog 254 3 = some (3, 0 + 1) := by kernel_rfl
theorem ty_size_254 : sizeT Tryz.prog 254 = some 4 := by kernel_rfl
theorem ty_plain_255 : plainT Tryz.prog 255 = true := by kernel_rfl
theorem ty_size_255 : sizeT Tryz.prog 255 = some 1 := by kernel_rfl
theorem go_3 : goFn Tryz.prog 3 = true := by kernel_rfl
theorem go_4 : goFn Tryz.prog 4 = true := by kernel_rfl
theorem go_5 : goFn Tryz.prog 5 = true := by kernel_rfl
theorem go_6 : goFn Tryz.prog 6 = true := by kernel_rfl
theorem go_7 : goFn Tryz.prog 7 = true := by kernel_rfl
theorem go_8 : goFn Tryz.prog 8 = true := by kernel_rfl
theorem go_9 : goFn Tryz.prog 9 = true := by kernel_rfl
theorem go_10 : goFn Tryz.prog 10 = true := by kernel_rfl
theorem go_11 : goFn Tryz.prog 11 = true := by kernel_rfl
theorem go_12 : goFn Tryz.prog 12 = true := by kernel_rfl
theorem go_13 : goFn Tryz.prog 13 = true := by kernel_rfl
theorem go_14 : goFn Tryz.prog 14 = true := by kernel_rfl
theorem go_15 : goFn Tryz.prog 15 = true := by kernel_rfl
theorem go_16 : goFn Tryz.prog 16 = true := by kernel_rfl
theorem go_17 : goFn Tryz.prog 17 = true := by kernel_rfl
theorem go_18 : goFn Tryz.prog 18 = true := by kernel_rfl
theorem go_19 : goFn Tryz.prog 19 = true := by kernel_rfl
theorem go_20 : goFn Tryz.prog 20 = true := by kernel_rfl
theorem go_21 : goFn Tryz.prog 21 = true := by kernel_rfl
theorem go_22 : goFn Tryz.prog 22 = true := by kernel_rfl
theorem go_23 : goFn Tryz.prog 23 = true := by kernel_rfl
theorem go_24 : goFn Tryz.prog 24 = true := by kernel_rfl
theorem go_25 : goFn Tryz.prog 25 = true := by kernel_rfl
theorem go_26 : goFn Tryz.prog 26 = true := by kernel_rfl
theorem go_27 : goFn Tryz.prog 27 = true := by kernel_rfl
theorem go_28 : goFn Tryz.prog 28 = true := by kernel_rfl
theorem go_29 : goFn Tryz.prog 29 = true := by kernel_rfl
theorem go_30 : goFn Tryz.prog 30 = true := by kernel_rfl
theorem go_31 : goFn Tryz.prog 31 = true := by kernel_rfl
theorem go_32 : goFn Tryz.prog 32 = true := by kernel_rfl
theorem go_33 : goFn Tryz.prog 33 = true := by kernel_rfl
theorem go_34 : goFn Tryz.prog 34 = true := by kernel_rfl
theorem go_35 : goFn Tryz.prog 35 = true := by kernel_rfl
theorem go_36 : goFn Tryz.prog 36 = true := by kernel_rfl
theorem go_37 : goFn Tryz.prog 37 = true := by kernel_rfl
theorem go_38 : goFn Tryz.prog 38 = true := by kernel_rfl
theorem go_39 : goFn Tryz.prog 39 = true := by kernel_rfl
theorem go_40 : goFn Tryz.prog 40 = true := by kernel_rfl
theorem go_41 : goFn Tryz.prog 41 = true := by kernel_rfl
theorem go_42 : goFn Tryz.prog 42 = true := by kernel_rfl
theorem go_43 : goFn Tryz.prog 43 = true := by kernel_rfl
theorem go_44 : goFn Tryz.prog 44 = true := by kernel_rfl
theorem go_45 : goFn Tryz.prog 45 = true := by kernel_rfl
theorem go_46 : goFn Tryz.prog 46 = true := by kernel_rfl
theorem go_47 : goFn Tryz.prog 47 = true := by kernel_rfl
theorem go_48 : goFn Tryz.prog 48 = true := by kernel_rfl
theorem go_49 : goFn Tryz.prog 49 = true := by kernel_rfl
theorem go_50 : goFn Tryz.prog 50 = true := by kernel_rfl
theorem go_51 : goFn Tryz.prog 51 = true := by kernel_rfl
theorem go_52 : goFn Tryz.prog 52 = true := by kernel_rfl
theorem go_53 : goFn Tryz.prog 53 = true := by kernel_rfl
theorem go_54 : goFn Tryz.prog 54 = true := by kernel_rfl
theorem go_55 : goFn Tryz.prog 55 = true := by kernel_rfl
theorem go_56 : goFn Tryz.prog 56 = true := by kernel_rfl
theorem go_57 : goFn Tryz.prog 57 = true := by kernel_rfl
theorem go_58 : goFn Tryz.prog 58 = true := by kernel_rfl
theorem go_59 : goFn Tryz.prog 59 = true := by kernel_rfl
theorem go_60 : goFn Tryz.prog 60 = true := by kernel_rfl
theorem go_61 : goFn Tryz.prog 61 = true := by kernel_rfl
theorem go_62 : goFn Tryz.prog 62 = true := by kernel_rfl
theorem go_63 : goFn Tryz.prog 63 = true := by kernel_rfl
theorem go_64 : goFn Tryz.prog 64 = true := by kernel_rfl
theorem go_65 : goFn Tryz.prog 65 = true := by kernel_rfl
theorem go_66 : goFn Tryz.prog 66 = true := by kernel_rfl
theorem go_67 : goFn Tryz.prog 67 = true := by kernel_rfl
theorem go_68 : goFn Tryz.prog 68 = true := by kernel_rfl
theorem go_69 : goFn Tryz.prog 69 = true := by kernel_rfl
theorem go_70 : goFn Tryz.prog 70 = true := by kernel_rfl
theorem go_71 : goFn Tryz.prog 71 = true := by kernel_rfl
theorem go_72 : goFn Tryz.prog 72 = true := by kernel_rfl
theorem go_73 : goFn Tryz.prog 73 = true := by kernel_rfl
theorem go_74 : goFn Tryz.prog 74 = true := by kernel_rfl
theorem go_75 : goFn Tryz.prog 75 = true := by kernel_rfl
theorem go_76 : goFn Tryz.prog 76 = true := by kernel_rfl
theorem go_77 : goFn Tryz.prog 77 = true := by kernel_rfl
theorem go_78 : goFn Tryz.prog 78 = true := by kernel_rfl
theorem go_79 : goFn Tryz.prog 79 = true := by kernel_rfl
theorem go_80 : goFn Tryz.prog 80 = true := by kernel_rfl
theorem go_81 : goFn Tryz.prog 81 = true := by kernel_rfl
theorem go_82 : goFn Tryz.prog 82 = true := by kernel_rfl
theorem go_83 : goFn Tryz.prog 83 = true := by kernel_rfl
theorem go_84 : goFn Tryz.prog 84 = true := by kernel_rfl
theorem go_85 : goFn Tryz.prog 85 = true := by kernel_rfl
theorem go_86 : goFn Tryz.prog 86 = true := by kernel_rfl
theorem go_87 : goFn Tryz.prog 87 = true := by kernel_rfl
theorem go_88 : goFn Tryz.prog 88 = true := by kernel_rfl
theorem go_89 : goFn Tryz.prog 89 = true := by kernel_rfl
theorem go_90 : goFn Tryz.prog 90 = true := by kernel_rfl
theorem go_91 : goFn Tryz.prog 91 = true := by kernel_rfl
theorem go_92 : goFn Tryz.prog 92 = true := by kernel_rfl
theorem go_93 : goFn Tryz.prog 93 = true := by kernel_rfl
theorem go_94 : goFn Tryz.prog 94 = true := by kernel_rfl
theorem go_95 : goFn Tryz.prog 95 = true := by kernel_rfl
theorem go_96 : goFn Tryz.prog 96 = true := by kernel_rfl
theorem go_97 : goFn Tryz.prog 97 = true := by kernel_rfl
theorem go_98 : goFn Tryz.prog 98 = true := by kernel_rfl
theorem go_99 : goFn Tryz.prog 99 = true := by kernel_rfl
theorem go_100 : goFn Tryz.prog 100 = true := by kernel_rfl
theorem go_101 : goFn Tryz.prog 101 = true := by kernel_rfl
theorem go_102 : goFn Tryz.prog 102 = true := by kernel_rfl
theorem go_103 : goFn Tryz.prog 103 = true := by kernel_rfl
theorem go_104 : goFn Tryz.prog 104 = true := by kernel_rfl
theorem go_105 : goFn Tryz.prog 105 = true := by kernel_rfl
theorem go_106 : goFn Tryz.prog 106 = true := by kernel_rfl
theorem go_107 : goFn Tryz.prog 107 = true := by kernel_rfl
theorem go_108 : goFn Tryz.prog 108 = true := by kernel_rfl
theorem go_109 : goFn Tryz.prog 109 = true := by kernel_rfl
theorem go_110 : goFn Tryz.prog 110 = true := by kernel_rfl
theorem go_111 : goFn Tryz.prog 111 = true := by kernel_rfl
theorem go_112 : goFn Tryz.prog 112 = true := by kernel_rfl
theorem go_113 : goFn Tryz.prog 113 = true := by kernel_rfl
theorem go_114 : goFn Tryz.prog 114 = true := by kernel_rfl
theorem go_115 : goFn Tryz.prog 115 = true := by kernel_rfl
theorem go_116 : goFn Tryz.prog 116 = true := by kernel_rfl
theorem go_117 : goFn Tryz.prog 117 = true := by kernel_rfl
theorem go_118 : goFn Tryz.prog 118 = true := by kernel_rfl
theorem go_119 : goFn Tryz.prog 119 = true := by kernel_rfl
theorem go_120 : goFn Tryz.prog 120 = true := by kernel_rfl
theorem go_121 : goFn Tryz.prog 121 = true := by kernel_rfl
theorem go_122 : goFn Tryz.prog 122 = true := by kernel_rfl
theorem go_123 : goFn Tryz.prog 123 = true := by kernel_rfl
theorem go_124 : goFn Tryz.prog 124 = true := by kernel_rfl
theorem go_125 : goFn Tryz.prog 125 = true := by kernel_rfl
theorem go_126 : goFn Tryz.prog 126 = true := by kernel_rfl
theorem go_127 : goFn Tryz.prog 127 = true := by kernel_rfl
theorem go_131 : goFn Tryz.prog 131 = true := by kernel_rfl
theorem go_132 : goFn Tryz.prog 132 = true := by kernel_rfl
theorem go_133 : goFn Tryz.prog 133 = true := by kernel_rfl
theorem go_134 : goFn Tryz.prog 134 = true := by kernel_rfl
theorem go_136 : goFn Tryz.prog 136 = true := by kernel_rfl
theorem go_137 : goFn Tryz.prog 137 = true := by kernel_rfl
theorem go_138 : goFn Tryz.prog 138 = true := by kernel_rfl
theorem go_139 : goFn Tryz.prog 139 = true := by kernel_rfl
theorem go_140 : goFn Tryz.prog 140 = true := by kernel_rfl
theorem go_141 : goFn Tryz.prog 141 = true := by kernel_rfl
theorem go_142 : goFn Tryz.prog 142 = true := by kernel_rfl
theorem go_143 : goFn Tryz.prog 143 = true := by kernel_rfl
theorem go_144 : goFn Tryz.prog 144 = true := by kernel_rfl
theorem go_145 : goFn Tryz.prog 145 = true := by kernel_rfl
theorem go_146 : goFn Tryz.prog 146 = true := by kernel_rfl
theorem go_147 : goFn Tryz.prog 147 = true := by kernel_rfl
theorem go_148 : goFn Tryz.prog 148 = true := by kernel_rfl
theorem go_149 : goFn Tryz.prog 149 = true := by kernel_rfl
theorem go_150 : goFn Tryz.prog 150 = true := by kernel_rfl
theorem go_151 : goFn Tryz.prog 151 = true := by kernel_rfl
theorem go_152 : goFn Tryz.prog 152 = true := by kernel_rfl
theorem go_153 : goFn Tryz.prog 153 = true := by kernel_rfl
theorem go_154 : goFn Tryz.prog 154 = true := by kernel_rfl
theorem go_155 : goFn Tryz.prog 155 = true := by kernel_rfl
theorem go_156 : goFn Tryz.prog 156 = true := by kernel_rfl
theorem go_157 : goFn Tryz.prog 157 = true := by kernel_rfl
theorem go_158 : goFn Tryz.prog 158 = true := by kernel_rfl
theorem go_159 : goFn Tryz.prog 159 = true := by kernel_rfl
theorem go_160 : goFn Tryz.prog 160 = true := by kernel_rfl
theorem go_161 : goFn Tryz.prog 161 = true := by kernel_rfl
theorem go_162 : goFn Tryz.prog 162 = true := by kernel_rfl
theorem go_163 : goFn Tryz.prog 163 = true := by kernel_rfl
theorem go_167 : goFn Tryz.prog 167 = true := by kernel_rfl
theorem go_168 : goFn Tryz.prog 168 = true := by kernel_rfl
theorem go_169 : goFn Tryz.prog 169 = true := by kernel_rfl
theorem go_171 : goFn Tryz.prog 171 = true := by kernel_rfl
theorem go_172 : goFn Tryz.prog 172 = true := by kernel_rfl
theorem go_173 : goFn Tryz.prog 173 = true := by kernel_rfl
theorem go_174 : goFn Tryz.prog 174 = true := by kernel_rfl
theorem go_175 : goFn Tryz.prog 175 = true := by kernel_rfl
theorem go_176 : goFn Tryz.prog 176 = true := by kernel_rfl
theorem go_177 : goFn Tryz.prog 177 = true := by kernel_rfl
theorem go_178 : goFn Tryz.prog 178 = true := by kernel_rfl
theorem go_179 : goFn Tryz.prog 179 = true := by kernel_rfl
theorem go_180 : goFn Tryz.prog 180 = true := by kernel_rfl
theorem go_181 : goFn Tryz.prog 181 = true := by kernel_rfl
theorem go_183 : goFn Tryz.prog 183 = true := by kernel_rfl
theorem go_184 : goFn Tryz.prog 184 = true := by kernel_rfl
theorem go_185 : goFn Tryz.prog 185 = true := by kernel_rfl
theorem go_186 : goFn Tryz.prog 186 = true := by kernel_rfl
theorem go_187 : goFn Tryz.prog 187 = true := by kernel_rfl
theorem go_188 : goFn Tryz.prog 188 = true := by kernel_rfl
theorem go_189 : goFn Tryz.prog 189 = true := by kernel_rfl
theorem go_191 : goFn Tryz.prog 191 = true := by kernel_rfl
theorem go_213 : goFn Tryz.prog 213 = true := by kernel_rfl
instance : TPlain Tryz.prog 1 := ⟨ty_plain_1⟩
instance : TSize Tryz.prog 1 1 := ⟨ty_size_1⟩
instance : TPlain Tryz.prog 2 := ⟨ty_plain_2⟩
instance : TSize Tryz.prog 2 1 := ⟨ty_size_2⟩
instance : TPlain Tryz.prog 3 := ⟨ty_plain_3⟩
instance : TSize Tryz.prog 3 1 := ⟨ty_size_3⟩
instance : TPlain Tryz.prog 4 := ⟨ty_plain_4⟩
instance : TSize Tryz.prog 4 1 := ⟨ty_size_4⟩
instance : TPlain Tryz.prog 5 := ⟨ty_plain_5⟩
instance : TSize Tryz.prog 5 1 := ⟨ty_size_5⟩
instance : TPlain Tryz.prog 6 := ⟨ty_plain_6⟩
instance : TSize Tryz.prog 6 1 := ⟨ty_size_6⟩
instance : TAgg Tryz.prog 7 := ⟨ty_agg_7⟩
instance : TBld Tryz.prog 7 ([(0, 1), (1, 1), (2, 1), (3, 1)], [.int .i64 0, .int .i64 0, .bool false, .int .u8 0]) := ⟨ty_bld_7⟩
instance : TField Tryz.prog 7 0 0 0 := ⟨ty_field_7_0⟩
instance : TField Tryz.prog 7 1 1 0 := ⟨ty_field_7_1⟩
instance : TField Tryz.prog 7 2 2 0 := ⟨ty_field_7_2⟩
instance : TField Tryz.prog 7 3 3 0 := ⟨ty_field_7_3⟩
instance : TSize Tryz.prog 7 4 := ⟨ty_size_7⟩
instance : TAgg Tryz.prog 8 := ⟨ty_agg_8⟩
instance : TBld Tryz.prog 8 ([(0, 1), (1, 1), (2, 1), (3, 1)], [.int .i64 0, .int .i64 0, .bool false, .int .u8 0]) := ⟨ty_bld_8⟩
instance : TField Tryz.prog 8 0 0 0 := ⟨ty_field_8_0⟩
instance : TField Tryz.prog 8 1 1 0 := ⟨ty_field_8_1⟩
instance : TField Tryz.prog 8 2 2 0 := ⟨ty_field_8_2⟩
instance : TField Tryz.prog 8 3 3 0 := ⟨ty_field_8_3⟩
instance : TSize Tryz.prog 8 4 := ⟨ty_size_8⟩
instance : TPlain Tryz.prog 9 := ⟨ty_plain_9⟩
instance : TSize Tryz.prog 9 1 := ⟨ty_size_9⟩
instance : TStr Tryz.prog 9 := ⟨ty_str_9⟩
instance : TPlain Tryz.prog 10 := ⟨ty_plain_10⟩
instance : TSize Tryz.prog 10 1 := ⟨ty_size_10⟩
instance : TStr Tryz.prog 10 := ⟨ty_str_10⟩
instance : TPlain Tryz.prog 11 := ⟨ty_plain_11⟩
instance : TSize Tryz.prog 11 1 := ⟨ty_size_11⟩
instance : TStr Tryz.prog 11 := ⟨ty_str_11⟩
instance : TPlain Tryz.prog 12 := ⟨ty_plain_12⟩
instance : TSize Tryz.prog 12 1 := ⟨ty_size_12⟩
instance : TAgg Tryz.prog 13 := ⟨ty_agg_13⟩
instance : TBld Tryz.prog 13 ([(0, 1), (1, 1)], [.string ByteArray.empty, .int .u64 0]) := ⟨ty_bld_13⟩
instance : TField Tryz.prog 13 0 0 0 := ⟨ty_field_13_0⟩
instance : TField Tryz.prog 13 1 1 0 := ⟨ty_field_13_1⟩
instance : TSize Tryz.prog 13 2 := ⟨ty_size_13⟩
instance : TAgg Tryz.prog 14 := ⟨ty_agg_14⟩
instance : TBld Tryz.prog 14 ([(0, 1), (1, 1)], [.string ByteArray.empty, .int .u64 0]) := ⟨ty_bld_14⟩
instance : TField Tryz.prog 14 0 0 0 := ⟨ty_field_14_0⟩
instance : TField Tryz.prog 14 1 1 0 := ⟨ty_field_14_1⟩
instance : TSize Tryz.prog 14 2 := ⟨ty_size_14⟩
instance : TPlain Tryz.prog 15 := ⟨ty_plain_15⟩
instance : TSize Tryz.prog 15 1 := ⟨ty_size_15⟩
instance : TPlain Tryz.prog 16 := ⟨ty_plain_16⟩
instance : TSize Tryz.prog 16 1 := ⟨ty_size_16⟩
instance : TPlain Tryz.prog 17 := ⟨ty_plain_17⟩
instance : TSize Tryz.prog 17 1 := ⟨ty_size_17⟩
instance : TAgg Tryz.prog 18 := ⟨ty_agg_18⟩
instance : TBld Tryz.prog 18 ([(0, 1)], [.pointer none]) := ⟨ty_bld_18⟩
instance : TField Tryz.prog 18 0 0 0 := ⟨ty_field_18_0⟩
instance : TSize Tryz.prog 18 1 := ⟨ty_size_18⟩
instance : TAgg Tryz.prog 19 := ⟨ty_agg_19⟩
instance : TBld Tryz.prog 19 ([(0, 1)], [.pointer none]) := ⟨ty_bld_19⟩
instance : TField Tryz.prog 19 0 0 0 := ⟨ty_field_19_0⟩
instance : TSize Tryz.prog 19 1 := ⟨ty_size_19⟩
instance : TPlain Tryz.prog 20 := ⟨ty_plain_20⟩
instance : TSize Tryz.prog 20 1 := ⟨ty_size_20⟩
instance : TPlain Tryz.prog 21 := ⟨ty_plain_21⟩
instance : TSize Tryz.prog 21 1 := ⟨ty_size_21⟩
instance : TPlain Tryz.prog 22 := ⟨ty_plain_22⟩
instance : TSize Tryz.prog 22 1 := ⟨ty_size_22⟩
instance : TPlain Tryz.prog 23 := ⟨ty_plain_23⟩
instance : TSize Tryz.prog 23 1 := ⟨ty_size_23⟩
instance : TAgg Tryz.prog 24 := ⟨ty_agg_24⟩
instance : TBld Tryz.prog 24 ([(0, 1), (1, 1), (2, 1), (3, 1), (4, 1)], [.int .i64 0, .slice none 0 0, .slice none 0 0, .int .i64 0, .bool false]) := ⟨ty_bld_24⟩
instance : TField Tryz.prog 24 0 0 0 := ⟨ty_field_24_0⟩
instance : TField Tryz.prog 24 1 1 0 := ⟨ty_field_24_1⟩
instance : TField Tryz.prog 24 2 2 0 := ⟨ty_field_24_2⟩
instance : TField Tryz.prog 24 3 3 0 := ⟨ty_field_24_3⟩
instance : TField Tryz.prog 24 4 4 0 := ⟨ty_field_24_4⟩
instance : TSize Tryz.prog 24 5 := ⟨ty_size_24⟩
instance : TAgg Tryz.prog 25 := ⟨ty_agg_25⟩
instance : TBld Tryz.prog 25 ([(0, 1), (1, 1), (2, 1), (3, 1), (4, 1)], [.int .i64 0, .slice none 0 0, .slice none 0 0, .int .i64 0, .bool false]) := ⟨ty_bld_25⟩
instance : TField Tryz.prog 25 0 0 0 := ⟨ty_field_25_0⟩
instance : TField Tryz.prog 25 1 1 0 := ⟨ty_field_25_1⟩
instance : TField Tryz.prog 25 2 2 0 := ⟨ty_field_25_2⟩
instance : TField Tryz.prog 25 3 3 0 := ⟨ty_field_25_3⟩
instance : TField Tryz.prog 25 4 4 0 := ⟨ty_field_25_4⟩
instance : TSize Tryz.prog 25 5 := ⟨ty_size_25⟩
instance : TPlain Tryz.prog 26 := ⟨ty_plain_26⟩
instance : TSize Tryz.prog 26 1 := ⟨ty_size_26⟩
instance : TPlain Tryz.prog 27 := ⟨ty_plain_27⟩
instance : TSize Tryz.prog 27 1 := ⟨ty_size_27⟩
instance : TPlain Tryz.prog 28 := ⟨ty_plain_28⟩
instance : TSize Tryz.prog 28 1 := ⟨ty_size_28⟩
instance : TPlain Tryz.prog 29 := ⟨ty_plain_29⟩
instance : TSize Tryz.prog 29 1 := ⟨ty_size_29⟩
instance : TPlain Tryz.prog 31 := ⟨ty_plain_31⟩
instance : TSize Tryz.prog 31 1 := ⟨ty_size_31⟩
instance : TPlain Tryz.prog 32 := ⟨ty_plain_32⟩
instance : TSize Tryz.prog 32 1 := ⟨ty_size_32⟩
instance : TPlain Tryz.prog 34 := ⟨ty_plain_34⟩
instance : TSize Tryz.prog 34 1 := ⟨ty_size_34⟩
instance : TPlain Tryz.prog 35 := ⟨ty_plain_35⟩
instance : TSize Tryz.prog 35 1 := ⟨ty_size_35⟩
instance : TPlain Tryz.prog 36 := ⟨ty_plain_36⟩
instance : TSize Tryz.prog 36 1 := ⟨ty_size_36⟩
instance : TPlain Tryz.prog 37 := ⟨ty_plain_37⟩
instance : TSize Tryz.prog 37 1 := ⟨ty_size_37⟩
instance : TPlain Tryz.prog 39 := ⟨ty_plain_39⟩
instance : TSize Tryz.prog 39 1 := ⟨ty_size_39⟩
instance : TPlain Tryz.prog 41 := ⟨ty_plain_41⟩
instance : TSize Tryz.prog 41 1 := ⟨ty_size_41⟩
instance : TPlain Tryz.prog 43 := ⟨ty_plain_43⟩
instance : TSize Tryz.prog 43 1 := ⟨ty_size_43⟩
instance : TPlain Tryz.prog 44 := ⟨ty_plain_44⟩
instance : TSize Tryz.prog 44 1 := ⟨ty_size_44⟩
instance : TPlain Tryz.prog 45 := ⟨ty_plain_45⟩
instance : TSize Tryz.prog 45 1 := ⟨ty_size_45⟩
instance : TPlain Tryz.prog 46 := ⟨ty_plain_46⟩
instance : TSize Tryz.prog 46 1 := ⟨ty_size_46⟩
instance : TPlain Tryz.prog 47 := ⟨ty_plain_47⟩
instance : TSize Tryz.prog 47 1 := ⟨ty_size_47⟩
instance : TPlain Tryz.prog 48 := ⟨ty_plain_48⟩
instance : TSize Tryz.prog 48 1 := ⟨ty_size_48⟩
instance : TPlain Tryz.prog 49 := ⟨ty_plain_49⟩
instance : TSize Tryz.prog 49 1 := ⟨ty_size_49⟩
instance : TPlain Tryz.prog 50 := ⟨ty_plain_50⟩
instance : TSize Tryz.prog 50 1 := ⟨ty_size_50⟩
instance : TPlain Tryz.prog 51 := ⟨ty_plain_51⟩
instance : TSize Tryz.prog 51 1 := ⟨ty_size_51⟩
instance : TPlain Tryz.prog 52 := ⟨ty_plain_52⟩
instance : TSize Tryz.prog 52 1 := ⟨ty_size_52⟩
instance : TPlain Tryz.prog 53 := ⟨ty_plain_53⟩
instance : TSize Tryz.prog 53 1 := ⟨ty_size_53⟩
instance : TAgg Tryz.prog 54 := ⟨ty_agg_54⟩
instance : TBld Tryz.prog 54 ([(0, 1), (1, 1), (2, 1), (3, 1), (4, 1), (5, 1), (6, 1)], [.int .u64 0, .int .u8 0, .int .u64 0, .int .u64 0, .int .u32 0, .string ByteArray.empty, .string ByteArray.empty]) := ⟨ty_bld_54⟩
instance : TField Tryz.prog 54 0 0 0 := ⟨ty_field_54_0⟩
instance : TField Tryz.prog 54 1 1 0 := ⟨ty_field_54_1⟩
instance : TField Tryz.prog 54 2 2 0 := ⟨ty_field_54_2⟩
instance : TField Tryz.prog 54 3 3 0 := ⟨ty_field_54_3⟩
instance : TField Tryz.prog 54 4 4 0 := ⟨ty_field_54_4⟩
instance : TField Tryz.prog 54 5 5 0 := ⟨ty_field_54_5⟩
instance : TField Tryz.prog 54 6 6 0 := ⟨ty_field_54_6⟩
instance : TSize Tryz.prog 54 7 := ⟨ty_size_54⟩
instance : TAgg Tryz.prog 55 := ⟨ty_agg_55⟩
instance : TBld Tryz.prog 55 ([(0, 1), (1, 1), (2, 1), (3, 1), (4, 1), (5, 1), (6, 1)], [.int .u64 0, .int .u8 0, .int .u64 0, .int .u64 0, .int .u32 0, .string ByteArray.empty, .string ByteArray.empty]) := ⟨ty_bld_55⟩
instance : TField Tryz.prog 55 0 0 0 := ⟨ty_field_55_0⟩
instance : TField Tryz.prog 55 1 1 0 := ⟨ty_field_55_1⟩
instance : TField Tryz.prog 55 2 2 0 := ⟨ty_field_55_2⟩
instance : TField Tryz.prog 55 3 3 0 := ⟨ty_field_55_3⟩
instance : TField Tryz.prog 55 4 4 0 := ⟨ty_field_55_4⟩
instance : TField Tryz.prog 55 5 5 0 := ⟨ty_field_55_5⟩
instance : TField Tryz.prog 55 6 6 0 := ⟨ty_field_55_6⟩
instance : TSize Tryz.prog 55 7 := ⟨ty_size_55⟩
instance : TPlain Tryz.prog 56 := ⟨ty_plain_56⟩
instance : TSize Tryz.prog 56 1 := ⟨ty_size_56⟩
instance : TPlain Tryz.prog 58 := ⟨ty_plain_58⟩
instance : TSize Tryz.prog 58 1 := ⟨ty_size_58⟩
instance : TPlain Tryz.prog 59 := ⟨ty_plain_59⟩
instance : TSize Tryz.prog 59 1 := ⟨ty_size_59⟩
instance : TPlain Tryz.prog 60 := ⟨ty_plain_60⟩
instance : TSize Tryz.prog 60 1 := ⟨ty_size_60⟩
instance : TPlain Tryz.prog 61 := ⟨ty_plain_61⟩
instance : TSize Tryz.prog 61 1 := ⟨ty_size_61⟩
instance : TBytes Tryz.prog 61 5 := ⟨ty_bytes_61⟩
instance : TPlain Tryz.prog 62 := ⟨ty_plain_62⟩
instance : TSize Tryz.prog 62 1 := ⟨ty_size_62⟩
instance : TPlain Tryz.prog 63 := ⟨ty_plain_63⟩
instance : TSize Tryz.prog 63 1 := ⟨ty_size_63⟩
instance : TPlain Tryz.prog 64 := ⟨ty_plain_64⟩
instance : TSize Tryz.prog 64 1 := ⟨ty_size_64⟩
instance : TPlain Tryz.prog 65 := ⟨ty_plain_65⟩
instance : TSize Tryz.prog 65 1 := ⟨ty_size_65⟩
instance : TPlain Tryz.prog 66 := ⟨ty_plain_66⟩
instance : TSize Tryz.prog 66 1 := ⟨ty_size_66⟩
instance : TAgg Tryz.prog 67 := ⟨ty_agg_67⟩
instance : TBld Tryz.prog 67 ([(0, 1), (1, 1)], [.pointer none, .slice none 0 0]) := ⟨ty_bld_67⟩
instance : TField Tryz.prog 67 0 0 0 := ⟨ty_field_67_0⟩
instance : TField Tryz.prog 67 1 1 0 := ⟨ty_field_67_1⟩
instance : TSize Tryz.prog 67 2 := ⟨ty_size_67⟩
instance : TAgg Tryz.prog 68 := ⟨ty_agg_68⟩
instance : TBld Tryz.prog 68 ([(0, 1), (1, 1)], [.pointer none, .slice none 0 0]) := ⟨ty_bld_68⟩
instance : TField Tryz.prog 68 0 0 0 := ⟨ty_field_68_0⟩
instance : TField Tryz.prog 68 1 1 0 := ⟨ty_field_68_1⟩
instance : TSize Tryz.prog 68 2 := ⟨ty_size_68⟩
instance : TPlain Tryz.prog 69 := ⟨ty_plain_69⟩
instance : TSize Tryz.prog 69 1 := ⟨ty_size_69⟩
instance : TPlain Tryz.prog 70 := ⟨ty_plain_70⟩
instance : TSize Tryz.prog 70 1 := ⟨ty_size_70⟩
instance : TPlain Tryz.prog 71 := ⟨ty_plain_71⟩
instance : TSize Tryz.prog 71 1 := ⟨ty_size_71⟩
instance : TPlain Tryz.prog 72 := ⟨ty_plain_72⟩
instance : TSize Tryz.prog 72 1 := ⟨ty_size_72⟩
instance : TPlain Tryz.prog 74 := ⟨ty_plain_74⟩
instance : TSize Tryz.prog 74 1 := ⟨ty_size_74⟩
instance : TPlain Tryz.prog 75 := ⟨ty_plain_75⟩
instance : TSize Tryz.prog 75 1 := ⟨ty_size_75⟩
instance : TPlain Tryz.prog 76 := ⟨ty_plain_76⟩
instance : TSize Tryz.prog 76 1 := ⟨ty_size_76⟩
instance : TPlain Tryz.prog 77 := ⟨ty_plain_77⟩
instance : TSize Tryz.prog 77 1 := ⟨ty_size_77⟩
instance : TPlain Tryz.prog 78 := ⟨ty_plain_78⟩
instance : TSize Tryz.prog 78 1 := ⟨ty_size_78⟩
instance : TPlain Tryz.prog 79 := ⟨ty_plain_79⟩
instance : TSize Tryz.prog 79 1 := ⟨ty_size_79⟩
instance : TAgg Tryz.prog 80 := ⟨ty_agg_80⟩
instance : TBld Tryz.prog 80 ([(0, 1), (1, 1)], [.string ByteArray.empty, .string ByteArray.empty]) := ⟨ty_bld_80⟩
instance : TField Tryz.prog 80 0 0 0 := ⟨ty_field_80_0⟩
instance : TField Tryz.prog 80 1 1 0 := ⟨ty_field_80_1⟩
instance : TSize Tryz.prog 80 2 := ⟨ty_size_80⟩
instance : TAgg Tryz.prog 81 := ⟨ty_agg_81⟩
instance : TBld Tryz.prog 81 ([(0, 1), (1, 1)], [.string ByteArray.empty, .string ByteArray.empty]) := ⟨ty_bld_81⟩
instance : TField Tryz.prog 81 0 0 0 := ⟨ty_field_81_0⟩
instance : TField Tryz.prog 81 1 1 0 := ⟨ty_field_81_1⟩
instance : TSize Tryz.prog 81 2 := ⟨ty_size_81⟩
instance : TAgg Tryz.prog 82 := ⟨ty_agg_82⟩
instance : TBld Tryz.prog 82 ([(0, 1), (1, 1), (2, 1)], [.string ByteArray.empty, .int .i64 0, .string ByteArray.empty]) := ⟨ty_bld_82⟩
instance : TField Tryz.prog 82 0 0 0 := ⟨ty_field_82_0⟩
instance : TField Tryz.prog 82 1 1 0 := ⟨ty_field_82_1⟩
instance : TField Tryz.prog 82 2 2 0 := ⟨ty_field_82_2⟩
instance : TSize Tryz.prog 82 3 := ⟨ty_size_82⟩
instance : TAgg Tryz.prog 83 := ⟨ty_agg_83⟩
instance : TBld Tryz.prog 83 ([(0, 1), (1, 1), (2, 1)], [.string ByteArray.empty, .int .i64 0, .string ByteArray.empty]) := ⟨ty_bld_83⟩
instance : TField Tryz.prog 83 0 0 0 := ⟨ty_field_83_0⟩
instance : TField Tryz.prog 83 1 1 0 := ⟨ty_field_83_1⟩
instance : TField Tryz.prog 83 2 2 0 := ⟨ty_field_83_2⟩
instance : TSize Tryz.prog 83 3 := ⟨ty_size_83⟩
instance : TPlain Tryz.prog 84 := ⟨ty_plain_84⟩
instance : TSize Tryz.prog 84 1 := ⟨ty_size_84⟩
instance : TPlain Tryz.prog 86 := ⟨ty_plain_86⟩
instance : TSize Tryz.prog 86 1 := ⟨ty_size_86⟩
instance : TPlain Tryz.prog 87 := ⟨ty_plain_87⟩
instance : TSize Tryz.prog 87 1 := ⟨ty_size_87⟩
instance : TPlain Tryz.prog 88 := ⟨ty_plain_88⟩
instance : TSize Tryz.prog 88 1 := ⟨ty_size_88⟩
instance : TPlain Tryz.prog 89 := ⟨ty_plain_89⟩
instance : TSize Tryz.prog 89 1 := ⟨ty_size_89⟩
instance : TPlain Tryz.prog 90 := ⟨ty_plain_90⟩
instance : TSize Tryz.prog 90 1 := ⟨ty_size_90⟩
instance : TPlain Tryz.prog 92 := ⟨ty_plain_92⟩
instance : TSize Tryz.prog 92 1 := ⟨ty_size_92⟩
instance : TPlain Tryz.prog 94 := ⟨ty_plain_94⟩
instance : TSize Tryz.prog 94 1 := ⟨ty_size_94⟩
instance : TPlain Tryz.prog 96 := ⟨ty_plain_96⟩
instance : TSize Tryz.prog 96 1 := ⟨ty_size_96⟩
instance : TPlain Tryz.prog 97 := ⟨ty_plain_97⟩
instance : TSize Tryz.prog 97 1 := ⟨ty_size_97⟩
instance : TPlain Tryz.prog 98 := ⟨ty_plain_98⟩
instance : TSize Tryz.prog 98 1 := ⟨ty_size_98⟩
instance : TPlain Tryz.prog 99 := ⟨ty_plain_99⟩
instance : TSize Tryz.prog 99 1 := ⟨ty_size_99⟩
instance : TPlain Tryz.prog 100 := ⟨ty_plain_100⟩
instance : TSize Tryz.prog 100 1 := ⟨ty_size_100⟩
instance : TAgg Tryz.prog 101 := ⟨ty_agg_101⟩
instance : TBld Tryz.prog 101 ([(0, 5)], [.int .i64 0, .slice none 0 0, .slice none 0 0, .int .i64 0, .bool false]) := ⟨ty_bld_101⟩
instance : TField Tryz.prog 101 0 0 4 := ⟨ty_field_101_0⟩
instance : TSize Tryz.prog 101 5 := ⟨ty_size_101⟩
instance : TAgg Tryz.prog 102 := ⟨ty_agg_102⟩
instance : TBld Tryz.prog 102 ([(0, 5)], [.int .i64 0, .slice none 0 0, .slice none 0 0, .int .i64 0, .bool false]) := ⟨ty_bld_102⟩
instance : TField Tryz.prog 102 0 0 4 := ⟨ty_field_102_0⟩
instance : TSize Tryz.prog 102 5 := ⟨ty_size_102⟩
instance : TPlain Tryz.prog 103 := ⟨ty_plain_103⟩
instance : TSize Tryz.prog 103 1 := ⟨ty_size_103⟩
instance : TPlain Tryz.prog 104 := ⟨ty_plain_104⟩
instance : TSize Tryz.prog 104 1 := ⟨ty_size_104⟩
instance : TAgg Tryz.prog 105 := ⟨ty_agg_105⟩
instance : TSize Tryz.prog 105 5 := ⟨ty_size_105⟩
instance : TPlain Tryz.prog 106 := ⟨ty_plain_106⟩
instance : TSize Tryz.prog 106 1 := ⟨ty_size_106⟩
instance : TPlain Tryz.prog 107 := ⟨ty_plain_107⟩
instance : TSize Tryz.prog 107 1 := ⟨ty_size_107⟩
instance : TPlain Tryz.prog 108 := ⟨ty_plain_108⟩
instance : TSize Tryz.prog 108 1 := ⟨ty_size_108⟩
instance : TPlain Tryz.prog 109 := ⟨ty_plain_109⟩
instance : TSize Tryz.prog 109 1 := ⟨ty_size_109⟩
instance : TPlain Tryz.prog 110 := ⟨ty_plain_110⟩
instance : TSize Tryz.prog 110 1 := ⟨ty_size_110⟩
instance : TPlain Tryz.prog 111 := ⟨ty_plain_111⟩
instance : TSize Tryz.prog 111 1 := ⟨ty_size_111⟩
instance : TPlain Tryz.prog 112 := ⟨ty_plain_112⟩
instance : TSize Tryz.prog 112 1 := ⟨ty_size_112⟩
instance : TPlain Tryz.prog 113 := ⟨ty_plain_113⟩
instance : TSize Tryz.prog 113 1 := ⟨ty_size_113⟩
instance : TPlain Tryz.prog 114 := ⟨ty_plain_114⟩
instance : TSize Tryz.prog 114 1 := ⟨ty_size_114⟩
instance : TPlain Tryz.prog 116 := ⟨ty_plain_116⟩
instance : TSize Tryz.prog 116 1 := ⟨ty_size_116⟩
instance : TPlain Tryz.prog 117 := ⟨ty_plain_117⟩
instance : TSize Tryz.prog 117 1 := ⟨ty_size_117⟩
instance : TPlain Tryz.prog 118 := ⟨ty_plain_118⟩
instance : TSize Tryz.prog 118 1 := ⟨ty_size_118⟩
instance : TPlain Tryz.prog 119 := ⟨ty_plain_119⟩
instance : TSize Tryz.prog 119 1 := ⟨ty_size_119⟩
instance : TPlain Tryz.prog 120 := ⟨ty_plain_120⟩
instance : TSize Tryz.prog 120 1 := ⟨ty_size_120⟩
instance : TPlain Tryz.prog 121 := ⟨ty_plain_121⟩
instance : TSize Tryz.prog 121 1 := ⟨ty_size_121⟩
instance : TPlain Tryz.prog 122 := ⟨ty_plain_122⟩
instance : TSize Tryz.prog 122 1 := ⟨ty_size_122⟩
instance : TPlain Tryz.prog 123 := ⟨ty_plain_123⟩
instance : TSize Tryz.prog 123 1 := ⟨ty_size_123⟩
instance : TPlain Tryz.prog 124 := ⟨ty_plain_124⟩
instance : TSize Tryz.prog 124 1 := ⟨ty_size_124⟩
instance : TPlain Tryz.prog 125 := ⟨ty_plain_125⟩
instance : TSize Tryz.prog 125 1 := ⟨ty_size_125⟩
instance : TPlain Tryz.prog 126 := ⟨ty_plain_126⟩
instance : TSize Tryz.prog 126 1 := ⟨ty_size_126⟩
instance : TPlain Tryz.prog 127 := ⟨ty_plain_127⟩
instance : TSize Tryz.prog 127 1 := ⟨ty_size_127⟩
instance : TPlain Tryz.prog 128 := ⟨ty_plain_128⟩
instance : TSize Tryz.prog 128 1 := ⟨ty_size_128⟩
instance : TPlain Tryz.prog 129 := ⟨ty_plain_129⟩
instance : TSize Tryz.prog 129 1 := ⟨ty_size_129⟩
instance : TPlain Tryz.prog 130 := ⟨ty_plain_130⟩
instance : TSize Tryz.prog 130 1 := ⟨ty_size_130⟩
instance : TPlain Tryz.prog 131 := ⟨ty_plain_131⟩
instance : TSize Tryz.prog 131 1 := ⟨ty_size_131⟩
instance : TPlain Tryz.prog 132 := ⟨ty_plain_132⟩
instance : TSize Tryz.prog 132 1 := ⟨ty_size_132⟩
instance : TPlain Tryz.prog 133 := ⟨ty_plain_133⟩
instance : TSize Tryz.prog 133 1 := ⟨ty_size_133⟩
instance : TPlain Tryz.prog 134 := ⟨ty_plain_134⟩
instance : TSize Tryz.prog 134 1 := ⟨ty_size_134⟩
instance : TPlain Tryz.prog 135 := ⟨ty_plain_135⟩
instance : TSize Tryz.prog 135 1 := ⟨ty_size_135⟩
instance : TPlain Tryz.prog 136 := ⟨ty_plain_136⟩
instance : TSize Tryz.prog 136 1 := ⟨ty_size_136⟩
instance : TPlain Tryz.prog 137 := ⟨ty_plain_137⟩
instance : TSize Tryz.prog 137 1 := ⟨ty_size_137⟩
instance : TPlain Tryz.prog 138 := ⟨ty_plain_138⟩
instance : TSize Tryz.prog 138 1 := ⟨ty_size_138⟩
instance : TPlain Tryz.prog 139 := ⟨ty_plain_139⟩
instance : TSize Tryz.prog 139 1 := ⟨ty_size_139⟩
instance : TPlain Tryz.prog 140 := ⟨ty_plain_140⟩
instance : TSize Tryz.prog 140 1 := ⟨ty_size_140⟩
instance : TPlain Tryz.prog 141 := ⟨ty_plain_141⟩
instance : TSize Tryz.prog 141 1 := ⟨ty_size_141⟩
instance : TPlain Tryz.prog 143 := ⟨ty_plain_143⟩
instance : TSize Tryz.prog 143 1 := ⟨ty_size_143⟩
instance : TPlain Tryz.prog 144 := ⟨ty_plain_144⟩
instance : TSize Tryz.prog 144 1 := ⟨ty_size_144⟩
instance : TPlain Tryz.prog 145 := ⟨ty_plain_145⟩
instance : TSize Tryz.prog 145 1 := ⟨ty_size_145⟩
instance : TPlain Tryz.prog 146 := ⟨ty_plain_146⟩
instance : TSize Tryz.prog 146 1 := ⟨ty_size_146⟩
instance : TPlain Tryz.prog 147 := ⟨ty_plain_147⟩
instance : TSize Tryz.prog 147 1 := ⟨ty_size_147⟩
instance : TPlain Tryz.prog 148 := ⟨ty_plain_148⟩
instance : TSize Tryz.prog 148 1 := ⟨ty_size_148⟩
instance : TPlain Tryz.prog 149 := ⟨ty_plain_149⟩
instance : TSize Tryz.prog 149 1 := ⟨ty_size_149⟩
instance : TPlain Tryz.prog 150 := ⟨ty_plain_150⟩
instance : TSize Tryz.prog 150 1 := ⟨ty_size_150⟩
instance : TPlain Tryz.prog 151 := ⟨ty_plain_151⟩
instance : TSize Tryz.prog 151 1 := ⟨ty_size_151⟩
instance : TAgg Tryz.prog 152 := ⟨ty_agg_152⟩
instance : TBld Tryz.prog 152 ([(0, 1)], [.int .i64 0]) := ⟨ty_bld_152⟩
instance : TField Tryz.prog 152 0 0 0 := ⟨ty_field_152_0⟩
instance : TSize Tryz.prog 152 1 := ⟨ty_size_152⟩
instance : TAgg Tryz.prog 153 := ⟨ty_agg_153⟩
instance : TBld Tryz.prog 153 ([(0, 1)], [.int .i64 0]) := ⟨ty_bld_153⟩
instance : TField Tryz.prog 153 0 0 0 := ⟨ty_field_153_0⟩
instance : TSize Tryz.prog 153 1 := ⟨ty_size_153⟩
instance : TPlain Tryz.prog 154 := ⟨ty_plain_154⟩
instance : TSize Tryz.prog 154 1 := ⟨ty_size_154⟩
instance : TPlain Tryz.prog 155 := ⟨ty_plain_155⟩
instance : TSize Tryz.prog 155 1 := ⟨ty_size_155⟩
instance : TPlain Tryz.prog 156 := ⟨ty_plain_156⟩
instance : TSize Tryz.prog 156 1 := ⟨ty_size_156⟩
instance : TAgg Tryz.prog 157 := ⟨ty_agg_157⟩
instance : TBld Tryz.prog 157 ([(0, 1)], [.string ByteArray.empty]) := ⟨ty_bld_157⟩
instance : TField Tryz.prog 157 0 0 0 := ⟨ty_field_157_0⟩
instance : TSize Tryz.prog 157 1 := ⟨ty_size_157⟩
instance : TAgg Tryz.prog 158 := ⟨ty_agg_158⟩
instance : TBld Tryz.prog 158 ([(0, 1)], [.string ByteArray.empty]) := ⟨ty_bld_158⟩
instance : TField Tryz.prog 158 0 0 0 := ⟨ty_field_158_0⟩
instance : TSize Tryz.prog 158 1 := ⟨ty_size_158⟩
instance : TPlain Tryz.prog 159 := ⟨ty_plain_159⟩
instance : TSize Tryz.prog 159 1 := ⟨ty_size_159⟩
instance : TPlain Tryz.prog 160 := ⟨ty_plain_160⟩
instance : TSize Tryz.prog 160 1 := ⟨ty_size_160⟩
instance : TSize Tryz.prog 161 1 := ⟨ty_size_161⟩
instance : TPlain Tryz.prog 162 := ⟨ty_plain_162⟩
instance : TSize Tryz.prog 162 1 := ⟨ty_size_162⟩
instance : TAgg Tryz.prog 163 := ⟨ty_agg_163⟩
instance : TBld Tryz.prog 163 ([(0, 1), (1, 1), (2, 1)], [.pointer none, .pointer none, .int .u64 0]) := ⟨ty_bld_163⟩
instance : TField Tryz.prog 163 0 0 0 := ⟨ty_field_163_0⟩
instance : TField Tryz.prog 163 1 1 0 := ⟨ty_field_163_1⟩
instance : TField Tryz.prog 163 2 2 0 := ⟨ty_field_163_2⟩
instance : TSize Tryz.prog 163 3 := ⟨ty_size_163⟩
instance : TAgg Tryz.prog 164 := ⟨ty_agg_164⟩
instance : TBld Tryz.prog 164 ([(0, 1), (1, 1), (2, 1)], [.pointer none, .pointer none, .int .u64 0]) := ⟨ty_bld_164⟩
instance : TField Tryz.prog 164 0 0 0 := ⟨ty_field_164_0⟩
instance : TField Tryz.prog 164 1 1 0 := ⟨ty_field_164_1⟩
instance : TField Tryz.prog 164 2 2 0 := ⟨ty_field_164_2⟩
instance : TSize Tryz.prog 164 3 := ⟨ty_size_164⟩
instance : TPlain Tryz.prog 165 := ⟨ty_plain_165⟩
instance : TSize Tryz.prog 165 1 := ⟨ty_size_165⟩
instance : TPlain Tryz.prog 166 := ⟨ty_plain_166⟩
instance : TSize Tryz.prog 166 1 := ⟨ty_size_166⟩
instance : TPlain Tryz.prog 167 := ⟨ty_plain_167⟩
instance : TSize Tryz.prog 167 1 := ⟨ty_size_167⟩
instance : TPlain Tryz.prog 168 := ⟨ty_plain_168⟩
instance : TSize Tryz.prog 168 1 := ⟨ty_size_168⟩
instance : TPlain Tryz.prog 169 := ⟨ty_plain_169⟩
instance : TSize Tryz.prog 169 1 := ⟨ty_size_169⟩
instance : TPlain Tryz.prog 170 := ⟨ty_plain_170⟩
instance : TSize Tryz.prog 170 1 := ⟨ty_size_170⟩
instance : TPlain Tryz.prog 171 := ⟨ty_plain_171⟩
instance : TSize Tryz.prog 171 1 := ⟨ty_size_171⟩
instance : TPlain Tryz.prog 172 := ⟨ty_plain_172⟩
instance : TSize Tryz.prog 172 1 := ⟨ty_size_172⟩
instance : TPlain Tryz.prog 173 := ⟨ty_plain_173⟩
instance : TSize Tryz.prog 173 1 := ⟨ty_size_173⟩
instance : TPlain Tryz.prog 174 := ⟨ty_plain_174⟩
instance : TSize Tryz.prog 174 1 := ⟨ty_size_174⟩
instance : TPlain Tryz.prog 175 := ⟨ty_plain_175⟩
instance : TSize Tryz.prog 175 1 := ⟨ty_size_175⟩
instance : TPlain Tryz.prog 176 := ⟨ty_plain_176⟩
instance : TSize Tryz.prog 176 1 := ⟨ty_size_176⟩
instance : TPlain Tryz.prog 177 := ⟨ty_plain_177⟩
instance : TSize Tryz.prog 177 1 := ⟨ty_size_177⟩
instance : TPlain Tryz.prog 178 := ⟨ty_plain_178⟩
instance : TSize Tryz.prog 178 1 := ⟨ty_size_178⟩
instance : TPlain Tryz.prog 179 := ⟨ty_plain_179⟩
instance : TSize Tryz.prog 179 1 := ⟨ty_size_179⟩
instance : TPlain Tryz.prog 180 := ⟨ty_plain_180⟩
instance : TSize Tryz.prog 180 1 := ⟨ty_size_180⟩
instance : TPlain Tryz.prog 181 := ⟨ty_plain_181⟩
instance : TSize Tryz.prog 181 1 := ⟨ty_size_181⟩
instance : TPlain Tryz.prog 182 := ⟨ty_plain_182⟩
instance : TSize Tryz.prog 182 1 := ⟨ty_size_182⟩
instance : TPlain Tryz.prog 183 := ⟨ty_plain_183⟩
instance : TSize Tryz.prog 183 1 := ⟨ty_size_183⟩
instance : TPlain Tryz.prog 184 := ⟨ty_plain_184⟩
instance : TSize Tryz.prog 184 1 := ⟨ty_size_184⟩
instance : TPlain Tryz.prog 185 := ⟨ty_plain_185⟩
instance : TSize Tryz.prog 185 1 := ⟨ty_size_185⟩
instance : TPlain Tryz.prog 187 := ⟨ty_plain_187⟩
instance : TSize Tryz.prog 187 1 := ⟨ty_size_187⟩
instance : TPlain Tryz.prog 188 := ⟨ty_plain_188⟩
instance : TSize Tryz.prog 188 1 := ⟨ty_size_188⟩
instance : TPlain Tryz.prog 189 := ⟨ty_plain_189⟩
instance : TSize Tryz.prog 189 1 := ⟨ty_size_189⟩
instance : TAgg Tryz.prog 190 := ⟨ty_agg_190⟩
instance : TSize Tryz.prog 190 256 := ⟨ty_size_190⟩
instance : TAgg Tryz.prog 191 := ⟨ty_agg_191⟩
instance : TSize Tryz.prog 191 256 := ⟨ty_size_191⟩
instance : TPlain Tryz.prog 193 := ⟨ty_plain_193⟩
instance : TSize Tryz.prog 193 1 := ⟨ty_size_193⟩
instance : TPlain Tryz.prog 194 := ⟨ty_plain_194⟩
instance : TSize Tryz.prog 194 1 := ⟨ty_size_194⟩
instance : TPlain Tryz.prog 195 := ⟨ty_plain_195⟩
instance : TSize Tryz.prog 195 1 := ⟨ty_size_195⟩
instance : TAgg Tryz.prog 196 := ⟨ty_agg_196⟩
instance : TBld Tryz.prog 196 ([(0, 1)], [.pointer none]) := ⟨ty_bld_196⟩
instance : TField Tryz.prog 196 0 0 0 := ⟨ty_field_196_0⟩
instance : TSize Tryz.prog 196 1 := ⟨ty_size_196⟩
instance : TAgg Tryz.prog 197 := ⟨ty_agg_197⟩
instance : TBld Tryz.prog 197 ([(0, 1)], [.pointer none]) := ⟨ty_bld_197⟩
instance : TField Tryz.prog 197 0 0 0 := ⟨ty_field_197_0⟩
instance : TSize Tryz.prog 197 1 := ⟨ty_size_197⟩
instance : TPlain Tryz.prog 198 := ⟨ty_plain_198⟩
instance : TSize Tryz.prog 198 1 := ⟨ty_size_198⟩
instance : TPlain Tryz.prog 199 := ⟨ty_plain_199⟩
instance : TSize Tryz.prog 199 1 := ⟨ty_size_199⟩
instance : TPlain Tryz.prog 200 := ⟨ty_plain_200⟩
instance : TSize Tryz.prog 200 1 := ⟨ty_size_200⟩
instance : TPlain Tryz.prog 201 := ⟨ty_plain_201⟩
instance : TSize Tryz.prog 201 1 := ⟨ty_size_201⟩
instance : TPlain Tryz.prog 202 := ⟨ty_plain_202⟩
instance : TSize Tryz.prog 202 1 := ⟨ty_size_202⟩
instance : TPlain Tryz.prog 204 := ⟨ty_plain_204⟩
instance : TSize Tryz.prog 204 1 := ⟨ty_size_204⟩
instance : TPlain Tryz.prog 205 := ⟨ty_plain_205⟩
instance : TSize Tryz.prog 205 1 := ⟨ty_size_205⟩
instance : TPlain Tryz.prog 206 := ⟨ty_plain_206⟩
instance : TSize Tryz.prog 206 1 := ⟨ty_size_206⟩
instance : TPlain Tryz.prog 207 := ⟨ty_plain_207⟩
instance : TSize Tryz.prog 207 1 := ⟨ty_size_207⟩
instance : TPlain Tryz.prog 208 := ⟨ty_plain_208⟩
instance : TSize Tryz.prog 208 1 := ⟨ty_size_208⟩
instance : TPlain Tryz.prog 209 := ⟨ty_plain_209⟩
instance : TSize Tryz.prog 209 1 := ⟨ty_size_209⟩
instance : TPlain Tryz.prog 210 := ⟨ty_plain_210⟩
instance : TSize Tryz.prog 210 1 := ⟨ty_size_210⟩
instance : TPlain Tryz.prog 211 := ⟨ty_plain_211⟩
instance : TSize Tryz.prog 211 1 := ⟨ty_size_211⟩
instance : TPlain Tryz.prog 212 := ⟨ty_plain_212⟩
instance : TSize Tryz.prog 212 1 := ⟨ty_size_212⟩
instance : TPlain Tryz.prog 214 := ⟨ty_plain_214⟩
instance : TSize Tryz.prog 214 1 := ⟨ty_size_214⟩
instance : TPlain Tryz.prog 216 := ⟨ty_plain_216⟩
instance : TSize Tryz.prog 216 1 := ⟨ty_size_216⟩
instance : TPlain Tryz.prog 217 := ⟨ty_plain_217⟩
instance : TSize Tryz.prog 217 1 := ⟨ty_size_217⟩
instance : TPlain Tryz.prog 219 := ⟨ty_plain_219⟩
instance : TSize Tryz.prog 219 1 := ⟨ty_size_219⟩
instance : TPlain Tryz.prog 220 := ⟨ty_plain_220⟩
instance : TSize Tryz.prog 220 1 := ⟨ty_size_220⟩
instance : TPlain Tryz.prog 221 := ⟨ty_plain_221⟩
instance : TSize Tryz.prog 221 1 := ⟨ty_size_221⟩
instance : TPlain Tryz.prog 222 := ⟨ty_plain_222⟩
instance : TSize Tryz.prog 222 1 := ⟨ty_size_222⟩
instance : TPlain Tryz.prog 223 := ⟨ty_plain_223⟩
instance : TSize Tryz.prog 223 1 := ⟨ty_size_223⟩
instance : TAgg Tryz.prog 224 := ⟨ty_agg_224⟩
instance : TSize Tryz.prog 224 256 := ⟨ty_size_224⟩
instance : TAgg Tryz.prog 225 := ⟨ty_agg_225⟩
instance : TBld Tryz.prog 225 ([(0, 1), (1, 1)], [.int .u8 0, .int .u8 0]) := ⟨ty_bld_225⟩
instance : TField Tryz.prog 225 0 0 0 := ⟨ty_field_225_0⟩
instance : TField Tryz.prog 225 1 1 0 := ⟨ty_field_225_1⟩
instance : TSize Tryz.prog 225 2 := ⟨ty_size_225⟩
instance : TAgg Tryz.prog 226 := ⟨ty_agg_226⟩
instance : TBld Tryz.prog 226 ([(0, 1), (1, 1)], [.int .u8 0, .int .u8 0]) := ⟨ty_bld_226⟩
instance : TField Tryz.prog 226 0 0 0 := ⟨ty_field_226_0⟩
instance : TField Tryz.prog 226 1 1 0 := ⟨ty_field_226_1⟩
instance : TSize Tryz.prog 226 2 := ⟨ty_size_226⟩
instance : TAgg Tryz.prog 227 := ⟨ty_agg_227⟩
instance : TSize Tryz.prog 227 32 := ⟨ty_size_227⟩
instance : TPlain Tryz.prog 228 := ⟨ty_plain_228⟩
instance : TSize Tryz.prog 228 1 := ⟨ty_size_228⟩
instance : TPlain Tryz.prog 229 := ⟨ty_plain_229⟩
instance : TSize Tryz.prog 229 1 := ⟨ty_size_229⟩
instance : TAgg Tryz.prog 230 := ⟨ty_agg_230⟩
instance : TBld Tryz.prog 230 ([(0, 1), (1, 1), (2, 1), (3, 1)], [.pointer none, .pointer none, .pointer none, .string ByteArray.empty]) := ⟨ty_bld_230⟩
instance : TField Tryz.prog 230 0 0 0 := ⟨ty_field_230_0⟩
instance : TField Tryz.prog 230 1 1 0 := ⟨ty_field_230_1⟩
instance : TField Tryz.prog 230 2 2 0 := ⟨ty_field_230_2⟩
instance : TField Tryz.prog 230 3 3 0 := ⟨ty_field_230_3⟩
instance : TSize Tryz.prog 230 4 := ⟨ty_size_230⟩
instance : TAgg Tryz.prog 231 := ⟨ty_agg_231⟩
instance : TBld Tryz.prog 231 ([(0, 1), (1, 1), (2, 1), (3, 1)], [.pointer none, .pointer none, .pointer none, .string ByteArray.empty]) := ⟨ty_bld_231⟩
instance : TField Tryz.prog 231 0 0 0 := ⟨ty_field_231_0⟩
instance : TField Tryz.prog 231 1 1 0 := ⟨ty_field_231_1⟩
instance : TField Tryz.prog 231 2 2 0 := ⟨ty_field_231_2⟩
instance : TField Tryz.prog 231 3 3 0 := ⟨ty_field_231_3⟩
instance : TSize Tryz.prog 231 4 := ⟨ty_size_231⟩
instance : TAgg Tryz.prog 232 := ⟨ty_agg_232⟩
instance : TSize Tryz.prog 232 0 := ⟨ty_size_232⟩
instance : TAgg Tryz.prog 233 := ⟨ty_agg_233⟩
instance : TBld Tryz.prog 233 ([(0, 0)], []) := ⟨ty_bld_233⟩
instance : TSize Tryz.prog 233 0 := ⟨ty_size_233⟩
instance : TAgg Tryz.prog 234 := ⟨ty_agg_234⟩
instance : TBld Tryz.prog 234 ([(0, 0)], []) := ⟨ty_bld_234⟩
instance : TSize Tryz.prog 234 0 := ⟨ty_size_234⟩
instance : TPlain Tryz.prog 235 := ⟨ty_plain_235⟩
instance : TSize Tryz.prog 235 1 := ⟨ty_size_235⟩
instance : TPlain Tryz.prog 236 := ⟨ty_plain_236⟩
instance : TSize Tryz.prog 236 1 := ⟨ty_size_236⟩
instance : TPlain Tryz.prog 237 := ⟨ty_plain_237⟩
instance : TSize Tryz.prog 237 1 := ⟨ty_size_237⟩
instance : TPlain Tryz.prog 238 := ⟨ty_plain_238⟩
instance : TSize Tryz.prog 238 1 := ⟨ty_size_238⟩
instance : TPlain Tryz.prog 239 := ⟨ty_plain_239⟩
instance : TSize Tryz.prog 239 1 := ⟨ty_size_239⟩
instance : TAgg Tryz.prog 240 := ⟨ty_agg_240⟩
instance : TBld Tryz.prog 240 ([(0, 1), (1, 1), (2, 1), (3, 1), (4, 1), (5, 1), (6, 1), (7, 1), (8, 1), (9, 1), (10, 1)], [.int .u64 0, .int .u64 0, .int .u32 0, .int .u8 0, .int .u8 0, .int .u8 0, .int .u8 0, .nilFunc, .pointer none, .int .i32 0, .int .i32 0]) := ⟨ty_bld_240⟩
instance : TField Tryz.prog 240 0 0 0 := ⟨ty_field_240_0⟩
instance : TField Tryz.prog 240 1 1 0 := ⟨ty_field_240_1⟩
instance : TField Tryz.prog 240 2 2 0 := ⟨ty_field_240_2⟩
instance : TField Tryz.prog 240 3 3 0 := ⟨ty_field_240_3⟩
instance : TField Tryz.prog 240 4 4 0 := ⟨ty_field_240_4⟩
instance : TField Tryz.prog 240 5 5 0 := ⟨ty_field_240_5⟩
instance : TField Tryz.prog 240 6 6 0 := ⟨ty_field_240_6⟩
instance : TField Tryz.prog 240 7 7 0 := ⟨ty_field_240_7⟩
instance : TField Tryz.prog 240 8 8 0 := ⟨ty_field_240_8⟩
instance : TField Tryz.prog 240 9 9 0 := ⟨ty_field_240_9⟩
instance : TField Tryz.prog 240 10 10 0 := ⟨ty_field_240_10⟩
instance : TSize Tryz.prog 240 11 := ⟨ty_size_240⟩
instance : TAgg Tryz.prog 241 := ⟨ty_agg_241⟩
instance : TBld Tryz.prog 241 ([(0, 1), (1, 1), (2, 1), (3, 1), (4, 1), (5, 1), (6, 1), (7, 1), (8, 1), (9, 1), (10, 1)], [.int .u64 0, .int .u64 0, .int .u32 0, .int .u8 0, .int .u8 0, .int .u8 0, .int .u8 0, .nilFunc, .pointer none, .int .i32 0, .int .i32 0]) := ⟨ty_bld_241⟩
instance : TField Tryz.prog 241 0 0 0 := ⟨ty_field_241_0⟩
instance : TField Tryz.prog 241 1 1 0 := ⟨ty_field_241_1⟩
instance : TField Tryz.prog 241 2 2 0 := ⟨ty_field_241_2⟩
instance : TField Tryz.prog 241 3 3 0 := ⟨ty_field_241_3⟩
instance : TField Tryz.prog 241 4 4 0 := ⟨ty_field_241_4⟩
instance : TField Tryz.prog 241 5 5 0 := ⟨ty_field_241_5⟩
instance : TField Tryz.prog 241 6 6 0 := ⟨ty_field_241_6⟩
instance : TField Tryz.prog 241 7 7 0 := ⟨ty_field_241_7⟩
instance : TField Tryz.prog 241 8 8 0 := ⟨ty_field_241_8⟩
instance : TField Tryz.prog 241 9 9 0 := ⟨ty_field_241_9⟩
instance : TField Tryz.prog 241 10 10 0 := ⟨ty_field_241_10⟩
instance : TSize Tryz.prog 241 11 := ⟨ty_size_241⟩
instance : TPlain Tryz.prog 242 := ⟨ty_plain_242⟩
instance : TSize Tryz.prog 242 1 := ⟨ty_size_242⟩
instance : TPlain Tryz.prog 243 := ⟨ty_plain_243⟩
instance : TSize Tryz.prog 243 1 := ⟨ty_size_243⟩
instance : TAgg Tryz.prog 244 := ⟨ty_agg_244⟩
instance : TBld Tryz.prog 244 ([(0, 1), (1, 1)], [.string ByteArray.empty, .int .u8 0]) := ⟨ty_bld_244⟩
instance : TField Tryz.prog 244 0 0 0 := ⟨ty_field_244_0⟩
instance : TField Tryz.prog 244 1 1 0 := ⟨ty_field_244_1⟩
instance : TSize Tryz.prog 244 2 := ⟨ty_size_244⟩
instance : TAgg Tryz.prog 245 := ⟨ty_agg_245⟩
instance : TBld Tryz.prog 245 ([(0, 1), (1, 1)], [.string ByteArray.empty, .int .u8 0]) := ⟨ty_bld_245⟩
instance : TField Tryz.prog 245 0 0 0 := ⟨ty_field_245_0⟩
instance : TField Tryz.prog 245 1 1 0 := ⟨ty_field_245_1⟩
instance : TSize Tryz.prog 245 2 := ⟨ty_size_245⟩
instance : TPlain Tryz.prog 246 := ⟨ty_plain_246⟩
instance : TSize Tryz.prog 246 1 := ⟨ty_size_246⟩
instance : TPlain Tryz.prog 247 := ⟨ty_plain_247⟩
instance : TSize Tryz.prog 247 1 := ⟨ty_size_247⟩
instance : TPlain Tryz.prog 248 := ⟨ty_plain_248⟩
instance : TSize Tryz.prog 248 1 := ⟨ty_size_248⟩
instance : TAgg Tryz.prog 249 := ⟨ty_agg_249⟩
instance : TBld Tryz.prog 249 ([(0, 1), (1, 1), (2, 1), (3, 1), (4, 1)], [.int .i32 0, .int .u16 0, .int .u16 0, .int .u32 0, .int .u32 0]) := ⟨ty_bld_249⟩
instance : TField Tryz.prog 249 0 0 0 := ⟨ty_field_249_0⟩
instance : TField Tryz.prog 249 1 1 0 := ⟨ty_field_249_1⟩
instance : TField Tryz.prog 249 2 2 0 := ⟨ty_field_249_2⟩
instance : TField Tryz.prog 249 3 3 0 := ⟨ty_field_249_3⟩
instance : TField Tryz.prog 249 4 4 0 := ⟨ty_field_249_4⟩
instance : TSize Tryz.prog 249 5 := ⟨ty_size_249⟩
instance : TAgg Tryz.prog 250 := ⟨ty_agg_250⟩
instance : TBld Tryz.prog 250 ([(0, 1), (1, 1), (2, 1), (3, 1), (4, 1)], [.int .i32 0, .int .u16 0, .int .u16 0, .int .u32 0, .int .u32 0]) := ⟨ty_bld_250⟩
instance : TField Tryz.prog 250 0 0 0 := ⟨ty_field_250_0⟩
instance : TField Tryz.prog 250 1 1 0 := ⟨ty_field_250_1⟩
instance : TField Tryz.prog 250 2 2 0 := ⟨ty_field_250_2⟩
instance : TField Tryz.prog 250 3 3 0 := ⟨ty_field_250_3⟩
instance : TField Tryz.prog 250 4 4 0 := ⟨ty_field_250_4⟩
instance : TSize Tryz.prog 250 5 := ⟨ty_size_250⟩
instance : TPlain Tryz.prog 251 := ⟨ty_plain_251⟩
instance : TSize Tryz.prog 251 1 := ⟨ty_size_251⟩
instance : TPlain Tryz.prog 252 := ⟨ty_plain_252⟩
instance : TSize Tryz.prog 252 1 := ⟨ty_size_252⟩
instance : TAgg Tryz.prog 253 := ⟨ty_agg_253⟩
instance : TBld Tryz.prog 253 ([(0, 1), (1, 1), (2, 1), (3, 1)], [.int .i32 0, .int .i32 0, .int .i32 0, .int .i32 0]) := ⟨ty_bld_253⟩
instance : TField Tryz.prog 253 0 0 0 := ⟨ty_field_253_0⟩
instance : TField Tryz.prog 253 1 1 0 := ⟨ty_field_253_1⟩
instance : TField Tryz.prog 253 2 2 0 := ⟨ty_field_253_2⟩
instance : TField Tryz.prog 253 3 3 0 := ⟨ty_field_253_3⟩
instance : TSize Tryz.prog 253 4 := ⟨ty_size_253⟩
instance : TAgg Tryz.prog 254 := ⟨ty_agg_254⟩
instance : TBld Tryz.prog 254 ([(0, 1), (1, 1), (2, 1), (3, 1)], [.int .i32 0, .int .i32 0, .int .i32 0, .int .i32 0]) := ⟨ty_bld_254⟩
instance : TField Tryz.prog 254 0 0 0 := ⟨ty_field_254_0⟩
instance : TField Tryz.prog 254 1 1 0 := ⟨ty_field_254_1⟩
instance : TField Tryz.prog 254 2 2 0 := ⟨ty_field_254_2⟩
instance : TField Tryz.prog 254 3 3 0 := ⟨ty_field_254_3⟩
instance : TSize Tryz.prog 254 4 := ⟨ty_size_254⟩
instance : TPlain Tryz.prog 255 := ⟨ty_plain_255⟩
instance : TSize Tryz.prog 255 1 := ⟨ty_size_255⟩
instance : TGo Tryz.prog 3 := ⟨go_3⟩
instance : TGo Tryz.prog 4 := ⟨go_4⟩
instance : TGo Tryz.prog 5 := ⟨go_5⟩
instance : TGo Tryz.prog 6 := ⟨go_6⟩
instance : TGo Tryz.prog 7 := ⟨go_7⟩
instance : TGo Tryz.prog 8 := ⟨go_8⟩
instance : TGo Tryz.prog 9 := ⟨go_9⟩
instance : TGo Tryz.prog 10 := ⟨go_10⟩
instance : TGo Tryz.prog 11 := ⟨go_11⟩
instance : TGo Tryz.prog 12 := ⟨go_12⟩
instance : TGo Tryz.prog 13 := ⟨go_13⟩
instance : TGo Tryz.prog 14 := ⟨go_14⟩
instance : TGo Tryz.prog 15 := ⟨go_15⟩
instance : TGo Tryz.prog 16 := ⟨go_16⟩
instance : TGo Tryz.prog 17 := ⟨go_17⟩
instance : TGo Tryz.prog 18 := ⟨go_18⟩
instance : TGo Tryz.prog 19 := ⟨go_19⟩
instance : TGo Tryz.prog 20 := ⟨go_20⟩
instance : TGo Tryz.prog 21 := ⟨go_21⟩
instance : TGo Tryz.prog 22 := ⟨go_22⟩
instance : TGo Tryz.prog 23 := ⟨go_23⟩
instance : TGo Tryz.prog 24 := ⟨go_24⟩
instance : TGo Tryz.prog 25 := ⟨go_25⟩
instance : TGo Tryz.prog 26 := ⟨go_26⟩
instance : TGo Tryz.prog 27 := ⟨go_27⟩
instance : TGo Tryz.prog 28 := ⟨go_28⟩
instance : TGo Tryz.prog 29 := ⟨go_29⟩
instance : TGo Tryz.prog 30 := ⟨go_30⟩
instance : TGo Tryz.prog 31 := ⟨go_31⟩
instance : TGo Tryz.prog 32 := ⟨go_32⟩
instance : TGo Tryz.prog 33 := ⟨go_33⟩
instance : TGo Tryz.prog 34 := ⟨go_34⟩
instance : TGo Tryz.prog 35 := ⟨go_35⟩
instance : TGo Tryz.prog 36 := ⟨go_36⟩
instance : TGo Tryz.prog 37 := ⟨go_37⟩
instance : TGo Tryz.prog 38 := ⟨go_38⟩
instance : TGo Tryz.prog 39 := ⟨go_39⟩
instance : TGo Tryz.prog 40 := ⟨go_40⟩
instance : TGo Tryz.prog 41 := ⟨go_41⟩
instance : TGo Tryz.prog 42 := ⟨go_42⟩
instance : TGo Tryz.prog 43 := ⟨go_43⟩
instance : TGo Tryz.prog 44 := ⟨go_44⟩
instance : TGo Tryz.prog 45 := ⟨go_45⟩
instance : TGo Tryz.prog 46 := ⟨go_46⟩
instance : TGo Tryz.prog 47 := ⟨go_47⟩
instance : TGo Tryz.prog 48 := ⟨go_48⟩
instance : TGo Tryz.prog 49 := ⟨go_49⟩
instance : TGo Tryz.prog 50 := ⟨go_50⟩
instance : TGo Tryz.prog 51 := ⟨go_51⟩
instance : TGo Tryz.prog 52 := ⟨go_52⟩
instance : TGo Tryz.prog 53 := ⟨go_53⟩
instance : TGo Tryz.prog 54 := ⟨go_54⟩
instance : TGo Tryz.prog 55 := ⟨go_55⟩
instance : TGo Tryz.prog 56 := ⟨go_56⟩
instance : TGo Tryz.prog 57 := ⟨go_57⟩
instance : TGo Tryz.prog 58 := ⟨go_58⟩
instance : TGo Tryz.prog 59 := ⟨go_59⟩
instance : TGo Tryz.prog 60 := ⟨go_60⟩
instance : TGo Tryz.prog 61 := ⟨go_61⟩
instance : TGo Tryz.prog 62 := ⟨go_62⟩
instance : TGo Tryz.prog 63 := ⟨go_63⟩
instance : TGo Tryz.prog 64 := ⟨go_64⟩
instance : TGo Tryz.prog 65 := ⟨go_65⟩
instance : TGo Tryz.prog 66 := ⟨go_66⟩
instance : TGo Tryz.prog 67 := ⟨go_67⟩
instance : TGo Tryz.prog 68 := ⟨go_68⟩
instance : TGo Tryz.prog 69 := ⟨go_69⟩
instance : TGo Tryz.prog 70 := ⟨go_70⟩
instance : TGo Tryz.prog 71 := ⟨go_71⟩
instance : TGo Tryz.prog 72 := ⟨go_72⟩
instance : TGo Tryz.prog 73 := ⟨go_73⟩
instance : TGo Tryz.prog 74 := ⟨go_74⟩
instance : TGo Tryz.prog 75 := ⟨go_75⟩
instance : TGo Tryz.prog 76 := ⟨go_76⟩
instance : TGo Tryz.prog 77 := ⟨go_77⟩
instance : TGo Tryz.prog 78 := ⟨go_78⟩
instance : TGo Tryz.prog 79 := ⟨go_79⟩
instance : TGo Tryz.prog 80 := ⟨go_80⟩
instance : TGo Tryz.prog 81 := ⟨go_81⟩
instance : TGo Tryz.prog 82 := ⟨go_82⟩
instance : TGo Tryz.prog 83 := ⟨go_83⟩
instance : TGo Tryz.prog 84 := ⟨go_84⟩
instance : TGo Tryz.prog 85 := ⟨go_85⟩
instance : TGo Tryz.prog 86 := ⟨go_86⟩
instance : TGo Tryz.prog 87 := ⟨go_87⟩
instance : TGo Tryz.prog 88 := ⟨go_88⟩
instance : TGo Tryz.prog 89 := ⟨go_89⟩
instance : TGo Tryz.prog 90 := ⟨go_90⟩
instance : TGo Tryz.prog 91 := ⟨go_91⟩
instance : TGo Tryz.prog 92 := ⟨go_92⟩
instance : TGo Tryz.prog 93 := ⟨go_93⟩
instance : TGo Tryz.prog 94 := ⟨go_94⟩
instance : TGo Tryz.prog 95 := ⟨go_95⟩
instance : TGo Tryz.prog 96 := ⟨go_96⟩
instance : TGo Tryz.prog 97 := ⟨go_97⟩
instance : TGo Tryz.prog 98 := ⟨go_98⟩
instance : TGo Tryz.prog 99 := ⟨go_99⟩
instance : TGo Tryz.prog 100 := ⟨go_100⟩
instance : TGo Tryz.prog 101 := ⟨go_101⟩
instance : TGo Tryz.prog 102 := ⟨go_102⟩
instance : TGo Tryz.prog 103 := ⟨go_103⟩
instance : TGo Tryz.prog 104 := ⟨go_104⟩
instance : TGo Tryz.prog 105 := ⟨go_105⟩
instance : TGo Tryz.prog 106 := ⟨go_106⟩
instance : TGo Tryz.prog 107 := ⟨go_107⟩
instance : TGo Tryz.prog 108 := ⟨go_108⟩
instance : TGo Tryz.prog 109 := ⟨go_109⟩
instance : TGo Tryz.prog 110 := ⟨go_110⟩
instance : TGo Tryz.prog 111 := ⟨go_111⟩
instance : TGo Tryz.prog 112 := ⟨go_112⟩
instance : TGo Tryz.prog 113 := ⟨go_113⟩
instance : TGo Tryz.prog 114 := ⟨go_114⟩
instance : TGo Tryz.prog 115 := ⟨go_115⟩
instance : TGo Tryz.prog 116 := ⟨go_116⟩
instance : TGo Tryz.prog 117 := ⟨go_117⟩
instance : TGo Tryz.prog 118 := ⟨go_118⟩
instance : TGo Tryz.prog 119 := ⟨go_119⟩
instance : TGo Tryz.prog 120 := ⟨go_120⟩
instance : TGo Tryz.prog 121 := ⟨go_121⟩
instance : TGo Tryz.prog 122 := ⟨go_122⟩
instance : TGo Tryz.prog 123 := ⟨go_123⟩
instance : TGo Tryz.prog 124 := ⟨go_124⟩
instance : TGo Tryz.prog 125 := ⟨go_125⟩
instance : TGo Tryz.prog 126 := ⟨go_126⟩
instance : TGo Tryz.prog 127 := ⟨go_127⟩
instance : TGo Tryz.prog 131 := ⟨go_131⟩
instance : TGo Tryz.prog 132 := ⟨go_132⟩
instance : TGo Tryz.prog 133 := ⟨go_133⟩
instance : TGo Tryz.prog 134 := ⟨go_134⟩
instance : TGo Tryz.prog 136 := ⟨go_136⟩
instance : TGo Tryz.prog 137 := ⟨go_137⟩
instance : TGo Tryz.prog 138 := ⟨go_138⟩
instance : TGo Tryz.prog 139 := ⟨go_139⟩
instance : TGo Tryz.prog 140 := ⟨go_140⟩
instance : TGo Tryz.prog 141 := ⟨go_141⟩
instance : TGo Tryz.prog 142 := ⟨go_142⟩
instance : TGo Tryz.prog 143 := ⟨go_143⟩
instance : TGo Tryz.prog 144 := ⟨go_144⟩
instance : TGo Tryz.prog 145 := ⟨go_145⟩
instance : TGo Tryz.prog 146 := ⟨go_146⟩
instance : TGo Tryz.prog 147 := ⟨go_147⟩
instance : TGo Tryz.prog 148 := ⟨go_148⟩
instance : TGo Tryz.prog 149 := ⟨go_149⟩
instance : TGo Tryz.prog 150 := ⟨go_150⟩
instance : TGo Tryz.prog 151 := ⟨go_151⟩
instance : TGo Tryz.prog 152 := ⟨go_152⟩
instance : TGo Tryz.prog 153 := ⟨go_153⟩
instance : TGo Tryz.prog 154 := ⟨go_154⟩
instance : TGo Tryz.prog 155 := ⟨go_155⟩
instance : TGo Tryz.prog 156 := ⟨go_156⟩
instance : TGo Tryz.prog 157 := ⟨go_157⟩
instance : TGo Tryz.prog 158 := ⟨go_158⟩
instance : TGo Tryz.prog 159 := ⟨go_159⟩
instance : TGo Tryz.prog 160 := ⟨go_160⟩
instance : TGo Tryz.prog 161 := ⟨go_161⟩
instance : TGo Tryz.prog 162 := ⟨go_162⟩
instance : TGo Tryz.prog 163 := ⟨go_163⟩
instance : TGo Tryz.prog 167 := ⟨go_167⟩
instance : TGo Tryz.prog 168 := ⟨go_168⟩
instance : TGo Tryz.prog 169 := ⟨go_169⟩
instance : TGo Tryz.prog 171 := ⟨go_171⟩
instance : TGo Tryz.prog 172 := ⟨go_172⟩
instance : TGo Tryz.prog 173 := ⟨go_173⟩
instance : TGo Tryz.prog 174 := ⟨go_174⟩
instance : TGo Tryz.prog 175 := ⟨go_175⟩
instance : TGo Tryz.prog 176 := ⟨go_176⟩
instance : TGo Tryz.prog 177 := ⟨go_177⟩
instance : TGo Tryz.prog 178 := ⟨go_178⟩
instance : TGo Tryz.prog 179 := ⟨go_179⟩
instance : TGo Tryz.prog 180 := ⟨go_180⟩
instance : TGo Tryz.prog 181 := ⟨go_181⟩
instance : TGo Tryz.prog 183 := ⟨go_183⟩
instance : TGo Tryz.prog 184 := ⟨go_184⟩
instance : TGo Tryz.prog 185 := ⟨go_185⟩
instance : TGo Tryz.prog 186 := ⟨go_186⟩
instance : TGo Tryz.prog 187 := ⟨go_187⟩
instance : TGo Tryz.prog 188 := ⟨go_188⟩
instance : TGo Tryz.prog 189 := ⟨go_189⟩
instance : TGo Tryz.prog 191 := ⟨go_191⟩
instance : TGo Tryz.prog 213 := ⟨go_213⟩
instance : TUnd Tryz.prog 2 (.int .i64) := ⟨Tryz.underlying2⟩
instance : TUnd Tryz.prog 3 (.int .i64) := ⟨Tryz.underlying3⟩
instance : TUnd Tryz.prog 4 (.bool) := ⟨Tryz.underlying4⟩
instance : TUnd Tryz.prog 5 (.int .u8) := ⟨Tryz.underlying5⟩
instance : TUnd Tryz.prog 6 (.int .u8) := ⟨Tryz.underlying6⟩
instance : TUnd Tryz.prog 9 (.string) := ⟨Tryz.underlying9⟩
instance : TUnd Tryz.prog 10 (.string) := ⟨Tryz.underlying10⟩
instance : TUnd Tryz.prog 11 (.string) := ⟨Tryz.underlying11⟩
instance : TUnd Tryz.prog 12 (.int .u64) := ⟨Tryz.underlying12⟩
instance : TUnd Tryz.prog 21 (.int .i32) := ⟨Tryz.underlying21⟩
instance : TUnd Tryz.prog 22 (.slice 81) := ⟨Tryz.underlying22⟩
instance : TUnd Tryz.prog 23 (.slice 83) := ⟨Tryz.underlying23⟩
instance : TUnd Tryz.prog 26 (.slice 69) := ⟨Tryz.underlying26⟩
instance : TUnd Tryz.prog 27 (.int .u64) := ⟨Tryz.underlying27⟩
instance : TUnd Tryz.prog 29 (.int .i64) := ⟨Tryz.underlying29⟩
instance : TUnd Tryz.prog 48 (.slice 4) := ⟨Tryz.underlying48⟩
instance : TUnd Tryz.prog 52 (.int .u8) := ⟨Tryz.underlying52⟩
instance : TUnd Tryz.prog 53 (.int .u32) := ⟨Tryz.underlying53⟩
instance : TUnd Tryz.prog 61 (.slice 5) := ⟨Tryz.underlying61⟩
instance : TUnd Tryz.prog 69 (.slice 27) := ⟨Tryz.underlying69⟩
instance : TUnd Tryz.prog 105 (.array 5 5) := ⟨Tryz.underlying105⟩
instance : TUnd Tryz.prog 147 (.int .u64) := ⟨Tryz.underlying147⟩
instance : TUnd Tryz.prog 149 (.slice 9) := ⟨Tryz.underlying149⟩
instance : TUnd Tryz.prog 162 (.int .u64) := ⟨Tryz.underlying162⟩
instance : TUnd Tryz.prog 169 (.int .u8) := ⟨Tryz.underlying169⟩
instance : TUnd Tryz.prog 190 (.array 256 4) := ⟨Tryz.underlying190⟩
instance : TUnd Tryz.prog 191 (.array 256 4) := ⟨Tryz.underlying191⟩
instance : TUnd Tryz.prog 208 (.slice 72) := ⟨Tryz.underlying208⟩
instance : TUnd Tryz.prog 224 (.array 256 5) := ⟨Tryz.underlying224⟩
instance : TUnd Tryz.prog 227 (.array 16 226) := ⟨Tryz.underlying227⟩
instance : TUnd Tryz.prog 232 (.array 0 16) := ⟨Tryz.underlying232⟩
instance : TUnd Tryz.prog 236 (.int .u8) := ⟨Tryz.underlying236⟩
instance : TUnd Tryz.prog 238 (.int .i32) := ⟨Tryz.underlying238⟩
instance : TUnd Tryz.prog 239 (.int .i32) := ⟨Tryz.underlying239⟩
instance : TUnd Tryz.prog 248 (.int .u16) := ⟨Tryz.underlying248⟩
instance : TUnd Tryz.prog 251 (.slice 254) := ⟨Tryz.underlying251⟩
instance : TUnd Tryz.prog 252 (.int .i32) := ⟨Tryz.underlying252⟩
end Mv
end Go.Proofs.YtceikpipmcadmaaGreatDoor
namespace Go.Proofs.YtceikpipmcadmaaGreatDoor
open Go.RowKit
open Mv Disk
set_option maxRecDepth 4000
def strs (s : ByteArray) : List Value := [.string s]
def cmpI (a b : ByteArray) : Int := if a = b then 0 else if lt a b = true then -1 else 1
theorem lt_def (a b : ByteArray) : Op.bytesLess a.data.toList b.data.toList = lt a b := rfl
theorem size0 (s : ByteArray) : (s = ByteArray.empty) ↔ s.size = 0 := ⟨fun h => by rw [h]; rfl, fun h => by
 apply str_ext
 have:=size_data s
 rw [h] at this
 rw [List.eq_nil_of_length_eq_zero this];rfl⟩
def bad (s : ByteArray) : Bool := decide (s.size = 0 ∨ 16 < s.size)
theorem bad_iff {s : ByteArray} : bad s = true ↔ ¬ nm s := by unfold bad nm; rw [decide_eq_true_eq]; omega
theorem bad_no {s : ByteArray} : bad s = false ↔ nm s := by unfold bad nm; rw [decide_eq_false_iff_not]; omega
theorem disk_named1 (s : ByteArray) (S : Mem) : ACall Tryz.prog 169 #[.string s] S fun r S' => r = .bool (bad s) ∧ S' = S := by
 by_cases h0:s.size=0
 ·have e:(decide (s=ByteArray.empty))=true:=decide_eq_true ((size0 s).2 h0)
  refine ACall.enter (rs:=[.tmp 2]) 10 [(0,.string s)] Tryz.func169 rfl rfl (Nat.le_of_ble_eq_true rfl) rfl ⟨rfl,trivial⟩ ?_
  iterate 8 refine s1_ ?_
  refine rC (Calm.bin rfl rfl (bin_bool (bin_str_eql _ _) e)) ?_
  iterate 8 refine s1_ ?_
  refine su_ [(0,_),(2,_)] ?_
  refine s1_ ?_
  refine ⟨_,S,⟨_,_,rfl,rfl,rfl⟩,less_,?_⟩
  exact ⟨by rw [show bad s=true from decide_eq_true (.inl h0)];rfl,rfl⟩
 ·have e:(decide (s=ByteArray.empty))=false:=decide_eq_false (fun h=>h0 ((size0 s).1 h))
  refine ACall.enter (rs:=[.tmp 2]) 10 [(0,.string s)] Tryz.func169 rfl rfl (Nat.le_of_ble_eq_true rfl) rfl ⟨rfl,trivial⟩ ?_
  iterate 8 refine s1_ ?_
  refine rC (Calm.bin rfl rfl (bin_bool (bin_str_eql _ _) e)) ?_
  iterate 8 refine s1_ ?_
  refine su_ [(0,_),(2,_)] ?_
  refine s1_ ?_
  refine ⟨_,S,⟨_,_,rfl,rfl,rfl⟩,less_,?_⟩
  exact ⟨congrArg Value.bool (decide_eq_decide.2 (by omega)),rfl⟩
theorem disk_index (v : Value) (l : List ByteArray) (S : Mem) (hl : Sl 1 strs S v l) :
  ACall Tryz.prog 180 #[v,.func (.func 169) #[] #[]] S fun r S'=>(∃ n:Int,r = .int .i64 n∧(0≤n ↔ ∃ s ∈ l,¬ nm s))∧S'=S:=by
 obtain ⟨a,cap,rfl,h1,h2,h3⟩:=id hl
 refine ACall.enter (rs:=[.tmp 4]) 19 [(0,.slice a l.length cap),(1,.func (.func 169) #[] #[])] Tryz.func180 rfl rfl (Nat.le_of_ble_eq_true rfl) rfl ⟨rfl,rfl,trivial⟩ ?_
 iterate 13 refine s1_ ?_
 refine su_ [(0,_),(1,_),(4,_),(7,_),(8,_)] ?_
 refine s1_ ?_
 refine AWP.loop (X:=Nat) (fun x=>[(0,.slice a l.length cap),(1,.func (.func 169) #[] #[]),(7,.int .i64 l.length),(8,.int .i64 x)]) (fun x=>S) (fun x=>x≤l.length ∧ ∀ j (h:j<l.length),j<x→nm l[j]) (fun x=>l.length-x) (0) ⟨rfl,rfl,rfl,rfl,trivial⟩ (Mem.Less.refl _) (⟨Nat.zero_le _,fun j _ h=>absurd h (Nat.not_lt_zero _)⟩) ?_
 rintro i ⟨hi,hall⟩
 (try dsimp only at *)
 iterate 6 refine s1_ ?_
 refine AWP.condB rfl (fun hc=>?_) (fun hc=>?_)
 ·have hc:i<l.length:=by have:=of_decide_eq_true hc;omega
  obtain ⟨b,off,rfl,hk⟩:=h3.resolve_left (fun e=>by subst e;simp at hc)
  have hki:=hk i hc
  unfold strs at hki
  iterate 10 refine s1_ ?_
  refine su_ [(0,_),(1,_),(7,_),(8,_),(9,_),(5,_)] ?_
  iterate 7 refine s1_ ?_
  refine ARun.callV (lit_lt rfl) go_169 rfl rfl (disk_named1 l[i] _) ?_
  rintro _ S1 ⟨rfl,h1⟩
  rw [h1];clear h1 S1
  iterate 2 refine s1_ ?_
  refine su_ [(0,_),(1,_),(7,_),(8,_),(9,_),(5,_),(16,_)] ?_
  refine AWP.condB rfl (fun hb=>?_) (fun hb=>?_)
  ·iterate 6 refine s1_ ?_
   refine su_ [(0,_),(1,_),(7,_),(8,_),(9,_),(5,_),(16,_),(4,_)] ?_
   iterate 6 refine s1_ ?_
   refine ⟨_,S,⟨_,_,rfl,rfl,rfl⟩,less_,?_⟩
   exact ⟨⟨i,rfl,by constructor;exact fun _=>⟨_,List.getElem_mem hc,bad_iff.1 hb⟩;omega⟩,rfl⟩
  ·iterate 8 refine s1_ ?_
   refine ⟨i+1,?_,?_,?_,?_⟩
   all_goals (try dsimp only)
   ·exact ⟨rfl,rfl,rfl,rfl,trivial⟩
   ·exact less_
   ·exact ⟨hc,fun j h hj=>by rcases Nat.lt_or_ge j i with h' | h';exact hall j h h';obtain rfl:j=i:=(by omega);exact bad_no.1 hb⟩
   ·omega
 ·have hc:i=l.length:=by have:=of_decide_eq_false hc;omega
  iterate 11 refine s1_ ?_
  refine ⟨_,S,⟨_,_,rfl,rfl,rfl⟩,less_,?_⟩
  exact ⟨⟨-1,rfl,by constructor;omega;rintro ⟨s,hs,hn⟩;obtain ⟨j,hj,rfl⟩:=List.getElem_of_mem hs;exact absurd (hall j hj (by omega)) hn⟩,rfl⟩
theorem disk_contains (v : Value) (l : List ByteArray) (S : Mem) (hl : Sl 1 strs S v l) :
  ACall Tryz.prog 168 #[v,.func (.func 169) #[] #[]] S fun r S'=>(∃ t:Bool,r = .bool t∧(t=true ↔ ∃ s ∈ l,¬ nm s))∧S'=S:=by
 refine ACall.enter (rs:=[.tmp 4]) 9 [(0,v),(1,.func (.func 169) #[] #[])] Tryz.func168 rfl rfl (Nat.le_of_ble_eq_true rfl) rfl ⟨rfl,rfl,trivial⟩ ?_
 iterate 9 refine s1_ ?_
 refine ca_ rfl (disk_index v l _ hl) ?_
 rintro _ S1 ⟨⟨n,rfl,hn⟩,h1⟩
 rw [h1];clear h1 S1
 iterate 4 refine s1_ ?_
 refine su_ [(0,_),(1,_),(4,_)] ?_
 refine s1_ ?_
 refine ⟨_,S,⟨_,_,rfl,rfl,rfl⟩,less_,?_⟩
 exact ⟨⟨decide (0≤n),rfl,by rw [decide_eq_true_eq];exact hn⟩,rfl⟩
theorem disk_named (v : Value) (l : List ByteArray) (S : Mem) (hl : Sl 1 strs S v l) :
  ACall Tryz.prog 136 #[v] S fun r S'=>(∃ t:Bool,r = .bool t∧(t=true ↔ ∀ s ∈ l,nm s))∧S'=S:=by
 refine ACall.enter (rs:=[.tmp 2]) 6 [(0,v)] Tryz.func136 rfl rfl (Nat.le_of_ble_eq_true rfl) rfl ⟨rfl,trivial⟩ ?_
 iterate 8 refine s1_ ?_
 refine ca_ rfl (disk_contains v l _ hl) ?_
 rintro _ S1 ⟨⟨t,rfl,ht⟩,h1⟩
 rw [h1];clear h1 S1
 iterate 4 refine s1_ ?_
 refine su_ [(0,_),(2,_)] ?_
 refine s1_ ?_
 refine ⟨_,S,⟨_,_,rfl,rfl,rfl⟩,less_,?_⟩
 exact ⟨⟨!t,rfl,by cases t <;> simp at ht ⊢ <;> exact ht⟩,rfl⟩
theorem disk_nan (s : ByteArray) (S : Mem) : ACall Tryz.prog 172 #[.string s] S fun r S' => r = .bool false ∧ S' = S := by
 refine ACall.enter (rs:=[.tmp 2]) 6 [(0,.string s)] Tryz.func172 rfl rfl (Nat.le_of_ble_eq_true rfl) rfl ⟨rfl,trivial⟩ ?_
 iterate 9 refine s1_ ?_
 refine rC (Calm.bin rfl rfl (bin_bool (bin_str_neq _ _) (bnot_dec_false rfl))) ?_
 iterate 3 refine s1_ ?_
 refine su_ [(0,_),(2,_)] ?_
 refine s1_ ?_
 refine ⟨_,S,⟨_,_,rfl,rfl,rfl⟩,less_,?_⟩
 exact ⟨rfl,rfl⟩
theorem disk_compare (a b : ByteArray) (S : Mem) : ACall Tryz.prog 150 #[.string a, .string b] S fun r S' => r = .int .i64 (cmpI a b) ∧ S' = S := by
 unfold cmpI
 by_cases e:a=b
 ·subst e
  rw [if_pos rfl]
  refine ACall.enter (rs:=[.tmp 4]) 20 [(0,.string a),(1,.string a)] Tryz.func150 rfl rfl (Nat.le_of_ble_eq_true rfl) rfl ⟨rfl,rfl,trivial⟩ ?_
  iterate 8 refine s1_ ?_
  refine ca_ rfl (disk_nan a _) ?_
  rintro _ S1 ⟨rfl,h1⟩
  rw [h1];clear h1 S1
  iterate 3 refine s1_ ?_
  refine su_ [(0,_),(1,_),(4,_),(5,_)] ?_
  iterate 3 refine s1_ ?_
  refine ca_ rfl (disk_nan a _) ?_
  rintro _ S1 ⟨rfl,h1⟩
  rw [h1];clear h1 S1
  iterate 3 refine s1_ ?_
  refine su_ [(0,_),(1,_),(4,_),(5,_),(6,_)] ?_
  iterate 6 refine s1_ ?_
  refine cF_ ?_
  iterate 8 refine s1_ ?_
  refine cF_ ?_
  iterate 7 refine s1_ ?_
  refine rC (Calm.bin rfl rfl (bin_bool (bin_str_lss _ _) (lt_irrefl a))) ?_
  iterate 2 refine s1_ ?_
  refine su_ [(0,_),(1,_),(4,_),(5,_),(6,_),(11,_),(13,_),(16,_)] ?_
  refine cF_ ?_
  iterate 7 refine s1_ ?_
  refine rC (Calm.bin rfl rfl (bin_bool (bin_str_gtr _ _) (by rw [lt_def,lt_irrefl,decide_eq_true rfl];first | done | rfl))) ?_
  iterate 2 refine s1_ ?_
  refine su_ [(0,_),(1,_),(4,_),(5,_),(6,_),(11,_),(13,_),(16,_),(19,_)] ?_
  refine cF_ ?_
  iterate 8 refine s1_ ?_
  refine ⟨_,S,⟨_,_,rfl,rfl,rfl⟩,less_,?_⟩
  exact ⟨rfl,rfl⟩
 ·rw [if_neg e]
  by_cases h:lt a b=true
  ·rw [if_pos h]
   refine ACall.enter (rs:=[.tmp 4]) 20 [(0,.string a),(1,.string b)] Tryz.func150 rfl rfl (Nat.le_of_ble_eq_true rfl) rfl ⟨rfl,rfl,trivial⟩ ?_
   iterate 8 refine s1_ ?_
   refine ca_ rfl (disk_nan a _) ?_
   rintro _ S1 ⟨rfl,h1⟩
   rw [h1];clear h1 S1
   iterate 3 refine s1_ ?_
   refine su_ [(0,_),(1,_),(4,_),(5,_)] ?_
   iterate 3 refine s1_ ?_
   refine ca_ rfl (disk_nan b _) ?_
   rintro _ S1 ⟨rfl,h1⟩
   rw [h1];clear h1 S1
   iterate 3 refine s1_ ?_
   refine su_ [(0,_),(1,_),(4,_),(5,_),(6,_)] ?_
   iterate 6 refine s1_ ?_
   refine cF_ ?_
   iterate 8 refine s1_ ?_
   refine cF_ ?_
   iterate 7 refine s1_ ?_
   refine rC (Calm.bin rfl rfl (bin_bool (bin_str_lss _ _) h)) ?_
   iterate 2 refine s1_ ?_
   refine su_ [(0,_),(1,_),(4,_),(5,_),(6,_),(11,_),(13,_),(16,_)] ?_
   refine cT_ ?_
   iterate 7 refine s1_ ?_
   refine ⟨_,S,⟨_,_,rfl,rfl,rfl⟩,less_,?_⟩
   exact ⟨rfl,rfl⟩
  ·have h':lt a b=false:=by simpa using h
   rw [if_neg h]
   refine ACall.enter (rs:=[.tmp 4]) 20 [(0,.string a),(1,.string b)] Tryz.func150 rfl rfl (Nat.le_of_ble_eq_true rfl) rfl ⟨rfl,rfl,trivial⟩ ?_
   iterate 8 refine s1_ ?_
   refine ca_ rfl (disk_nan a _) ?_
   rintro _ S1 ⟨rfl,h1⟩
   rw [h1];clear h1 S1
   iterate 3 refine s1_ ?_
   refine su_ [(0,_),(1,_),(4,_),(5,_)] ?_
   iterate 3 refine s1_ ?_
   refine ca_ rfl (disk_nan b _) ?_
   rintro _ S1 ⟨rfl,h1⟩
   rw [h1];clear h1 S1
   iterate 3 refine s1_ ?_
   refine su_ [(0,_),(1,_),(4,_),(5,_),(6,_)] ?_
   iterate 6 refine s1_ ?_
   refine cF_ ?_
   iterate 8 refine s1_ ?_
   refine cF_ ?_
   iterate 7 refine s1_ ?_
   refine rC (Calm.bin rfl rfl (bin_bool (bin_str_lss _ _) h')) ?_
   iterate 2 refine s1_ ?_
   refine su_ [(0,_),(1,_),(4,_),(5,_),(6,_),(11,_),(13,_),(16,_)] ?_
   refine cF_ ?_
   iterate 7 refine s1_ ?_
   refine rC (Calm.bin rfl rfl (bin_bool (bin_str_gtr _ _) (by rw [lt_def,h',decide_eq_false e];first | done | rfl))) ?_
   iterate 2 refine s1_ ?_
   refine su_ [(0,_),(1,_),(4,_),(5,_),(6,_),(11,_),(13,_),(16,_),(19,_)] ?_
   refine cT_ ?_
   iterate 7 refine s1_ ?_
   refine ⟨_,S,⟨_,_,rfl,rfl,rfl⟩,less_,?_⟩
   exact ⟨rfl,rfl⟩
theorem disk_find1 (x : Ext) (s : ByteArray) (S : Mem) : ACall Tryz.prog 149 #[.agg #[.string x.1, .string x.2], .string s] S fun r S' => r = .int .i64 (cmpI x.1 s) ∧ S' = S := by
 refine ACall.enter (rs:=[.tmp 4]) 9 [(0,.agg #[.string x.1,.string x.2]),(1,.string s)] Tryz.func149 rfl rfl (Nat.le_of_ble_eq_true rfl) rfl ⟨rfl,rfl,trivial⟩ ?_
 iterate 2 refine s1_ ?_
 refine ARun.boxA (cs:=[_,_]) (lit_lt rfl) rfl ?_
 intro b2 f2
 have g2:=f2
 repeat ((with_reducible replace g2:=fresh_set g2);obtain ⟨g2,_⟩:=g2)
 refine nl_ ?_
 iterate 8 refine s1_ ?_
 refine ca_ rfl (disk_compare x.1 s _) ?_
 rintro _ S1 ⟨rfl,h1⟩
 rw [h1];clear h1 S1
 iterate 3 refine s1_ ?_
 refine su_ [(0,_),(1,_),(2,_),(4,_)] ?_
 refine s1_ ?_
 refine ⟨_,S,⟨_,_,rfl,rfl,rfl⟩,less_,?_⟩
 exact ⟨rfl,rfl⟩
end Go.Proofs.YtceikpipmcadmaaGreatDoor
namespace Go.Proofs.YtceikpipmcadmaaGreatDoor
open Go.RowKit
open Mv Disk
set_option maxRecDepth 4000
theorem cmpI_neg {a b : ByteArray} : cmpI a b < 0 ↔ lt a b = true := by
 unfold cmpI
 by_cases e:a=b
 ·subst e;rw [if_pos rfl,lt_irrefl];simp
 ·rw [if_neg e];by_cases h:lt a b=true
  ·rw [if_pos h];simp [h]
  ·rw [if_neg h];simp [h]
theorem cmpI_zero {a b : ByteArray} : cmpI a b = 0 ↔ a = b := by
 unfold cmpI
 by_cases e:a=b
 ·rw [if_pos e];simp [e]
 ·rw [if_neg e];by_cases h:lt a b=true
  ·rw [if_pos h];simp [e]
  ·rw [if_neg h];simp [e]
set_option maxHeartbeats 1000000 in
theorem disk_search (v : Value) (l : List Ext) (s : ByteArray) (S : Mem) (hl : Sl 2 extF S v l) (ha : Asc l) (hn : l.length ≤ 1048576) :
  ACall Tryz.prog 148 #[v,.string s,.func (.func 149) #[] #[]] S fun r S'=>r = .tuple #[.int .i64 (pos l s:Nat),.bool (has l s)]∧S'=S:=by
 obtain ⟨a,cap,rfl,h1,h2,h3⟩:=id hl
 refine ACall.enter (rs:=[.tmp 6,.tmp 7]) 49 [(0,.slice a l.length cap),(1,.string s),(2,.func (.func 149) #[] #[])] Tryz.func148 rfl rfl (Nat.le_of_ble_eq_true rfl) rfl ⟨rfl,rfl,rfl,trivial⟩ ?_
 iterate 13 refine s1_ ?_
 refine su_ [(0,_),(1,_),(2,_),(6,_),(7,_),(8,_)] ?_
 iterate 7 refine s1_ ?_
 refine su_ [(0,_),(1,_),(2,_),(6,_),(7,_),(8,_),(9,_),(10,_)] ?_
 iterate 2 refine s1_ ?_
 refine AWP.loop (X:=Nat × Nat) (fun x=>[(0,.slice a l.length cap),(1,.string s),(2,.func (.func 149) #[] #[]),(8,.int .i64 l.length),(9,.int .i64 x.1),(10,.int .i64 x.2)]) (fun x=>S) (fun x=>x.1≤x.2∧x.2≤l.length∧(∀ j (h:j<l.length),j<x.1→lt l[j].1 s=true) ∧ ∀ j (h:j<l.length),x.2≤j→lt l[j].1 s=false) (fun x=>x.2-x.1) ((0,l.length)) ⟨rfl,rfl,rfl,rfl,rfl,rfl,trivial⟩ (Mem.Less.refl _) (⟨Nat.zero_le _,Nat.le_refl _,fun j _ h=>absurd h (Nat.not_lt_zero _),fun j h h'=>absurd h (Nat.not_lt.2 h')⟩) ?_
 rintro ⟨i,j⟩ ⟨hij,hj,hlo,hhi⟩
 (try dsimp only at *)
 iterate 8 refine s1_ ?_
 refine su_ [(0,_),(1,_),(2,_),(8,_),(9,_),(10,_),(17,_)] ?_
 refine AWP.condB rfl (fun hc=>?_) (fun hc=>?_)
 ·have hc:i<j:=by have:=of_decide_eq_true hc;omega
  obtain ⟨b,off,rfl,hk⟩:=h3.resolve_left (fun e=>by subst e;simp at hj;omega)
  obtain ⟨m,hm⟩ : ∃ m,(i+j) / 2=m:=⟨_,rfl⟩
  have hml:m<l.length:=by omega
  have hki:=hk m hml
  unfold extF at hki
  have e1:IntKind.i64.wrap (((i:Int)+(j:Int)) / 2 ^ (1:Int).toNat)=(m:Int):=by rw [show (2:Int) ^ (1:Int).toNat=2 from rfl,IntWalk.i64_in _ (by omega)];omega
  iterate 14 refine s1_ ?_
  refine su_ [(0,_),(1,_),(2,_),(8,_),(9,_),(10,_),(17,_),(11,_)] ?_
  rw [e1]
  iterate 8 refine s1_ ?_
  refine ARun.callV (lit_lt rfl) go_149 rfl rfl (disk_find1 l[m] s _) ?_
  rintro _ S1 ⟨rfl,h1⟩
  rw [h1];clear h1 S1
  iterate 3 refine s1_ ?_
  refine su_ [(0,_),(1,_),(2,_),(8,_),(9,_),(10,_),(17,_),(11,_),(31,_)] ?_
  refine AWP.condB rfl (fun hb=>?_) (fun hb=>?_)
  ·have hb:lt l[m].1 s=true:=cmpI_neg.1 (of_decide_eq_true hb)
   have hlo':∀ k (h:k<l.length),k<m+1→lt l[k].1 s=true:=fun k h hk'=>by rcases Nat.lt_or_ge k m with h' | h';exact lt_trans (asc_get ha hml h') hb;obtain rfl:k=m:=(by omega);exact hb
   iterate 7 refine s1_ ?_
   refine ⟨(m+1,j),?_,?_,?_,?_⟩
   all_goals (try dsimp only)
   ·exact ⟨rfl,rfl,rfl,rfl,rfl,rfl,trivial⟩
   ·exact less_
   ·exact ⟨by omega,hj,hlo',hhi⟩
   ·omega
  ·have hb:lt l[m].1 s=false:=by have:=of_decide_eq_false hb;rw [cmpI_neg] at this;simpa using this
   have hhi':∀ k (h:k<l.length),m≤k→lt l[k].1 s=false:=fun k h hk'=>by rcases Nat.lt_or_ge m k with h' | h';(cases hq:lt l[k].1 s with | false=>rfl | true=>have:=lt_trans (asc_get ha h h') hq;rw [hb] at this;cases this);obtain rfl:k=m:=(by omega);exact hb
   iterate 6 refine s1_ ?_
   refine ⟨(i,m),?_,?_,?_,?_⟩
   all_goals (try dsimp only)
   ·exact ⟨rfl,rfl,rfl,rfl,rfl,rfl,trivial⟩
   ·exact less_
   ·exact ⟨by omega,by omega,hlo,hhi'⟩
   ·omega
 ·have hc:i=j:=by have:=of_decide_eq_false hc;omega
  subst hc
  have hp:pos l s=i:=pos_iff hj hlo (fun h=>hhi i h (Nat.le_refl _))
  have hh:=has_pos ha s
  by_cases hil:i<l.length
  ·obtain ⟨b,off,rfl,hk⟩:=h3.resolve_left (fun e=>by subst e;simp at hil)
   have hki:=hk i hil
   unfold extF at hki
   iterate 18 refine s1_ ?_
   refine rUn 39 ?_
   refine ARun.callV (lit_lt rfl) go_149 rfl rfl (disk_find1 l[i] s _) ?_
   rintro _ S1 ⟨rfl,h1⟩
   rw [h1];clear h1 S1
   have hbb:decide (cmpI l[i].1 s=0)=has l s:=by rw [Bool.eq_iff_iff,decide_eq_true_eq,cmpI_zero,hh];constructor;exact fun e=>⟨by rw [hp];exact hil,by simp only [hp];exact e⟩;exact fun ⟨_,e⟩=>by simpa only [hp] using e
   iterate 6 refine s1_ ?_
   refine su_ [(0,_),(1,_),(2,_),(8,_),(9,_),(10,_),(17,_),(6,_),(7,_)] ?_
   refine s1_ ?_
   refine ⟨_,S,⟨_,_,rfl,⟨_,_,rfl,rfl,rfl⟩,rfl⟩,less_,?_⟩
   exact ⟨by rw [hp,← hbb];rfl,rfl⟩
  ·have hbb:has l s=false:=by cases h:has l s with | false=>rfl | true=>obtain ⟨h',_⟩:=hh.1 h;rw [hp] at h';omega
   iterate 25 refine s1_ ?_
   refine su_ [(0,_),(1,_),(2,_),(8,_),(9,_),(10,_),(17,_),(6,_),(7,_)] ?_
   refine s1_ ?_
   refine ⟨_,S,⟨_,_,rfl,⟨_,_,rfl,rfl,rfl⟩,rfl⟩,less_,?_⟩
   exact ⟨by rw [hp,hbb];rfl,rfl⟩
theorem disk_find (v : Value) (l : List Ext) (s : ByteArray) (S : Mem) (hl : Sl 2 extF S v l) (ha : Asc l) (hn : l.length ≤ 1048576) :
  ACall Tryz.prog 113 #[v,.string s] S fun r S'=>r = .tuple #[.int .i64 (pos l s:Nat),.bool (has l s)]∧S'=S:=by
 refine ACall.enter (rs:=[.tmp 4,.tmp 5]) 11 [(0,v),(1,.string s)] Tryz.func113 rfl rfl (Nat.le_of_ble_eq_true rfl) rfl ⟨rfl,rfl,trivial⟩ ?_
 iterate 10 refine s1_ ?_
 refine ca_ rfl (disk_search v l s _ hl ha hn) ?_
 rintro _ S1 ⟨rfl,h1⟩
 rw [h1];clear h1 S1
 iterate 6 refine s1_ ?_
 refine su_ [(0,_),(1,_),(4,_),(5,_)] ?_
 refine s1_ ?_
 refine ⟨_,S,⟨_,_,rfl,⟨_,_,rfl,rfl,rfl⟩,rfl⟩,less_,?_⟩
 exact ⟨rfl,rfl⟩
theorem disk_sectors (x : Ext) (S : Mem) (hx : x.2.size ≤ 9223372036854775807) : ACall Tryz.prog 114 #[.agg #[.string x.1, .string x.2]] S fun r S' => r = .int .i64 (sec x : Nat) ∧ S' = S := by
 refine ACall.enter (rs:=[.tmp 2]) 7 [(0,.agg #[.string x.1,.string x.2])] Tryz.func114 rfl rfl (Nat.le_of_ble_eq_true rfl) rfl ⟨rfl,trivial⟩ ?_
 iterate 2 refine s1_ ?_
 refine ARun.boxA (cs:=[_,_]) (lit_lt rfl) rfl ?_
 intro b1 f1
 have g1:=f1
 repeat ((with_reducible replace g1:=fresh_set g1);obtain ⟨g1,_⟩:=g1)
 refine nl_ ?_
 iterate 12 refine s1_ ?_
 refine su_ [(0,_),(1,_),(2,_)] ?_
 refine s1_ ?_
 refine ⟨_,S,⟨_,_,rfl,rfl,rfl⟩,less_,?_⟩
 exact ⟨val_int (by unfold sec;omega),rfl⟩
end Go.Proofs.YtceikpipmcadmaaGreatDoor
namespace Go.Proofs.YtceikpipmcadmaaGreatDoor
open Go.RowKit
namespace Disk
theorem lt_empty {x : ByteArray} (h : x.size ≠ 0) : lt ByteArray.empty x = true := by
 unfold lt
 cases e:x.data.toList with
 | nil=>have:=Mv.size_data x;rw [e] at this;simp at this;omega
 | cons a l=>rfl
theorem take_get {α : Type} {l : List α} {i : Nat} (h : i < l.length) : l.take (i + 1) = l.take i ++ [l[i]] := by
 rw [List.take_add_one,List.getElem?_eq_getElem h];rfl
def lastN (l : List Ext) : Nat → ByteArray
  | 0 => ByteArray.empty
  | i + 1 => (l[i]?.map (·.1)).getD ByteArray.empty
theorem lastN_succ {l : List Ext} {i : Nat} (h : i < l.length) : lastN l (i + 1) = l[i].1 := by
 simp [lastN,List.getElem?_eq_getElem h]
/-- What is right so far. -/
structure Upto (l : List Ext) (size : Int) (i : Nat) : Prop where
  ok : ∀ x ∈ l.take i, eok x
  asc : Asc (l.take i)
  us : (used (l.take i) : Int) ≤ size
theorem upto_zero (l : List Ext) {size : Int} (h : 0 ≤ size) : Upto l size 0 := ⟨fun x h => by simp at h, by simp [Asc], by simpa [used] using h⟩
theorem upto_all {l : List Ext} {size : Int} (h : Upto l size l.length) : ERight l size := by
 obtain ⟨h1,h2,h3⟩:=h
 rw [List.take_length] at h1 h2 h3
 exact ⟨h1,h2,h3⟩
theorem upto_succ {l : List Ext} {size : Int} {i : Nat} (h : Upto l size i) (hi : i < l.length) (h1 : eok l[i]) (h2 : lt (lastN l i) l[i].1 = true) (h3 : (used (l.take i) : Int) + sec l[i] ≤ size) : Upto l size (i + 1) := by
 have e:=take_get hi
 refine ⟨fun x hx=>?_,?_,?_⟩
 ·rw [e,List.mem_append] at hx
  rcases hx with hx | hx
  ·exact h.ok x hx
  ·rw [List.mem_singleton.1 hx];exact h1
 ·rw [e]
  unfold Asc
  rw [List.pairwise_append]
  refine ⟨h.asc,by simp,fun a ha b hb=>?_⟩
  rw [List.mem_singleton.1 hb]
  obtain ⟨j,hj,rfl⟩:=List.getElem_of_mem ha
  have hj':j<i:=by simp at hj;omega
  cases i with
  | zero=>omega
  | succ i =>
   rw [lastN_succ (by omega)] at h2
   by_cases hji:j=i
   ·subst hji;simpa using h2
   ·have:=asc_get h.asc (i:=j) (j:=i) (by simp;omega) (by omega)
    simp only [List.getElem_take] at this ⊢
    exact lt_trans this h2
 ·rw [e,used_append];simp only [used];omega
theorem right_at {l : List Ext} {size : Int} (h : ERight l size) {i : Nat} (hi : i < l.length) : eok l[i] ∧ lt (lastN l i) l[i].1 = true ∧ (used (l.take i) : Int) + sec l[i] ≤ size := by
 refine ⟨h.ok _ (List.getElem_mem hi),?_,?_⟩
 ·cases i with
  | zero=>exact lt_empty (h.ok _ (List.getElem_mem hi)).1.1
  | succ i=>rw [lastN_succ (by omega)];exact asc_get h.asc hi (by omega)
 ·have h1:=h.us
  have e:l=l.take (i+1) ++ l.drop (i+1):=(List.take_append_drop _ _).symm
  rw [e,used_append,take_get hi,used_append] at h1
  simp only [used] at h1;omega
end Disk
end Go.Proofs.YtceikpipmcadmaaGreatDoor
namespace Go.Proofs.YtceikpipmcadmaaGreatDoor
open Go.RowKit
open Mv Disk
set_option maxRecDepth 4000
theorem sl_str1 {S : Mem} {b : Nat} {e : TypeId} {s : ByteArray} (h : S.own b = some ⟨e, [.string s], 1⟩) : Sl 1 strs S (.slice (some ⟨b, 0, none⟩) 1 1) [s] :=
 Sl.own1 (g:=fun s:ByteArray=>.string s) h List.prefix_rfl rfl (by decide) (by decide)
theorem leq_no {a b : ByteArray} (h : lt a b = true) : (Op.bytesLess b.data.toList a.data.toList || decide (b = a)) = false := by
 rw [lt_def,lt_asymm h,decide_eq_false (Ne.symm (lt_ne h))];rfl
theorem leq_yes {a b : ByteArray} (h : lt a b = false) : (Op.bytesLess b.data.toList a.data.toList || decide (b = a)) = true := by
 rw [lt_def]
 by_cases e:b=a
 ·rw [decide_eq_true e,Bool.or_true]
 ·rw [lt_tri (Ne.symm e) h];rfl
theorem one_all {p : ByteArray → Prop} {s : ByteArray} : (∀ x ∈ [s], p x) ↔ p s := by simp
set_option maxHeartbeats 1000000 in
theorem disk_extents (v : Value) (l : List Ext) (size : Int) (S : Mem) (hl : Sl 2 extF S v l) (h0 : 0 ≤ size) (h1 : size ≤ 16384) (hz : ∀ x ∈ l, x.2.size ≤ 140737488351232) :
  ACall Tryz.prog 112 #[v,.int .i64 size] S fun r S'=>(∃ t:Bool,r = .bool t∧(t=true ↔ ERight l size))∧S'=S:=by
 obtain ⟨a,cap,rfl,hl1,hl2,hl3⟩:=id hl
 refine ACall.enter (rs:=[.tmp 4]) 46 [(0,.slice a l.length cap),(1,.int .i64 size)] Tryz.func112 rfl rfl (Nat.le_of_ble_eq_true rfl) rfl ⟨rfl,rfl,trivial⟩ ?_
 iterate 19 refine s1_ ?_
 refine AWP.loop (X:=Nat) (fun x=>[(1,.int .i64 (size-used (l.take x))),(5,.string (lastN l x)),(8,.slice a l.length cap),(9,.int .i64 l.length),(10,.int .i64 x)]) (fun x=>S) (fun x=>x≤l.length∧Upto l size x) (fun x=>l.length-x) (0) ⟨some_int (by simp [used]),rfl,rfl,rfl,rfl,trivial⟩ (Mem.Less.refl _) (⟨Nat.zero_le _,upto_zero l h0⟩) ?_
 rintro i ⟨hi,hup⟩
 (try dsimp only at *)
 iterate 6 refine s1_ ?_
 refine AWP.condB rfl (fun hc=>?_) (fun hc=>?_)
 ·have hc:i<l.length:=by have:=of_decide_eq_true hc;omega
  obtain ⟨b,off,rfl,hk⟩:=hl3.resolve_left (fun e=>by subst e;simp at hc)
  have hki:=hk i hc
  have hzi:=hz _ (List.getElem_mem hc)
  have hus:=hup.us
  have hra:=fun h:ERight l size=>right_at h hc
  have hut:used (l.take (i+1))=used (l.take i)+sec l[i]:=by rw [take_get hc,used_append];simp [used]
  have hln:=lastN_succ hc
  have hsu:=upto_succ hup hc
  generalize hx:l[i]=x at *
  unfold extF at hki
  have hsx:sec x≤140737488351232:=by unfold sec;omega
  by_cases q1:nm x.1
  ·by_cases q2:lt (lastN l i) x.1=true
   ·have q2':=leq_no q2
    by_cases q3:x.2.size=0
    ·iterate 8 refine s1_ ?_
     refine ARun.alloc (lit_lt rfl) ty_zero_81 ?_
     intro b7 f7
     have g7:=f7
     repeat ((with_reducible replace g7:=fresh_set g7);obtain ⟨g7,_⟩:=g7)
     refine nl_ ?_
     iterate 3 refine s1_ ?_
     refine su_ [(1,_),(5,_),(8,_),(9,_),(10,_),(11,_),(7,_)] ?_
     iterate 5 refine s1_ ?_
     refine ARun.build1s (lit_lt rfl) ty_sl_149 rfl rfl ?_
     intro b16 f16
     have g16:=f16
     repeat ((with_reducible replace g16:=fresh_set g16);obtain ⟨g16,_⟩:=g16)
     refine ca_ rfl (disk_named _ [x.1] _ (sl_str1 own_)) ?_
     rintro _ S1 ⟨⟨t,rfl,ht⟩,h1⟩
     rw [h1];clear h1 S1
     obtain rfl:t=true:=ht.2 (one_all.2 q1)
     iterate 5 refine s1_ ?_
     first|refine k_q 19 ?_|refine rG 19 (Calm.bin rfl rfl (bin_bool (bin_str_leq _ _) q2')) ?_
     iterate 4 refine s1_ ?_
     first|refine k_q 25 ?_|refine rG 25 (Calm.bin rfl rfl (bin_bool (bin_str_eql _ _) (decide_eq_true ((size0 _).2 q3)))) ?_
     iterate 10 refine s1_ ?_
     refine su_ [(1,_),(5,_),(8,_),(9,_),(10,_),(11,_),(7,_),(36,_)] ?_
     refine cT_ ?_
     iterate 12 refine s1_ ?_
     refine ⟨_,S,⟨_,_,rfl,rfl,rfl⟩,less_,?_⟩
     exact ⟨⟨false,rfl,by simp;exact fun h=>(hra h).1.2.1 q3⟩,rfl⟩
    ·by_cases q4:x.2.size % 64=0
     ·iterate 8 refine s1_ ?_
      refine ARun.alloc (lit_lt rfl) ty_zero_81 ?_
      intro b7 f7
      have g7:=f7
      repeat ((with_reducible replace g7:=fresh_set g7);obtain ⟨g7,_⟩:=g7)
      refine nl_ ?_
      iterate 3 refine s1_ ?_
      refine su_ [(1,_),(5,_),(8,_),(9,_),(10,_),(11,_),(7,_)] ?_
      iterate 5 refine s1_ ?_
      refine ARun.build1s (lit_lt rfl) ty_sl_149 rfl rfl ?_
      intro b16 f16
      have g16:=f16
      repeat ((with_reducible replace g16:=fresh_set g16);obtain ⟨g16,_⟩:=g16)
      refine ca_ rfl (disk_named _ [x.1] _ (sl_str1 own_)) ?_
      rintro _ S1 ⟨⟨t,rfl,ht⟩,h1⟩
      rw [h1];clear h1 S1
      obtain rfl:t=true:=ht.2 (one_all.2 q1)
      iterate 5 refine s1_ ?_
      first|refine k_q 19 ?_|refine rG 19 (Calm.bin rfl rfl (bin_bool (bin_str_leq _ _) q2')) ?_
      iterate 4 refine s1_ ?_
      first|refine k_q 25 ?_|refine rG 25 (Calm.bin rfl rfl (bin_bool (bin_str_eql _ _) (decide_eq_false (fun e=>q3 ((size0 _).1 e))))) ?_
      iterate 10 refine s1_ ?_
      refine su_ [(1,_),(5,_),(8,_),(9,_),(10,_),(11,_),(7,_),(36,_)] ?_
      refine cF_ ?_
      iterate 7 refine s1_ ?_
      refine ca_ rfl (disk_sectors x _ (by omega)) ?_
      rintro _ S1 ⟨rfl,h1⟩
      rw [h1];clear h1 S1
      iterate 4 refine s1_ ?_
      refine su_ [(1,_),(5,_),(8,_),(9,_),(10,_),(11,_),(7,_),(36,_)] ?_
      iterate 6 refine s1_ ?_
      refine su_ [(1,_),(5,_),(8,_),(9,_),(10,_),(11,_),(7,_),(36,_),(42,_)] ?_
      refine AWP.condB rfl (fun q5=>?_) (fun q5=>?_)
      ·iterate 12 refine s1_ ?_
       refine ⟨_,S,⟨_,_,rfl,rfl,rfl⟩,less_,?_⟩
       exact ⟨⟨false,rfl,by simp;exact fun h=>absurd (hra h).2.2 (by have:=of_decide_eq_true q5;omega)⟩,rfl⟩
      ·have q5:=of_decide_eq_false q5
       iterate 9 refine s1_ ?_
       refine su_ [(1,_),(5,_),(8,_),(9,_),(10,_),(11,_),(7,_),(36,_),(42,_)] ?_
       iterate 5 refine s1_ ?_
       refine ⟨i+1,?_,?_,?_,?_⟩
       all_goals (try dsimp only)
       ·exact ⟨some_int (by rw [hut];omega),some_str hln.symm,rfl,rfl,rfl,trivial⟩
       ·exact less_
       ·exact ⟨hc,hsu ⟨q1,q3,q4⟩ q2 (by omega)⟩
       ·omega
     ·iterate 8 refine s1_ ?_
      refine ARun.alloc (lit_lt rfl) ty_zero_81 ?_
      intro b7 f7
      have g7:=f7
      repeat ((with_reducible replace g7:=fresh_set g7);obtain ⟨g7,_⟩:=g7)
      refine nl_ ?_
      iterate 3 refine s1_ ?_
      refine su_ [(1,_),(5,_),(8,_),(9,_),(10,_),(11,_),(7,_)] ?_
      iterate 5 refine s1_ ?_
      refine ARun.build1s (lit_lt rfl) ty_sl_149 rfl rfl ?_
      intro b16 f16
      have g16:=f16
      repeat ((with_reducible replace g16:=fresh_set g16);obtain ⟨g16,_⟩:=g16)
      refine ca_ rfl (disk_named _ [x.1] _ (sl_str1 own_)) ?_
      rintro _ S1 ⟨⟨t,rfl,ht⟩,h1⟩
      rw [h1];clear h1 S1
      obtain rfl:t=true:=ht.2 (one_all.2 q1)
      iterate 5 refine s1_ ?_
      first|refine k_q 19 ?_|refine rG 19 (Calm.bin rfl rfl (bin_bool (bin_str_leq _ _) q2')) ?_
      iterate 4 refine s1_ ?_
      first|refine k_q 25 ?_|refine rG 25 (Calm.bin rfl rfl (bin_bool (bin_str_eql _ _) (decide_eq_false (fun e=>q3 ((size0 _).1 e))))) ?_
      iterate 10 refine s1_ ?_
      refine su_ [(1,_),(5,_),(8,_),(9,_),(10,_),(11,_),(7,_),(36,_)] ?_
      refine cT_ ?_
      iterate 12 refine s1_ ?_
      refine ⟨_,S,⟨_,_,rfl,rfl,rfl⟩,less_,?_⟩
      exact ⟨⟨false,rfl,by simp;exact fun h=>q4 (hra h).1.2.2⟩,rfl⟩
   ·have q2':=leq_yes (Bool.eq_false_iff.2 q2)
    iterate 8 refine s1_ ?_
    refine ARun.alloc (lit_lt rfl) ty_zero_81 ?_
    intro b7 f7
    have g7:=f7
    repeat ((with_reducible replace g7:=fresh_set g7);obtain ⟨g7,_⟩:=g7)
    refine nl_ ?_
    iterate 3 refine s1_ ?_
    refine su_ [(1,_),(5,_),(8,_),(9,_),(10,_),(11,_),(7,_)] ?_
    iterate 5 refine s1_ ?_
    refine ARun.build1s (lit_lt rfl) ty_sl_149 rfl rfl ?_
    intro b16 f16
    have g16:=f16
    repeat ((with_reducible replace g16:=fresh_set g16);obtain ⟨g16,_⟩:=g16)
    refine ca_ rfl (disk_named _ [x.1] _ (sl_str1 own_)) ?_
    rintro _ S1 ⟨⟨t,rfl,ht⟩,h1⟩
    rw [h1];clear h1 S1
    obtain rfl:t=true:=ht.2 (one_all.2 q1)
    iterate 5 refine s1_ ?_
    first|refine k_q 19 ?_|refine rG 19 (Calm.bin rfl rfl (bin_bool (bin_str_leq _ _) q2')) ?_
    iterate 15 refine s1_ ?_
    refine su_ [(1,_),(5,_),(8,_),(9,_),(10,_),(11,_),(7,_),(36,_)] ?_
    refine cT_ ?_
    iterate 12 refine s1_ ?_
    refine ⟨_,S,⟨_,_,rfl,rfl,rfl⟩,less_,?_⟩
    exact ⟨⟨false,rfl,by simp;exact fun h=>q2 (hra h).2.1⟩,rfl⟩
  ·iterate 8 refine s1_ ?_
   refine ARun.alloc (lit_lt rfl) ty_zero_81 ?_
   intro b7 f7
   have g7:=f7
   repeat ((with_reducible replace g7:=fresh_set g7);obtain ⟨g7,_⟩:=g7)
   refine nl_ ?_
   iterate 3 refine s1_ ?_
   refine su_ [(1,_),(5,_),(8,_),(9,_),(10,_),(11,_),(7,_)] ?_
   iterate 5 refine s1_ ?_
   refine ARun.build1s (lit_lt rfl) ty_sl_149 rfl rfl ?_
   intro b16 f16
   have g16:=f16
   repeat ((with_reducible replace g16:=fresh_set g16);obtain ⟨g16,_⟩:=g16)
   refine ca_ rfl (disk_named _ [x.1] _ (sl_str1 own_)) ?_
   rintro _ S1 ⟨⟨t,rfl,ht⟩,h1⟩
   rw [h1];clear h1 S1
   obtain rfl:t=false:=Bool.eq_false_iff.2 (fun e=>q1 (one_all.1 (ht.1 e)))
   iterate 21 refine s1_ ?_
   refine su_ [(1,_),(5,_),(8,_),(9,_),(10,_),(11,_),(7,_),(36,_)] ?_
   refine cT_ ?_
   iterate 12 refine s1_ ?_
   refine ⟨_,S,⟨_,_,rfl,rfl,rfl⟩,less_,?_⟩
   exact ⟨⟨false,rfl,by simp;exact fun h=>q1 (hra h).1.1⟩,rfl⟩
 ·have hc:i=l.length:=by have:=of_decide_eq_false hc;omega
  subst hc
  iterate 11 refine s1_ ?_
  refine ⟨_,S,⟨_,_,rfl,rfl,rfl⟩,less_,?_⟩
  exact ⟨⟨true,rfl,by simp;exact upto_all hup⟩,rfl⟩
end Go.Proofs.YtceikpipmcadmaaGreatDoor
namespace Go.Proofs.YtceikpipmcadmaaGreatDoor
open Go.RowKit
open Mv Disk
set_option maxRecDepth 4000
theorem wok_pos {l : List Ext} (ha : Asc l) {w : Wr} {p : Nat} (hp : p < l.length) (e : l[p].1 = w.1) : wok l w ↔ 0 ≤ w.2.1 ∧ w.2.1 < sec l[p] ∧ w.2.2.size = 64 := by
 constructor
 ·rintro ⟨x,hx,e2,h⟩
  have:x=l[p]:=asc_inj ha hx (List.getElem_mem hp) (e2.trans e.symm)
  subst this;exact h
 ·intro h
  exact ⟨l[p],List.getElem_mem hp,e,h⟩
theorem wok_has {l : List Ext} {w : Wr} (h : wok l w) : has l w.1 = true := by
 obtain ⟨x,hx,e,_⟩:=h
 exact has_iff.2 ⟨x,hx,e⟩
/-- A disk over memory. -/
def DkR (S : Mem) (v : Value) (d : D) : Prop := ∃ pe ce pw cw, v = .agg #[.int .i64 d.size, .slice pe d.ext.length ce, .slice pw d.waits.length cw, .int .i64 d.fuse, .bool d.down] ∧ Sl 2 extF S (.slice pe d.ext.length ce) d.ext ∧ Sl 3 wrF S (.slice pw d.waits.length cw) d.waits
theorem DkR.less {S S' : Mem} {v : Value} {d : D} (h : DkR S v d) (hl : S.Less S') : DkR S' v d := by
 obtain ⟨pe,ce,pw,cw,e,h1,h2⟩:=h
 exact ⟨pe,ce,pw,cw,e,h1.less hl,h2.less hl⟩
/-- Bounds of what comes in. -/
structure Dz (d : D) : Prop where
  s0 : -9223372036854775808 ≤ d.size
  s1 : d.size ≤ 9223372036854775807
  f0 : -9223372036854775808 ≤ d.fuse
  f1 : d.fuse ≤ 9223372036854775807
  el : d.ext.length ≤ 4398046511104
  wl : d.waits.length ≤ 3518437208883
  ez : ∀ x ∈ d.ext, x.1.size ≤ 140737488351232 ∧ x.2.size ≤ 140737488351232
  wz : ∀ w ∈ d.waits, w.1.size ≤ 140737488351232 ∧ -9223372036854775808 ≤ w.2.1 ∧ w.2.1 ≤ 9223372036854775807 ∧ w.2.2.size ≤ 140737488351232
set_option maxHeartbeats 2000000 in
theorem disk_Check (v : Value) (d : D) (S : Mem) (hd : DkR S v d) (hz : Dz d) :
  ACall Tryz.prog 63 #[v] S fun r S'=>r = .int .i64 (chkD d)∧S'=S:=by
 obtain ⟨pe,ce,pw,cw,rfl,hE,hW⟩:=hd
 obtain ⟨size,ext,waits,fuse,down⟩:=d
 have hez:=fun x hx=>(hz.ez x hx).2
 have hs0:=hz.s0;have hs1:=hz.s1;have hf0:=hz.f0;have hf1:=hz.f1
 simp only at hE hW hez hs0 hs1 hf0 hf1 ⊢
 obtain ⟨_,_,ee1,ee2,ee3,hE3⟩:=id hE
 obtain ⟨_,_,ew1,ew2,ew3,hW3⟩:=id hW
 cases ee1;cases ew1
 refine ACall.enter (rs:=[.tmp 2]) 74 [(0,.agg #[.int .i64 size,.slice pe ext.length ce,.slice pw waits.length cw,.int .i64 fuse,.bool down])] Tryz.func63 rfl rfl (Nat.le_of_ble_eq_true rfl) rfl ⟨rfl,trivial⟩ ?_
 iterate 2 refine s1_ ?_
 refine k_b5 rfl ?_
 intro b1 f1
 have g1:=f1
 repeat ((with_reducible replace g1:=fresh_set g1);obtain ⟨g1,_⟩:=g1)
 refine nl_ ?_
 iterate 3 refine s1_ ?_
 refine named (S:=S) (b:=b1) g1.1 ?_
 intro T1 hT1 kb1
 replace hE:=hE.less hT1
 replace hW:=hW.less hT1
 by_cases q1:size<0
 ·iterate 32 refine s1_ ?_
  refine su_ [(0,_),(1,_),(2,_),(33,_)] ?_
  refine cT_ ?_
  iterate 7 refine s1_ ?_
  refine ⟨_,S,⟨_,_,rfl,rfl,rfl⟩,hT1.trans less_,?_⟩
  exact ⟨by rw [chkD_no (fun h=>absurd h.s0 (by simp only;omega))];rfl,rfl⟩
 ·by_cases q2:16384<size
  ·iterate 32 refine s1_ ?_
   refine su_ [(0,_),(1,_),(2,_),(33,_)] ?_
   refine cT_ ?_
   iterate 7 refine s1_ ?_
   refine ⟨_,S,⟨_,_,rfl,rfl,rfl⟩,hT1.trans less_,?_⟩
   exact ⟨by rw [chkD_no (fun h=>absurd h.s1 (by simp only;omega))];rfl,rfl⟩
  ·by_cases q3:16384<waits.length
   ·iterate 32 refine s1_ ?_
    refine su_ [(0,_),(1,_),(2,_),(33,_)] ?_
    refine cT_ ?_
    iterate 7 refine s1_ ?_
    refine ⟨_,S,⟨_,_,rfl,rfl,rfl⟩,hT1.trans less_,?_⟩
    exact ⟨by rw [chkD_no (fun h=>absurd h.wl (by simp only;omega))];rfl,rfl⟩
   ·by_cases q4:fuse < -1
    ·iterate 32 refine s1_ ?_
     refine su_ [(0,_),(1,_),(2,_),(33,_)] ?_
     refine cT_ ?_
     iterate 7 refine s1_ ?_
     refine ⟨_,S,⟨_,_,rfl,rfl,rfl⟩,hT1.trans less_,?_⟩
     exact ⟨by rw [chkD_no (fun h=>absurd h.fu (by simp only;omega))];rfl,rfl⟩
    ·iterate 27 refine s1_ ?_
     refine ARun.callG 19 false 26 rfl (lit_lt rfl) rfl (lit_lt rfl) go_112 rfl (disk_extents _ ext size _ hE (by omega) (by omega) hez) ?_
     rintro _ S1 ⟨⟨t,rfl,ht⟩,h1⟩
     rw [h1];clear h1 S1
     iterate 4 refine s1_ ?_
     refine su_ [(0,_),(1,_),(2,_),(33,_)] ?_
     by_cases q5:ERight ext size
     ·obtain rfl:t=true:=ht.2 q5
      refine cF_ ?_
      have hul:=used_ge q5.ok
      have hus:=q5.us
      iterate 11 refine s1_ ?_
      refine su_ [(0,_),(1,_),(2,_),(33,_),(35,_),(36,_),(37,_)] ?_
      refine s1_ ?_
      refine AWP.loop (X:=Nat) (fun x=>[(1,.pointer (some ⟨b1,0,none⟩)),(35,.slice pw waits.length cw),(36,.int .i64 waits.length),(37,.int .i64 x)]) (fun x=>T1) (fun x=>x≤waits.length ∧ ∀ j (h:j<waits.length),j<x→wok ext waits[j]) (fun x=>waits.length-x) (0) ⟨rfl,rfl,rfl,rfl,trivial⟩ (Mem.Less.refl _) (⟨Nat.zero_le _,fun j _ h=>absurd h (Nat.not_lt_zero _)⟩) ?_
      rintro i ⟨hi,hall⟩
      (try dsimp only at *)
      iterate 6 refine s1_ ?_
      refine AWP.condB rfl (fun hc=>?_) (fun hc=>?_)
      ·have hc:i<waits.length:=by have:=of_decide_eq_true hc;omega
       obtain ⟨b,off,rfl,hk⟩:=hW3.resolve_left (fun e=>by subst e;simp at hc)
       have hki:=(hk i hc).less hT1
       have hwz:=hz.wz _ (List.getElem_mem hc)
       have hwn : ¬ wok ext waits[i] → ¬ Right ⟨size,ext,waits,fuse,down⟩:=fun h h'=>h (h'.wr _ (List.getElem_mem hc))
       have hall':wok ext waits[i] → ∀ j (h:j<waits.length),j<i+1→wok ext waits[j]:=fun hw j h hj=>by rcases Nat.lt_or_ge j i with h' | h';exact hall j h h';obtain rfl:j=i:=(by omega);exact hw
       have hhp:=has_pos q5.asc waits[i].1
       have hwh:=wok_has (l:=ext) (w:=waits[i])
       have hwp:=fun (p:Nat) (hp:p<ext.length) (e:ext[p].1=(waits[i]'hc).1)=>wok_pos q5.asc hp e
       generalize waits[i]=w at *
       unfold wrF at hki
       iterate 8 refine s1_ ?_
       refine ARun.alloc (lit_lt rfl) ty_zero_83 ?_
       intro b4 f4
       have g4:=f4
       repeat ((with_reducible replace g4:=fresh_set g4);obtain ⟨g4,_⟩:=g4)
       have:=g4.ne kb1;have:=g4.ne' kb1
       refine nl_ ?_
       iterate 3 refine s1_ ?_
       refine su_ [(1,_),(35,_),(36,_),(37,_),(38,_),(4,_)] ?_
       iterate 6 refine s1_ ?_
       refine ca_ rfl (disk_find _ ext w.1 _ (hE.less less_) q5.asc (by omega)) ?_
       rintro _ S1 ⟨rfl,h1⟩
       rw [h1];clear h1 S1
       iterate 7 refine s1_ ?_
       refine su_ [(1,_),(35,_),(36,_),(37,_),(38,_),(4,_),(5,_),(6,_)] ?_
       by_cases q6:has ext w.1=true
       ·obtain ⟨hp,hpe⟩:=hhp.1 q6
        obtain ⟨be,oe,hpe2,hke⟩:=hE3.resolve_left (fun e=>by subst e;simp at hp)
        subst hpe2
        have hkp:=(hke _ hp).less hT1
        have hsz:=hez _ (List.getElem_mem hp)
        replace hwp:=hwp _ hp hpe
        rw [q6]
        generalize hpp:pos ext w.1=p at *
        generalize hxx:ext[p]=x at *
        unfold extF at hkp
        have hsx:sec x≤140737488351232:=by unfold sec;omega
        by_cases q7:w.2.1<0
        ·refine s1_ ?_
         refine AWP.draw [(0,true),(1,true),(2,true),(3,true),(4,true),(5,true),(6,true),(7,true),(8,true),(9,true),(10,true),(11,true),(12,true),(13,true),(14,true),(15,false),(16,true),(17,true),(18,true),(19,true),(20,true),(21,true),(22,true),(23,true)] [] mixed (by kernel_rfl) ?_
         iterate 15 refine s1_ ?_
         refine draw_only rfl ?_
         refine s1_ ?_
         refine arun_nil ⟨fun _=>less_,?_⟩
         iterate 10 refine s1_ ?_
         refine su_ [(1,_),(35,_),(36,_),(37,_),(38,_),(4,_),(5,_),(6,_),(72,_)] ?_
         refine cT_ ?_
         iterate 11 refine s1_ ?_
         refine ⟨_,S,⟨_,_,rfl,rfl,rfl⟩,hT1.trans less_,?_⟩
         exact ⟨by rw [chkD_no (hwn (fun h=>absurd (hwp.1 h).1 (by omega)))];rfl,rfl⟩
        ·by_cases q8:(sec x:Int)≤w.2.1
         ·refine s1_ ?_
          refine AWP.draw [(0,true),(1,true),(2,true),(3,true),(4,true),(5,true),(6,true),(7,true),(8,true),(9,true),(10,true),(11,true),(12,true),(13,true),(14,true),(15,false),(16,true),(17,true),(18,true),(19,true),(20,true),(21,true),(22,true),(23,true)] [] mixed (by kernel_rfl) ?_
          iterate 15 refine s1_ ?_
          refine draw_only rfl ?_
          refine ARun.callG 7 false 56 rfl (lit_lt rfl) rfl (lit_lt rfl) go_114 rfl (disk_sectors x _ (by omega)) ?_
          rintro _ S1 ⟨rfl,h1⟩
          rw [h1];clear h1 S1
          refine arun_nil ⟨fun _=>less_,?_⟩
          iterate 10 refine s1_ ?_
          refine su_ [(1,_),(35,_),(36,_),(37,_),(38,_),(4,_),(5,_),(6,_),(72,_)] ?_
          refine cT_ ?_
          iterate 11 refine s1_ ?_
          refine ⟨_,S,⟨_,_,rfl,rfl,rfl⟩,hT1.trans less_,?_⟩
          exact ⟨by rw [chkD_no (hwn (fun h=>absurd (hwp.1 h).2.1 (by omega)))];rfl,rfl⟩
         ·by_cases q9:w.2.2.size=64
          ·refine s1_ ?_
           refine AWP.draw [(0,true),(1,true),(2,true),(3,true),(4,true),(5,true),(6,true),(7,true),(8,true),(9,true),(10,true),(11,true),(12,true),(13,true),(14,true),(15,false),(16,true),(17,true),(18,true),(19,true),(20,true),(21,true),(22,true),(23,true)] [] mixed (by kernel_rfl) ?_
           iterate 15 refine s1_ ?_
           refine draw_only rfl ?_
           refine ARun.callG 7 false 56 rfl (lit_lt rfl) rfl (lit_lt rfl) go_114 rfl (disk_sectors x _ (by omega)) ?_
           rintro _ S1 ⟨rfl,h1⟩
           rw [h1];clear h1 S1
           refine arun_nil ⟨fun _=>less_,?_⟩
           iterate 10 refine s1_ ?_
           refine su_ [(1,_),(35,_),(36,_),(37,_),(38,_),(4,_),(5,_),(6,_),(72,_)] ?_
           refine cF_ ?_
           iterate 8 refine s1_ ?_
           refine ⟨i+1,?_,?_,?_,?_⟩
           all_goals (try dsimp only)
           ·exact ⟨rfl,rfl,rfl,rfl,trivial⟩
           ·exact less_
           ·exact ⟨hc,hall' (hwp.2 ⟨by omega,by omega,q9⟩)⟩
           ·omega
          ·refine s1_ ?_
           refine AWP.draw [(0,true),(1,true),(2,true),(3,true),(4,true),(5,true),(6,true),(7,true),(8,true),(9,true),(10,true),(11,true),(12,true),(13,true),(14,true),(15,false),(16,true),(17,true),(18,true),(19,true),(20,true),(21,true),(22,true),(23,true)] [] mixed (by kernel_rfl) ?_
           iterate 15 refine s1_ ?_
           refine draw_only rfl ?_
           refine ARun.callG 7 false 56 rfl (lit_lt rfl) rfl (lit_lt rfl) go_114 rfl (disk_sectors x _ (by omega)) ?_
           rintro _ S1 ⟨rfl,h1⟩
           rw [h1];clear h1 S1
           refine arun_nil ⟨fun _=>less_,?_⟩
           iterate 10 refine s1_ ?_
           refine su_ [(1,_),(35,_),(36,_),(37,_),(38,_),(4,_),(5,_),(6,_),(72,_)] ?_
           refine cT_ ?_
           iterate 11 refine s1_ ?_
           refine ⟨_,S,⟨_,_,rfl,rfl,rfl⟩,hT1.trans less_,?_⟩
           exact ⟨by rw [chkD_no (hwn (fun h=>q9 (hwp.1 h).2.2))];rfl,rfl⟩
       ·rw [Bool.eq_false_iff.2 q6]
        refine s1_ ?_
        refine AWP.draw [(0,true),(1,true),(2,true),(3,true),(4,true),(5,true),(6,true),(7,true),(8,true),(9,true),(10,true),(11,true),(12,true),(13,true),(14,true),(15,false),(16,true),(17,true),(18,true),(19,true),(20,true),(21,true),(22,true),(23,true)] [] mixed (by kernel_rfl) ?_
        iterate 15 refine s1_ ?_
        refine draw_only rfl ?_
        refine s1_ ?_
        refine arun_nil ⟨fun _=>less_,?_⟩
        iterate 10 refine s1_ ?_
        refine su_ [(1,_),(35,_),(36,_),(37,_),(38,_),(4,_),(5,_),(6,_),(72,_)] ?_
        refine cT_ ?_
        iterate 11 refine s1_ ?_
        refine ⟨_,S,⟨_,_,rfl,rfl,rfl⟩,hT1.trans less_,?_⟩
        exact ⟨by rw [chkD_no (hwn (fun h=>q6 (hwh h)))];rfl,rfl⟩
      ·have hc:i=waits.length:=by have:=of_decide_eq_false hc;omega
       iterate 11 refine s1_ ?_
       refine ⟨_,S,⟨_,_,rfl,rfl,rfl⟩,hT1.trans less_,?_⟩
       exact ⟨by rw [chkD_yes ⟨by simp only;omega,by simp only;omega,by simp only;omega,by simp only;omega,q5,fun w hw=>by obtain ⟨j,hj,rfl⟩:=List.getElem_of_mem hw;exact hall j hj (by have h':j<waits.length:=hj;omega)⟩];rfl,rfl⟩
     ·obtain rfl:t=false:=Bool.eq_false_iff.2 (fun e=>q5 (ht.1 e))
      refine cT_ ?_
      iterate 7 refine s1_ ?_
      refine ⟨_,S,⟨_,_,rfl,rfl,rfl⟩,hT1.trans less_,?_⟩
      exact ⟨by rw [chkD_no (fun h=>q5 h.ex)];rfl,rfl⟩
end Go.Proofs.YtceikpipmcadmaaGreatDoor
namespace Go.Proofs.YtceikpipmcadmaaGreatDoor
open Go.RowKit
open Mv Disk
set_option maxRecDepth 4000
theorem ext_len (x : Ext) : (extF x).length = 2 := rfl
theorem wr_len (x : Wr) : (wrF x).length = 3 := rfl
theorem ext_one (l : List Ext) : ∀ v ∈ l.flatMap extF, v.oneCell' = true := fun v hv => by
 obtain ⟨x,_,hx⟩:=List.mem_flatMap.1 hv
 simp only [extF,List.mem_cons,List.not_mem_nil,or_false] at hx
 rcases hx with rfl | rfl <;> rfl
theorem wr_one (l : List Wr) : ∀ v ∈ l.flatMap wrF, v.oneCell' = true := fun v hv => by
 obtain ⟨x,_,hx⟩:=List.mem_flatMap.1 hv
 simp only [wrF,List.mem_cons,List.not_mem_nil,or_false] at hx
 rcases hx with rfl | rfl | rfl <;> rfl
abbrev extT : TypeId := 81
abbrev wrT : TypeId := 83
theorem disk_CloneE (v : Value) (l : List Ext) (S : Mem) (hl : Sl 2 extF S v l) (hz : l.length ≤ 4398046511104) :
  ACall Tryz.prog 115 #[v] S (OwnR 2 extF extT l S):=by
 obtain ⟨a,cap,rfl,h1,h2,h3⟩:=id hl
 refine ACall.enter (rs:=[.tmp 2]) 8 [(0,.slice a l.length cap)] Tryz.func115 rfl rfl (Nat.le_of_ble_eq_true rfl) rfl ⟨rfl,trivial⟩ ?_
 cases a
 ·iterate 12 refine s1_ ?_
  refine su_ [(0,_),(2,_),(4,_)] ?_
  refine cT_ ?_
  obtain rfl:l = []:=h3.resolve_right (fun ⟨b,off,e,_⟩=>by cases e)
  iterate 7 refine s1_ ?_
  refine ⟨_,S,⟨_,_,rfl,rfl,rfl⟩,less_,?_⟩
  exact ⟨none,okO_nil S,rfl,rfl⟩
 ·iterate 12 refine s1_ ?_
  refine su_ [(0,_),(2,_),(4,_)] ?_
  refine cF_ ?_
  iterate 4 refine s1_ ?_
  refine ARun.build0 (lit_lt rfl) ty_sl_22 ?_
  intro b5 f5
  have g5:=f5
  repeat ((with_reducible replace g5:=fresh_set g5);obtain ⟨g5,_⟩:=g5)
  refine s1_ ?_
  refine ARun.appendOK (n:=2) (o:=some (b5,0)) (k:=0) (m:=l.length) (cs:=[]) (lit_lt rfl) ty_sl_22 rfl rfl rfl (okO_own f5 (Nat.le_refl _)) (appN_self (okO_own f5 (Nat.le_refl 0)) rfl) rfl ((hl.less less_).src ext_len) (flat_length ext_len l) (ext_one l) (by omega) (by omega) ?_
  intro o ho
  rw [Nat.zero_add] at ho ⊢
  iterate 3 refine s1_ ?_
  refine su_ [(0,_),(2,_),(4,_)] ?_
  refine s1_ ?_
  refine ⟨_,_,⟨_,_,rfl,rfl,rfl⟩,Mem.Less.refl _,?_⟩
  exact ⟨o,ho,rfl,rfl⟩
theorem disk_CloneW (v : Value) (l : List Wr) (S : Mem) (hl : Sl 3 wrF S v l) (hz : l.length ≤ 3518437208883) :
  ACall Tryz.prog 116 #[v] S (OwnR 3 wrF wrT l S):=by
 obtain ⟨a,cap,rfl,h1,h2,h3⟩:=id hl
 refine ACall.enter (rs:=[.tmp 2]) 8 [(0,.slice a l.length cap)] Tryz.func116 rfl rfl (Nat.le_of_ble_eq_true rfl) rfl ⟨rfl,trivial⟩ ?_
 cases a
 ·iterate 12 refine s1_ ?_
  refine su_ [(0,_),(2,_),(4,_)] ?_
  refine cT_ ?_
  obtain rfl:l = []:=h3.resolve_right (fun ⟨b,off,e,_⟩=>by cases e)
  iterate 7 refine s1_ ?_
  refine ⟨_,S,⟨_,_,rfl,rfl,rfl⟩,less_,?_⟩
  exact ⟨none,okO_nil S,rfl,rfl⟩
 ·iterate 12 refine s1_ ?_
  refine su_ [(0,_),(2,_),(4,_)] ?_
  refine cF_ ?_
  iterate 4 refine s1_ ?_
  refine ARun.build0 (lit_lt rfl) ty_sl_23 ?_
  intro b5 f5
  have g5:=f5
  repeat ((with_reducible replace g5:=fresh_set g5);obtain ⟨g5,_⟩:=g5)
  refine s1_ ?_
  refine ARun.appendOK (n:=3) (o:=some (b5,0)) (k:=0) (m:=l.length) (cs:=[]) (lit_lt rfl) ty_sl_23 rfl rfl rfl (okO_own f5 (Nat.le_refl _)) (appN_self (okO_own f5 (Nat.le_refl 0)) rfl) rfl ((hl.less less_).src wr_len) (flat_length wr_len l) (wr_one l) (by omega) (by omega) ?_
  intro o ho
  rw [Nat.zero_add] at ho ⊢
  iterate 3 refine s1_ ?_
  refine su_ [(0,_),(2,_),(4,_)] ?_
  refine s1_ ?_
  refine ⟨_,_,⟨_,_,rfl,rfl,rfl⟩,Mem.Less.refl _,?_⟩
  exact ⟨o,ho,rfl,rfl⟩
theorem outV_eq {S : Mem} {o : Option (Nat × Nat)} {n : Nat} (h : OkO S o n) : ∃ a c, outV o n = .slice a n c := by
 cases o with
 | none=>rw [h.nil rfl];exact ⟨none,0,rfl⟩
 | some q=>exact ⟨_,q.2,rfl⟩
/-- A disk whose slices are its own. -/
def dkV (d : D) (oE oW : Option (Nat × Nat)) : Value := .agg #[.int .i64 d.size, outV oE d.ext.length, outV oW d.waits.length, .int .i64 d.fuse, .bool d.down]
def dkM (S : Mem) (d : D) (oE oW : Option (Nat × Nat)) : Mem := outN 3 (outN 2 S oE extT (d.ext.flatMap extF)) oW wrT (d.waits.flatMap wrF)
structure OkD (S : Mem) (d : D) (oE oW : Option (Nat × Nat)) : Prop where
  e : OkO S oE d.ext.length
  w : OkO (outN 2 S oE extT (d.ext.flatMap extF)) oW d.waits.length
theorem OkD.less {S : Mem} {d : D} {oE oW : Option (Nat × Nat)} (h : OkD S d oE oW) : S.Less (dkM S d oE oW) := (outN_over h.e).trans (outN_over h.w)
theorem OkD.dk {S : Mem} {d : D} {oE oW : Option (Nat × Nat)} (h : OkD S d oE oW) (he : d.ext.length ≤ 9223372036854775807) (hw : d.waits.length ≤ 9223372036854775807) : DkR (dkM S d oE oW) (dkV d oE oW) d := by
 have h1:=sl_outN ext_len (e:=extT) h.e rfl he
 have h2:=sl_outN wr_len (e:=wrT) h.w rfl hw
 obtain ⟨a,c,e⟩:=outV_eq h.e
 obtain ⟨a',c',e'⟩:=outV_eq h.w
 rw [e] at h1;rw [e'] at h2
 exact ⟨a,c,a',c',by unfold dkV;rw [e,e'],h1.less (outN_over h.w),h2⟩
set_option maxHeartbeats 1000000 in
theorem disk_Own (v : Value) (d : D) (S : Mem) (hd : DkR S v d) (hz1 : d.ext.length ≤ 4398046511104) (hz2 : d.waits.length ≤ 3518437208883) :
  ACall Tryz.prog 64 #[v] S fun r S'=>∃ oE oW,OkD S d oE oW∧r=dkV d oE oW∧S'=dkM S d oE oW:=by
 obtain ⟨pe,ce,pw,cw,rfl,hE,hW⟩:=hd
 refine ACall.enter (rs:=[.cell 2 25]) 12 [(0,.agg #[.int .i64 d.size,.slice pe d.ext.length ce,.slice pw d.waits.length cw,.int .i64 d.fuse,.bool d.down])] Tryz.func64 rfl rfl (Nat.le_of_ble_eq_true rfl) rfl ⟨rfl,trivial⟩ ?_
 iterate 2 refine s1_ ?_
 refine k_b5 rfl ?_
 intro b1 f1
 have g1:=f1
 repeat ((with_reducible replace g1:=fresh_set g1);obtain ⟨g1,_⟩:=g1)
 refine nl_ ?_
 refine ARun.alloc (lit_lt rfl) ty_zero_25 ?_
 intro b2 f2
 have g2:=f2
 repeat ((with_reducible replace g2:=fresh_set g2);obtain ⟨g2,_⟩:=g2)
 refine nl_ ?_
 iterate 3 refine s1_ ?_
 refine AWP.draw [(0,true),(1,true),(3,true),(4,true),(2,false),(6,true),(5,false),(7,false),(8,true),(9,false)] [7,9] mixed (by kernel_rfl) ?_
 iterate 4 refine s1_ ?_
 refine draw_only rfl ?_
 refine ca_ rfl (((disk_CloneE _ d.ext S hE hz1).frame f1).frame f2) ?_
 rintro _ S1 ⟨Sa,⟨M,⟨oE,hoE,rfl,hM⟩,f1',hSa⟩,f2',h1⟩
 rw [h1,hSa];rw [hSa] at f2';clear h1 S1 hSa Sa
 obtain ⟨qe,de,hqe⟩:=outV_eq hoE
 rw [hqe]
 have hSM:S.Less M:=by rw [hM];exact outN_over hoE
 have hWM:Sl 3 wrF M (.slice pw d.waits.length cw) d.waits:=hW.less hSM
 refine arun_nil ⟨fun _=>less_,?_⟩
 refine s1_ ?_
 refine draw_only rfl ?_
 refine ca_ rfl (((disk_CloneW _ d.waits M hWM hz2).frame f1').frame f2') ?_
 rintro _ S1 ⟨Sa,⟨M2,⟨oW,hoW,rfl,hM2⟩,f1'',hSa⟩,f2'',h1⟩
 rw [h1,hSa];rw [hSa] at f2'';clear h1 S1 hSa Sa
 obtain ⟨g2m,_⟩:=fresh_set f2''
 obtain ⟨qw,dw,hqw⟩:=outV_eq hoW
 rw [hqw]
 have hSM2:S.Less M2:=hSM.trans (by rw [hM2];exact outN_over hoW)
 refine arun_nil ⟨fun _=>less_,?_⟩
 refine draw_only rfl ?_
 refine s1_ ?_
 refine arun_nil ⟨fun h=>absurd h (by decide),?_⟩
 refine s1_ ?_
 refine draw_only rfl ?_
 refine s1_ ?_
 refine arun_nil ⟨fun h=>absurd h (by decide),?_⟩
 iterate 2 refine s1_ ?_
 refine su_ [(0,_),(1,_),(2,_)] ?_
 iterate 6 refine s1_ ?_
 refine su_ [(0,_),(1,_),(2,_)] ?_
 refine s1_ ?_
 refine ⟨_,M2,⟨_,_,_,rfl,.inr ⟨ty_agg_25,[_,_,_,_,_],ty_size_25,rds_,rfl⟩,rfl,rfl⟩,less_,?_⟩
 exact ⟨oE,oW,⟨hoE,by rw [← hM];exact hoW⟩,by unfold dkV;rw [hqe,hqw];rfl,by rw [hM2,hM];rfl⟩
/-- A disk that is made or changed, and an error. -/
def DkRes (p : D × Int) (S : Mem) (r : Value) (S' : Mem) : Prop := ∃ v, r = .tuple #[v, .int .i64 p.2] ∧ S.Less S' ∧ DkR S' v p.1
theorem dkR_zero (S : Mem) : DkR S (.agg #[.int .i64 0, .slice none 0 0, .slice none 0 0, .int .i64 0, .bool false]) D0 := ⟨none, 0, none, 0, rfl, Sl.nil _ _ _, Sl.nil _ _ _⟩
def makeD (n : Int) : D × Int := if n < 0 ∨ 16384 < n then (D0, 1) else (⟨n, [], [], -1, false⟩, 0)
theorem disk_Make (n : Int) (S : Mem) : ACall Tryz.prog 48 #[.int .i64 n] S (DkRes (makeD n) S) := by
 unfold makeD
 by_cases h1:n<0
 ·rw [if_pos (.inl h1)]
  refine ACall.enter (rs:=[.cell 2 25,.tmp 3]) 13 [(0,.int .i64 n)] Tryz.func48 rfl rfl (Nat.le_of_ble_eq_true rfl) rfl ⟨rfl,trivial⟩ ?_
  iterate 2 refine s1_ ?_
  refine ARun.alloc (lit_lt rfl) ty_zero_25 ?_
  intro b2 f2
  have g2:=f2
  repeat ((with_reducible replace g2:=fresh_set g2);obtain ⟨g2,_⟩:=g2)
  refine nl_ ?_
  iterate 14 refine s1_ ?_
  refine su_ [(0,_),(2,_),(3,_),(9,_)] ?_
  refine cT_ ?_
  iterate 7 refine s1_ ?_
  refine su_ [(0,_),(2,_),(3,_),(9,_)] ?_
  iterate 2 refine s1_ ?_
  refine ⟨_,S,⟨_,_,_,rfl,.inr ⟨ty_agg_25,[_,_,_,_,_],ty_size_25,rds_,rfl⟩,⟨_,_,rfl,rfl,rfl⟩,rfl⟩,less_,?_⟩
  exact ⟨_,rfl,Mem.Less.refl _,dkR_zero S⟩
 ·by_cases h2:16384<n
  ·rw [if_pos (.inr h2)]
   refine ACall.enter (rs:=[.cell 2 25,.tmp 3]) 13 [(0,.int .i64 n)] Tryz.func48 rfl rfl (Nat.le_of_ble_eq_true rfl) rfl ⟨rfl,trivial⟩ ?_
   iterate 2 refine s1_ ?_
   refine ARun.alloc (lit_lt rfl) ty_zero_25 ?_
   intro b2 f2
   have g2:=f2
   repeat ((with_reducible replace g2:=fresh_set g2);obtain ⟨g2,_⟩:=g2)
   refine nl_ ?_
   iterate 14 refine s1_ ?_
   refine su_ [(0,_),(2,_),(3,_),(9,_)] ?_
   refine cT_ ?_
   iterate 7 refine s1_ ?_
   refine su_ [(0,_),(2,_),(3,_),(9,_)] ?_
   iterate 2 refine s1_ ?_
   refine ⟨_,S,⟨_,_,_,rfl,.inr ⟨ty_agg_25,[_,_,_,_,_],ty_size_25,rds_,rfl⟩,⟨_,_,rfl,rfl,rfl⟩,rfl⟩,less_,?_⟩
   exact ⟨_,rfl,Mem.Less.refl _,dkR_zero S⟩
  ·rw [if_neg (by omega)]
   refine ACall.enter (rs:=[.cell 2 25,.tmp 3]) 13 [(0,.int .i64 n)] Tryz.func48 rfl rfl (Nat.le_of_ble_eq_true rfl) rfl ⟨rfl,trivial⟩ ?_
   iterate 2 refine s1_ ?_
   refine ARun.alloc (lit_lt rfl) ty_zero_25 ?_
   intro b2 f2
   have g2:=f2
   repeat ((with_reducible replace g2:=fresh_set g2);obtain ⟨g2,_⟩:=g2)
   refine nl_ ?_
   iterate 14 refine s1_ ?_
   refine su_ [(0,_),(2,_),(3,_),(9,_)] ?_
   refine cF_ ?_
   iterate 10 refine s1_ ?_
   refine su_ [(0,_),(2,_),(3,_),(9,_)] ?_
   refine s1_ ?_
   refine ⟨_,S,⟨_,_,_,rfl,.inr ⟨ty_agg_25,[_,_,_,_,_],ty_size_25,rds_,rfl⟩,⟨_,_,rfl,rfl,rfl⟩,rfl⟩,less_,?_⟩
   exact ⟨_,rfl,Mem.Less.refl _,none,0,none,0,rfl,Sl.nil _ _ _,Sl.nil _ _ _⟩
/-- A disk at work: its block p, its slices its own. -/
def devM (S : Mem) (p : Nat) (d : D) (oE oW : Option (Nat × Nat)) : Mem := (dkM S d oE oW).set p ⟨102, [.int .i64 d.size, outV oE d.ext.length, outV oW d.waits.length, .int .i64 d.fuse, .bool d.down], 5⟩
structure OkV (S : Mem) (p : Nat) (d : D) (oE oW : Option (Nat × Nat)) : Prop where
  dk : OkD S d oE oW
  fr : Fresh (dkM S d oE oW) p
noncomputable def openD (d : D) : D × Int := if chkD d = 0 then (d, if d.down = true then 10 else 0) else (D0, 2)
/-- A disk at work, and an error. -/
def OpenR (p : D × Int) (S : Mem) (r : Value) (S' : Mem) : Prop := ∃ b oE oW, OkV S b p.1 oE oW ∧ r = .tuple #[.pointer (some ⟨b, 0, none⟩), .int .i64 p.2] ∧ S' = devM S b p.1 oE oW
set_option maxHeartbeats 1000000 in
theorem disk_Open (v : Value) (d : D) (S : Mem) (hd : DkR S v d) (hz : Dz d) :
  ACall Tryz.prog 49 #[v] S (OpenR (openD d) S):=by
 have hcheck:=fun M h=>disk_Check v d M h hz
 have hown:=fun M h=>disk_Own v d M h hz.el hz.wl
 obtain ⟨pe,ce,pw,cw,rfl,hE,hW⟩:=id hd
 unfold openD
 rcases chkD_or d with ⟨hk,hR⟩ | ⟨hk,hR⟩
 ·rw [if_pos hk]
  refine ACall.enter (rs:=[.tmp 2,.tmp 3]) 21 [(0,.agg #[.int .i64 d.size,.slice pe d.ext.length ce,.slice pw d.waits.length cw,.int .i64 d.fuse,.bool d.down])] Tryz.func49 rfl rfl (Nat.le_of_ble_eq_true rfl) rfl ⟨rfl,trivial⟩ ?_
  iterate 2 refine s1_ ?_
  refine k_b5 rfl ?_
  intro b1 f1
  have g1:=f1
  repeat ((with_reducible replace g1:=fresh_set g1);obtain ⟨g1,_⟩:=g1)
  refine nl_ ?_
  iterate 8 refine s1_ ?_
  refine ca_ rfl (hcheck _ (hd.less less_)) ?_
  rintro _ S1 ⟨rfl,h1⟩
  rw [h1,hk];clear h1 S1
  iterate 3 refine s1_ ?_
  refine su_ [(0,_),(1,_),(2,_),(3,_),(4,_)] ?_
  iterate 6 refine s1_ ?_
  refine su_ [(0,_),(1,_),(2,_),(3,_),(4,_),(9,_)] ?_
  refine cF_ ?_
  iterate 5 refine s1_ ?_
  refine ca_ rfl ((hown S hd).frame f1) ?_
  rintro _ S1 ⟨M,⟨oE,oW,hok,rfl,hM⟩,f1',h1⟩
  rw [h1];clear h1 S1
  have hSM:S.Less M:=by rw [hM];exact hok.less
  unfold dkV
  obtain ⟨qe,de,hqe⟩:=outV_eq hok.e
  obtain ⟨qw,dw,hqw⟩:=outV_eq hok.w
  rw [hqe,hqw]
  refine s1_ ?_
  refine k_b5 rfl ?_
  intro b16 f16
  have g16:=f16
  repeat ((with_reducible replace g16:=fresh_set g16);obtain ⟨g16,_⟩:=g16)
  refine nl_ ?_
  iterate 3 refine s1_ ?_
  refine su_ [(0,_),(1,_),(2,_),(3,_),(4,_),(9,_),(5,_)] ?_
  iterate 7 refine s1_ ?_
  refine su_ [(0,_),(1,_),(2,_),(3,_),(4,_),(9,_),(5,_),(18,_)] ?_
  refine AWP.condB rfl (fun hb=>?_) (fun hb=>?_)
  ·iterate 7 refine s1_ ?_
   refine su_ [(0,_),(1,_),(2,_),(3,_),(4,_),(9,_),(5,_),(18,_)] ?_
   iterate 2 refine s1_ ?_
   refine ⟨_,M.set b16 _,⟨_,_,rfl,⟨_,_,rfl,rfl,rfl⟩,rfl⟩,Less.set (Mem.less_set _ _ _ f1'.1) _ _,?_⟩
   exact ⟨b16,oE,oW,⟨hok,by rw [← hM];exact g16⟩,by rw [if_pos hb];rfl,by unfold devM;rw [hqe,hqw,← hM]⟩
  ·iterate 9 refine s1_ ?_
   refine su_ [(0,_),(1,_),(2,_),(3,_),(4,_),(9,_),(5,_),(18,_)] ?_
   refine s1_ ?_
   refine ⟨_,M.set b16 _,⟨_,_,rfl,⟨_,_,rfl,rfl,rfl⟩,rfl⟩,Less.set (Mem.less_set _ _ _ f1'.1) _ _,?_⟩
   exact ⟨b16,oE,oW,⟨hok,by rw [← hM];exact g16⟩,by rw [if_neg (Bool.eq_false_iff.1 hb)];rfl,by unfold devM;rw [hqe,hqw,← hM]⟩
 ·rw [if_neg (by rw [hk];decide)]
  refine ACall.enter (rs:=[.tmp 2,.tmp 3]) 21 [(0,.agg #[.int .i64 d.size,.slice pe d.ext.length ce,.slice pw d.waits.length cw,.int .i64 d.fuse,.bool d.down])] Tryz.func49 rfl rfl (Nat.le_of_ble_eq_true rfl) rfl ⟨rfl,trivial⟩ ?_
  iterate 2 refine s1_ ?_
  refine k_b5 rfl ?_
  intro b1 f1
  have g1:=f1
  repeat ((with_reducible replace g1:=fresh_set g1);obtain ⟨g1,_⟩:=g1)
  refine nl_ ?_
  iterate 8 refine s1_ ?_
  refine ca_ rfl (hcheck _ (hd.less less_)) ?_
  rintro _ S1 ⟨rfl,h1⟩
  rw [h1,hk];clear h1 S1
  iterate 3 refine s1_ ?_
  refine su_ [(0,_),(1,_),(2,_),(3,_),(4,_)] ?_
  iterate 6 refine s1_ ?_
  refine su_ [(0,_),(1,_),(2,_),(3,_),(4,_),(9,_)] ?_
  refine cT_ ?_
  iterate 3 refine s1_ ?_
  refine k_b5 rfl ?_
  intro b11 f11
  have g11:=f11
  repeat ((with_reducible replace g11:=fresh_set g11);obtain ⟨g11,_⟩:=g11)
  refine nl_ ?_
  iterate 5 refine s1_ ?_
  refine su_ [(0,_),(1,_),(2,_),(3,_),(4,_),(9,_)] ?_
  iterate 2 refine s1_ ?_
  refine ⟨_,S.set b11 _,⟨_,_,rfl,⟨_,_,rfl,rfl,rfl⟩,rfl⟩,Less.set (Mem.less_set _ _ _ f1.1) _ _,?_⟩
  exact ⟨b11,none,none,⟨⟨okO_nil _,okO_nil _⟩,g11⟩,rfl,rfl⟩
end Go.Proofs.YtceikpipmcadmaaGreatDoor
namespace Go.Proofs.YtceikpipmcadmaaGreatDoor
open Go.RowKit
open Mv Disk
set_option maxRecDepth 4000
/-- A disk at work that is read. -/
def RdV (M : Mem) (p : Nat) (d : D) : Prop := ∃ qe de qw dw, M.own p = some ⟨102, [.int .i64 d.size, .slice qe d.ext.length de, .slice qw d.waits.length dw, .int .i64 d.fuse, .bool d.down], 5⟩ ∧ Sl 2 extF M (.slice qe d.ext.length de) d.ext ∧ Sl 3 wrF M (.slice qw d.waits.length dw) d.waits
theorem RdV.less {M M' : Mem} {p : Nat} {d : D} (h : RdV M p d) (hl : M.Less M') : RdV M' p d := by
 obtain ⟨qe,de,qw,dw,h1,h2,h3⟩:=h
 exact ⟨qe,de,qw,dw,hl.own h1,h2.less hl,h3.less hl⟩
theorem OkV.rd {S : Mem} {p : Nat} {d : D} {oE oW : Option (Nat × Nat)} (h : OkV S p d oE oW) (he : d.ext.length ≤ 9223372036854775807) (hw : d.waits.length ≤ 9223372036854775807) : RdV (devM S p d oE oW) p d := by
 obtain ⟨a,c,e⟩:=outV_eq h.dk.e
 obtain ⟨a',c',e'⟩:=outV_eq h.dk.w
 have h1:=sl_outN ext_len (e:=extT) h.dk.e rfl he
 have h2:=sl_outN wr_len (e:=wrT) h.dk.w rfl hw
 rw [e] at h1;rw [e'] at h2
 have hl:(dkM S d oE oW).Less (devM S p d oE oW):=Mem.less_set _ _ _ h.fr.1
 refine ⟨a,c,a',c',?_,(h1.less (outN_over h.dk.w)).less hl,h2.less hl⟩
 unfold devM;rw [e,e'];exact Mem.own_set_same _ _ _
theorem OkV.less {S : Mem} {p : Nat} {d : D} {oE oW : Option (Nat × Nat)} (h : OkV S p d oE oW) : S.Less (devM S p d oE oW) := h.dk.less.trans (Mem.less_set _ _ _ h.fr.1)
theorem right_len {d : D} (h : Right d) : d.ext.length ≤ 16384 ∧ used d.ext ≤ 16384 := by
 have h1:=used_ge h.ex.ok;have h2:=h.ex.us;have h3:=h.s1;omega
theorem right_sec {d : D} (h : Right d) {x : Ext} (hx : x ∈ d.ext) : sec x ≤ 16384 ∧ x.2.size = 64 * sec x ∧ 1 ≤ sec x := by
 have h1:=used_mem hx;have h2:=right_len h;have h3:=eok_sec (h.ex.ok x hx);omega
theorem openD_or (d : D) : (openD d = (D0, 2) ∧ ¬ Right d) ∨ (openD d = (d, 10) ∧ Right d ∧ d.down = true) ∨ (openD d = (d, 0) ∧ Right d ∧ d.down = false) := by
 unfold openD
 rcases chkD_or d with ⟨hk,hR⟩ | ⟨hk,hR⟩
 ·right
  rw [if_pos hk]
  cases hdn:d.down with
  | true=>left;exact ⟨rfl,hR,rfl⟩
  | false=>right;exact ⟨rfl,hR,rfl⟩
 ·left;rw [if_neg (by rw [hk];decide)];exact ⟨rfl,hR⟩
theorem used_take {l : List Ext} {i : Nat} (h : i < l.length) : used (l.take (i + 1)) = used (l.take i) + sec l[i] := by rw [take_get h, used_append]; simp [used]
theorem used_take_le (l : List Ext) (i : Nat) : used (l.take i) ≤ used l := by
 have:=used_append (l.take i) (l.drop i)
 rw [List.take_append_drop] at this;omega
set_option maxHeartbeats 1000000 in
theorem dev_Room (p : Nat) (d : D) (M : Mem) (h : RdV M p d) (hR : Right d) : ACall Tryz.prog 137 #[.pointer (some ⟨p, 0, none⟩)] M fun r S' => r = .int .i64 (d.size - used d.ext) ∧ S' = M := by
 obtain ⟨qe,de,qw,dw,hp,hE,hW⟩:=h
 obtain ⟨_,_,ee1,ee2,ee3,hE3⟩:=id hE
 cases ee1
 have hrl:=right_len hR
 have hs0:=hR.s0;have hs1:=hR.s1
 refine ACall.enter (rs:=[.tmp 2]) 27 [(0,.pointer (some ⟨p,0,none⟩))] Tryz.func137 rfl rfl (Nat.le_of_ble_eq_true rfl) rfl ⟨rfl,trivial⟩ ?_
 iterate 15 refine s1_ ?_
 refine su_ [(0,_),(2,_),(3,_)] ?_
 iterate 12 refine s1_ ?_
 refine su_ [(0,_),(2,_),(3,_),(15,_),(16,_),(17,_)] ?_
 refine s1_ ?_
 refine AWP.loop (X:=Nat) (fun x=>[(3,.int .i64 (d.size-used (d.ext.take x))),(15,.slice qe d.ext.length de),(16,.int .i64 d.ext.length),(17,.int .i64 x)]) (fun x=>M) (fun x=>x≤d.ext.length) (fun x=>d.ext.length-x) (0) ⟨some_int (by simp [used]),rfl,rfl,rfl,trivial⟩ (Mem.Less.refl _) (Nat.zero_le _) ?_
 rintro i hi
 (try dsimp only at *)
 iterate 6 refine s1_ ?_
 refine AWP.condB rfl (fun hc=>?_) (fun hc=>?_)
 ·have hc:i<d.ext.length:=by have:=of_decide_eq_true hc;omega
  obtain ⟨b,off,rfl,hk⟩:=hE3.resolve_left (fun e=>by rw [e] at hc;simp at hc)
  have hki:=hk i hc
  have hut:=used_take hc
  have hul:=used_take_le d.ext (i+1)
  have hsx:=right_sec hR (List.getElem_mem hc)
  generalize d.ext[i]=x at *
  unfold extF at hki
  iterate 8 refine s1_ ?_
  refine ARun.alloc (lit_lt rfl) ty_zero_81 ?_
  intro b5 f5
  have g5:=f5
  repeat ((with_reducible replace g5:=fresh_set g5);obtain ⟨g5,_⟩:=g5)
  have:=g5.ne hp;have:=g5.ne' hp
  refine nl_ ?_
  iterate 3 refine s1_ ?_
  refine su_ [(3,_),(15,_),(16,_),(17,_),(18,_),(5,_)] ?_
  iterate 3 refine s1_ ?_
  refine ca_ rfl (disk_sectors x _ (by omega)) ?_
  rintro _ S1 ⟨rfl,h1⟩
  rw [h1];clear h1 S1
  iterate 5 refine s1_ ?_
  refine su_ [(3,_),(15,_),(16,_),(17,_),(18,_),(5,_)] ?_
  iterate 5 refine s1_ ?_
  refine ⟨i+1,?_,?_,?_,?_⟩
  all_goals (try dsimp only)
  ·exact ⟨some_int (by omega),rfl,rfl,rfl,trivial⟩
  ·exact less_
  ·exact hc
  ·omega
 ·have hc:i=d.ext.length:=by have:=of_decide_eq_false hc;omega
  subst hc
  rw [List.take_length]
  iterate 11 refine s1_ ?_
  refine su_ [(3,_),(15,_),(16,_),(17,_),(18,_),(2,_)] ?_
  refine s1_ ?_
  refine ⟨_,M,⟨_,_,rfl,rfl,rfl⟩,less_,?_⟩
  exact ⟨rfl,rfl⟩
noncomputable def roomD (d : D) : Int × Int := if (openD d).2 ≠ 0 then (0, (openD d).2) else (d.size - used d.ext, 0)
/-- The extent of a name. -/
def exOf (l : List Ext) (s : ByteArray) : Ext := l.getD (pos l s) (ByteArray.empty, ByteArray.empty)
theorem exOf_eq {l : List Ext} {s : ByteArray} (h : pos l s < l.length) : exOf l s = l[pos l s] := by simp [exOf, List.getD, List.getElem?_eq_getElem h]
noncomputable def sectorsD (d : D) (s : ByteArray) : Int × Int := if (openD d).2 ≠ 0 then (0, (openD d).2) else if has d.ext s = true then ((sec (exOf d.ext s) : Nat), 0) else (0, 3)
/-- Where an extent is that has a sector; why there is none. -/
def placeD (d : D) (s : ByteArray) (k : Int) : Nat × Int := if has d.ext s = true then (if k < 0 ∨ (sec (exOf d.ext s) : Int) ≤ k then (0, 1) else (pos d.ext s, 0)) else (0, 3)
set_option maxHeartbeats 1000000 in
theorem dev_place (p : Nat) (d : D) (s : ByteArray) (i : Int) (M : Mem) (h : RdV M p d) (hR : Right d) : ACall Tryz.prog 109 #[.pointer (some ⟨p, 0, none⟩), .string s, .int .i64 i] M fun r S' => r = .tuple #[.int .i64 ((placeD d s i).1 : Nat), .int .i64 (placeD d s i).2] ∧ S' = M := by
 obtain ⟨qe,de,qw,dw,hp,hME,hMW⟩:=h
 have hhp:=has_pos hR.ex.asc s
 unfold placeD
 by_cases q:has d.ext s=true
 ·obtain ⟨hlt,he⟩:=hhp.1 q
  have hsx:=right_sec hR (List.getElem_mem hlt)
  have hfind:=disk_find _ d.ext s M hME hR.ex.asc (Nat.le_trans (right_len hR).1 (by decide))
  rw [if_pos q,exOf_eq hlt]
  obtain ⟨_,_,ee1,ee2,ee3,hE3⟩:=id hME
  cases ee1
  obtain ⟨b,off,rfl,hk⟩:=hE3.resolve_left (fun e=>by rw [e] at hlt;simp at hlt)
  have hki:=hk _ hlt
  generalize hpp:pos d.ext s=k at *
  generalize d.ext[k]=x at *
  unfold extF at hki
  by_cases q1:i<0
  ·rw [if_pos (.inl q1)]
   refine ACall.enter (rs:=[.tmp 6,.tmp 7]) 40 [(0,.pointer (some ⟨p,0,none⟩)),(1,.string s),(2,.int .i64 i)] Tryz.func109 rfl rfl (Nat.le_of_ble_eq_true rfl) rfl ⟨rfl,rfl,rfl,trivial⟩ ?_
   iterate 14 refine s1_ ?_
   refine ca_ rfl (hfind) ?_
   rintro _ S1 ⟨rfl,h1⟩
   rw [h1,q];clear h1 S1
   iterate 7 refine s1_ ?_
   refine su_ [(0,_),(1,_),(2,_),(6,_),(7,_),(8,_),(9,_)] ?_
   iterate 9 refine s1_ ?_
   refine su_ [(0,_),(1,_),(2,_),(6,_),(7,_),(8,_),(9,_),(20,_)] ?_
   refine cF_ ?_
   iterate 20 refine s1_ ?_
   refine su_ [(0,_),(1,_),(2,_),(6,_),(7,_),(8,_),(9,_),(20,_),(23,_)] ?_
   refine cT_ ?_
   iterate 9 refine s1_ ?_
   refine ⟨_,M,⟨_,_,rfl,⟨_,_,rfl,rfl,rfl⟩,rfl⟩,less_,?_⟩
   exact ⟨rfl,rfl⟩
  ·by_cases q2:(sec x:Int)≤i
   ·rw [if_pos (.inr q2)]
    refine ACall.enter (rs:=[.tmp 6,.tmp 7]) 40 [(0,.pointer (some ⟨p,0,none⟩)),(1,.string s),(2,.int .i64 i)] Tryz.func109 rfl rfl (Nat.le_of_ble_eq_true rfl) rfl ⟨rfl,rfl,rfl,trivial⟩ ?_
    iterate 14 refine s1_ ?_
    refine ca_ rfl (hfind) ?_
    rintro _ S1 ⟨rfl,h1⟩
    rw [h1,q];clear h1 S1
    iterate 7 refine s1_ ?_
    refine su_ [(0,_),(1,_),(2,_),(6,_),(7,_),(8,_),(9,_)] ?_
    iterate 9 refine s1_ ?_
    refine su_ [(0,_),(1,_),(2,_),(6,_),(7,_),(8,_),(9,_),(20,_)] ?_
    refine cF_ ?_
    iterate 14 refine s1_ ?_
    refine ARun.callG 2 false 26 rfl (lit_lt rfl) rfl (lit_lt rfl) go_114 rfl (disk_sectors x _ (by omega)) ?_
    rintro _ S1 ⟨rfl,h1⟩
    rw [h1];clear h1 S1
    iterate 5 refine s1_ ?_
    refine su_ [(0,_),(1,_),(2,_),(6,_),(7,_),(8,_),(9,_),(20,_),(23,_)] ?_
    refine cT_ ?_
    iterate 9 refine s1_ ?_
    refine ⟨_,M,⟨_,_,rfl,⟨_,_,rfl,rfl,rfl⟩,rfl⟩,less_,?_⟩
    exact ⟨rfl,rfl⟩
   ·rw [if_neg (by omega)]
    refine ACall.enter (rs:=[.tmp 6,.tmp 7]) 40 [(0,.pointer (some ⟨p,0,none⟩)),(1,.string s),(2,.int .i64 i)] Tryz.func109 rfl rfl (Nat.le_of_ble_eq_true rfl) rfl ⟨rfl,rfl,rfl,trivial⟩ ?_
    iterate 14 refine s1_ ?_
    refine ca_ rfl (hfind) ?_
    rintro _ S1 ⟨rfl,h1⟩
    rw [h1,q];clear h1 S1
    iterate 7 refine s1_ ?_
    refine su_ [(0,_),(1,_),(2,_),(6,_),(7,_),(8,_),(9,_)] ?_
    iterate 9 refine s1_ ?_
    refine su_ [(0,_),(1,_),(2,_),(6,_),(7,_),(8,_),(9,_),(20,_)] ?_
    refine cF_ ?_
    iterate 14 refine s1_ ?_
    refine ARun.callG 2 false 26 rfl (lit_lt rfl) rfl (lit_lt rfl) go_114 rfl (disk_sectors x _ (by omega)) ?_
    rintro _ S1 ⟨rfl,h1⟩
    rw [h1];clear h1 S1
    iterate 5 refine s1_ ?_
    refine su_ [(0,_),(1,_),(2,_),(6,_),(7,_),(8,_),(9,_),(20,_),(23,_)] ?_
    refine cF_ ?_
    iterate 10 refine s1_ ?_
    refine su_ [(0,_),(1,_),(2,_),(6,_),(7,_),(8,_),(9,_),(20,_),(23,_)] ?_
    refine s1_ ?_
    refine ⟨_,M,⟨_,_,rfl,⟨_,_,rfl,rfl,rfl⟩,rfl⟩,less_,?_⟩
    exact ⟨rfl,rfl⟩
 ·rw [if_neg q]
  refine ACall.enter (rs:=[.tmp 6,.tmp 7]) 40 [(0,.pointer (some ⟨p,0,none⟩)),(1,.string s),(2,.int .i64 i)] Tryz.func109 rfl rfl (Nat.le_of_ble_eq_true rfl) rfl ⟨rfl,rfl,rfl,trivial⟩ ?_
  iterate 14 refine s1_ ?_
  refine ca_ rfl (disk_find _ d.ext s _ hME hR.ex.asc (Nat.le_trans (right_len hR).1 (by decide))) ?_
  rintro _ S1 ⟨rfl,h1⟩
  rw [h1,Bool.eq_false_iff.2 q];clear h1 S1
  iterate 7 refine s1_ ?_
  refine su_ [(0,_),(1,_),(2,_),(6,_),(7,_),(8,_),(9,_)] ?_
  iterate 9 refine s1_ ?_
  refine su_ [(0,_),(1,_),(2,_),(6,_),(7,_),(8,_),(9,_),(20,_)] ?_
  refine cT_ ?_
  iterate 9 refine s1_ ?_
  refine ⟨_,M,⟨_,_,rfl,⟨_,_,rfl,rfl,rfl⟩,rfl⟩,less_,?_⟩
  exact ⟨rfl,rfl⟩
end Go.Proofs.YtceikpipmcadmaaGreatDoor
