/-
  Texts that belong together: Disk21, Disk22, Pool1, Pool2, Pool3, Pool4, Pool5, Pool6, Pool7, Pool8, Pool9, Pool10.
-/
import Derived.Test.YtkeiphkccnfhoaaGreatBPq2
set_option linter.unusedVariables false
set_option linter.unusedSimpArgs false
set_option linter.unusedSectionVars false
namespace Go.Proofs.YtkeiphkccnfhoaaGreat
open Go.RowKit Go.Shelf
open Mv Disk
set_option maxRecDepth 4000
/-- A disk at work of which we know the cells. -/
def RdK (M : Mem) (p : Nat) (d : D) (qe : Option Addr) (de : Nat) (sv : Value) : Prop := M.Knows ⟨p, 0, none⟩ [.int .i64 d.size, .slice qe d.ext.length de, sv, .int .i64 d.fuse, .bool d.down] ∧ Sl 2 extF M (.slice qe d.ext.length de) d.ext
set_option maxHeartbeats 1000000 in
theorem dev_placeK (p : Nat) (d : D) (s : ByteArray) (i : Int) (M : Mem) (qe : Option Addr) (de : Nat) (sv : Value) (h : RdK M p d qe de sv) (hR : Right d) : ACall Tryz.prog 92 #[.pointer (some ⟨p, 0, none⟩), .string s, .int .i64 i] M fun r S' => r = .tuple #[.int .i64 ((placeD d s i).1 : Nat), .int .i64 (placeD d s i).2] ∧ S' = M := by
 obtain ⟨hp,hME⟩:=h
 have hp1:=kn_at hp 1 rfl
 have hhp:=has_pos hR.ex.asc s
 unfold placeD
 by_cases q:has d.ext s=true
 ·obtain ⟨hlt,he⟩:=hhp.1 q
  have hsx:=right_sec hR (List.getElem_mem hlt)
  have hfind:=disk_find _ d.ext s M hME hR.ex.asc (Nat.le_trans (right_len hR).1 (by decide))
  rw [if_pos q,exOf_eq hlt]
  obtain ⟨_,_,ee1,ee2,ee3,hE3⟩:=id hME
  cases ee1
  obtain ⟨b,off,rfl,hk⟩:=hE3.resolve_left (fun e=>by rw [e] at hlt;simp at hlt)
  have hki:=hk _ hlt
  generalize hpp:pos d.ext s=k at *
  generalize d.ext[k]=x at *
  unfold extF at hki
  by_cases q1:i<0
  ·rw [if_pos (.inl q1)]
   refine ACall.enter (rs:=[.tmp 6,.tmp 7]) 40 [(0,.pointer (some ⟨p,0,none⟩)),(1,.string s),(2,.int .i64 i)] Tryz.func92 rfl rfl (Nat.le_of_ble_eq_true rfl) rfl ⟨rfl,rfl,rfl,trivial⟩ ?_
   refine k_a (k_s rfl (k_e rfl (k_a (k_m rfl ?_))))
   refine rC (Calm.nilCheck rfl) ?_
   refine rC (Calm.fieldAddr ty_field_79_0 rfl) ?_
   refine rC (Calm.fieldAddr ty_field_25_1 rfl) ?_
   refine rC (ld_ ty_plain_22 rfl) ?_
   refine k_m rfl ?_
   refine ARun.call (lit_lt rfl) go_77 rfl (hfind) ?_
   rintro _ S1 ⟨rfl,h1⟩
   rw [h1,q];clear h1 S1
   refine k_m rfl ?_
   refine rC (Calm.extract rfl rfl) ?_
   refine rC (Calm.extract rfl rfl) ?_
   refine k_s rfl (k_e rfl ?_)
   refine k_u [(0,_),(1,_),(2,_),(6,_),(7,_),(8,_),(9,_)] ?_
   refine AWP.seq ?_
   refine AWP.block ?_
   refine k_a (k_m rfl ?_)
   refine rC (Calm.un rfl (una_not _)) ?_
   refine k_e rfl ?_
   refine k_u [(0,_),(1,_),(2,_),(6,_),(7,_),(8,_),(9,_),(20,_)] ?_
   refine k_F rfl ?_
   refine k_a (k_m rfl ?_)
   refine rC (Calm.bin rfl rfl b_lss) ?_
   refine k_m rfl ?_
   first|refine k_q 26 ?_|refine rG 26 (Calm.move rfl) ?_
   first|refine k_q 26 ?_|refine rG 26 (Calm.move rfl) ?_
   first|refine k_q 26 ?_|refine rG 26 (Calm.nilCheck rfl) ?_
   first|refine k_q 26 ?_|refine rG 26 (Calm.fieldAddr ty_field_79_0 rfl) ?_
   first|refine k_q 26 ?_|refine rG 26 (Calm.fieldAddr ty_field_25_1 rfl) ?_
   first|refine k_q 26 ?_|refine rG 26 (ld_ ty_plain_22 rfl) ?_
   first|refine k_q 26 ?_|refine rG 26 (Calm.move rfl) ?_
   first|refine k_q 26 ?_|refine rG 26 (Calm.indexS Tryz.underlying22 ty_size_101 rfl rfl (by omega) (by omega)) ?_
   first|refine k_q 26 ?_|refine rG 26 (ldA_ (cs:=[_,_]) ty_agg_101 ty_size_101 rfl) ?_
   first | refine rS 26 ?_ | refine rU 26 ?_
   first|refine k_q 26 ?_|refine rG 26 (Calm.bin rfl rfl b_geq) ?_
   first|refine k_t rfl rfl ?_|refine k_f rfl rfl ?_
   refine k_e rfl ?_
   refine k_u [(0,_),(1,_),(2,_),(6,_),(7,_),(8,_),(9,_),(20,_),(23,_)] ?_
   refine k_T rfl ?_
   refine k_a (k_s rfl (k_e rfl ?_))
   refine AWP.ret ?_
   refine ain_ret ?_
   refine athen_ret ?_
   refine ⟨_,M,⟨_,_,rfl,⟨_,_,rfl,rfl,rfl⟩,rfl⟩,less_,?_⟩
   exact ⟨rfl,rfl⟩
  ·by_cases q2:(sec x:Int)≤i
   ·rw [if_pos (.inr q2)]
    refine ACall.enter (rs:=[.tmp 6,.tmp 7]) 40 [(0,.pointer (some ⟨p,0,none⟩)),(1,.string s),(2,.int .i64 i)] Tryz.func92 rfl rfl (Nat.le_of_ble_eq_true rfl) rfl ⟨rfl,rfl,rfl,trivial⟩ ?_
    refine k_a (k_s rfl (k_e rfl (k_a (k_m rfl ?_))))
    refine rC (Calm.nilCheck rfl) ?_
    refine rC (Calm.fieldAddr ty_field_79_0 rfl) ?_
    refine rC (Calm.fieldAddr ty_field_25_1 rfl) ?_
    refine rC (ld_ ty_plain_22 rfl) ?_
    refine k_m rfl ?_
    refine ARun.call (lit_lt rfl) go_77 rfl (hfind) ?_
    rintro _ S1 ⟨rfl,h1⟩
    rw [h1,q];clear h1 S1
    refine k_m rfl ?_
    refine rC (Calm.extract rfl rfl) ?_
    refine rC (Calm.extract rfl rfl) ?_
    refine k_s rfl (k_e rfl ?_)
    refine k_u [(0,_),(1,_),(2,_),(6,_),(7,_),(8,_),(9,_)] ?_
    refine AWP.seq ?_
    refine AWP.block ?_
    refine k_a (k_m rfl ?_)
    refine rC (Calm.un rfl (una_not _)) ?_
    refine k_e rfl ?_
    refine k_u [(0,_),(1,_),(2,_),(6,_),(7,_),(8,_),(9,_),(20,_)] ?_
    refine k_F rfl ?_
    refine k_a (k_m rfl ?_)
    refine rC (Calm.bin rfl rfl b_lss) ?_
    refine k_m rfl ?_
    first|refine k_q 26 ?_|refine rG 26 (Calm.move rfl) ?_
    first|refine k_q 26 ?_|refine rG 26 (Calm.move rfl) ?_
    first|refine k_q 26 ?_|refine rG 26 (Calm.nilCheck rfl) ?_
    first|refine k_q 26 ?_|refine rG 26 (Calm.fieldAddr ty_field_79_0 rfl) ?_
    first|refine k_q 26 ?_|refine rG 26 (Calm.fieldAddr ty_field_25_1 rfl) ?_
    first|refine k_q 26 ?_|refine rG 26 (ld_ ty_plain_22 rfl) ?_
    first|refine k_q 26 ?_|refine rG 26 (Calm.move rfl) ?_
    first|refine k_q 26 ?_|refine rG 26 (Calm.indexS Tryz.underlying22 ty_size_101 rfl rfl (by omega) (by omega)) ?_
    first|refine k_q 26 ?_|refine rG 26 (ldA_ (cs:=[_,_]) ty_agg_101 ty_size_101 rfl) ?_
    refine ARun.callG 2 false 26 rfl (lit_lt rfl) rfl (lit_lt rfl) go_78 rfl (disk_sectors x _ (by omega)) ?_
    rintro _ S1 ⟨rfl,h1⟩
    rw [h1];clear h1 S1
    first|refine k_q 26 ?_|refine rG 26 (Calm.bin rfl rfl b_geq) ?_
    first|refine k_t rfl rfl ?_|refine k_f rfl rfl ?_
    refine k_e rfl ?_
    refine k_u [(0,_),(1,_),(2,_),(6,_),(7,_),(8,_),(9,_),(20,_),(23,_)] ?_
    refine k_T rfl ?_
    refine k_a (k_s rfl (k_e rfl ?_))
    refine AWP.ret ?_
    refine ain_ret ?_
    refine athen_ret ?_
    refine ⟨_,M,⟨_,_,rfl,⟨_,_,rfl,rfl,rfl⟩,rfl⟩,less_,?_⟩
    exact ⟨rfl,rfl⟩
   ·rw [if_neg (by omega)]
    refine ACall.enter (rs:=[.tmp 6,.tmp 7]) 40 [(0,.pointer (some ⟨p,0,none⟩)),(1,.string s),(2,.int .i64 i)] Tryz.func92 rfl rfl (Nat.le_of_ble_eq_true rfl) rfl ⟨rfl,rfl,rfl,trivial⟩ ?_
    refine k_a (k_s rfl (k_e rfl (k_a (k_m rfl ?_))))
    refine rC (Calm.nilCheck rfl) ?_
    refine rC (Calm.fieldAddr ty_field_79_0 rfl) ?_
    refine rC (Calm.fieldAddr ty_field_25_1 rfl) ?_
    refine rC (ld_ ty_plain_22 rfl) ?_
    refine k_m rfl ?_
    refine ARun.call (lit_lt rfl) go_77 rfl (hfind) ?_
    rintro _ S1 ⟨rfl,h1⟩
    rw [h1,q];clear h1 S1
    refine k_m rfl ?_
    refine rC (Calm.extract rfl rfl) ?_
    refine rC (Calm.extract rfl rfl) ?_
    refine k_s rfl (k_e rfl ?_)
    refine k_u [(0,_),(1,_),(2,_),(6,_),(7,_),(8,_),(9,_)] ?_
    refine AWP.seq ?_
    refine AWP.block ?_
    refine k_a (k_m rfl ?_)
    refine rC (Calm.un rfl (una_not _)) ?_
    refine k_e rfl ?_
    refine k_u [(0,_),(1,_),(2,_),(6,_),(7,_),(8,_),(9,_),(20,_)] ?_
    refine k_F rfl ?_
    refine k_a (k_m rfl ?_)
    refine rC (Calm.bin rfl rfl b_lss) ?_
    refine k_m rfl ?_
    first|refine k_q 26 ?_|refine rG 26 (Calm.move rfl) ?_
    first|refine k_q 26 ?_|refine rG 26 (Calm.move rfl) ?_
    first|refine k_q 26 ?_|refine rG 26 (Calm.nilCheck rfl) ?_
    first|refine k_q 26 ?_|refine rG 26 (Calm.fieldAddr ty_field_79_0 rfl) ?_
    first|refine k_q 26 ?_|refine rG 26 (Calm.fieldAddr ty_field_25_1 rfl) ?_
    first|refine k_q 26 ?_|refine rG 26 (ld_ ty_plain_22 rfl) ?_
    first|refine k_q 26 ?_|refine rG 26 (Calm.move rfl) ?_
    first|refine k_q 26 ?_|refine rG 26 (Calm.indexS Tryz.underlying22 ty_size_101 rfl rfl (by omega) (by omega)) ?_
    first|refine k_q 26 ?_|refine rG 26 (ldA_ (cs:=[_,_]) ty_agg_101 ty_size_101 rfl) ?_
    refine ARun.callG 2 false 26 rfl (lit_lt rfl) rfl (lit_lt rfl) go_78 rfl (disk_sectors x _ (by omega)) ?_
    rintro _ S1 ⟨rfl,h1⟩
    rw [h1];clear h1 S1
    first|refine k_q 26 ?_|refine rG 26 (Calm.bin rfl rfl b_geq) ?_
    first|refine k_t rfl rfl ?_|refine k_f rfl rfl ?_
    refine k_e rfl ?_
    refine k_u [(0,_),(1,_),(2,_),(6,_),(7,_),(8,_),(9,_),(20,_),(23,_)] ?_
    refine k_F rfl ?_
    refine AWP.skip ?_
    refine ain_n ?_
    refine athen_n ?_
    refine k_a (k_m rfl (k_s rfl (k_e rfl ?_)))
    refine k_u [(0,_),(1,_),(2,_),(6,_),(7,_),(8,_),(9,_),(20,_),(23,_)] ?_
    refine AWP.ret ?_
    refine ⟨_,M,⟨_,_,rfl,⟨_,_,rfl,rfl,rfl⟩,rfl⟩,less_,?_⟩
    exact ⟨rfl,rfl⟩
 ·rw [if_neg q]
  refine ACall.enter (rs:=[.tmp 6,.tmp 7]) 40 [(0,.pointer (some ⟨p,0,none⟩)),(1,.string s),(2,.int .i64 i)] Tryz.func92 rfl rfl (Nat.le_of_ble_eq_true rfl) rfl ⟨rfl,rfl,rfl,trivial⟩ ?_
  refine k_a (k_s rfl (k_e rfl (k_a (k_m rfl ?_))))
  refine rC (Calm.nilCheck rfl) ?_
  refine rC (Calm.fieldAddr ty_field_79_0 rfl) ?_
  refine rC (Calm.fieldAddr ty_field_25_1 rfl) ?_
  refine rC (ld_ ty_plain_22 rfl) ?_
  refine k_m rfl ?_
  refine ARun.call (lit_lt rfl) go_77 rfl (disk_find _ d.ext s _ hME hR.ex.asc (Nat.le_trans (right_len hR).1 (by decide))) ?_
  rintro _ S1 ⟨rfl,h1⟩
  rw [h1,Bool.eq_false_iff.2 q];clear h1 S1
  refine k_m rfl ?_
  refine rC (Calm.extract rfl rfl) ?_
  refine rC (Calm.extract rfl rfl) ?_
  refine k_s rfl (k_e rfl ?_)
  refine k_u [(0,_),(1,_),(2,_),(6,_),(7,_),(8,_),(9,_)] ?_
  refine AWP.seq ?_
  refine AWP.block ?_
  refine k_a (k_m rfl ?_)
  refine rC (Calm.un rfl (una_not _)) ?_
  refine k_e rfl ?_
  refine k_u [(0,_),(1,_),(2,_),(6,_),(7,_),(8,_),(9,_),(20,_)] ?_
  refine k_T rfl ?_
  refine k_a (k_s rfl (k_e rfl ?_))
  refine AWP.ret ?_
  refine ain_ret ?_
  refine athen_ret ?_
  refine ⟨_,M,⟨_,_,rfl,⟨_,_,rfl,rfl,rfl⟩,rfl⟩,less_,?_⟩
  exact ⟨rfl,rfl⟩
/-- What stands in a world stands in a later one. -/
theorem view_later {w w1 : World} (h : Below w.heap.size w w1) : View (roM w) w1 :=
 ⟨fun _ _ h=>(by cases h),fun a v hv=>⟨by
  have hb:a.block<w.heap.size:=by
   rcases Nat.lt_or_ge a.block w.heap.size with q | q
   ·exact q
   ·have hv':w.cell? a=some v:=hv
    simp [World.cell?,Array.getElem?_eq_none q] at hv'
  exact (h.cell hb).trans hv,rfl⟩⟩
theorem place_calls (p : Nat) (d : D) (s : ByteArray) (i : Int) (w : World) (qe : Option Addr) (de : Nat) (sv : Value) (h : RdK (roM w) p d qe de sv) (hR : Right d) (w1 : World) (hb : Below w.heap.size w w1) :
  Calls Tryz.prog 92 #[.pointer (some ⟨p,0,none⟩),.string s,.int .i64 i] w1 fun e w2=>e = .returned (.tuple #[.int .i64 ((placeD d s i).1:Nat),.int .i64 (placeD d s i).2])∧Below w1.heap.size w1 w2 :=
 (dev_placeK p d s i (roM w) qe de sv h hR w1 (view_later hb)).mono fun _ _ ⟨v,S',he,⟨hr,_⟩,st⟩=>⟨by rw [he,hr],st.toBelow fun _=>rfl⟩
theorem boxes4 {w w2 : World} {t1 t2 t3 t4 : TypeId} {v1 v2 v3 v4 : Value} (h : Below ((((w.alloc (.cells #[v1] t1)).alloc (.cells #[v2] t2)).alloc (.cells #[v3] t3)).alloc (.cells #[v4] t4)).heap.size ((((w.alloc (.cells #[v1] t1)).alloc (.cells #[v2] t2)).alloc (.cells #[v3] t3)).alloc (.cells #[v4] t4)) w2) :
  Boxed w2 w.heap.size t1 v1∧Boxed w2 (w.heap.size+1) t2 v2∧Boxed w2 (w.heap.size+1+1) t3 v3∧Boxed w2 (w.heap.size+1+1+1) t4 v4∧Below w.heap.size w w2∧w.heap.size+4≤w2.heap.size:=by
 have b1:=(((Boxed.new w t1 v1).alloc (.cells #[v2] t2)).alloc (.cells #[v3] t3)).alloc (.cells #[v4] t4)
 have b2:=((Boxed.new (w.alloc (.cells #[v1] t1)) t2 v2).alloc (.cells #[v3] t3)).alloc (.cells #[v4] t4)
 have b3:=(Boxed.new ((w.alloc (.cells #[v1] t1)).alloc (.cells #[v2] t2)) t3 v3).alloc (.cells #[v4] t4)
 have b4:=Boxed.new (((w.alloc (.cells #[v1] t1)).alloc (.cells #[v2] t2)).alloc (.cells #[v3] t3)) t4 v4
 have hB0:Below w.heap.size w ((((w.alloc (.cells #[v1] t1)).alloc (.cells #[v2] t2)).alloc (.cells #[v3] t3)).alloc (.cells #[v4] t4)):=((((Below.refl _ w).alloc (Nat.le_refl _) _).alloc (by simp) _).alloc (by simp;omega) _).alloc (by simp;omega) _
 have hsz:((((w.alloc (.cells #[v1] t1)).alloc (.cells #[v2] t2)).alloc (.cells #[v3] t3)).alloc (.cells #[v4] t4)).heap.size=w.heap.size+4:=by simp
 simp only [World.size_alloc] at b2 b3 b4
 rw [hsz] at h
 exact ⟨(h.block _ (by omega)).trans b1,(h.block _ (by omega)).trans b2,(h.block _ (by omega)).trans b3,(h.block _ (by omega)).trans b4,hB0.trans (h.mono (by omega)),by rw [← hsz];exact h.size⟩
theorem cell_new3 (W : World) (cs : Array Value) (t : TypeId) (i : Nat) {v : Value} (h : cs[i]? = some v) : (W.alloc (.cells cs t)).cell? ⟨W.heap.size, i, none⟩ = some v := by
 have e:=World.alloc_heap_new W (.cells cs t)
 unfold World.cell?
 rw [e]
 exact h
theorem place_ok {d : D} {s : ByteArray} {k : Int} {j : Nat} (hR : Right d) (h : placeD d s k = (j, 0)) : ∃ hlt : j < d.ext.length, exOf d.ext s = d.ext[j] ∧ 0 ≤ k ∧ k < sec d.ext[j] := by
 unfold placeD at h
 by_cases q:has d.ext s=true
 ·obtain ⟨hlt,_⟩:=(has_pos hR.ex.asc s).1 q
  rw [if_pos q] at h
  by_cases q1:k<0∨(sec (exOf d.ext s):Int)≤k
  ·rw [if_pos q1] at h;simp at h
  ·rw [if_neg q1] at h
   obtain rfl:pos d.ext s=j:=by simpa using h
   rw [exOf_eq hlt] at q1 ⊢
   exact ⟨hlt,rfl,by omega,by omega⟩
 ·rw [if_neg q] at h;simp at h
attribute [local go_sem] Oper.semAt_some
theorem boxed_below {n B : Nat} {W W' : World} {t : TypeId} {v : Value} (h : Below n W W') (hb : B < n) (hx : Boxed W B t v) : Boxed W' B t v := (h.block _ hb).trans hx
theorem Waits.grow {n m : Nat} {W : World} {sv : Value} {zs : List Wr} (h : Waits n W sv zs) (hl : n ≤ m) : Waits m W sv zs := by
 obtain ⟨A,cap,e,h1⟩:=h
 exact ⟨A,cap,e,h1.imp id fun ⟨b,off,e1,hb,hc⟩=>⟨b,off,e1,by omega,hc⟩⟩
theorem wr_facts {m : Nat} {ex : Ext} (h1 : sec ex ≤ 16384 ∧ ex.2.size = 64 * sec ex ∧ 1 ≤ sec ex) (h2 : (m : Int) < (sec ex : Int)) : IntKind.i64.wrap (64 * (m : Int)) = ((64 * m : Nat) : Int) ∧ IntKind.i64.wrap ((m : Int) + 1) = ((m + 1 : Nat) : Int) ∧ IntKind.i64.wrap (64 * ((m + 1 : Nat) : Int)) = ((64 * (m + 1) : Nat) : Int) ∧ 64 * (m + 1) ≤ ex.2.size := by
 refine ⟨?_,?_,?_,by omega⟩
 ·rw [IntWalk.i64_in _ (by omega)];omega
 ·rw [IntWalk.i64_in _ (by omega)];omega
 ·rw [IntWalk.i64_in _ (by omega)];omega
/-! ### A region behind a deferred mark -/
def Lk (a : Act) : Env → Prop
  | [] => True
  | (k, v) :: E => a.tmps.getD k undef = v ∧ Lk a E
theorem Lk.at_ {a : Act} : ∀ {E : Env}, Lk a E → ∀ d v, lk E d = some v → a.tmps.getD d undef = v
 | [],_,d,v,h=>by cases h
 | (k,u) :: E,⟨h1,h2⟩,d,v,h=>by
  simp only [lk] at h
  split at h
  ·rename_i e;cases h;rw [← e];exact h1
  ·exact h2.at_ d v h
theorem yield_calm {P : Program} {N : Nat} {o : Oper} {E : Env} {v : Value} {R : Value → World → Prop} {a : Act} {w : World} (hsz : a.tmps.size = N) (hE : Lk a E) (hc : ACalm P N o E (roM w) v) (hR : R v w) : Reg.Yield P (execOp a.eval o) w R := by
 unfold Reg.Yield
 have:=hc ⟨a.tmps,[]⟩ w ⟨hsz,rfl,hE.at_⟩ (view_roM w)
 have e:(execOp a.eval o).run P w = .ok (.value v) w:=this
 rw [e];exact hR
theorem rd_roM {w : World} {a : Addr} {v : Value} (h : w.cell? a = some v) : (roM w).rd a = some v := h
theorem yield_store {P : Program} {T : TypeId} {x y : Operand} {a : Act} {w : World} {b : Nat} {t : TypeId} {v0 v : Value} {ty : TypeId} {pos : String} {aft : Array Edge} {gd : Option (Nat × Bool)} {R : Value → World → Prop} (hs : sizeT P T = some 1) (hc : v.cells = #[v]) (h1 : v.oneCell' = true) (hb : Boxed w b t v0) (hx : a.eval x = .pointer (some ⟨b, 0, none⟩)) (hy : a.eval y = v) (hR : R undef (w.setCell ⟨b, 0, none⟩ v)) : Reg.Yield P (execOp a.eval ⟨none, .store T x y, ty, pos, aft, gd⟩) w R := by
 have hv:View ⟨fun k=>if k=b then some ⟨t,[v0],1⟩ else none,fun _=>none⟩ w:=⟨fun k r hk=>(by
  by_cases e:k=b
  ·subst e
   simp only [if_true] at hk
   cases hk
   exact ⟨#[v0],(0,0),hb,List.prefix_refl _,Nat.le_refl _,fun j _ h=>by omega⟩
  ·simp only [if_neg e] at hk;cases hk),fun _ _ h=>(by cases h)⟩
 obtain ⟨h2,_⟩:=store_cells (P:=P) hv (b:=b) (o:=0) (r:=⟨t,[v0],1⟩) (vs:=[v]) (by simp) (Nat.zero_le _) (.inl (Nat.le_refl _)) (by simpa using h1)
 have e:(execOp a.eval ⟨none,.store T x y,ty,pos,aft,gd⟩).run P w = .ok .skip (w.setCell ⟨b,0,none⟩ v):=by
  have hs':sizeT P T=some v.cells.size:=by rw [hc];exact hs
  have h2':(storeCells ⟨b,0,none⟩ v.cells.toList).run P w = .ok () (w.setCell ⟨b,0,none⟩ v):=by rw [hc];exact h2
  simp [execOp,hx,hy,Instr.storeAt,Instr.sureAddr,storeVar,run_sizeT hs' w,h2']
 unfold Reg.Yield
 rw [e];exact hR
theorem no_dst {ops : Array Oper} {d : Nat} (h : (ops.toList.all fun o => o.dst != some d) = true) : ∀ (k : Nat) (o : Oper), ops[k]? = some o → o.dst ≠ some d := fun k o hk e => by
 have:=List.all_eq_true.1 h o (by simpa using Array.mem_of_getElem? hk)
 rw [e] at this;simp at this
/-- The two stores of the answer, as far as they are done. -/
def two (W : World) (B6 B7 : Nat) (v6 v7 : Value) : Bool → Bool → World
  | _, true => (W.setCell ⟨B6, 0, none⟩ v6).setCell ⟨B7, 0, none⟩ v7
  | true, false => W.setCell ⟨B6, 0, none⟩ v6
  | false, false => W
theorem keep_two {W : World} {B6 B7 : Nat} {v6 v7 : Value} {st : Nat → Bool} {w1 : World} {i : Nat} (h : w1 = two W B6 B7 v6 v7 (st 15) (st 16)) (h1 : 15 ≠ i) (h2 : 16 ≠ i) : w1 = two W B6 B7 v6 v7 (Reg.upd st i 15) (Reg.upd st i 16) := by
 rw [Reg.upd_other _ h1,Reg.upd_other _ h2];exact h
theorem two_none {W : World} {B6 B7 : Nat} {v6 v7 : Value} {st : Nat → Bool} {w1 : World} (h : w1 = two W B6 B7 v6 v7 (st 15) (st 16)) (h1 : st 15 = false) (h2 : st 16 = false) : w1 = W := by
 rw [h,h1,h2];rfl
set_option maxRecDepth 100000 in
set_option maxHeartbeats 4000000 in
theorem readW (p : Nat) (d : D) (s : ByteArray) (k : Int) (w : World) (qe : Option Addr) (de : Nat) (sv : Value) (h : RdK (roM w) p d qe de sv) (hR : Right d) (hpn : p < w.heap.size) (hWt : Waits w.heap.size w sv d.waits) (hlen : d.waits.length ≤ 16384) :
  Calls Tryz.prog 68 #[.pointer (some ⟨p,0,none⟩),.string s,.int .i64 k] w fun e w'=>e = .returned (.tuple #[.string (readD d s k).1,.int .i64 (readD d s k).2])∧Below w.heap.size w w':=by
 have hpl:=place_calls p d s k w qe de sv h hR
 generalize hrv:readD d s k=rv
 obtain ⟨rv1,rv2⟩:=rv
 unfold readD at hrv
 generalize hpd:placeD d s k=pl at *
 obtain ⟨j,er⟩:=pl
 have hc:∀ i v,[Value.int .i64 d.size,.slice qe d.ext.length de,sv,.int .i64 d.fuse,.bool d.down][i]?=some v → ∀ w2,Below w.heap.size w w2→w2.cell? ⟨p,i,none⟩=some v:=fun i v hi w2 hb=>by
  have:=h.1 w (view_roM w) i v hi
  have e:(⟨p,0,none⟩ : Addr).add i=⟨p,i,none⟩:=by unfold Addr.add;cases i <;> simp
  rw [e] at this
  exact (hb.cell (p:=⟨p,i,none⟩) hpn).trans this
 refine (callsIn_wide (n:=6)).1 ?_
 refine callsIn_of_wp_marks Tryz.func68 rfl trivial ?_ rfl
 simp only [Tryz.ntmps68,List.size_toArray,List.length_cons,List.length_nil,Nat.reduceAdd,Nat.reduceSub,Array.replicate_succ,Array.replicate_zero,List.push_toArray,List.append_toArray,List.nil_append,List.cons_append]
 have hB4:∀ (u1 u2 u3 u4:Value) (t1 t2 t3 t4:TypeId),Below w.heap.size w ((((w.alloc (.cells #[u1] t1)).alloc (.cells #[u2] t2)).alloc (.cells #[u3] t3)).alloc (.cells #[u4] t4)):=fun _ _ _ _ _ _ _ _=>((((Below.refl _ w).alloc (Nat.le_refl _) _).alloc (by simp) _).alloc (by simp;omega) _).alloc (by simp;omega) _
 by_cases q:er=0
 ·subst q
  rw [if_neg (by simp)] at hrv
  obtain ⟨A,cap,rfl,hW1⟩:=id hWt
  gi_wp2_with (first
   | (refine ⟨trivial,?_⟩;gi_at_call 92;refine (callsIn_wide.2 (hpl _ (hB4 _ _ _ _ _ _ _ _))).mono ?_;rintro e w2 ⟨rfl,hb2⟩;obtain ⟨b4,b5,b6,b7,hB2,hs2⟩:=boxes4 hb2;have cW:=hc 2 _ rfl w2 hB2)
   | (refine ⟨trivial,?_⟩;gi_at_call 93;refine (back_in Fence.wide _ trivial rfl _ _ _ _).mono ?_;rintro e w' ⟨rfl,rfl⟩))
  obtain ⟨W0,hW0⟩ : ∃ W0,w2.alloc (.cells #[.slice A d.waits.length cap] 23)=W0:=⟨_,rfl⟩
  have bL:Boxed W0 w2.heap.size 23 (.slice A d.waits.length cap):=by rw [← hW0];exact Boxed.new _ _ _
  have b4':Boxed W0 w.heap.size 9 (.string s):=by rw [← hW0];exact b4.alloc _
  have b5':Boxed W0 (w.heap.size+1) 3 (.int .i64 k):=by rw [← hW0];exact b5.alloc _
  have b6':Boxed W0 (w.heap.size+1+1) 9 (.string { data:=#[] }):=by rw [← hW0];exact b6.alloc _
  have b7':Boxed W0 (w.heap.size+1+1+1) 32 (.int .i64 0):=by rw [← hW0];exact b7.alloc _
  have hB0:Below w.heap.size w W0:=by rw [← hW0];exact hB2.alloc hB2.size _
  have hsz:W0.heap.size=w2.heap.size+1:=by rw [← hW0];simp
  rw [hW0]
  clear hW0 b4 b5 b6 b7 hb2
  have hWt0:Waits W0.heap.size W0 (.slice A d.waits.length cap) d.waits:=(hWt.below hB0).grow (by omega)
  refine wpIn_rangeFunc_ownH rfl (by omega) (gf:=106) (lb:=#[.pointer (some ⟨w2.heap.size,0,none⟩)]) rfl trivial (enters_of Tryz.func106 (by kernel_rfl) rfl)
   (back_stops Fence.wide (6-1) trivial rfl (by omega) w2.heap.size W0.heap.size _ d.waits hlen W0 (by omega) (Nat.le_refl _) bL.cell hWt0) belowK_t (belowK_b (Nat.le_refl _)) (Below.refl _ _) (fun _=>rfl)
   (fun pre W=>(∀ y ∈ pre,hit s k y=false)∧Below W0.heap.size W0 W)
   (fun c pre W=>(c = .ret ∧ ∃ pre' y,pre=pre' ++ [y]∧(∀ z ∈ pre',hit s k z=false)∧hit s k y=true∧Boxed W (w.heap.size+1+1) 9 (.string y.2.2.2)∧Boxed W (w.heap.size+1+1+1) 32 (.int .i64 0))∧Below w.heap.size w W)
   (OwnFrom.and (ownFrom_pure _ _) (ownFrom_below (Nat.le_refl _) (Nat.le_refl _)))
   (fun c=>OwnFrom.and (Own.from (fun st A B row hs hg hr=>by obtain ⟨e0,pre',y,e1,e2,e3,e4,e5⟩:=hs;exact ⟨e0,pre',y,e1,e2,e3,boxed_own _ _ (fun (_:Unit)=>Value.string y.2.2.2) () A B row e4 hg hr,boxed_own _ _ (fun (_:Unit)=>Value.int .i64 0) () A B row e5 hg hr⟩) _) (ownFrom_below (Nat.le_refl _) hB0.size))
   ⟨by simp,Below.refl _ _⟩
   (fun x a' W=>∃ Bx,(W.cell? ⟨Bx,0,none⟩=some (.string x.2.1)∧W.cell? ⟨Bx,1,none⟩=some (.int .i64 x.2.2.1)∧W.cell? ⟨Bx,2,none⟩=some (.string x.2.2.2))∧a' = { tmps:=#[.pointer (some ⟨p,0,none⟩),.string s,.int .i64 k,undef,.pointer (some ⟨w.heap.size,0,none⟩),.pointer (some ⟨w.heap.size+1,0,none⟩),.pointer (some ⟨w.heap.size+1+1,0,none⟩),.pointer (some ⟨w.heap.size+1+1+1,0,none⟩),.int .i64 j,.int .i64 0,undef,.pointer (some ⟨Bx,0,none⟩),.tuple #[.int .i64 j,.int .i64 0],.pointer (some ⟨p,0,none⟩),.string s,.int .i64 k,.tuple #[.int .i64 j,.int .i64 0],.int .i64 j,.int .i64 0,.int .i64 0,.bool false,undef,.pointer (some ⟨p,0,none⟩),.pointer (some ⟨p,0,none⟩),.pointer (some ⟨p,0,none⟩),.pointer (some ⟨p,2,none⟩),.slice A d.waits.length cap,.func (.func 106) #[] #[.pointer (some ⟨w2.heap.size,0,none⟩)],.int .i64 x.1,wrV x.2,undef,undef,undef,undef,undef,undef,undef,undef,undef,undef,undef,undef,undef,undef,undef,undef,undef,undef,undef,undef,undef,undef,undef,undef,undef,undef,undef],defers:=[] })
   (fun x a' st X Y row hs hg hr=>by obtain ⟨Bx,⟨h1,h2,h3⟩,h4⟩:=hs;exact ⟨Bx,⟨cell_kept h1 hg (fun r e=>(hr r e).2),cell_kept h2 hg (fun r e=>(hr r e).2),cell_kept h3 hg (fun r e=>(hr r e).2)⟩,h4⟩)
   ?assign ?body ?done ?stop
  case assign =>
   rintro l pre x W K ⟨hI1,hI2⟩ hK
   simp only [wrV] at hK ⊢
   gi_wp2
   exact hK _ _ ((KeepsOthers.alloc _ _).from _) ((Below.refl _ W).alloc hI2.size _) ⟨hI1,hI2.alloc hI2.size _⟩ ⟨W.heap.size,⟨cell_new3 W _ _ 0 rfl,cell_new3 W _ _ 1 rfl,cell_new3 W _ _ 2 rfl⟩,rfl⟩
  case body =>
   rintro l pre x a' W hl ⟨r,hr⟩ ⟨hI1,hI2⟩ ⟨Bx,⟨c0,c1,c2⟩,rfl⟩ hlt
   simp only [wrV]
   have cs:=(boxed_below hI2 (by omega) b4').cell
   have ck:=(boxed_below hI2 (by omega) b5').cell
   have bs:=boxed_below hI2 (by omega) b6'
   have be:=boxed_below hI2 (by omega) b7'
   have cs6:=bs.cell
   have fs6:=bs.frozen
   have cs7:=be.cell
   have fs7:=be.frozen
   have hBW:Below w.heap.size w W:=hB0.trans (hI2.mono hB0.size)
   gi_wp2
   ·rename_i hx1 hx2
    refine ⟨((KeepsOthers.setCell _ _ _).trans (KeepsOthers.setCell _ _ _)).from _,⟨rfl,pre,x,rfl,hI1,by unfold hit;rw [hx2,hx1];simp,(bs.set _).other (by omega) _,(be.other (by omega) _).set _⟩,(hBW.setCell (p:=⟨w.heap.size+1+1,0,none⟩) (by simp;omega) _).setCell (p:=⟨w.heap.size+1+1+1,0,none⟩) (by simp;omega) _⟩
   ·rename_i hx1 hx2
    exact ⟨KeepsFrom.refl _ _,Below.refl _ _,fun y hy=>(List.mem_append.1 hy).elim (hI1 y) (fun e=>by simp at e;subst e;unfold hit;rw [hx2];simp),hI2⟩
   ·rename_i hx1
    exact ⟨KeepsFrom.refl _ _,Below.refl _ _,fun y hy=>(List.mem_append.1 hy).elim (hI1 y) (fun e=>by simp at e;subst e;unfold hit;rw [beq_eq_false_iff_ne.2 hx1];rfl),hI2⟩
  case done =>
   rintro D ys W hD rfl ⟨hI1,hI2⟩ hK
   have hBW:Below w.heap.size w W:=hB0.trans (hI2.mono hB0.size)
   obtain ⟨hlt,hex,hk0,hk1⟩:=place_ok hR hpd
   obtain ⟨_,_,ee1,ee2,ee3,hE3⟩:=id h.2
   cases ee1
   obtain ⟨b,off,rfl,hkk⟩:=hE3.resolve_left (fun e=>by rw [e] at hlt;simp at hlt)
   have cE:=hc 1 _ rfl W hBW
   have ck:=(boxed_below hI2 (by omega) b5').cell
   have bs:=boxed_below hI2 (by omega) b6'
   have be:=boxed_below hI2 (by omega) b7'
   have cs6:=bs.cell
   have fs6:=bs.frozen
   have cs7:=be.cell
   have fs7:=be.frozen
   gi_wp2
   have cX:W.cell? ⟨b,off+j*2+1,none⟩=some (.string d.ext[j].2):=kn_at (hkk _ hlt) 1 rfl W (view_later hBW) 0 _ rfl
   have hsx:=right_sec hR (List.getElem_mem hlt)
   obtain ⟨m,rfl⟩ : ∃ m:Nat,k=m:=⟨k.toNat,by omega⟩
   have hnone:lastW d.waits s m=none:=by
    unfold lastW;rw [List.find?_eq_none];intro y hy;rw [hI1 y hy];simp
   rw [hnone,hex] at hrv
   clear hex hnone
   generalize d.ext[j]=ex at *
   obtain ⟨hm1,hm2,hm3,hm4⟩:=wr_facts hsx hk1
   clear hpl hc hW1 hWt0 hB4 hB2 cW bL b4' b5' b6' b7' hI1 hkk hE3 hk0
   refine wpIn_wide.2 ?_
   refine Reg.wp_steps rfl (by kernel_rfl) (fun k v _=>v=([.pointer (some ⟨p,0,none⟩),.pointer (some ⟨p,0,none⟩),.pointer (some ⟨p,0,none⟩),.pointer (some ⟨p,1,none⟩),.slice (some ⟨b,off,none⟩) d.ext.length de,.int .i64 (j:Int),.pointer (some ⟨b,off+j*2,none⟩),.pointer (some ⟨b,off+j*2+1,none⟩),.string ex.2,.int .i64 (m:Int),.int .i64 ((64*m:Nat):Int),.int .i64 (m:Int),.int .i64 ((m+1:Nat):Int),.int .i64 ((64*(m+1):Nat):Int),.string (ex.2.extract (64*m) (64*(m+1)))] : List Value).getD k undef) (fun st w'=>w'=two W.drew (w.heap.size+1+1) (w.heap.size+1+1+1) (.string (ex.2.extract (64*m) (64*(m+1)))) (.int .i64 0) (st 15) (st 16)) (fun _ _=>True) rfl (fun _ _ _ _ _ h=>h) (Reg.each ?_) ?fin
   case fin =>
    intro tm w' st hsz' hI hall hDf hbase
    have e15:st 15=true:=hall 15 (by decide)
    have e16:st 16=true:=hall 16 (by decide)
    have g6:tm[6]?.getD undef = .pointer (some ⟨w.heap.size+1+1,0,none⟩):=by rw [← Array.getD_eq_getD_getElem?];exact hbase 6 (no_dst (by kernel_rfl))
    have g7:tm[7]?.getD undef = .pointer (some ⟨w.heap.size+1+1+1,0,none⟩):=by rw [← Array.getD_eq_getD_getElem?];exact hbase 7 (no_dst (by kernel_rfl))
    have hw':w'=(W.drew.setCell ⟨w.heap.size+1+1,0,none⟩ (.string (ex.2.extract (64*m) (64*(m+1))))).setCell ⟨w.heap.size+1+1+1,0,none⟩ (.int .i64 0):=by have h:w'=two _ _ _ _ _ (st 15) (st 16):=hI;rw [h,e15,e16];rfl
    obtain ⟨rfl,rfl⟩ : ex.2.extract (64*m) (64*(m+1))=rv1∧(0:Int)=rv2:=by simpa [Int.toNat_natCast,Nat.mul_succ] using hrv
    have b6:=((bs.set (W:=W.drew) (.string (ex.2.extract (64*m) (64*(m+1))))).other (B':=w.heap.size+1+1+1) (by omega) (.int .i64 0))
    have b7:=((be.other (W:=W.drew) (B':=w.heap.size+1+1) (by omega) (.string (ex.2.extract (64*m) (64*(m+1))))).set (.int .i64 0))
    have hB':Below w.heap.size w w':=by rw [hw'];exact ((hBW.drew).setCell (p:=⟨w.heap.size+1+1,0,none⟩) (by simp;omega) _).setCell (p:=⟨w.heap.size+1+1+1,0,none⟩) (by simp;omega) _
    have hK':w'.heap[D]?=some (.deferred (some [])):=by rw [hw',Below.heap_setCell _ _ _ _ (by show D≠w.heap.size+1+1+1;omega),Below.heap_setCell _ _ _ _ (by show D≠w.heap.size+1+1;omega)];exact hK
    rw [← hw'] at b6 b7
    clear hDf hm1 hm2 hm3 hm4 hsz' hbase hall hI hw' e15 e16 hrv ck cE cX cs6 cs7 fs6 fs7 bs be
    rename_i K1 aK
    refine aK _ _ ?_
    gi_wp2
    refine ⟨by simp,.inl ⟨_,_,rfl,run_takeDeferred hK',?_⟩⟩
    have h6:=cell_kept b6.cell (grownBy_putObj' _ D (.deferred none)) (fun r e=>by cases e;exact ⟨_,hK',rfl⟩)
    have h7:=cell_kept b7.cell (grownBy_putObj' _ D (.deferred none)) (fun r e=>by cases e;exact ⟨_,hK',rfl⟩)
    refine ⟨.tuple #[.string (ex.2.extract (64*m) (64*(m+1))),.int .i64 0],?_,rfl,hB'.trans (belowK_b (w:=w) (Nat.le_refl _) _ D _ _ (by omega) hK' rfl rfl)⟩
    simp [results,Tryz.f68,go_sem,h6,h7,g6,g7]
   refine ⟨?_,?_,?_,?_,?_,?_,?_,?_,?_,?_,?_,?_,?_,?_,?_,?_,?_,trivial⟩
   all_goals (intro a w1 st ha hI hd hs hi hw hT;clear hK hBW hI2 hB0 hWt hpd hrv h)
   ·obtain rfl:=two_none hI (hw 15 (by kernel_rfl)) (hw 16 (by kernel_rfl))
    exact yield_calm ha (E:=[(0,.pointer (some ⟨p,0,none⟩))]) ⟨hT 0 (by kernel_rfl),trivial⟩ (Calm.move rfl) ⟨rfl,keep_two hI (by decide) (by decide),trivial⟩
   ·obtain rfl:=two_none hI (hw 15 (by kernel_rfl)) (hw 16 (by kernel_rfl))
    exact yield_calm ha (E:=[(42,.pointer (some ⟨p,0,none⟩))]) ⟨hd ⟨0,.data⟩ (by simp) rfl _ _ rfl rfl,trivial⟩ (Calm.nilCheck rfl) ⟨rfl,keep_two hI (by decide) (by decide),trivial⟩
   ·obtain rfl:=two_none hI (hw 15 (by kernel_rfl)) (hw 16 (by kernel_rfl))
    exact yield_calm ha (E:=[(43,.pointer (some ⟨p,0,none⟩))]) ⟨hd ⟨1,.data⟩ (by simp) rfl _ _ rfl rfl,trivial⟩ (Calm.fieldAddr (n:=4) (off:=0) (by kernel_rfl) rfl) ⟨rfl,keep_two hI (by decide) (by decide),trivial⟩
   ·obtain rfl:=two_none hI (hw 15 (by kernel_rfl)) (hw 16 (by kernel_rfl))
    exact yield_calm ha (E:=[(44,.pointer (some ⟨p,0,none⟩))]) ⟨hd ⟨2,.data⟩ (by simp) rfl _ _ rfl rfl,trivial⟩ (Calm.fieldAddr (n:=0) (off:=1) (by kernel_rfl) rfl) ⟨rfl,keep_two hI (by decide) (by decide),trivial⟩
   ·obtain rfl:=two_none hI (hw 15 (by kernel_rfl)) (hw 16 (by kernel_rfl))
    exact yield_calm ha (E:=[(45,.pointer (some ⟨p,1,none⟩))]) ⟨hd ⟨3,.data⟩ (by simp) rfl _ _ rfl rfl,trivial⟩ (Calm.load (by kernel_rfl) rfl (rd_roM cE)) ⟨rfl,keep_two hI (by decide) (by decide),trivial⟩
   ·obtain rfl:=two_none hI (hw 15 (by kernel_rfl)) (hw 16 (by kernel_rfl))
    exact yield_calm ha (E:=[(8,.int .i64 (j:Int))]) ⟨hT 8 (by kernel_rfl),trivial⟩ (Calm.move rfl) ⟨rfl,keep_two hI (by decide) (by decide),trivial⟩
   ·obtain rfl:=two_none hI (hw 15 (by kernel_rfl)) (hw 16 (by kernel_rfl))
    exact yield_calm ha (E:=[(46,.slice (some ⟨b,off,none⟩) d.ext.length de),(47,.int .i64 (j:Int))]) ⟨hd ⟨4,.data⟩ (by simp) rfl _ _ rfl rfl,hd ⟨5,.data⟩ (by simp) rfl _ _ rfl rfl,trivial⟩ (Calm.indexS (e:=101) (n:=2) (by kernel_rfl) (by kernel_rfl) rfl rfl (Int.natCast_nonneg _) (Int.ofNat_lt.2 hlt)) ⟨rfl,keep_two hI (by decide) (by decide),trivial⟩
   ·obtain rfl:=two_none hI (hw 15 (by kernel_rfl)) (hw 16 (by kernel_rfl))
    exact yield_calm ha (E:=[(48,.pointer (some ⟨b,off+j*2,none⟩))]) ⟨hd ⟨6,.data⟩ (by simp) rfl _ _ rfl rfl,trivial⟩ (Calm.fieldAddr (n:=0) (off:=1) (by kernel_rfl) rfl) ⟨rfl,keep_two hI (by decide) (by decide),trivial⟩
   ·obtain rfl:=two_none hI (hw 15 (by kernel_rfl)) (hw 16 (by kernel_rfl))
    exact yield_calm ha (E:=[(49,.pointer (some ⟨b,off+j*2+1,none⟩))]) ⟨hd ⟨7,.data⟩ (by simp) rfl _ _ rfl rfl,trivial⟩ (Calm.load (by kernel_rfl) rfl (rd_roM cX)) ⟨rfl,keep_two hI (by decide) (by decide),trivial⟩
   ·obtain rfl:=two_none hI (hw 15 (by kernel_rfl)) (hw 16 (by kernel_rfl))
    exact yield_calm ha (E:=[(5,.pointer (some ⟨w.heap.size+1,0,none⟩))]) ⟨hT 5 (by kernel_rfl),trivial⟩ (Calm.load (by kernel_rfl) rfl (rd_roM ck)) ⟨rfl,keep_two hI (by decide) (by decide),trivial⟩
   ·obtain rfl:=two_none hI (hw 15 (by kernel_rfl)) (hw 16 (by kernel_rfl))
    exact yield_calm ha (E:=[(51,.int .i64 (m:Int))]) ⟨hd ⟨9,.data⟩ (by simp) rfl _ _ rfl rfl,trivial⟩ (Calm.bin rfl rfl (bin_mulW hm1)) ⟨rfl,keep_two hI (by decide) (by decide),trivial⟩
   ·obtain rfl:=two_none hI (hw 15 (by kernel_rfl)) (hw 16 (by kernel_rfl))
    exact yield_calm ha (E:=[(5,.pointer (some ⟨w.heap.size+1,0,none⟩))]) ⟨hT 5 (by kernel_rfl),trivial⟩ (Calm.load (by kernel_rfl) rfl (rd_roM ck)) ⟨rfl,keep_two hI (by decide) (by decide),trivial⟩
   ·obtain rfl:=two_none hI (hw 15 (by kernel_rfl)) (hw 16 (by kernel_rfl))
    exact yield_calm ha (E:=[(53,.int .i64 (m:Int))]) ⟨hd ⟨11,.data⟩ (by simp) rfl _ _ rfl rfl,trivial⟩ (Calm.bin rfl rfl (bin_addW hm2)) ⟨rfl,keep_two hI (by decide) (by decide),trivial⟩
   ·obtain rfl:=two_none hI (hw 15 (by kernel_rfl)) (hw 16 (by kernel_rfl))
    exact yield_calm ha (E:=[(54,.int .i64 ((m+1:Nat):Int))]) ⟨hd ⟨12,.data⟩ (by simp) rfl _ _ rfl rfl,trivial⟩ (Calm.bin rfl rfl (bin_mulW hm3)) ⟨rfl,keep_two hI (by decide) (by decide),trivial⟩
   ·obtain rfl:=two_none hI (hw 15 (by kernel_rfl)) (hw 16 (by kernel_rfl))
    exact yield_calm ha (E:=[(50,.string ex.2),(52,.int .i64 ((64*m:Nat):Int)),(55,.int .i64 ((64*(m+1):Nat):Int))]) ⟨hd ⟨8,.data⟩ (by simp) rfl _ _ rfl rfl,hd ⟨10,.data⟩ (by simp) rfl _ _ rfl rfl,hd ⟨13,.data⟩ (by simp) rfl _ _ rfl rfl,trivial⟩ (Calm.sliceStr (l:=64*m) (h:=64*(m+1)) (by kernel_rfl) rfl ⟨_,_,rfl,Int.natCast_nonneg _,Int.ofNat_le.2 hm4,rfl⟩ ⟨_,_,rfl,Int.natCast_nonneg _,Int.ofNat_le.2 (Nat.mul_le_mul_left 64 (Nat.le_succ m)),rfl⟩) ⟨rfl,keep_two hI (by decide) (by decide),trivial⟩
   ·obtain rfl:=two_none hI hi (hw 16 (by kernel_rfl))
    refine yield_store (v:=.string (ex.2.extract (64*m) (64*(m+1)))) (by kernel_rfl) rfl rfl bs (hT 6 (by kernel_rfl)) (hd ⟨14,.data⟩ (by simp) rfl _ _ rfl rfl) ⟨rfl,?_,trivial⟩
    show _=two _ _ _ _ _ (Reg.upd st 15 15) (Reg.upd st 15 16)
    rw [Reg.upd_same,Reg.upd_other _ (by decide),show st 16=false from hw 16 (by kernel_rfl)];rfl
   ·have e15:st 15=true:=hs ⟨15,.chain⟩ (by simp) rfl
    have e16:st 16=false:=hi
    have hw1:w1=W.drew.setCell ⟨w.heap.size+1+1,0,none⟩ (.string (ex.2.extract (64*m) (64*(m+1)))):=by have h:w1=two _ _ _ _ _ (st 15) (st 16):=hI;rw [h,e15,e16];rfl
    subst hw1
    refine yield_store (v:=.int .i64 0) (by kernel_rfl) rfl rfl (be.other (W:=W.drew) (by omega) _) (hT 7 (by kernel_rfl)) rfl ⟨rfl,?_,trivial⟩
    show _=two _ _ _ _ _ (Reg.upd st 16 15) (Reg.upd st 16 16)
    rw [Reg.upd_same,Reg.upd_other _ (by decide),e15];rfl
  case stop =>
   rintro D c pre W hD ⟨n,hn,rfl⟩ ⟨⟨rfl,pre',y,e1,e2,e3,e4,e5⟩,hB⟩ hK
   have c6:=e4.cell
   have c7:=e5.cell
   have hsome:lastW d.waits s k=some y:=by
    unfold lastW
    obtain ⟨r,hr⟩ : ∃ r,upto (backF d.waits) d.waits.length=upto (backF d.waits) n ++ r:=by
     refine ⟨((List.range d.waits.length).drop n).map (backF d.waits),?_⟩
     unfold upto
     rw [← List.map_append]
     congr 1
     rw [show List.range n=(List.range d.waits.length).take n from by rw [List.take_range];congr 1;omega,List.take_append_drop]
    rw [hr,e1,List.append_assoc,List.find?_append,List.find?_eq_none.2 (fun z hz=>by rw [e2 z hz];simp)]
    simp [e3]
   rw [hsome] at hrv
   obtain ⟨rfl,rfl⟩ : y.2.2.2=rv1∧(0:Int)=rv2:=by simpa using hrv
   gi_wp2
   refine ⟨by simp,.inl ⟨_,_,rfl,run_takeDeferred hK,?_⟩⟩
   have h6:=cell_kept c6 (grownBy_putObj' _ D (.deferred none)) (fun r e=>by cases e;exact ⟨_,hK,rfl⟩)
   have h7:=cell_kept c7 (grownBy_putObj' _ D (.deferred none)) (fun r e=>by cases e;exact ⟨_,hK,rfl⟩)
   refine ⟨.tuple #[.string y.2.2.2,.int .i64 0],?_,rfl,hB.trans (belowK_b (w:=w) (Nat.le_refl _) W D _ _ (by omega) hK rfl rfl)⟩
   simp [results,Tryz.f68,go_sem,h6,h7]
 ·rw [if_pos q] at hrv
  obtain ⟨rfl,rfl⟩ : ByteArray.empty=rv1∧er=rv2:=by simpa using hrv
  gi_wp2_with (refine ⟨trivial,?_⟩;gi_at_call 92;refine (callsIn_wide.2 (hpl _ (hB4 _ _ _ _ _ _ _ _))).mono ?_;rintro e w2 ⟨rfl,hb2⟩;obtain ⟨b4,b5,b6,b7,hB2,hs2⟩:=boxes4 hb2;have c6:=b6.cell;have f6:=b6.frozen;have c7:=b7.cell;have f7:=b7.frozen)
  have c6':=((b6.set (.string ⟨#[]⟩)).other (B':=w.heap.size+1+1+1) (by omega) (.int .i64 er)).cell
  have c7':=((b7.other (B':=w.heap.size+1+1) (by omega) (.string ⟨#[]⟩)).set (.int .i64 er)).cell
  refine ⟨.tuple #[.string ⟨#[]⟩,.int .i64 er],?_,rfl,(hB2.setCell (p:=⟨w.heap.size+1+1,0,none⟩) (by simp;omega) _).setCell (p:=⟨w.heap.size+1+1+1,0,none⟩) (by simp;omega) _⟩
  simp [results,Tryz.f68,go_sem,c6',c7']
end Go.Proofs.YtkeiphkccnfhoaaGreat
namespace Go.Proofs.YtkeiphkccnfhoaaGreat
open Go.RowKit
open Mv Disk
set_option maxRecDepth 4000
theorem Mv.Sl.at_roM {α : Type} {n : Nat} {f : α → List Value} {M : Mem} {v : Value} {l : List α} (h : Sl n f M v l) {w : World} (hv : View M w) : Sl n f (roM w) v l := by
 obtain ⟨a,cap,rfl,h1,h2,h3⟩:=h
 exact ⟨a,cap,rfl,h1,h2,h3.imp id fun ⟨b,off,e,hk⟩=>⟨b,off,e,fun j hj=>roM_knows (hk j hj w hv)⟩⟩
theorem waits_of {M : Mem} {v : Value} {l : List Wr} (h : Sl 3 wrF M v l) {w : World} (hv : View M w) : Waits w.heap.size w v l := by
 obtain ⟨a,cap,rfl,h1,h2,h3⟩:=h
 refine ⟨a,cap,rfl,h3.elim .inl fun ⟨b,off,e,hk⟩=>?_⟩
 cases hl:l with
 | nil=>exact .inl rfl
 | cons x r =>
  right
  subst hl
  refine ⟨b,off,e,?_,fun j hj q v hq=>?_⟩
  ·have h0:=hk 0 (by simp) w hv 0 _ rfl
   rcases Nat.lt_or_ge b w.heap.size with q | q
   ·exact q
   ·simp [World.cell?,Addr.add,Array.getElem?_eq_none q] at h0
  ·have h0:=hk j hj w hv q v hq
   have e:(⟨b,off+j*3,none⟩ : Addr).add q=⟨b,off+j*3+q,none⟩:=by unfold Addr.add;cases q <;> simp
   rw [e] at h0;exact h0
theorem dev_Read (p : Nat) (d : D) (s : ByteArray) (k : Int) (M : Mem) (h : RdV M p d) (hR : Right d) :
  ACall Tryz.prog 68 #[.pointer (some ⟨p,0,none⟩),.string s,.int .i64 k] M fun r S'=>r = .tuple #[.string (readD d s k).1,.int .i64 (readD d s k).2]∧S'=M:=by
 obtain ⟨qe,de,qw,dw,hp,hE,hW⟩:=h
 intro w hv
 have hk:RdK (roM w) p d qe de (.slice qw d.waits.length dw):=⟨roM_knows fun j v hj=>by
  refine hv.rd ?_
  have e:(⟨p,0,none⟩ : Addr).add j=⟨p,j,none⟩:=by unfold Addr.add;cases j <;> simp
  rw [e];unfold Mem.rd;rw [hp];exact hj,hE.at_roM hv⟩
 exact (readW p d s k w qe de _ hk hR (hv.lt hp) (waits_of hW hv) hR.wl).mono fun _ _ ⟨he,hb⟩=>⟨_,_,he,⟨rfl,rfl⟩,Step.below hv hb⟩
noncomputable def readO (d : D) (s : ByteArray) (k : Int) : ByteArray × Int := if (openD d).2 ≠ 0 then (ByteArray.empty, (openD d).2) else readD d s k
set_option maxHeartbeats 1000000 in
theorem disk_Read (v : Value) (d : D) (s : ByteArray) (k : Int) (S : Mem) (hd : DkR S v d) (hz : Dz d) :
  ACall Tryz.prog 46 #[v,.string s,.int .i64 k] S fun r S'=>r = .tuple #[.string (readO d s k).1,.int .i64 (readO d s k).2]∧S'=S:=by
 have hopen:=disk_Open v d S hd hz
 obtain ⟨pe,ce,pw,cw,rfl,hE,hW⟩:=id hd
 unfold readO
 rcases openD_or d with ⟨ho,hR⟩ | ⟨ho,hR,hdn⟩ | ⟨ho,hR,hdn⟩ <;> rw [ho] at hopen ⊢
 ·skip
  refine ACall.enter (rs:=[.tmp 6,.tmp 7]) 24 [(0,.agg #[.int .i64 d.size,.slice pe d.ext.length ce,.slice pw d.waits.length cw,.int .i64 d.fuse,.bool d.down]),(1,.string s),(2,.int .i64 k)] Tryz.func46 rfl rfl (Nat.le_of_ble_eq_true rfl) rfl ⟨rfl,rfl,rfl,trivial⟩ ?_
  refine k_a ?_
  refine k_b5 rfl ?_
  intro b3 f3
  have g3:=f3
  repeat ((with_reducible replace g3:=fresh_set g3);obtain ⟨g3,_⟩:=g3)
  try simp only [k_l1,k_l0,k_za,Nat.reduceAdd]
  refine k_s rfl (k_e rfl (k_a ?_))
  refine k_5 ty_agg_25 ty_size_25 rfl ?_
  refine ARun.call (lit_lt rfl) go_72 rfl (hopen.frame f3) ?_
  rintro _ S1 ⟨M,⟨p,oE,oW,hok,rfl,hM⟩,f1',h1⟩
  rw [h1];clear h1 S1
  have hSM:S.Less M:=by rw [hM];exact hok.less
  refine k_m rfl ?_
  refine rC (Calm.extract rfl rfl) ?_
  refine rC (Calm.extract rfl rfl) ?_
  refine k_s rfl (k_e rfl ?_)
  refine k_u [(0,_),(1,_),(2,_),(3,_),(6,_),(7,_),(8,_),(9,_)] ?_
  refine AWP.seq (k_a (k_m rfl ?_))
  refine rC (Calm.bin rfl rfl b_neq) ?_
  refine k_n ?_
  refine k_u [(0,_),(1,_),(2,_),(3,_),(6,_),(7,_),(8,_),(9,_),(16,_)] ?_
  refine k_T rfl ?_
  refine k_a (k_m rfl (k_s rfl (k_e rfl ?_)))
  refine k_u [(0,_),(1,_),(2,_),(3,_),(6,_),(7,_),(8,_),(9,_),(16,_)] ?_
  refine k_r ?_
  refine ⟨_,S,⟨_,_,rfl,⟨_,_,rfl,rfl,rfl⟩,rfl⟩,less_,?_⟩
  exact ⟨rfl,rfl⟩
 ·skip
  refine ACall.enter (rs:=[.tmp 6,.tmp 7]) 24 [(0,.agg #[.int .i64 d.size,.slice pe d.ext.length ce,.slice pw d.waits.length cw,.int .i64 d.fuse,.bool d.down]),(1,.string s),(2,.int .i64 k)] Tryz.func46 rfl rfl (Nat.le_of_ble_eq_true rfl) rfl ⟨rfl,rfl,rfl,trivial⟩ ?_
  refine k_a ?_
  refine k_b5 rfl ?_
  intro b3 f3
  have g3:=f3
  repeat ((with_reducible replace g3:=fresh_set g3);obtain ⟨g3,_⟩:=g3)
  try simp only [k_l1,k_l0,k_za,Nat.reduceAdd]
  refine k_s rfl (k_e rfl (k_a ?_))
  refine k_5 ty_agg_25 ty_size_25 rfl ?_
  refine ARun.call (lit_lt rfl) go_72 rfl (hopen.frame f3) ?_
  rintro _ S1 ⟨M,⟨p,oE,oW,hok,rfl,hM⟩,f1',h1⟩
  rw [h1];clear h1 S1
  have hSM:S.Less M:=by rw [hM];exact hok.less
  refine k_m rfl ?_
  refine rC (Calm.extract rfl rfl) ?_
  refine rC (Calm.extract rfl rfl) ?_
  refine k_s rfl (k_e rfl ?_)
  refine k_u [(0,_),(1,_),(2,_),(3,_),(6,_),(7,_),(8,_),(9,_)] ?_
  refine AWP.seq (k_a (k_m rfl ?_))
  refine rC (Calm.bin rfl rfl b_neq) ?_
  refine k_n ?_
  refine k_u [(0,_),(1,_),(2,_),(3,_),(6,_),(7,_),(8,_),(9,_),(16,_)] ?_
  refine k_T rfl ?_
  refine k_a (k_m rfl (k_s rfl (k_e rfl ?_)))
  refine k_u [(0,_),(1,_),(2,_),(3,_),(6,_),(7,_),(8,_),(9,_),(16,_)] ?_
  refine k_r ?_
  refine ⟨_,S,⟨_,_,rfl,⟨_,_,rfl,rfl,rfl⟩,rfl⟩,less_,?_⟩
  exact ⟨rfl,rfl⟩
 ·skip
  refine ACall.enter (rs:=[.tmp 6,.tmp 7]) 24 [(0,.agg #[.int .i64 d.size,.slice pe d.ext.length ce,.slice pw d.waits.length cw,.int .i64 d.fuse,.bool d.down]),(1,.string s),(2,.int .i64 k)] Tryz.func46 rfl rfl (Nat.le_of_ble_eq_true rfl) rfl ⟨rfl,rfl,rfl,trivial⟩ ?_
  refine k_a ?_
  refine k_b5 rfl ?_
  intro b3 f3
  have g3:=f3
  repeat ((with_reducible replace g3:=fresh_set g3);obtain ⟨g3,_⟩:=g3)
  try simp only [k_l1,k_l0,k_za,Nat.reduceAdd]
  refine k_s rfl (k_e rfl (k_a ?_))
  refine k_5 ty_agg_25 ty_size_25 rfl ?_
  refine ARun.call (lit_lt rfl) go_72 rfl (hopen.frame f3) ?_
  rintro _ S1 ⟨M,⟨p,oE,oW,hok,rfl,hM⟩,f1',h1⟩
  rw [h1];clear h1 S1
  have hSM:S.Less M:=by rw [hM];exact hok.less
  have hrd:RdV M p d:=by rw [hM];exact hok.rd (Nat.le_trans (right_len hR).1 (by decide)) (Nat.le_trans hR.wl (by decide))
  refine k_m rfl ?_
  refine rC (Calm.extract rfl rfl) ?_
  refine rC (Calm.extract rfl rfl) ?_
  refine k_s rfl (k_e rfl ?_)
  refine k_u [(0,_),(1,_),(2,_),(3,_),(6,_),(7,_),(8,_),(9,_)] ?_
  refine AWP.seq (k_a (k_m rfl ?_))
  refine rC (Calm.bin rfl rfl b_neq) ?_
  refine k_n ?_
  refine k_u [(0,_),(1,_),(2,_),(3,_),(6,_),(7,_),(8,_),(9,_),(16,_)] ?_
  refine k_F rfl ?_
  refine k_k (k_a (k_m rfl (k_m rfl (k_m rfl ?_))))
  refine ARun.call (lit_lt rfl) go_68 rfl (dev_Read p d s k _ (hrd.less less_) hR) ?_
  rintro _ S1 ⟨rfl,h1⟩
  rw [h1];clear h1 S1
  refine rC (Calm.extract rfl rfl) ?_
  refine rC (Calm.extract rfl rfl) ?_
  refine k_s rfl (k_e rfl ?_)
  refine k_u [(0,_),(1,_),(2,_),(3,_),(6,_),(7,_),(8,_),(9,_),(16,_)] ?_
  refine AWP.ret ?_
  refine ⟨_,S,⟨_,_,rfl,⟨_,_,rfl,rfl,rfl⟩,rfl⟩,less_,?_⟩
  exact ⟨rfl,rfl⟩
end Go.Proofs.YtkeiphkccnfhoaaGreat
namespace Go.Proofs.YtkeiphkccnfhoaaGreat
open Go.RowKit
open Mv Disk
set_option maxRecDepth 20000
/-- A frame. -/
structure Fr where
  name : ByteArray
  sector : Int
  data : ByteArray
  pins : Int
  dirty : Bool
  tick : Int
  leased : Bool
def frF (x : Fr) : List Value := [.string x.name, .int .i64 x.sector, .string x.data, .int .i64 x.pins, .bool x.dirty, .int .u64 x.tick, .bool x.leased]
def frV (x : Fr) : Value := .agg #[.string x.name, .int .i64 x.sector, .string x.data, .int .i64 x.pins, .bool x.dirty, .int .u64 x.tick, .bool x.leased]
def F0 : Fr := ⟨ByteArray.empty, 0, ByteArray.empty, 0, false, 0, false⟩
def F1 : Fr := ⟨ByteArray.empty, 0, ByteArray.empty, 0, false, 0, true⟩
def Fr.holds (x : Fr) : Prop := x.name.size ≠ 0
instance (x : Fr) : Decidable x.holds := by unfold Fr.holds; infer_instance
theorem eq_frame (x y : Fr) : x = y ↔ x.name = y.name ∧ x.sector = y.sector ∧ x.data = y.data ∧ x.pins = y.pins ∧ x.dirty = y.dirty ∧ x.tick = y.tick ∧ x.leased = y.leased := by
 cases x;cases y;simp
instance : DecidableEq Fr := fun x y => decidable_of_iff _ (eq_frame x y).symm
theorem pl_holds (x : Fr) (S : Mem) : ACall Tryz.prog 63 #[frV x] S fun r S' => r = .bool (decide x.holds) ∧ S' = S := by
 have e:(!decide (x.name=ByteArray.empty))=decide x.holds:=by
  by_cases h:x.name=ByteArray.empty
  ·rw [decide_eq_true h,decide_eq_false (show ¬ x.holds from fun q=>q ((size0 _).1 h))];rfl
  ·rw [decide_eq_false h,decide_eq_true (show x.holds from fun q=>h ((size0 _).2 q))];rfl
 unfold frV
 refine ACall.enter (rs:=[.tmp 2]) 6 [(0,.agg #[.string x.name,.int .i64 x.sector,.string x.data,.int .i64 x.pins,.bool x.dirty,.int .u64 x.tick,.bool x.leased])] Tryz.func63 rfl rfl (Nat.le_of_ble_eq_true rfl) rfl ⟨rfl,trivial⟩ ?_
 refine k_a ?_
 refine k_b7 rfl ?_
 intro b1 f1
 have g1:=f1
 repeat ((with_reducible replace g1:=fresh_set g1);obtain ⟨g1,_⟩:=g1)
 try simp only [k_l1,k_l0,k_za,Nat.reduceAdd]
 refine k_e rfl (k_a ?_)
 refine rC (Calm.fieldAddr ty_field_62_0 rfl) ?_
 refine rC (ld_ ty_plain_9 rfl) ?_
 refine rC (Calm.bin rfl rfl (bin_bool (bin_str_neq _ _) e)) ?_
 refine k_e rfl ?_
 refine k_u [(0,_),(1,_),(2,_)] ?_
 refine AWP.ret ?_
 refine ⟨_,S,⟨_,_,rfl,rfl,rfl⟩,less_,?_⟩
 exact ⟨rfl,rfl⟩
theorem eql_frame (x y : Fr) (w : World) : (binOp .eql 62 (frV x) (frV y)).run Tryz.prog w = .ok (.bool (decide (x = y))) w := by
 have e:decide (x=y)=((x.name.toList == y.name.toList) && (x.sector == y.sector) && (x.data.toList == y.data.toList) && (x.pins == y.pins) && (x.dirty == y.dirty) && (x.tick == y.tick) && (x.leased == y.leased)):=by
  rw [Bool.eq_iff_iff,decide_eq_true_eq,eq_frame]
  simp [toList_inj',and_assoc]
 rw [e]
 unfold frV
 go_simp
 cases h1:(x.name.toList == y.name.toList) <;> cases h2:(x.sector == y.sector) <;> cases h3:(x.data.toList == y.data.toList) <;> cases h4:(x.pins == y.pins) <;> cases h5:(x.dirty == y.dirty) <;> cases h6:(x.tick == y.tick) <;> cases h7:(x.leased == y.leased) <;> simp_all
theorem bin_eql_frame {p q : Operand} (x y : Fr) : Bin Tryz.prog .eql 62 p q (frV x) (frV y) (.bool (decide (x = y))) := fun w => by
 unfold frV
 rw [Sem.run_bind,run_eqGuard_agg w .eql 62 p q _ _ (by kernel_rfl)]
 exact eql_frame x y w
theorem pl_free (x : Fr) (S : Mem) : ACall Tryz.prog 79 #[frV x] S fun r S' => r = .bool (decide (x = F0)) ∧ S' = S := by
 unfold frV
 refine ACall.enter (rs:=[.tmp 2]) 6 [(0,.agg #[.string x.name,.int .i64 x.sector,.string x.data,.int .i64 x.pins,.bool x.dirty,.int .u64 x.tick,.bool x.leased])] Tryz.func79 rfl rfl (Nat.le_of_ble_eq_true rfl) rfl ⟨rfl,trivial⟩ ?_
 refine k_a ?_
 refine k_b7 rfl ?_
 intro b1 f1
 have g1:=f1
 repeat ((with_reducible replace g1:=fresh_set g1);obtain ⟨g1,_⟩:=g1)
 try simp only [k_l1,k_l0,k_za,Nat.reduceAdd]
 refine k_e rfl (k_a ?_)
 refine k_7 ty_agg_62 ty_size_62 rfl ?_
 refine rC (Calm.build (cs:=[_,_,_,_,_,_,_]) ty_bld_62 rfl rfl) ?_
 refine rC (Calm.bin rfl rfl (bin_eql_frame x F0)) ?_
 refine k_e rfl ?_
 refine k_u [(0,_),(1,_),(2,_)] ?_
 refine AWP.ret ?_
 refine ⟨_,S,⟨_,_,rfl,rfl,rfl⟩,less_,?_⟩
 exact ⟨rfl,rfl⟩
/-- May a frame be taken? -/
def Fr.idle (x : Fr) : Prop := x = F0 ∨ x.holds ∧ x.pins = 0
instance (x : Fr) : Decidable x.idle := by unfold Fr.idle; infer_instance
theorem pl_idle (x : Fr) (S : Mem) : ACall Tryz.prog 95 #[frV x] S fun r S' => r = .bool (decide x.idle) ∧ S' = S := by
 have cf:=fun S=>pl_free x S
 have ch:=fun S=>pl_holds x S
 unfold frV at *
 by_cases q1:x=F0
 ·rw [decide_eq_true q1] at cf
  rw [decide_eq_true (show x.idle from .inl q1)]
  refine ACall.enter (rs:=[.tmp 2]) 14 [(0,.agg #[.string x.name,.int .i64 x.sector,.string x.data,.int .i64 x.pins,.bool x.dirty,.int .u64 x.tick,.bool x.leased])] Tryz.func95 rfl rfl (Nat.le_of_ble_eq_true rfl) rfl ⟨rfl,trivial⟩ ?_
  refine k_a ?_
  refine k_b7 rfl ?_
  intro b1 f1
  have g1:=f1
  repeat ((with_reducible replace g1:=fresh_set g1);obtain ⟨g1,_⟩:=g1)
  try simp only [k_l1,k_l0,k_za,Nat.reduceAdd]
  refine k_e rfl (k_a ?_)
  refine k_7 ty_agg_62 ty_size_62 rfl ?_
  refine ARun.call (lit_lt rfl) go_79 rfl (cf _) ?_
  rintro _ S1 ⟨rfl,h1⟩
  rw [h1];clear h1 S1
  refine k_m rfl ?_
  first|refine k_q 5 ?_|refine rG 5 (ldA_ (cs:=[_,_,_,_,_,_,_]) ty_agg_62 ty_size_62 rfl) ?_
  first | refine rS 5 ?_ | refine rU 5 ?_
  first|refine k_q 5 ?_|refine rG 5 (Calm.move rfl) ?_
  first|refine k_q 8 ?_|refine rG 8 (Calm.fieldAddr ty_field_62_3 rfl) ?_
  first|refine k_q 8 ?_|refine rG 8 (ld_ ty_plain_3 rfl) ?_
  first|refine k_q 8 ?_|refine rG 8 (Calm.bin rfl rfl b_eql) ?_
  first|refine k_q 5 ?_|refine rG 5 ((by first | exact Calm.pickT rfl rfl | exact Calm.pickF rfl rfl)) ?_
  first|refine k_t rfl rfl ?_|refine k_f rfl rfl ?_
  refine k_e rfl ?_
  refine k_u [(0,_),(1,_),(2,_)] ?_
  refine AWP.ret ?_
  refine ⟨_,S,⟨_,_,rfl,rfl,rfl⟩,less_,?_⟩
  exact ⟨rfl,rfl⟩
 ·rw [decide_eq_false q1] at cf
  by_cases q2:x.holds
  ·rw [decide_eq_true q2] at ch
   have e:decide x.idle=decide (x.pins=0):=by unfold Fr.idle;simp [q1,q2]
   rw [e]
   refine ACall.enter (rs:=[.tmp 2]) 14 [(0,.agg #[.string x.name,.int .i64 x.sector,.string x.data,.int .i64 x.pins,.bool x.dirty,.int .u64 x.tick,.bool x.leased])] Tryz.func95 rfl rfl (Nat.le_of_ble_eq_true rfl) rfl ⟨rfl,trivial⟩ ?_
   refine k_a ?_
   refine k_b7 rfl ?_
   intro b1 f1
   have g1:=f1
   repeat ((with_reducible replace g1:=fresh_set g1);obtain ⟨g1,_⟩:=g1)
   try simp only [k_l1,k_l0,k_za,Nat.reduceAdd]
   refine k_e rfl (k_a ?_)
   refine k_7 ty_agg_62 ty_size_62 rfl ?_
   refine ARun.call (lit_lt rfl) go_79 rfl (cf _) ?_
   rintro _ S1 ⟨rfl,h1⟩
   rw [h1];clear h1 S1
   refine k_m rfl ?_
   first|refine k_q 5 ?_|refine rG 5 (ldA_ (cs:=[_,_,_,_,_,_,_]) ty_agg_62 ty_size_62 rfl) ?_
   refine ARun.callG 2 false 5 rfl (lit_lt rfl) rfl (lit_lt rfl) go_63 rfl (ch _) ?_
   rintro _ S1 ⟨rfl,h1⟩
   rw [h1];clear h1 S1
   first|refine k_q 5 ?_|refine rG 5 (Calm.move rfl) ?_
   first|refine k_q 8 ?_|refine rG 8 (Calm.fieldAddr ty_field_62_3 rfl) ?_
   first|refine k_q 8 ?_|refine rG 8 (ld_ ty_plain_3 rfl) ?_
   first|refine k_q 8 ?_|refine rG 8 (Calm.bin rfl rfl b_eql) ?_
   first|refine k_q 5 ?_|refine rG 5 ((by first | exact Calm.pickT rfl rfl | exact Calm.pickF rfl rfl)) ?_
   first|refine k_t rfl rfl ?_|refine k_f rfl rfl ?_
   refine k_e rfl ?_
   refine k_u [(0,_),(1,_),(2,_)] ?_
   refine AWP.ret ?_
   refine ⟨_,S,⟨_,_,rfl,rfl,rfl⟩,less_,?_⟩
   exact ⟨rfl,rfl⟩
  ·rw [decide_eq_false q2] at ch
   rw [decide_eq_false (show ¬ x.idle from fun h=>h.elim q1 (fun h=>q2 h.1))]
   refine ACall.enter (rs:=[.tmp 2]) 14 [(0,.agg #[.string x.name,.int .i64 x.sector,.string x.data,.int .i64 x.pins,.bool x.dirty,.int .u64 x.tick,.bool x.leased])] Tryz.func95 rfl rfl (Nat.le_of_ble_eq_true rfl) rfl ⟨rfl,trivial⟩ ?_
   refine k_a ?_
   refine k_b7 rfl ?_
   intro b1 f1
   have g1:=f1
   repeat ((with_reducible replace g1:=fresh_set g1);obtain ⟨g1,_⟩:=g1)
   try simp only [k_l1,k_l0,k_za,Nat.reduceAdd]
   refine k_e rfl (k_a ?_)
   refine k_7 ty_agg_62 ty_size_62 rfl ?_
   refine ARun.call (lit_lt rfl) go_79 rfl (cf _) ?_
   rintro _ S1 ⟨rfl,h1⟩
   rw [h1];clear h1 S1
   refine k_m rfl ?_
   first|refine k_q 5 ?_|refine rG 5 (ldA_ (cs:=[_,_,_,_,_,_,_]) ty_agg_62 ty_size_62 rfl) ?_
   refine ARun.callG 2 false 5 rfl (lit_lt rfl) rfl (lit_lt rfl) go_63 rfl (ch _) ?_
   rintro _ S1 ⟨rfl,h1⟩
   rw [h1];clear h1 S1
   first|refine k_q 5 ?_|refine rG 5 (Calm.move rfl) ?_
   first|refine k_q 8 ?_|refine rG 8 (Calm.fieldAddr ty_field_62_3 rfl) ?_
   first|refine k_q 8 ?_|refine rG 8 (ld_ ty_plain_3 rfl) ?_
   first|refine k_q 8 ?_|refine rG 8 (Calm.bin rfl rfl b_eql) ?_
   first|refine k_q 5 ?_|refine rG 5 ((by first | exact Calm.pickT rfl rfl | exact Calm.pickF rfl rfl)) ?_
   first|refine k_t rfl rfl ?_|refine k_f rfl rfl ?_
   refine k_e rfl ?_
   refine k_u [(0,_),(1,_),(2,_)] ?_
   refine AWP.ret ?_
   refine ⟨_,S,⟨_,_,rfl,rfl,rfl⟩,less_,?_⟩
   exact ⟨rfl,rfl⟩
/-- Do two hold one sector, or have one tick? -/
def like (x y : Fr) : Prop := x.holds ∧ y.holds ∧ (x.tick = y.tick ∨ x.name = y.name ∧ x.sector = y.sector)
instance (x y : Fr) : Decidable (like x y) := by unfold like; infer_instance
theorem pl_like (x y : Fr) (S : Mem) : ACall Tryz.prog 52 #[frV x, frV y] S fun r S' => r = .bool (decide (like x y)) ∧ S' = S := by
 have c1:=fun S=>pl_holds x S
 have c2:=fun S=>pl_holds y S
 unfold frV at *
 by_cases q1:x.holds
 ·rw [decide_eq_true q1] at c1
  by_cases q2:y.holds
  ·rw [decide_eq_true q2] at c2
   by_cases q3:x.tick=y.tick
   ·rw [decide_eq_true (show like x y from ⟨q1,q2,.inl q3⟩)]
    refine ACall.enter (rs:=[.tmp 4]) 32 [(0,.agg #[.string x.name,.int .i64 x.sector,.string x.data,.int .i64 x.pins,.bool x.dirty,.int .u64 x.tick,.bool x.leased]),(1,.agg #[.string y.name,.int .i64 y.sector,.string y.data,.int .i64 y.pins,.bool y.dirty,.int .u64 y.tick,.bool y.leased])] Tryz.func52 rfl rfl (Nat.le_of_ble_eq_true rfl) rfl ⟨rfl,rfl,trivial⟩ ?_
    refine k_a ?_
    refine k_b7 rfl ?_
    intro b2 f2
    have g2:=f2
    repeat ((with_reducible replace g2:=fresh_set g2);obtain ⟨g2,_⟩:=g2)
    try simp only [k_l1,k_l0,k_za,Nat.reduceAdd]
    refine k_b7 rfl ?_
    intro b3 f3
    have g3:=f3
    repeat ((with_reducible replace g3:=fresh_set g3);obtain ⟨g3,_⟩:=g3)
    try simp only [k_l1,k_l0,k_za,Nat.reduceAdd]
    refine k_e rfl (k_a ?_)
    refine k_7 ty_agg_62 ty_size_62 rfl ?_
    refine ARun.call (lit_lt rfl) go_63 rfl (c1 _) ?_
    rintro _ S1 ⟨rfl,h1⟩
    rw [h1];clear h1 S1
    refine k_m rfl ?_
    first|refine k_q 7 ?_|refine rG 7 (ldA_ (cs:=[_,_,_,_,_,_,_]) ty_agg_62 ty_size_62 rfl) ?_
    refine ARun.callG 2 true 7 rfl (lit_lt rfl) rfl (lit_lt rfl) go_63 rfl (c2 _) ?_
    rintro _ S1 ⟨rfl,h1⟩
    rw [h1];clear h1 S1
    first|refine k_t rfl rfl ?_|refine k_f rfl rfl ?_
    refine k_m rfl ?_
    first|refine k_q 11 ?_|refine rG 11 (Calm.fieldAddr ty_field_62_5 rfl) ?_
    first|refine k_q 11 ?_|refine rG 11 (ld_ ty_plain_27 rfl) ?_
    first|refine k_q 11 ?_|refine rG 11 (Calm.fieldAddr ty_field_62_5 rfl) ?_
    first|refine k_q 11 ?_|refine rG 11 (ld_ ty_plain_27 rfl) ?_
    first|refine k_q 11 ?_|refine rG 11 (Calm.bin rfl rfl (bin_bool (bin_eql _ _) (decide_eq_true q3))) ?_
    first|refine k_q 11 ?_|refine rG 11 (Calm.move rfl) ?_
    first|refine k_q 17 ?_|refine rG 17 (Calm.fieldAddr ty_field_62_0 rfl) ?_
    first|refine k_q 17 ?_|refine rG 17 (ld_ ty_plain_9 rfl) ?_
    first|refine k_q 17 ?_|refine rG 17 (Calm.fieldAddr ty_field_62_0 rfl) ?_
    first|refine k_q 17 ?_|refine rG 17 (ld_ ty_plain_9 rfl) ?_
    first|refine k_q 17 ?_|refine rG 17 (Calm.bin rfl rfl (bin_str_eql _ _)) ?_
    first|refine k_q 17 ?_|refine rG 17 (Calm.move rfl) ?_
    first|refine k_q 23 ?_|refine rG 23 (Calm.fieldAddr ty_field_62_1 rfl) ?_
    first|refine k_q 23 ?_|refine rG 23 (ld_ ty_plain_3 rfl) ?_
    first|refine k_q 23 ?_|refine rG 23 (Calm.fieldAddr ty_field_62_1 rfl) ?_
    first|refine k_q 23 ?_|refine rG 23 (ld_ ty_plain_3 rfl) ?_
    first|refine k_q 23 ?_|refine rG 23 (Calm.bin rfl rfl b_eql) ?_
    first|refine k_q 17 ?_|refine rG 17 ((by first | exact Calm.pickT rfl rfl | exact Calm.pickF rfl rfl)) ?_
    first|refine k_q 11 ?_|refine rG 11 ((by first | exact Calm.pickT rfl rfl | exact Calm.pickF rfl rfl)) ?_
    first|refine k_t rfl rfl ?_|refine k_f rfl rfl ?_
    refine k_e rfl ?_
    refine k_u [(0,_),(1,_),(2,_),(3,_),(4,_)] ?_
    refine AWP.ret ?_
    refine ⟨_,S,⟨_,_,rfl,rfl,rfl⟩,less_,?_⟩
    exact ⟨rfl,rfl⟩
   ·by_cases q4:x.name=y.name
    ·have e:decide (like x y)=decide (x.sector=y.sector):=by unfold like;simp [q1,q2,q3,q4]
     rw [e]
     refine ACall.enter (rs:=[.tmp 4]) 32 [(0,.agg #[.string x.name,.int .i64 x.sector,.string x.data,.int .i64 x.pins,.bool x.dirty,.int .u64 x.tick,.bool x.leased]),(1,.agg #[.string y.name,.int .i64 y.sector,.string y.data,.int .i64 y.pins,.bool y.dirty,.int .u64 y.tick,.bool y.leased])] Tryz.func52 rfl rfl (Nat.le_of_ble_eq_true rfl) rfl ⟨rfl,rfl,trivial⟩ ?_
     refine k_a ?_
     refine k_b7 rfl ?_
     intro b2 f2
     have g2:=f2
     repeat ((with_reducible replace g2:=fresh_set g2);obtain ⟨g2,_⟩:=g2)
     try simp only [k_l1,k_l0,k_za,Nat.reduceAdd]
     refine k_b7 rfl ?_
     intro b3 f3
     have g3:=f3
     repeat ((with_reducible replace g3:=fresh_set g3);obtain ⟨g3,_⟩:=g3)
     try simp only [k_l1,k_l0,k_za,Nat.reduceAdd]
     refine k_e rfl (k_a ?_)
     refine k_7 ty_agg_62 ty_size_62 rfl ?_
     refine ARun.call (lit_lt rfl) go_63 rfl (c1 _) ?_
     rintro _ S1 ⟨rfl,h1⟩
     rw [h1];clear h1 S1
     refine k_m rfl ?_
     first|refine k_q 7 ?_|refine rG 7 (ldA_ (cs:=[_,_,_,_,_,_,_]) ty_agg_62 ty_size_62 rfl) ?_
     refine ARun.callG 2 true 7 rfl (lit_lt rfl) rfl (lit_lt rfl) go_63 rfl (c2 _) ?_
     rintro _ S1 ⟨rfl,h1⟩
     rw [h1];clear h1 S1
     first|refine k_t rfl rfl ?_|refine k_f rfl rfl ?_
     refine k_m rfl ?_
     first|refine k_q 11 ?_|refine rG 11 (Calm.fieldAddr ty_field_62_5 rfl) ?_
     first|refine k_q 11 ?_|refine rG 11 (ld_ ty_plain_27 rfl) ?_
     first|refine k_q 11 ?_|refine rG 11 (Calm.fieldAddr ty_field_62_5 rfl) ?_
     first|refine k_q 11 ?_|refine rG 11 (ld_ ty_plain_27 rfl) ?_
     first|refine k_q 11 ?_|refine rG 11 (Calm.bin rfl rfl (bin_bool (bin_eql _ _) (decide_eq_false q3))) ?_
     first|refine k_q 11 ?_|refine rG 11 (Calm.move rfl) ?_
     first|refine k_q 17 ?_|refine rG 17 (Calm.fieldAddr ty_field_62_0 rfl) ?_
     first|refine k_q 17 ?_|refine rG 17 (ld_ ty_plain_9 rfl) ?_
     first|refine k_q 17 ?_|refine rG 17 (Calm.fieldAddr ty_field_62_0 rfl) ?_
     first|refine k_q 17 ?_|refine rG 17 (ld_ ty_plain_9 rfl) ?_
     first|refine k_q 17 ?_|refine rG 17 (Calm.bin rfl rfl (bin_bool (bin_str_eql _ _) (decide_eq_true q4))) ?_
     first|refine k_q 17 ?_|refine rG 17 (Calm.move rfl) ?_
     first|refine k_q 23 ?_|refine rG 23 (Calm.fieldAddr ty_field_62_1 rfl) ?_
     first|refine k_q 23 ?_|refine rG 23 (ld_ ty_plain_3 rfl) ?_
     first|refine k_q 23 ?_|refine rG 23 (Calm.fieldAddr ty_field_62_1 rfl) ?_
     first|refine k_q 23 ?_|refine rG 23 (ld_ ty_plain_3 rfl) ?_
     first|refine k_q 23 ?_|refine rG 23 (Calm.bin rfl rfl b_eql) ?_
     first|refine k_q 17 ?_|refine rG 17 ((by first | exact Calm.pickT rfl rfl | exact Calm.pickF rfl rfl)) ?_
     first|refine k_q 11 ?_|refine rG 11 ((by first | exact Calm.pickT rfl rfl | exact Calm.pickF rfl rfl)) ?_
     first|refine k_t rfl rfl ?_|refine k_f rfl rfl ?_
     refine k_e rfl ?_
     refine k_u [(0,_),(1,_),(2,_),(3,_),(4,_)] ?_
     refine AWP.ret ?_
     refine ⟨_,S,⟨_,_,rfl,rfl,rfl⟩,less_,?_⟩
     exact ⟨rfl,rfl⟩
    ·rw [decide_eq_false (show ¬ like x y from fun h=>h.2.2.elim q3 (fun h=>q4 h.1))]
     refine ACall.enter (rs:=[.tmp 4]) 32 [(0,.agg #[.string x.name,.int .i64 x.sector,.string x.data,.int .i64 x.pins,.bool x.dirty,.int .u64 x.tick,.bool x.leased]),(1,.agg #[.string y.name,.int .i64 y.sector,.string y.data,.int .i64 y.pins,.bool y.dirty,.int .u64 y.tick,.bool y.leased])] Tryz.func52 rfl rfl (Nat.le_of_ble_eq_true rfl) rfl ⟨rfl,rfl,trivial⟩ ?_
     refine k_a ?_
     refine k_b7 rfl ?_
     intro b2 f2
     have g2:=f2
     repeat ((with_reducible replace g2:=fresh_set g2);obtain ⟨g2,_⟩:=g2)
     try simp only [k_l1,k_l0,k_za,Nat.reduceAdd]
     refine k_b7 rfl ?_
     intro b3 f3
     have g3:=f3
     repeat ((with_reducible replace g3:=fresh_set g3);obtain ⟨g3,_⟩:=g3)
     try simp only [k_l1,k_l0,k_za,Nat.reduceAdd]
     refine k_e rfl (k_a ?_)
     refine k_7 ty_agg_62 ty_size_62 rfl ?_
     refine ARun.call (lit_lt rfl) go_63 rfl (c1 _) ?_
     rintro _ S1 ⟨rfl,h1⟩
     rw [h1];clear h1 S1
     refine k_m rfl ?_
     first|refine k_q 7 ?_|refine rG 7 (ldA_ (cs:=[_,_,_,_,_,_,_]) ty_agg_62 ty_size_62 rfl) ?_
     refine ARun.callG 2 true 7 rfl (lit_lt rfl) rfl (lit_lt rfl) go_63 rfl (c2 _) ?_
     rintro _ S1 ⟨rfl,h1⟩
     rw [h1];clear h1 S1
     first|refine k_t rfl rfl ?_|refine k_f rfl rfl ?_
     refine k_m rfl ?_
     first|refine k_q 11 ?_|refine rG 11 (Calm.fieldAddr ty_field_62_5 rfl) ?_
     first|refine k_q 11 ?_|refine rG 11 (ld_ ty_plain_27 rfl) ?_
     first|refine k_q 11 ?_|refine rG 11 (Calm.fieldAddr ty_field_62_5 rfl) ?_
     first|refine k_q 11 ?_|refine rG 11 (ld_ ty_plain_27 rfl) ?_
     first|refine k_q 11 ?_|refine rG 11 (Calm.bin rfl rfl (bin_bool (bin_eql _ _) (decide_eq_false q3))) ?_
     first|refine k_q 11 ?_|refine rG 11 (Calm.move rfl) ?_
     first|refine k_q 17 ?_|refine rG 17 (Calm.fieldAddr ty_field_62_0 rfl) ?_
     first|refine k_q 17 ?_|refine rG 17 (ld_ ty_plain_9 rfl) ?_
     first|refine k_q 17 ?_|refine rG 17 (Calm.fieldAddr ty_field_62_0 rfl) ?_
     first|refine k_q 17 ?_|refine rG 17 (ld_ ty_plain_9 rfl) ?_
     first|refine k_q 17 ?_|refine rG 17 (Calm.bin rfl rfl (bin_bool (bin_str_eql _ _) (decide_eq_false q4))) ?_
     first|refine k_q 17 ?_|refine rG 17 (Calm.move rfl) ?_
     first|refine k_q 23 ?_|refine rG 23 (Calm.fieldAddr ty_field_62_1 rfl) ?_
     first|refine k_q 23 ?_|refine rG 23 (ld_ ty_plain_3 rfl) ?_
     first|refine k_q 23 ?_|refine rG 23 (Calm.fieldAddr ty_field_62_1 rfl) ?_
     first|refine k_q 23 ?_|refine rG 23 (ld_ ty_plain_3 rfl) ?_
     first|refine k_q 23 ?_|refine rG 23 (Calm.bin rfl rfl b_eql) ?_
     first|refine k_q 17 ?_|refine rG 17 ((by first | exact Calm.pickT rfl rfl | exact Calm.pickF rfl rfl)) ?_
     first|refine k_q 11 ?_|refine rG 11 ((by first | exact Calm.pickT rfl rfl | exact Calm.pickF rfl rfl)) ?_
     first|refine k_t rfl rfl ?_|refine k_f rfl rfl ?_
     refine k_e rfl ?_
     refine k_u [(0,_),(1,_),(2,_),(3,_),(4,_)] ?_
     refine AWP.ret ?_
     refine ⟨_,S,⟨_,_,rfl,rfl,rfl⟩,less_,?_⟩
     exact ⟨rfl,rfl⟩
  ·rw [decide_eq_false q2] at c2
   rw [decide_eq_false (show ¬ like x y from fun h=>q2 h.2.1)]
   refine ACall.enter (rs:=[.tmp 4]) 32 [(0,.agg #[.string x.name,.int .i64 x.sector,.string x.data,.int .i64 x.pins,.bool x.dirty,.int .u64 x.tick,.bool x.leased]),(1,.agg #[.string y.name,.int .i64 y.sector,.string y.data,.int .i64 y.pins,.bool y.dirty,.int .u64 y.tick,.bool y.leased])] Tryz.func52 rfl rfl (Nat.le_of_ble_eq_true rfl) rfl ⟨rfl,rfl,trivial⟩ ?_
   refine k_a ?_
   refine k_b7 rfl ?_
   intro b2 f2
   have g2:=f2
   repeat ((with_reducible replace g2:=fresh_set g2);obtain ⟨g2,_⟩:=g2)
   try simp only [k_l1,k_l0,k_za,Nat.reduceAdd]
   refine k_b7 rfl ?_
   intro b3 f3
   have g3:=f3
   repeat ((with_reducible replace g3:=fresh_set g3);obtain ⟨g3,_⟩:=g3)
   try simp only [k_l1,k_l0,k_za,Nat.reduceAdd]
   refine k_e rfl (k_a ?_)
   refine k_7 ty_agg_62 ty_size_62 rfl ?_
   refine ARun.call (lit_lt rfl) go_63 rfl (c1 _) ?_
   rintro _ S1 ⟨rfl,h1⟩
   rw [h1];clear h1 S1
   refine k_m rfl ?_
   first|refine k_q 7 ?_|refine rG 7 (ldA_ (cs:=[_,_,_,_,_,_,_]) ty_agg_62 ty_size_62 rfl) ?_
   refine ARun.callG 2 true 7 rfl (lit_lt rfl) rfl (lit_lt rfl) go_63 rfl (c2 _) ?_
   rintro _ S1 ⟨rfl,h1⟩
   rw [h1];clear h1 S1
   first|refine k_t rfl rfl ?_|refine k_f rfl rfl ?_
   refine k_m rfl ?_
   first|refine k_q 11 ?_|refine rG 11 (Calm.fieldAddr ty_field_62_5 rfl) ?_
   first|refine k_q 11 ?_|refine rG 11 (ld_ ty_plain_27 rfl) ?_
   first|refine k_q 11 ?_|refine rG 11 (Calm.fieldAddr ty_field_62_5 rfl) ?_
   first|refine k_q 11 ?_|refine rG 11 (ld_ ty_plain_27 rfl) ?_
   first|refine k_q 11 ?_|refine rG 11 (Calm.bin rfl rfl b_eql) ?_
   first|refine k_q 11 ?_|refine rG 11 (Calm.move rfl) ?_
   first|refine k_q 17 ?_|refine rG 17 (Calm.fieldAddr ty_field_62_0 rfl) ?_
   first|refine k_q 17 ?_|refine rG 17 (ld_ ty_plain_9 rfl) ?_
   first|refine k_q 17 ?_|refine rG 17 (Calm.fieldAddr ty_field_62_0 rfl) ?_
   first|refine k_q 17 ?_|refine rG 17 (ld_ ty_plain_9 rfl) ?_
   first|refine k_q 17 ?_|refine rG 17 (Calm.bin rfl rfl (bin_str_eql _ _)) ?_
   first|refine k_q 17 ?_|refine rG 17 (Calm.move rfl) ?_
   first|refine k_q 23 ?_|refine rG 23 (Calm.fieldAddr ty_field_62_1 rfl) ?_
   first|refine k_q 23 ?_|refine rG 23 (ld_ ty_plain_3 rfl) ?_
   first|refine k_q 23 ?_|refine rG 23 (Calm.fieldAddr ty_field_62_1 rfl) ?_
   first|refine k_q 23 ?_|refine rG 23 (ld_ ty_plain_3 rfl) ?_
   first|refine k_q 23 ?_|refine rG 23 (Calm.bin rfl rfl b_eql) ?_
   first|refine k_q 17 ?_|refine rG 17 ((by first | exact Calm.pickT rfl rfl | exact Calm.pickF rfl rfl)) ?_
   first|refine k_q 11 ?_|refine rG 11 ((by first | exact Calm.pickT rfl rfl | exact Calm.pickF rfl rfl)) ?_
   first|refine k_t rfl rfl ?_|refine k_f rfl rfl ?_
   refine k_e rfl ?_
   refine k_u [(0,_),(1,_),(2,_),(3,_),(4,_)] ?_
   refine AWP.ret ?_
   refine ⟨_,S,⟨_,_,rfl,rfl,rfl⟩,less_,?_⟩
   exact ⟨rfl,rfl⟩
 ·rw [decide_eq_false q1] at c1
  rw [decide_eq_false (show ¬ like x y from fun h=>q1 h.1)]
  refine ACall.enter (rs:=[.tmp 4]) 32 [(0,.agg #[.string x.name,.int .i64 x.sector,.string x.data,.int .i64 x.pins,.bool x.dirty,.int .u64 x.tick,.bool x.leased]),(1,.agg #[.string y.name,.int .i64 y.sector,.string y.data,.int .i64 y.pins,.bool y.dirty,.int .u64 y.tick,.bool y.leased])] Tryz.func52 rfl rfl (Nat.le_of_ble_eq_true rfl) rfl ⟨rfl,rfl,trivial⟩ ?_
  refine k_a ?_
  refine k_b7 rfl ?_
  intro b2 f2
  have g2:=f2
  repeat ((with_reducible replace g2:=fresh_set g2);obtain ⟨g2,_⟩:=g2)
  try simp only [k_l1,k_l0,k_za,Nat.reduceAdd]
  refine k_b7 rfl ?_
  intro b3 f3
  have g3:=f3
  repeat ((with_reducible replace g3:=fresh_set g3);obtain ⟨g3,_⟩:=g3)
  try simp only [k_l1,k_l0,k_za,Nat.reduceAdd]
  refine k_e rfl (k_a ?_)
  refine k_7 ty_agg_62 ty_size_62 rfl ?_
  refine ARun.call (lit_lt rfl) go_63 rfl (c1 _) ?_
  rintro _ S1 ⟨rfl,h1⟩
  rw [h1];clear h1 S1
  refine k_m rfl ?_
  first|refine k_q 7 ?_|refine rG 7 (ldA_ (cs:=[_,_,_,_,_,_,_]) ty_agg_62 ty_size_62 rfl) ?_
  first | refine rS 7 ?_ | refine rU 7 ?_
  first|refine k_t rfl rfl ?_|refine k_f rfl rfl ?_
  refine k_m rfl ?_
  first|refine k_q 11 ?_|refine rG 11 (Calm.fieldAddr ty_field_62_5 rfl) ?_
  first|refine k_q 11 ?_|refine rG 11 (ld_ ty_plain_27 rfl) ?_
  first|refine k_q 11 ?_|refine rG 11 (Calm.fieldAddr ty_field_62_5 rfl) ?_
  first|refine k_q 11 ?_|refine rG 11 (ld_ ty_plain_27 rfl) ?_
  first|refine k_q 11 ?_|refine rG 11 (Calm.bin rfl rfl b_eql) ?_
  first|refine k_q 11 ?_|refine rG 11 (Calm.move rfl) ?_
  first|refine k_q 17 ?_|refine rG 17 (Calm.fieldAddr ty_field_62_0 rfl) ?_
  first|refine k_q 17 ?_|refine rG 17 (ld_ ty_plain_9 rfl) ?_
  first|refine k_q 17 ?_|refine rG 17 (Calm.fieldAddr ty_field_62_0 rfl) ?_
  first|refine k_q 17 ?_|refine rG 17 (ld_ ty_plain_9 rfl) ?_
  first|refine k_q 17 ?_|refine rG 17 (Calm.bin rfl rfl (bin_str_eql _ _)) ?_
  first|refine k_q 17 ?_|refine rG 17 (Calm.move rfl) ?_
  first|refine k_q 23 ?_|refine rG 23 (Calm.fieldAddr ty_field_62_1 rfl) ?_
  first|refine k_q 23 ?_|refine rG 23 (ld_ ty_plain_3 rfl) ?_
  first|refine k_q 23 ?_|refine rG 23 (Calm.fieldAddr ty_field_62_1 rfl) ?_
  first|refine k_q 23 ?_|refine rG 23 (ld_ ty_plain_3 rfl) ?_
  first|refine k_q 23 ?_|refine rG 23 (Calm.bin rfl rfl b_eql) ?_
  first|refine k_q 17 ?_|refine rG 17 ((by first | exact Calm.pickT rfl rfl | exact Calm.pickF rfl rfl)) ?_
  first|refine k_q 11 ?_|refine rG 11 ((by first | exact Calm.pickT rfl rfl | exact Calm.pickF rfl rfl)) ?_
  first|refine k_t rfl rfl ?_|refine k_f rfl rfl ?_
  refine k_e rfl ?_
  refine k_u [(0,_),(1,_),(2,_),(3,_),(4,_)] ?_
  refine AWP.ret ?_
  refine ⟨_,S,⟨_,_,rfl,rfl,rfl⟩,less_,?_⟩
  exact ⟨rfl,rfl⟩
end Go.Proofs.YtkeiphkccnfhoaaGreat
namespace Go.Proofs.YtkeiphkccnfhoaaGreat
open Go.RowKit
open Mv Disk
set_option maxRecDepth 20000
def Sound (d : D) (x : Fr) (tick : Int) : Prop :=
  (¬ x.holds ∧ (x = F0 ∨ x = F1)) ∨ (x.holds ∧ (readD d x.name x.sector).2 = 0 ∧ x.leased = false ∧ x.data.size = 64 ∧ 0 ≤ x.pins ∧ x.pins ≤ 256 ∧ 1 ≤ x.tick ∧ x.tick ≤ tick ∧ (x.dirty = true ∨ x.data = (readD d x.name x.sector).1))
instance (d : D) (x : Fr) (tick : Int) : Decidable (Sound d x tick) := by unfold Sound; infer_instance
theorem sound_no {d : D} {x : Fr} {tick : Int} (hh : x.holds) (h : ¬ ((readD d x.name x.sector).2 = 0 ∧ x.leased = false ∧ x.data.size = 64 ∧ 0 ≤ x.pins ∧ x.pins ≤ 256 ∧ 1 ≤ x.tick ∧ x.tick ≤ tick ∧ (x.dirty = true ∨ x.data = (readD d x.name x.sector).1))) : decide (Sound d x tick) = false :=
 decide_eq_false fun q=>q.elim (fun q=>q.1 hh) (fun q=>h q.2)
set_option maxHeartbeats 4000000 in
theorem pl_sound (p : Nat) (d : D) (x : Fr) (tick : Int) (M : Mem) (h : RdV M p d) (hR : Right d) :
  ACall Tryz.prog 49 #[.pointer (some ⟨p,0,none⟩),frV x,.int .u64 tick] M fun r S'=>r = .bool (decide (Sound d x tick))∧S'=M:=by
 have cf:=fun S=>pl_free x S
 have ch:=fun S=>pl_holds x S
 have cr:=fun S h=>dev_Read p d x.name x.sector S h hR
 unfold frV at *
 by_cases q1:x.holds
 ·rw [decide_eq_true q1] at ch
  have hno:=fun h=>sound_no (d:=d) (x:=x) (tick:=tick) q1 h
  have hyes:decide (Sound d x tick)=decide ((readD d x.name x.sector).2=0∧x.leased=false∧x.data.size=64∧0≤x.pins∧x.pins≤256∧1≤x.tick∧x.tick≤tick∧(x.dirty=true∨x.data=(readD d x.name x.sector).1)):=by unfold Sound;simp [q1]
  generalize readD d x.name x.sector=u at *
  by_cases q2:u.2=0
  ·skip
   by_cases q3:x.leased=true
   ·rw [hno (fun h=>by rw [q3] at h;exact absurd h.2.1 (by simp))]
    refine ACall.enter (rs:=[.tmp 6]) 69 [(0,.pointer (some ⟨p,0,none⟩)),(1,.agg #[.string x.name,.int .i64 x.sector,.string x.data,.int .i64 x.pins,.bool x.dirty,.int .u64 x.tick,.bool x.leased]),(2,.int .u64 tick)] Tryz.func49 rfl rfl (Nat.le_of_ble_eq_true rfl) rfl ⟨rfl,rfl,rfl,trivial⟩ ?_
    refine k_a ?_
    refine k_b7 rfl ?_
    intro b4 f4
    have g4:=f4
    repeat ((with_reducible replace g4:=fresh_set g4);obtain ⟨g4,_⟩:=g4)
    try simp only [k_l1,k_l0,k_za,Nat.reduceAdd]
    refine k_e rfl (AWP.seq (k_a ?_))
    refine k_7 ty_agg_62 ty_size_62 rfl ?_
    refine ARun.call (lit_lt rfl) go_63 rfl (ch _) ?_
    rintro _ S1 ⟨rfl,h1⟩
    rw [h1];clear h1 S1
    refine rC (Calm.un rfl (una_not _)) ?_
    refine k_n ?_
    refine k_u [(0,_),(1,_),(2,_),(4,_),(6,_),(11,_)] ?_
    refine k_F rfl ?_
    refine k_k (k_a (k_m rfl ?_))
    refine rC (Calm.fieldAddr ty_field_62_0 rfl) ?_
    refine rC (ld_ ty_plain_9 rfl) ?_
    refine rC (Calm.fieldAddr ty_field_62_1 rfl) ?_
    refine rC (ld_ ty_plain_3 rfl) ?_
    refine ARun.call (lit_lt rfl) go_68 rfl (cr _ (h.less less_)) ?_
    rintro _ S1 ⟨rfl,h1⟩
    rw [h1];clear h1 S1
    refine k_m rfl ?_
    refine rC (Calm.extract rfl rfl) ?_
    refine rC (Calm.extract rfl rfl) ?_
    refine k_s rfl (k_e rfl ?_)
    refine k_u [(0,_),(1,_),(2,_),(4,_),(6,_),(11,_),(7,_),(8,_)] ?_
    refine AWP.seq (k_a (k_m rfl ?_))
    refine rC (Calm.bin rfl rfl (bin_bool (bin_neq _ _) (bnot_dec_false q2))) ?_
    refine k_m rfl ?_
    first|refine k_q 30 ?_|refine rG 30 (Calm.fieldAddr ty_field_62_6 rfl) ?_
    first|refine k_q 30 ?_|refine rG 30 (Calm.as (congrArg Value.bool q3) (ld_ ty_plain_4 rfl)) ?_
    first|refine k_t rfl rfl ?_|refine k_f rfl rfl ?_
    refine k_m rfl ?_
    first|refine k_q 34 ?_|refine rG 34 (Calm.fieldAddr ty_field_62_2 rfl) ?_
    first|refine k_q 34 ?_|refine rG 34 (ld_ ty_plain_9 rfl) ?_
    first|refine k_q 34 ?_|refine rG 34 (Calm.lenStr (strT_spec ty_str_9) rfl) ?_
    first|refine k_q 34 ?_|refine rG 34 (Calm.bin rfl rfl b_neq) ?_
    first|refine k_t rfl rfl ?_|refine k_f rfl rfl ?_
    refine k_m rfl ?_
    first|refine k_q 40 ?_|refine rG 40 (Calm.fieldAddr ty_field_62_3 rfl) ?_
    first|refine k_q 40 ?_|refine rG 40 (ld_ ty_plain_3 rfl) ?_
    first|refine k_q 40 ?_|refine rG 40 (Calm.bin rfl rfl b_lss) ?_
    first|refine k_t rfl rfl ?_|refine k_f rfl rfl ?_
    refine k_m rfl ?_
    first|refine k_q 45 ?_|refine rG 45 (Calm.fieldAddr ty_field_62_3 rfl) ?_
    first|refine k_q 45 ?_|refine rG 45 (ld_ ty_plain_3 rfl) ?_
    first|refine k_q 45 ?_|refine rG 45 (Calm.bin rfl rfl b_gtr) ?_
    first|refine k_t rfl rfl ?_|refine k_f rfl rfl ?_
    refine k_n ?_
    refine k_u [(0,_),(1,_),(2,_),(4,_),(6,_),(11,_),(7,_),(8,_),(49,_)] ?_
    refine k_T rfl ?_
    refine k_a (k_e rfl ?_)
    refine k_r ?_
    refine ⟨_,M,⟨_,_,rfl,rfl,rfl⟩,less_,?_⟩
    exact ⟨rfl,rfl⟩
   ·have q3:x.leased=false:=by simpa using q3
    by_cases q4:x.data.size=64
    ·skip
     by_cases q5:x.pins<0
     ·rw [hno (fun h=>absurd h.2.2.2.1 (by omega))]
      refine ACall.enter (rs:=[.tmp 6]) 69 [(0,.pointer (some ⟨p,0,none⟩)),(1,.agg #[.string x.name,.int .i64 x.sector,.string x.data,.int .i64 x.pins,.bool x.dirty,.int .u64 x.tick,.bool x.leased]),(2,.int .u64 tick)] Tryz.func49 rfl rfl (Nat.le_of_ble_eq_true rfl) rfl ⟨rfl,rfl,rfl,trivial⟩ ?_
      refine k_a ?_
      refine k_b7 rfl ?_
      intro b4 f4
      have g4:=f4
      repeat ((with_reducible replace g4:=fresh_set g4);obtain ⟨g4,_⟩:=g4)
      try simp only [k_l1,k_l0,k_za,Nat.reduceAdd]
      refine k_e rfl (AWP.seq (k_a ?_))
      refine k_7 ty_agg_62 ty_size_62 rfl ?_
      refine ARun.call (lit_lt rfl) go_63 rfl (ch _) ?_
      rintro _ S1 ⟨rfl,h1⟩
      rw [h1];clear h1 S1
      refine rC (Calm.un rfl (una_not _)) ?_
      refine k_n ?_
      refine k_u [(0,_),(1,_),(2,_),(4,_),(6,_),(11,_)] ?_
      refine k_F rfl ?_
      refine k_k (k_a (k_m rfl ?_))
      refine rC (Calm.fieldAddr ty_field_62_0 rfl) ?_
      refine rC (ld_ ty_plain_9 rfl) ?_
      refine rC (Calm.fieldAddr ty_field_62_1 rfl) ?_
      refine rC (ld_ ty_plain_3 rfl) ?_
      refine ARun.call (lit_lt rfl) go_68 rfl (cr _ (h.less less_)) ?_
      rintro _ S1 ⟨rfl,h1⟩
      rw [h1];clear h1 S1
      refine k_m rfl ?_
      refine rC (Calm.extract rfl rfl) ?_
      refine rC (Calm.extract rfl rfl) ?_
      refine k_s rfl (k_e rfl ?_)
      refine k_u [(0,_),(1,_),(2,_),(4,_),(6,_),(11,_),(7,_),(8,_)] ?_
      refine AWP.seq (k_a (k_m rfl ?_))
      refine rC (Calm.bin rfl rfl (bin_bool (bin_neq _ _) (bnot_dec_false q2))) ?_
      refine k_m rfl ?_
      first|refine k_q 30 ?_|refine rG 30 (Calm.fieldAddr ty_field_62_6 rfl) ?_
      first|refine k_q 30 ?_|refine rG 30 (Calm.as (congrArg Value.bool q3) (ld_ ty_plain_4 rfl)) ?_
      first|refine k_t rfl rfl ?_|refine k_f rfl rfl ?_
      refine k_m rfl ?_
      first|refine k_q 34 ?_|refine rG 34 (Calm.fieldAddr ty_field_62_2 rfl) ?_
      first|refine k_q 34 ?_|refine rG 34 (ld_ ty_plain_9 rfl) ?_
      first|refine k_q 34 ?_|refine rG 34 (Calm.lenStr (strT_spec ty_str_9) rfl) ?_
      first|refine k_q 34 ?_|refine rG 34 (Calm.bin rfl rfl (bin_bool (bin_neq _ _) (bnot_dec_false (by omega)))) ?_
      first|refine k_t rfl rfl ?_|refine k_f rfl rfl ?_
      refine k_m rfl ?_
      first|refine k_q 40 ?_|refine rG 40 (Calm.fieldAddr ty_field_62_3 rfl) ?_
      first|refine k_q 40 ?_|refine rG 40 (ld_ ty_plain_3 rfl) ?_
      first|refine k_q 40 ?_|refine rG 40 (Calm.bin rfl rfl b_lss) ?_
      first|refine k_t rfl rfl ?_|refine k_f rfl rfl ?_
      refine k_m rfl ?_
      first|refine k_q 45 ?_|refine rG 45 (Calm.fieldAddr ty_field_62_3 rfl) ?_
      first|refine k_q 45 ?_|refine rG 45 (ld_ ty_plain_3 rfl) ?_
      first|refine k_q 45 ?_|refine rG 45 (Calm.bin rfl rfl b_gtr) ?_
      first|refine k_t rfl rfl ?_|refine k_f rfl rfl ?_
      refine k_n ?_
      refine k_u [(0,_),(1,_),(2,_),(4,_),(6,_),(11,_),(7,_),(8,_),(49,_)] ?_
      refine k_T rfl ?_
      refine k_a (k_e rfl ?_)
      refine k_r ?_
      refine ⟨_,M,⟨_,_,rfl,rfl,rfl⟩,less_,?_⟩
      exact ⟨rfl,rfl⟩
     ·by_cases q6:256<x.pins
      ·rw [hno (fun h=>absurd h.2.2.2.2.1 (by omega))]
       refine ACall.enter (rs:=[.tmp 6]) 69 [(0,.pointer (some ⟨p,0,none⟩)),(1,.agg #[.string x.name,.int .i64 x.sector,.string x.data,.int .i64 x.pins,.bool x.dirty,.int .u64 x.tick,.bool x.leased]),(2,.int .u64 tick)] Tryz.func49 rfl rfl (Nat.le_of_ble_eq_true rfl) rfl ⟨rfl,rfl,rfl,trivial⟩ ?_
       refine k_a ?_
       refine k_b7 rfl ?_
       intro b4 f4
       have g4:=f4
       repeat ((with_reducible replace g4:=fresh_set g4);obtain ⟨g4,_⟩:=g4)
       try simp only [k_l1,k_l0,k_za,Nat.reduceAdd]
       refine k_e rfl (AWP.seq (k_a ?_))
       refine k_7 ty_agg_62 ty_size_62 rfl ?_
       refine ARun.call (lit_lt rfl) go_63 rfl (ch _) ?_
       rintro _ S1 ⟨rfl,h1⟩
       rw [h1];clear h1 S1
       refine rC (Calm.un rfl (una_not _)) ?_
       refine k_n ?_
       refine k_u [(0,_),(1,_),(2,_),(4,_),(6,_),(11,_)] ?_
       refine k_F rfl ?_
       refine k_k (k_a (k_m rfl ?_))
       refine rC (Calm.fieldAddr ty_field_62_0 rfl) ?_
       refine rC (ld_ ty_plain_9 rfl) ?_
       refine rC (Calm.fieldAddr ty_field_62_1 rfl) ?_
       refine rC (ld_ ty_plain_3 rfl) ?_
       refine ARun.call (lit_lt rfl) go_68 rfl (cr _ (h.less less_)) ?_
       rintro _ S1 ⟨rfl,h1⟩
       rw [h1];clear h1 S1
       refine k_m rfl ?_
       refine rC (Calm.extract rfl rfl) ?_
       refine rC (Calm.extract rfl rfl) ?_
       refine k_s rfl (k_e rfl ?_)
       refine k_u [(0,_),(1,_),(2,_),(4,_),(6,_),(11,_),(7,_),(8,_)] ?_
       refine AWP.seq (k_a (k_m rfl ?_))
       refine rC (Calm.bin rfl rfl (bin_bool (bin_neq _ _) (bnot_dec_false q2))) ?_
       refine k_m rfl ?_
       first|refine k_q 30 ?_|refine rG 30 (Calm.fieldAddr ty_field_62_6 rfl) ?_
       first|refine k_q 30 ?_|refine rG 30 (Calm.as (congrArg Value.bool q3) (ld_ ty_plain_4 rfl)) ?_
       first|refine k_t rfl rfl ?_|refine k_f rfl rfl ?_
       refine k_m rfl ?_
       first|refine k_q 34 ?_|refine rG 34 (Calm.fieldAddr ty_field_62_2 rfl) ?_
       first|refine k_q 34 ?_|refine rG 34 (ld_ ty_plain_9 rfl) ?_
       first|refine k_q 34 ?_|refine rG 34 (Calm.lenStr (strT_spec ty_str_9) rfl) ?_
       first|refine k_q 34 ?_|refine rG 34 (Calm.bin rfl rfl (bin_bool (bin_neq _ _) (bnot_dec_false (by omega)))) ?_
       first|refine k_t rfl rfl ?_|refine k_f rfl rfl ?_
       refine k_m rfl ?_
       first|refine k_q 40 ?_|refine rG 40 (Calm.fieldAddr ty_field_62_3 rfl) ?_
       first|refine k_q 40 ?_|refine rG 40 (ld_ ty_plain_3 rfl) ?_
       first|refine k_q 40 ?_|refine rG 40 (Calm.bin rfl rfl b_lss) ?_
       first|refine k_t rfl rfl ?_|refine k_f rfl rfl ?_
       refine k_m rfl ?_
       first|refine k_q 45 ?_|refine rG 45 (Calm.fieldAddr ty_field_62_3 rfl) ?_
       first|refine k_q 45 ?_|refine rG 45 (ld_ ty_plain_3 rfl) ?_
       first|refine k_q 45 ?_|refine rG 45 (Calm.bin rfl rfl b_gtr) ?_
       first|refine k_t rfl rfl ?_|refine k_f rfl rfl ?_
       refine k_n ?_
       refine k_u [(0,_),(1,_),(2,_),(4,_),(6,_),(11,_),(7,_),(8,_),(49,_)] ?_
       refine k_T rfl ?_
       refine k_a (k_e rfl ?_)
       refine k_r ?_
       refine ⟨_,M,⟨_,_,rfl,rfl,rfl⟩,less_,?_⟩
       exact ⟨rfl,rfl⟩
      ·by_cases q7:1≤x.tick
       ·by_cases q8:x.tick≤tick
        ·by_cases q9:x.dirty=true
         ·rw [hyes,decide_eq_true ⟨q2,q3,q4,by omega,by omega,q7,q8,.inl q9⟩]
          refine ACall.enter (rs:=[.tmp 6]) 69 [(0,.pointer (some ⟨p,0,none⟩)),(1,.agg #[.string x.name,.int .i64 x.sector,.string x.data,.int .i64 x.pins,.bool x.dirty,.int .u64 x.tick,.bool x.leased]),(2,.int .u64 tick)] Tryz.func49 rfl rfl (Nat.le_of_ble_eq_true rfl) rfl ⟨rfl,rfl,rfl,trivial⟩ ?_
          refine k_a ?_
          refine k_b7 rfl ?_
          intro b4 f4
          have g4:=f4
          repeat ((with_reducible replace g4:=fresh_set g4);obtain ⟨g4,_⟩:=g4)
          try simp only [k_l1,k_l0,k_za,Nat.reduceAdd]
          refine k_e rfl (AWP.seq (k_a ?_))
          refine k_7 ty_agg_62 ty_size_62 rfl ?_
          refine ARun.call (lit_lt rfl) go_63 rfl (ch _) ?_
          rintro _ S1 ⟨rfl,h1⟩
          rw [h1];clear h1 S1
          refine rC (Calm.un rfl (una_not _)) ?_
          refine k_n ?_
          refine k_u [(0,_),(1,_),(2,_),(4,_),(6,_),(11,_)] ?_
          refine k_F rfl ?_
          refine k_k (k_a (k_m rfl ?_))
          refine rC (Calm.fieldAddr ty_field_62_0 rfl) ?_
          refine rC (ld_ ty_plain_9 rfl) ?_
          refine rC (Calm.fieldAddr ty_field_62_1 rfl) ?_
          refine rC (ld_ ty_plain_3 rfl) ?_
          refine ARun.call (lit_lt rfl) go_68 rfl (cr _ (h.less less_)) ?_
          rintro _ S1 ⟨rfl,h1⟩
          rw [h1];clear h1 S1
          refine k_m rfl ?_
          refine rC (Calm.extract rfl rfl) ?_
          refine rC (Calm.extract rfl rfl) ?_
          refine k_s rfl (k_e rfl ?_)
          refine k_u [(0,_),(1,_),(2,_),(4,_),(6,_),(11,_),(7,_),(8,_)] ?_
          refine AWP.seq (k_a (k_m rfl ?_))
          refine rC (Calm.bin rfl rfl (bin_bool (bin_neq _ _) (bnot_dec_false q2))) ?_
          refine k_m rfl ?_
          first|refine k_q 30 ?_|refine rG 30 (Calm.fieldAddr ty_field_62_6 rfl) ?_
          first|refine k_q 30 ?_|refine rG 30 (Calm.as (congrArg Value.bool q3) (ld_ ty_plain_4 rfl)) ?_
          first|refine k_t rfl rfl ?_|refine k_f rfl rfl ?_
          refine k_m rfl ?_
          first|refine k_q 34 ?_|refine rG 34 (Calm.fieldAddr ty_field_62_2 rfl) ?_
          first|refine k_q 34 ?_|refine rG 34 (ld_ ty_plain_9 rfl) ?_
          first|refine k_q 34 ?_|refine rG 34 (Calm.lenStr (strT_spec ty_str_9) rfl) ?_
          first|refine k_q 34 ?_|refine rG 34 (Calm.bin rfl rfl (bin_bool (bin_neq _ _) (bnot_dec_false (by omega)))) ?_
          first|refine k_t rfl rfl ?_|refine k_f rfl rfl ?_
          refine k_m rfl ?_
          first|refine k_q 40 ?_|refine rG 40 (Calm.fieldAddr ty_field_62_3 rfl) ?_
          first|refine k_q 40 ?_|refine rG 40 (ld_ ty_plain_3 rfl) ?_
          first|refine k_q 40 ?_|refine rG 40 (Calm.bin rfl rfl b_lss) ?_
          first|refine k_t rfl rfl ?_|refine k_f rfl rfl ?_
          refine k_m rfl ?_
          first|refine k_q 45 ?_|refine rG 45 (Calm.fieldAddr ty_field_62_3 rfl) ?_
          first|refine k_q 45 ?_|refine rG 45 (ld_ ty_plain_3 rfl) ?_
          first|refine k_q 45 ?_|refine rG 45 (Calm.bin rfl rfl b_gtr) ?_
          first|refine k_t rfl rfl ?_|refine k_f rfl rfl ?_
          refine k_n ?_
          refine k_u [(0,_),(1,_),(2,_),(4,_),(6,_),(11,_),(7,_),(8,_),(49,_)] ?_
          refine k_F rfl ?_
          refine k_k (k_a ?_)
          refine rC (Calm.fieldAddr ty_field_62_5 rfl) ?_
          refine rC (ld_ ty_plain_27 rfl) ?_
          refine rC (Calm.bin rfl rfl b_geq) ?_
          refine k_m rfl ?_
          first|refine k_q 53 ?_|refine rG 53 (Calm.fieldAddr ty_field_62_5 rfl) ?_
          first|refine k_q 53 ?_|refine rG 53 (ld_ ty_plain_27 rfl) ?_
          first|refine k_q 53 ?_|refine rG 53 (Calm.move rfl) ?_
          first|refine k_q 53 ?_|refine rG 53 (Calm.bin rfl rfl b_leq) ?_
          first|refine k_t rfl rfl ?_|refine k_f rfl rfl ?_
          refine k_m rfl ?_
          first|refine k_q 59 ?_|refine rG 59 (Calm.fieldAddr ty_field_62_4 rfl) ?_
          first|refine k_q 59 ?_|refine rG 59 (Calm.as (congrArg Value.bool q9) (ld_ ty_plain_4 rfl)) ?_
          first|refine k_q 59 ?_|refine rG 59 (Calm.move rfl) ?_
          first|refine k_q 62 ?_|refine rG 62 (Calm.fieldAddr ty_field_62_2 rfl) ?_
          first|refine k_q 62 ?_|refine rG 62 (ld_ ty_plain_9 rfl) ?_
          first|refine k_q 62 ?_|refine rG 62 (Calm.move rfl) ?_
          first|refine k_q 62 ?_|refine rG 62 (Calm.bin rfl rfl (bin_str_eql _ _)) ?_
          first|refine k_q 59 ?_|refine rG 59 ((by first | exact Calm.pickT rfl rfl | exact Calm.pickF rfl rfl)) ?_
          first|refine k_t rfl rfl ?_|refine k_f rfl rfl ?_
          refine k_e rfl ?_
          refine k_u [(0,_),(1,_),(2,_),(4,_),(6,_),(11,_),(7,_),(8,_),(49,_)] ?_
          refine AWP.ret ?_
          refine ⟨_,M,⟨_,_,rfl,rfl,rfl⟩,less_,?_⟩
          exact ⟨rfl,rfl⟩
         ·have q9:x.dirty=false:=by simpa using q9
          have ee:decide (u.2=0∧x.leased=false∧x.data.size=64∧0≤x.pins∧x.pins≤256∧1≤x.tick∧x.tick≤tick∧(x.dirty=true∨x.data=u.1))=decide (x.data=u.1):=decide_eq_decide.2 ⟨fun h=>h.2.2.2.2.2.2.2.resolve_left (by rw [q9];simp),fun h=>⟨q2,q3,q4,by omega,by omega,q7,q8,.inr h⟩⟩
          rw [hyes,ee]
          refine ACall.enter (rs:=[.tmp 6]) 69 [(0,.pointer (some ⟨p,0,none⟩)),(1,.agg #[.string x.name,.int .i64 x.sector,.string x.data,.int .i64 x.pins,.bool x.dirty,.int .u64 x.tick,.bool x.leased]),(2,.int .u64 tick)] Tryz.func49 rfl rfl (Nat.le_of_ble_eq_true rfl) rfl ⟨rfl,rfl,rfl,trivial⟩ ?_
          refine k_a ?_
          refine k_b7 rfl ?_
          intro b4 f4
          have g4:=f4
          repeat ((with_reducible replace g4:=fresh_set g4);obtain ⟨g4,_⟩:=g4)
          try simp only [k_l1,k_l0,k_za,Nat.reduceAdd]
          refine k_e rfl (AWP.seq (k_a ?_))
          refine k_7 ty_agg_62 ty_size_62 rfl ?_
          refine ARun.call (lit_lt rfl) go_63 rfl (ch _) ?_
          rintro _ S1 ⟨rfl,h1⟩
          rw [h1];clear h1 S1
          refine rC (Calm.un rfl (una_not _)) ?_
          refine k_n ?_
          refine k_u [(0,_),(1,_),(2,_),(4,_),(6,_),(11,_)] ?_
          refine k_F rfl ?_
          refine k_k (k_a (k_m rfl ?_))
          refine rC (Calm.fieldAddr ty_field_62_0 rfl) ?_
          refine rC (ld_ ty_plain_9 rfl) ?_
          refine rC (Calm.fieldAddr ty_field_62_1 rfl) ?_
          refine rC (ld_ ty_plain_3 rfl) ?_
          refine ARun.call (lit_lt rfl) go_68 rfl (cr _ (h.less less_)) ?_
          rintro _ S1 ⟨rfl,h1⟩
          rw [h1];clear h1 S1
          refine k_m rfl ?_
          refine rC (Calm.extract rfl rfl) ?_
          refine rC (Calm.extract rfl rfl) ?_
          refine k_s rfl (k_e rfl ?_)
          refine k_u [(0,_),(1,_),(2,_),(4,_),(6,_),(11,_),(7,_),(8,_)] ?_
          refine AWP.seq (k_a (k_m rfl ?_))
          refine rC (Calm.bin rfl rfl (bin_bool (bin_neq _ _) (bnot_dec_false q2))) ?_
          refine k_m rfl ?_
          first|refine k_q 30 ?_|refine rG 30 (Calm.fieldAddr ty_field_62_6 rfl) ?_
          first|refine k_q 30 ?_|refine rG 30 (Calm.as (congrArg Value.bool q3) (ld_ ty_plain_4 rfl)) ?_
          first|refine k_t rfl rfl ?_|refine k_f rfl rfl ?_
          refine k_m rfl ?_
          first|refine k_q 34 ?_|refine rG 34 (Calm.fieldAddr ty_field_62_2 rfl) ?_
          first|refine k_q 34 ?_|refine rG 34 (ld_ ty_plain_9 rfl) ?_
          first|refine k_q 34 ?_|refine rG 34 (Calm.lenStr (strT_spec ty_str_9) rfl) ?_
          first|refine k_q 34 ?_|refine rG 34 (Calm.bin rfl rfl (bin_bool (bin_neq _ _) (bnot_dec_false (by omega)))) ?_
          first|refine k_t rfl rfl ?_|refine k_f rfl rfl ?_
          refine k_m rfl ?_
          first|refine k_q 40 ?_|refine rG 40 (Calm.fieldAddr ty_field_62_3 rfl) ?_
          first|refine k_q 40 ?_|refine rG 40 (ld_ ty_plain_3 rfl) ?_
          first|refine k_q 40 ?_|refine rG 40 (Calm.bin rfl rfl b_lss) ?_
          first|refine k_t rfl rfl ?_|refine k_f rfl rfl ?_
          refine k_m rfl ?_
          first|refine k_q 45 ?_|refine rG 45 (Calm.fieldAddr ty_field_62_3 rfl) ?_
          first|refine k_q 45 ?_|refine rG 45 (ld_ ty_plain_3 rfl) ?_
          first|refine k_q 45 ?_|refine rG 45 (Calm.bin rfl rfl b_gtr) ?_
          first|refine k_t rfl rfl ?_|refine k_f rfl rfl ?_
          refine k_n ?_
          refine k_u [(0,_),(1,_),(2,_),(4,_),(6,_),(11,_),(7,_),(8,_),(49,_)] ?_
          refine k_F rfl ?_
          refine k_k (k_a ?_)
          refine rC (Calm.fieldAddr ty_field_62_5 rfl) ?_
          refine rC (ld_ ty_plain_27 rfl) ?_
          refine rC (Calm.bin rfl rfl b_geq) ?_
          refine k_m rfl ?_
          first|refine k_q 53 ?_|refine rG 53 (Calm.fieldAddr ty_field_62_5 rfl) ?_
          first|refine k_q 53 ?_|refine rG 53 (ld_ ty_plain_27 rfl) ?_
          first|refine k_q 53 ?_|refine rG 53 (Calm.move rfl) ?_
          first|refine k_q 53 ?_|refine rG 53 (Calm.bin rfl rfl b_leq) ?_
          first|refine k_t rfl rfl ?_|refine k_f rfl rfl ?_
          refine k_m rfl ?_
          first|refine k_q 59 ?_|refine rG 59 (Calm.fieldAddr ty_field_62_4 rfl) ?_
          first|refine k_q 59 ?_|refine rG 59 (Calm.as (congrArg Value.bool q9) (ld_ ty_plain_4 rfl)) ?_
          first|refine k_q 59 ?_|refine rG 59 (Calm.move rfl) ?_
          first|refine k_q 62 ?_|refine rG 62 (Calm.fieldAddr ty_field_62_2 rfl) ?_
          first|refine k_q 62 ?_|refine rG 62 (ld_ ty_plain_9 rfl) ?_
          first|refine k_q 62 ?_|refine rG 62 (Calm.move rfl) ?_
          first|refine k_q 62 ?_|refine rG 62 (Calm.bin rfl rfl (bin_str_eql _ _)) ?_
          first|refine k_q 59 ?_|refine rG 59 ((by first | exact Calm.pickT rfl rfl | exact Calm.pickF rfl rfl)) ?_
          first|refine k_t rfl rfl ?_|refine k_f rfl rfl ?_
          refine k_e rfl ?_
          refine k_u [(0,_),(1,_),(2,_),(4,_),(6,_),(11,_),(7,_),(8,_),(49,_)] ?_
          refine AWP.ret ?_
          refine ⟨_,M,⟨_,_,rfl,rfl,rfl⟩,less_,?_⟩
          exact ⟨rfl,rfl⟩
        ·rw [hno (fun h=>q8 h.2.2.2.2.2.2.1)]
         refine ACall.enter (rs:=[.tmp 6]) 69 [(0,.pointer (some ⟨p,0,none⟩)),(1,.agg #[.string x.name,.int .i64 x.sector,.string x.data,.int .i64 x.pins,.bool x.dirty,.int .u64 x.tick,.bool x.leased]),(2,.int .u64 tick)] Tryz.func49 rfl rfl (Nat.le_of_ble_eq_true rfl) rfl ⟨rfl,rfl,rfl,trivial⟩ ?_
         refine k_a ?_
         refine k_b7 rfl ?_
         intro b4 f4
         have g4:=f4
         repeat ((with_reducible replace g4:=fresh_set g4);obtain ⟨g4,_⟩:=g4)
         try simp only [k_l1,k_l0,k_za,Nat.reduceAdd]
         refine k_e rfl (AWP.seq (k_a ?_))
         refine k_7 ty_agg_62 ty_size_62 rfl ?_
         refine ARun.call (lit_lt rfl) go_63 rfl (ch _) ?_
         rintro _ S1 ⟨rfl,h1⟩
         rw [h1];clear h1 S1
         refine rC (Calm.un rfl (una_not _)) ?_
         refine k_n ?_
         refine k_u [(0,_),(1,_),(2,_),(4,_),(6,_),(11,_)] ?_
         refine k_F rfl ?_
         refine k_k (k_a (k_m rfl ?_))
         refine rC (Calm.fieldAddr ty_field_62_0 rfl) ?_
         refine rC (ld_ ty_plain_9 rfl) ?_
         refine rC (Calm.fieldAddr ty_field_62_1 rfl) ?_
         refine rC (ld_ ty_plain_3 rfl) ?_
         refine ARun.call (lit_lt rfl) go_68 rfl (cr _ (h.less less_)) ?_
         rintro _ S1 ⟨rfl,h1⟩
         rw [h1];clear h1 S1
         refine k_m rfl ?_
         refine rC (Calm.extract rfl rfl) ?_
         refine rC (Calm.extract rfl rfl) ?_
         refine k_s rfl (k_e rfl ?_)
         refine k_u [(0,_),(1,_),(2,_),(4,_),(6,_),(11,_),(7,_),(8,_)] ?_
         refine AWP.seq (k_a (k_m rfl ?_))
         refine rC (Calm.bin rfl rfl (bin_bool (bin_neq _ _) (bnot_dec_false q2))) ?_
         refine k_m rfl ?_
         first|refine k_q 30 ?_|refine rG 30 (Calm.fieldAddr ty_field_62_6 rfl) ?_
         first|refine k_q 30 ?_|refine rG 30 (Calm.as (congrArg Value.bool q3) (ld_ ty_plain_4 rfl)) ?_
         first|refine k_t rfl rfl ?_|refine k_f rfl rfl ?_
         refine k_m rfl ?_
         first|refine k_q 34 ?_|refine rG 34 (Calm.fieldAddr ty_field_62_2 rfl) ?_
         first|refine k_q 34 ?_|refine rG 34 (ld_ ty_plain_9 rfl) ?_
         first|refine k_q 34 ?_|refine rG 34 (Calm.lenStr (strT_spec ty_str_9) rfl) ?_
         first|refine k_q 34 ?_|refine rG 34 (Calm.bin rfl rfl (bin_bool (bin_neq _ _) (bnot_dec_false (by omega)))) ?_
         first|refine k_t rfl rfl ?_|refine k_f rfl rfl ?_
         refine k_m rfl ?_
         first|refine k_q 40 ?_|refine rG 40 (Calm.fieldAddr ty_field_62_3 rfl) ?_
         first|refine k_q 40 ?_|refine rG 40 (ld_ ty_plain_3 rfl) ?_
         first|refine k_q 40 ?_|refine rG 40 (Calm.bin rfl rfl b_lss) ?_
         first|refine k_t rfl rfl ?_|refine k_f rfl rfl ?_
         refine k_m rfl ?_
         first|refine k_q 45 ?_|refine rG 45 (Calm.fieldAddr ty_field_62_3 rfl) ?_
         first|refine k_q 45 ?_|refine rG 45 (ld_ ty_plain_3 rfl) ?_
         first|refine k_q 45 ?_|refine rG 45 (Calm.bin rfl rfl b_gtr) ?_
         first|refine k_t rfl rfl ?_|refine k_f rfl rfl ?_
         refine k_n ?_
         refine k_u [(0,_),(1,_),(2,_),(4,_),(6,_),(11,_),(7,_),(8,_),(49,_)] ?_
         refine k_F rfl ?_
         refine k_k (k_a ?_)
         refine rC (Calm.fieldAddr ty_field_62_5 rfl) ?_
         refine rC (ld_ ty_plain_27 rfl) ?_
         refine rC (Calm.bin rfl rfl b_geq) ?_
         refine k_m rfl ?_
         first|refine k_q 53 ?_|refine rG 53 (Calm.fieldAddr ty_field_62_5 rfl) ?_
         first|refine k_q 53 ?_|refine rG 53 (ld_ ty_plain_27 rfl) ?_
         first|refine k_q 53 ?_|refine rG 53 (Calm.move rfl) ?_
         first|refine k_q 53 ?_|refine rG 53 (Calm.bin rfl rfl b_leq) ?_
         first|refine k_t rfl rfl ?_|refine k_f rfl rfl ?_
         refine k_m rfl ?_
         first|refine k_q 59 ?_|refine rG 59 (Calm.fieldAddr ty_field_62_4 rfl) ?_
         first|refine k_q 59 ?_|refine rG 59 (ld_ ty_plain_4 rfl) ?_
         first|refine k_q 59 ?_|refine rG 59 (Calm.move rfl) ?_
         first|refine k_q 62 ?_|refine rG 62 (Calm.fieldAddr ty_field_62_2 rfl) ?_
         first|refine k_q 62 ?_|refine rG 62 (ld_ ty_plain_9 rfl) ?_
         first|refine k_q 62 ?_|refine rG 62 (Calm.move rfl) ?_
         first|refine k_q 62 ?_|refine rG 62 (Calm.bin rfl rfl (bin_str_eql _ _)) ?_
         first|refine k_q 59 ?_|refine rG 59 ((by first | exact Calm.pickT rfl rfl | exact Calm.pickF rfl rfl)) ?_
         first|refine k_t rfl rfl ?_|refine k_f rfl rfl ?_
         refine k_e rfl ?_
         refine k_u [(0,_),(1,_),(2,_),(4,_),(6,_),(11,_),(7,_),(8,_),(49,_)] ?_
         refine AWP.ret ?_
         refine ⟨_,M,⟨_,_,rfl,rfl,rfl⟩,less_,?_⟩
         exact ⟨rfl,rfl⟩
       ·rw [hno (fun h=>q7 h.2.2.2.2.2.1)]
        refine ACall.enter (rs:=[.tmp 6]) 69 [(0,.pointer (some ⟨p,0,none⟩)),(1,.agg #[.string x.name,.int .i64 x.sector,.string x.data,.int .i64 x.pins,.bool x.dirty,.int .u64 x.tick,.bool x.leased]),(2,.int .u64 tick)] Tryz.func49 rfl rfl (Nat.le_of_ble_eq_true rfl) rfl ⟨rfl,rfl,rfl,trivial⟩ ?_
        refine k_a ?_
        refine k_b7 rfl ?_
        intro b4 f4
        have g4:=f4
        repeat ((with_reducible replace g4:=fresh_set g4);obtain ⟨g4,_⟩:=g4)
        try simp only [k_l1,k_l0,k_za,Nat.reduceAdd]
        refine k_e rfl (AWP.seq (k_a ?_))
        refine k_7 ty_agg_62 ty_size_62 rfl ?_
        refine ARun.call (lit_lt rfl) go_63 rfl (ch _) ?_
        rintro _ S1 ⟨rfl,h1⟩
        rw [h1];clear h1 S1
        refine rC (Calm.un rfl (una_not _)) ?_
        refine k_n ?_
        refine k_u [(0,_),(1,_),(2,_),(4,_),(6,_),(11,_)] ?_
        refine k_F rfl ?_
        refine k_k (k_a (k_m rfl ?_))
        refine rC (Calm.fieldAddr ty_field_62_0 rfl) ?_
        refine rC (ld_ ty_plain_9 rfl) ?_
        refine rC (Calm.fieldAddr ty_field_62_1 rfl) ?_
        refine rC (ld_ ty_plain_3 rfl) ?_
        refine ARun.call (lit_lt rfl) go_68 rfl (cr _ (h.less less_)) ?_
        rintro _ S1 ⟨rfl,h1⟩
        rw [h1];clear h1 S1
        refine k_m rfl ?_
        refine rC (Calm.extract rfl rfl) ?_
        refine rC (Calm.extract rfl rfl) ?_
        refine k_s rfl (k_e rfl ?_)
        refine k_u [(0,_),(1,_),(2,_),(4,_),(6,_),(11,_),(7,_),(8,_)] ?_
        refine AWP.seq (k_a (k_m rfl ?_))
        refine rC (Calm.bin rfl rfl (bin_bool (bin_neq _ _) (bnot_dec_false q2))) ?_
        refine k_m rfl ?_
        first|refine k_q 30 ?_|refine rG 30 (Calm.fieldAddr ty_field_62_6 rfl) ?_
        first|refine k_q 30 ?_|refine rG 30 (Calm.as (congrArg Value.bool q3) (ld_ ty_plain_4 rfl)) ?_
        first|refine k_t rfl rfl ?_|refine k_f rfl rfl ?_
        refine k_m rfl ?_
        first|refine k_q 34 ?_|refine rG 34 (Calm.fieldAddr ty_field_62_2 rfl) ?_
        first|refine k_q 34 ?_|refine rG 34 (ld_ ty_plain_9 rfl) ?_
        first|refine k_q 34 ?_|refine rG 34 (Calm.lenStr (strT_spec ty_str_9) rfl) ?_
        first|refine k_q 34 ?_|refine rG 34 (Calm.bin rfl rfl (bin_bool (bin_neq _ _) (bnot_dec_false (by omega)))) ?_
        first|refine k_t rfl rfl ?_|refine k_f rfl rfl ?_
        refine k_m rfl ?_
        first|refine k_q 40 ?_|refine rG 40 (Calm.fieldAddr ty_field_62_3 rfl) ?_
        first|refine k_q 40 ?_|refine rG 40 (ld_ ty_plain_3 rfl) ?_
        first|refine k_q 40 ?_|refine rG 40 (Calm.bin rfl rfl b_lss) ?_
        first|refine k_t rfl rfl ?_|refine k_f rfl rfl ?_
        refine k_m rfl ?_
        first|refine k_q 45 ?_|refine rG 45 (Calm.fieldAddr ty_field_62_3 rfl) ?_
        first|refine k_q 45 ?_|refine rG 45 (ld_ ty_plain_3 rfl) ?_
        first|refine k_q 45 ?_|refine rG 45 (Calm.bin rfl rfl b_gtr) ?_
        first|refine k_t rfl rfl ?_|refine k_f rfl rfl ?_
        refine k_n ?_
        refine k_u [(0,_),(1,_),(2,_),(4,_),(6,_),(11,_),(7,_),(8,_),(49,_)] ?_
        refine k_F rfl ?_
        refine k_k (k_a ?_)
        refine rC (Calm.fieldAddr ty_field_62_5 rfl) ?_
        refine rC (ld_ ty_plain_27 rfl) ?_
        refine rC (Calm.bin rfl rfl b_geq) ?_
        refine k_m rfl ?_
        first|refine k_q 53 ?_|refine rG 53 (Calm.fieldAddr ty_field_62_5 rfl) ?_
        first|refine k_q 53 ?_|refine rG 53 (ld_ ty_plain_27 rfl) ?_
        first|refine k_q 53 ?_|refine rG 53 (Calm.move rfl) ?_
        first|refine k_q 53 ?_|refine rG 53 (Calm.bin rfl rfl b_leq) ?_
        first|refine k_t rfl rfl ?_|refine k_f rfl rfl ?_
        refine k_m rfl ?_
        first|refine k_q 59 ?_|refine rG 59 (Calm.fieldAddr ty_field_62_4 rfl) ?_
        first|refine k_q 59 ?_|refine rG 59 (ld_ ty_plain_4 rfl) ?_
        first|refine k_q 59 ?_|refine rG 59 (Calm.move rfl) ?_
        first|refine k_q 62 ?_|refine rG 62 (Calm.fieldAddr ty_field_62_2 rfl) ?_
        first|refine k_q 62 ?_|refine rG 62 (ld_ ty_plain_9 rfl) ?_
        first|refine k_q 62 ?_|refine rG 62 (Calm.move rfl) ?_
        first|refine k_q 62 ?_|refine rG 62 (Calm.bin rfl rfl (bin_str_eql _ _)) ?_
        first|refine k_q 59 ?_|refine rG 59 ((by first | exact Calm.pickT rfl rfl | exact Calm.pickF rfl rfl)) ?_
        first|refine k_t rfl rfl ?_|refine k_f rfl rfl ?_
        refine k_e rfl ?_
        refine k_u [(0,_),(1,_),(2,_),(4,_),(6,_),(11,_),(7,_),(8,_),(49,_)] ?_
        refine AWP.ret ?_
        refine ⟨_,M,⟨_,_,rfl,rfl,rfl⟩,less_,?_⟩
        exact ⟨rfl,rfl⟩
    ·rw [hno (fun h=>q4 h.2.2.1)]
     refine ACall.enter (rs:=[.tmp 6]) 69 [(0,.pointer (some ⟨p,0,none⟩)),(1,.agg #[.string x.name,.int .i64 x.sector,.string x.data,.int .i64 x.pins,.bool x.dirty,.int .u64 x.tick,.bool x.leased]),(2,.int .u64 tick)] Tryz.func49 rfl rfl (Nat.le_of_ble_eq_true rfl) rfl ⟨rfl,rfl,rfl,trivial⟩ ?_
     refine k_a ?_
     refine k_b7 rfl ?_
     intro b4 f4
     have g4:=f4
     repeat ((with_reducible replace g4:=fresh_set g4);obtain ⟨g4,_⟩:=g4)
     try simp only [k_l1,k_l0,k_za,Nat.reduceAdd]
     refine k_e rfl (AWP.seq (k_a ?_))
     refine k_7 ty_agg_62 ty_size_62 rfl ?_
     refine ARun.call (lit_lt rfl) go_63 rfl (ch _) ?_
     rintro _ S1 ⟨rfl,h1⟩
     rw [h1];clear h1 S1
     refine rC (Calm.un rfl (una_not _)) ?_
     refine k_n ?_
     refine k_u [(0,_),(1,_),(2,_),(4,_),(6,_),(11,_)] ?_
     refine k_F rfl ?_
     refine k_k (k_a (k_m rfl ?_))
     refine rC (Calm.fieldAddr ty_field_62_0 rfl) ?_
     refine rC (ld_ ty_plain_9 rfl) ?_
     refine rC (Calm.fieldAddr ty_field_62_1 rfl) ?_
     refine rC (ld_ ty_plain_3 rfl) ?_
     refine ARun.call (lit_lt rfl) go_68 rfl (cr _ (h.less less_)) ?_
     rintro _ S1 ⟨rfl,h1⟩
     rw [h1];clear h1 S1
     refine k_m rfl ?_
     refine rC (Calm.extract rfl rfl) ?_
     refine rC (Calm.extract rfl rfl) ?_
     refine k_s rfl (k_e rfl ?_)
     refine k_u [(0,_),(1,_),(2,_),(4,_),(6,_),(11,_),(7,_),(8,_)] ?_
     refine AWP.seq (k_a (k_m rfl ?_))
     refine rC (Calm.bin rfl rfl (bin_bool (bin_neq _ _) (bnot_dec_false q2))) ?_
     refine k_m rfl ?_
     first|refine k_q 30 ?_|refine rG 30 (Calm.fieldAddr ty_field_62_6 rfl) ?_
     first|refine k_q 30 ?_|refine rG 30 (Calm.as (congrArg Value.bool q3) (ld_ ty_plain_4 rfl)) ?_
     first|refine k_t rfl rfl ?_|refine k_f rfl rfl ?_
     refine k_m rfl ?_
     first|refine k_q 34 ?_|refine rG 34 (Calm.fieldAddr ty_field_62_2 rfl) ?_
     first|refine k_q 34 ?_|refine rG 34 (ld_ ty_plain_9 rfl) ?_
     first|refine k_q 34 ?_|refine rG 34 (Calm.lenStr (strT_spec ty_str_9) rfl) ?_
     first|refine k_q 34 ?_|refine rG 34 (Calm.bin rfl rfl (bin_bool (bin_neq _ _) (bnot_dec_true (by omega)))) ?_
     first|refine k_t rfl rfl ?_|refine k_f rfl rfl ?_
     refine k_m rfl ?_
     first|refine k_q 40 ?_|refine rG 40 (Calm.fieldAddr ty_field_62_3 rfl) ?_
     first|refine k_q 40 ?_|refine rG 40 (ld_ ty_plain_3 rfl) ?_
     first|refine k_q 40 ?_|refine rG 40 (Calm.bin rfl rfl b_lss) ?_
     first|refine k_t rfl rfl ?_|refine k_f rfl rfl ?_
     refine k_m rfl ?_
     first|refine k_q 45 ?_|refine rG 45 (Calm.fieldAddr ty_field_62_3 rfl) ?_
     first|refine k_q 45 ?_|refine rG 45 (ld_ ty_plain_3 rfl) ?_
     first|refine k_q 45 ?_|refine rG 45 (Calm.bin rfl rfl b_gtr) ?_
     first|refine k_t rfl rfl ?_|refine k_f rfl rfl ?_
     refine k_n ?_
     refine k_u [(0,_),(1,_),(2,_),(4,_),(6,_),(11,_),(7,_),(8,_),(49,_)] ?_
     refine k_T rfl ?_
     refine k_a (k_e rfl ?_)
     refine k_r ?_
     refine ⟨_,M,⟨_,_,rfl,rfl,rfl⟩,less_,?_⟩
     exact ⟨rfl,rfl⟩
  ·rw [hno (fun h=>q2 h.1)]
   refine ACall.enter (rs:=[.tmp 6]) 69 [(0,.pointer (some ⟨p,0,none⟩)),(1,.agg #[.string x.name,.int .i64 x.sector,.string x.data,.int .i64 x.pins,.bool x.dirty,.int .u64 x.tick,.bool x.leased]),(2,.int .u64 tick)] Tryz.func49 rfl rfl (Nat.le_of_ble_eq_true rfl) rfl ⟨rfl,rfl,rfl,trivial⟩ ?_
   refine k_a ?_
   refine k_b7 rfl ?_
   intro b4 f4
   have g4:=f4
   repeat ((with_reducible replace g4:=fresh_set g4);obtain ⟨g4,_⟩:=g4)
   try simp only [k_l1,k_l0,k_za,Nat.reduceAdd]
   refine k_e rfl (AWP.seq (k_a ?_))
   refine k_7 ty_agg_62 ty_size_62 rfl ?_
   refine ARun.call (lit_lt rfl) go_63 rfl (ch _) ?_
   rintro _ S1 ⟨rfl,h1⟩
   rw [h1];clear h1 S1
   refine rC (Calm.un rfl (una_not _)) ?_
   refine k_n ?_
   refine k_u [(0,_),(1,_),(2,_),(4,_),(6,_),(11,_)] ?_
   refine k_F rfl ?_
   refine k_k (k_a (k_m rfl ?_))
   refine rC (Calm.fieldAddr ty_field_62_0 rfl) ?_
   refine rC (ld_ ty_plain_9 rfl) ?_
   refine rC (Calm.fieldAddr ty_field_62_1 rfl) ?_
   refine rC (ld_ ty_plain_3 rfl) ?_
   refine ARun.call (lit_lt rfl) go_68 rfl (cr _ (h.less less_)) ?_
   rintro _ S1 ⟨rfl,h1⟩
   rw [h1];clear h1 S1
   refine k_m rfl ?_
   refine rC (Calm.extract rfl rfl) ?_
   refine rC (Calm.extract rfl rfl) ?_
   refine k_s rfl (k_e rfl ?_)
   refine k_u [(0,_),(1,_),(2,_),(4,_),(6,_),(11,_),(7,_),(8,_)] ?_
   refine AWP.seq (k_a (k_m rfl ?_))
   refine rC (Calm.bin rfl rfl (bin_bool (bin_neq _ _) (bnot_dec_true q2))) ?_
   refine k_m rfl ?_
   first|refine k_q 30 ?_|refine rG 30 (Calm.fieldAddr ty_field_62_6 rfl) ?_
   first|refine k_q 30 ?_|refine rG 30 (ld_ ty_plain_4 rfl) ?_
   first|refine k_t rfl rfl ?_|refine k_f rfl rfl ?_
   refine k_m rfl ?_
   first|refine k_q 34 ?_|refine rG 34 (Calm.fieldAddr ty_field_62_2 rfl) ?_
   first|refine k_q 34 ?_|refine rG 34 (ld_ ty_plain_9 rfl) ?_
   first|refine k_q 34 ?_|refine rG 34 (Calm.lenStr (strT_spec ty_str_9) rfl) ?_
   first|refine k_q 34 ?_|refine rG 34 (Calm.bin rfl rfl b_neq) ?_
   first|refine k_t rfl rfl ?_|refine k_f rfl rfl ?_
   refine k_m rfl ?_
   first|refine k_q 40 ?_|refine rG 40 (Calm.fieldAddr ty_field_62_3 rfl) ?_
   first|refine k_q 40 ?_|refine rG 40 (ld_ ty_plain_3 rfl) ?_
   first|refine k_q 40 ?_|refine rG 40 (Calm.bin rfl rfl b_lss) ?_
   first|refine k_t rfl rfl ?_|refine k_f rfl rfl ?_
   refine k_m rfl ?_
   first|refine k_q 45 ?_|refine rG 45 (Calm.fieldAddr ty_field_62_3 rfl) ?_
   first|refine k_q 45 ?_|refine rG 45 (ld_ ty_plain_3 rfl) ?_
   first|refine k_q 45 ?_|refine rG 45 (Calm.bin rfl rfl b_gtr) ?_
   first|refine k_t rfl rfl ?_|refine k_f rfl rfl ?_
   refine k_n ?_
   refine k_u [(0,_),(1,_),(2,_),(4,_),(6,_),(11,_),(7,_),(8,_),(49,_)] ?_
   refine k_T rfl ?_
   refine k_a (k_e rfl ?_)
   refine k_r ?_
   refine ⟨_,M,⟨_,_,rfl,rfl,rfl⟩,less_,?_⟩
   exact ⟨rfl,rfl⟩
 ·rw [decide_eq_false q1] at ch
  by_cases q2:x=F0
  ·rw [decide_eq_true q2] at cf
   rw [decide_eq_true (show Sound d x tick from .inl ⟨q1,.inl q2⟩)]
   refine ACall.enter (rs:=[.tmp 6]) 69 [(0,.pointer (some ⟨p,0,none⟩)),(1,.agg #[.string x.name,.int .i64 x.sector,.string x.data,.int .i64 x.pins,.bool x.dirty,.int .u64 x.tick,.bool x.leased]),(2,.int .u64 tick)] Tryz.func49 rfl rfl (Nat.le_of_ble_eq_true rfl) rfl ⟨rfl,rfl,rfl,trivial⟩ ?_
   refine k_a ?_
   refine k_b7 rfl ?_
   intro b4 f4
   have g4:=f4
   repeat ((with_reducible replace g4:=fresh_set g4);obtain ⟨g4,_⟩:=g4)
   try simp only [k_l1,k_l0,k_za,Nat.reduceAdd]
   refine k_e rfl (AWP.seq (k_a ?_))
   refine k_7 ty_agg_62 ty_size_62 rfl ?_
   refine ARun.call (lit_lt rfl) go_63 rfl (ch _) ?_
   rintro _ S1 ⟨rfl,h1⟩
   rw [h1];clear h1 S1
   refine rC (Calm.un rfl (una_not _)) ?_
   refine k_n ?_
   refine k_u [(0,_),(1,_),(2,_),(4,_),(6,_),(11,_)] ?_
   refine k_T rfl ?_
   refine k_a ?_
   refine k_7 ty_agg_62 ty_size_62 rfl ?_
   refine ARun.call (lit_lt rfl) go_79 rfl (cf _) ?_
   rintro _ S1 ⟨rfl,h1⟩
   rw [h1];clear h1 S1
   refine k_m rfl ?_
   first|refine k_q 14 ?_|refine rG 14 (ldA_ (cs:=[_,_,_,_,_,_,_]) ty_agg_62 ty_size_62 rfl) ?_
   first|refine k_q 14 ?_|refine rG 14 (Calm.build (cs:=[_,_,_,_,_,_,_]) ty_bld_62 rfl rfl) ?_
   first|refine k_q 14 ?_|refine rG 14 (Calm.bin rfl rfl (BIN_struct)) ?_
   first|refine k_t rfl rfl ?_|refine k_f rfl rfl ?_
   refine k_e rfl ?_
   refine k_u [(0,_),(1,_),(2,_),(4,_),(6,_),(11,_)] ?_
   refine k_r ?_
   refine ⟨_,M,⟨_,_,rfl,rfl,rfl⟩,less_,?_⟩
   exact ⟨rfl,rfl⟩
  ·rw [decide_eq_false q2] at cf
   have ee:decide (Sound d x tick)=decide (x=F1):=decide_eq_decide.2 ⟨fun h=>h.elim (fun h=>h.2.resolve_left q2) (fun h=>absurd h.1 q1),fun h=>.inl ⟨q1,.inr h⟩⟩
   rw [ee]
   refine ACall.enter (rs:=[.tmp 6]) 69 [(0,.pointer (some ⟨p,0,none⟩)),(1,.agg #[.string x.name,.int .i64 x.sector,.string x.data,.int .i64 x.pins,.bool x.dirty,.int .u64 x.tick,.bool x.leased]),(2,.int .u64 tick)] Tryz.func49 rfl rfl (Nat.le_of_ble_eq_true rfl) rfl ⟨rfl,rfl,rfl,trivial⟩ ?_
   refine k_a ?_
   refine k_b7 rfl ?_
   intro b4 f4
   have g4:=f4
   repeat ((with_reducible replace g4:=fresh_set g4);obtain ⟨g4,_⟩:=g4)
   try simp only [k_l1,k_l0,k_za,Nat.reduceAdd]
   refine k_e rfl (AWP.seq (k_a ?_))
   refine k_7 ty_agg_62 ty_size_62 rfl ?_
   refine ARun.call (lit_lt rfl) go_63 rfl (ch _) ?_
   rintro _ S1 ⟨rfl,h1⟩
   rw [h1];clear h1 S1
   refine rC (Calm.un rfl (una_not _)) ?_
   refine k_n ?_
   refine k_u [(0,_),(1,_),(2,_),(4,_),(6,_),(11,_)] ?_
   refine k_T rfl ?_
   refine k_a ?_
   refine k_7 ty_agg_62 ty_size_62 rfl ?_
   refine ARun.call (lit_lt rfl) go_79 rfl (cf _) ?_
   rintro _ S1 ⟨rfl,h1⟩
   rw [h1];clear h1 S1
   refine k_m rfl ?_
   first|refine k_q 14 ?_|refine rG 14 (ldA_ (cs:=[_,_,_,_,_,_,_]) ty_agg_62 ty_size_62 rfl) ?_
   first|refine k_q 14 ?_|refine rG 14 (Calm.build (cs:=[_,_,_,_,_,_,_]) ty_bld_62 rfl rfl) ?_
   first|refine k_q 14 ?_|refine rG 14 (Calm.bin rfl rfl (bin_eql_frame x F1)) ?_
   first|refine k_t rfl rfl ?_|refine k_f rfl rfl ?_
   refine k_e rfl ?_
   refine k_u [(0,_),(1,_),(2,_),(4,_),(6,_),(11,_)] ?_
   refine k_r ?_
   refine ⟨_,M,⟨_,_,rfl,rfl,rfl⟩,less_,?_⟩
   exact ⟨rfl,rfl⟩
end Go.Proofs.YtkeiphkccnfhoaaGreat
namespace Go.Proofs.YtkeiphkccnfhoaaGreat
open Go.RowKit
open Mv Disk
set_option maxRecDepth 20000
theorem fr_len (x : Fr) : (frF x).length = 7 := rfl
theorem pl_check1 (x y : Fr) (nb : Nat) (S : Mem) (hk : S.Knows ⟨nb, 0, none⟩ (frF x)) :
  ACall Tryz.prog 51 #[frV y,.pointer (some ⟨nb,0,none⟩)] S fun r S'=>r = .bool (decide (like x y))∧S'=S:=by
 have c:=fun S=>pl_like x y S
 unfold frV frF at *
 refine ACall.enter (rs:=[.tmp 3]) 7 [(0,.agg #[.string y.name,.int .i64 y.sector,.string y.data,.int .i64 y.pins,.bool y.dirty,.int .u64 y.tick,.bool y.leased]),(1,.pointer (some ⟨nb,0,none⟩))] Tryz.func51 rfl rfl (Nat.le_of_ble_eq_true rfl) rfl ⟨rfl,rfl,trivial⟩ ?_
 refine k_a ?_
 refine k_b7 rfl ?_
 intro b2 f2
 have g2:=f2
 repeat ((with_reducible replace g2:=fresh_set g2);obtain ⟨g2,_⟩:=g2)
 try simp only [k_l1,k_l0,k_za,Nat.reduceAdd]
 refine k_e rfl (k_a ?_)
 refine k_7 ty_agg_62 ty_size_62 rfl ?_
 refine k_7 ty_agg_62 ty_size_62 rfl ?_
 refine ARun.call (lit_lt rfl) go_52 rfl (c _) ?_
 rintro _ S1 ⟨rfl,h1⟩
 rw [h1];clear h1 S1
 refine k_e rfl ?_
 refine k_u [(0,_),(1,_),(2,_),(3,_)] ?_
 refine AWP.ret ?_
 refine ⟨_,S,⟨_,_,rfl,rfl,rfl⟩,less_,?_⟩
 exact ⟨rfl,rfl⟩
set_option maxHeartbeats 1000000 in
theorem pl_index (v : Value) (l : List Fr) (x : Fr) (nb : Nat) (S : Mem) (hl : Sl 7 frF S v l) (hk : S.Knows ⟨nb, 0, none⟩ (frF x)) :
  ACall Tryz.prog 66 #[v,.func (.func 51) #[] #[.pointer (some ⟨nb,0,none⟩)]] S fun r S'=>(∃ n:Int,r = .int .i64 n∧(0≤n ↔ ∃ y ∈ l,like x y))∧S'=S:=by
 obtain ⟨a,cap,rfl,h1,h2,h3⟩:=id hl
 refine ACall.enter (rs:=[.tmp 4]) 19 [(0,.slice a l.length cap),(1,.func (.func 51) #[] #[.pointer (some ⟨nb,0,none⟩)])] Tryz.func66 rfl rfl (Nat.le_of_ble_eq_true rfl) rfl ⟨rfl,rfl,trivial⟩ ?_
 refine k_a (k_e rfl (AWP.seq (k_a (k_m rfl ?_))))
 refine rC (Calm.lenSl Tryz.underlying26 rfl) ?_
 refine k_m rfl (k_n ?_)
 refine k_u [(0,_),(1,_),(4,_),(7,_),(8,_)] ?_
 refine AWP.block ?_
 refine AWP.loop (X:=Nat) (fun x=>[(0,.slice a l.length cap),(1,.func (.func 51) #[] #[.pointer (some ⟨nb,0,none⟩)]),(7,.int .i64 l.length),(8,.int .i64 x)]) (fun x=>S) (fun i=>i≤l.length ∧ ∀ j (h:j<l.length),j<i → ¬ like x l[j]) (fun x=>l.length-x) (0) ⟨rfl,rfl,rfl,rfl,trivial⟩ (Mem.Less.refl _) (⟨Nat.zero_le _,fun j _ h=>absurd h (Nat.not_lt_zero _)⟩) ?_
 rintro i ⟨hi,hall⟩
 (try dsimp only at *)
 refine k_a ?_
 refine rC (Calm.bin rfl rfl b_lss) ?_
 refine k_n (AWP.seq ?_)
 refine AWP.condB rfl (fun hc=>?_) (fun hc=>?_)
 ·have hc:i<l.length:=by have:=of_decide_eq_true hc;omega
  obtain ⟨b,off,rfl,hkk⟩:=h3.resolve_left (fun e=>by subst e;simp at hc)
  have hki:=hkk i hc
  have hall' : ¬ like x l[i] → ∀ j (h:j<l.length),j<i+1 → ¬ like x l[j]:=fun hn j h hj=>by rcases Nat.lt_or_ge j i with h' | h';exact hall j h h';obtain rfl:j=i:=(by omega);exact hn
  have hmem:l[i] ∈ l:=List.getElem_mem hc
  generalize l[i]=y at *
  unfold frF at hki
  refine k_k (AWP.seq ?_)
  refine AWP.block ?_
  refine k_a (k_m rfl (k_e rfl ?_))
  refine k_u [(0,_),(1,_),(7,_),(8,_),(9,_),(5,_)] ?_
  refine k_a (k_m rfl (k_m rfl (k_m rfl ?_)))
  refine rC (Calm.indexS Tryz.underlying26 ty_size_62 rfl rfl (by omega) (by omega)) ?_
  refine k_7 ty_agg_62 ty_size_62 rfl ?_
  refine ARun.callV (lit_lt rfl) go_51 rfl rfl (pl_check1 x y nb _ hk) ?_
  rintro _ S1 ⟨rfl,h1⟩
  rw [h1];clear h1 S1
  refine k_n ?_
  refine k_u [(0,_),(1,_),(7,_),(8,_),(9,_),(5,_),(16,_)] ?_
  refine AWP.condB rfl (fun hb=>?_) (fun hb=>?_)
  ·refine k_a (k_m rfl (k_e rfl ?_))
   refine k_u [(0,_),(1,_),(7,_),(8,_),(9,_),(5,_),(16,_),(4,_)] ?_
   refine AWP.ret ?_
   refine ain_ret ?_
   refine athen_ret ?_
   refine athen_ret ?_
   refine ain_ret ?_
   refine athen_ret ?_
   refine ⟨_,S,⟨_,_,rfl,rfl,rfl⟩,less_,?_⟩
   exact ⟨⟨i,rfl,⟨fun _=>⟨y,hmem,of_decide_eq_true hb⟩,fun _=>by omega⟩⟩,rfl⟩
  ·refine AWP.skip ?_
   refine ain_n ?_
   refine athen_n ?_
   refine AWP.region ?_
   refine rC (Calm.bin rfl rfl b_add_i64) ?_
   refine k_m rfl (k_n ?_)
   refine ⟨i+1,?_,?_,?_,?_⟩
   all_goals (try dsimp only)
   ·exact ⟨rfl,rfl,rfl,rfl,trivial⟩
   ·exact less_
   ·exact ⟨hc,hall' (of_decide_eq_false hb)⟩
   ·omega
 ·have hc:i=l.length:=by have:=of_decide_eq_false hc;omega
  refine AWP.exit ?_
  refine athen_exit ?_
  refine athen_exit ?_
  refine ain_same ?_
  refine athen_n ?_
  refine k_a (k_e rfl ?_)
  refine AWP.ret ?_
  refine ⟨_,S,⟨_,_,rfl,rfl,rfl⟩,less_,?_⟩
  exact ⟨⟨-1,rfl,⟨fun h=>by omega,fun ⟨y,hy,hn⟩=>by obtain ⟨j,hj,rfl⟩:=List.getElem_of_mem hy;exact absurd hn (hall j hj (by omega))⟩⟩,rfl⟩
theorem pl_contains (v : Value) (l : List Fr) (x : Fr) (nb : Nat) (S : Mem) (hl : Sl 7 frF S v l) (hk : S.Knows ⟨nb, 0, none⟩ (frF x)) :
  ACall Tryz.prog 50 #[v,.func (.func 51) #[] #[.pointer (some ⟨nb,0,none⟩)]] S fun r S'=>(∃ t:Bool,r = .bool t∧(t=true ↔ ∃ y ∈ l,like x y))∧S'=S:=by
 refine ACall.enter (rs:=[.tmp 4]) 9 [(0,v),(1,.func (.func 51) #[] #[.pointer (some ⟨nb,0,none⟩)])] Tryz.func50 rfl rfl (Nat.le_of_ble_eq_true rfl) rfl ⟨rfl,rfl,trivial⟩ ?_
 refine k_a (k_e rfl (k_a (k_m rfl (k_m rfl ?_))))
 refine ARun.call (lit_lt rfl) go_66 rfl (pl_index v l x nb _ hl hk) ?_
 rintro _ S1 ⟨⟨n,rfl,hn⟩,h1⟩
 rw [h1];clear h1 S1
 refine rC (Calm.bin rfl rfl b_geq) ?_
 refine k_e rfl ?_
 refine k_u [(0,_),(1,_),(4,_)] ?_
 refine AWP.ret ?_
 refine ⟨_,S,⟨_,_,rfl,rfl,rfl⟩,less_,?_⟩
 exact ⟨⟨decide (0≤n),rfl,by rw [decide_eq_true_eq];exact hn⟩,rfl⟩
end Go.Proofs.YtkeiphkccnfhoaaGreat
namespace Go.Proofs.YtkeiphkccnfhoaaGreat
open Go.RowKit
open Mv Disk
set_option maxRecDepth 20000
/-- A pool. -/
structure Pl where
  d : D
  fr : List Fr
  tick : Int
  reads : Int
  writes : Int
def PlR (S : Mem) (v : Value) (p : Pl) : Prop := ∃ pe ce pw cw pf cf, v = .agg #[.int .i64 p.d.size, .slice pe p.d.ext.length ce, .slice pw p.d.waits.length cw, .int .i64 p.d.fuse, .bool p.d.down, .slice pf p.fr.length cf, .int .u64 p.tick, .int .u64 p.reads, .int .u64 p.writes] ∧ Sl 2 extF S (.slice pe p.d.ext.length ce) p.d.ext ∧ Sl 3 wrF S (.slice pw p.d.waits.length cw) p.d.waits ∧ Sl 7 frF S (.slice pf p.fr.length cf) p.fr
theorem PlR.less {S S' : Mem} {v : Value} {p : Pl} (h : PlR S v p) (hl : S.Less S') : PlR S' v p := by
 obtain ⟨pe,ce,pw,cw,pf,cf,e,h1,h2,h3⟩:=h
 exact ⟨pe,ce,pw,cw,pf,cf,e,h1.less hl,h2.less hl,h3.less hl⟩
structure PRight (p : Pl) : Prop where
  dr : Right p.d
  l1 : 1 ≤ p.fr.length
  l2 : p.fr.length ≤ 256
  ok : ∀ i (h : i < p.fr.length), Sound p.d p.fr[i] p.tick ∧ ∀ y ∈ p.fr.take i, ¬ like p.fr[i] y
noncomputable def chkP (p : Pl) : Int := by classical exact if PRight p then 0 else 2
theorem chkP_yes {p : Pl} (h : PRight p) : chkP p = 0 := by unfold chkP; exact if_pos h
theorem chkP_no {p : Pl} (h : ¬ PRight p) : chkP p = 2 := by unfold chkP; exact if_neg h
theorem sl_takeP {α : Type} {n : Nat} {f : α → List Value} {S : Mem} {a : Option Addr} {cap : Nat} {l : List α} (h : Sl n f S (.slice a l.length cap) l) {k : Nat} (hk : k ≤ l.length) : Sl n f S (.slice a k cap) (l.take k) := by
 obtain ⟨a',cap',e,h1,h2,h3⟩:=h
 cases e
 have hl:(l.take k).length=k:=by simp;omega
 refine ⟨a,cap,by rw [hl],by omega,by omega,?_⟩
 rcases h3 with rfl | ⟨b,off,e,hh⟩
 ·exact .inl (by simp)
 ·exact .inr ⟨b,off,e,fun j hj=>by
   rw [List.getElem_take]
   exact hh j (by omega)⟩
set_option maxHeartbeats 8000000 in
theorem pl_Check (v : Value) (p : Pl) (S : Mem) (hp : PlR S v p) (hz : Dz p.d) :
  ACall Tryz.prog 16 #[v] S fun r S'=>r = .int .i64 (chkP p)∧S'=S:=by
 obtain ⟨pe,ce,pw,cw,pf,cf,rfl,hE,hW,hF⟩:=hp
 have hdk:DkR S (.agg #[.int .i64 p.d.size,.slice pe p.d.ext.length ce,.slice pw p.d.waits.length cw,.int .i64 p.d.fuse,.bool p.d.down]) p.d:=⟨pe,ce,pw,cw,rfl,hE,hW⟩
 have hck:=fun S h=>disk_Check (.agg #[.int .i64 p.d.size,.slice pe p.d.ext.length ce,.slice pw p.d.waits.length cw,.int .i64 p.d.fuse,.bool p.d.down]) p.d S h hz
 obtain ⟨_,_,ef1,ef2,ef3,hF3⟩:=id hF
 cases ef1
 obtain ⟨d,fr,tick,reads,writes⟩:=p
 simp only at *
 by_cases q1:Right d
 ·rw [chkD_yes q1] at hck
  by_cases q2:fr.length<1
  ·rw [chkP_no (fun h=>absurd h.l1 (by simp only;omega))]
   refine ACall.enter (rs:=[.tmp 2]) 49 [(0,.agg #[.int .i64 d.size,.slice pe d.ext.length ce,.slice pw d.waits.length cw,.int .i64 d.fuse,.bool d.down,.slice pf fr.length cf,.int .u64 tick,.int .u64 reads,.int .u64 writes])] Tryz.func16 rfl rfl (Nat.le_of_ble_eq_true rfl) rfl ⟨rfl,trivial⟩ ?_
   refine k_a ?_
   refine k_b9 rfl ?_
   intro b1 f1
   have g1:=f1
   repeat ((with_reducible replace g1:=fresh_set g1);obtain ⟨g1,_⟩:=g1)
   try simp only [k_l1,k_l0,k_za,Nat.reduceAdd]
   refine k_e rfl (AWP.seq (k_a ?_))
   refine rC (Calm.fieldAddr ty_field_29_0 rfl) ?_
   refine k_5 ty_agg_25 ty_size_25 rfl ?_
   refine ARun.call (lit_lt rfl) go_48 rfl (hck _ (hdk.less less_)) ?_
   rintro _ S1 ⟨rfl,h1⟩
   rw [h1];clear h1 S1
   refine rC (Calm.bin rfl rfl b_neq) ?_
   refine k_m rfl ?_
   first|refine k_q 10 ?_|refine rG 10 (Calm.fieldAddr ty_field_29_1 rfl) ?_
   first|refine k_q 10 ?_|refine rG 10 (ld_ ty_plain_26 rfl) ?_
   first|refine k_q 10 ?_|refine rG 10 (Calm.lenSl Tryz.underlying26 rfl) ?_
   first|refine k_q 10 ?_|refine rG 10 (Calm.bin rfl rfl b_lss) ?_
   first|refine k_t rfl rfl ?_|refine k_f rfl rfl ?_
   refine k_m rfl ?_
   first|refine k_q 16 ?_|refine rG 16 (Calm.fieldAddr ty_field_29_1 rfl) ?_
   first|refine k_q 16 ?_|refine rG 16 (ld_ ty_plain_26 rfl) ?_
   first|refine k_q 16 ?_|refine rG 16 (Calm.lenSl Tryz.underlying26 rfl) ?_
   first|refine k_q 16 ?_|refine rG 16 (Calm.bin rfl rfl b_gtr) ?_
   first|refine k_t rfl rfl ?_|refine k_f rfl rfl ?_
   refine k_n ?_
   refine k_u [(0,_),(1,_),(2,_),(21,_)] ?_
   refine k_T rfl ?_
   refine k_a (k_e rfl ?_)
   refine k_r ?_
   refine ⟨_,S,⟨_,_,rfl,rfl,rfl⟩,less_,?_⟩
   exact ⟨rfl,rfl⟩
  ·by_cases q3:256<fr.length
   ·rw [chkP_no (fun h=>absurd h.l2 (by simp only;omega))]
    refine ACall.enter (rs:=[.tmp 2]) 49 [(0,.agg #[.int .i64 d.size,.slice pe d.ext.length ce,.slice pw d.waits.length cw,.int .i64 d.fuse,.bool d.down,.slice pf fr.length cf,.int .u64 tick,.int .u64 reads,.int .u64 writes])] Tryz.func16 rfl rfl (Nat.le_of_ble_eq_true rfl) rfl ⟨rfl,trivial⟩ ?_
    refine k_a ?_
    refine k_b9 rfl ?_
    intro b1 f1
    have g1:=f1
    repeat ((with_reducible replace g1:=fresh_set g1);obtain ⟨g1,_⟩:=g1)
    try simp only [k_l1,k_l0,k_za,Nat.reduceAdd]
    refine k_e rfl (AWP.seq (k_a ?_))
    refine rC (Calm.fieldAddr ty_field_29_0 rfl) ?_
    refine k_5 ty_agg_25 ty_size_25 rfl ?_
    refine ARun.call (lit_lt rfl) go_48 rfl (hck _ (hdk.less less_)) ?_
    rintro _ S1 ⟨rfl,h1⟩
    rw [h1];clear h1 S1
    refine rC (Calm.bin rfl rfl b_neq) ?_
    refine k_m rfl ?_
    first|refine k_q 10 ?_|refine rG 10 (Calm.fieldAddr ty_field_29_1 rfl) ?_
    first|refine k_q 10 ?_|refine rG 10 (ld_ ty_plain_26 rfl) ?_
    first|refine k_q 10 ?_|refine rG 10 (Calm.lenSl Tryz.underlying26 rfl) ?_
    first|refine k_q 10 ?_|refine rG 10 (Calm.bin rfl rfl b_lss) ?_
    first|refine k_t rfl rfl ?_|refine k_f rfl rfl ?_
    refine k_m rfl ?_
    first|refine k_q 16 ?_|refine rG 16 (Calm.fieldAddr ty_field_29_1 rfl) ?_
    first|refine k_q 16 ?_|refine rG 16 (ld_ ty_plain_26 rfl) ?_
    first|refine k_q 16 ?_|refine rG 16 (Calm.lenSl Tryz.underlying26 rfl) ?_
    first|refine k_q 16 ?_|refine rG 16 (Calm.bin rfl rfl b_gtr) ?_
    first|refine k_t rfl rfl ?_|refine k_f rfl rfl ?_
    refine k_n ?_
    refine k_u [(0,_),(1,_),(2,_),(21,_)] ?_
    refine k_T rfl ?_
    refine k_a (k_e rfl ?_)
    refine k_r ?_
    refine ⟨_,S,⟨_,_,rfl,rfl,rfl⟩,less_,?_⟩
    exact ⟨rfl,rfl⟩
   ·skip
    refine ACall.enter (rs:=[.tmp 2]) 49 [(0,.agg #[.int .i64 d.size,.slice pe d.ext.length ce,.slice pw d.waits.length cw,.int .i64 d.fuse,.bool d.down,.slice pf fr.length cf,.int .u64 tick,.int .u64 reads,.int .u64 writes])] Tryz.func16 rfl rfl (Nat.le_of_ble_eq_true rfl) rfl ⟨rfl,trivial⟩ ?_
    refine k_a ?_
    refine k_b9 rfl ?_
    intro b1 f1
    have g1:=f1
    repeat ((with_reducible replace g1:=fresh_set g1);obtain ⟨g1,_⟩:=g1)
    try simp only [k_l1,k_l0,k_za,Nat.reduceAdd]
    refine k_e rfl ?_
    refine named (S:=S) (b:=b1) g1.1 ?_
    intro T1 hT1 kb1
    replace hE:=hE.less hT1
    replace hW:=hW.less hT1
    replace hF:=hF.less hT1
    refine AWP.seq (k_a ?_)
    refine rC (Calm.fieldAddr ty_field_29_0 rfl) ?_
    refine k_5 ty_agg_25 ty_size_25 rfl ?_
    refine ARun.call (lit_lt rfl) go_48 rfl (hck _ (hdk.less (hT1.trans less_))) ?_
    rintro _ S1 ⟨rfl,h1⟩
    rw [h1];clear h1 S1
    refine rC (Calm.bin rfl rfl b_neq) ?_
    refine k_m rfl ?_
    first|refine k_q 10 ?_|refine rG 10 (Calm.fieldAddr ty_field_29_1 rfl) ?_
    first|refine k_q 10 ?_|refine rG 10 (ld_ ty_plain_26 rfl) ?_
    first|refine k_q 10 ?_|refine rG 10 (Calm.lenSl Tryz.underlying26 rfl) ?_
    first|refine k_q 10 ?_|refine rG 10 (Calm.bin rfl rfl b_lss) ?_
    first|refine k_t rfl rfl ?_|refine k_f rfl rfl ?_
    refine k_m rfl ?_
    first|refine k_q 16 ?_|refine rG 16 (Calm.fieldAddr ty_field_29_1 rfl) ?_
    first|refine k_q 16 ?_|refine rG 16 (ld_ ty_plain_26 rfl) ?_
    first|refine k_q 16 ?_|refine rG 16 (Calm.lenSl Tryz.underlying26 rfl) ?_
    first|refine k_q 16 ?_|refine rG 16 (Calm.bin rfl rfl b_gtr) ?_
    first|refine k_t rfl rfl ?_|refine k_f rfl rfl ?_
    refine k_n ?_
    refine k_u [(0,_),(1,_),(2,_),(21,_)] ?_
    refine k_F rfl ?_
    refine k_k (k_a ?_)
    refine rC (Calm.fieldAddr ty_field_29_0 rfl) ?_
    refine k_5 ty_agg_25 ty_size_25 rfl ?_
    refine rC (Calm.build (cs:=[_,_,_,_,_]) ty_bld_79 rfl rfl) ?_
    refine k_b5 rfl ?_
    intro b25 f25
    have g25:=f25
    repeat ((with_reducible replace g25:=fresh_set g25);obtain ⟨g25,_⟩:=g25)
    have:=g25.ne kb1;have:=g25.ne' kb1
    try simp only [k_l1,k_l0,k_za,Nat.reduceAdd]
    refine k_e rfl ?_
    refine k_u [(0,_),(1,_),(2,_),(21,_),(3,_)] ?_
    refine named (S:=T1) (b:=b25) g25.1 ?_
    intro T25 hT25 kb25
    replace hE:=hE.less hT25
    replace hW:=hW.less hT25
    replace hF:=hF.less hT25
    replace kb1:=hT25.own kb1
    have hrd:RdV T25 b25 d:=⟨pe,ce,pw,cw,kb25,hE,hW⟩
    refine AWP.seq (k_a ?_)
    refine rC (Calm.fieldAddr ty_field_29_1 rfl) ?_
    refine rC (ld_ ty_plain_26 rfl) ?_
    refine rC (Calm.lenSl Tryz.underlying26 rfl) ?_
    refine k_m rfl (k_n ?_)
    refine k_u [(0,_),(1,_),(2,_),(21,_),(3,_),(27,_),(28,_),(29,_)] ?_
    refine AWP.block ?_
    refine AWP.loop (X:=Nat) (fun x=>[(1,.pointer (some ⟨b1,0,none⟩)),(3,.pointer (some ⟨b25,0,none⟩)),(27,.slice pf fr.length cf),(28,.int .i64 fr.length),(29,.int .i64 x)]) (fun x=>T25) (fun x=>x≤fr.length ∧ ∀ i (h:i<fr.length),i<x→Sound d fr[i] tick ∧ ∀ y ∈ fr.take i,¬ like fr[i] y) (fun x=>fr.length-x) (0) ⟨rfl,rfl,rfl,rfl,rfl,trivial⟩ (Mem.Less.refl _) (⟨Nat.zero_le _,fun i _ h=>absurd h (Nat.not_lt_zero _)⟩) ?_
    rintro i ⟨hi,hall⟩
    (try dsimp only at *)
    refine k_a ?_
    refine rC (Calm.bin rfl rfl b_lss) ?_
    refine k_n (AWP.seq ?_)
    refine AWP.condB rfl (fun hc=>?_) (fun hc=>?_)
    ·have hc:i<fr.length:=by have:=of_decide_eq_true hc;omega
     obtain ⟨b,off,rfl,hk⟩:=hF3.resolve_left (fun e=>by rw [e] at hc;simp at hc)
     have hki:=(hk i hc).less (hT1.trans hT25)
     have hbad:=fun (h : ¬ (Sound d fr[i] tick ∧ ∀ y ∈ fr.take i,¬ like fr[i] y))=>chkP_no (p:=⟨d,fr,tick,reads,writes⟩) (fun hr=>h (hr.ok i hc))
     have hgood:(Sound d fr[i] tick ∧ ∀ y ∈ fr.take i,¬ like fr[i] y) → ∀ j (h:j<fr.length),j<i+1→Sound d fr[j] tick ∧ ∀ y ∈ fr.take j,¬ like fr[j] y:=fun hg j h hj=>by rcases Nat.lt_or_ge j i with h' | h';exact hall j h h';obtain rfl:j=i:=(by omega);exact hg
     have hst:=sl_takeP hF (k:=i) hi
     generalize fr[i]=x at *
     unfold frF at hki
     have cs:=fun S h=>pl_sound b25 d x tick S h q1
     unfold frV at cs
     by_cases q4:Sound d x tick
     ·rw [decide_eq_true q4] at cs
      refine k_k (AWP.seq ?_)
      refine AWP.block ?_
      refine k_a (k_m rfl ?_)
      refine rC (Calm.indexS Tryz.underlying26 ty_size_62 rfl rfl (by omega) (by omega)) ?_
      refine k_7 ty_agg_62 ty_size_62 rfl ?_
      refine ARun.alloc (lit_lt rfl) ty_zero_62 ?_
      intro b5 f5
      have g5:=f5
      repeat ((with_reducible replace g5:=fresh_set g5);obtain ⟨g5,_⟩:=g5)
      have:=g5.ne kb1;have:=g5.ne' kb1
      have:=g5.ne kb25;have:=g5.ne' kb25
      try simp only [k_l1,k_l0,k_za,Nat.reduceAdd]
      refine k_s rfl ?_
      first|refine k_A rfl rfl ty_size_62 ?_|refine k_B rfl rfl ty_size_62 ?_
      try simp only [k_ms,k_sz,k_ss,k_za,Nat.reduceAdd]
      refine k_n ?_
      refine k_u [(1,_),(3,_),(27,_),(28,_),(29,_),(30,_),(5,_),(4,_)] ?_
      refine k_a (k_m rfl ?_)
      refine k_7 ty_agg_62 ty_size_62 rfl ?_
      refine rC (Calm.fieldAddr ty_field_29_2 rfl) ?_
      refine rC (ld_ ty_plain_27 rfl) ?_
      refine ARun.call (lit_lt rfl) go_49 rfl (cs _ (hrd.less less_)) ?_
      rintro _ S1 ⟨rfl,h1⟩
      rw [h1];clear h1 S1
      refine rC (Calm.un rfl (una_not _)) ?_
      refine k_m rfl ?_
      first|refine k_q 40 ?_|refine rG 40 (Calm.fieldAddr ty_field_29_1 rfl) ?_
      first|refine k_q 40 ?_|refine rG 40 (ld_ ty_plain_26 rfl) ?_
      first|refine k_q 40 ?_|refine rG 40 (Calm.move rfl) ?_
      first|refine k_q 40 ?_|refine rG 40 ((by first | exact Calm.sliceHead Tryz.underlying26 ty_size_62 rfl (bnd_none _ _) (fun _=>rfl) (bnd_some _ _ rfl (by omega) (by omega)) | exact Calm.sliceNil Tryz.underlying26 ty_size_62 rfl (bnd_none _ _) (by simp) (bnd_zero _ _ rfl) (bnd_none _ _))) ?_
      first|refine k_q 40 ?_|refine rG 40 (Calm.makeFunc rfl rfl) ?_
      refine ARun.callG 6 false 40 rfl (lit_lt rfl) rfl (lit_lt rfl) go_50 rfl (pl_contains _ (fr.take i) x b5 _ (hst.less less_) ((rds_own (Mem.own_set_same _ b5 _)).knows)) ?_
      rintro _ S1 ⟨⟨t,rfl,ht⟩,h1⟩
      rw [h1];clear h1 S1
      first|refine k_t rfl rfl ?_|refine k_f rfl rfl ?_
      refine k_n ?_
      refine k_u [(1,_),(3,_),(27,_),(28,_),(29,_),(30,_),(5,_),(4,_),(47,_)] ?_
      refine AWP.condB rfl (fun hb=>?_) (fun hb=>?_)
      ·refine k_a (k_e rfl ?_)
       refine AWP.ret ?_
       refine ain_ret ?_
       refine athen_ret ?_
       refine athen_ret ?_
       refine ain_ret ?_
       refine athen_ret ?_
       refine ⟨_,S,⟨_,_,rfl,rfl,rfl⟩,(hT1.trans hT25).trans less_,?_⟩
       exact ⟨by rw [hbad (fun h=>by obtain ⟨y,hy,hn⟩:=ht.1 hb;exact h.2 y hy hn)];rfl,rfl⟩
      ·refine AWP.skip ?_
       refine ain_n ?_
       refine athen_n ?_
       refine AWP.region ?_
       refine rC (Calm.bin rfl rfl b_add_i64) ?_
       refine k_m rfl (k_n ?_)
       refine ⟨i+1,?_,?_,?_,?_⟩
       all_goals (try dsimp only)
       ·exact ⟨rfl,rfl,rfl,rfl,rfl,trivial⟩
       ·exact less_
       ·exact ⟨hc,hgood ⟨q4,fun y hy hn=>by rw [ht.2 ⟨y,hy,hn⟩] at hb;cases hb⟩⟩
       ·omega
     ·rw [decide_eq_false q4] at cs
      refine k_k (AWP.seq ?_)
      refine AWP.block ?_
      refine k_a (k_m rfl ?_)
      refine rC (Calm.indexS Tryz.underlying26 ty_size_62 rfl rfl (by omega) (by omega)) ?_
      refine k_7 ty_agg_62 ty_size_62 rfl ?_
      refine ARun.alloc (lit_lt rfl) ty_zero_62 ?_
      intro b5 f5
      have g5:=f5
      repeat ((with_reducible replace g5:=fresh_set g5);obtain ⟨g5,_⟩:=g5)
      have:=g5.ne kb1;have:=g5.ne' kb1
      have:=g5.ne kb25;have:=g5.ne' kb25
      try simp only [k_l1,k_l0,k_za,Nat.reduceAdd]
      refine k_s rfl ?_
      first|refine k_A rfl rfl ty_size_62 ?_|refine k_B rfl rfl ty_size_62 ?_
      try simp only [k_ms,k_sz,k_ss,k_za,Nat.reduceAdd]
      refine k_n ?_
      refine k_u [(1,_),(3,_),(27,_),(28,_),(29,_),(30,_),(5,_),(4,_)] ?_
      refine k_a (k_m rfl ?_)
      refine k_7 ty_agg_62 ty_size_62 rfl ?_
      refine rC (Calm.fieldAddr ty_field_29_2 rfl) ?_
      refine rC (ld_ ty_plain_27 rfl) ?_
      refine ARun.call (lit_lt rfl) go_49 rfl (cs _ (hrd.less less_)) ?_
      rintro _ S1 ⟨rfl,h1⟩
      rw [h1];clear h1 S1
      refine rC (Calm.un rfl (una_not _)) ?_
      refine k_m rfl ?_
      first|refine k_q 40 ?_|refine rG 40 (Calm.fieldAddr ty_field_29_1 rfl) ?_
      first|refine k_q 40 ?_|refine rG 40 (ld_ ty_plain_26 rfl) ?_
      first|refine k_q 40 ?_|refine rG 40 (Calm.move rfl) ?_
      first|refine k_q 40 ?_|refine rG 40 ((by first | exact Calm.sliceHead Tryz.underlying26 ty_size_62 rfl (bnd_none _ _) (fun _=>rfl) (bnd_some _ _ rfl (by omega) (by omega)) | exact Calm.sliceNil Tryz.underlying26 ty_size_62 rfl (bnd_none _ _) (by simp) (bnd_zero _ _ rfl) (bnd_none _ _))) ?_
      first|refine k_q 40 ?_|refine rG 40 (Calm.makeFunc rfl rfl) ?_
      first | refine rS 40 ?_ | refine rU 40 ?_
      first|refine k_t rfl rfl ?_|refine k_f rfl rfl ?_
      refine k_n ?_
      refine k_u [(1,_),(3,_),(27,_),(28,_),(29,_),(30,_),(5,_),(4,_),(47,_)] ?_
      refine k_T rfl ?_
      refine k_a (k_e rfl ?_)
      refine AWP.ret ?_
      refine ain_ret ?_
      refine athen_ret ?_
      refine athen_ret ?_
      refine ain_ret ?_
      refine athen_ret ?_
      refine ⟨_,S,⟨_,_,rfl,rfl,rfl⟩,(hT1.trans hT25).trans less_,?_⟩
      exact ⟨by rw [hbad (fun h=>q4 h.1)];rfl,rfl⟩
    ·have hc:i=fr.length:=by have:=of_decide_eq_false hc;omega
     refine AWP.exit ?_
     refine athen_exit ?_
     refine athen_exit ?_
     refine ain_same ?_
     refine athen_n ?_
     refine k_a (k_e rfl ?_)
     refine AWP.ret ?_
     refine ⟨_,S,⟨_,_,rfl,rfl,rfl⟩,(hT1.trans hT25).trans less_,?_⟩
     exact ⟨by rw [chkP_yes ⟨q1,by simp only;omega,by simp only;omega,fun j hj=>hall j hj (by have h':j<fr.length:=hj;omega)⟩];rfl,rfl⟩
 ·rw [chkD_no q1] at hck
  rw [chkP_no (fun h=>q1 h.dr)]
  refine ACall.enter (rs:=[.tmp 2]) 49 [(0,.agg #[.int .i64 d.size,.slice pe d.ext.length ce,.slice pw d.waits.length cw,.int .i64 d.fuse,.bool d.down,.slice pf fr.length cf,.int .u64 tick,.int .u64 reads,.int .u64 writes])] Tryz.func16 rfl rfl (Nat.le_of_ble_eq_true rfl) rfl ⟨rfl,trivial⟩ ?_
  refine k_a ?_
  refine k_b9 rfl ?_
  intro b1 f1
  have g1:=f1
  repeat ((with_reducible replace g1:=fresh_set g1);obtain ⟨g1,_⟩:=g1)
  try simp only [k_l1,k_l0,k_za,Nat.reduceAdd]
  refine k_e rfl (AWP.seq (k_a ?_))
  refine rC (Calm.fieldAddr ty_field_29_0 rfl) ?_
  refine k_5 ty_agg_25 ty_size_25 rfl ?_
  refine ARun.call (lit_lt rfl) go_48 rfl (hck _ (hdk.less less_)) ?_
  rintro _ S1 ⟨rfl,h1⟩
  rw [h1];clear h1 S1
  refine rC (Calm.bin rfl rfl b_neq) ?_
  refine k_m rfl ?_
  first|refine k_q 10 ?_|refine rG 10 (Calm.fieldAddr ty_field_29_1 rfl) ?_
  first|refine k_q 10 ?_|refine rG 10 (ld_ ty_plain_26 rfl) ?_
  first|refine k_q 10 ?_|refine rG 10 (Calm.lenSl Tryz.underlying26 rfl) ?_
  first|refine k_q 10 ?_|refine rG 10 (Calm.bin rfl rfl b_lss) ?_
  first|refine k_t rfl rfl ?_|refine k_f rfl rfl ?_
  refine k_m rfl ?_
  first|refine k_q 16 ?_|refine rG 16 (Calm.fieldAddr ty_field_29_1 rfl) ?_
  first|refine k_q 16 ?_|refine rG 16 (ld_ ty_plain_26 rfl) ?_
  first|refine k_q 16 ?_|refine rG 16 (Calm.lenSl Tryz.underlying26 rfl) ?_
  first|refine k_q 16 ?_|refine rG 16 (Calm.bin rfl rfl b_gtr) ?_
  first|refine k_t rfl rfl ?_|refine k_f rfl rfl ?_
  refine k_n ?_
  refine k_u [(0,_),(1,_),(2,_),(21,_)] ?_
  refine k_T rfl ?_
  refine k_a (k_e rfl ?_)
  refine k_r ?_
  refine ⟨_,S,⟨_,_,rfl,rfl,rfl⟩,less_,?_⟩
  exact ⟨rfl,rfl⟩
end Go.Proofs.YtkeiphkccnfhoaaGreat
namespace Go.Proofs.YtkeiphkccnfhoaaGreat
open Go.RowKit
open Mv Disk
set_option maxRecDepth 20000
def leasedB (x : Fr) : Bool := x.leased
def pinnedB (x : Fr) : Bool := !x.leased && decide (0 < x.pins)
def heldB (x : Fr) : Bool := !x.leased && (decide (0 < x.pins) || decide x.holds)
noncomputable def countsP (p : Pl) : Int × Int × Int × Int := if chkP p = 0 then ((p.fr.countP heldB : Nat), (p.fr.countP pinnedB : Nat), (p.fr.countP leasedB : Nat), 0) else (0, 0, 0, 2)
theorem count_take {q : Fr → Bool} {l : List Fr} {i : Nat} (h : i < l.length) : (l.take (i + 1)).countP q = (l.take i).countP q + if q l[i] = true then 1 else 0 := by
 rw [take_get h,List.countP_append,List.countP_singleton]
theorem count_le {q : Fr → Bool} (l : List Fr) (i : Nat) : (l.take i).countP q ≤ l.length := Nat.le_trans List.countP_le_length (by simp; omega)
theorem chkP_or (p : Pl) : (chkP p = 0 ∧ PRight p) ∨ chkP p = 2 := by
 by_cases h:PRight p
 ·exact .inl ⟨chkP_yes h,h⟩
 ·exact .inr (chkP_no h)
set_option maxHeartbeats 8000000 in
theorem pl_Counts (v : Value) (p : Pl) (S : Mem) (hp : PlR S v p) (hz : Dz p.d) :
  ACall Tryz.prog 26 #[v] S fun r S'=>r = .tuple #[.int .i64 (countsP p).1,.int .i64 (countsP p).2.1,.int .i64 (countsP p).2.2.1,.int .i64 (countsP p).2.2.2]∧S'=S:=by
 have hck:=fun S h=>pl_Check v p S h hz
 obtain ⟨pe,ce,pw,cw,pf,cf,rfl,hE,hW,hF⟩:=id hp
 unfold countsP
 obtain ⟨_,_,ef1,ef2,ef3,hF3⟩:=id hF
 cases ef1
 obtain ⟨d,fr,tick,reads,writes⟩:=p
 simp only at *
 rcases chkP_or ⟨d,fr,tick,reads,writes⟩ with ⟨q,hR⟩ | q
 ·rw [q] at hck
  rw [if_pos q]
  have h256:=hR.l2
  simp only at h256
  refine ACall.enter (rs:=[.tmp 2,.tmp 3,.tmp 4,.tmp 5]) 44 [(0,.agg #[.int .i64 d.size,.slice pe d.ext.length ce,.slice pw d.waits.length cw,.int .i64 d.fuse,.bool d.down,.slice pf fr.length cf,.int .u64 tick,.int .u64 reads,.int .u64 writes])] Tryz.func26 rfl rfl (Nat.le_of_ble_eq_true rfl) rfl ⟨rfl,trivial⟩ ?_
  refine k_a ?_
  refine k_b9 rfl ?_
  intro b1 f1
  have g1:=f1
  repeat ((with_reducible replace g1:=fresh_set g1);obtain ⟨g1,_⟩:=g1)
  try simp only [k_l1,k_l0,k_za,Nat.reduceAdd]
  refine k_s rfl (k_s rfl (k_s rfl (k_e rfl ?_)))
  refine named (S:=S) (b:=b1) g1.1 ?_
  intro T1 hT1 kb1
  replace hp:=hp.less hT1
  replace hF:=hF.less hT1
  refine AWP.seq (k_a ?_)
  refine k_9 ty_agg_29 ty_size_29 rfl ?_
  refine ARun.call (lit_lt rfl) go_16 rfl (hck _ hp) ?_
  rintro _ S1 ⟨rfl,h1⟩
  rw [h1];clear h1 S1
  refine k_e rfl ?_
  refine k_u [(0,_),(1,_),(2,_),(3,_),(4,_),(5,_),(6,_)] ?_
  refine k_a (k_m rfl ?_)
  refine rC (Calm.bin rfl rfl b_neq) ?_
  refine k_n ?_
  refine k_u [(0,_),(1,_),(2,_),(3,_),(4,_),(5,_),(6,_),(15,_)] ?_
  refine k_F rfl ?_
  refine k_k (k_a (k_s rfl (k_s rfl (k_e rfl ?_))))
  refine AWP.seq (k_a ?_)
  refine rC (Calm.fieldAddr ty_field_29_1 rfl) ?_
  refine rC (ld_ ty_plain_26 rfl) ?_
  refine rC (Calm.lenSl Tryz.underlying26 rfl) ?_
  refine k_m rfl (k_n ?_)
  refine k_u [(0,_),(1,_),(2,_),(3,_),(4,_),(5,_),(6,_),(15,_),(7,_),(8,_),(9,_),(18,_),(19,_),(20,_)] ?_
  refine AWP.block ?_
  refine AWP.loop (X:=Nat) (fun x=>[(1,.pointer (some ⟨b1,0,none⟩)),(7,.int .i64 ((fr.take x).countP heldB:Nat)),(8,.int .i64 ((fr.take x).countP pinnedB:Nat)),(9,.int .i64 ((fr.take x).countP leasedB:Nat)),(18,.slice pf fr.length cf),(19,.int .i64 fr.length),(20,.int .i64 x)]) (fun x=>T1) (fun x=>x≤fr.length) (fun x=>fr.length-x) (0) ⟨rfl,some_int (by simp),some_int (by simp),some_int (by simp),rfl,rfl,rfl,trivial⟩ (Mem.Less.refl _) (Nat.zero_le _) ?_
  rintro i hi
  (try dsimp only at *)
  refine k_a ?_
  refine rC (Calm.bin rfl rfl b_lss) ?_
  refine k_n (AWP.seq ?_)
  refine AWP.condB rfl (fun hc=>?_) (fun hc=>?_)
  ·have hc:i<fr.length:=by have:=of_decide_eq_true hc;omega
   obtain ⟨b,off,rfl,hk⟩:=hF3.resolve_left (fun e=>by rw [e] at hc;simp at hc)
   have hki:=(hk i hc).less hT1
   have t1:=count_take (q:=heldB) hc
   have t2:=count_take (q:=pinnedB) hc
   have t3:=count_take (q:=leasedB) hc
   have u1:=count_le (q:=heldB) fr (i+1)
   have u2:=count_le (q:=pinnedB) fr (i+1)
   have u3:=count_le (q:=leasedB) fr (i+1)
   generalize fr[i]=x at *
   have ch:=fun S=>pl_holds x S
   unfold frV at ch
   unfold frF at hki
   by_cases a1:x.leased=true
   ·simp [heldB,pinnedB,leasedB,a1] at t1 t2 t3
    refine k_k (AWP.seq ?_)
    refine AWP.block ?_
    refine k_a ?_
    refine rC (Calm.indexS Tryz.underlying26 ty_size_62 rfl rfl (by omega) (by omega)) ?_
    refine k_7 ty_agg_62 ty_size_62 rfl ?_
    refine ARun.alloc (lit_lt rfl) ty_zero_62 ?_
    intro b11 f11
    have g11:=f11
    repeat ((with_reducible replace g11:=fresh_set g11);obtain ⟨g11,_⟩:=g11)
    have:=g11.ne kb1;have:=g11.ne' kb1
    try simp only [k_l1,k_l0,k_za,Nat.reduceAdd]
    first|refine k_A rfl rfl ty_size_62 ?_|refine k_B rfl rfl ty_size_62 ?_
    try simp only [k_ms,k_sz,k_ss,k_za,Nat.reduceAdd]
    refine k_n ?_
    refine k_u [(1,_),(7,_),(8,_),(9,_),(18,_),(19,_),(20,_),(21,_),(11,_)] ?_
    refine AWP.block ?_
    refine AWP.seq ?_
    refine AWP.block ?_
    refine AWP.seq ?_
    refine AWP.block ?_
    refine AWP.seq ?_
    refine AWP.block ?_
    refine AWP.seq (AWP.seq (k_a ?_))
    refine rC (Calm.fieldAddr ty_field_62_6 rfl) ?_
    refine rC (Calm.as (congrArg Value.bool a1) (ld_ ty_plain_4 rfl)) ?_
    refine k_e rfl ?_
    refine k_u [(1,_),(7,_),(8,_),(9,_),(18,_),(19,_),(20,_),(21,_),(11,_),(24,_)] ?_
    refine k_T rfl ?_
    refine AWP.exit ?_
    refine athen_exit ?_
    refine athen_exit ?_
    refine ain_same ?_
    refine athen_n ?_
    refine k_a (k_m rfl ?_)
    refine rC (Calm.bin rfl rfl b_add_i64) ?_
    refine k_e rfl ?_
    refine k_u [(1,_),(7,_),(8,_),(9,_),(18,_),(19,_),(20,_),(21,_),(11,_),(24,_)] ?_
    refine AWP.exit ?_
    refine ain_other rfl ?_
    refine athen_exit ?_
    refine ain_other rfl ?_
    refine athen_exit ?_
    refine ain_same ?_
    refine ain_n ?_
    refine athen_n ?_
    refine AWP.region ?_
    refine rC (Calm.bin rfl rfl b_add_i64) ?_
    refine k_m rfl (k_n ?_)
    refine ⟨i+1,?_,?_,?_,?_⟩
    all_goals (try dsimp only)
    ·exact ⟨rfl,some_int (by omega),some_int (by omega),some_int (by omega),rfl,rfl,rfl,trivial⟩
    ·exact less_
    ·exact hc
    ·omega
   ·have a1:x.leased=false:=by simpa using a1
    by_cases a2:0<x.pins
    ·simp [heldB,pinnedB,leasedB,a1,a2] at t1 t2 t3
     refine k_k (AWP.seq ?_)
     refine AWP.block ?_
     refine k_a ?_
     refine rC (Calm.indexS Tryz.underlying26 ty_size_62 rfl rfl (by omega) (by omega)) ?_
     refine k_7 ty_agg_62 ty_size_62 rfl ?_
     refine ARun.alloc (lit_lt rfl) ty_zero_62 ?_
     intro b11 f11
     have g11:=f11
     repeat ((with_reducible replace g11:=fresh_set g11);obtain ⟨g11,_⟩:=g11)
     have:=g11.ne kb1;have:=g11.ne' kb1
     try simp only [k_l1,k_l0,k_za,Nat.reduceAdd]
     first|refine k_A rfl rfl ty_size_62 ?_|refine k_B rfl rfl ty_size_62 ?_
     try simp only [k_ms,k_sz,k_ss,k_za,Nat.reduceAdd]
     refine k_n ?_
     refine k_u [(1,_),(7,_),(8,_),(9,_),(18,_),(19,_),(20,_),(21,_),(11,_)] ?_
     refine AWP.block ?_
     refine AWP.seq ?_
     refine AWP.block ?_
     refine AWP.seq ?_
     refine AWP.block ?_
     refine AWP.seq ?_
     refine AWP.block ?_
     refine AWP.seq (AWP.seq (k_a ?_))
     refine rC (Calm.fieldAddr ty_field_62_6 rfl) ?_
     refine rC (Calm.as (congrArg Value.bool a1) (ld_ ty_plain_4 rfl)) ?_
     refine k_e rfl ?_
     refine k_u [(1,_),(7,_),(8,_),(9,_),(18,_),(19,_),(20,_),(21,_),(11,_),(24,_)] ?_
     refine k_F rfl ?_
     refine k_k (AWP.seq (k_a ?_))
     refine rC (Calm.fieldAddr ty_field_62_3 rfl) ?_
     refine rC (ld_ ty_plain_3 rfl) ?_
     refine rC (Calm.bin rfl rfl b_gtr) ?_
     refine k_e rfl ?_
     refine k_u [(1,_),(7,_),(8,_),(9,_),(18,_),(19,_),(20,_),(21,_),(11,_),(24,_),(27,_)] ?_
     refine k_T rfl ?_
     refine AWP.exit ?_
     refine athen_exit ?_
     refine athen_exit ?_
     refine ain_other rfl ?_
     refine athen_exit ?_
     refine ain_same ?_
     refine athen_n ?_
     refine AWP.region ?_
     refine k_m rfl ?_
     refine rC (Calm.bin rfl rfl b_add_i64) ?_
     refine k_s rfl ?_
     refine arun_nil ?_
     refine ain_n ?_
     refine athen_n ?_
     refine k_u [(1,_),(7,_),(8,_),(9,_),(18,_),(19,_),(20,_),(21,_),(11,_),(24,_),(27,_)] ?_
     refine k_a (k_m rfl ?_)
     refine rC (Calm.bin rfl rfl b_add_i64) ?_
     refine k_e rfl ?_
     refine k_u [(1,_),(7,_),(8,_),(9,_),(18,_),(19,_),(20,_),(21,_),(11,_),(24,_),(27,_)] ?_
     refine AWP.exit ?_
     refine ain_same ?_
     refine ain_n ?_
     refine athen_n ?_
     refine AWP.region ?_
     refine rC (Calm.bin rfl rfl b_add_i64) ?_
     refine k_m rfl (k_n ?_)
     refine ⟨i+1,?_,?_,?_,?_⟩
     all_goals (try dsimp only)
     ·exact ⟨rfl,some_int (by omega),some_int (by omega),some_int (by omega),rfl,rfl,rfl,trivial⟩
     ·exact less_
     ·exact hc
     ·omega
    ·by_cases a3:x.holds
     ·simp [heldB,pinnedB,leasedB,a1,a2,a3] at t1 t2 t3
      rw [decide_eq_true a3] at ch
      refine k_k (AWP.seq ?_)
      refine AWP.block ?_
      refine k_a ?_
      refine rC (Calm.indexS Tryz.underlying26 ty_size_62 rfl rfl (by omega) (by omega)) ?_
      refine k_7 ty_agg_62 ty_size_62 rfl ?_
      refine ARun.alloc (lit_lt rfl) ty_zero_62 ?_
      intro b11 f11
      have g11:=f11
      repeat ((with_reducible replace g11:=fresh_set g11);obtain ⟨g11,_⟩:=g11)
      have:=g11.ne kb1;have:=g11.ne' kb1
      try simp only [k_l1,k_l0,k_za,Nat.reduceAdd]
      first|refine k_A rfl rfl ty_size_62 ?_|refine k_B rfl rfl ty_size_62 ?_
      try simp only [k_ms,k_sz,k_ss,k_za,Nat.reduceAdd]
      refine k_n ?_
      refine k_u [(1,_),(7,_),(8,_),(9,_),(18,_),(19,_),(20,_),(21,_),(11,_)] ?_
      refine AWP.block ?_
      refine AWP.seq ?_
      refine AWP.block ?_
      refine AWP.seq ?_
      refine AWP.block ?_
      refine AWP.seq ?_
      refine AWP.block ?_
      refine AWP.seq (AWP.seq (k_a ?_))
      refine rC (Calm.fieldAddr ty_field_62_6 rfl) ?_
      refine rC (Calm.as (congrArg Value.bool a1) (ld_ ty_plain_4 rfl)) ?_
      refine k_e rfl ?_
      refine k_u [(1,_),(7,_),(8,_),(9,_),(18,_),(19,_),(20,_),(21,_),(11,_),(24,_)] ?_
      refine k_F rfl ?_
      refine k_k (AWP.seq (k_a ?_))
      refine rC (Calm.fieldAddr ty_field_62_3 rfl) ?_
      refine rC (ld_ ty_plain_3 rfl) ?_
      refine rC (Calm.bin rfl rfl b_gtr) ?_
      refine k_e rfl ?_
      refine k_u [(1,_),(7,_),(8,_),(9,_),(18,_),(19,_),(20,_),(21,_),(11,_),(24,_),(27,_)] ?_
      refine k_F rfl ?_
      refine k_k (k_a ?_)
      refine k_7 ty_agg_62 ty_size_62 rfl ?_
      refine ARun.call (lit_lt rfl) go_63 rfl (ch _) ?_
      rintro _ S1 ⟨rfl,h1⟩
      rw [h1];clear h1 S1
      refine k_e rfl ?_
      refine k_u [(1,_),(7,_),(8,_),(9,_),(18,_),(19,_),(20,_),(21,_),(11,_),(24,_),(27,_),(31,_)] ?_
      refine k_T rfl ?_
      refine AWP.exit ?_
      refine athen_exit ?_
      refine ain_other rfl ?_
      refine athen_exit ?_
      refine ain_other rfl ?_
      refine athen_exit ?_
      refine ain_same ?_
      refine athen_n ?_
      refine k_a (k_m rfl ?_)
      refine rC (Calm.bin rfl rfl b_add_i64) ?_
      refine k_e rfl ?_
      refine k_u [(1,_),(7,_),(8,_),(9,_),(18,_),(19,_),(20,_),(21,_),(11,_),(24,_),(27,_),(31,_)] ?_
      refine AWP.exit ?_
      refine ain_same ?_
      refine ain_n ?_
      refine athen_n ?_
      refine AWP.region ?_
      refine rC (Calm.bin rfl rfl b_add_i64) ?_
      refine k_m rfl (k_n ?_)
      refine ⟨i+1,?_,?_,?_,?_⟩
      all_goals (try dsimp only)
      ·exact ⟨rfl,some_int (by omega),some_int (by omega),some_int (by omega),rfl,rfl,rfl,trivial⟩
      ·exact less_
      ·exact hc
      ·omega
     ·simp [heldB,pinnedB,leasedB,a1,a2,a3] at t1 t2 t3
      rw [decide_eq_false a3] at ch
      refine k_k (AWP.seq ?_)
      refine AWP.block ?_
      refine k_a ?_
      refine rC (Calm.indexS Tryz.underlying26 ty_size_62 rfl rfl (by omega) (by omega)) ?_
      refine k_7 ty_agg_62 ty_size_62 rfl ?_
      refine ARun.alloc (lit_lt rfl) ty_zero_62 ?_
      intro b11 f11
      have g11:=f11
      repeat ((with_reducible replace g11:=fresh_set g11);obtain ⟨g11,_⟩:=g11)
      have:=g11.ne kb1;have:=g11.ne' kb1
      try simp only [k_l1,k_l0,k_za,Nat.reduceAdd]
      first|refine k_A rfl rfl ty_size_62 ?_|refine k_B rfl rfl ty_size_62 ?_
      try simp only [k_ms,k_sz,k_ss,k_za,Nat.reduceAdd]
      refine k_n ?_
      refine k_u [(1,_),(7,_),(8,_),(9,_),(18,_),(19,_),(20,_),(21,_),(11,_)] ?_
      refine AWP.block ?_
      refine AWP.seq ?_
      refine AWP.block ?_
      refine AWP.seq ?_
      refine AWP.block ?_
      refine AWP.seq ?_
      refine AWP.block ?_
      refine AWP.seq (AWP.seq (k_a ?_))
      refine rC (Calm.fieldAddr ty_field_62_6 rfl) ?_
      refine rC (Calm.as (congrArg Value.bool a1) (ld_ ty_plain_4 rfl)) ?_
      refine k_e rfl ?_
      refine k_u [(1,_),(7,_),(8,_),(9,_),(18,_),(19,_),(20,_),(21,_),(11,_),(24,_)] ?_
      refine k_F rfl ?_
      refine k_k (AWP.seq (k_a ?_))
      refine rC (Calm.fieldAddr ty_field_62_3 rfl) ?_
      refine rC (ld_ ty_plain_3 rfl) ?_
      refine rC (Calm.bin rfl rfl b_gtr) ?_
      refine k_e rfl ?_
      refine k_u [(1,_),(7,_),(8,_),(9,_),(18,_),(19,_),(20,_),(21,_),(11,_),(24,_),(27,_)] ?_
      refine k_F rfl ?_
      refine k_k (k_a ?_)
      refine k_7 ty_agg_62 ty_size_62 rfl ?_
      refine ARun.call (lit_lt rfl) go_63 rfl (ch _) ?_
      rintro _ S1 ⟨rfl,h1⟩
      rw [h1];clear h1 S1
      refine k_e rfl ?_
      refine k_u [(1,_),(7,_),(8,_),(9,_),(18,_),(19,_),(20,_),(21,_),(11,_),(24,_),(27,_),(31,_)] ?_
      refine k_F rfl ?_
      refine k_k ?_
      refine AWP.exit ?_
      refine ain_other rfl ?_
      refine athen_exit ?_
      refine ain_other rfl ?_
      refine athen_exit ?_
      refine ain_other rfl ?_
      refine athen_exit ?_
      refine ain_same ?_
      refine ain_n ?_
      refine athen_n ?_
      refine AWP.region ?_
      refine rC (Calm.bin rfl rfl b_add_i64) ?_
      refine k_m rfl (k_n ?_)
      refine ⟨i+1,?_,?_,?_,?_⟩
      all_goals (try dsimp only)
      ·exact ⟨rfl,some_int (by omega),some_int (by omega),some_int (by omega),rfl,rfl,rfl,trivial⟩
      ·exact less_
      ·exact hc
      ·omega
  ·have hc:i=fr.length:=by have:=of_decide_eq_false hc;omega
   subst hc
   rw [List.take_length]
   refine AWP.exit ?_
   refine athen_exit ?_
   refine athen_exit ?_
   refine ain_same ?_
   refine athen_n ?_
   refine k_a (k_m rfl (k_m rfl (k_m rfl (k_s rfl ?_))))
   refine k_s rfl (k_s rfl (k_e rfl ?_))
   refine k_u [(1,_),(7,_),(8,_),(9,_),(18,_),(19,_),(20,_),(21,_),(2,_),(3,_),(4,_),(5,_)] ?_
   refine AWP.ret ?_
   refine ⟨_,S,⟨_,_,rfl,⟨_,_,rfl,⟨_,_,rfl,⟨_,_,rfl,rfl,rfl⟩,rfl⟩,rfl⟩,rfl⟩,hT1.trans less_,?_⟩
   exact ⟨rfl,rfl⟩
 ·rw [q] at hck
  rw [if_neg (by rw [q];decide)]
  refine ACall.enter (rs:=[.tmp 2,.tmp 3,.tmp 4,.tmp 5]) 44 [(0,.agg #[.int .i64 d.size,.slice pe d.ext.length ce,.slice pw d.waits.length cw,.int .i64 d.fuse,.bool d.down,.slice pf fr.length cf,.int .u64 tick,.int .u64 reads,.int .u64 writes])] Tryz.func26 rfl rfl (Nat.le_of_ble_eq_true rfl) rfl ⟨rfl,trivial⟩ ?_
  refine k_a ?_
  refine k_b9 rfl ?_
  intro b1 f1
  have g1:=f1
  repeat ((with_reducible replace g1:=fresh_set g1);obtain ⟨g1,_⟩:=g1)
  try simp only [k_l1,k_l0,k_za,Nat.reduceAdd]
  refine k_s rfl (k_s rfl (k_s rfl (k_e rfl (AWP.seq ?_))))
  refine k_a ?_
  refine k_9 ty_agg_29 ty_size_29 rfl ?_
  refine ARun.call (lit_lt rfl) go_16 rfl (hck _ (hp.less less_)) ?_
  rintro _ S1 ⟨rfl,h1⟩
  rw [h1];clear h1 S1
  refine k_e rfl ?_
  refine k_u [(0,_),(1,_),(2,_),(3,_),(4,_),(5,_),(6,_)] ?_
  refine k_a (k_m rfl ?_)
  refine rC (Calm.bin rfl rfl b_neq) ?_
  refine k_n ?_
  refine k_u [(0,_),(1,_),(2,_),(3,_),(4,_),(5,_),(6,_),(15,_)] ?_
  refine k_T rfl ?_
  refine k_a (k_m rfl (k_s rfl (k_s rfl (k_s rfl ?_))))
  refine k_e rfl ?_
  refine k_u [(0,_),(1,_),(2,_),(3,_),(4,_),(5,_),(6,_),(15,_)] ?_
  refine k_r ?_
  refine ⟨_,S,⟨_,_,rfl,⟨_,_,rfl,⟨_,_,rfl,⟨_,_,rfl,rfl,rfl⟩,rfl⟩,rfl⟩,rfl⟩,less_,?_⟩
  exact ⟨rfl,rfl⟩
end Go.Proofs.YtkeiphkccnfhoaaGreat
namespace Go.Proofs.YtkeiphkccnfhoaaGreat
open Go.RowKit
open Mv Disk
set_option maxRecDepth 4000
abbrev frT : TypeId := 62
theorem fr_one (l : List Fr) : ∀ v ∈ l.flatMap frF, v.oneCell' = true := fun v hv => by
 obtain ⟨x,_,hx⟩:=List.mem_flatMap.1 hv
 simp only [frF,List.mem_cons,List.not_mem_nil,or_false] at hx
 rcases hx with rfl | rfl | rfl | rfl | rfl | rfl | rfl <;> rfl
theorem pl_CloneF (v : Value) (l : List Fr) (S : Mem) (hl : Sl 7 frF S v l) (hz : l.length ≤ 1048576) :
  ACall Tryz.prog 65 #[v] S (OwnR 7 frF frT l S):=by
 obtain ⟨a,cap,rfl,h1,h2,h3⟩:=id hl
 refine ACall.enter (rs:=[.tmp 2]) 8 [(0,.slice a l.length cap)] Tryz.func65 rfl rfl (Nat.le_of_ble_eq_true rfl) rfl ⟨rfl,trivial⟩ ?_
 cases a
 ·refine k_a (k_e rfl (AWP.seq (k_a (k_m rfl ?_))))
  refine rC (Calm.bin rfl rfl (bin_nil_eql Tryz.underlying26)) ?_
  refine k_n ?_
  refine k_u [(0,_),(2,_),(4,_)] ?_
  refine k_T rfl ?_
  obtain rfl:l = []:=h3.resolve_right (fun ⟨b,off,e,_⟩=>by cases e)
  refine k_a (k_e rfl ?_)
  refine k_r ?_
  refine ⟨_,S,⟨_,_,rfl,rfl,rfl⟩,less_,?_⟩
  exact ⟨none,okO_nil S,rfl,rfl⟩
 ·refine k_a (k_e rfl (AWP.seq (k_a (k_m rfl ?_))))
  refine rC (Calm.bin rfl rfl (bin_nil_eql Tryz.underlying26)) ?_
  refine k_n ?_
  refine k_u [(0,_),(2,_),(4,_)] ?_
  refine k_F rfl ?_
  refine k_k (k_a ?_)
  refine ARun.build0 (lit_lt rfl) ty_sl_26 ?_
  intro b5 f5
  have g5:=f5
  repeat ((with_reducible replace g5:=fresh_set g5);obtain ⟨g5,_⟩:=g5)
  refine k_m rfl ?_
  refine ARun.appendOK (n:=7) (o:=some (b5,0)) (k:=0) (m:=l.length) (cs:=[]) (lit_lt rfl) ty_sl_26 rfl rfl rfl (okO_own f5 (Nat.le_refl _)) (appN_self (okO_own f5 (Nat.le_refl 0)) rfl) rfl ((hl.less less_).src fr_len) (flat_length fr_len l) (fr_one l) (by omega) (by omega) ?_
  intro o ho
  rw [Nat.zero_add] at ho ⊢
  refine k_e rfl ?_
  refine k_u [(0,_),(2,_),(4,_)] ?_
  refine AWP.ret ?_
  refine ⟨_,_,⟨_,_,rfl,rfl,rfl⟩,Mem.Less.refl _,?_⟩
  exact ⟨o,ho,rfl,rfl⟩
end Go.Proofs.YtkeiphkccnfhoaaGreat
namespace Go.Proofs.YtkeiphkccnfhoaaGreat
open Go.RowKit
open Mv Disk
set_option maxRecDepth 4000
def P0 : Pl := ⟨D0, [], 0, 0, 0⟩
def up1 (x : Int) : Int := IntKind.u64.wrap (x + 1)
def setP (p : Pl) (i : Nat) (x : Fr) : Pl := { p with fr := p.fr.set i x }
def atF (p : Pl) (i : Nat) : Fr := p.fr.getD i F0
/-- A frame is written. -/
def wrP (p : Pl) (i : Nat) : Pl × Int :=
  ({ p with d := (writeD p.d (atF p i).name (atF p i).sector (atF p i).data).1, writes := up1 p.writes, fr := if (writeD p.d (atF p i).name (atF p i).sector (atF p i).data).2 = 0 then p.fr.set i { atF p i with dirty := false } else p.fr }, (writeD p.d (atF p i).name (atF p i).sector (atF p i).data).2)
def bestF (fr : List Fr) : Nat → Int
  | 0 => -1
  | i + 1 => if (fr.getD i F0).idle ∧ (bestF fr i < 0 ∨ (fr.getD i F0).tick < (fr.getD (bestF fr i).toNat F0).tick) then (i : Nat) else bestF fr i
theorem bestF_le (fr : List Fr) : ∀ i, -1 ≤ bestF fr i ∧ bestF fr i < i
 | 0=>⟨by unfold bestF;omega,by unfold bestF;omega⟩
 | i+1=>by
  have:=bestF_le fr i
  unfold bestF
  split <;> omega
/-- A frame is taken. -/
def takeP (p : Pl) : Pl × Nat × Int :=
  if p.fr.findIdx (fun x => decide (x = F0)) < p.fr.length then (p, p.fr.findIdx (fun x => decide (x = F0)), 0)
  else if bestF p.fr p.fr.length < 0 then (p, 0, 9)
  else if (atF p (bestF p.fr p.fr.length).toNat).dirty = true then
    (if (wrP p (bestF p.fr p.fr.length).toNat).2 = 0 then (setP (wrP p (bestF p.fr p.fr.length).toNat).1 (bestF p.fr p.fr.length).toNat F0, (bestF p.fr p.fr.length).toNat, 0)
     else ((wrP p (bestF p.fr p.fr.length).toNat).1, 0, (wrP p (bestF p.fr p.fr.length).toNat).2))
  else (setP p (bestF p.fr p.fr.length).toNat F0, (bestF p.fr p.fr.length).toNat, 0)
def isF (s : ByteArray) (k : Int) (x : Fr) : Bool := decide (x.holds ∧ x.sector = k ∧ x.name = s)
/-- A frame's pins are one more. -/
def pin1 (p : Pl) (i : Nat) : Pl := { p with tick := up1 p.tick, fr := p.fr.set i { atF p i with tick := up1 p.tick, pins := (atF p i).pins + 1 } }
def newF (s : ByteArray) (k : Int) (data : ByteArray) : Fr := ⟨s, k, data, 0, false, 0, false⟩
def pinP (p : Pl) (s : ByteArray) (k : Int) : Pl × Nat × Int :=
  if p.fr.findIdx (isF s k) < p.fr.length then
    (if (atF p (p.fr.findIdx (isF s k))).pins = 256 then (p, 0, 11) else (pin1 p (p.fr.findIdx (isF s k)), p.fr.findIdx (isF s k), 0))
  else if (readD p.d s k).2 ≠ 0 then (p, 0, (readD p.d s k).2)
  else if (takeP p).2.2 ≠ 0 then ((takeP p).1, 0, (takeP p).2.2)
  else (pin1 { setP (takeP p).1 (takeP p).2.1 (newF s k (readD p.d s k).1) with reads := up1 (takeP p).1.reads } (takeP p).2.1, (takeP p).2.1, 0)
def unpin1 (p : Pl) (i : Int) : Pl × Int :=
  if i < 0 ∨ (p.fr.length : Int) ≤ i then (p, 1) else if (atF p i.toNat).pins = 0 then (p, 11) else (setP p i.toNat { atF p i.toNat with pins := (atF p i.toNat).pins - 1 }, 0)
def ret1 (p : Pl) (i : Int) : Pl × Int :=
  if i < 0 ∨ (p.fr.length : Int) ≤ i then (p, 1) else if (atF p i.toNat).leased = false then (p, 11) else (setP p i.toNat F0, 0)
def eachP (f : Pl → Int → Pl × Int) (p0 : Pl) : Pl → List Int → Pl × Int
  | p, [] => (p, 0)
  | p, i :: l => if (f p i).2 = 0 then eachP f p0 (f p i).1 l else (p0, (f p i).2)
def pinnedP (p : Pl) (i a n : Int) : Int := if i < 0 ∨ (p.fr.length : Int) ≤ i ∨ a < 0 ∨ 64 < a ∨ 64 - a < n then 1 else if (atF p i.toNat).pins = 0 then 11 else 0
def lookP (p : Pl) (i : Int) : ByteArray × Int := if pinnedP p i 0 0 = 0 then ((atF p i.toNat).data, 0) else (ByteArray.empty, pinnedP p i 0 0)
def fillS (t : ByteArray) (a : Int) (s : ByteArray) : ByteArray := t.extract 0 a.toNat ++ s ++ t.extract (a.toNat + s.size) t.size
def fillP (p : Pl) (i a : Int) (s : ByteArray) : Pl × Int := if pinnedP p i a s.size = 0 then (setP p i.toNat { atF p i.toNat with data := fillS (atF p i.toNat).data a s, dirty := true }, 0) else (p, pinnedP p i a s.size)
def leaseN : Nat → Pl → List Int → Pl × List Int × Int
  | 0, p, l => (p, l, 0)
  | n + 1, p, l => if (takeP p).2.2 = 0 then leaseN n (setP (takeP p).1 (takeP p).2.1 F1) (l ++ [((takeP p).2.1 : Int)]) else ((takeP p).1, [], (takeP p).2.2)
def idlesP (p : Pl) : Nat := p.fr.countP fun x => decide x.idle
def leaseP (p : Pl) (n : Int) : Pl × List Int × Int := if n < 0 then (p, [], 1) else if (idlesP p : Int) < n then (p, [], 9) else leaseN n.toNat p []
def ofN (s : ByteArray) (x : Fr) : Bool := decide (x.holds ∧ x.name = s)
def dropP (p : Pl) (s : ByteArray) : Pl × Int := if p.fr.any (fun x => ofN s x && decide (0 < x.pins)) = true then (p, 11) else ({ p with fr := p.fr.map fun x => if ofN s x = true then F0 else x }, 0)
/-- The frames from i on are written, so many. -/
def flushN (p : Pl) (i : Nat) : Nat → Pl × Int
  | 0 => (p, 0)
  | n + 1 => if (atF p i).dirty = true then (if (wrP p i).2 = 0 then flushN (wrP p i).1 (i + 1) n else wrP p i) else flushN p (i + 1) n
def flushP (p : Pl) : Pl × Int := if (flushN p 0 p.fr.length).2 = 0 then ({ (flushN p 0 p.fr.length).1 with d := settleD (flushN p 0 p.fr.length).1.d fun _ => true }, 0) else flushN p 0 p.fr.length
noncomputable def openP (p : Pl) : Pl × Int := if chkP p = 0 then (p, if p.d.down = true then 10 else 0) else (P0, 2)
noncomputable def openedP (p : Pl) (f : Pl × Int) : Pl × Int := if (openP p).2 = 0 then f else openP p
/-! ### What holds of a pool at work -/
structure PW (p : Pl) : Prop where
  dr : Right p.d
  fu : p.d.fuse ≤ 9223372036854775807
  nd : p.d.down = false
  l1 : 1 ≤ p.fr.length
  l2 : p.fr.length ≤ 256
  pn : ∀ x ∈ p.fr, 0 ≤ x.pins ∧ x.pins ≤ 256
theorem atF_eq {p : Pl} {i : Nat} (h : i < p.fr.length) : atF p i = p.fr[i] := by unfold atF; simp [List.getD, List.getElem?_eq_getElem h]
theorem atF_mem {p : Pl} {i : Nat} (h : i < p.fr.length) : atF p i ∈ p.fr := by rw [atF_eq h]; exact List.getElem_mem h
abbrev arT : TypeId := 93
def frB (fr : List Fr) (c : Nat) : Blk := ⟨frT, fr.flatMap frF, c * 7⟩
def arB (p b c : Nat) (x : Pl) (k : Int) : Blk := ⟨arT, [.pointer (some ⟨p, 0, none⟩), .slice (some ⟨b, 0, none⟩) x.fr.length c, .int .u64 x.tick, .int .u64 x.reads, .int .u64 x.writes, .int .i64 k], 6⟩
/-- A pool at work: its block a, over the memory M of its disk at work (p), its frames' block b. -/
def arM (M : Mem) (a p b c : Nat) (x : Pl) (k : Int) : Mem := (M.set b (frB x.fr c)).set a (arB p b c x k)
structure OkA (S : Mem) (a p b c : Nat) (x : Pl) (oE oW : Option (Nat × Nat)) : Prop where
  v : OkV S p x.d oE oW
  fb : Fresh (devM S p x.d oE oW) b
  fa : Fresh (devM S p x.d oE oW) a
  ab : a ≠ b
  l : x.fr.length ≤ c
def ArS (S : Mem) (a p b c : Nat) (x : Pl) (S' : Mem) : Prop := ∃ k oE oW, OkA S a p b c x oE oW ∧ S' = arM (devM S p x.d oE oW) a p b c x k
theorem spl_flat {α : Type} {n : Nat} {f : α → List Value} (hn : ∀ x, (f x).length = n) (l : List α) (k : Nat) (y : α) (h : k < l.length) : spl (l.flatMap f) (k * n) (f y) = (l.set k y).flatMap f := by
 have e1:l=l.take k ++ l[k] :: l.drop (k+1):=by rw [← drop_get h,List.take_append_drop]
 have e2:l.set k y=l.take k ++ y :: l.drop (k+1):=by rw [List.set_eq_take_append_cons_drop,if_pos h]
 rw [e2]
 conv=>lhs;rw [e1]
 rw [List.flatMap_append,List.flatMap_append,List.flatMap_cons,List.flatMap_cons]
 have hl:=flat_length hn (l.take k)
 rw [List.length_take,Nat.min_eq_left (Nat.le_of_lt h)] at hl
 have hk:=hn l[k]
 have hy:=hn y
 generalize List.flatMap f (List.take k l)=A at *
 generalize List.flatMap f (List.drop (k+1) l)=B at *
 generalize f l[k]=C at *
 unfold spl
 rw [List.take_left' hl,← List.append_assoc A C B,List.drop_left' (by rw [List.length_append];omega),List.append_assoc]
theorem less_eq {S S' : Mem} (h : S = S') : S.Less S' := by rw [h]; exact Mem.Less.refl _
theorem ar_own {M : Mem} {a p b c : Nat} {x : Pl} {k : Int} : (arM M a p b c x k).own a = some (arB p b c x k) := Mem.own_set_same _ _ _
theorem ar_fr {M : Mem} {a p b c : Nat} {x : Pl} {k : Int} (h : a ≠ b) : (arM M a p b c x k).own b = some (frB x.fr c) := (Mem.own_set_other _ _ (Ne.symm h)).trans (Mem.own_set_same _ _ _)
theorem ar_setF {M : Mem} {a p b c : Nat} {x : Pl} {k : Int} (h : a ≠ b) (fr' : List Fr) (hl : fr'.length = x.fr.length) : (arM M a p b c x k).set b (frB fr' c) = arM M a p b c { x with fr := fr' } k := by
 unfold arM
 rw [← Mem.set_comm _ _ _ (Ne.symm h),Mem.set_set]
 unfold arB;rw [hl]
theorem ar_setA {M : Mem} {a p b c : Nat} {x x' : Pl} {k k' : Int} (h : x'.fr = x.fr) : (arM M a p b c x k).set a (arB p b c x' k') = arM M a p b c x' k' := by
 unfold arM
 rw [Mem.set_set,h]
theorem ar_sl {M : Mem} {a p b c : Nat} {x : Pl} {k : Int} (h : a ≠ b) (hl : x.fr.length ≤ c) (hm : x.fr.length ≤ 256) : Sl 7 frF (arM M a p b c x k) (.slice (some ⟨b, 0, none⟩) x.fr.length c) x.fr :=
 Sl.own (ar_fr h) fr_len List.prefix_rfl rfl hl (Nat.le_trans hm (by decide))
theorem ar_less {M : Mem} {a p b c : Nat} {x : Pl} {k : Int} (fb : Fresh M b) (fa : Fresh M a) (h : a ≠ b) : M.Less (arM M a p b c x k) :=
 (Mem.less_set _ _ _ fb.1).trans (Mem.less_set _ _ _ ((Mem.own_set_other _ _ h).trans fa.1))
theorem OkA.less {S : Mem} {a p b c : Nat} {x : Pl} {oE oW : Option (Nat × Nat)} (h : OkA S a p b c x oE oW) (k : Int) : S.Less (arM (devM S p x.d oE oW) a p b c x k) :=
 (h.v.dk.less.trans (Mem.less_set _ _ _ h.v.fr.1)).trans (ar_less h.fb h.fa h.ab)
theorem OkA.rd {S : Mem} {a p b c : Nat} {x : Pl} {oE oW : Option (Nat × Nat)} (h : OkA S a p b c x oE oW) (hw : PW x) (k : Int) : RdV (arM (devM S p x.d oE oW) a p b c x k) p x.d :=
 (h.v.rd (right_lens hw.dr).1 (right_lens hw.dr).2).less (ar_less h.fb h.fa h.ab)
theorem OkA.like {S : Mem} {a p b c : Nat} {x x' : Pl} {oE oW : Option (Nat × Nat)} (h : OkA S a p b c x oE oW) (hd : x'.d = x.d) (hl : x'.fr.length = x.fr.length) : OkA S a p b c x' oE oW :=
 ⟨by rw [hd];exact h.v,by rw [hd];exact h.fb,by rw [hd];exact h.fa,h.ab,by rw [hl];exact h.l⟩
/-- A call of the disk's, at work in a pool. -/
theorem ar_call {S : Mem} {a p b c : Nat} {x : Pl} {oE oW : Option (Nat × Nat)} (h : OkA S a p b c x oE oW) (k : Int) {f : FuncId} {args : Array Value} {R : Value → Mem → Prop} (hc : ACall Tryz.prog f args (devM S p x.d oE oW) R) :
  ACall Tryz.prog f args (arM (devM S p x.d oE oW) a p b c x k) fun r S'=>∃ M,R r M∧Fresh M b∧Fresh M a∧S'=arM M a p b c x k:=by
 have fa':Fresh ((devM S p x.d oE oW).set b (frB x.fr c)) a:=fresh_more h.fa h.ab
 refine ((hc.frame (r:=frB x.fr c) h.fb).frame (r:=arB p b c x k) fa').mono fun r S' ⟨Sa,⟨M,hR,f1,e1⟩,f2,e2⟩=>?_
 subst e1
 exact ⟨M,hR,f1,(fresh_set f2).1,e2⟩
section
variable {P : Program} {N : Nat} {ops : Array Oper} {E : Env} {S : Mem} {K : Env → Mem → Prop}
variable {ty : TypeId} {pos : String} {aft : Array Edge} {gd : Option (Nat × Bool)}
/-- A frame is stored. -/
theorem Mv.ARun.storeFr {os : List Oper} {T : TypeId} {x y : Operand} {b o c i : Nat} {l : List Fr} {u : Fr} {v : Value} (hx : ev E x = some (.pointer (some ⟨b, o, none⟩))) (hy : ev E y = some v) (hv : v = frV u) (ho : o = i * 7) (hi : i < l.length) (hs : sizeT P T = some 7) (hb : S.own b = some (frB l c))
  (h:ARun P N ops os K E (S.set b (frB (l.set i u) c))):ARun P N ops (⟨none,.store T x y,ty,pos,aft,none⟩ :: os) K E S:=by
 subst hv ho
 have hl:=flat_length fr_len l
 have:=Nat.mul_le_mul_right 7 (show i+1≤l.length from hi)
 refine ARun.store hx hy (by unfold frV;exact hs) hb (by unfold frB frV;show i*7+7≤(l.flatMap frF).length;omega) (by unfold frV;simp [Value.cells,Value.oneCell']) ?_
 have e:spl (frB l c).cells (i*7) (frV u).cells.toList=(l.set i u).flatMap frF:=spl_flat fr_len l i u hi
 rw [e];exact h
/-- A part of a frame is stored. -/
theorem Mv.ARun.storeFr1 {os : List Oper} {T : TypeId} {x y : Operand} {b o c i q : Nat} {l : List Fr} {u : Fr} {v : Value} (hx : ev E x = some (.pointer (some ⟨b, o, none⟩))) (hy : ev E y = some v) (hv1 : v.cells = #[v]) (hv2 : v.oneCell' = true) (ho : o = i * 7 + q) (hq : q < 7) (hi : i < l.length) (hu : (frF l[i]).set q v = frF u) (hs : sizeT P T = some 1) (hb : S.own b = some (frB l c))
  (h:ARun P N ops os K E (S.set b (frB (l.set i u) c))):ARun P N ops (⟨none,.store T x y,ty,pos,aft,none⟩ :: os) K E S:=by
 subst ho
 have hl:=flat_length fr_len l
 have:=Nat.mul_le_mul_right 7 (show i+1≤l.length from hi)
 refine ARun.store1 hx hy hs hv1 hb (by unfold frB;show i*7+q<(l.flatMap frF).length;omega) hv2 ?_
 have e:(frB l c).cells.set (i*7+q) v=(l.set i u).flatMap frF:=flat_set fr_len l i u hi q v hq hu
 rw [e];exact h
end
end Go.Proofs.YtkeiphkccnfhoaaGreat
namespace Go.Proofs.YtkeiphkccnfhoaaGreat
open Go.RowKit
open Mv Disk
set_option maxRecDepth 4000
theorem Mv.Calm.maxE {P : Program} {N : Nat} {E : Env} {S : Mem} {dst : Option Nat} {ty : TypeId} {pos : String} {aft : Array Edge} {gd : Option (Nat × Bool)} {x y : Operand} {k k' : IntKind} {a b c : Int} {ats : Array TypeId} (h : c = max a b) (hx : ev E x = some (.int k a)) (hy : ev E y = some (.int k' b)) : ACalm P N ⟨dst, .call ⟨.builtin .max, #[x, y], ats⟩, ty, pos, aft, gd⟩ E S (.int k c) := by
 by_cases hab:a≤b
 ·rw [show c=b from by omega];exact Calm.maxR hx hy hab
 ·rw [show c=a from by omega];exact Calm.maxL hx hy (by omega)
theorem sl_at {α : Type} {n : Nat} {f : α → List Value} {S : Mem} {b : Nat} {len cap : Nat} {l : List α} (h : Sl n f S (.slice (some ⟨b, 0, none⟩) len cap) l) (i : Nat) (hi : i < l.length) : S.Knows ⟨b, 0 + i * n, none⟩ (f l[i]) := h.at1 i hi
theorem ar_kn {M : Mem} {a p b c : Nat} {x : Pl} {k : Int} (h : a ≠ b) (hl : x.fr.length ≤ c) (hm : x.fr.length ≤ 256) {i : Nat} (hi : i < x.fr.length) : (arM M a p b c x k).Knows ⟨b, 0 + i * 7, none⟩ (frF (atF x i)) := by
 rw [atF_eq hi];exact sl_at (ar_sl h hl hm) i hi
set_option maxHeartbeats 2000000 in
theorem pl_busy (a p b c : Nat) (x : Pl) (k : Int) (S : Mem) (hA : S.own a = some (arB p b c x k)) (hF : Sl 7 frF S (.slice (some ⟨b, 0, none⟩) x.fr.length c) x.fr) (h256 : x.fr.length ≤ 256) :
  ACall Tryz.prog 94 #[.pointer (some ⟨a,0,none⟩)] S fun r S'=>(∃ n:Nat,n≤256∧r = .int .i64 n)∧S'=S:=by
 unfold arB at hA
 refine ACall.enter (rs:=[.tmp 2]) 22 [(0,.pointer (some ⟨a,0,none⟩))] Tryz.func94 rfl rfl (Nat.le_of_ble_eq_true rfl) rfl ⟨rfl,trivial⟩ ?_
 refine k_a (k_e rfl (k_a (k_e rfl (AWP.seq ?_))))
 refine k_a (k_m rfl ?_)
 refine rC (Calm.nilCheck rfl) ?_
 refine rC (Calm.fieldAddr ty_field_93_1 rfl) ?_
 refine rC (ld_ ty_plain_26 rfl) ?_
 refine rC (Calm.lenSl Tryz.underlying26 rfl) ?_
 refine k_m rfl (k_n ?_)
 refine k_u [(0,_),(2,_),(3,_),(9,_),(10,_),(11,_)] ?_
 refine AWP.block ?_
 refine AWP.loop (X:=Nat) (fun y=>[(0,.pointer (some ⟨a,0,none⟩)),(3,.int .i64 ((x.fr.take y).countP (fun z=>!decide (z=F0)):Nat)),(9,.slice (some ⟨b,0,none⟩) x.fr.length c),(10,.int .i64 x.fr.length),(11,.int .i64 y)]) (fun _=>S) (fun y=>y≤x.fr.length) (fun y=>x.fr.length-y) (0) ⟨rfl,some_int (by simp),rfl,rfl,rfl,trivial⟩ less_ (Nat.zero_le _) ?_
 rintro i hi
 (try dsimp only at *)
 refine k_a ?_
 refine rC (Calm.bin rfl rfl b_lss) ?_
 refine k_n (AWP.seq ?_)
 refine AWP.condB rfl (fun hc=>?_) (fun hc=>?_)
 ·have hc:i<x.fr.length:=by have:=of_decide_eq_true hc;omega
  have hki:=sl_at hF i hc
  have t1:=count_take (q:=fun z=>!decide (z=F0)) hc
  have u1:=count_le (q:=fun z=>!decide (z=F0)) x.fr (i+1)
  generalize x.fr[i]=y at *
  have cf:=fun S=>pl_free y S
  unfold frV at cf
  unfold frF at hki
  by_cases q:y=F0
  ·simp only [q,decide_true,Bool.not_true,Bool.false_eq_true,if_false,Nat.add_zero] at t1
   rw [decide_eq_true q] at cf
   refine k_k (AWP.seq ?_)
   refine AWP.block ?_
   refine k_a ?_
   refine rC (Calm.indexS Tryz.underlying26 ty_size_62 rfl rfl (by omega) (by omega)) ?_
   refine k_7 ty_agg_62 ty_size_62 rfl ?_
   refine ARun.alloc (lit_lt rfl) ty_zero_62 ?_
   intro b5 f5
   have g5:=f5
   repeat ((with_reducible replace g5:=fresh_set g5);obtain ⟨g5,_⟩:=g5)
   have:=g5.ne hA;have:=g5.ne' hA
   try simp only [k_l1,k_l0,k_za,Nat.reduceAdd]
   first|refine k_A rfl rfl ty_size_62 ?_|refine k_B rfl rfl ty_size_62 ?_
   try simp only [k_ms,k_sz,k_ss,k_za,Nat.reduceAdd]
   refine k_n ?_
   refine k_u [(0,_),(3,_),(9,_),(10,_),(11,_),(12,_),(5,_)] ?_
   refine k_a ?_
   refine k_7 ty_agg_62 ty_size_62 rfl ?_
   refine ARun.call (lit_lt rfl) go_79 rfl (cf _) ?_
   rintro _ S1 ⟨rfl,h1⟩
   rw [h1];clear h1 S1
   refine rC (Calm.un rfl (una_not _)) ?_
   refine k_n ?_
   refine k_u [(0,_),(3,_),(9,_),(10,_),(11,_),(12,_),(5,_),(17,_)] ?_
   refine k_F rfl ?_
   refine AWP.skip ?_
   refine ain_n ?_
   refine athen_n ?_
   refine AWP.region ?_
   refine rC (Calm.bin rfl rfl b_add_i64) ?_
   refine k_m rfl (k_n ?_)
   refine ⟨i+1,?_,?_,?_,?_⟩
   all_goals (try dsimp only)
   ·exact ⟨rfl,some_int (by omega),rfl,rfl,rfl,trivial⟩
   ·exact less_
   ·exact hc
   ·omega
  ·simp only [q,decide_false,Bool.not_false,if_true] at t1
   rw [decide_eq_false q] at cf
   refine k_k (AWP.seq ?_)
   refine AWP.block ?_
   refine k_a ?_
   refine rC (Calm.indexS Tryz.underlying26 ty_size_62 rfl rfl (by omega) (by omega)) ?_
   refine k_7 ty_agg_62 ty_size_62 rfl ?_
   refine ARun.alloc (lit_lt rfl) ty_zero_62 ?_
   intro b5 f5
   have g5:=f5
   repeat ((with_reducible replace g5:=fresh_set g5);obtain ⟨g5,_⟩:=g5)
   have:=g5.ne hA;have:=g5.ne' hA
   try simp only [k_l1,k_l0,k_za,Nat.reduceAdd]
   first|refine k_A rfl rfl ty_size_62 ?_|refine k_B rfl rfl ty_size_62 ?_
   try simp only [k_ms,k_sz,k_ss,k_za,Nat.reduceAdd]
   refine k_n ?_
   refine k_u [(0,_),(3,_),(9,_),(10,_),(11,_),(12,_),(5,_)] ?_
   refine k_a ?_
   refine k_7 ty_agg_62 ty_size_62 rfl ?_
   refine ARun.call (lit_lt rfl) go_79 rfl (cf _) ?_
   rintro _ S1 ⟨rfl,h1⟩
   rw [h1];clear h1 S1
   refine rC (Calm.un rfl (una_not _)) ?_
   refine k_n ?_
   refine k_u [(0,_),(3,_),(9,_),(10,_),(11,_),(12,_),(5,_),(17,_)] ?_
   refine k_T rfl ?_
   refine AWP.region ?_
   refine k_m rfl ?_
   refine rC (Calm.bin rfl rfl b_add_i64) ?_
   refine k_s rfl ?_
   refine arun_nil ?_
   refine ain_n ?_
   refine athen_n ?_
   refine k_u [(0,_),(3,_),(9,_),(10,_),(11,_),(12,_),(5,_),(17,_)] ?_
   refine AWP.region ?_
   refine rC (Calm.bin rfl rfl b_add_i64) ?_
   refine k_m rfl (k_n ?_)
   refine ⟨i+1,?_,?_,?_,?_⟩
   all_goals (try dsimp only)
   ·exact ⟨rfl,some_int (by omega),rfl,rfl,rfl,trivial⟩
   ·exact less_
   ·exact hc
   ·omega
 ·have hcn:x.fr.countP (fun z=>!decide (z=F0))≤x.fr.length:=List.countP_le_length
  have hc:i=x.fr.length:=by have:=of_decide_eq_false hc;omega
  subst hc
  rw [List.take_length]
  refine AWP.exit ?_
  refine athen_exit ?_
  refine athen_exit ?_
  refine ain_same ?_
  refine athen_n ?_
  refine k_a (k_m rfl (k_e rfl ?_))
  refine k_u [(0,_),(3,_),(9,_),(10,_),(11,_),(12,_),(2,_)] ?_
  refine AWP.ret ?_
  refine ⟨_,S,⟨_,_,rfl,rfl,rfl⟩,less_,?_⟩
  exact ⟨⟨_,by omega,rfl⟩,rfl⟩
set_option maxHeartbeats 2000000 in
theorem pl_idles (a p b c : Nat) (x : Pl) (k : Int) (S : Mem) (hA : S.own a = some (arB p b c x k)) (hF : Sl 7 frF S (.slice (some ⟨b, 0, none⟩) x.fr.length c) x.fr) (h256 : x.fr.length ≤ 256) :
  ACall Tryz.prog 83 #[.pointer (some ⟨a,0,none⟩)] S fun r S'=>r = .int .i64 (idlesP x:Nat)∧S'=S:=by
 unfold arB at hA
 unfold idlesP
 refine ACall.enter (rs:=[.tmp 2]) 21 [(0,.pointer (some ⟨a,0,none⟩))] Tryz.func83 rfl rfl (Nat.le_of_ble_eq_true rfl) rfl ⟨rfl,trivial⟩ ?_
 refine k_a (k_e rfl (k_a (k_e rfl (AWP.seq ?_))))
 refine k_a (k_m rfl ?_)
 refine rC (Calm.nilCheck rfl) ?_
 refine rC (Calm.fieldAddr ty_field_93_1 rfl) ?_
 refine rC (ld_ ty_plain_26 rfl) ?_
 refine rC (Calm.lenSl Tryz.underlying26 rfl) ?_
 refine k_m rfl (k_n ?_)
 refine k_u [(0,_),(2,_),(3,_),(9,_),(10,_),(11,_)] ?_
 refine AWP.block ?_
 refine AWP.loop (X:=Nat) (fun y=>[(0,.pointer (some ⟨a,0,none⟩)),(3,.int .i64 ((x.fr.take y).countP (fun z=>decide z.idle):Nat)),(9,.slice (some ⟨b,0,none⟩) x.fr.length c),(10,.int .i64 x.fr.length),(11,.int .i64 y)]) (fun _=>S) (fun y=>y≤x.fr.length) (fun y=>x.fr.length-y) (0) ⟨rfl,some_int (by simp),rfl,rfl,rfl,trivial⟩ less_ (Nat.zero_le _) ?_
 rintro i hi
 (try dsimp only at *)
 refine k_a ?_
 refine rC (Calm.bin rfl rfl b_lss) ?_
 refine k_n (AWP.seq ?_)
 refine AWP.condB rfl (fun hc=>?_) (fun hc=>?_)
 ·have hc:i<x.fr.length:=by have:=of_decide_eq_true hc;omega
  have hki:=sl_at hF i hc
  have t1:=count_take (q:=fun z=>decide z.idle) hc
  have u1:=count_le (q:=fun z=>decide z.idle) x.fr (i+1)
  generalize x.fr[i]=y at *
  have cf:=fun S=>pl_idle y S
  unfold frV at cf
  unfold frF at hki
  by_cases q:y.idle
  ·simp only [q,decide_true,if_true] at t1
   rw [decide_eq_true q] at cf
   refine k_k (AWP.seq ?_)
   refine AWP.block ?_
   refine k_a ?_
   refine rC (Calm.indexS Tryz.underlying26 ty_size_62 rfl rfl (by omega) (by omega)) ?_
   refine k_7 ty_agg_62 ty_size_62 rfl ?_
   refine ARun.alloc (lit_lt rfl) ty_zero_62 ?_
   intro b5 f5
   have g5:=f5
   repeat ((with_reducible replace g5:=fresh_set g5);obtain ⟨g5,_⟩:=g5)
   have:=g5.ne hA;have:=g5.ne' hA
   try simp only [k_l1,k_l0,k_za,Nat.reduceAdd]
   first|refine k_A rfl rfl ty_size_62 ?_|refine k_B rfl rfl ty_size_62 ?_
   try simp only [k_ms,k_sz,k_ss,k_za,Nat.reduceAdd]
   refine k_n ?_
   refine k_u [(0,_),(3,_),(9,_),(10,_),(11,_),(12,_),(5,_)] ?_
   refine k_a ?_
   refine k_7 ty_agg_62 ty_size_62 rfl ?_
   refine ARun.call (lit_lt rfl) go_95 rfl (cf _) ?_
   rintro _ S1 ⟨rfl,h1⟩
   rw [h1];clear h1 S1
   refine k_n ?_
   refine k_u [(0,_),(3,_),(9,_),(10,_),(11,_),(12,_),(5,_),(16,_)] ?_
   refine k_T rfl ?_
   refine AWP.region ?_
   refine k_m rfl ?_
   refine rC (Calm.bin rfl rfl b_add_i64) ?_
   refine k_s rfl ?_
   refine arun_nil ?_
   refine ain_n ?_
   refine athen_n ?_
   refine k_u [(0,_),(3,_),(9,_),(10,_),(11,_),(12,_),(5,_),(16,_)] ?_
   refine AWP.region ?_
   refine rC (Calm.bin rfl rfl b_add_i64) ?_
   refine k_m rfl (k_n ?_)
   refine ⟨i+1,?_,?_,?_,?_⟩
   all_goals (try dsimp only)
   ·exact ⟨rfl,some_int (by omega),rfl,rfl,rfl,trivial⟩
   ·exact less_
   ·exact hc
   ·omega
  ·simp only [q,decide_false,Bool.false_eq_true,if_false,Nat.add_zero] at t1
   rw [decide_eq_false q] at cf
   refine k_k (AWP.seq ?_)
   refine AWP.block ?_
   refine k_a ?_
   refine rC (Calm.indexS Tryz.underlying26 ty_size_62 rfl rfl (by omega) (by omega)) ?_
   refine k_7 ty_agg_62 ty_size_62 rfl ?_
   refine ARun.alloc (lit_lt rfl) ty_zero_62 ?_
   intro b5 f5
   have g5:=f5
   repeat ((with_reducible replace g5:=fresh_set g5);obtain ⟨g5,_⟩:=g5)
   have:=g5.ne hA;have:=g5.ne' hA
   try simp only [k_l1,k_l0,k_za,Nat.reduceAdd]
   first|refine k_A rfl rfl ty_size_62 ?_|refine k_B rfl rfl ty_size_62 ?_
   try simp only [k_ms,k_sz,k_ss,k_za,Nat.reduceAdd]
   refine k_n ?_
   refine k_u [(0,_),(3,_),(9,_),(10,_),(11,_),(12,_),(5,_)] ?_
   refine k_a ?_
   refine k_7 ty_agg_62 ty_size_62 rfl ?_
   refine ARun.call (lit_lt rfl) go_95 rfl (cf _) ?_
   rintro _ S1 ⟨rfl,h1⟩
   rw [h1];clear h1 S1
   refine k_n ?_
   refine k_u [(0,_),(3,_),(9,_),(10,_),(11,_),(12,_),(5,_),(16,_)] ?_
   refine k_F rfl ?_
   refine AWP.skip ?_
   refine ain_n ?_
   refine athen_n ?_
   refine AWP.region ?_
   refine rC (Calm.bin rfl rfl b_add_i64) ?_
   refine k_m rfl (k_n ?_)
   refine ⟨i+1,?_,?_,?_,?_⟩
   all_goals (try dsimp only)
   ·exact ⟨rfl,some_int (by omega),rfl,rfl,rfl,trivial⟩
   ·exact less_
   ·exact hc
   ·omega
 ·have hc:i=x.fr.length:=by have:=of_decide_eq_false hc;omega
  subst hc
  rw [List.take_length]
  refine AWP.exit ?_
  refine athen_exit ?_
  refine athen_exit ?_
  refine ain_same ?_
  refine athen_n ?_
  refine k_a (k_m rfl (k_e rfl ?_))
  refine k_u [(0,_),(3,_),(9,_),(10,_),(11,_),(12,_),(2,_)] ?_
  refine AWP.ret ?_
  refine ⟨_,S,⟨_,_,rfl,rfl,rfl⟩,less_,?_⟩
  exact ⟨rfl,rfl⟩
theorem ar_eq {M : Mem} {a p b c : Nat} {x x' : Pl} {k : Int} (h1 : x.fr = x'.fr) (h2 : x.tick = x'.tick) (h3 : x.reads = x'.reads) (h4 : x.writes = x'.writes) : arM M a p b c x k = arM M a p b c x' k := by
 unfold arM arB;rw [h1,h2,h3,h4]
/-- Parts of a frame. -/
theorem kn_fr {S : Mem} {b o : Nat} {y : Fr} (h : S.Knows ⟨b, o, none⟩ (frF y)) : S.Knows ⟨b, o + 0, none⟩ [.string y.name] ∧ S.Knows ⟨b, o + 1, none⟩ [.int .i64 y.sector] ∧ S.Knows ⟨b, o + 2, none⟩ [.string y.data] ∧ S.Knows ⟨b, o + 3, none⟩ [.int .i64 y.pins] ∧ S.Knows ⟨b, o + 4, none⟩ [.bool y.dirty] ∧ S.Knows ⟨b, o + 5, none⟩ [.int .u64 y.tick] ∧ S.Knows ⟨b, o + 6, none⟩ [.bool y.leased] :=
 ⟨kn_at h 0 rfl,kn_at h 1 rfl,kn_at h 2 rfl,kn_at h 3 rfl,kn_at h 4 rfl,kn_at h 5 rfl,kn_at h 6 rfl⟩
theorem kn_zero {S : Mem} {b o : Nat} {cs : List Value} (h : S.Knows ⟨b, 0 + o, none⟩ cs) : S.Knows ⟨b, o, none⟩ cs := by rw [Nat.zero_add] at h; exact h
/-- What an operation of a pool at work gives. -/
def ArR (S : Mem) (a p b c : Nat) (q : Pl × Int) (r : Value) (S' : Mem) : Prop := r = .int .i64 q.2 ∧ ArS S a p b c q.1 S'
set_option maxHeartbeats 2000000 in
theorem pl_write (a p b c : Nat) (x : Pl) (i : Nat) (k : Int) (S : Mem) (oE oW : Option (Nat × Nat)) (hok : OkA S a p b c x oE oW) (hw : PW x) (hi : i < x.fr.length) :
  ACall Tryz.prog 84 #[.pointer (some ⟨a,0,none⟩),.int .i64 (i:Nat)] (arM (devM S p x.d oE oW) a p b c x k) (ArR S a p b c (wrP x i)):=by
 have hi2:=Nat.le_trans (Nat.le_of_lt hi) hw.l2
 have hA:=ar_own (M:=devM S p x.d oE oW) (a:=a) (p:=p) (b:=b) (c:=c) (x:=x) (k:=k)
 have hok1:OkA S a p b c { x with writes:=up1 x.writes } oE oW:=hok.like rfl rfl
 have hcall:=ar_call hok1 k (dev_Write p x.d (atF x i).name (atF x i).sector (atF x i).data S oE oW hok1.v hw.dr hw.fu)
 have hsA:=ar_setA (M:=devM S p x.d oE oW) (a:=a) (p:=p) (b:=b) (c:=c) (x:=x) (x':={ x with writes:=up1 x.writes }) (k:=k) (k':=k) rfl
 have hA1:=ar_own (M:=devM S p x.d oE oW) (a:=a) (p:=p) (b:=b) (c:=c) (x:={ x with writes:=up1 x.writes }) (k:=k)
 have hK:=ar_kn (M:=devM S p x.d oE oW) (p:=p) (x:={ x with writes:=up1 x.writes }) (k:=k) hok1.ab hok1.l hw.l2 hi
 obtain ⟨k0,k1,k2,k3,k4,k5,k6⟩:=kn_fr (kn_zero hK)
 have hat:atF { x with writes:=up1 x.writes } i=atF x i:=rfl
 rw [hat] at k0 k1 k2 k3 k4 k5 k6
 unfold wrP
 generalize hy:atF x i=y at *
 generalize hq:writeD x.d y.name y.sector y.data=q at *
 generalize hT:arM (devM S p x.d oE oW) a p b c x k=T at *
 generalize hT1:arM (devM S p x.d oE oW) a p b c { x with writes:=up1 x.writes } k=T1 at *
 unfold arB at hA hA1
 refine ACall.enter (rs:=[.tmp 4]) 43 [(0,.pointer (some ⟨a,0,none⟩)),(1,.int .i64 (i:Nat))] Tryz.func84 rfl rfl (Nat.le_of_ble_eq_true rfl) rfl ⟨rfl,rfl,trivial⟩ ?_
 refine k_a (k_e rfl (k_a (k_m rfl ?_)))
 refine rC (Calm.nilCheck rfl) ?_
 refine rC (Calm.fieldAddr ty_field_93_1 rfl) ?_
 refine rC (ld_ ty_plain_26 rfl) ?_
 refine k_m rfl ?_
 refine rC (Calm.indexS Tryz.underlying26 ty_size_62 rfl rfl (by omega) (by omega)) ?_
 refine k_e rfl ?_
 refine k_u [(0,_),(1,_),(4,_),(5,_)] ?_
 refine k_a (k_m rfl ?_)
 refine rC (Calm.nilCheck rfl) ?_
 refine rC (Calm.fieldAddr ty_field_93_4 rfl) ?_
 refine rC (ld_ ty_plain_27 rfl) ?_
 refine rC (Calm.bin rfl rfl b_add_u64) ?_
 refine rC (Calm.nilCheck rfl) ?_
 refine rC (Calm.fieldAddr ty_field_93_4 rfl) ?_
 refine ARun.store1 rfl rfl ty_size_27 rfl hA (show 4<6 from by decide) rfl ?_
 try simp only [k_ms,k_sz,k_ss,k_za,Nat.reduceAdd]
 refine k_n ?_
 refine k_u [(0,_),(1,_),(4,_),(5,_)] ?_
 refine AWP.less T1 (by rw [← hsA];exact Mem.Less.refl _) ?_
 refine AWP.seq ?_
 refine AWP.draw [(0,true),(1,true),(2,true),(3,true),(4,true),(5,true),(6,true),(7,true),(8,true),(9,true),(10,true),(11,true),(12,true),(13,true),(14,true),(15,true),(16,false),(17,true)] [16] mixed (by kernel_rfl) ?_
 refine dP (hc:=fun _=>Calm.move rfl) (h:=?_)
 refine dP (hc:=fun _=>Calm.nilCheck rfl) (h:=?_)
 refine dP (hc:=fun _=>Calm.fieldAddr ty_field_93_0 rfl) (h:=?_)
 refine dC (hc:=ld_ ty_plain_77 rfl) (h:=?_)
 refine dP (hc:=fun _=>Calm.move rfl) (h:=?_)
 refine dP (hc:=fun _=>Calm.nilCheck rfl) (h:=?_)
 refine dP (hc:=fun _=>Calm.fieldAddr ty_field_62_0 rfl) (h:=?_)
 refine dC (hc:=ld_ ty_plain_9 rfl) (h:=?_)
 refine dP (hc:=fun _=>Calm.move rfl) (h:=?_)
 refine dP (hc:=fun _=>Calm.nilCheck rfl) (h:=?_)
 refine dP (hc:=fun _=>Calm.fieldAddr ty_field_62_1 rfl) (h:=?_)
 refine dC (hc:=ld_ ty_plain_3 rfl) (h:=?_)
 refine dP (hc:=fun _=>Calm.move rfl) (h:=?_)
 refine dP (hc:=fun _=>Calm.nilCheck rfl) (h:=?_)
 refine dP (hc:=fun _=>Calm.fieldAddr ty_field_62_2 rfl) (h:=?_)
 refine dC (hc:=ld_ ty_plain_9 rfl) (h:=?_)
 refine draw_only rfl ?_
 refine ARun.call (lit_lt rfl) go_103 rfl (hcall) ?_
 rintro _ S1 ⟨M,⟨oE',oW',hok',rfl,hM⟩,fb,fa,h1⟩
 rw [h1];clear h1 S1;rw [hM] at fb fa ⊢
 refine arun_nil ⟨fun h=>absurd h (by decide),?_⟩
 refine dP (hc:=fun _=>Calm.assign rfl) (h:=?_)
 refine draw_nil ?_
 refine athen_n ?_
 refine k_u [(0,_),(1,_),(4,_),(5,_),(6,_)] ?_
 by_cases e0:q.2=0
 ·refine AWP.seq (k_a (k_m rfl ?_))
  refine rC (Calm.bin rfl rfl b_eql) ?_
  refine k_n ?_
  refine k_u [(0,_),(1,_),(4,_),(5,_),(6,_),(38,_)] ?_
  refine k_T rfl ?_
  refine AWP.region ?_
  refine k_m rfl ?_
  refine rC (Calm.nilCheck rfl) ?_
  refine rC (Calm.fieldAddr ty_field_62_4 rfl) ?_
  refine ARun.storeFr1 (c:=c) (i:=i) (l:=x.fr) (q:=4) (u:={ y with dirty:=false }) rfl rfl rfl rfl (by omega) (by decide) hi (by rw [← hy,atF_eq hi];rfl) ty_size_4 (ar_fr hok.ab) ?_
  try simp only [k_ms,k_sz,k_ss,k_za,Nat.reduceAdd]
  refine k_n ?_
  refine k_u [(0,_),(1,_),(4,_),(5,_),(6,_),(38,_)] ?_
  rw [show ∀ u,(arM (devM S p q.1 oE' oW') a p b c { x with writes:=up1 x.writes } k).set b (frB (x.fr.set i u) c)=arM (devM S p q.1 oE' oW') a p b c { x with writes:=up1 x.writes,fr:=x.fr.set i u } k from fun u=>ar_setF hok.ab _ (by simp)]
  refine k_a (k_m rfl (k_e rfl ?_))
  refine k_u [(0,_),(1,_),(4,_),(5,_),(6,_),(38,_)] ?_
  refine AWP.ret ?_
  refine ⟨_,arM (devM S p q.1 oE' oW') a p b c { x with writes:=up1 x.writes,fr:=x.fr.set i { y with dirty:=false } } k,⟨_,_,rfl,rfl,rfl⟩,Mem.Less.refl _,?_⟩
  exact ⟨rfl,k,oE',oW',⟨hok',fb,fa,hok.ab,by simp only [if_pos e0,List.length_set];exact hok.l⟩,by simp only [if_pos e0];exact ar_eq rfl rfl rfl rfl⟩
 ·refine AWP.seq (k_a (k_m rfl ?_))
  refine rC (Calm.bin rfl rfl b_eql) ?_
  refine k_n ?_
  refine k_u [(0,_),(1,_),(4,_),(5,_),(6,_),(38,_)] ?_
  refine k_F rfl ?_
  refine k_k (k_a (k_m rfl (k_e rfl ?_)))
  refine k_u [(0,_),(1,_),(4,_),(5,_),(6,_),(38,_)] ?_
  refine AWP.ret ?_
  refine ⟨_,arM (devM S p q.1 oE' oW') a p b c { x with writes:=up1 x.writes } k,⟨_,_,rfl,rfl,rfl⟩,Mem.Less.refl _,?_⟩
  exact ⟨rfl,k,oE',oW',⟨hok',fb,fa,hok.ab,by simp only [if_neg e0];exact hok.l⟩,by simp only [if_neg e0];exact ar_eq rfl rfl rfl rfl⟩
end Go.Proofs.YtkeiphkccnfhoaaGreat
namespace Go.Proofs.YtkeiphkccnfhoaaGreat
open Go.RowKit
open Mv Disk
set_option maxRecDepth 4000
theorem wrP_len (x : Pl) (i : Nat) : (wrP x i).1.fr.length = x.fr.length := by
 unfold wrP;simp only;split <;> simp
theorem getD_at {l : List Fr} {i : Nat} (h : i < l.length) : l.getD i F0 = l[i] := by simp [List.getD, List.getElem?_eq_getElem h]
theorem findF0_at {l : List Fr} {i : Nat} (h : i < l.length) (he : l[i] = F0) (hn : ∀ j (hj : j < l.length), j < i → l[j] ≠ F0) : l.findIdx (fun x => decide (x = F0)) = i :=
 (List.findIdx_eq h).2 ⟨by simp [he],fun j hj=>by simp [hn j (by omega) hj]⟩
theorem findF0_no {l : List Fr} (hn : ∀ j (hj : j < l.length), l[j] ≠ F0) : ¬ l.findIdx (fun x => decide (x = F0)) < l.length := fun h => by
 have:=List.findIdx_getElem (w:=h)
 simp only [decide_eq_true_eq] at this
 exact hn _ h this
set_option maxHeartbeats 4000000 in
theorem pl_take (a p b c : Nat) (x : Pl) (k : Int) (S : Mem) (oE oW : Option (Nat × Nat)) (hok : OkA S a p b c x oE oW) (hw : PW x) :
  ACall Tryz.prog 69 #[.pointer (some ⟨a,0,none⟩)] (arM (devM S p x.d oE oW) a p b c x k) fun r S'=>r = .tuple #[.int .i64 ((takeP x).2.1:Nat),.int .i64 (takeP x).2.2]∧ArS S a p b c (takeP x).1 S':=by
 have h256:=hw.l2
 have hA:=ar_own (M:=devM S p x.d oE oW) (a:=a) (p:=p) (b:=b) (c:=c) (x:=x) (k:=k)
 have hB:=ar_fr (M:=devM S p x.d oE oW) (p:=p) (c:=c) (x:=x) (k:=k) hok.ab
 have hF:=ar_sl (M:=devM S p x.d oE oW) (p:=p) (x:=x) (k:=k) hok.ab hok.l hw.l2
 have hsA:=fun k'=>ar_setA (M:=devM S p x.d oE oW) (a:=a) (p:=p) (b:=b) (c:=c) (x:=x) (x':=x) (k:=k) (k':=k') rfl
 have hsF:=fun fr' h=>ar_setF (M:=devM S p x.d oE oW) (p:=p) (c:=c) (x:=x) (k:=k) hok.ab fr' h
 have hwr:=fun m hm=>pl_write a p b c x m k S oE oW hok hw hm
 generalize hT:arM (devM S p x.d oE oW) a p b c x k=T at *
 have hbusy:=fun S=>pl_busy a p b c x k S
 unfold arB at hA hbusy
 refine ACall.enter (rs:=[.tmp 2,.tmp 3]) 79 [(0,.pointer (some ⟨a,0,none⟩))] Tryz.func69 rfl rfl (Nat.le_of_ble_eq_true rfl) rfl ⟨rfl,trivial⟩ ?_
 refine k_a (k_s rfl (k_e rfl (k_a (k_e rfl ?_))))
 refine AWP.seq (k_a (k_m rfl ?_))
 refine rC (Calm.nilCheck rfl) ?_
 refine rC (Calm.fieldAddr ty_field_93_1 rfl) ?_
 refine rC (ld_ ty_plain_26 rfl) ?_
 refine rC (Calm.lenSl Tryz.underlying26 rfl) ?_
 refine k_m rfl (k_n ?_)
 refine k_u [(0,_),(2,_),(3,_),(4,_),(11,_),(12,_),(13,_)] ?_
 refine AWP.block ?_
 refine AWP.loop (X:=Nat) (fun y=>[(0,.pointer (some ⟨a,0,none⟩)),(4,.int .i64 (bestF x.fr y)),(11,.slice (some ⟨b,0,none⟩) x.fr.length c),(12,.int .i64 x.fr.length),(13,.int .i64 y)]) (fun _=>T) (fun y=>y≤x.fr.length ∧ ∀ j (hj:j<x.fr.length),j<y→x.fr[j]≠F0) (fun y=>x.fr.length-y) (0) ⟨rfl,rfl,rfl,rfl,rfl,trivial⟩ less_ (⟨Nat.zero_le _,fun j _ h=>absurd h (Nat.not_lt_zero _)⟩) ?_
 rintro i ⟨hi,hno⟩
 (try dsimp only at *)
 obtain ⟨hb0,hb1⟩:=bestF_le x.fr i
 refine k_a ?_
 refine rC (Calm.bin rfl rfl b_lss) ?_
 refine k_n (AWP.seq ?_)
 refine AWP.condB rfl (fun hc=>?_) (fun hc=>?_)
 ·have hc:i<x.fr.length:=by have:=of_decide_eq_true hc;omega
  have hki:=sl_at hF i hc
  have hge:=getD_at hc
  by_cases q:x.fr[i]=F0
  ·have htk:takeP x=(x,i,0):=by unfold takeP;rw [findF0_at hc q hno,if_pos hc]
   rw [htk]
   have cf:=fun S=>pl_free x.fr[i] S
   rw [decide_eq_true q] at cf
   generalize x.fr[i]=y at *
   unfold frV at cf
   unfold frF at hki
   refine k_k (AWP.seq ?_)
   refine AWP.block ?_
   refine k_a (k_m rfl ?_)
   refine rC (Calm.indexS Tryz.underlying26 ty_size_62 rfl rfl (by omega) (by omega)) ?_
   refine k_7 ty_agg_62 ty_size_62 rfl ?_
   refine ARun.alloc (lit_lt rfl) ty_zero_62 ?_
   intro b6 f6
   have g6:=f6
   repeat ((with_reducible replace g6:=fresh_set g6);obtain ⟨g6,_⟩:=g6)
   have:=g6.ne hA;have:=g6.ne' hA
   try simp only [k_l1,k_l0,k_za,Nat.reduceAdd]
   refine k_s rfl ?_
   first|refine k_A rfl rfl ty_size_62 ?_|refine k_B rfl rfl ty_size_62 ?_
   try simp only [k_ms,k_sz,k_ss,k_za,Nat.reduceAdd]
   refine k_n ?_
   refine k_u [(0,_),(4,_),(11,_),(12,_),(13,_),(14,_),(6,_),(5,_)] ?_
   refine AWP.block ?_
   refine k_a ?_
   refine k_7 ty_agg_62 ty_size_62 rfl ?_
   refine ARun.call (lit_lt rfl) go_79 rfl (cf _) ?_
   rintro _ S1 ⟨rfl,h1⟩
   rw [h1];clear h1 S1
   refine k_e rfl ?_
   refine k_u [(0,_),(4,_),(11,_),(12,_),(13,_),(14,_),(6,_),(5,_),(18,_)] ?_
   refine k_T rfl ?_
   refine AWP.seq ?_
   refine AWP.draw [(0,true),(1,true),(2,true),(3,true),(4,true),(5,true),(6,false),(7,true),(8,true),(9,true),(10,true),(11,false)] [11] mixed (by kernel_rfl) ?_
   refine dP (hc:=fun _=>Calm.move rfl) (h:=?_)
   refine dP (hc:=fun _=>Calm.move rfl) (h:=?_)
   refine dP (hc:=fun _=>Calm.nilCheck rfl) (h:=?_)
   refine dP (hc:=fun _=>Calm.fieldAddr ty_field_93_5 rfl) (h:=?_)
   refine dC (hc:=ld_ ty_plain_3 rfl) (h:=?_)
   refine dP (hc:=fun _=>Calm.move rfl) (h:=?_)
   refine draw_only rfl ?_
   refine ARun.call (lit_lt rfl) go_94 rfl (hbusy _ own_ (hF.less less_) h256) ?_
   rintro _ S1 ⟨⟨n,hn,rfl⟩,h1⟩
   rw [h1];clear h1 S1
   refine arun_nil ⟨fun _=>less_,?_⟩
   refine dP (hc:=fun _=>Calm.bin rfl rfl b_add_i64) (h:=?_)
   refine dC (hc:=Calm.maxE rfl rfl rfl) (h:=?_)
   refine dP (hc:=fun _=>Calm.nilCheck rfl) (h:=?_)
   refine dP (hc:=fun _=>Calm.fieldAddr ty_field_93_5 rfl) (h:=?_)
   refine draw_only rfl ?_
   refine ARun.store1 (r:=⟨_,[_,_,_,_,_,_],6⟩) rfl rfl ty_size_3 rfl own_ (show 0+5<6 from by decide) rfl ?_
   try simp only [k_ms,k_sz,k_ss,k_za,Nat.reduceAdd]
   refine arun_nil ⟨fun h=>absurd h (by decide),?_⟩
   refine draw_nil ?_
   refine athen_n ?_
   refine k_u [(0,_),(4,_),(11,_),(12,_),(13,_),(14,_),(6,_),(5,_),(18,_)] ?_
   refine k_a (k_m rfl (k_s rfl (k_e rfl ?_)))
   refine k_u [(0,_),(4,_),(11,_),(12,_),(13,_),(14,_),(6,_),(5,_),(18,_),(2,_),(3,_)] ?_
   refine AWP.ret ?_
   refine ain_ret ?_
   refine ain_ret ?_
   refine athen_ret ?_
   refine athen_ret ?_
   refine ain_ret ?_
   refine athen_ret ?_
   refine ⟨_,arM (devM S p x.d oE oW) a p b c x (max k ((n:Int)+1)),⟨_,_,rfl,⟨_,_,rfl,rfl,rfl⟩,rfl⟩,(by rw [← hsA];exact Less.set (Mem.less_set _ _ _ g6.1) _ _),?_⟩
   exact ⟨rfl,max k ((n:Int)+1),oE,oW,hok,rfl⟩
  ·have hno':∀ j (hj:j<x.fr.length),j<i+1→x.fr[j]≠F0:=fun j hj h=>by rcases Nat.lt_or_ge j i with h' | h';exact hno j hj h';obtain rfl:j=i:=(by omega);exact q
   by_cases q2:x.fr[i].idle
   ·by_cases q3:bestF x.fr i<0
    ·have hbs:bestF x.fr (i+1)=(i:Nat):=by rw [bestF,if_pos ⟨by rw [hge];exact q2,.inl q3⟩]
     have cf:=fun S=>pl_free x.fr[i] S
     rw [decide_eq_false q] at cf
     have ci:=fun S=>pl_idle x.fr[i] S
     rw [decide_eq_true q2] at ci
     generalize x.fr[i]=y at *
     unfold frV at cf ci
     unfold frF at hki
     refine k_k (AWP.seq ?_)
     refine AWP.block ?_
     refine k_a (k_m rfl ?_)
     refine rC (Calm.indexS Tryz.underlying26 ty_size_62 rfl rfl (by omega) (by omega)) ?_
     refine k_7 ty_agg_62 ty_size_62 rfl ?_
     refine ARun.alloc (lit_lt rfl) ty_zero_62 ?_
     intro b6 f6
     have g6:=f6
     repeat ((with_reducible replace g6:=fresh_set g6);obtain ⟨g6,_⟩:=g6)
     have:=g6.ne hA;have:=g6.ne' hA
     try simp only [k_l1,k_l0,k_za,Nat.reduceAdd]
     refine k_s rfl ?_
     first|refine k_A rfl rfl ty_size_62 ?_|refine k_B rfl rfl ty_size_62 ?_
     try simp only [k_ms,k_sz,k_ss,k_za,Nat.reduceAdd]
     refine k_n ?_
     refine k_u [(0,_),(4,_),(11,_),(12,_),(13,_),(14,_),(6,_),(5,_)] ?_
     refine AWP.block ?_
     refine k_a ?_
     refine k_7 ty_agg_62 ty_size_62 rfl ?_
     refine ARun.call (lit_lt rfl) go_79 rfl (cf _) ?_
     rintro _ S1 ⟨rfl,h1⟩
     rw [h1];clear h1 S1
     refine k_e rfl ?_
     refine k_u [(0,_),(4,_),(11,_),(12,_),(13,_),(14,_),(6,_),(5,_),(18,_)] ?_
     refine k_F rfl ?_
     refine k_a ?_
     refine k_7 ty_agg_62 ty_size_62 rfl ?_
     refine ARun.call (lit_lt rfl) go_95 rfl (ci _) ?_
     rintro _ S1 ⟨rfl,h1⟩
     rw [h1];clear h1 S1
     refine rC (Calm.un rfl (una_not _)) ?_
     refine k_e rfl ?_
     refine k_u [(0,_),(4,_),(11,_),(12,_),(13,_),(14,_),(6,_),(5,_),(18,_),(33,_)] ?_
     refine k_F rfl ?_
     refine AWP.seq ?_
     refine AWP.draw [(0,true),(1,true),(2,true),(3,true),(4,true),(5,true),(6,true),(7,true),(8,true),(9,true),(10,true),(11,true),(12,true),(13,true),(14,true),(15,true)] [] mixed (by kernel_rfl) ?_
     refine dP (hc:=fun _=>Calm.move rfl) (h:=?_)
     refine dP (hc:=fun _=>Calm.bin rfl rfl (bin_bool (bin_lss _ _) (decide_eq_true q3))) (h:=?_)
     refine dP (hc:=fun _=>Calm.move rfl) (h:=?_)
     first|refine k_d ?_|refine dG (hc:=fun _=>Calm.fieldAddr ty_field_62_5 rfl) (h:=?_)
     first|refine k_d ?_|refine dL (hc:=ld_ ty_plain_27 rfl) (h:=?_)
     first|refine k_d ?_|refine dG (hc:=fun _=>Calm.move rfl) (h:=?_)
     first|refine k_d ?_|refine dG (hc:=fun _=>Calm.nilCheck rfl) (h:=?_)
     first|refine k_d ?_|refine dG (hc:=fun _=>Calm.fieldAddr ty_field_93_1 rfl) (h:=?_)
     first|refine k_d ?_|refine dL (hc:=ld_ ty_plain_26 rfl) (h:=?_)
     first|refine k_d ?_|refine dG (hc:=fun _=>Calm.move rfl) (h:=?_)
     first|refine k_d ?_|refine dG (hc:=fun _=>Calm.indexS Tryz.underlying26 ty_size_62 rfl rfl (by omega) (by omega)) (h:=?_)
     first|refine k_d ?_|refine dG (hc:=fun _=>Calm.fieldAddr ty_field_62_5 rfl) (h:=?_)
     first|refine k_d ?_|refine dL (hc:=ld_ ty_plain_27 rfl) (h:=?_)
     first|refine k_d ?_|refine dG (hc:=fun _=>Calm.bin rfl rfl b_lss) (h:=?_)
     refine dP (hc:=fun _=>(by first | exact Calm.pickT rfl rfl | exact Calm.pickF rfl rfl)) (h:=?_)
     refine dP (hc:=fun _=>Calm.assign rfl) (h:=?_)
     refine draw_nil ?_
     refine athen_n ?_
     refine k_u [(0,_),(4,_),(11,_),(12,_),(13,_),(14,_),(6,_),(5,_),(18,_),(33,_),(37,_)] ?_
     refine k_T rfl ?_
     refine AWP.region ?_
     refine k_m rfl (k_s rfl ?_)
     refine arun_nil ?_
     refine ain_n ?_
     refine ain_n ?_
     refine athen_n ?_
     refine k_u [(0,_),(4,_),(11,_),(12,_),(13,_),(14,_),(6,_),(5,_),(18,_),(33,_),(37,_)] ?_
     refine AWP.region ?_
     refine rC (Calm.bin rfl rfl b_add_i64) ?_
     refine k_m rfl (k_n ?_)
     refine ⟨i+1,?_,?_,?_,?_⟩
     all_goals (try dsimp only)
     ·exact ⟨rfl,some_int hbs.symm,rfl,rfl,rfl,trivial⟩
     ·exact less_
     ·exact ⟨hc,hno'⟩
     ·omega
    ·obtain ⟨m,hm⟩ : ∃ m:Nat,bestF x.fr i=(m:Int):=⟨_,(Int.toNat_of_nonneg (by omega)).symm⟩
     have hml:m<x.fr.length:=by omega
     obtain ⟨_,_,_,_,_,kb,_⟩:=kn_fr (sl_at hF m hml)
     have hbs:bestF x.fr (i+1)=if x.fr[i].tick<x.fr[m].tick then (i:Int) else (m:Int):=by rw [bestF,hm,hge,Int.toNat_natCast,getD_at hml];by_cases z:x.fr[i].tick<x.fr[m].tick;rw [if_pos z,if_pos ⟨q2,.inr z⟩];rw [if_neg z,if_neg (fun h=>h.2.elim (by omega) z)]
     rw [hm]
     have cf:=fun S=>pl_free x.fr[i] S
     rw [decide_eq_false q] at cf
     have ci:=fun S=>pl_idle x.fr[i] S
     rw [decide_eq_true q2] at ci
     generalize x.fr[m]=z at *
     generalize x.fr[i]=y at *
     unfold frV at cf ci
     unfold frF at hki
     refine k_k (AWP.seq ?_)
     refine AWP.block ?_
     refine k_a (k_m rfl ?_)
     refine rC (Calm.indexS Tryz.underlying26 ty_size_62 rfl rfl (by omega) (by omega)) ?_
     refine k_7 ty_agg_62 ty_size_62 rfl ?_
     refine ARun.alloc (lit_lt rfl) ty_zero_62 ?_
     intro b6 f6
     have g6:=f6
     repeat ((with_reducible replace g6:=fresh_set g6);obtain ⟨g6,_⟩:=g6)
     have:=g6.ne hA;have:=g6.ne' hA
     try simp only [k_l1,k_l0,k_za,Nat.reduceAdd]
     refine k_s rfl ?_
     first|refine k_A rfl rfl ty_size_62 ?_|refine k_B rfl rfl ty_size_62 ?_
     try simp only [k_ms,k_sz,k_ss,k_za,Nat.reduceAdd]
     refine k_n ?_
     refine k_u [(0,_),(4,_),(11,_),(12,_),(13,_),(14,_),(6,_),(5,_)] ?_
     refine AWP.block ?_
     refine k_a ?_
     refine k_7 ty_agg_62 ty_size_62 rfl ?_
     refine ARun.call (lit_lt rfl) go_79 rfl (cf _) ?_
     rintro _ S1 ⟨rfl,h1⟩
     rw [h1];clear h1 S1
     refine k_e rfl ?_
     refine k_u [(0,_),(4,_),(11,_),(12,_),(13,_),(14,_),(6,_),(5,_),(18,_)] ?_
     refine k_F rfl ?_
     refine k_a ?_
     refine k_7 ty_agg_62 ty_size_62 rfl ?_
     refine ARun.call (lit_lt rfl) go_95 rfl (ci _) ?_
     rintro _ S1 ⟨rfl,h1⟩
     rw [h1];clear h1 S1
     refine rC (Calm.un rfl (una_not _)) ?_
     refine k_e rfl ?_
     refine k_u [(0,_),(4,_),(11,_),(12,_),(13,_),(14,_),(6,_),(5,_),(18,_),(33,_)] ?_
     refine k_F rfl ?_
     refine AWP.seq ?_
     refine AWP.draw [(0,true),(1,true),(2,true),(3,true),(4,true),(5,true),(6,true),(7,true),(8,true),(9,true),(10,true),(11,true),(12,true),(13,true),(14,true),(15,true)] [] mixed (by kernel_rfl) ?_
     refine dP (hc:=fun _=>Calm.move rfl) (h:=?_)
     refine dP (hc:=fun _=>Calm.bin rfl rfl (bin_bool (bin_lss _ _) (decide_eq_false (by omega)))) (h:=?_)
     refine dP (hc:=fun _=>Calm.move rfl) (h:=?_)
     first|refine k_d ?_|refine dG (hc:=fun _=>Calm.fieldAddr ty_field_62_5 rfl) (h:=?_)
     first|refine k_d ?_|refine dL (hc:=ld_ ty_plain_27 rfl) (h:=?_)
     first|refine k_d ?_|refine dG (hc:=fun _=>Calm.move rfl) (h:=?_)
     first|refine k_d ?_|refine dG (hc:=fun _=>Calm.nilCheck rfl) (h:=?_)
     first|refine k_d ?_|refine dG (hc:=fun _=>Calm.fieldAddr ty_field_93_1 rfl) (h:=?_)
     first|refine k_d ?_|refine dL (hc:=ld_ ty_plain_26 rfl) (h:=?_)
     first|refine k_d ?_|refine dG (hc:=fun _=>Calm.move rfl) (h:=?_)
     first|refine k_d ?_|refine dG (hc:=fun _=>Calm.indexS Tryz.underlying26 ty_size_62 rfl rfl (by omega) (by omega)) (h:=?_)
     first|refine k_d ?_|refine dG (hc:=fun _=>Calm.fieldAddr ty_field_62_5 rfl) (h:=?_)
     first|refine k_d ?_|refine dL (hc:=ld_ ty_plain_27 rfl) (h:=?_)
     first|refine k_d ?_|refine dG (hc:=fun _=>Calm.bin rfl rfl b_lss) (h:=?_)
     refine dP (hc:=fun _=>(by first | exact Calm.pickT rfl rfl | exact Calm.pickF rfl rfl)) (h:=?_)
     refine dP (hc:=fun _=>Calm.assign rfl) (h:=?_)
     refine draw_nil ?_
     refine athen_n ?_
     refine k_u [(0,_),(4,_),(11,_),(12,_),(13,_),(14,_),(6,_),(5,_),(18,_),(33,_),(37,_)] ?_
     refine AWP.condB rfl (fun hx=>?_) (fun hx=>?_)
     ·refine AWP.region ?_
      refine k_m rfl (k_s rfl ?_)
      refine arun_nil ?_
      refine ain_n ?_
      refine ain_n ?_
      refine athen_n ?_
      refine k_u [(0,_),(4,_),(11,_),(12,_),(13,_),(14,_),(6,_),(5,_),(18,_),(33,_),(37,_)] ?_
      refine AWP.region ?_
      refine rC (Calm.bin rfl rfl b_add_i64) ?_
      refine k_m rfl (k_n ?_)
      refine ⟨i+1,?_,?_,?_,?_⟩
      all_goals (try dsimp only)
      ·exact ⟨rfl,some_int (by rw [hbs,if_pos (of_decide_eq_true hx)]),rfl,rfl,rfl,trivial⟩
      ·exact less_
      ·exact ⟨hc,hno'⟩
      ·omega
     ·refine AWP.skip ?_
      refine ain_n ?_
      refine ain_n ?_
      refine athen_n ?_
      refine AWP.region ?_
      refine rC (Calm.bin rfl rfl b_add_i64) ?_
      refine k_m rfl (k_n ?_)
      refine ⟨i+1,?_,?_,?_,?_⟩
      all_goals (try dsimp only)
      ·exact ⟨rfl,some_int (by rw [hbs,if_neg (of_decide_eq_false hx)]),rfl,rfl,rfl,trivial⟩
      ·exact less_
      ·exact ⟨hc,hno'⟩
      ·omega
   ·have hbs:bestF x.fr (i+1)=bestF x.fr i:=by rw [bestF,if_neg (fun h=>q2 (by rw [← hge];exact h.1))]
    have cf:=fun S=>pl_free x.fr[i] S
    rw [decide_eq_false q] at cf
    have ci:=fun S=>pl_idle x.fr[i] S
    rw [decide_eq_false q2] at ci
    generalize x.fr[i]=y at *
    unfold frV at cf ci
    unfold frF at hki
    refine k_k (AWP.seq ?_)
    refine AWP.block ?_
    refine k_a (k_m rfl ?_)
    refine rC (Calm.indexS Tryz.underlying26 ty_size_62 rfl rfl (by omega) (by omega)) ?_
    refine k_7 ty_agg_62 ty_size_62 rfl ?_
    refine ARun.alloc (lit_lt rfl) ty_zero_62 ?_
    intro b6 f6
    have g6:=f6
    repeat ((with_reducible replace g6:=fresh_set g6);obtain ⟨g6,_⟩:=g6)
    have:=g6.ne hA;have:=g6.ne' hA
    try simp only [k_l1,k_l0,k_za,Nat.reduceAdd]
    refine k_s rfl ?_
    first|refine k_A rfl rfl ty_size_62 ?_|refine k_B rfl rfl ty_size_62 ?_
    try simp only [k_ms,k_sz,k_ss,k_za,Nat.reduceAdd]
    refine k_n ?_
    refine k_u [(0,_),(4,_),(11,_),(12,_),(13,_),(14,_),(6,_),(5,_)] ?_
    refine AWP.block ?_
    refine k_a ?_
    refine k_7 ty_agg_62 ty_size_62 rfl ?_
    refine ARun.call (lit_lt rfl) go_79 rfl (cf _) ?_
    rintro _ S1 ⟨rfl,h1⟩
    rw [h1];clear h1 S1
    refine k_e rfl ?_
    refine k_u [(0,_),(4,_),(11,_),(12,_),(13,_),(14,_),(6,_),(5,_),(18,_)] ?_
    refine k_F rfl ?_
    refine k_a ?_
    refine k_7 ty_agg_62 ty_size_62 rfl ?_
    refine ARun.call (lit_lt rfl) go_95 rfl (ci _) ?_
    rintro _ S1 ⟨rfl,h1⟩
    rw [h1];clear h1 S1
    refine rC (Calm.un rfl (una_not _)) ?_
    refine k_e rfl ?_
    refine k_u [(0,_),(4,_),(11,_),(12,_),(13,_),(14,_),(6,_),(5,_),(18,_),(33,_)] ?_
    refine k_T rfl ?_
    refine AWP.skip ?_
    refine ain_n ?_
    refine ain_n ?_
    refine athen_n ?_
    refine AWP.region ?_
    refine rC (Calm.bin rfl rfl b_add_i64) ?_
    refine k_m rfl (k_n ?_)
    refine ⟨i+1,?_,?_,?_,?_⟩
    all_goals (try dsimp only)
    ·exact ⟨rfl,some_int hbs.symm,rfl,rfl,rfl,trivial⟩
    ·exact less_
    ·exact ⟨hc,hno'⟩
    ·omega
 ·have hc:i=x.fr.length:=by have:=of_decide_eq_false hc;omega
  subst hc
  have hnf:=findF0_no (fun j hj=>hno j hj hj)
  by_cases q3:bestF x.fr x.fr.length<0
  ·have htk:takeP x=(x,0,9):=by unfold takeP;rw [if_neg hnf,if_pos q3]
   rw [htk]
   refine AWP.exit ?_
   refine athen_exit ?_
   refine athen_exit ?_
   refine ain_same ?_
   refine athen_n ?_
   refine AWP.seq (k_a (k_m rfl ?_))
   refine rC (Calm.bin rfl rfl b_lss) ?_
   refine k_n ?_
   refine k_u [(0,_),(4,_),(11,_),(12,_),(13,_),(14,_),(56,_)] ?_
   refine k_T rfl ?_
   refine k_a (k_s rfl (k_e rfl ?_))
   refine k_r ?_
   refine ⟨_,T,⟨_,_,rfl,⟨_,_,rfl,rfl,rfl⟩,rfl⟩,less_,?_⟩
   exact ⟨rfl,k,oE,oW,hok,hT.symm⟩
  ·obtain ⟨m,hm⟩ : ∃ m:Nat,bestF x.fr x.fr.length=(m:Int):=⟨_,(Int.toNat_of_nonneg (by omega)).symm⟩
   have hml:m<x.fr.length:=by omega
   have hmt:(bestF x.fr x.fr.length).toNat=m:=by rw [hm];rfl
   obtain ⟨_,_,_,_,kb,_,_⟩:=kn_fr (sl_at hF m hml)
   rw [hm]
   by_cases q4:x.fr[m].dirty=true
   ·have hwm:=hwr m hml
    refine AWP.exit ?_
    refine athen_exit ?_
    refine athen_exit ?_
    refine ain_same ?_
    refine athen_n ?_
    refine AWP.seq (k_a (k_m rfl ?_))
    refine rC (Calm.bin rfl rfl b_lss) ?_
    refine k_n ?_
    refine k_u [(0,_),(4,_),(11,_),(12,_),(13,_),(14,_),(56,_)] ?_
    refine k_F rfl ?_
    refine k_k (AWP.seq (k_a (k_m rfl ?_)))
    refine rC (Calm.nilCheck rfl) ?_
    refine rC (Calm.fieldAddr ty_field_93_1 rfl) ?_
    refine rC (ld_ ty_plain_26 rfl) ?_
    refine k_m rfl ?_
    refine rC (Calm.indexS Tryz.underlying26 ty_size_62 rfl rfl (by omega) (by omega)) ?_
    refine rC (Calm.fieldAddr ty_field_62_4 rfl) ?_
    refine rC (Calm.as (congrArg Value.bool q4) (ld_ ty_plain_4 rfl)) ?_
    refine k_n ?_
    refine k_u [(0,_),(4,_),(11,_),(12,_),(13,_),(14,_),(56,_),(64,_)] ?_
    refine k_T rfl ?_
    refine k_a (k_m rfl (k_m rfl ?_))
    refine ARun.call (lit_lt rfl) go_84 rfl (hwm) ?_
    rintro _ S1 ⟨rfl,k',oE',oW',hok',h1⟩
    rw [h1];clear h1 S1
    have hA2:=ar_own (M:=devM S p (wrP x m).1.d oE' oW') (a:=a) (p:=p) (b:=b) (c:=c) (x:=(wrP x m).1) (k:=k')
    have hB2:=ar_fr (M:=devM S p (wrP x m).1.d oE' oW') (p:=p) (c:=c) (x:=(wrP x m).1) (k:=k') hok.ab
    have hsF2:=fun fr' h=>ar_setF (M:=devM S p (wrP x m).1.d oE' oW') (p:=p) (c:=c) (x:=(wrP x m).1) (k:=k') hok.ab fr' h
    have hwl:=wrP_len x m
    have htk:takeP x=if (wrP x m).2=0 then (setP (wrP x m).1 m F0,m,0) else ((wrP x m).1,0,(wrP x m).2):=by unfold takeP;rw [if_neg hnf,if_neg q3,hmt,if_pos (by rw [atF_eq hml];exact q4)]
    rw [htk]
    generalize wrP x m=u at *
    unfold arB at hA2
    rw [hwl] at hA2
    refine k_e rfl ?_
    refine k_u [(0,_),(4,_),(11,_),(12,_),(13,_),(14,_),(56,_),(64,_),(7,_)] ?_
    by_cases e0:u.2=0
    ·rw [if_pos e0]
     refine k_a (k_m rfl ?_)
     refine rC (Calm.bin rfl rfl b_neq) ?_
     refine k_n ?_
     refine k_u [(0,_),(4,_),(11,_),(12,_),(13,_),(14,_),(56,_),(64,_),(7,_),(69,_)] ?_
     refine k_F rfl ?_
     refine k_k (k_a (k_m rfl ?_))
     refine rC (Calm.nilCheck rfl) ?_
     refine rC (Calm.fieldAddr ty_field_93_1 rfl) ?_
     refine rC (ld_ ty_plain_26 rfl) ?_
     refine k_m rfl ?_
     refine rC (Calm.build (cs:=[_,_,_,_,_,_,_]) ty_bld_62 rfl rfl) ?_
     refine rC (Calm.indexS Tryz.underlying26 ty_size_62 rfl rfl (by omega) (by omega)) ?_
     refine ARun.storeFr (c:=c) (i:=m) (l:=u.1.fr) (u:=F0) rfl rfl rfl (by omega) (by omega) ty_size_62 hB2 ?_
     try simp only [k_ms,k_sz,k_ss,k_za,Nat.reduceAdd]
     refine k_n ?_
     refine k_u [(0,_),(4,_),(11,_),(12,_),(13,_),(14,_),(56,_),(64,_),(7,_),(69,_)] ?_
     refine k_a (k_m rfl (k_s rfl (k_e rfl ?_)))
     refine k_u [(0,_),(4,_),(11,_),(12,_),(13,_),(14,_),(56,_),(64,_),(7,_),(69,_),(2,_),(3,_)] ?_
     refine AWP.ret ?_
     refine ⟨_,arM (devM S p u.1.d oE' oW') a p b c (setP u.1 m F0) k',⟨_,_,rfl,⟨_,_,rfl,rfl,rfl⟩,rfl⟩,(by rw [hsF2 _ (by simp)];exact Mem.Less.refl _),?_⟩
     exact ⟨rfl,k',oE',oW',hok'.like rfl (by unfold setP;simp),rfl⟩
    ·rw [if_neg e0]
     refine k_a (k_m rfl ?_)
     refine rC (Calm.bin rfl rfl b_neq) ?_
     refine k_n ?_
     refine k_u [(0,_),(4,_),(11,_),(12,_),(13,_),(14,_),(56,_),(64,_),(7,_),(69,_)] ?_
     refine k_T rfl ?_
     refine k_a (k_m rfl (k_s rfl (k_e rfl ?_)))
     refine k_u [(0,_),(4,_),(11,_),(12,_),(13,_),(14,_),(56,_),(64,_),(7,_),(69,_),(2,_),(3,_)] ?_
     refine k_r ?_
     refine ⟨_,arM (devM S p u.1.d oE' oW') a p b c u.1 k',⟨_,_,rfl,⟨_,_,rfl,rfl,rfl⟩,rfl⟩,Mem.Less.refl _,?_⟩
     exact ⟨rfl,k',oE',oW',hok',rfl⟩
   ·have q4':x.fr[m].dirty=false:=by simpa using q4
    have htk:takeP x=(setP x m F0,m,0):=by unfold takeP;rw [if_neg hnf,if_neg q3,hmt,if_neg (by rw [atF_eq hml];exact q4)]
    rw [htk]
    refine AWP.exit ?_
    refine athen_exit ?_
    refine athen_exit ?_
    refine ain_same ?_
    refine athen_n ?_
    refine AWP.seq (k_a (k_m rfl ?_))
    refine rC (Calm.bin rfl rfl b_lss) ?_
    refine k_n ?_
    refine k_u [(0,_),(4,_),(11,_),(12,_),(13,_),(14,_),(56,_)] ?_
    refine k_F rfl ?_
    refine k_k (AWP.seq (k_a (k_m rfl ?_)))
    refine rC (Calm.nilCheck rfl) ?_
    refine rC (Calm.fieldAddr ty_field_93_1 rfl) ?_
    refine rC (ld_ ty_plain_26 rfl) ?_
    refine k_m rfl ?_
    refine rC (Calm.indexS Tryz.underlying26 ty_size_62 rfl rfl (by omega) (by omega)) ?_
    refine rC (Calm.fieldAddr ty_field_62_4 rfl) ?_
    refine rC (Calm.as (congrArg Value.bool q4') (ld_ ty_plain_4 rfl)) ?_
    refine k_n ?_
    refine k_u [(0,_),(4,_),(11,_),(12,_),(13,_),(14,_),(56,_),(64,_)] ?_
    refine k_F rfl ?_
    refine k_k (k_a (k_m rfl ?_))
    refine rC (Calm.nilCheck rfl) ?_
    refine rC (Calm.fieldAddr ty_field_93_1 rfl) ?_
    refine rC (ld_ ty_plain_26 rfl) ?_
    refine k_m rfl ?_
    refine rC (Calm.build (cs:=[_,_,_,_,_,_,_]) ty_bld_62 rfl rfl) ?_
    refine rC (Calm.indexS Tryz.underlying26 ty_size_62 rfl rfl (by omega) (by omega)) ?_
    refine ARun.storeFr (c:=c) (i:=m) (l:=x.fr) (u:=F0) rfl rfl rfl (by omega) hml ty_size_62 hB ?_
    try simp only [k_ms,k_sz,k_ss,k_za,Nat.reduceAdd]
    refine k_n ?_
    refine k_u [(0,_),(4,_),(11,_),(12,_),(13,_),(14,_),(56,_),(64,_)] ?_
    refine k_a (k_m rfl (k_s rfl (k_e rfl ?_)))
    refine k_u [(0,_),(4,_),(11,_),(12,_),(13,_),(14,_),(56,_),(64,_),(2,_),(3,_)] ?_
    refine AWP.ret ?_
    refine ⟨_,arM (devM S p x.d oE oW) a p b c (setP x m F0) k,⟨_,_,rfl,⟨_,_,rfl,rfl,rfl⟩,rfl⟩,(by rw [hsF _ (by simp)];exact Mem.Less.refl _),?_⟩
    exact ⟨rfl,k,oE,oW,hok.like rfl (by unfold setP;simp),rfl⟩
end Go.Proofs.YtkeiphkccnfhoaaGreat
namespace Go.Proofs.YtkeiphkccnfhoaaGreat
open Go.RowKit
open Mv Disk
set_option maxRecDepth 4000
theorem pl_pin1 (x : Fr) (s : ByteArray) (k : Int) (kb sb : Nat) (S : Mem) (hk : S.Knows ⟨kb, 0, none⟩ [.int .i64 k]) (hs : S.Knows ⟨sb, 0, none⟩ [.string s]) :
  ACall Tryz.prog 67 #[frV x,.pointer (some ⟨kb,0,none⟩),.pointer (some ⟨sb,0,none⟩)] S fun r S'=>r = .bool (isF s k x)∧S'=S:=by
 have ch:=fun S=>pl_holds x S
 unfold frV isF at *
 by_cases q1:x.holds
 ·rw [decide_eq_true q1] at ch
  by_cases q2:x.sector=k
  ·have e:decide (x.holds∧x.sector=k∧x.name=s)=decide (x.name=s):=by simp [q1,q2]
   rw [e]
   refine ACall.enter (rs:=[.tmp 4]) 19 [(0,.agg #[.string x.name,.int .i64 x.sector,.string x.data,.int .i64 x.pins,.bool x.dirty,.int .u64 x.tick,.bool x.leased]),(1,.pointer (some ⟨kb,0,none⟩)),(2,.pointer (some ⟨sb,0,none⟩))] Tryz.func67 rfl rfl (Nat.le_of_ble_eq_true rfl) rfl ⟨rfl,rfl,rfl,trivial⟩ ?_
   refine k_a ?_
   refine k_b7 rfl ?_
   intro b3 f3
   have g3:=f3
   repeat ((with_reducible replace g3:=fresh_set g3);obtain ⟨g3,_⟩:=g3)
   try simp only [k_l1,k_l0,k_za,Nat.reduceAdd]
   refine k_e rfl (k_a ?_)
   refine k_7 ty_agg_62 ty_size_62 rfl ?_
   refine ARun.call (lit_lt rfl) go_63 rfl (ch _) ?_
   rintro _ S1 ⟨rfl,h1⟩
   rw [h1];clear h1 S1
   refine k_m rfl ?_
   first|refine k_q 7 ?_|refine rG 7 (Calm.fieldAddr ty_field_62_1 rfl) ?_
   first|refine k_q 7 ?_|refine rG 7 (ld_ ty_plain_3 rfl) ?_
   first|refine k_q 7 ?_|refine rG 7 (ld_ ty_plain_3 rfl) ?_
   first|refine k_q 7 ?_|refine rG 7 (Calm.bin rfl rfl (bin_bool (bin_eql _ _) (decide_eq_true q2))) ?_
   first|refine k_t rfl rfl ?_|refine k_f rfl rfl ?_
   refine k_m rfl ?_
   first|refine k_q 13 ?_|refine rG 13 (Calm.fieldAddr ty_field_62_0 rfl) ?_
   first|refine k_q 13 ?_|refine rG 13 (ld_ ty_plain_9 rfl) ?_
   first|refine k_q 13 ?_|refine rG 13 (ld_ ty_plain_9 rfl) ?_
   first|refine k_q 13 ?_|refine rG 13 (Calm.bin rfl rfl (bin_bool (bin_str_eql _ _) rfl)) ?_
   first|refine k_t rfl rfl ?_|refine k_f rfl rfl ?_
   refine k_e rfl ?_
   refine k_u [(0,_),(1,_),(2,_),(3,_),(4,_)] ?_
   refine AWP.ret ?_
   refine ⟨_,S,⟨_,_,rfl,rfl,rfl⟩,less_,?_⟩
   exact ⟨rfl,rfl⟩
  ·rw [decide_eq_false (fun h=>q2 h.2.1)]
   refine ACall.enter (rs:=[.tmp 4]) 19 [(0,.agg #[.string x.name,.int .i64 x.sector,.string x.data,.int .i64 x.pins,.bool x.dirty,.int .u64 x.tick,.bool x.leased]),(1,.pointer (some ⟨kb,0,none⟩)),(2,.pointer (some ⟨sb,0,none⟩))] Tryz.func67 rfl rfl (Nat.le_of_ble_eq_true rfl) rfl ⟨rfl,rfl,rfl,trivial⟩ ?_
   refine k_a ?_
   refine k_b7 rfl ?_
   intro b3 f3
   have g3:=f3
   repeat ((with_reducible replace g3:=fresh_set g3);obtain ⟨g3,_⟩:=g3)
   try simp only [k_l1,k_l0,k_za,Nat.reduceAdd]
   refine k_e rfl (k_a ?_)
   refine k_7 ty_agg_62 ty_size_62 rfl ?_
   refine ARun.call (lit_lt rfl) go_63 rfl (ch _) ?_
   rintro _ S1 ⟨rfl,h1⟩
   rw [h1];clear h1 S1
   refine k_m rfl ?_
   first|refine k_q 7 ?_|refine rG 7 (Calm.fieldAddr ty_field_62_1 rfl) ?_
   first|refine k_q 7 ?_|refine rG 7 (ld_ ty_plain_3 rfl) ?_
   first|refine k_q 7 ?_|refine rG 7 (ld_ ty_plain_3 rfl) ?_
   first|refine k_q 7 ?_|refine rG 7 (Calm.bin rfl rfl (bin_bool (bin_eql _ _) (decide_eq_false q2))) ?_
   first|refine k_t rfl rfl ?_|refine k_f rfl rfl ?_
   refine k_m rfl ?_
   first|refine k_q 13 ?_|refine rG 13 (Calm.fieldAddr ty_field_62_0 rfl) ?_
   first|refine k_q 13 ?_|refine rG 13 (ld_ ty_plain_9 rfl) ?_
   first|refine k_q 13 ?_|refine rG 13 (ld_ ty_plain_9 rfl) ?_
   first|refine k_q 13 ?_|refine rG 13 (Calm.bin rfl rfl (bin_str_eql _ _)) ?_
   first|refine k_t rfl rfl ?_|refine k_f rfl rfl ?_
   refine k_e rfl ?_
   refine k_u [(0,_),(1,_),(2,_),(3,_),(4,_)] ?_
   refine AWP.ret ?_
   refine ⟨_,S,⟨_,_,rfl,rfl,rfl⟩,less_,?_⟩
   exact ⟨rfl,rfl⟩
 ·rw [decide_eq_false q1] at ch
  rw [decide_eq_false (fun h=>q1 h.1)]
  refine ACall.enter (rs:=[.tmp 4]) 19 [(0,.agg #[.string x.name,.int .i64 x.sector,.string x.data,.int .i64 x.pins,.bool x.dirty,.int .u64 x.tick,.bool x.leased]),(1,.pointer (some ⟨kb,0,none⟩)),(2,.pointer (some ⟨sb,0,none⟩))] Tryz.func67 rfl rfl (Nat.le_of_ble_eq_true rfl) rfl ⟨rfl,rfl,rfl,trivial⟩ ?_
  refine k_a ?_
  refine k_b7 rfl ?_
  intro b3 f3
  have g3:=f3
  repeat ((with_reducible replace g3:=fresh_set g3);obtain ⟨g3,_⟩:=g3)
  try simp only [k_l1,k_l0,k_za,Nat.reduceAdd]
  refine k_e rfl (k_a ?_)
  refine k_7 ty_agg_62 ty_size_62 rfl ?_
  refine ARun.call (lit_lt rfl) go_63 rfl (ch _) ?_
  rintro _ S1 ⟨rfl,h1⟩
  rw [h1];clear h1 S1
  refine k_m rfl ?_
  first|refine k_q 7 ?_|refine rG 7 (Calm.fieldAddr ty_field_62_1 rfl) ?_
  first|refine k_q 7 ?_|refine rG 7 (ld_ ty_plain_3 rfl) ?_
  first|refine k_q 7 ?_|refine rG 7 (ld_ ty_plain_3 rfl) ?_
  first|refine k_q 7 ?_|refine rG 7 (Calm.bin rfl rfl b_eql) ?_
  first|refine k_t rfl rfl ?_|refine k_f rfl rfl ?_
  refine k_m rfl ?_
  first|refine k_q 13 ?_|refine rG 13 (Calm.fieldAddr ty_field_62_0 rfl) ?_
  first|refine k_q 13 ?_|refine rG 13 (ld_ ty_plain_9 rfl) ?_
  first|refine k_q 13 ?_|refine rG 13 (ld_ ty_plain_9 rfl) ?_
  first|refine k_q 13 ?_|refine rG 13 (Calm.bin rfl rfl (bin_str_eql _ _)) ?_
  first|refine k_t rfl rfl ?_|refine k_f rfl rfl ?_
  refine k_e rfl ?_
  refine k_u [(0,_),(1,_),(2,_),(3,_),(4,_)] ?_
  refine AWP.ret ?_
  refine ⟨_,S,⟨_,_,rfl,rfl,rfl⟩,less_,?_⟩
  exact ⟨rfl,rfl⟩
set_option maxHeartbeats 1000000 in
theorem pl_indexP (v : Value) (l : List Fr) (s : ByteArray) (k : Int) (kb sb : Nat) (S : Mem) (hl : Sl 7 frF S v l) (hk : S.Knows ⟨kb, 0, none⟩ [.int .i64 k]) (hs : S.Knows ⟨sb, 0, none⟩ [.string s]) :
  ACall Tryz.prog 66 #[v,.func (.func 67) #[] #[.pointer (some ⟨kb,0,none⟩),.pointer (some ⟨sb,0,none⟩)]] S fun r S'=>r = .int .i64 (if l.findIdx (isF s k)<l.length then (l.findIdx (isF s k):Int) else -1)∧S'=S:=by
 obtain ⟨a,cap,rfl,h1,h2,h3⟩:=id hl
 refine ACall.enter (rs:=[.tmp 4]) 19 [(0,.slice a l.length cap),(1,.func (.func 67) #[] #[.pointer (some ⟨kb,0,none⟩),.pointer (some ⟨sb,0,none⟩)])] Tryz.func66 rfl rfl (Nat.le_of_ble_eq_true rfl) rfl ⟨rfl,rfl,trivial⟩ ?_
 refine k_a (k_e rfl (AWP.seq (k_a (k_m rfl ?_))))
 refine rC (Calm.lenSl Tryz.underlying26 rfl) ?_
 refine k_m rfl (k_n ?_)
 refine k_u [(0,_),(1,_),(4,_),(7,_),(8,_)] ?_
 refine AWP.block ?_
 refine AWP.loop (X:=Nat) (fun x=>[(0,.slice a l.length cap),(1,.func (.func 67) #[] #[.pointer (some ⟨kb,0,none⟩),.pointer (some ⟨sb,0,none⟩)]),(7,.int .i64 l.length),(8,.int .i64 x)]) (fun x=>S) (fun i=>i≤l.length ∧ ∀ j (h:j<l.length),j<i→isF s k l[j]=false) (fun x=>l.length-x) (0) ⟨rfl,rfl,rfl,rfl,trivial⟩ (Mem.Less.refl _) (⟨Nat.zero_le _,fun j _ h=>absurd h (Nat.not_lt_zero _)⟩) ?_
 rintro i ⟨hi,hall⟩
 (try dsimp only at *)
 refine k_a ?_
 refine rC (Calm.bin rfl rfl b_lss) ?_
 refine k_n (AWP.seq ?_)
 refine AWP.condB rfl (fun hc=>?_) (fun hc=>?_)
 ·have hc:i<l.length:=by have:=of_decide_eq_true hc;omega
  obtain ⟨b,off,rfl,hkk⟩:=h3.resolve_left (fun e=>by subst e;simp at hc)
  have hki:=hkk i hc
  have hall':isF s k l[i]=false → ∀ j (h:j<l.length),j<i+1→isF s k l[j]=false:=fun hn j h hj=>by rcases Nat.lt_or_ge j i with h' | h';exact hall j h h';obtain rfl:j=i:=(by omega);exact hn
  have hat:isF s k l[i]=true→l.findIdx (isF s k)=i:=fun hy=>(List.findIdx_eq hc).2 ⟨hy,fun j hj=>hall j (by omega) hj⟩
  generalize l[i]=y at *
  unfold frF at hki
  refine k_k (AWP.seq ?_)
  refine AWP.block ?_
  refine k_a (k_m rfl (k_e rfl ?_))
  refine k_u [(0,_),(1,_),(7,_),(8,_),(9,_),(5,_)] ?_
  refine k_a (k_m rfl (k_m rfl (k_m rfl ?_)))
  refine rC (Calm.indexS Tryz.underlying26 ty_size_62 rfl rfl (by omega) (by omega)) ?_
  refine k_7 ty_agg_62 ty_size_62 rfl ?_
  refine ARun.callV (lit_lt rfl) go_67 rfl rfl (pl_pin1 y s k kb sb _ hk hs) ?_
  rintro _ S1 ⟨rfl,h1⟩
  rw [h1];clear h1 S1
  refine k_n ?_
  refine k_u [(0,_),(1,_),(7,_),(8,_),(9,_),(5,_),(16,_)] ?_
  refine AWP.condB rfl (fun hb=>?_) (fun hb=>?_)
  ·refine k_a (k_m rfl (k_e rfl ?_))
   refine k_u [(0,_),(1,_),(7,_),(8,_),(9,_),(5,_),(16,_),(4,_)] ?_
   refine AWP.ret ?_
   refine ain_ret ?_
   refine athen_ret ?_
   refine athen_ret ?_
   refine ain_ret ?_
   refine athen_ret ?_
   refine ⟨_,S,⟨_,_,rfl,rfl,rfl⟩,less_,?_⟩
   exact ⟨by rw [hat hb,if_pos hc];rfl,rfl⟩
  ·refine AWP.skip ?_
   refine ain_n ?_
   refine athen_n ?_
   refine AWP.region ?_
   refine rC (Calm.bin rfl rfl b_add_i64) ?_
   refine k_m rfl (k_n ?_)
   refine ⟨i+1,?_,?_,?_,?_⟩
   all_goals (try dsimp only)
   ·exact ⟨rfl,rfl,rfl,rfl,trivial⟩
   ·exact less_
   ·exact ⟨hc,hall' hb⟩
   ·omega
 ·have hc:i=l.length:=by have:=of_decide_eq_false hc;omega
  refine AWP.exit ?_
  refine athen_exit ?_
  refine athen_exit ?_
  refine ain_same ?_
  refine athen_n ?_
  refine k_a (k_e rfl ?_)
  refine AWP.ret ?_
  refine ⟨_,S,⟨_,_,rfl,rfl,rfl⟩,less_,?_⟩
  exact ⟨by rw [if_neg (fun h=>by have h2:=List.findIdx_getElem (w:=h);rw [hall _ h (by omega)] at h2;cases h2)];rfl,rfl⟩
theorem takeP_lt {x : Pl} (h : (takeP x).2.2 = 0) : (takeP x).2.1 < (takeP x).1.fr.length := by
 have hb:=bestF_le x.fr x.fr.length
 have hl:=wrP_len x (bestF x.fr x.fr.length).toNat
 revert h
 unfold takeP
 repeat' split
 ·intro _;assumption
 ·intro h;simp at h
 ·intro _;unfold setP;simp only [List.length_set];omega
 ·intro h;rename_i e;exact absurd h e
 ·intro _;unfold setP;simp only [List.length_set];omega
/-- What a taking of frames gives, with a number. -/
def ArN (S : Mem) (a p b c : Nat) (q : Pl × Nat × Int) (r : Value) (S' : Mem) : Prop := r = .tuple #[.int .i64 (q.2.1 : Nat), .int .i64 q.2.2] ∧ ArS S a p b c q.1 S'
theorem takeP_fr (x : Pl) : (takeP x).1.fr.length = x.fr.length := by
 have hl:=wrP_len x (bestF x.fr x.fr.length).toNat
 unfold takeP
 repeat' split
 all_goals (try unfold setP);simp only [List.length_set];try exact hl
set_option maxHeartbeats 8000000 in
theorem pl_PinA (a p b c : Nat) (x : Pl) (s : ByteArray) (n : Int) (k : Int) (S : Mem) (oE oW : Option (Nat × Nat)) (hok : OkA S a p b c x oE oW) (hw : PW x) :
  ACall Tryz.prog 32 #[.pointer (some ⟨a,0,none⟩),.string s,.int .i64 n] (arM (devM S p x.d oE oW) a p b c x k) (ArN S a p b c (pinP x s n)):=by
 have h256:=hw.l2
 have hA:=ar_own (M:=devM S p x.d oE oW) (a:=a) (p:=p) (b:=b) (c:=c) (x:=x) (k:=k)
 have hF:=ar_sl (M:=devM S p x.d oE oW) (p:=p) (x:=x) (k:=k) hok.ab hok.l hw.l2
 have hrd:=hok.rd hw k
 have htk:=pl_take a p b c x k S oE oW hok hw
 have hix:=fun S h1 h2 h3 h4 h5=>pl_indexP (.slice (some ⟨b,0,none⟩) x.fr.length c) x.fr s n h1 h2 S h3 h4 h5
 have hread:=fun M h=>dev_Read p x.d s n M h hw.dr
 unfold arB at hA
 unfold pinP
 by_cases q0:x.fr.findIdx (isF s n)<x.fr.length
 ·rw [if_pos q0]
  simp only [if_pos q0] at hix
  have hpn:=hw.pn _ (atF_mem q0)
  generalize hI:x.fr.findIdx (isF s n)=i at *
  refine ACall.enter (rs:=[.tmp 6,.tmp 7]) 91 [(0,.pointer (some ⟨a,0,none⟩)),(1,.string s),(2,.int .i64 n)] Tryz.func32 rfl rfl (Nat.le_of_ble_eq_true rfl) rfl ⟨rfl,rfl,rfl,trivial⟩ ?_
  refine k_a ?_
  refine ARun.box1 (lit_lt rfl) rfl rfl ?_
  intro b4 f4
  have g4:=f4
  repeat ((with_reducible replace g4:=fresh_set g4);obtain ⟨g4,_⟩:=g4)
  have:=g4.ne hA;have:=g4.ne' hA
  try simp only [k_l1,k_l0,k_za,Nat.reduceAdd]
  refine ARun.box1 (lit_lt rfl) rfl rfl ?_
  intro b5 f5
  have g5:=f5
  repeat ((with_reducible replace g5:=fresh_set g5);obtain ⟨g5,_⟩:=g5)
  have:=g5.ne hA;have:=g5.ne' hA
  try simp only [k_l1,k_l0,k_za,Nat.reduceAdd]
  refine k_s rfl (k_e rfl (k_a (k_m rfl ?_)))
  refine rC (Calm.nilCheck rfl) ?_
  refine rC (Calm.fieldAddr ty_field_93_1 rfl) ?_
  refine rC (ld_ ty_plain_26 rfl) ?_
  refine rC (Calm.makeFunc rfl rfl) ?_
  refine ARun.call (lit_lt rfl) go_66 rfl (hix _ b5 b4 (hF.less less_) ((rds_own (Mem.own_set_same _ b5 _)).knows) ((rds_own (r:=⟨_,[.string s],1⟩) own_).knows)) ?_
  rintro _ S1 ⟨rfl,h1⟩
  rw [h1];clear h1 S1
  refine k_e rfl ?_
  refine k_u [(0,_),(1,_),(2,_),(4,_),(5,_),(6,_),(7,_),(8,_)] ?_
  refine AWP.seq (k_a (k_m rfl ?_))
  refine rC (Calm.bin rfl rfl b_lss) ?_
  refine k_n ?_
  refine k_u [(0,_),(1,_),(2,_),(4,_),(5,_),(6,_),(7,_),(8,_),(19,_)] ?_
  refine k_F rfl ?_
  refine AWP.less (arM (devM S p x.d oE oW) a p b c x k) less_ ?_
  have hA3:=ar_own (M:=devM S p x.d oE oW) (a:=a) (p:=p) (b:=b) (c:=c) (x:=x) (k:=k)
  have hB3:=ar_fr (M:=devM S p x.d oE oW) (p:=p) (c:=c) (x:=x) (k:=k) hok.ab
  obtain ⟨_,_,_,kp,_,_,_⟩:=kn_fr (ar_kn (M:=devM S p x.d oE oW) (p:=p) (k:=k) hok.ab hok.l h256 q0)
  unfold arB at hA3
  by_cases qp:(atF x i).pins=256
  ·rw [if_pos qp]
   refine k_k (k_a (k_m rfl ?_))
   refine rC (Calm.nilCheck rfl) ?_
   refine rC (Calm.fieldAddr ty_field_93_1 rfl) ?_
   refine rC (ld_ ty_plain_26 rfl) ?_
   refine k_m rfl ?_
   refine rC (Calm.indexS Tryz.underlying26 ty_size_62 rfl rfl (by omega) (by omega)) ?_
   refine k_e rfl ?_
   refine k_u [(0,_),(1,_),(2,_),(4,_),(5,_),(6,_),(7,_),(8,_),(19,_),(11,_)] ?_
   refine AWP.seq (k_a (k_m rfl ?_))
   refine rC (Calm.nilCheck rfl) ?_
   refine rC (Calm.fieldAddr ty_field_62_3 rfl) ?_
   refine rC (ld_ ty_plain_3 rfl) ?_
   refine rC (Calm.bin rfl rfl (bin_bool (bin_eql _ _) (decide_eq_true qp))) ?_
   refine k_n ?_
   refine k_u [(0,_),(1,_),(2,_),(4,_),(5,_),(6,_),(7,_),(8,_),(19,_),(11,_),(68,_)] ?_
   refine k_T rfl ?_
   refine k_a (k_s rfl (k_e rfl ?_))
   refine k_r ?_
   refine ⟨_,arM (devM S p x.d oE oW) a p b c x k,⟨_,_,rfl,⟨_,_,rfl,rfl,rfl⟩,rfl⟩,Mem.Less.refl _,?_⟩
   exact ⟨rfl,k,oE,oW,hok,rfl⟩
  ·rw [if_neg qp]
   refine k_k (k_a (k_m rfl ?_))
   refine rC (Calm.nilCheck rfl) ?_
   refine rC (Calm.fieldAddr ty_field_93_1 rfl) ?_
   refine rC (ld_ ty_plain_26 rfl) ?_
   refine k_m rfl ?_
   refine rC (Calm.indexS Tryz.underlying26 ty_size_62 rfl rfl (by omega) (by omega)) ?_
   refine k_e rfl ?_
   refine k_u [(0,_),(1,_),(2,_),(4,_),(5,_),(6,_),(7,_),(8,_),(19,_),(11,_)] ?_
   refine AWP.seq (k_a (k_m rfl ?_))
   refine rC (Calm.nilCheck rfl) ?_
   refine rC (Calm.fieldAddr ty_field_62_3 rfl) ?_
   refine rC (ld_ ty_plain_3 rfl) ?_
   refine rC (Calm.bin rfl rfl (bin_bool (bin_eql _ _) (decide_eq_false qp))) ?_
   refine k_n ?_
   refine k_u [(0,_),(1,_),(2,_),(4,_),(5,_),(6,_),(7,_),(8,_),(19,_),(11,_),(68,_)] ?_
   refine k_F rfl ?_
   refine k_k (k_a (k_m rfl ?_))
   refine rC (Calm.nilCheck rfl) ?_
   refine rC (Calm.fieldAddr ty_field_93_2 rfl) ?_
   refine rC (ld_ ty_plain_27 rfl) ?_
   refine rC (Calm.bin rfl rfl b_add_u64) ?_
   refine rC (Calm.nilCheck rfl) ?_
   refine rC (Calm.fieldAddr ty_field_93_2 rfl) ?_
   refine ARun.store1 rfl rfl ty_size_27 rfl hA3 (show 2<6 from by decide) rfl ?_
   try simp only [k_ms,k_sz,k_ss,k_za,Nat.reduceAdd]
   refine k_n ?_
   refine k_u [(0,_),(1,_),(2,_),(4,_),(5,_),(6,_),(7,_),(8,_),(19,_),(11,_),(68,_)] ?_
   obtain ⟨y1,hy1⟩ : ∃ y1:Pl,y1 = { x with tick:=up1 x.tick }:=⟨_,rfl⟩
   have hyd:y1.d=x.d:=by rw [hy1]
   have hyf:y1.fr=x.fr:=by rw [hy1]
   have hyt:y1.tick=up1 x.tick:=by rw [hy1]
   have hA4:=ar_own (M:=devM S p x.d oE oW) (a:=a) (p:=p) (b:=b) (c:=c) (x:=y1) (k:=k)
   have hB4:=ar_fr (M:=devM S p x.d oE oW) (p:=p) (c:=c) (x:=y1) (k:=k) hok.ab
   refine AWP.less (arM (devM S p x.d oE oW) a p b c y1 k) (by rw [← ar_setA (x:=x) (k:=k) hyf];unfold arB;rw [hyf,hyt,hy1];exact Mem.Less.refl _) ?_
   unfold arB at hA4
   rw [hyf] at hB4 hA4
   refine k_a (k_m rfl (k_m rfl ?_))
   refine rC (Calm.nilCheck rfl) ?_
   refine rC (Calm.fieldAddr ty_field_93_2 rfl) ?_
   refine rC (ld_ ty_plain_27 rfl) ?_
   refine rC (Calm.nilCheck rfl) ?_
   refine rC (Calm.fieldAddr ty_field_62_5 rfl) ?_
   refine ARun.storeFr1 (c:=c) (i:=i) (l:=x.fr) (q:=5) (u:={ atF x i with tick:=y1.tick }) rfl rfl rfl rfl (by omega) (by decide) q0 (by rw [atF_eq q0];rfl) ty_size_27 hB4 ?_
   try simp only [k_ms,k_sz,k_ss,k_za,Nat.reduceAdd]
   refine k_n ?_
   refine k_u [(0,_),(1,_),(2,_),(4,_),(5,_),(6,_),(7,_),(8,_),(19,_),(11,_),(68,_)] ?_
   obtain ⟨y2,hy2⟩ : ∃ y2:Pl,y2 = { y1 with fr:=x.fr.set i { atF x i with tick:=y1.tick } }:=⟨_,rfl⟩
   have hyd2:y2.d=x.d:=by rw [hy2,← hyd]
   have hyl:y2.fr.length=x.fr.length:=by rw [hy2];simp
   have hi2:i<y2.fr.length:=by rw [hyl];exact q0
   have hat:atF y2 i = { atF x i with tick:=y1.tick }:=by rw [atF_eq hi2];simp only [hy2,List.getElem_set_self]
   have hB5:=ar_fr (M:=devM S p x.d oE oW) (p:=p) (c:=c) (x:=y2) (k:=k) hok.ab
   obtain ⟨_,_,_,kp2,_,_,_⟩:=kn_fr (kn_zero <| ar_kn (M:=devM S p x.d oE oW) (p:=p) (k:=k) hok.ab (by rw [hyl];exact hok.l) (by rw [hyl];exact h256) hi2)
   rw [hat] at kp2
   simp only at kp2
   refine AWP.less (arM (devM S p x.d oE oW) a p b c y2 k) (by rw [hy2,← ar_setF (x:=y1) hok.ab _ (by rw [hyf];simp)];exact Mem.Less.refl _) ?_
   refine k_a (k_m rfl ?_)
   refine rC (Calm.nilCheck rfl) ?_
   refine rC (Calm.fieldAddr ty_field_62_3 rfl) ?_
   refine rC (ld_ ty_plain_3 rfl) ?_
   refine rC (Calm.bin rfl rfl b_add_i64) ?_
   refine rC (Calm.nilCheck rfl) ?_
   refine rC (Calm.fieldAddr ty_field_62_3 rfl) ?_
   refine ARun.storeFr1 (c:=c) (i:=i) (l:=y2.fr) (q:=3) (u:={ atF y2 i with pins:=(atF x i).pins+1 }) rfl rfl rfl rfl (by omega) (by decide) hi2 (by rw [atF_eq hi2];rfl) ty_size_3 hB5 ?_
   try simp only [k_ms,k_sz,k_ss,k_za,Nat.reduceAdd]
   refine k_n ?_
   refine k_u [(0,_),(1,_),(2,_),(4,_),(5,_),(6,_),(7,_),(8,_),(19,_),(11,_),(68,_)] ?_
   have hfin : { y2 with fr:=y2.fr.set i { atF y2 i with pins:=(atF x i).pins+1 } }=pin1 x i:=by unfold pin1;rw [hat,hyt,hy2,hy1];simp only [List.set_set]
   refine k_a (k_m rfl (k_s rfl (k_e rfl ?_)))
   refine k_u [(0,_),(1,_),(2,_),(4,_),(5,_),(6,_),(7,_),(8,_),(19,_),(11,_),(68,_)] ?_
   refine AWP.ret ?_
   refine ⟨_,arM (devM S p x.d oE oW) a p b c (pin1 x i) k,⟨_,_,rfl,⟨_,_,rfl,rfl,rfl⟩,rfl⟩,(by rw [← hfin,← ar_setF (x:=y2) hok.ab _ (by simp)];exact Mem.Less.refl _),?_⟩
   exact ⟨rfl,k,oE,oW,hok.like rfl (by unfold pin1;simp),rfl⟩
 ·rw [if_neg q0]
  simp only [if_neg q0] at hix
  by_cases q1:(readD x.d s n).2=0
  ·rw [if_neg (show ¬ (readD x.d s n).2≠0 from fun h=>h q1)]
   rw [q1] at hread
   have htl:=fun h=>takeP_lt (x:=x) h
   have htf:=takeP_fr x
   generalize hD:(readD x.d s n).1=data at *
   refine ACall.enter (rs:=[.tmp 6,.tmp 7]) 91 [(0,.pointer (some ⟨a,0,none⟩)),(1,.string s),(2,.int .i64 n)] Tryz.func32 rfl rfl (Nat.le_of_ble_eq_true rfl) rfl ⟨rfl,rfl,rfl,trivial⟩ ?_
   refine k_a ?_
   refine ARun.box1 (lit_lt rfl) rfl rfl ?_
   intro b4 f4
   have g4:=f4
   repeat ((with_reducible replace g4:=fresh_set g4);obtain ⟨g4,_⟩:=g4)
   have:=g4.ne hA;have:=g4.ne' hA
   try simp only [k_l1,k_l0,k_za,Nat.reduceAdd]
   refine ARun.box1 (lit_lt rfl) rfl rfl ?_
   intro b5 f5
   have g5:=f5
   repeat ((with_reducible replace g5:=fresh_set g5);obtain ⟨g5,_⟩:=g5)
   have:=g5.ne hA;have:=g5.ne' hA
   try simp only [k_l1,k_l0,k_za,Nat.reduceAdd]
   refine k_s rfl (k_e rfl (k_a (k_m rfl ?_)))
   refine rC (Calm.nilCheck rfl) ?_
   refine rC (Calm.fieldAddr ty_field_93_1 rfl) ?_
   refine rC (ld_ ty_plain_26 rfl) ?_
   refine rC (Calm.makeFunc rfl rfl) ?_
   refine ARun.call (lit_lt rfl) go_66 rfl (hix _ b5 b4 (hF.less less_) ((rds_own (Mem.own_set_same _ b5 _)).knows) ((rds_own (r:=⟨_,[.string s],1⟩) own_).knows)) ?_
   rintro _ S1 ⟨rfl,h1⟩
   rw [h1];clear h1 S1
   refine k_e rfl ?_
   refine k_u [(0,_),(1,_),(2,_),(4,_),(5,_),(6,_),(7,_),(8,_)] ?_
   refine AWP.seq (k_a (k_m rfl ?_))
   refine rC (Calm.bin rfl rfl b_lss) ?_
   refine k_n ?_
   refine k_u [(0,_),(1,_),(2,_),(4,_),(5,_),(6,_),(7,_),(8,_),(19,_)] ?_
   refine k_T rfl ?_
   refine AWP.seq ?_
   refine AWP.draw [(0,true),(1,true),(2,true),(3,true),(4,true),(5,true),(6,false),(7,true),(8,true),(9,true),(10,true),(11,true)] [] mixed (by kernel_rfl) ?_
   refine dP (hc:=fun _=>Calm.move rfl) (h:=?_)
   refine dP (hc:=fun _=>Calm.nilCheck rfl) (h:=?_)
   refine dP (hc:=fun _=>Calm.fieldAddr ty_field_93_0 rfl) (h:=?_)
   refine dC (hc:=ld_ ty_plain_77 rfl) (h:=?_)
   refine dC (hc:=ld_ ty_plain_9 rfl) (h:=?_)
   refine dC (hc:=ld_ ty_plain_3 rfl) (h:=?_)
   refine draw_only rfl ?_
   refine ARun.call (lit_lt rfl) go_68 rfl (hread _ (hrd.less less_)) ?_
   rintro _ S1 ⟨rfl,h1⟩
   rw [h1];clear h1 S1
   refine arun_nil ⟨fun _=>less_,?_⟩
   refine dP (hc:=fun _=>Calm.move rfl) (h:=?_)
   refine dP (hc:=fun _=>Calm.extract rfl rfl) (h:=?_)
   refine dP (hc:=fun _=>Calm.extract rfl rfl) (h:=?_)
   refine dP (hc:=fun _=>Calm.assign rfl) (h:=?_)
   refine dP (hc:=fun _=>Calm.assign rfl) (h:=?_)
   refine draw_nil ?_
   refine athen_n ?_
   refine k_u [(0,_),(1,_),(2,_),(4,_),(5,_),(6,_),(7,_),(8,_),(19,_),(9,_),(10,_)] ?_
   refine AWP.seq (k_a (k_m rfl ?_))
   refine rC (Calm.bin rfl rfl b_neq) ?_
   refine k_n ?_
   refine k_u [(0,_),(1,_),(2,_),(4,_),(5,_),(6,_),(7,_),(8,_),(19,_),(9,_),(10,_),(31,_)] ?_
   refine k_F rfl ?_
   refine k_k (AWP.seq (k_a (k_m rfl ?_)))
   refine ARun.call (lit_lt rfl) go_69 rfl ((htk.frame f4).frame f5) ?_
   rintro _ S1 ⟨Sa,⟨Sb,⟨rfl,k',oE',oW',hok',hSb⟩,fa,hSa⟩,fb,h1⟩
   rw [h1,hSa];rw [hSa] at fb;clear h1 S1 hSa Sa;rw [hSb] at fa fb ⊢;clear hSb Sb
   generalize takeP x=u at *
   refine k_m rfl ?_
   refine rC (Calm.extract rfl rfl) ?_
   refine rC (Calm.extract rfl rfl) ?_
   refine k_s rfl (k_e rfl ?_)
   refine k_u [(0,_),(1,_),(2,_),(4,_),(5,_),(6,_),(7,_),(8,_),(19,_),(9,_),(10,_),(31,_)] ?_
   by_cases q2:u.2.2=0
   ·have hul:=htl q2
    rw [if_neg (show ¬ u.2.2≠0 from fun h=>h q2)]
    have hu256:u.1.fr.length≤256:=by rw [htf];exact h256
    have hA2:=ar_own (M:=devM S p u.1.d oE' oW') (a:=a) (p:=p) (b:=b) (c:=c) (x:=u.1) (k:=k')
    have hB2:=ar_fr (M:=devM S p u.1.d oE' oW') (p:=p) (c:=c) (x:=u.1) (k:=k') hok'.ab
    have hB20:=hB2
    unfold arB at hA2
    refine k_a (k_m rfl ?_)
    refine rC (Calm.bin rfl rfl b_neq) ?_
    refine k_n ?_
    refine k_u [(0,_),(1,_),(2,_),(4,_),(5,_),(6,_),(7,_),(8,_),(19,_),(9,_),(10,_),(31,_),(39,_)] ?_
    refine k_F rfl ?_
    refine k_k (AWP.seq ?_)
    refine AWP.draw [(0,true),(1,true),(2,true),(3,true),(4,true),(5,true),(6,true),(7,true),(8,true),(9,true),(10,false)] [10] mixed (by kernel_rfl) ?_
    refine dP (hc:=fun _=>Calm.move rfl) (h:=?_)
    refine dP (hc:=fun _=>Calm.nilCheck rfl) (h:=?_)
    refine dP (hc:=fun _=>Calm.fieldAddr ty_field_93_1 rfl) (h:=?_)
    refine dC (hc:=ld_ ty_plain_26 rfl) (h:=?_)
    refine dP (hc:=fun _=>Calm.move rfl) (h:=?_)
    refine dC (hc:=ld_ ty_plain_9 rfl) (h:=?_)
    refine dC (hc:=ld_ ty_plain_3 rfl) (h:=?_)
    refine dP (hc:=fun _=>Calm.move rfl) (h:=?_)
    refine dP (hc:=fun _=>Calm.build (cs:=[_,_,_,_,_,_,_]) ty_bld_62 rfl rfl) (h:=?_)
    refine dP (hc:=fun _=>Calm.indexS Tryz.underlying26 ty_size_62 rfl rfl (by omega) (by omega)) (h:=?_)
    refine draw_only rfl ?_
    refine ARun.storeFr (c:=c) (i:=u.2.1) (l:=u.1.fr) (u:=newF s n data) rfl rfl rfl (by omega) hul ty_size_62 ((Mem.own_set_other _ _ ((fresh_set fb).1.ne hB2)).trans ((Mem.own_set_other _ _ (fa.ne hB2)).trans hB2)) ?_
    try simp only [k_ms,k_sz,k_ss,k_za,Nat.reduceAdd]
    refine arun_nil ⟨fun h=>absurd h (by decide),?_⟩
    refine draw_nil ?_
    refine athen_n ?_
    refine k_u [(0,_),(1,_),(2,_),(4,_),(5,_),(6,_),(7,_),(8,_),(19,_),(9,_),(10,_),(31,_),(39,_)] ?_
    obtain ⟨y0,hy0⟩ : ∃ y0:Pl,y0=setP u.1 u.2.1 (newF s n data):=⟨_,rfl⟩
    have hyl0:y0.fr.length=u.1.fr.length:=by rw [hy0];unfold setP;simp
    have hok0:OkA S a p b c y0 oE' oW':=hok'.like (by rw [hy0];rfl) hyl0
    have hA0:=ar_own (M:=devM S p u.1.d oE' oW') (a:=a) (p:=p) (b:=b) (c:=c) (x:=y0) (k:=k')
    refine AWP.less (arM (devM S p u.1.d oE' oW') a p b c y0 k') (by rw [hy0];unfold setP;rw [← ar_setF (x:=u.1) hok'.ab _ (by simp)];exact Less.set ((Mem.less_set _ _ _ fa.1).trans (Mem.less_set _ _ _ fb.1)) _ _) ?_
    unfold arB at hA0
    refine AWP.region ?_
    refine k_m rfl ?_
    refine rC (Calm.nilCheck rfl) ?_
    refine rC (Calm.fieldAddr ty_field_93_3 rfl) ?_
    refine rC (ld_ ty_plain_27 rfl) ?_
    refine rC (Calm.bin rfl rfl b_add_u64) ?_
    refine rC (Calm.nilCheck rfl) ?_
    refine rC (Calm.fieldAddr ty_field_93_3 rfl) ?_
    refine ARun.store1 rfl rfl ty_size_27 rfl hA0 (show 3<6 from by decide) rfl ?_
    try simp only [k_ms,k_sz,k_ss,k_za,Nat.reduceAdd]
    refine k_n ?_
    refine k_u [(0,_),(1,_),(2,_),(4,_),(5,_),(6,_),(7,_),(8,_),(19,_),(9,_),(10,_),(31,_),(39,_)] ?_
    obtain ⟨y,hy⟩ : ∃ y:Pl,y = { y0 with reads:=up1 y0.reads }:=⟨_,rfl⟩
    have hyd:y.d=u.1.d:=by rw [hy,hy0];rfl
    have hyf:y.fr=y0.fr:=by rw [hy]
    have hokY:OkA S a p b c y oE' oW':=hok0.like (by rw [hy]) (by rw [hyf])
    have hiy:u.2.1<y.fr.length:=by rw [hyf,hyl0];exact hul
    have hy256:y.fr.length≤256:=by rw [hyf,hyl0];exact hu256
    have hpn:0≤(atF y u.2.1).pins∧(atF y u.2.1).pins≤256:=by rw [atF_eq hiy];simp only [hyf,hy0,setP,List.getElem_set_self,newF];omega
    have hp0 : ¬ (atF y u.2.1).pins=256:=by rw [atF_eq hiy];simp only [hyf,hy0,setP,List.getElem_set_self,newF];omega
    have hres:(pin1 { setP u.1 u.2.1 (newF s n data) with reads:=up1 u.1.reads } u.2.1,u.2.1,(0:Int))=if (atF y u.2.1).pins=256 then (y,0,11) else (pin1 y u.2.1,u.2.1,0):=by rw [if_neg hp0,hy,hy0];rfl
    refine AWP.less (arM (devM S p u.1.d oE' oW') a p b c y k') (by rw [← ar_setA (x:=y0) (k:=k') hyf];unfold arB;rw [hy];exact Mem.Less.refl _) ?_
    rw [hres]
    rw [← hyd]
    clear hres hA2 hB2 hB20 hA0 hyd hy hyf
    generalize u.2.1=i at *
    have hA3:=ar_own (M:=devM S p y.d oE' oW') (a:=a) (p:=p) (b:=b) (c:=c) (x:=y) (k:=k')
    have hB3:=ar_fr (M:=devM S p y.d oE' oW') (p:=p) (c:=c) (x:=y) (k:=k') hokY.ab
    obtain ⟨_,_,_,kp,_,_,_⟩:=kn_fr (ar_kn (M:=devM S p y.d oE' oW') (p:=p) (k:=k') hokY.ab hokY.l hy256 hiy)
    unfold arB at hA3
    by_cases qp:(atF y i).pins=256
    ·rw [if_pos qp]
     refine k_a (k_m rfl ?_)
     refine rC (Calm.nilCheck rfl) ?_
     refine rC (Calm.fieldAddr ty_field_93_1 rfl) ?_
     refine rC (ld_ ty_plain_26 rfl) ?_
     refine k_m rfl ?_
     refine rC (Calm.indexS Tryz.underlying26 ty_size_62 rfl rfl (by omega) (by omega)) ?_
     refine k_e rfl ?_
     refine k_u [(0,_),(1,_),(2,_),(4,_),(5,_),(6,_),(7,_),(8,_),(19,_),(9,_),(10,_),(31,_),(39,_),(11,_)] ?_
     refine AWP.seq (k_a (k_m rfl ?_))
     refine rC (Calm.nilCheck rfl) ?_
     refine rC (Calm.fieldAddr ty_field_62_3 rfl) ?_
     refine rC (ld_ ty_plain_3 rfl) ?_
     refine rC (Calm.bin rfl rfl (bin_bool (bin_eql _ _) (decide_eq_true qp))) ?_
     refine k_n ?_
     refine k_u [(0,_),(1,_),(2,_),(4,_),(5,_),(6,_),(7,_),(8,_),(19,_),(9,_),(10,_),(31,_),(39,_),(11,_),(68,_)] ?_
     refine k_T rfl ?_
     refine k_a (k_s rfl (k_e rfl ?_))
     refine k_r ?_
     refine ⟨_,arM (devM S p y.d oE' oW') a p b c y k',⟨_,_,rfl,⟨_,_,rfl,rfl,rfl⟩,rfl⟩,Mem.Less.refl _,?_⟩
     exact ⟨rfl,k',oE',oW',hokY,rfl⟩
    ·rw [if_neg qp]
     refine k_a (k_m rfl ?_)
     refine rC (Calm.nilCheck rfl) ?_
     refine rC (Calm.fieldAddr ty_field_93_1 rfl) ?_
     refine rC (ld_ ty_plain_26 rfl) ?_
     refine k_m rfl ?_
     refine rC (Calm.indexS Tryz.underlying26 ty_size_62 rfl rfl (by omega) (by omega)) ?_
     refine k_e rfl ?_
     refine k_u [(0,_),(1,_),(2,_),(4,_),(5,_),(6,_),(7,_),(8,_),(19,_),(9,_),(10,_),(31,_),(39,_),(11,_)] ?_
     refine AWP.seq (k_a (k_m rfl ?_))
     refine rC (Calm.nilCheck rfl) ?_
     refine rC (Calm.fieldAddr ty_field_62_3 rfl) ?_
     refine rC (ld_ ty_plain_3 rfl) ?_
     refine rC (Calm.bin rfl rfl (bin_bool (bin_eql _ _) (decide_eq_false qp))) ?_
     refine k_n ?_
     refine k_u [(0,_),(1,_),(2,_),(4,_),(5,_),(6,_),(7,_),(8,_),(19,_),(9,_),(10,_),(31,_),(39,_),(11,_),(68,_)] ?_
     refine k_F rfl ?_
     refine k_k (k_a (k_m rfl ?_))
     refine rC (Calm.nilCheck rfl) ?_
     refine rC (Calm.fieldAddr ty_field_93_2 rfl) ?_
     refine rC (ld_ ty_plain_27 rfl) ?_
     refine rC (Calm.bin rfl rfl b_add_u64) ?_
     refine rC (Calm.nilCheck rfl) ?_
     refine rC (Calm.fieldAddr ty_field_93_2 rfl) ?_
     refine ARun.store1 rfl rfl ty_size_27 rfl hA3 (show 2<6 from by decide) rfl ?_
     try simp only [k_ms,k_sz,k_ss,k_za,Nat.reduceAdd]
     refine k_n ?_
     refine k_u [(0,_),(1,_),(2,_),(4,_),(5,_),(6,_),(7,_),(8,_),(19,_),(9,_),(10,_),(31,_),(39,_),(11,_),(68,_)] ?_
     obtain ⟨y1,hy1⟩ : ∃ y1:Pl,y1 = { y with tick:=up1 y.tick }:=⟨_,rfl⟩
     have hyd:y1.d=y.d:=by rw [hy1]
     have hyf:y1.fr=y.fr:=by rw [hy1]
     have hyt:y1.tick=up1 y.tick:=by rw [hy1]
     have hA4:=ar_own (M:=devM S p y.d oE' oW') (a:=a) (p:=p) (b:=b) (c:=c) (x:=y1) (k:=k')
     have hB4:=ar_fr (M:=devM S p y.d oE' oW') (p:=p) (c:=c) (x:=y1) (k:=k') hokY.ab
     refine AWP.less (arM (devM S p y.d oE' oW') a p b c y1 k') (by rw [← ar_setA (x:=y) (k:=k') hyf];unfold arB;rw [hyf,hyt,hy1];exact Mem.Less.refl _) ?_
     unfold arB at hA4
     rw [hyf] at hB4 hA4
     refine k_a (k_m rfl (k_m rfl ?_))
     refine rC (Calm.nilCheck rfl) ?_
     refine rC (Calm.fieldAddr ty_field_93_2 rfl) ?_
     refine rC (ld_ ty_plain_27 rfl) ?_
     refine rC (Calm.nilCheck rfl) ?_
     refine rC (Calm.fieldAddr ty_field_62_5 rfl) ?_
     refine ARun.storeFr1 (c:=c) (i:=i) (l:=y.fr) (q:=5) (u:={ atF y i with tick:=y1.tick }) rfl rfl rfl rfl (by omega) (by decide) hiy (by rw [atF_eq hiy];rfl) ty_size_27 hB4 ?_
     try simp only [k_ms,k_sz,k_ss,k_za,Nat.reduceAdd]
     refine k_n ?_
     refine k_u [(0,_),(1,_),(2,_),(4,_),(5,_),(6,_),(7,_),(8,_),(19,_),(9,_),(10,_),(31,_),(39,_),(11,_),(68,_)] ?_
     obtain ⟨y2,hy2⟩ : ∃ y2:Pl,y2 = { y1 with fr:=y.fr.set i { atF y i with tick:=y1.tick } }:=⟨_,rfl⟩
     have hyd2:y2.d=y.d:=by rw [hy2,← hyd]
     have hyl:y2.fr.length=y.fr.length:=by rw [hy2];simp
     have hi2:i<y2.fr.length:=by rw [hyl];exact hiy
     have hat:atF y2 i = { atF y i with tick:=y1.tick }:=by rw [atF_eq hi2];simp only [hy2,List.getElem_set_self]
     have hB5:=ar_fr (M:=devM S p y.d oE' oW') (p:=p) (c:=c) (x:=y2) (k:=k') hokY.ab
     obtain ⟨_,_,_,kp2,_,_,_⟩:=kn_fr (kn_zero <| ar_kn (M:=devM S p y.d oE' oW') (p:=p) (k:=k') hokY.ab (by rw [hyl];exact hokY.l) (by rw [hyl];exact hy256) hi2)
     rw [hat] at kp2
     simp only at kp2
     refine AWP.less (arM (devM S p y.d oE' oW') a p b c y2 k') (by rw [hy2,← ar_setF (x:=y1) hokY.ab _ (by rw [hyf];simp)];exact Mem.Less.refl _) ?_
     refine k_a (k_m rfl ?_)
     refine rC (Calm.nilCheck rfl) ?_
     refine rC (Calm.fieldAddr ty_field_62_3 rfl) ?_
     refine rC (ld_ ty_plain_3 rfl) ?_
     refine rC (Calm.bin rfl rfl b_add_i64) ?_
     refine rC (Calm.nilCheck rfl) ?_
     refine rC (Calm.fieldAddr ty_field_62_3 rfl) ?_
     refine ARun.storeFr1 (c:=c) (i:=i) (l:=y2.fr) (q:=3) (u:={ atF y2 i with pins:=(atF y i).pins+1 }) rfl rfl rfl rfl (by omega) (by decide) hi2 (by rw [atF_eq hi2];rfl) ty_size_3 hB5 ?_
     try simp only [k_ms,k_sz,k_ss,k_za,Nat.reduceAdd]
     refine k_n ?_
     refine k_u [(0,_),(1,_),(2,_),(4,_),(5,_),(6,_),(7,_),(8,_),(19,_),(9,_),(10,_),(31,_),(39,_),(11,_),(68,_)] ?_
     have hfin : { y2 with fr:=y2.fr.set i { atF y2 i with pins:=(atF y i).pins+1 } }=pin1 y i:=by unfold pin1;rw [hat,hyt,hy2,hy1];simp only [List.set_set]
     refine k_a (k_m rfl (k_s rfl (k_e rfl ?_)))
     refine k_u [(0,_),(1,_),(2,_),(4,_),(5,_),(6,_),(7,_),(8,_),(19,_),(9,_),(10,_),(31,_),(39,_),(11,_),(68,_)] ?_
     refine AWP.ret ?_
     refine ⟨_,arM (devM S p y.d oE' oW') a p b c (pin1 y i) k',⟨_,_,rfl,⟨_,_,rfl,rfl,rfl⟩,rfl⟩,(by rw [← hfin,← ar_setF (x:=y2) hokY.ab _ (by simp)];exact Mem.Less.refl _),?_⟩
     exact ⟨rfl,k',oE',oW',hokY.like rfl (by unfold pin1;simp),rfl⟩
   ·rw [if_pos q2]
    refine k_a (k_m rfl ?_)
    refine rC (Calm.bin rfl rfl b_neq) ?_
    refine k_n ?_
    refine k_u [(0,_),(1,_),(2,_),(4,_),(5,_),(6,_),(7,_),(8,_),(19,_),(9,_),(10,_),(31,_),(39,_)] ?_
    refine k_T rfl ?_
    refine k_a (k_m rfl (k_s rfl (k_e rfl ?_)))
    refine k_u [(0,_),(1,_),(2,_),(4,_),(5,_),(6,_),(7,_),(8,_),(19,_),(9,_),(10,_),(31,_),(39,_)] ?_
    refine k_r ?_
    refine athen_ret ?_
    refine ⟨_,arM (devM S p u.1.d oE' oW') a p b c u.1 k',⟨_,_,rfl,⟨_,_,rfl,rfl,rfl⟩,rfl⟩,(Mem.less_set _ _ _ fa.1).trans (Mem.less_set _ _ _ fb.1),?_⟩
    exact ⟨rfl,k',oE',oW',hok',rfl⟩
  ·rw [if_pos q1]
   refine ACall.enter (rs:=[.tmp 6,.tmp 7]) 91 [(0,.pointer (some ⟨a,0,none⟩)),(1,.string s),(2,.int .i64 n)] Tryz.func32 rfl rfl (Nat.le_of_ble_eq_true rfl) rfl ⟨rfl,rfl,rfl,trivial⟩ ?_
   refine k_a ?_
   refine ARun.box1 (lit_lt rfl) rfl rfl ?_
   intro b4 f4
   have g4:=f4
   repeat ((with_reducible replace g4:=fresh_set g4);obtain ⟨g4,_⟩:=g4)
   have:=g4.ne hA;have:=g4.ne' hA
   try simp only [k_l1,k_l0,k_za,Nat.reduceAdd]
   refine ARun.box1 (lit_lt rfl) rfl rfl ?_
   intro b5 f5
   have g5:=f5
   repeat ((with_reducible replace g5:=fresh_set g5);obtain ⟨g5,_⟩:=g5)
   have:=g5.ne hA;have:=g5.ne' hA
   try simp only [k_l1,k_l0,k_za,Nat.reduceAdd]
   refine k_s rfl (k_e rfl (k_a (k_m rfl ?_)))
   refine rC (Calm.nilCheck rfl) ?_
   refine rC (Calm.fieldAddr ty_field_93_1 rfl) ?_
   refine rC (ld_ ty_plain_26 rfl) ?_
   refine rC (Calm.makeFunc rfl rfl) ?_
   refine ARun.call (lit_lt rfl) go_66 rfl (hix _ b5 b4 (hF.less less_) ((rds_own (Mem.own_set_same _ b5 _)).knows) ((rds_own (r:=⟨_,[.string s],1⟩) own_).knows)) ?_
   rintro _ S1 ⟨rfl,h1⟩
   rw [h1];clear h1 S1
   refine k_e rfl ?_
   refine k_u [(0,_),(1,_),(2,_),(4,_),(5,_),(6,_),(7,_),(8,_)] ?_
   refine AWP.seq (k_a (k_m rfl ?_))
   refine rC (Calm.bin rfl rfl b_lss) ?_
   refine k_n ?_
   refine k_u [(0,_),(1,_),(2,_),(4,_),(5,_),(6,_),(7,_),(8,_),(19,_)] ?_
   refine k_T rfl ?_
   refine AWP.seq ?_
   refine AWP.draw [(0,true),(1,true),(2,true),(3,true),(4,true),(5,true),(6,false),(7,true),(8,true),(9,true),(10,true),(11,true)] [] mixed (by kernel_rfl) ?_
   refine dP (hc:=fun _=>Calm.move rfl) (h:=?_)
   refine dP (hc:=fun _=>Calm.nilCheck rfl) (h:=?_)
   refine dP (hc:=fun _=>Calm.fieldAddr ty_field_93_0 rfl) (h:=?_)
   refine dC (hc:=ld_ ty_plain_77 rfl) (h:=?_)
   refine dC (hc:=ld_ ty_plain_9 rfl) (h:=?_)
   refine dC (hc:=ld_ ty_plain_3 rfl) (h:=?_)
   refine draw_only rfl ?_
   refine ARun.call (lit_lt rfl) go_68 rfl (hread _ (hrd.less less_)) ?_
   rintro _ S1 ⟨rfl,h1⟩
   rw [h1];clear h1 S1
   refine arun_nil ⟨fun _=>less_,?_⟩
   refine dP (hc:=fun _=>Calm.move rfl) (h:=?_)
   refine dP (hc:=fun _=>Calm.extract rfl rfl) (h:=?_)
   refine dP (hc:=fun _=>Calm.extract rfl rfl) (h:=?_)
   refine dP (hc:=fun _=>Calm.assign rfl) (h:=?_)
   refine dP (hc:=fun _=>Calm.assign rfl) (h:=?_)
   refine draw_nil ?_
   refine athen_n ?_
   refine k_u [(0,_),(1,_),(2,_),(4,_),(5,_),(6,_),(7,_),(8,_),(19,_),(9,_),(10,_)] ?_
   refine AWP.seq (k_a (k_m rfl ?_))
   refine rC (Calm.bin rfl rfl b_neq) ?_
   refine k_n ?_
   refine k_u [(0,_),(1,_),(2,_),(4,_),(5,_),(6,_),(7,_),(8,_),(19,_),(9,_),(10,_),(31,_)] ?_
   refine k_T rfl ?_
   refine k_a (k_m rfl (k_s rfl (k_e rfl ?_)))
   refine k_u [(0,_),(1,_),(2,_),(4,_),(5,_),(6,_),(7,_),(8,_),(19,_),(9,_),(10,_),(31,_)] ?_
   refine k_r ?_
   refine athen_ret ?_
   refine ⟨_,arM (devM S p x.d oE oW) a p b c x k,⟨_,_,rfl,⟨_,_,rfl,rfl,rfl⟩,rfl⟩,less_,?_⟩
   exact ⟨rfl,k,oE,oW,hok,rfl⟩
end Go.Proofs.YtkeiphkccnfhoaaGreat
