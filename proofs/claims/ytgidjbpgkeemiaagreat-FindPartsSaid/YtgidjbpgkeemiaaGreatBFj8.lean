/-
  Texts that belong together: Fd11, Gro, FdEI, Fd12, Fd13, Fd14, FdL0, FindMath3, FdCol, FdL2, FdL4, FdL3.
-/
import Derived.Test.YtgidjbpgkeemiaaGreatBFj7
set_option linter.unusedVariables false
set_option linter.unusedSimpArgs false
set_option linter.unusedSectionVars false
namespace Go.Proofs.YtgidjbpgkeemiaaGreat
open Go.RowKit Go.Shelf
open Mv Num Loser Srt
set_option maxRecDepth 8000
noncomputable def extP (x : Ix) (a n : Int) : ByteArray × Nat :=
  if chkX x ≠ 0 then (ByteArray.empty, 2) else if a < 0 ∨ n < 0 ∨ (x.col.size : Int) < a ∨ (x.col.size : Int) - a < n then (ByteArray.empty, 1) else ((txtX x).extract a.toNat (a + n).toNat, 0)
theorem told_ext {T ob : List Nat} {N k a m j y : Nat} (hj : j < m) (hl : ob.length = m) (h : ∀ i, i < m → N - k ≤ a + i → N - (k + 1) ≤ a + i → ob.getD i 0 = T.getD (a + i) 0) (hy : y = T.getD (a + j) 0) (hne : ∀ i, i < m → i ≠ j → N - (k + 1) ≤ a + i → N - k ≤ a + i) : ∀ i, i < m → N - (k + 1) ≤ a + i → (ob.set j y).getD i 0 = T.getD (a + i) 0 := fun i hi h2 => by
 by_cases e:i=j
 ·subst e
  rw [List.getD_eq_getElem?_getD,List.getElem?_set_self (by omega)];exact hy
 ·rw [List.getD_eq_getElem?_getD,List.getElem?_set_ne (Ne.symm e),← List.getD_eq_getElem?_getD]
  exact h i hi (hne i hi e h2) h2
theorem ext_ob {t : ByteArray} {ob : List Nat} {a m : Nat} (hl : ob.length = m) (hm : a + m ≤ t.size) (h : ∀ i, i < m → ob.getD i 0 = (numsT t).getD (a + i) 0) : bs (ofN ob) = t.extract a (a + m) := by
 have e:ob=((numsT t).drop a).take m:=List.ext_getElem (by rw [List.length_take,List.length_drop,numsT_length];omega) fun i h1 h2=>by
  have:=h i (by omega)
  rw [getD_get _ _ _ h1,getD_get _ _ _ (by rw [numsT_length];omega)] at this
  rw [this,List.getElem_take,List.getElem_drop]
 rw [e]
 apply str_ext
 rw [data_extract,bs_data,nums_map,← List.map_drop,← List.map_take]
 have e2:∀ l:List UInt8,ofN (l.map UInt8.toNat)=l:=fun l=>by
  unfold ofN;rw [List.map_map]
  exact (List.map_congr_left fun x _=>by simp).trans (List.map_id' l)
 rw [e2,List.drop_take,Nat.add_sub_cancel_left]
set_option maxHeartbeats 4000000 in
theorem fd_Extract (x : Ix) (aa nn : Int) (cx : List Value) (S : Mem) (hx : IxV S cx x) (ha64 : -9223372036854775808 ≤ aa ∧ aa < 9223372036854775808) (hn64 : -9223372036854775808 ≤ nn ∧ nn < 9223372036854775808) :
  ACall Tryz.prog 11 #[.agg cx.toArray,.int .i64 aa,.int .i64 nn] S fun r S'=>r = .tuple #[.string (extP x aa nn).1,.int .i64 ((extP x aa nn).2:Nat)]∧S'=S:=by
 have hx0:=hx
 obtain ⟨p1,c1,n2,p2,c2,p3,c3,p4,c4,rfl,h1,h2,h3,h4⟩:=hx.parts
 unfold extP
 by_cases h0:chkX x=0
 case neg =>
  rw [if_pos h0]
  refine ACall.enterR (args:=[.agg #[.string x.col,.int .i64 x.pri,.slice p1 x.fir.length c1,.slice p2 n2 c2,.string x.bits,.int .i64 x.n,.slice p3 x.cnts.length c3,.slice p4 x.plcs.length c4],.int .i64 aa,.int .i64 nn]) (rs:=[.tmp 6,.tmp 7]) 75 [(0,.agg #[.string x.col,.int .i64 x.pri,.slice p1 x.fir.length c1,.slice p2 n2 c2,.string x.bits,.int .i64 x.n,.slice p3 x.cnts.length c3,.slice p4 x.plcs.length c4]),(1,.int .i64 aa),(2,.int .i64 nn)] Tryz.func11 rfl rfl (Nat.le_of_ble_eq_true rfl) rfl ⟨rfl,rfl,rfl,trivial⟩ ?_
  refine AWPM.seqR (rs:=[.tmp 6,.tmp 7]) rfl ?_
  refine AWP.region ?_
  refine ARun.boxA (cs:=[_,_,_,_,_,_,_,_]) (lit_lt rfl) rfl ?_
  intro b3 f3
  have g3:=f3
  repeat ((with_reducible replace g3:=fresh_set g3);obtain ⟨g3,_⟩:=g3)
  try simp only [k_l1,k_l0,k_za,Nat.reduceAdd]
  refine ARun.box1 (lit_lt rfl) rfl rfl ?_
  intro b4 f4
  have g4:=f4
  repeat ((with_reducible replace g4:=fresh_set g4);obtain ⟨g4,_⟩:=g4)
  try simp only [k_l1,k_l0,k_za,Nat.reduceAdd]
  refine ARun.box1 (lit_lt rfl) rfl rfl ?_
  intro b5 f5
  have g5:=f5
  repeat ((with_reducible replace g5:=fresh_set g5);obtain ⟨g5,_⟩:=g5)
  try simp only [k_l1,k_l0,k_za,Nat.reduceAdd]
  refine k_s rfl (k_e rfl ?_)
  refine AWPM.seqR (rs:=[.tmp 6,.tmp 7]) rfl ?_
  refine AWP.region ?_
  refine rC (ldA_ (cs:=[_,_,_,_,_,_,_,_]) ty_agg_33 ty_size_33 rfl) ?_
  refine ARun.call (lit_lt rfl) go_22 rfl (fd_open_no x _ _ (hx0.less less_) h0) ?_
  rintro _ S1 ⟨rfl,q⟩
  rw [q];clear q S1
  refine k_m rfl ?_
  refine rC (Calm.extract rfl rfl) ?_
  refine rC (Calm.extract rfl rfl) ?_
  refine ARun.alloc (lit_lt rfl) ty_zero_53 ?_
  intro b8 f8
  have g8:=f8
  repeat ((with_reducible replace g8:=fresh_set g8);obtain ⟨g8,_⟩:=g8)
  try simp only [k_l1,k_l0,k_za,Nat.reduceAdd]
  refine ARun.store1 rfl rfl ty_size_53 rfl own_ lens_ rfl ?_
  try simp only [k_ms,k_sz,k_ss,k_za,Nat.reduceAdd]
  refine k_e rfl ?_
  refine AWPM.sub [(0,_),(1,_),(2,_),(3,_),(4,_),(5,_),(6,_),(7,_),(8,_),(9,_)] ⟨rfl,rfl,rfl,rfl,rfl,rfl,rfl,rfl,rfl,rfl,trivial⟩ ?_
  refine AWPM.seqR (rs:=[.tmp 6,.tmp 7]) rfl ?_
  refine k_a (k_m rfl ?_)
  refine rC (Calm.bin rfl rfl b_neq) ?_
  refine k_n ?_
  refine k_u [(0,_),(1,_),(2,_),(3,_),(4,_),(5,_),(6,_),(7,_),(8,_),(9,_),(19,_)] ?_
  refine k_T rfl ?_
  refine k_a (k_m rfl (k_s rfl (k_e rfl ?_)))
  refine k_u [(0,_),(1,_),(2,_),(3,_),(4,_),(5,_),(6,_),(7,_),(8,_),(9,_),(19,_)] ?_
  refine k_r ?_
  refine ⟨_,S,⟨_,_,rfl,⟨_,_,rfl,rfl,rfl⟩,rfl⟩,less_,?_⟩
  exact ⟨rfl,rfl⟩
 obtain ⟨p,t,ho,hp⟩:=chk_ok h0
 rw [if_neg (fun h=>h h0),ho.tx hp]
 have hs:=ho.small
 by_cases g1:aa<0
 ·rw [if_pos (.inl g1)]
  refine ACall.enterR (args:=[.agg #[.string x.col,.int .i64 x.pri,.slice p1 x.fir.length c1,.slice p2 n2 c2,.string x.bits,.int .i64 x.n,.slice p3 x.cnts.length c3,.slice p4 x.plcs.length c4],.int .i64 aa,.int .i64 nn]) (rs:=[.tmp 6,.tmp 7]) 75 [(0,.agg #[.string x.col,.int .i64 x.pri,.slice p1 x.fir.length c1,.slice p2 n2 c2,.string x.bits,.int .i64 x.n,.slice p3 x.cnts.length c3,.slice p4 x.plcs.length c4]),(1,.int .i64 aa),(2,.int .i64 nn)] Tryz.func11 rfl rfl (Nat.le_of_ble_eq_true rfl) rfl ⟨rfl,rfl,rfl,trivial⟩ ?_
  refine AWPM.seqR (rs:=[.tmp 6,.tmp 7]) rfl ?_
  refine AWP.region ?_
  refine ARun.boxA (cs:=[_,_,_,_,_,_,_,_]) (lit_lt rfl) rfl ?_
  intro b3 f3
  have g3:=f3
  repeat ((with_reducible replace g3:=fresh_set g3);obtain ⟨g3,_⟩:=g3)
  try simp only [k_l1,k_l0,k_za,Nat.reduceAdd]
  refine ARun.box1 (lit_lt rfl) rfl rfl ?_
  intro b4 f4
  have g4:=f4
  repeat ((with_reducible replace g4:=fresh_set g4);obtain ⟨g4,_⟩:=g4)
  try simp only [k_l1,k_l0,k_za,Nat.reduceAdd]
  refine ARun.box1 (lit_lt rfl) rfl rfl ?_
  intro b5 f5
  have g5:=f5
  repeat ((with_reducible replace g5:=fresh_set g5);obtain ⟨g5,_⟩:=g5)
  try simp only [k_l1,k_l0,k_za,Nat.reduceAdd]
  refine k_s rfl (k_e rfl ?_)
  refine AWPM.seqR (rs:=[.tmp 6,.tmp 7]) rfl ?_
  refine AWP.region ?_
  refine rC (ldA_ (cs:=[_,_,_,_,_,_,_,_]) ty_agg_33 ty_size_33 rfl) ?_
  refine ARun.call (lit_lt rfl) go_22 rfl (((((fd_open_ok x p t _ S hx0 ho hp).frame f3).frame f4).frame f5)) ?_
  rintro _ _ ⟨_,⟨_,⟨S1,⟨b,rfl,hS1,hB⟩,fa3,rfl⟩,fa4,rfl⟩,fa5,rfl⟩
  have k0:=hB.bk.col
  have ga4:=fa4
  repeat ((with_reducible replace ga4:=fresh_set ga4);obtain ⟨ga4,_⟩:=ga4)
  have ga5:=fa5
  repeat ((with_reducible replace ga5:=fresh_set ga5);obtain ⟨ga5,_⟩:=ga5)
  refine k_m rfl ?_
  refine rC (Calm.extract rfl rfl) ?_
  refine rC (Calm.extract rfl rfl) ?_
  refine ARun.alloc (lit_lt rfl) ty_zero_53 ?_
  intro b8 f8
  have g8:=f8
  repeat ((with_reducible replace g8:=fresh_set g8);obtain ⟨g8,_⟩:=g8)
  try simp only [k_l1,k_l0,k_za,Nat.reduceAdd]
  refine ARun.store1 rfl rfl ty_size_53 rfl own_ lens_ rfl ?_
  try simp only [k_ms,k_sz,k_ss,k_za,Nat.reduceAdd]
  refine k_e rfl ?_
  refine AWPM.sub [(0,_),(1,_),(2,_),(3,_),(4,_),(5,_),(6,_),(7,_),(8,_),(9,_)] ⟨rfl,rfl,rfl,rfl,rfl,rfl,rfl,rfl,rfl,rfl,trivial⟩ ?_
  refine AWPM.seqR (rs:=[.tmp 6,.tmp 7]) rfl ?_
  refine k_a (k_m rfl ?_)
  refine rC (Calm.bin rfl rfl b_neq) ?_
  refine k_n ?_
  refine k_u [(0,_),(1,_),(2,_),(3,_),(4,_),(5,_),(6,_),(7,_),(8,_),(9,_),(19,_)] ?_
  refine k_F rfl ?_
  refine k_k ?_
  refine AWPM.seqR (rs:=[.tmp 6,.tmp 7]) rfl ?_
  refine AWP.seq ?_
  refine AWP.draw [(0,true),(1,true),(2,true),(3,true),(4,true),(5,true),(6,true),(7,true),(8,true),(9,true),(10,true),(11,true),(12,true),(13,true),(14,true),(15,true),(16,true),(17,true),(18,true),(19,true),(20,true),(21,true),(22,true),(23,true),(24,true),(25,true),(26,true),(27,true)] [] mixed (by kernel_rfl) ?_
  refine dC (hc:=ld_ ty_plain_3 rfl) (h:=?_)
  refine dP (hc:=fun _=>Calm.bin rfl rfl b_lss) (h:=?_)
  refine dP (hc:=fun _=>Calm.move rfl) (h:=?_)
  first|refine k_d ?_|refine dL (hc:=ld_ ty_plain_3 rfl) (h:=?_)
  first|refine k_d ?_|refine dG (hc:=fun _=>Calm.bin rfl rfl b_lss) (h:=?_)
  refine dP (hc:=fun _=>(by first | exact Calm.pickT rfl rfl | exact Calm.pickF rfl rfl)) (h:=?_)
  refine dP (hc:=fun _=>Calm.move rfl) (h:=?_)
  first|refine k_d ?_|refine dL (hc:=ld_ ty_plain_3 rfl) (h:=?_)
  first|refine k_d ?_|refine dL (hc:=ld_ ty_plain_53 rfl) (h:=?_)
  first|refine k_d ?_|refine dG (hc:=fun _=>Calm.nilCheck rfl) (h:=?_)
  first|refine k_d ?_|refine dG (hc:=fun _=>Calm.fieldAddr ty_field_59_0 rfl) (h:=?_)
  first|refine k_d ?_|refine dG (hc:=fun _=>Calm.fieldAddr ty_field_33_0 rfl) (h:=?_)
  first|refine k_d ?_|refine dL (hc:=ld_ ty_plain_9 rfl) (h:=?_)
  first|refine k_d ?_|refine dL (hc:=Calm.lenStr (strT_spec ty_str_9) rfl) (h:=?_)
  first|refine k_d ?_|refine dG (hc:=fun _=>Calm.bin rfl rfl b_gtr) (h:=?_)
  refine dP (hc:=fun _=>(by first | exact Calm.pickT rfl rfl | exact Calm.pickF rfl rfl)) (h:=?_)
  refine dP (hc:=fun _=>Calm.move rfl) (h:=?_)
  first|refine k_d ?_|refine dL (hc:=ld_ ty_plain_3 rfl) (h:=?_)
  first|refine k_d ?_|refine dL (hc:=ld_ ty_plain_53 rfl) (h:=?_)
  first|refine k_d ?_|refine dG (hc:=fun _=>Calm.nilCheck rfl) (h:=?_)
  first|refine k_d ?_|refine dG (hc:=fun _=>Calm.fieldAddr ty_field_59_0 rfl) (h:=?_)
  first|refine k_d ?_|refine dG (hc:=fun _=>Calm.fieldAddr ty_field_33_0 rfl) (h:=?_)
  first|refine k_d ?_|refine dL (hc:=ld_ ty_plain_9 rfl) (h:=?_)
  first|refine k_d ?_|refine dL (hc:=Calm.lenStr (strT_spec ty_str_9) rfl) (h:=?_)
  first|refine k_d ?_|refine dL (hc:=ld_ ty_plain_3 rfl) (h:=?_)
  first|refine k_d ?_|refine dG (hc:=fun _=>Calm.bin rfl rfl b_sub_i64) (h:=?_)
  first|refine k_d ?_|refine dG (hc:=fun _=>Calm.bin rfl rfl b_gtr) (h:=?_)
  refine dP (hc:=fun _=>(by first | exact Calm.pickT rfl rfl | exact Calm.pickF rfl rfl)) (h:=?_)
  refine draw_nil ?_
  refine athen_n ?_
  refine k_u [(0,_),(1,_),(2,_),(3,_),(4,_),(5,_),(6,_),(7,_),(8,_),(9,_),(19,_),(48,_)] ?_
  refine k_T rfl ?_
  refine k_a (k_s rfl (k_e rfl ?_))
  refine k_r ?_
  refine ⟨_,S,⟨_,_,rfl,⟨_,_,rfl,rfl,rfl⟩,rfl⟩,hS1.trans less_,?_⟩
  exact ⟨rfl,rfl⟩
 by_cases g2:nn<0
 ·rw [if_pos (.inr (.inl g2))]
  refine ACall.enterR (args:=[.agg #[.string x.col,.int .i64 x.pri,.slice p1 x.fir.length c1,.slice p2 n2 c2,.string x.bits,.int .i64 x.n,.slice p3 x.cnts.length c3,.slice p4 x.plcs.length c4],.int .i64 aa,.int .i64 nn]) (rs:=[.tmp 6,.tmp 7]) 75 [(0,.agg #[.string x.col,.int .i64 x.pri,.slice p1 x.fir.length c1,.slice p2 n2 c2,.string x.bits,.int .i64 x.n,.slice p3 x.cnts.length c3,.slice p4 x.plcs.length c4]),(1,.int .i64 aa),(2,.int .i64 nn)] Tryz.func11 rfl rfl (Nat.le_of_ble_eq_true rfl) rfl ⟨rfl,rfl,rfl,trivial⟩ ?_
  refine AWPM.seqR (rs:=[.tmp 6,.tmp 7]) rfl ?_
  refine AWP.region ?_
  refine ARun.boxA (cs:=[_,_,_,_,_,_,_,_]) (lit_lt rfl) rfl ?_
  intro b3 f3
  have g3:=f3
  repeat ((with_reducible replace g3:=fresh_set g3);obtain ⟨g3,_⟩:=g3)
  try simp only [k_l1,k_l0,k_za,Nat.reduceAdd]
  refine ARun.box1 (lit_lt rfl) rfl rfl ?_
  intro b4 f4
  have g4:=f4
  repeat ((with_reducible replace g4:=fresh_set g4);obtain ⟨g4,_⟩:=g4)
  try simp only [k_l1,k_l0,k_za,Nat.reduceAdd]
  refine ARun.box1 (lit_lt rfl) rfl rfl ?_
  intro b5 f5
  have g5:=f5
  repeat ((with_reducible replace g5:=fresh_set g5);obtain ⟨g5,_⟩:=g5)
  try simp only [k_l1,k_l0,k_za,Nat.reduceAdd]
  refine k_s rfl (k_e rfl ?_)
  refine AWPM.seqR (rs:=[.tmp 6,.tmp 7]) rfl ?_
  refine AWP.region ?_
  refine rC (ldA_ (cs:=[_,_,_,_,_,_,_,_]) ty_agg_33 ty_size_33 rfl) ?_
  refine ARun.call (lit_lt rfl) go_22 rfl (((((fd_open_ok x p t _ S hx0 ho hp).frame f3).frame f4).frame f5)) ?_
  rintro _ _ ⟨_,⟨_,⟨S1,⟨b,rfl,hS1,hB⟩,fa3,rfl⟩,fa4,rfl⟩,fa5,rfl⟩
  have k0:=hB.bk.col
  have ga4:=fa4
  repeat ((with_reducible replace ga4:=fresh_set ga4);obtain ⟨ga4,_⟩:=ga4)
  have ga5:=fa5
  repeat ((with_reducible replace ga5:=fresh_set ga5);obtain ⟨ga5,_⟩:=ga5)
  refine k_m rfl ?_
  refine rC (Calm.extract rfl rfl) ?_
  refine rC (Calm.extract rfl rfl) ?_
  refine ARun.alloc (lit_lt rfl) ty_zero_53 ?_
  intro b8 f8
  have g8:=f8
  repeat ((with_reducible replace g8:=fresh_set g8);obtain ⟨g8,_⟩:=g8)
  try simp only [k_l1,k_l0,k_za,Nat.reduceAdd]
  refine ARun.store1 rfl rfl ty_size_53 rfl own_ lens_ rfl ?_
  try simp only [k_ms,k_sz,k_ss,k_za,Nat.reduceAdd]
  refine k_e rfl ?_
  refine AWPM.sub [(0,_),(1,_),(2,_),(3,_),(4,_),(5,_),(6,_),(7,_),(8,_),(9,_)] ⟨rfl,rfl,rfl,rfl,rfl,rfl,rfl,rfl,rfl,rfl,trivial⟩ ?_
  refine AWPM.seqR (rs:=[.tmp 6,.tmp 7]) rfl ?_
  refine k_a (k_m rfl ?_)
  refine rC (Calm.bin rfl rfl b_neq) ?_
  refine k_n ?_
  refine k_u [(0,_),(1,_),(2,_),(3,_),(4,_),(5,_),(6,_),(7,_),(8,_),(9,_),(19,_)] ?_
  refine k_F rfl ?_
  refine k_k ?_
  refine AWPM.seqR (rs:=[.tmp 6,.tmp 7]) rfl ?_
  refine AWP.seq ?_
  refine AWP.draw [(0,true),(1,true),(2,true),(3,true),(4,true),(5,true),(6,true),(7,true),(8,true),(9,true),(10,true),(11,true),(12,true),(13,true),(14,true),(15,true),(16,true),(17,true),(18,true),(19,true),(20,true),(21,true),(22,true),(23,true),(24,true),(25,true),(26,true),(27,true)] [] mixed (by kernel_rfl) ?_
  refine dC (hc:=ld_ ty_plain_3 rfl) (h:=?_)
  refine dP (hc:=fun _=>Calm.bin rfl rfl b_lss) (h:=?_)
  refine dP (hc:=fun _=>Calm.move rfl) (h:=?_)
  first|refine k_d ?_|refine dL (hc:=ld_ ty_plain_3 rfl) (h:=?_)
  first|refine k_d ?_|refine dG (hc:=fun _=>Calm.bin rfl rfl b_lss) (h:=?_)
  refine dP (hc:=fun _=>(by first | exact Calm.pickT rfl rfl | exact Calm.pickF rfl rfl)) (h:=?_)
  refine dP (hc:=fun _=>Calm.move rfl) (h:=?_)
  first|refine k_d ?_|refine dL (hc:=ld_ ty_plain_3 rfl) (h:=?_)
  first|refine k_d ?_|refine dL (hc:=ld_ ty_plain_53 rfl) (h:=?_)
  first|refine k_d ?_|refine dG (hc:=fun _=>Calm.nilCheck rfl) (h:=?_)
  first|refine k_d ?_|refine dG (hc:=fun _=>Calm.fieldAddr ty_field_59_0 rfl) (h:=?_)
  first|refine k_d ?_|refine dG (hc:=fun _=>Calm.fieldAddr ty_field_33_0 rfl) (h:=?_)
  first|refine k_d ?_|refine dL (hc:=ld_ ty_plain_9 rfl) (h:=?_)
  first|refine k_d ?_|refine dL (hc:=Calm.lenStr (strT_spec ty_str_9) rfl) (h:=?_)
  first|refine k_d ?_|refine dG (hc:=fun _=>Calm.bin rfl rfl b_gtr) (h:=?_)
  refine dP (hc:=fun _=>(by first | exact Calm.pickT rfl rfl | exact Calm.pickF rfl rfl)) (h:=?_)
  refine dP (hc:=fun _=>Calm.move rfl) (h:=?_)
  first|refine k_d ?_|refine dL (hc:=ld_ ty_plain_3 rfl) (h:=?_)
  first|refine k_d ?_|refine dL (hc:=ld_ ty_plain_53 rfl) (h:=?_)
  first|refine k_d ?_|refine dG (hc:=fun _=>Calm.nilCheck rfl) (h:=?_)
  first|refine k_d ?_|refine dG (hc:=fun _=>Calm.fieldAddr ty_field_59_0 rfl) (h:=?_)
  first|refine k_d ?_|refine dG (hc:=fun _=>Calm.fieldAddr ty_field_33_0 rfl) (h:=?_)
  first|refine k_d ?_|refine dL (hc:=ld_ ty_plain_9 rfl) (h:=?_)
  first|refine k_d ?_|refine dL (hc:=Calm.lenStr (strT_spec ty_str_9) rfl) (h:=?_)
  first|refine k_d ?_|refine dL (hc:=ld_ ty_plain_3 rfl) (h:=?_)
  first|refine k_d ?_|refine dG (hc:=fun _=>Calm.bin rfl rfl b_sub_i64) (h:=?_)
  first|refine k_d ?_|refine dG (hc:=fun _=>Calm.bin rfl rfl b_gtr) (h:=?_)
  refine dP (hc:=fun _=>(by first | exact Calm.pickT rfl rfl | exact Calm.pickF rfl rfl)) (h:=?_)
  refine draw_nil ?_
  refine athen_n ?_
  refine k_u [(0,_),(1,_),(2,_),(3,_),(4,_),(5,_),(6,_),(7,_),(8,_),(9,_),(19,_),(48,_)] ?_
  refine k_T rfl ?_
  refine k_a (k_s rfl (k_e rfl ?_))
  refine k_r ?_
  refine ⟨_,S,⟨_,_,rfl,⟨_,_,rfl,rfl,rfl⟩,rfl⟩,hS1.trans less_,?_⟩
  exact ⟨rfl,rfl⟩
 by_cases g3:(x.col.size:Int)<aa
 ·rw [if_pos (.inr (.inr (.inl g3)))]
  refine ACall.enterR (args:=[.agg #[.string x.col,.int .i64 x.pri,.slice p1 x.fir.length c1,.slice p2 n2 c2,.string x.bits,.int .i64 x.n,.slice p3 x.cnts.length c3,.slice p4 x.plcs.length c4],.int .i64 aa,.int .i64 nn]) (rs:=[.tmp 6,.tmp 7]) 75 [(0,.agg #[.string x.col,.int .i64 x.pri,.slice p1 x.fir.length c1,.slice p2 n2 c2,.string x.bits,.int .i64 x.n,.slice p3 x.cnts.length c3,.slice p4 x.plcs.length c4]),(1,.int .i64 aa),(2,.int .i64 nn)] Tryz.func11 rfl rfl (Nat.le_of_ble_eq_true rfl) rfl ⟨rfl,rfl,rfl,trivial⟩ ?_
  refine AWPM.seqR (rs:=[.tmp 6,.tmp 7]) rfl ?_
  refine AWP.region ?_
  refine ARun.boxA (cs:=[_,_,_,_,_,_,_,_]) (lit_lt rfl) rfl ?_
  intro b3 f3
  have g3:=f3
  repeat ((with_reducible replace g3:=fresh_set g3);obtain ⟨g3,_⟩:=g3)
  try simp only [k_l1,k_l0,k_za,Nat.reduceAdd]
  refine ARun.box1 (lit_lt rfl) rfl rfl ?_
  intro b4 f4
  have g4:=f4
  repeat ((with_reducible replace g4:=fresh_set g4);obtain ⟨g4,_⟩:=g4)
  try simp only [k_l1,k_l0,k_za,Nat.reduceAdd]
  refine ARun.box1 (lit_lt rfl) rfl rfl ?_
  intro b5 f5
  have g5:=f5
  repeat ((with_reducible replace g5:=fresh_set g5);obtain ⟨g5,_⟩:=g5)
  try simp only [k_l1,k_l0,k_za,Nat.reduceAdd]
  refine k_s rfl (k_e rfl ?_)
  refine AWPM.seqR (rs:=[.tmp 6,.tmp 7]) rfl ?_
  refine AWP.region ?_
  refine rC (ldA_ (cs:=[_,_,_,_,_,_,_,_]) ty_agg_33 ty_size_33 rfl) ?_
  refine ARun.call (lit_lt rfl) go_22 rfl (((((fd_open_ok x p t _ S hx0 ho hp).frame f3).frame f4).frame f5)) ?_
  rintro _ _ ⟨_,⟨_,⟨S1,⟨b,rfl,hS1,hB⟩,fa3,rfl⟩,fa4,rfl⟩,fa5,rfl⟩
  have k0:=hB.bk.col
  have ga4:=fa4
  repeat ((with_reducible replace ga4:=fresh_set ga4);obtain ⟨ga4,_⟩:=ga4)
  have ga5:=fa5
  repeat ((with_reducible replace ga5:=fresh_set ga5);obtain ⟨ga5,_⟩:=ga5)
  refine k_m rfl ?_
  refine rC (Calm.extract rfl rfl) ?_
  refine rC (Calm.extract rfl rfl) ?_
  refine ARun.alloc (lit_lt rfl) ty_zero_53 ?_
  intro b8 f8
  have g8:=f8
  repeat ((with_reducible replace g8:=fresh_set g8);obtain ⟨g8,_⟩:=g8)
  try simp only [k_l1,k_l0,k_za,Nat.reduceAdd]
  refine ARun.store1 rfl rfl ty_size_53 rfl own_ lens_ rfl ?_
  try simp only [k_ms,k_sz,k_ss,k_za,Nat.reduceAdd]
  refine k_e rfl ?_
  refine AWPM.sub [(0,_),(1,_),(2,_),(3,_),(4,_),(5,_),(6,_),(7,_),(8,_),(9,_)] ⟨rfl,rfl,rfl,rfl,rfl,rfl,rfl,rfl,rfl,rfl,trivial⟩ ?_
  refine AWPM.seqR (rs:=[.tmp 6,.tmp 7]) rfl ?_
  refine k_a (k_m rfl ?_)
  refine rC (Calm.bin rfl rfl b_neq) ?_
  refine k_n ?_
  refine k_u [(0,_),(1,_),(2,_),(3,_),(4,_),(5,_),(6,_),(7,_),(8,_),(9,_),(19,_)] ?_
  refine k_F rfl ?_
  refine k_k ?_
  refine AWPM.seqR (rs:=[.tmp 6,.tmp 7]) rfl ?_
  refine AWP.seq ?_
  refine AWP.draw [(0,true),(1,true),(2,true),(3,true),(4,true),(5,true),(6,true),(7,true),(8,true),(9,true),(10,true),(11,true),(12,true),(13,true),(14,true),(15,true),(16,true),(17,true),(18,true),(19,true),(20,true),(21,true),(22,true),(23,true),(24,true),(25,true),(26,true),(27,true)] [] mixed (by kernel_rfl) ?_
  refine dC (hc:=ld_ ty_plain_3 rfl) (h:=?_)
  refine dP (hc:=fun _=>Calm.bin rfl rfl b_lss) (h:=?_)
  refine dP (hc:=fun _=>Calm.move rfl) (h:=?_)
  first|refine k_d ?_|refine dL (hc:=ld_ ty_plain_3 rfl) (h:=?_)
  first|refine k_d ?_|refine dG (hc:=fun _=>Calm.bin rfl rfl b_lss) (h:=?_)
  refine dP (hc:=fun _=>(by first | exact Calm.pickT rfl rfl | exact Calm.pickF rfl rfl)) (h:=?_)
  refine dP (hc:=fun _=>Calm.move rfl) (h:=?_)
  first|refine k_d ?_|refine dL (hc:=ld_ ty_plain_3 rfl) (h:=?_)
  first|refine k_d ?_|refine dL (hc:=ld_ ty_plain_53 rfl) (h:=?_)
  first|refine k_d ?_|refine dG (hc:=fun _=>Calm.nilCheck rfl) (h:=?_)
  first|refine k_d ?_|refine dG (hc:=fun _=>Calm.fieldAddr ty_field_59_0 rfl) (h:=?_)
  first|refine k_d ?_|refine dG (hc:=fun _=>Calm.fieldAddr ty_field_33_0 rfl) (h:=?_)
  first|refine k_d ?_|refine dL (hc:=ld_ ty_plain_9 rfl) (h:=?_)
  first|refine k_d ?_|refine dL (hc:=Calm.lenStr (strT_spec ty_str_9) rfl) (h:=?_)
  first|refine k_d ?_|refine dG (hc:=fun _=>Calm.bin rfl rfl b_gtr) (h:=?_)
  refine dP (hc:=fun _=>(by first | exact Calm.pickT rfl rfl | exact Calm.pickF rfl rfl)) (h:=?_)
  refine dP (hc:=fun _=>Calm.move rfl) (h:=?_)
  first|refine k_d ?_|refine dL (hc:=ld_ ty_plain_3 rfl) (h:=?_)
  first|refine k_d ?_|refine dL (hc:=ld_ ty_plain_53 rfl) (h:=?_)
  first|refine k_d ?_|refine dG (hc:=fun _=>Calm.nilCheck rfl) (h:=?_)
  first|refine k_d ?_|refine dG (hc:=fun _=>Calm.fieldAddr ty_field_59_0 rfl) (h:=?_)
  first|refine k_d ?_|refine dG (hc:=fun _=>Calm.fieldAddr ty_field_33_0 rfl) (h:=?_)
  first|refine k_d ?_|refine dL (hc:=ld_ ty_plain_9 rfl) (h:=?_)
  first|refine k_d ?_|refine dL (hc:=Calm.lenStr (strT_spec ty_str_9) rfl) (h:=?_)
  first|refine k_d ?_|refine dL (hc:=ld_ ty_plain_3 rfl) (h:=?_)
  first|refine k_d ?_|refine dG (hc:=fun _=>Calm.bin rfl rfl b_sub_i64) (h:=?_)
  first|refine k_d ?_|refine dG (hc:=fun _=>Calm.bin rfl rfl b_gtr) (h:=?_)
  refine dP (hc:=fun _=>(by first | exact Calm.pickT rfl rfl | exact Calm.pickF rfl rfl)) (h:=?_)
  refine draw_nil ?_
  refine athen_n ?_
  refine k_u [(0,_),(1,_),(2,_),(3,_),(4,_),(5,_),(6,_),(7,_),(8,_),(9,_),(19,_),(48,_)] ?_
  refine k_T rfl ?_
  refine k_a (k_s rfl (k_e rfl ?_))
  refine k_r ?_
  refine ⟨_,S,⟨_,_,rfl,⟨_,_,rfl,rfl,rfl⟩,rfl⟩,hS1.trans less_,?_⟩
  exact ⟨rfl,rfl⟩
 by_cases g4:(x.col.size:Int)-aa<nn
 ·rw [if_pos (.inr (.inr (.inr g4)))]
  refine ACall.enterR (args:=[.agg #[.string x.col,.int .i64 x.pri,.slice p1 x.fir.length c1,.slice p2 n2 c2,.string x.bits,.int .i64 x.n,.slice p3 x.cnts.length c3,.slice p4 x.plcs.length c4],.int .i64 aa,.int .i64 nn]) (rs:=[.tmp 6,.tmp 7]) 75 [(0,.agg #[.string x.col,.int .i64 x.pri,.slice p1 x.fir.length c1,.slice p2 n2 c2,.string x.bits,.int .i64 x.n,.slice p3 x.cnts.length c3,.slice p4 x.plcs.length c4]),(1,.int .i64 aa),(2,.int .i64 nn)] Tryz.func11 rfl rfl (Nat.le_of_ble_eq_true rfl) rfl ⟨rfl,rfl,rfl,trivial⟩ ?_
  refine AWPM.seqR (rs:=[.tmp 6,.tmp 7]) rfl ?_
  refine AWP.region ?_
  refine ARun.boxA (cs:=[_,_,_,_,_,_,_,_]) (lit_lt rfl) rfl ?_
  intro b3 f3
  have g3:=f3
  repeat ((with_reducible replace g3:=fresh_set g3);obtain ⟨g3,_⟩:=g3)
  try simp only [k_l1,k_l0,k_za,Nat.reduceAdd]
  refine ARun.box1 (lit_lt rfl) rfl rfl ?_
  intro b4 f4
  have g4:=f4
  repeat ((with_reducible replace g4:=fresh_set g4);obtain ⟨g4,_⟩:=g4)
  try simp only [k_l1,k_l0,k_za,Nat.reduceAdd]
  refine ARun.box1 (lit_lt rfl) rfl rfl ?_
  intro b5 f5
  have g5:=f5
  repeat ((with_reducible replace g5:=fresh_set g5);obtain ⟨g5,_⟩:=g5)
  try simp only [k_l1,k_l0,k_za,Nat.reduceAdd]
  refine k_s rfl (k_e rfl ?_)
  refine AWPM.seqR (rs:=[.tmp 6,.tmp 7]) rfl ?_
  refine AWP.region ?_
  refine rC (ldA_ (cs:=[_,_,_,_,_,_,_,_]) ty_agg_33 ty_size_33 rfl) ?_
  refine ARun.call (lit_lt rfl) go_22 rfl (((((fd_open_ok x p t _ S hx0 ho hp).frame f3).frame f4).frame f5)) ?_
  rintro _ _ ⟨_,⟨_,⟨S1,⟨b,rfl,hS1,hB⟩,fa3,rfl⟩,fa4,rfl⟩,fa5,rfl⟩
  have k0:=hB.bk.col
  have ga4:=fa4
  repeat ((with_reducible replace ga4:=fresh_set ga4);obtain ⟨ga4,_⟩:=ga4)
  have ga5:=fa5
  repeat ((with_reducible replace ga5:=fresh_set ga5);obtain ⟨ga5,_⟩:=ga5)
  refine k_m rfl ?_
  refine rC (Calm.extract rfl rfl) ?_
  refine rC (Calm.extract rfl rfl) ?_
  refine ARun.alloc (lit_lt rfl) ty_zero_53 ?_
  intro b8 f8
  have g8:=f8
  repeat ((with_reducible replace g8:=fresh_set g8);obtain ⟨g8,_⟩:=g8)
  try simp only [k_l1,k_l0,k_za,Nat.reduceAdd]
  refine ARun.store1 rfl rfl ty_size_53 rfl own_ lens_ rfl ?_
  try simp only [k_ms,k_sz,k_ss,k_za,Nat.reduceAdd]
  refine k_e rfl ?_
  refine AWPM.sub [(0,_),(1,_),(2,_),(3,_),(4,_),(5,_),(6,_),(7,_),(8,_),(9,_)] ⟨rfl,rfl,rfl,rfl,rfl,rfl,rfl,rfl,rfl,rfl,trivial⟩ ?_
  refine AWPM.seqR (rs:=[.tmp 6,.tmp 7]) rfl ?_
  refine k_a (k_m rfl ?_)
  refine rC (Calm.bin rfl rfl b_neq) ?_
  refine k_n ?_
  refine k_u [(0,_),(1,_),(2,_),(3,_),(4,_),(5,_),(6,_),(7,_),(8,_),(9,_),(19,_)] ?_
  refine k_F rfl ?_
  refine k_k ?_
  refine AWPM.seqR (rs:=[.tmp 6,.tmp 7]) rfl ?_
  refine AWP.seq ?_
  refine AWP.draw [(0,true),(1,true),(2,true),(3,true),(4,true),(5,true),(6,true),(7,true),(8,true),(9,true),(10,true),(11,true),(12,true),(13,true),(14,true),(15,true),(16,true),(17,true),(18,true),(19,true),(20,true),(21,true),(22,true),(23,true),(24,true),(25,true),(26,true),(27,true)] [] mixed (by kernel_rfl) ?_
  refine dC (hc:=ld_ ty_plain_3 rfl) (h:=?_)
  refine dP (hc:=fun _=>Calm.bin rfl rfl b_lss) (h:=?_)
  refine dP (hc:=fun _=>Calm.move rfl) (h:=?_)
  first|refine k_d ?_|refine dL (hc:=ld_ ty_plain_3 rfl) (h:=?_)
  first|refine k_d ?_|refine dG (hc:=fun _=>Calm.bin rfl rfl b_lss) (h:=?_)
  refine dP (hc:=fun _=>(by first | exact Calm.pickT rfl rfl | exact Calm.pickF rfl rfl)) (h:=?_)
  refine dP (hc:=fun _=>Calm.move rfl) (h:=?_)
  first|refine k_d ?_|refine dL (hc:=ld_ ty_plain_3 rfl) (h:=?_)
  first|refine k_d ?_|refine dL (hc:=ld_ ty_plain_53 rfl) (h:=?_)
  first|refine k_d ?_|refine dG (hc:=fun _=>Calm.nilCheck rfl) (h:=?_)
  first|refine k_d ?_|refine dG (hc:=fun _=>Calm.fieldAddr ty_field_59_0 rfl) (h:=?_)
  first|refine k_d ?_|refine dG (hc:=fun _=>Calm.fieldAddr ty_field_33_0 rfl) (h:=?_)
  first|refine k_d ?_|refine dL (hc:=ld_ ty_plain_9 rfl) (h:=?_)
  first|refine k_d ?_|refine dL (hc:=Calm.lenStr (strT_spec ty_str_9) rfl) (h:=?_)
  first|refine k_d ?_|refine dG (hc:=fun _=>Calm.bin rfl rfl b_gtr) (h:=?_)
  refine dP (hc:=fun _=>(by first | exact Calm.pickT rfl rfl | exact Calm.pickF rfl rfl)) (h:=?_)
  refine dP (hc:=fun _=>Calm.move rfl) (h:=?_)
  first|refine k_d ?_|refine dL (hc:=ld_ ty_plain_3 rfl) (h:=?_)
  first|refine k_d ?_|refine dL (hc:=ld_ ty_plain_53 rfl) (h:=?_)
  first|refine k_d ?_|refine dG (hc:=fun _=>Calm.nilCheck rfl) (h:=?_)
  first|refine k_d ?_|refine dG (hc:=fun _=>Calm.fieldAddr ty_field_59_0 rfl) (h:=?_)
  first|refine k_d ?_|refine dG (hc:=fun _=>Calm.fieldAddr ty_field_33_0 rfl) (h:=?_)
  first|refine k_d ?_|refine dL (hc:=ld_ ty_plain_9 rfl) (h:=?_)
  first|refine k_d ?_|refine dL (hc:=Calm.lenStr (strT_spec ty_str_9) rfl) (h:=?_)
  first|refine k_d ?_|refine dL (hc:=ld_ ty_plain_3 rfl) (h:=?_)
  first|refine k_d ?_|refine dG (hc:=fun _=>Calm.bin rfl rfl b_sub_i64) (h:=?_)
  first|refine k_d ?_|refine dG (hc:=fun _=>Calm.bin rfl rfl b_gtr) (h:=?_)
  refine dP (hc:=fun _=>(by first | exact Calm.pickT rfl rfl | exact Calm.pickF rfl rfl)) (h:=?_)
  refine draw_nil ?_
  refine athen_n ?_
  refine k_u [(0,_),(1,_),(2,_),(3,_),(4,_),(5,_),(6,_),(7,_),(8,_),(9,_),(19,_),(48,_)] ?_
  refine k_T rfl ?_
  refine k_a (k_s rfl (k_e rfl ?_))
  refine k_r ?_
  refine ⟨_,S,⟨_,_,rfl,⟨_,_,rfl,rfl,rfl⟩,rfl⟩,hS1.trans less_,?_⟩
  exact ⟨rfl,rfl⟩
 obtain ⟨a,rfl⟩ : ∃ a:Nat,aa=a:=⟨aa.toNat,by omega⟩
 obtain ⟨m,rfl⟩ : ∃ m:Nat,nn=m:=⟨nn.toNat,by omega⟩
 have hb : ¬ ((a:Int)<0∨(m:Int)<0∨(x.col.size:Int)<a∨(x.col.size:Int)-a<m):=fun h=>by rcases h with h | h | h | h <;> omega
 rw [if_neg hb,Int.toNat_natCast,show ((a:Int)+m).toNat=a+m by omega]
 have hcol:=ho.col
 have hple:=ho.le
 have htz:=ho.size
 obtain ⟨T,hT⟩ : ∃ T,T=numsT t:=⟨_,rfl⟩
 have hTl:T.length=x.col.size:=by rw [hT,numsT_length,htz]
 obtain ⟨N,hN⟩ : ∃ N,N=x.col.size:=⟨_,rfl⟩
 refine ACall.enterR (args:=[.agg #[.string x.col,.int .i64 x.pri,.slice p1 x.fir.length c1,.slice p2 n2 c2,.string x.bits,.int .i64 x.n,.slice p3 x.cnts.length c3,.slice p4 x.plcs.length c4],.int .i64 (a:Int),.int .i64 (m:Int)]) (rs:=[.tmp 6,.tmp 7]) 75 [(0,.agg #[.string x.col,.int .i64 x.pri,.slice p1 x.fir.length c1,.slice p2 n2 c2,.string x.bits,.int .i64 x.n,.slice p3 x.cnts.length c3,.slice p4 x.plcs.length c4]),(1,.int .i64 (a:Int)),(2,.int .i64 (m:Int))] Tryz.func11 rfl rfl (Nat.le_of_ble_eq_true rfl) rfl ⟨rfl,rfl,rfl,trivial⟩ ?_
 refine AWPM.seqR (rs:=[.tmp 6,.tmp 7]) rfl ?_
 refine AWP.region ?_
 refine ARun.boxA (cs:=[_,_,_,_,_,_,_,_]) (lit_lt rfl) rfl ?_
 intro b3 f3
 have g3:=f3
 repeat ((with_reducible replace g3:=fresh_set g3);obtain ⟨g3,_⟩:=g3)
 try simp only [k_l1,k_l0,k_za,Nat.reduceAdd]
 refine ARun.box1 (lit_lt rfl) rfl rfl ?_
 intro b4 f4
 have g4:=f4
 repeat ((with_reducible replace g4:=fresh_set g4);obtain ⟨g4,_⟩:=g4)
 try simp only [k_l1,k_l0,k_za,Nat.reduceAdd]
 refine ARun.box1 (lit_lt rfl) rfl rfl ?_
 intro b5 f5
 have g5:=f5
 repeat ((with_reducible replace g5:=fresh_set g5);obtain ⟨g5,_⟩:=g5)
 try simp only [k_l1,k_l0,k_za,Nat.reduceAdd]
 refine k_s rfl (k_e rfl ?_)
 refine AWPM.seqR (rs:=[.tmp 6,.tmp 7]) rfl ?_
 refine AWP.region ?_
 refine rC (ldA_ (cs:=[_,_,_,_,_,_,_,_]) ty_agg_33 ty_size_33 rfl) ?_
 refine ARun.call (lit_lt rfl) go_22 rfl (((((fd_open_ok x p t _ S hx0 ho hp).frame f3).frame f4).frame f5)) ?_
 rintro _ _ ⟨_,⟨_,⟨S1,⟨b,rfl,hS1,hB⟩,fa3,rfl⟩,fa4,rfl⟩,fa5,rfl⟩
 have k0:=hB.bk.col
 have ga4:=fa4
 repeat ((with_reducible replace ga4:=fresh_set ga4);obtain ⟨ga4,_⟩:=ga4)
 have ga5:=fa5
 repeat ((with_reducible replace ga5:=fresh_set ga5);obtain ⟨ga5,_⟩:=ga5)
 refine k_m rfl ?_
 refine rC (Calm.extract rfl rfl) ?_
 refine rC (Calm.extract rfl rfl) ?_
 refine ARun.alloc (lit_lt rfl) ty_zero_53 ?_
 intro b8 f8
 have g8:=f8
 repeat ((with_reducible replace g8:=fresh_set g8);obtain ⟨g8,_⟩:=g8)
 try simp only [k_l1,k_l0,k_za,Nat.reduceAdd]
 refine ARun.store1 rfl rfl ty_size_53 rfl own_ lens_ rfl ?_
 try simp only [k_ms,k_sz,k_ss,k_za,Nat.reduceAdd]
 refine k_e rfl ?_
 refine AWPM.sub [(0,_),(1,_),(2,_),(3,_),(4,_),(5,_),(6,_),(7,_),(8,_),(9,_)] ⟨rfl,rfl,rfl,rfl,rfl,rfl,rfl,rfl,rfl,rfl,trivial⟩ ?_
 refine AWPM.seqR (rs:=[.tmp 6,.tmp 7]) rfl ?_
 refine k_a (k_m rfl ?_)
 refine rC (Calm.bin rfl rfl b_neq) ?_
 refine k_n ?_
 refine k_u [(0,_),(1,_),(2,_),(3,_),(4,_),(5,_),(6,_),(7,_),(8,_),(9,_),(19,_)] ?_
 refine k_F rfl ?_
 refine k_k ?_
 refine AWPM.seqR (rs:=[.tmp 6,.tmp 7]) rfl ?_
 refine AWP.seq ?_
 refine AWP.draw [(0,true),(1,true),(2,true),(3,true),(4,true),(5,true),(6,true),(7,true),(8,true),(9,true),(10,true),(11,true),(12,true),(13,true),(14,true),(15,true),(16,true),(17,true),(18,true),(19,true),(20,true),(21,true),(22,true),(23,true),(24,true),(25,true),(26,true),(27,true)] [] mixed (by kernel_rfl) ?_
 refine dC (hc:=ld_ ty_plain_3 rfl) (h:=?_)
 refine dP (hc:=fun _=>Calm.bin rfl rfl b_lss) (h:=?_)
 refine dP (hc:=fun _=>Calm.move rfl) (h:=?_)
 first|refine k_d ?_|refine dL (hc:=ld_ ty_plain_3 rfl) (h:=?_)
 first|refine k_d ?_|refine dG (hc:=fun _=>Calm.bin rfl rfl b_lss) (h:=?_)
 refine dP (hc:=fun _=>(by first | exact Calm.pickT rfl rfl | exact Calm.pickF rfl rfl)) (h:=?_)
 refine dP (hc:=fun _=>Calm.move rfl) (h:=?_)
 first|refine k_d ?_|refine dL (hc:=ld_ ty_plain_3 rfl) (h:=?_)
 first|refine k_d ?_|refine dL (hc:=ld_ ty_plain_53 rfl) (h:=?_)
 first|refine k_d ?_|refine dG (hc:=fun _=>Calm.nilCheck rfl) (h:=?_)
 first|refine k_d ?_|refine dG (hc:=fun _=>Calm.fieldAddr ty_field_59_0 rfl) (h:=?_)
 first|refine k_d ?_|refine dG (hc:=fun _=>Calm.fieldAddr ty_field_33_0 rfl) (h:=?_)
 first|refine k_d ?_|refine dL (hc:=ld_ ty_plain_9 rfl) (h:=?_)
 first|refine k_d ?_|refine dL (hc:=Calm.lenStr (strT_spec ty_str_9) rfl) (h:=?_)
 first|refine k_d ?_|refine dG (hc:=fun _=>Calm.bin rfl rfl b_gtr) (h:=?_)
 refine dP (hc:=fun _=>(by first | exact Calm.pickT rfl rfl | exact Calm.pickF rfl rfl)) (h:=?_)
 refine dP (hc:=fun _=>Calm.move rfl) (h:=?_)
 first|refine k_d ?_|refine dL (hc:=ld_ ty_plain_3 rfl) (h:=?_)
 first|refine k_d ?_|refine dL (hc:=ld_ ty_plain_53 rfl) (h:=?_)
 first|refine k_d ?_|refine dG (hc:=fun _=>Calm.nilCheck rfl) (h:=?_)
 first|refine k_d ?_|refine dG (hc:=fun _=>Calm.fieldAddr ty_field_59_0 rfl) (h:=?_)
 first|refine k_d ?_|refine dG (hc:=fun _=>Calm.fieldAddr ty_field_33_0 rfl) (h:=?_)
 first|refine k_d ?_|refine dL (hc:=ld_ ty_plain_9 rfl) (h:=?_)
 first|refine k_d ?_|refine dL (hc:=Calm.lenStr (strT_spec ty_str_9) rfl) (h:=?_)
 first|refine k_d ?_|refine dL (hc:=ld_ ty_plain_3 rfl) (h:=?_)
 first|refine k_d ?_|refine dG (hc:=fun _=>Calm.bin rfl rfl b_sub_i64) (h:=?_)
 first|refine k_d ?_|refine dG (hc:=fun _=>Calm.bin rfl rfl b_gtr) (h:=?_)
 refine dP (hc:=fun _=>(by first | exact Calm.pickT rfl rfl | exact Calm.pickF rfl rfl)) (h:=?_)
 refine draw_nil ?_
 refine athen_n ?_
 refine k_u [(0,_),(1,_),(2,_),(3,_),(4,_),(5,_),(6,_),(7,_),(8,_),(9,_),(19,_),(48,_)] ?_
 refine k_F rfl ?_
 refine k_k ?_
 refine AWPM.seqR (rs:=[.tmp 6,.tmp 7]) rfl ?_
 refine AWP.region ?_
 refine rC (ld_ ty_plain_3 rfl) ?_
 refine ARun.makeSlice (lit_lt rfl) ty_sl_41 rfl rfl (by omega) (by omega) (by omega) (by omega) ?_
 intro b50 f50
 have g50:=f50
 repeat ((with_reducible replace g50:=fresh_set g50);obtain ⟨g50,_⟩:=g50)
 refine ARun.alloc (lit_lt rfl) ty_zero_41 ?_
 intro b10 f10
 have g10:=f10
 repeat ((with_reducible replace g10:=fresh_set g10);obtain ⟨g10,_⟩:=g10)
 try simp only [k_l1,k_l0,k_za,Nat.reduceAdd]
 refine ARun.store1 rfl rfl ty_size_41 rfl own_ lens_ rfl ?_
 try simp only [k_ms,k_sz,k_ss,k_za,Nat.reduceAdd]
 refine k_n ?_
 refine AWPM.sub [(0,_),(1,_),(2,_),(3,_),(4,_),(5,_),(6,_),(7,_),(8,_),(9,_),(19,_),(48,_),(10,_)] ⟨rfl,rfl,rfl,rfl,rfl,rfl,rfl,rfl,rfl,rfl,rfl,rfl,rfl,trivial⟩ ?_
 refine AWPM.seqM ?_
 refine AWPM.seq ?_
 refine AWP.region ?_
 refine rC (ld_ ty_plain_53 rfl) ?_
 refine ARun.call (lit_lt rfl) go_20 rfl (fd_rows _ _) ?_
 rintro _ _ ⟨q,fq,rfl,rfl⟩
 intro S0 w0 e w hs0 hg
 have gq:=fq
 repeat ((with_reducible replace gq:=fresh_set gq);obtain ⟨gq,_⟩:=gq)
 refine wpIn_block ?_
 have em:((m:Int)).toNat=m:=by omega
 have ez:madeL [Value.int .u8 0] m=(List.replicate m 0).map encB:=by rw [madeL_one,List.map_replicate];rfl
 simp only [em,Nat.mul_one,ez] at hs0
 obtain ⟨M6,hM6⟩ : ∃ M6,M6=(((((S1.set b3 ⟨33,[.string x.col,.int .i64 x.pri,.slice p1 x.fir.length c1,.slice p2 n2 c2,.string x.bits,.int .i64 x.n,.slice p3 x.cnts.length c3,.slice p4 x.plcs.length c4],8⟩).set b4 ⟨3,[.int .i64 (a:Int)],1⟩).set b5 ⟨3,[.int .i64 (m:Int)],1⟩).set b8 ⟨53,[.pointer (some ⟨b,0,none⟩)],1⟩).set b10 ⟨41,[.slice (some ⟨b50,0,none⟩) m m],1⟩).set q ⟨53,[.pointer (some ⟨b,0,none⟩)],1⟩:=⟨_,rfl⟩
 have hM:S1.Less M6:=by rw [hM6];exact less_
 have o4:M6.own b4=some ⟨3,[.int .i64 (a:Int)],1⟩:=by rw [hM6];exact own_
 have o5:M6.own b5=some ⟨3,[.int .i64 (m:Int)],1⟩:=by rw [hM6];exact own_
 have o8:M6.own b8=some ⟨53,[.pointer (some ⟨b,0,none⟩)],1⟩:=by rw [hM6];exact own_
 have o10:M6.own b10=some ⟨41,[.slice (some ⟨b50,0,none⟩) m m],1⟩:=by rw [hM6];exact own_
 have oq:M6.own q=some ⟨53,[.pointer (some ⟨b,0,none⟩)],1⟩:=by rw [hM6];exact own_
 have f50':Fresh M6 b50:=by rw [hM6];exact fresh_more (fresh_more (fresh_more (fresh_more (fresh_more (fresh_more g50 ne_) ne_) ne_) ne_) ne_) ne_
 replace hs0:Step S0 w0 (M6.set b50 ⟨5,(List.replicate m 0).map encB,m⟩) w:=hs0.less (by rw [hM6];exact less_)
 have hBM:=hB.less hM
 have hSM:=hS1.trans hM
 have y4:b4≠b50:=f50'.ne o4
 have y5:b5≠b50:=f50'.ne o5
 have y8:b8≠b50:=f50'.ne o8
 have y10:b10≠b50:=f50'.ne o10
 have yq:q≠b50:=f50'.ne oq
 clear hM6 hM fq gq f10 g10 f8 g8 fa3 fa4 fa5 ga4 ga5 hB hS1 k0
 rw [← hT] at hcol
 refine range_view3 (N:=75) (p1:=53) (p2:=54) (S0:=S0) (w0:=w0) (gf:=36) (lb:=#[.pointer (some ⟨q,0,none⟩)]) (N+1) 0 (fun k=>.int .i64 (rowK T k:Int)) (fun k=>.int .i64 ((N-k:Nat):Int)) (fun k Z=>∃ ob:List Nat,Mem.Less (M6.set b50 ⟨5,ob.map encB,m⟩) Z∧ob.length=m∧(∀ y ∈ ob,y<256)∧k+a≤N ∧ ∀ i,i<m→N-k≤a+i→ob.getD i 0=T.getD (a+i) 0) (fun _ Z=>∃ ob:List Nat,Mem.Less (M6.set b50 ⟨5,ob.map encB,m⟩) Z∧ob.length=m∧(∀ y ∈ ob,y<256) ∧ ∀ i,i<m→ob.getD i 0=T.getD (a+i) 0) [(4,.pointer (some ⟨b4,0,none⟩)),(5,.pointer (some ⟨b5,0,none⟩)),(8,.pointer (some ⟨b8,0,none⟩)),(10,.pointer (some ⟨b10,0,none⟩)),(52,.func (.func 36) #[] #[.pointer (some ⟨q,0,none⟩)])] (hg.sub ⟨rfl,rfl,rfl,rfl,rfl,trivial⟩) rfl (enters_of Tryz.func36 (by kernel_rfl) rfl) (lit_lt rfl) (lit_lt rfl) ?start ?it ?round ?done ?stop
 case start=>exact ⟨_,⟨_,Mem.Less.refl _,by simp,fun y hy=>by rw [List.eq_of_mem_replicate hy];decide,by omega,fun i hi h=>by omega⟩,hs0⟩
 case done=>rintro D Z W ⟨ob,_,_,_,h,_⟩;omega
 case it =>
  intro l J Jx W hK hY hJ0
  rw [hN] at hY ⊢
  refine rows_it l q b x.col p T hcol hs J Jx W (fun k W hj=>?_) hY hJ0
  obtain ⟨Z,⟨ob,hl,_⟩,hv,hab⟩:=hK k W hj
  have hMZ:=Mem.Less.trans (show M6.Less (M6.set b50 ⟨5,ob.map encB,m⟩) from less_) hl
  exact ⟨Z,(hBM.less hMZ).bk,Mem.own_knows (hMZ.own oq) 0 _ (fun j u hj=>by rw [Nat.zero_add];exact hj),hv,hab⟩
 case round =>
  intro l k Z hk ⟨ob,hl,l1,l2,l3,l4⟩
  refine GWP.less _ hl ?_
  have hrk:=rowK_le T k
  rw [hTl,← hN] at hrk
  have hfr:Fd.fre T (rowK T k)=N-k:=by rw [hN,← hTl];exact Fd.fre_rw T _ (Nat.sub_le _ _)
  obtain ⟨r,hr⟩ : ∃ r,r=rowK T k:=⟨_,rfl⟩
  rw [← hr] at hrk hfr ⊢
  have hBk:=(hBM.less (show M6.Less (M6.set b50 ⟨5,ob.map encB,m⟩) from less_)).bk
  by_cases hle:N-k≤a
  ·skip
   refine GWP.seq ?_
   refine GWP.region ?_
   refine k_e rfl ?_
   refine GWP.sub [(54,_),(53,_),(4,_),(5,_),(8,_),(10,_),(11,_)] ⟨rfl,rfl,rfl,rfl,rfl,rfl,rfl,trivial⟩ ?_
   refine GWP.region ?_
   refine k_e rfl ?_
   refine GWP.block ?_
   refine GWP.seq ?_
   refine GWP.seq ?_
   refine GWP.region ?_
   refine k_m rfl ?_
   refine rC (ld_ ty_plain_3 rfl) ?_
   refine rC (Calm.bin rfl rfl b_leq) ?_
   refine k_n ?_
   refine GWP.sub [(54,_),(53,_),(4,_),(5,_),(8,_),(10,_),(11,_),(12,_),(57,_)] ⟨rfl,rfl,rfl,rfl,rfl,rfl,rfl,rfl,rfl,trivial⟩ ?_
   refine GWP.condT rfl (by first|rfl|(simp;done)|(simp;omega)) ?_
   refine GWP.exit ?_
   refine athen_exit ?_
   refine ain_other rfl ?_
   exact .inr ⟨rfl,ob,Mem.Less.refl _,l1,l2,fun i hi=>l4 i hi (by omega)⟩
  ·by_cases hin:N-k≤a+m
   ·have hne:r≠p:=fun e=>by have:=(hcol.f0 (r:=r) (by omega)).1 e;omega
    have hby:=hcol.row (r:=r) (by omega) hne
    rw [hfr,byT_getD] at hby
    obtain ⟨y,hy⟩ : ∃ y,y=byT x.col (Ord.atR p r):=⟨_,rfl⟩
    have hy256:y<256:=by rw [hy];exact byT_lt _ _
    obtain ⟨j,hj⟩ : ∃ j,j=N-k-1-a:=⟨_,rfl⟩
    have hjm:j<m:=by omega
    refine GWP.seq ?_
    refine GWP.region ?_
    refine k_e rfl ?_
    refine GWP.sub [(54,_),(53,_),(4,_),(5,_),(8,_),(10,_),(11,_)] ⟨rfl,rfl,rfl,rfl,rfl,rfl,rfl,trivial⟩ ?_
    refine GWP.region ?_
    refine k_e rfl ?_
    refine GWP.block ?_
    refine GWP.seq ?_
    refine GWP.seq ?_
    refine GWP.region ?_
    refine k_m rfl ?_
    refine rC (ld_ ty_plain_3 rfl) ?_
    refine rC (Calm.bin rfl rfl b_leq) ?_
    refine k_n ?_
    refine GWP.sub [(54,_),(53,_),(4,_),(5,_),(8,_),(10,_),(11,_),(12,_),(57,_)] ⟨rfl,rfl,rfl,rfl,rfl,rfl,rfl,rfl,rfl,trivial⟩ ?_
    refine GWP.condF rfl (by first|rfl|(simp;done)|(simp;omega)) ?_
    refine GWP.skip ?_
    refine athen_n ?_
    refine GWP.seq ?_
    refine GWP.region ?_
    refine k_m rfl ?_
    refine rC (ld_ ty_plain_3 rfl) ?_
    refine rC (ld_ ty_plain_3 rfl) ?_
    refine rC (Calm.bin rfl rfl b_add_i64) ?_
    refine rC (Calm.bin rfl rfl b_leq) ?_
    refine k_n ?_
    refine GWP.sub [(54,_),(53,_),(4,_),(5,_),(8,_),(10,_),(11,_),(12,_),(57,_),(62,_)] ⟨rfl,rfl,rfl,rfl,rfl,rfl,rfl,rfl,rfl,rfl,trivial⟩ ?_
    refine GWP.condT rfl (by first|rfl|(simp;done)|(simp;omega)) ?_
    refine GWP.draw [(0,true),(1,true),(2,true),(3,true),(4,true),(5,true),(6,true),(7,false),(8,true),(9,false)] [9] mixed (by kernel_rfl) ?_
    refine dC (hc:=ld_ ty_plain_41 rfl) (h:=?_)
    refine dP (hc:=fun _=>Calm.move rfl) (h:=?_)
    refine dP (hc:=fun _=>Calm.bin rfl rfl b_sub_i64) (h:=?_)
    refine dC (hc:=ld_ ty_plain_3 rfl) (h:=?_)
    refine dP (hc:=fun _=>Calm.bin rfl rfl b_sub_i64) (h:=?_)
    refine dC (hc:=ld_ ty_plain_53 rfl) (h:=?_)
    refine dP (hc:=fun _=>Calm.move rfl) (h:=?_)
    refine draw_only rfl ?_
    refine ARun.call (lit_lt rfl) go_26 rfl (fd_byteOf _ b x.col p r _ hBk rfl (by omega) hple hne hs) ?_
    rintro _ S9 ⟨rfl,e9⟩
    rw [e9,← hy];clear e9 S9
    refine arun_nil ⟨fun _=>less_,?_⟩
    refine dP (hc:=fun _=>Calm.indexS Tryz.underlying41 ty_size_5 rfl rfl (by omega) (by omega)) (h:=?_)
    refine draw_only rfl ?_
    refine ARun.store1 rfl rfl ty_size_5 rfl own_ (by rw [List.length_map];omega) rfl ?_
    try simp only [k_ms,k_sz,k_ss,k_za,Nat.reduceAdd]
    refine arun_nil ⟨fun h=>absurd h (by decide),?_⟩
    refine draw_nil ?_
    refine ain_n ?_
    rw [show ((((N-k:Nat):Int)-1-(a:Int)).toNat*1)=j by omega,show (ob.map encB).set j (.int .u8 (y:Int))=(ob.set j y).map encB from (List.map_set ..).symm]
    exact .inl ⟨rfl,ob.set j y,Mem.Less.refl _,by rw [List.length_set];exact l1,fun z hz=>by rcases List.mem_or_eq_of_mem_set hz with h | h;exact l2 z h;rw [h];exact hy256,by omega,told_ext hjm l1 (fun i hi h1 h2=>l4 i hi h1) (by rw [hj,show a+(N-k-1-a)=N-k-1 by omega,← hby];exact hy) (hne:=fun i hi h1 h2=>by omega)⟩
   ·skip
    refine GWP.seq ?_
    refine GWP.region ?_
    refine k_e rfl ?_
    refine GWP.sub [(54,_),(53,_),(4,_),(5,_),(8,_),(10,_),(11,_)] ⟨rfl,rfl,rfl,rfl,rfl,rfl,rfl,trivial⟩ ?_
    refine GWP.region ?_
    refine k_e rfl ?_
    refine GWP.block ?_
    refine GWP.seq ?_
    refine GWP.seq ?_
    refine GWP.region ?_
    refine k_m rfl ?_
    refine rC (ld_ ty_plain_3 rfl) ?_
    refine rC (Calm.bin rfl rfl b_leq) ?_
    refine k_n ?_
    refine GWP.sub [(54,_),(53,_),(4,_),(5,_),(8,_),(10,_),(11,_),(12,_),(57,_)] ⟨rfl,rfl,rfl,rfl,rfl,rfl,rfl,rfl,rfl,trivial⟩ ?_
    refine GWP.condF rfl (by first|rfl|(simp;done)|(simp;omega)) ?_
    refine GWP.skip ?_
    refine athen_n ?_
    refine GWP.seq ?_
    refine GWP.region ?_
    refine k_m rfl ?_
    refine rC (ld_ ty_plain_3 rfl) ?_
    refine rC (ld_ ty_plain_3 rfl) ?_
    refine rC (Calm.bin rfl rfl b_add_i64) ?_
    refine rC (Calm.bin rfl rfl b_leq) ?_
    refine k_n ?_
    refine GWP.sub [(54,_),(53,_),(4,_),(5,_),(8,_),(10,_),(11,_),(12,_),(57,_),(62,_)] ⟨rfl,rfl,rfl,rfl,rfl,rfl,rfl,rfl,rfl,rfl,trivial⟩ ?_
    refine GWP.condF rfl (by first|rfl|(simp;done)|(simp;omega)) ?_
    refine GWP.skip ?_
    refine ain_n ?_
    exact .inl ⟨rfl,ob,Mem.Less.refl _,l1,l2,by omega,fun i hi h=>by omega⟩
 case stop =>
  rintro D k Z W hk ⟨ob,hl,l1,l2,l3⟩ hst hD hK
  replace hst:=hst.less hl
  clear hl hs0
  have ee:bs (ofN ob)=t.extract a (a+m):=ext_ob l1 (by omega) (by rw [← hT];exact l3)
  have hcs:(t.extract a (a+m)).size≤281474976710656:=by rw [← ee,bs_size];unfold ofN;rw [List.length_map];omega
  refine GWP.endM (rs:=[.tmp 6,.tmp 7]) (N:=75) rfl hst hD hK (hg.sub (show Sub [(4,.pointer (some ⟨b4,0,none⟩)),(5,.pointer (some ⟨b5,0,none⟩)),(8,.pointer (some ⟨b8,0,none⟩)),(10,.pointer (some ⟨b10,0,none⟩))] _ from ⟨rfl,rfl,rfl,rfl,trivial⟩)) ?_
  refine GWP.seq ?_
  refine GWP.region ?_
  refine rC (ld_ ty_plain_41 rfl) ?_
  refine rC (Calm.as (show Value.string (bs (ofN ob)) = .string (t.extract a (a+m)) by rw [ee]) (Calm.toStr (l:=ofN ob) ty_bytes_41 ty_str_9 rfl (by unfold ofN;rw [List.length_map];exact l1) (by rw [← ofN_cells ob l2];exact rds_own (r:=⟨5,ob.map encB,m⟩) (Mem.own_set_same _ _ _)))) ?_
  refine ARun.call (lit_lt rfl) go_27 rfl (ACall.of_calls (fun w=>lib_Clone (t.extract a (a+m)) w hcs)) ?_
  rintro _ S9 ⟨rfl,e9⟩
  rw [e9];clear e9 S9
  refine k_s rfl (k_e rfl ?_)
  refine GWP.sub [(4,_),(5,_),(8,_),(10,_),(6,_),(7,_)] ⟨rfl,rfl,rfl,rfl,rfl,rfl,trivial⟩ ?_
  refine GWP.ret ?_
  refine ⟨_,S,⟨_,_,rfl,⟨_,_,rfl,rfl,rfl⟩,rfl⟩,hSM.trans less_,?_⟩
  exact ⟨rfl,rfl⟩
end Go.Proofs.YtgidjbpgkeemiaaGreat
namespace Go.Proofs.YtgidjbpgkeemiaaGreat
open Go.RowKit
open Mv
namespace Mv
/-- No block of what is known to be fixed. -/
def RoFree (M : Mem) (b : Nat) : Prop := ∀ a v, M.ro a = some v → a.block ≠ b
/-- A slice that grows, and is owned. -/
structure Gro (M : Mem) (o : Option (Nat × Nat)) (e : TypeId) (cs : List Value) : Prop where
  nil : o = none → cs = []
  own : ∀ b c, o = some (b, c) → M.own b = some ⟨e, cs, c⟩ ∧ cs.length ≤ c ∧ RoFree M b
def Away (o : Option (Nat × Nat)) (b : Nat) : Prop := ∀ q c, o = some (q, c) → q ≠ b
def Apart (o o' : Option (Nat × Nat)) : Prop := ∀ q c, o = some (q, c) → Away o' q
theorem Away.nil (b : Nat) : Away none b := fun q c h => by cases h
theorem Apart.nil (o : Option (Nat × Nat)) : Apart none o := fun q c h => by cases h
theorem Apart.symm {o o' : Option (Nat × Nat)} (h : Apart o o') : Apart o' o := fun q c e q' c' e' h' => h q' c' e' q c e h'.symm
theorem Gro.empty (M : Mem) (e : TypeId) : Gro M none e [] := ⟨fun _ => rfl, fun b c h => by cases h⟩
theorem Gro.set {M : Mem} {o : Option (Nat × Nat)} {e : TypeId} {cs : List Value} (h : Gro M o e cs) {b : Nat} (r : Blk) (ha : Away o b) : Gro (M.set b r) o e cs :=
 ⟨h.nil,fun q c eq=>⟨(Mem.own_set_other _ _ (ha q c eq)).trans (h.own q c eq).1,(h.own q c eq).2.1,(h.own q c eq).2.2⟩⟩
/-- What a step leaves as it was: all that is owned, but one slice's block; b is new to it. -/
structure Left (M M' : Mem) (o : Option (Nat × Nat)) (b : Nat) : Prop where
  own : ∀ x r, M.own x = some r → (∀ c, o ≠ some (x, c)) → M'.own x = some r ∧ x ≠ b
  ro : M'.ro = M.ro
theorem Left.gro {M M' : Mem} {o o' : Option (Nat × Nat)} {b : Nat} {e : TypeId} {cs : List Value} (h : Left M M' o b) (hg : Gro M o' e cs) (ha : Apart o o') : Gro M' o' e cs ∧ Away o' b := by
 refine ⟨⟨hg.nil,fun q c e=>?_⟩,fun q c e=>?_⟩
 ·obtain ⟨h1,h2,h3⟩:=hg.own q c e
  exact ⟨(h.own q _ h1 (fun c' e'=>ha q c' e' q c e rfl)).1,h2,fun a v hv=>h3 a v (by rw [← h.ro];exact hv)⟩
 ·obtain ⟨h1,_⟩:=hg.own q c e
  exact (h.own q _ h1 (fun c' e'=>ha q c' e' q c e rfl)).2
theorem Left.less {B M M' : Mem} {o : Option (Nat × Nat)} {b : Nat} (h : Left M M' o b) (hB : B.Less M) (ho : ∀ q c, o = some (q, c) → B.own q = none) : B.Less M' ∧ B.own b = none := by
 have key:∀ x r,B.own x=some r→M'.own x=some r∧x≠b:=fun x r hx=>h.own x r (hB.1 x r hx) (fun c e=>by have:=ho x c e;rw [hx] at this;cases this)
 refine ⟨⟨fun x r hx=>(key x r hx).1,hB.2.trans h.ro.symm⟩,?_⟩
 cases hb:B.own b with
 | none=>rfl
 | some r=>exact absurd rfl (key b r hb).2
theorem Left.at_ {M M' : Mem} {o : Option (Nat × Nat)} {b x : Nat} {r : Blk} (h : Left M M' o b) (hx : M.own x = some r) (ha : Away o x) : M'.own x = some r ∧ x ≠ b :=
 h.own x r hx fun c e=>ha x c e rfl
section
variable {P : Program} {N : Nat} {E : Env} {M : Mem} {ops : Array Oper} {ty : TypeId} {pos : String} {aft : Array Edge}
end
end Mv
end Go.Proofs.YtgidjbpgkeemiaaGreat
namespace Go.Proofs.YtgidjbpgkeemiaaGreat
open Go.RowKit Go.Shelf
open Mv Num Loser Srt
def bkI (s : ByteArray) (p : Nat) (vf vm vp : Value) : Blk := ⟨33, ixC ⟨s, p, [], [], ByteArray.empty, 0, [], []⟩ vf vm (.slice none 0 0) vp, 8⟩
def bkN (F : Nat → Nat) : Blk := ⟨3, (tb 256 F).map gI, 256⟩
def bkZ : Blk := ⟨33, ixC zix (.slice none 0 0) (.slice none 0 0) (.slice none 0 0) (.slice none 0 0), 8⟩
structure EI (s : ByteArray) (p : Nat) (c : List Nat) (vf : Value) (B0 : Mem) (b4 b8 b53 : Nat) (MB M : Mem) (om : Option (Nat × Nat)) (hs : List Value) (ob : Option (Nat × Nat)) (bl : List Bool) (op : Option (Nat × Nat)) (pl : List Nat) (F : Nat → Nat) : Prop where
  base : B0.Less MB
  less : MB.Less M
  n4 : MB.own b4 = none
  n8 : MB.own b8 = none
  n53 : MB.own b53 = none
  ne : b8 ≠ b53
  ne8 : b8 ≠ b4
  ne53 : b53 ≠ b4
  nm : ∀ q k, om = some (q, k) → MB.own q = none
  nb : ∀ q k, ob = some (q, k) → MB.own q = none
  np : ∀ q k, op = some (q, k) → MB.own q = none
  m4 : Away om b4
  b4' : Away ob b4
  p4 : Away op b4
  m8 : Away om b8
  m53 : Away om b53
  b8' : Away ob b8
  b53' : Away ob b53
  p8 : Away op b8
  p53 : Away op b53
  amb : Apart om ob
  amp : Apart om op
  abp : Apart ob op
  o4 : M.own b4 = some bkZ
  o8 : M.own b8 = some (bkI s p vf (outV om hs.length) (outV op pl.length))
  o53 : M.own b53 = some (bkN F)
  gm : Gro M om 26 hs
  gb : Gro M ob 4 (bl.map gB)
  gp : Gro M op 3 (pl.map gI)
  rows : ∀ j (h : j < hs.length), IdxR MB hs[j] (mkRow c p j)
section
variable {s : ByteArray} {p : Nat} {c : List Nat} {vf : Value} {B0 : Mem} {b4 b8 b53 : Nat} {MB M M' : Mem} {om ob op : Option (Nat × Nat)} {hs : List Value} {bl : List Bool} {pl : List Nat} {F : Nat → Nat}
theorem EI.marks (h : EI s p c vf B0 b4 b8 b53 MB M om hs ob bl op pl F) {b k : Nat} {v : Value} (hl : Mv.Left M M' om b) (hg : Gro M' (some (b, k)) 26 (hs ++ [v])) (hv : IdxR MB v (mkRow c p hs.length)) : EI s p c vf B0 b4 b8 b53 MB (M'.set b8 (bkI s p vf (outV (some (b, k)) (hs.length + 1)) (outV op pl.length))) (some (b, k)) (hs ++ [v]) ob bl op pl F := by
 obtain ⟨l1,l2⟩:=hl.less h.less h.nm
 obtain ⟨q5,q6⟩:=hl.at_ h.o4 h.m4
 obtain ⟨q1,q2⟩:=hl.at_ h.o8 h.m8
 obtain ⟨q3,q4⟩:=hl.at_ h.o53 h.m53
 obtain ⟨g1,g2⟩:=hl.gro h.gb h.amb
 obtain ⟨g3,g4⟩:=hl.gro h.gp h.amp
 exact { h with
  less:=⟨fun x r hx=>(Mem.own_set_other _ _ (fun e=>by subst e;rw [h.n8] at hx;cases hx)).trans (l1.1 x r hx),l1.2⟩
  nm:=fun q k' e=>by cases e;exact l2
  m4:=fun q k' e=>by cases e;exact Ne.symm q6
  o4:=(Mem.own_set_other _ _ (Ne.symm h.ne8)).trans q5
  m8:=fun q k' e=>by cases e;exact Ne.symm q2
  m53:=fun q k' e=>by cases e;exact Ne.symm q4
  amb:=fun q k' e=>by cases e;exact g2
  amp:=fun q k' e=>by cases e;exact g4
  o8:=by rw [List.length_append];exact Mem.own_set_same _ _ _
  o53:=(Mem.own_set_other _ _ (Ne.symm h.ne)).trans q3
  gm:=hg.set _ (fun q k' e=>by cases e;exact Ne.symm q2)
  gb:=g1.set _ h.b8'
  gp:=g3.set _ h.p8
  rows:=fun j hj=>by
   rcases Nat.lt_or_ge j hs.length with hj' | hj'
   ·rw [List.getElem_append_left hj'];exact h.rows j hj'
   ·have e:j=hs.length:=by rw [List.length_append] at hj;simp at hj;omega
    subst e
    rw [List.getElem_append_right (Nat.le_refl _)];simpa using hv }
theorem EI.bools (h : EI s p c vf B0 b4 b8 b53 MB M om hs ob bl op pl F) {b k : Nat} {x : Bool} (hl : Mv.Left M M' ob b) (hg : Gro M' (some (b, k)) 4 (bl.map gB ++ [gB x])) : EI s p c vf B0 b4 b8 b53 MB M' om hs (some (b, k)) (bl ++ [x]) op pl F := by
 obtain ⟨l1,l2⟩:=hl.less h.less h.nb
 obtain ⟨q5,q6⟩:=hl.at_ h.o4 h.b4'
 obtain ⟨q1,q2⟩:=hl.at_ h.o8 h.b8'
 obtain ⟨q3,q4⟩:=hl.at_ h.o53 h.b53'
 obtain ⟨g1,g2⟩:=hl.gro h.gm h.amb.symm
 obtain ⟨g3,g4⟩:=hl.gro h.gp h.abp
 exact { h with
  less:=l1
  nb:=fun q k' e=>by cases e;exact l2
  b4':=fun q k' e=>by cases e;exact Ne.symm q6
  o4:=q5
  b8':=fun q k' e=>by cases e;exact Ne.symm q2
  b53':=fun q k' e=>by cases e;exact Ne.symm q4
  amb:=fun q k' e q' k'' e'=>by cases e';exact Ne.symm (g2 q k' e)
  abp:=fun q k' e=>by cases e;exact g4
  o8:=q1
  o53:=q3
  gm:=g1
  gb:=by rw [List.map_append];exact hg
  gp:=g3 }
theorem EI.places (h : EI s p c vf B0 b4 b8 b53 MB M om hs ob bl op pl F) {b k a : Nat} (hl : Mv.Left M M' op b) (hg : Gro M' (some (b, k)) 3 (pl.map gI ++ [gI a])) : EI s p c vf B0 b4 b8 b53 MB (M'.set b8 (bkI s p vf (outV om hs.length) (outV (some (b, k)) (pl.length + 1)))) om hs ob bl (some (b, k)) (pl ++ [a]) F := by
 obtain ⟨l1,l2⟩:=hl.less h.less h.np
 obtain ⟨q5,q6⟩:=hl.at_ h.o4 h.p4
 obtain ⟨q1,q2⟩:=hl.at_ h.o8 h.p8
 obtain ⟨q3,q4⟩:=hl.at_ h.o53 h.p53
 obtain ⟨g1,g2⟩:=hl.gro h.gm h.amp.symm
 obtain ⟨g3,g4⟩:=hl.gro h.gb h.abp.symm
 exact { h with
  less:=⟨fun x r hx=>(Mem.own_set_other _ _ (fun e=>by subst e;rw [h.n8] at hx;cases hx)).trans (l1.1 x r hx),l1.2⟩
  np:=fun q k' e=>by cases e;exact l2
  p4:=fun q k' e=>by cases e;exact Ne.symm q6
  o4:=(Mem.own_set_other _ _ (Ne.symm h.ne8)).trans q5
  p8:=fun q k' e=>by cases e;exact Ne.symm q2
  p53:=fun q k' e=>by cases e;exact Ne.symm q4
  amp:=fun q k' e q' k'' e'=>by cases e';exact Ne.symm (g2 q k' e)
  abp:=fun q k' e q' k'' e'=>by cases e';exact Ne.symm (g4 q k' e)
  o8:=by rw [List.length_append];exact Mem.own_set_same _ _ _
  o53:=(Mem.own_set_other _ _ (Ne.symm h.ne)).trans q3
  gm:=g1.set _ h.m8
  gb:=g3.set _ h.b8'
  gp:=by rw [List.map_append];exact hg.set _ (fun q k' e=>by cases e;exact Ne.symm q2) }
theorem EI.count (h : EI s p c vf B0 b4 b8 b53 MB M om hs ob bl op pl F) (G : Nat → Nat) : EI s p c vf B0 b4 b8 b53 MB (M.set b53 (bkN G)) om hs ob bl op pl G :=
 { h with
  less:=⟨fun x r hx=>(Mem.own_set_other _ _ (fun e=>by subst e;rw [h.n53] at hx;cases hx)).trans (h.less.1 x r hx),h.less.2⟩
  o4:=(Mem.own_set_other _ _ (Ne.symm h.ne53)).trans h.o4
  o8:=(Mem.own_set_other _ _ h.ne).trans h.o8
  o53:=Mem.own_set_same _ _ _
  gm:=h.gm.set _ h.m53
  gb:=h.gb.set _ h.b53'
  gp:=h.gp.set _ h.p53 }
theorem EI.same (h : EI s p c vf B0 b4 b8 b53 MB M om hs ob bl op pl F) {G : Nat → Nat} (e : bkN F = bkN G) : EI s p c vf B0 b4 b8 b53 MB M om hs ob bl op pl G := { h with o53 := e ▸ h.o53 }
theorem gro_sl {α : Type} {g : α → Value} {A : Mem} {o : Option (Nat × Nat)} {e : TypeId} {l : List α} (h : Gro A o e (l.map g)) (hm : l.length ≤ 9223372036854775807) : Sl 1 (fun x => [g x]) A (outV o l.length) l := by
 cases o with
 | none =>
  have:=h.nil rfl
  obtain rfl:l = []:=List.eq_nil_of_length_eq_zero (by have:=congrArg List.length this;simpa using this)
  exact Sl.nil _ _ _
 | some q =>
  obtain ⟨h1,h2,_⟩:=h.own q.1 q.2 rfl
  exact Sl.own1 (g:=g) (l:=l) h1 List.prefix_rfl rfl (by rw [List.length_map] at h2;exact h2) hm
theorem EI.done (h : EI s p c vf B0 b4 b8 b53 MB M om hs ob bl op pl F) {Md : Mem} (hl : MB.Less Md) (gm : Gro Md om 26 hs) (gp : Gro Md op 3 (pl.map gI)) (hm : hs.length = c.length / 16 + 1) (h1 : hs.length ≤ 9223372036854775807) (h2 : pl.length ≤ 9223372036854775807) :
  SlOf IdxR Md (outV om hs.length) (mksP c p)∧IdxR Md (outV op pl.length) pl:=by
 refine ⟨⟨hs,by rw [mksP_length];exact hm,?_,fun i hi hi'=>?_⟩,gro_sl (g:=gI) gp h2⟩
 ·have:=gro_sl (g:=fun x:Value=>x) (l:=hs) (by rw [List.map_id'];exact gm) h1
  exact this
 ·have e:(mksP c p)[i]=mkRow c p i:=by simp [mksP]
  rw [e]
  exact (h.rows i hi').less hl
end
end Go.Proofs.YtgidjbpgkeemiaaGreat
namespace Go.Proofs.YtgidjbpgkeemiaaGreat
open Go.RowKit Go.Shelf
open Mv Num Loser Srt
set_option maxRecDepth 8000
def plN (t : List Nat) (r : Nat) : List Nat := ((Fd.plc t).take r).filter (fun a => decide (a % 16 = 0))
theorem EI.start {s : ByteArray} {p : Nat} {c : List Nat} {vf : Value} {M2 : Mem} {b4 b8 b53 : Nat} {t : List Nat} (h4 : Fresh M2 b4) (h8 : Fresh M2 b8) (h53 : Fresh M2 b53) (e84 : b8 ≠ b4) (e534 : b53 ≠ b4) (hne : b53 ≠ b8) : EI s p c vf M2 b4 b8 b53 M2 (((M2.set b4 bkZ).set b8 (bkI s p vf (outV none 0) (outV none 0))).set b53 (bkN (Fd.mk c p 0))) none [] none ((smpR t).take 0) none (plN t 0) (Fd.mk c p 0) where
 base:=Mem.Less.refl _
 less:=((Mem.less_set _ _ _ h4.1).trans (Mem.less_set _ _ _ (fresh_more h8 e84).1)).trans (Mem.less_set _ _ _ (fresh_more (fresh_more h53 e534) hne).1)
 n4:=h4.1
 n8:=h8.1
 n53:=h53.1
 ne:=Ne.symm hne
 ne8:=e84
 ne53:=e534
 nm:=fun q k e=>by cases e
 nb:=fun q k e=>by cases e
 np:=fun q k e=>by cases e
 m4:=Away.nil _
 b4':=Away.nil _
 p4:=Away.nil _
 m8:=Away.nil _
 m53:=Away.nil _
 b8':=Away.nil _
 b53':=Away.nil _
 p8:=Away.nil _
 p53:=Away.nil _
 amb:=Apart.nil _
 amp:=Apart.nil _
 abp:=Apart.nil _
 o4:=(Mem.own_set_other _ _ (Ne.symm e534)).trans ((Mem.own_set_other _ _ (Ne.symm e84)).trans (Mem.own_set_same _ _ _))
 o8:=(Mem.own_set_other _ _ (Ne.symm hne)).trans (Mem.own_set_same _ _ _)
 o53:=Mem.own_set_same _ _ _
 gm:=Gro.empty _ _
 gb:=Gro.empty _ _
 gp:=Gro.empty _ _
 rows:=fun j h=>absurd h (Nat.not_lt_zero _)
end Go.Proofs.YtgidjbpgkeemiaaGreat
namespace Go.Proofs.YtgidjbpgkeemiaaGreat
open Go.RowKit Go.Shelf
open Mv Num Loser Srt
set_option maxRecDepth 8000
theorem nums_cut (s : ByteArray) (a b : Nat) : numsT (s.extract a b) = ((numsT s).take b).drop a := by
 rw [nums_map,nums_map,data_extract,List.map_drop,List.map_take]
end Go.Proofs.YtgidjbpgkeemiaaGreat
namespace Go.Proofs.YtgidjbpgkeemiaaGreat
open Go.RowKit Go.Shelf
open Mv Num Loser Srt
set_option maxRecDepth 8000
theorem filter_next (q : Nat → Bool) (i : Nat) : (List.range (i + 1)).filter q = (List.range i).filter q ++ (if q i = true then [i] else []) := by
 rw [List.range_succ,List.filter_append]
 congr 1
 by_cases h:q i=true
 ·rw [if_pos h,List.filter_cons_of_pos h];rfl
 ·rw [if_neg h,List.filter_cons_of_neg h];rfl
end Go.Proofs.YtgidjbpgkeemiaaGreat
namespace Go.Proofs.YtgidjbpgkeemiaaGreat
open Go.RowKit
open Mv Num Loser Srt
set_option maxRecDepth 8000
def fxB : ByteArray := bs [98, 97, 110, 97, 110, 97]
def fxC : ByteArray := bs [97, 110, 110, 98, 97, 97]
def fxAna : ByteArray := bs [97, 110, 97]
def fxAn : ByteArray := bs [97, 110]
def fxNan : ByteArray := bs [110, 97, 110]
theorem fx_num : numsT fxB = [98, 97, 110, 97, 110, 97] := by decide +kernel
theorem fx_ana : numsT fxAna = [97, 110, 97] := by decide +kernel
theorem fx_an : numsT fxAn = [97, 110] := by decide +kernel
theorem fx_nil : numsT ByteArray.empty = [] := by decide +kernel
theorem fx_txt : textP fxC 4 = (fxB, 0) := by decide +kernel
theorem fx_no : (textP fxC 0).2 = 7 := by decide +kernel
theorem fx_ok : OkX (ixP fxC 4 fxB) 4 fxB := by
 have h0:(textP fxC (4:Nat)).2=0:=by rw [show ((4:Nat):Int)=4 from rfl,fx_txt]
 obtain ⟨p,ep,q1,q2,q3,q4⟩:=text_col h0
 obtain rfl:p=4:=by omega
 rw [show ((4:Nat):Int)=4 from rfl,fx_txt] at q3 q4
 exact ⟨fx_txt,rfl,q1,q2,q3,q4⟩
theorem fx_chk : chkX (ixP fxC 4 fxB) = 0 := ok_chk fx_ok rfl
theorem fx_tx : txtX (ixP fxC 4 fxB) = fxB := fx_ok.tx rfl
theorem fx_r1 : rangeP (ixP fxC 4 fxB) fxAna = (2, 4, 0) := by
 unfold rangeP;rw [if_pos fx_chk,fx_tx,fx_num,fx_ana];decide +kernel
theorem fx_r2 : rangeP (ixP fxC 4 fxB) fxAn = (2, 4, 0) := by
 unfold rangeP;rw [if_pos fx_chk,fx_tx,fx_num,fx_an];decide +kernel
theorem fx_r3 : rangeP (ixP fxC 4 fxB) ByteArray.empty = (0, 7, 0) := by
 unfold rangeP;rw [if_pos fx_chk,fx_tx,fx_num,fx_nil];decide +kernel
theorem fx_l : locP (ixP fxC 4 fxB) fxAna = ([1, 3], 0) := by
 unfold locP;rw [if_pos fx_chk,fx_tx,fx_num,fx_ana];decide +kernel
theorem fx_e1 : extP (ixP fxC 4 fxB) 2 3 = (fxNan, 0) := by
 have hz:(ixP fxC 4 fxB).col.size=6:=rfl
 unfold extP;rw [if_neg (fun h=>h fx_chk),fx_tx,hz,if_neg (by decide)];decide +kernel
theorem fx_e2 : extP (ixP fxC 4 fxB) 4 3 = (ByteArray.empty, 1) := by
 have hz:(ixP fxC 4 fxB).col.size=6:=rfl
 unfold extP;rw [if_neg (fun h=>h fx_chk),hz,if_pos (by decide)]
set_option maxHeartbeats 4000000 in
theorem fd_lives (S : Mem) : ACall Tryz.prog 6 #[] S fun r S' => r = .bool true ∧ S' = S := by
 have h0:(textP fxC 4).2=0:=by rw [fx_txt]
 have hy0:ixP fxC (4:Int).toNat (textP fxC 4).1=ixP fxC 4 fxB:=by rw [fx_txt];rfl
 obtain ⟨y,hyd⟩ : ∃ y,y=ixP fxC 4 fxB:=⟨_,rfl⟩
 have e1:=fx_r1
 have e2:=fx_r2
 have e3:=fx_r3
 have e4:=fx_l
 have e5:=fx_e1
 have e6:=fx_e2
 have e7:=fx_chk
 rw [← hyd] at e1 e2 e3 e4 e5 e6 e7 hy0
 refine ACall.enter (rs:=[.tmp 0]) 117 [] Tryz.func6 rfl rfl (Nat.le_of_ble_eq_true rfl) rfl trivial ?_
 refine k_a (k_e rfl (k_a ?_))
 refine ARun.call (lit_lt rfl) go_8 rfl (fd_Make fxC 4 _) ?_
 rintro _ S1 hm
 obtain ⟨p1,c1,n2,p2,c2,p3,c3,p4,c4,hyy⟩:=hm.yes h0
 obtain ⟨rfl,hS1,hy⟩:=hyy y hy0.symm
 clear hyy hm
 refine k_m rfl ?_
 refine rC (Calm.extract rfl rfl) ?_
 refine rC (Calm.extract rfl rfl) ?_
 refine ARun.alloc (lit_lt rfl) ty_zero_33 ?_
 intro b1 f1
 have g1:=f1
 repeat ((with_reducible replace g1:=fresh_set g1);obtain ⟨g1,_⟩:=g1)
 try simp only [k_l1,k_l0,k_za,Nat.reduceAdd]
 first|refine k_A rfl rfl ty_size_33 ?_|refine k_B rfl rfl ty_size_33 ?_
 try simp only [k_ms,k_sz,k_ss,k_za,Nat.reduceAdd]
 refine k_e rfl ?_
 refine k_u [(0,_),(1,_),(2,_)] ?_
 refine k_a ?_
 refine rC (ldA_ (cs:=[_,_,_,_,_,_,_,_]) ty_agg_33 ty_size_33 rfl) ?_
 refine ARun.call (lit_lt rfl) go_10 rfl (fd_Count y fxAna _ _ (hy.less less_) (by decide)) ?_
 rintro _ S9 ⟨rfl,q9⟩
 rw [q9,e1];clear q9 S9
 refine k_m rfl ?_
 refine rC (Calm.extract rfl rfl) ?_
 refine rC (Calm.extract rfl rfl) ?_
 refine k_s rfl (k_e rfl ?_)
 refine k_u [(0,_),(1,_),(2,_),(3,_),(4,_)] ?_
 refine k_a ?_
 refine rC (ldA_ (cs:=[_,_,_,_,_,_,_,_]) ty_agg_33 ty_size_33 rfl) ?_
 refine ARun.call (lit_lt rfl) go_9 rfl (((fd_Locate y fxAna _ S1 hy (by decide)).frame f1)) ?_
 rintro _ _ ⟨S2,⟨v,rfl,hS2,hv⟩,f1b,rfl⟩
 rw [e4] at hv ⊢
 replace hy:=hy.less hS2
 obtain ⟨va,vc,rfl,_⟩:=id hv
 refine k_m rfl ?_
 refine rC (Calm.extract rfl rfl) ?_
 refine rC (Calm.extract rfl rfl) ?_
 refine k_s rfl (k_e rfl ?_)
 refine k_u [(0,_),(1,_),(2,_),(3,_),(4,_),(5,_),(6,_)] ?_
 refine k_a ?_
 refine rC (ldA_ (cs:=[_,_,_,_,_,_,_,_]) ty_agg_33 ty_size_33 rfl) ?_
 refine ARun.call (lit_lt rfl) go_12 rfl (fd_Range y fxAn _ _ (hy.less less_) (by decide)) ?_
 rintro _ S9 ⟨rfl,q9⟩
 rw [q9,e2];clear q9 S9
 refine k_m rfl ?_
 refine rC (Calm.extract rfl rfl) ?_
 refine rC (Calm.extract rfl rfl) ?_
 refine rC (Calm.extract rfl rfl) ?_
 refine k_s rfl (k_s rfl (k_e rfl ?_))
 refine k_u [(0,_),(1,_),(2,_),(3,_),(4,_),(5,_),(6,_),(7,_),(8,_),(9,_)] ?_
 refine k_a ?_
 refine rC (ldA_ (cs:=[_,_,_,_,_,_,_,_]) ty_agg_33 ty_size_33 rfl) ?_
 refine ARun.call (lit_lt rfl) go_11 rfl (fd_Extract y 2 3 _ _ (hy.less less_) (by decide) (by decide)) ?_
 rintro _ S9 ⟨rfl,q9⟩
 rw [q9,e5];clear q9 S9
 refine k_m rfl ?_
 refine rC (Calm.extract rfl rfl) ?_
 refine rC (Calm.extract rfl rfl) ?_
 refine k_s rfl (k_e rfl ?_)
 refine k_u [(0,_),(1,_),(2,_),(3,_),(4,_),(5,_),(6,_),(7,_),(8,_),(9,_),(10,_),(11,_)] ?_
 refine k_a ?_
 refine rC (ldA_ (cs:=[_,_,_,_,_,_,_,_]) ty_agg_33 ty_size_33 rfl) ?_
 refine ARun.call (lit_lt rfl) go_10 rfl (fd_Count y ByteArray.empty _ _ (hy.less less_) (by decide)) ?_
 rintro _ S9 ⟨rfl,q9⟩
 rw [q9,e3];clear q9 S9
 refine k_m rfl ?_
 refine rC (Calm.extract rfl rfl) ?_
 refine rC (Calm.extract rfl rfl) ?_
 refine k_s rfl (k_e rfl ?_)
 refine k_u [(0,_),(1,_),(2,_),(3,_),(4,_),(5,_),(6,_),(7,_),(8,_),(9,_),(10,_),(11,_),(12,_),(13,_)] ?_
 refine k_a ?_
 refine ARun.call (lit_lt rfl) go_8 rfl (fd_Make fxC 0 _) ?_
 rintro _ S9 hm
 obtain ⟨rfl,q9⟩:=hm.no (by rw [fx_no];decide)
 rw [q9,fx_no];clear q9 hm S9
 refine k_m rfl ?_
 refine rC (Calm.extract rfl rfl) ?_
 refine rC (Calm.extract rfl rfl) ?_
 refine ARun.alloc (lit_lt rfl) ty_zero_33 ?_
 intro b14 f14
 have g14:=f14
 repeat ((with_reducible replace g14:=fresh_set g14);obtain ⟨g14,_⟩:=g14)
 try simp only [k_l1,k_l0,k_za,Nat.reduceAdd]
 first|refine k_A rfl rfl ty_size_33 ?_|refine k_B rfl rfl ty_size_33 ?_
 try simp only [k_ms,k_sz,k_ss,k_za,Nat.reduceAdd]
 refine k_e rfl ?_
 refine k_u [(0,_),(1,_),(2,_),(3,_),(4,_),(5,_),(6,_),(7,_),(8,_),(9,_),(10,_),(11,_),(12,_),(13,_),(15,_)] ?_
 refine k_a ?_
 refine rC (ldA_ (cs:=[_,_,_,_,_,_,_,_]) ty_agg_33 ty_size_33 rfl) ?_
 refine ARun.call (lit_lt rfl) go_11 rfl (fd_Extract y 4 3 _ _ (hy.less less_) (by decide) (by decide)) ?_
 rintro _ S9 ⟨rfl,q9⟩
 rw [q9,e6];clear q9 S9
 refine k_m rfl ?_
 refine rC (Calm.extract rfl rfl) ?_
 refine rC (Calm.extract rfl rfl) ?_
 refine k_s rfl (k_e rfl ?_)
 refine k_u [(0,_),(1,_),(2,_),(3,_),(4,_),(5,_),(6,_),(7,_),(8,_),(9,_),(10,_),(11,_),(12,_),(13,_),(15,_),(17,_)] ?_
 refine k_a (k_m rfl ?_)
 refine rC (Calm.bin rfl rfl b_eql) ?_
 refine k_m rfl ?_
 first|refine k_q 59 ?_|refine rG 59 (Calm.move rfl) ?_
 first|refine k_q 59 ?_|refine rG 59 (Calm.bin rfl rfl b_eql) ?_
 first|refine k_t rfl rfl ?_|refine k_f rfl rfl ?_
 refine k_m rfl ?_
 first|refine k_q 63 ?_|refine rG 63 (Calm.move rfl) ?_
 first|refine k_q 63 ?_|refine rG 63 (Calm.bin rfl rfl b_eql) ?_
 first|refine k_t rfl rfl ?_|refine k_f rfl rfl ?_
 refine k_m rfl ?_
 first|refine k_q 67 ?_|refine rG 67 (Calm.move rfl) ?_
 refine rUn 67 ?_
 refine ARun.buildN (cs:=[_,_]) (lit_lt rfl) ty_sl_26 rfl rfl rfl rfl ?_
 intro b69 f69
 have g69:=f69
 repeat ((with_reducible replace g69:=fresh_set g69);obtain ⟨g69,_⟩:=g69)
 refine ARun.callG 10 true 67 rfl (lit_lt rfl) rfl (lit_lt rfl) go_13 rfl (si_SameNumbers [1,3] [1,3] _ _ _ (hv.less less_) (Sl.own1 (g:=gZ) (l:=[1,3]) own_ List.prefix_rfl rfl (Nat.le_refl _) (by decide))) ?_
 rintro _ S9 ⟨rfl,q9⟩
 rw [q9,decide_eq_true (Eq.refl _)];clear q9 S9
 first|refine k_t rfl rfl ?_|refine k_f rfl rfl ?_
 refine k_m rfl ?_
 first|refine k_q 72 ?_|refine rG 72 (Calm.move rfl) ?_
 first|refine k_q 72 ?_|refine rG 72 (Calm.bin rfl rfl b_eql) ?_
 first|refine k_t rfl rfl ?_|refine k_f rfl rfl ?_
 refine k_m rfl ?_
 first|refine k_q 76 ?_|refine rG 76 (Calm.move rfl) ?_
 first|refine k_q 76 ?_|refine rG 76 (Calm.bin rfl rfl b_eql) ?_
 first|refine k_t rfl rfl ?_|refine k_f rfl rfl ?_
 refine k_m rfl ?_
 first|refine k_q 80 ?_|refine rG 80 (Calm.move rfl) ?_
 first|refine k_q 80 ?_|refine rG 80 (Calm.bin rfl rfl b_eql) ?_
 first|refine k_t rfl rfl ?_|refine k_f rfl rfl ?_
 refine k_m rfl ?_
 first|refine k_q 84 ?_|refine rG 84 (Calm.move rfl) ?_
 first|refine k_q 84 ?_|refine rG 84 (Calm.bin rfl rfl b_eql) ?_
 first|refine k_t rfl rfl ?_|refine k_f rfl rfl ?_
 refine k_m rfl ?_
 first|refine k_q 88 ?_|refine rG 88 (Calm.move rfl) ?_
 first|refine k_q 88 ?_|refine rG 88 (Calm.bin rfl rfl (bin_str_eql _ _)) ?_
 first|refine k_t rfl rfl ?_|refine k_f rfl rfl ?_
 refine k_m rfl ?_
 first|refine k_q 92 ?_|refine rG 92 (Calm.move rfl) ?_
 first|refine k_q 92 ?_|refine rG 92 (Calm.bin rfl rfl b_eql) ?_
 first|refine k_t rfl rfl ?_|refine k_f rfl rfl ?_
 refine k_m rfl ?_
 first|refine k_q 96 ?_|refine rG 96 (Calm.move rfl) ?_
 first|refine k_q 96 ?_|refine rG 96 (Calm.bin rfl rfl b_eql) ?_
 first|refine k_t rfl rfl ?_|refine k_f rfl rfl ?_
 refine k_m rfl ?_
 first|refine k_q 100 ?_|refine rG 100 (Calm.move rfl) ?_
 first|refine k_q 100 ?_|refine rG 100 (Calm.bin rfl rfl b_eql) ?_
 first|refine k_t rfl rfl ?_|refine k_f rfl rfl ?_
 refine k_m rfl ?_
 first|refine k_q 104 ?_|refine rG 104 (Calm.move rfl) ?_
 first|refine k_q 104 ?_|refine rG 104 (Calm.bin rfl rfl b_eql) ?_
 first|refine k_t rfl rfl ?_|refine k_f rfl rfl ?_
 refine k_m rfl ?_
 first|refine k_q 108 ?_|refine rG 108 (Calm.move rfl) ?_
 first|refine k_q 108 ?_|refine rG 108 (Calm.bin rfl rfl b_eql) ?_
 first|refine k_t rfl rfl ?_|refine k_f rfl rfl ?_
 refine k_m rfl ?_
 first|refine k_q 112 ?_|refine rG 112 (ldA_ (cs:=[_,_,_,_,_,_,_,_]) ty_agg_33 ty_size_33 rfl) ?_
 refine ARun.callG 55 true 112 rfl (lit_lt rfl) rfl (lit_lt rfl) go_14 rfl (fd_Check y _ _ (hy.less less_)) ?_
 rintro _ S9 ⟨rfl,q9⟩
 rw [q9,e7];clear q9 S9
 first|refine k_q 112 ?_|refine rG 112 (Calm.bin rfl rfl b_eql) ?_
 first|refine k_t rfl rfl ?_|refine k_f rfl rfl ?_
 refine k_e rfl ?_
 refine k_u [(0,_),(1,_),(2,_),(3,_),(4,_),(5,_),(6,_),(7,_),(8,_),(9,_),(10,_),(11,_),(12,_),(13,_),(15,_),(17,_)] ?_
 refine AWP.ret ?_
 refine ⟨_,S,⟨_,_,rfl,rfl,rfl⟩,(hS1.trans hS2).trans less_,?_⟩
 exact ⟨rfl,rfl⟩
end Go.Proofs.YtgidjbpgkeemiaaGreat
namespace Go.Proofs.YtgidjbpgkeemiaaGreat
open Num
namespace Fd
theorem beg_snoc (w t : List Nat) (c : Nat) (h : beg (w ++ [c]) t = true) : beg w t = true := by
 unfold beg at h ⊢
 have h:=of_decide_eq_true h
 refine decide_eq_true ?_
 have h2:=congrArg (List.take w.length) h
 rw [List.take_take,List.length_append,Nat.min_eq_left (Nat.le_add_right ..),List.take_left] at h2
 exact h2
theorem beg_more (s w : List Nat) (c : Nat) : begN s (w ++ [c]) ≤ begN s w := by
 unfold begN cnt
 exact List.countP_mono_left fun a _ h=>beg_snoc w _ c h
theorem countP_range_succ (q : Nat → Bool) (n : Nat) : (List.range (n + 1)).countP q = (if q 0 = true then 1 else 0) + (List.range n).countP (fun a => q (a + 1)) := by
 rw [List.range_succ_eq_map,List.countP_cons,List.countP_map,Nat.add_comm];rfl
/-- How many have it behind a byte less than k. -/
def behN (s w : List Nat) (k : Nat) : Nat := (List.range s.length).countP (fun a => decide (s.getD a 0 < k) && beg w (s.drop (a + 1)))
theorem beg_at (s w : List Nat) (c a : Nat) (h : a < s.length) : beg (c :: w) (s.drop a) = (decide (s.getD a 0 = c) && beg w (s.drop (a + 1))) := by
 rw [List.drop_eq_getElem_cons h,beg_cons,getD_get _ _ _ h]
theorem beg_byte (s w : List Nat) (c : Nat) : begN s (c :: w) = (List.range s.length).countP (fun a => decide (s.getD a 0 = c) && beg w (s.drop (a + 1))) := by
 unfold begN cnt
 rw [List.range_succ,List.countP_append,List.countP_singleton,List.drop_length,beg_end,if_neg Bool.false_ne_true,Nat.add_zero]
 exact List.countP_congr fun a ha=>by rw [beg_at s w c a (List.mem_range.1 ha)]
theorem beh_zero (s w : List Nat) : behN s w 0 = 0 := List.countP_eq_zero.2 fun a _ => by simp
theorem countP_split (p q r : Nat → Bool) (l : List Nat) (h : ∀ a ∈ l, p a = (q a || r a)) (hd : ∀ a ∈ l, ¬ (q a = true ∧ r a = true)) : l.countP p = l.countP q + l.countP r := by
 induction l with
 | nil=>rfl
 | cons x l ih =>
  have h1:=h x (List.mem_cons_self ..)
  have h2:=hd x (List.mem_cons_self ..)
  rw [List.countP_cons,List.countP_cons,List.countP_cons,ih (fun a ha=>h a (List.mem_cons_of_mem _ ha)) (fun a ha=>hd a (List.mem_cons_of_mem _ ha)),h1]
  cases hq:q x <;> cases hr:r x <;> simp_all <;> omega
theorem beh_step (s w : List Nat) (k : Nat) : behN s w (k + 1) = behN s w k + begN s (k :: w) := by
 rw [beg_byte]
 unfold behN
 refine countP_split _ _ _ _ (fun a _=>?_) fun a _=>?_
 ·rw [Bool.eq_iff_iff]
  simp only [Bool.or_eq_true,Bool.and_eq_true,decide_eq_true_eq]
  constructor
  ·rintro ⟨h1,h2⟩;rcases Nat.lt_or_ge (s.getD a 0) k with h | h
   ·exact .inl ⟨h,h2⟩
   ·exact .inr ⟨by omega,h2⟩
  ·rintro (⟨h1,h2⟩ | ⟨h1,h2⟩)
   ·exact ⟨by omega,h2⟩
   ·exact ⟨by omega,h2⟩
 ·simp only [Bool.and_eq_true,decide_eq_true_eq]
  rintro ⟨⟨h1,_⟩,⟨h2,_⟩⟩;omega
theorem beh_all (s w : List Nat) (hs : ∀ x ∈ s, x < 256) : begN s w = (if beg w s = true then 1 else 0) + behN s w 256 := by
 unfold begN cnt
 rw [countP_range_succ,List.drop_zero]
 congr 1
 unfold behN
 exact List.countP_congr fun a ha=>by
  have hl:=List.mem_range.1 ha
  have:s.getD a 0<256:=by rw [getD_get _ _ _ hl];exact hs _ (List.getElem_mem _)
  rw [decide_eq_true this,Bool.true_and]
theorem beg_le (s w : List Nat) (c : Nat) (hs : ∀ x ∈ s, x < 256) (hc : c < 256) : begN s (c :: w) ≤ begN s w := by
 rw [beh_all s w hs,beg_byte]
 refine Nat.le_trans ?_ (Nat.le_add_left _ _)
 unfold behN
 refine List.countP_mono_left fun a ha h=>?_
 rw [Bool.and_eq_true,decide_eq_true_eq] at h ⊢
 exact ⟨by omega,h.2⟩
theorem beh_le (s w : List Nat) (k : Nat) : behN s w k ≤ s.length := by unfold behN; have := List.countP_le_length (p := fun a => decide (s.getD a 0 < k) && beg w (s.drop (a + 1))) (l := List.range s.length); rw [List.length_range] at this; exact this
end Fd
end Go.Proofs.YtgidjbpgkeemiaaGreat
namespace Go.Proofs.YtgidjbpgkeemiaaGreat
open Go.RowKit
open Mv Num Loser Srt
set_option maxRecDepth 4000
theorem fx_nums (s : ByteArray) : bs (ofN (numsT s)) = s := by
 apply nums_inj
 rw [nums_bs,ofN_nums]
 intro x hx
 unfold numsT at hx
 obtain ⟨i,_,rfl⟩:=List.mem_map.1 hx
 exact byT_lt s i
theorem nums_lt (s : ByteArray) : ∀ x ∈ numsT s, x < 256 := fun x hx => by
 unfold numsT at hx
 obtain ⟨i,_,rfl⟩:=List.mem_map.1 hx
 exact byT_lt s i
/-- The column of a text. -/
theorem fx_col (s : ByteArray) (h : s.size ≤ 4096) : ∃ (c : ByteArray) (p : Nat), colP s = (c, p, 0) ∧ textP c (p : Int) = (s, 0) := by
 by_cases h0:s.size=0
 ·obtain rfl:s=bs []:=(size_z s).2 h0
  exact ⟨bs [],0,by decide +kernel,by decide +kernel⟩
 obtain ⟨e,he⟩ : ∃ e,e=Ord.endsR (numsT s) s.size:=⟨_,rfl⟩
 have hse:Ord.SortedE (numsT s) e:=by have:=Ord.endsR_ok (numsT s);rw [numsT_length,← he] at this;exact this
 have hc:=Ord.colE_ok hse (by rw [numsT_length];omega)
 rw [← colB_nums,← nums_bs] at hc
 have hsz:(bs (colB s e)).size=s.size:=by have:=hc.len;rw [numsT_length,numsT_length] at this;exact this
 have hw:=hc.text
 rw [numsT_length] at hw
 have hm:0 ∈ e:=hse.1.mem_iff.2 (List.mem_range.2 (by rw [numsT_length];omega))
 have hi:=List.idxOf_lt_length_of_mem hm
 rw [hse.len,numsT_length] at hi
 refine ⟨bs (colB s e),e.idxOf 0+1,by unfold colP;rw [if_neg (by omega),if_neg (by omega),he],?_⟩
 rw [textP_some (by omega) (by omega) (by omega) hw,fx_nums]
/-- The index of a text's column is right, and has that text. -/
theorem fx_index {s c : ByteArray} {p : Nat} (ht : textP c (p : Int) = (s, 0)) : ∃ y : Ix, y = ixP c p s ∧ chkX y = 0 ∧ txtX y = s ∧ y.col.size = s.size := by
 have h0:(textP c (p:Int)).2=0:=by rw [ht]
 obtain ⟨q,eq,q1,q2,q3,q4⟩:=text_col h0
 obtain rfl:q=p:=by omega
 rw [ht] at q3 q4
 have ho:OkX (ixP c q s) q s:=⟨ht,rfl,q1,q2,q3,q4⟩
 exact ⟨_,rfl,ok_chk ho rfl,ho.tx rfl,q4.symm⟩
theorem fx_loc {y : Ix} {s : ByteArray} (h : chkX y = 0) (ht : txtX y = s) (w : ByteArray) : locP y w = (Fd.plcs (numsT s) (numsT w), 0) := by unfold locP; rw [if_pos h, ht]
theorem fx_range {y : Ix} {s : ByteArray} (h : chkX y = 0) (ht : txtX y = s) (w : ByteArray) : rangeP y w = (Fd.fromP (numsT s) (numsT w), Fd.toP (numsT s) (numsT w), 0) := by unfold rangeP; rw [if_pos h, ht]
theorem fx_count {y : Ix} {s : ByteArray} (h : chkX y = 0) (ht : txtX y = s) (w : ByteArray) : ((rangeP y w).2.1 : Int) - (rangeP y w).1 = (Fd.begN (numsT s) (numsT w) : Nat) ∧ (rangeP y w).2.2 = 0 := by
 rw [fx_range h ht]
 have:=Fd.to_from (numsT s) (numsT w)
 exact ⟨by show (Fd.toP (numsT s) (numsT w):Int)-(Fd.fromP (numsT s) (numsT w):Nat)=_;omega,rfl⟩
end Go.Proofs.YtgidjbpgkeemiaaGreat
namespace Go.Proofs.YtgidjbpgkeemiaaGreat
open Go.RowKit
open Mv Num Loser Srt
set_option maxRecDepth 8000
theorem at_place (q : Nat → Bool) (n i : Nat) (hi : i < n) : decide (((List.range i).filter q).length < ((List.range n).filter q).length ∧ ((List.range n).filter q).getD ((List.range i).filter q).length 0 = i) = q i := by
 have hk:((List.range i).filter q).length=((List.range n).take i).countP q:=by
  rw [List.countP_eq_length_filter,List.take_range,Nat.min_eq_left (by omega)]
 cases hq:q i with
 | true =>
  have h:=Fd.filter_at q (List.range n) i (by rw [List.length_range];exact hi) (by rw [List.getElem_range];exact hq)
  rw [List.getElem_range,← hk] at h
  obtain ⟨h1,h2⟩:=List.getElem?_eq_some_iff.1 h
  exact decide_eq_true ⟨h1,by rw [getD_get _ _ _ h1];exact h2⟩
 | false =>
  refine decide_eq_false ?_
  rintro ⟨h1,h2⟩
  rw [getD_get _ _ _ h1] at h2
  have hm:=List.getElem_mem h1
  rw [h2] at hm
  have:=(List.mem_filter.1 hm).2
  rw [hq] at this;cases this
theorem cut_beg (s w : ByteArray) (a : Nat) (h : a + w.size ≤ s.size) : decide (s.extract a (a + w.size) = w) = Fd.beg (numsT w) ((numsT s).drop a) := by
 unfold Fd.beg
 refine decide_eq_decide.2 ⟨fun e=>?_,fun e=>?_⟩
 ·have:=nums_cut s a (a+w.size)
  rw [e,List.drop_take,Nat.add_sub_cancel_left] at this
  rw [numsT_length];exact this.symm
 ·refine nums_inj ?_
  rw [nums_cut,List.drop_take,Nat.add_sub_cancel_left];rw [numsT_length] at e;exact e
theorem cut_no (s w : ByteArray) (a : Nat) (h : ¬ a + w.size ≤ s.size) (ha : a ≤ s.size) : Fd.beg (numsT w) ((numsT s).drop a) = false := by
 unfold Fd.beg
 refine decide_eq_false fun e=>?_
 have:=congrArg List.length e
 rw [List.length_take,List.length_drop,numsT_length,numsT_length] at this
 omega
end Go.Proofs.YtgidjbpgkeemiaaGreat
namespace Go.Proofs.YtgidjbpgkeemiaaGreat
open Go.RowKit
open Mv Num Loser Srt
set_option maxRecDepth 8000
theorem rds_ownE {S : Mem} {b : Nat} {r : Blk} {cs : List Value} (h : S.own b = some r) (e : r.cells = cs) : S.rds ⟨b, 0, none⟩ cs := by rw [← e]; exact rds_own h
theorem nums_app (a b : ByteArray) : numsT (a ++ b) = numsT a ++ numsT b := by
 rw [nums_map,nums_map,nums_map,ByteArray.data_append,Array.toList_append,List.map_append]
theorem nums_byte {c : Nat} (h : c < 256) : numsT (bs [UInt8.ofNat c]) = [c] := by
 rw [nums_bs]
 show [(UInt8.ofNat c).toNat] = [c]
 rw [UInt8.toNat_ofNat_of_lt' (by simpa using h)]
theorem cells_byte {c : Nat} (h : c < 256) : cellsB [UInt8.ofNat c] = [.int .u8 (c : Int)] := by
 have:=ofN_cells [c] (fun x hx=>by rw [List.mem_singleton.1 hx];exact h)
 exact this.symm
theorem app_size (a b : ByteArray) : (a ++ b).size = a.size + b.size := by
 have:=congrArg List.length (nums_app a b)
 rw [List.length_append,numsT_length,numsT_length,numsT_length] at this;exact this
theorem wfu8 {n : Int} (h : (Lit.int .u8 n).wf = true) : 0 ≤ n ∧ n ≤ 255 := by
 simp [Lit.wf,IntKind.min,IntKind.max,IntKind.signed,IntKind.bits] at h
 omega
theorem begN_le (T w : List Nat) : Fd.begN T w ≤ T.length + 1 := by
 unfold Fd.begN Fd.cnt
 exact Nat.le_trans List.countP_le_length (by rw [List.length_range];exact Nat.le_refl _)
end Go.Proofs.YtgidjbpgkeemiaaGreat
namespace Go.Proofs.YtgidjbpgkeemiaaGreat
open Go.RowKit
open Mv Num Loser Srt
set_option maxRecDepth 8000
theorem fx_ext {y : Ix} {s : ByteArray} (h : chkX y = 0) (ht : txtX y = s) (hc : y.col.size = s.size) (a n : Nat) (hl : a + n ≤ s.size) : extP y (a : Int) (n : Int) = (s.extract a (a + n), 0) := by
 unfold extP
 rw [if_neg (fun h'=>h' h),ht,hc,if_neg (fun h'=>by rcases h' with h' | h' | h' | h' <;> omega),Int.toNat_natCast,show ((a:Int)+n).toNat=a+n by omega]
theorem fx_extN {y : Ix} {s : ByteArray} (h : chkX y = 0) (hc : y.col.size = s.size) {a n : Int} (hl : a < 0 ∨ n < 0 ∨ (s.size : Int) < a ∨ (s.size : Int) - a < n) : extP y a n = (ByteArray.empty, 1) := by
 unfold extP
 rw [if_neg (fun h'=>h' h),hc,if_pos hl]
theorem ext_all (s : ByteArray) : s.extract 0 s.size = s := by
 apply str_ext
 rw [data_extract,List.drop_zero,List.take_of_length_le (by rw [show s.data.toList.length=s.size from Array.length_toList];exact Nat.le_refl _)]
theorem ext_two (s : ByteArray) (a m n : Nat) (h : m ≤ n) : s.extract a (a + m) ++ s.extract (a + m) (a + n) = s.extract a (a + n) := by
 apply str_ext
 rw [ByteArray.data_append,Array.toList_append,data_extract,data_extract,data_extract]
 have e1:(s.data.toList.take (a+m)).drop a=((s.data.toList.take (a+n)).drop a).take m:=by
  rw [List.drop_take,List.drop_take,List.take_take,Nat.add_sub_cancel_left,Nat.add_sub_cancel_left,Nat.min_eq_left h]
 have e2:(s.data.toList.take (a+n)).drop (a+m)=((s.data.toList.take (a+n)).drop a).drop m:=by rw [List.drop_drop]
 rw [e1,e2,List.take_append_drop]
theorem fx_esz (s : ByteArray) (a b : Nat) : (s.extract a b).size ≤ s.size := by
 have:(s.extract a b).data.toList.length≤s.data.toList.length:=by rw [data_extract,List.length_drop,List.length_take];omega
 exact this
end Go.Proofs.YtgidjbpgkeemiaaGreat
