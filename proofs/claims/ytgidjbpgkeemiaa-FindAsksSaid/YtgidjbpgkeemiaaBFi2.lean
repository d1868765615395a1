/-
  Texts that belong together: VNum5, Ints, Seq, MemN, Shelf, LoserMath, OrdMath, Ord1, Draw, Ord2, Ord3, Sort0, SortX, SortB, SortY, Od1, Od2, Od3, OdP, Od5, SortOB, OrdMath2, Od7.
-/
import Derived.Test.YtgidjbpgkeemiaaBFi1
import Derived.Lib.Overlaps
import Derived.Shelf.Small.Bits
import Derived.Shelf.Bits.Mul64
import Derived.Test.YtgidjbpgkeemiaaProg
import Derived.Sort.AssemblyPlain
import Derived.Sort.LotD5
set_option linter.unusedVariables false
set_option linter.unusedSimpArgs false
set_option linter.unusedSectionVars false
namespace Go.Proofs.Ytgidjbpgkeemiaa
open Go.RowKit
open Mv Num
set_option maxRecDepth 4000
set_option maxHeartbeats 1000000 in
theorem rnumV_Less (a b : List Nat) (va vb : Value) (S : Mem) (ha : Sl 1 u64s S va a) (hb : Sl 1 u64s S vb b) :
  ACall Try.prog 64 #[va,vb] S fun r S'=>r = .bool (lessB a b)∧S'=S:=by
 obtain ⟨pa,ca,rfl,ha1,ha2,ha3⟩:=ha
 obtain ⟨pb,cb,rfl,hb1,hb2,hb3⟩:=hb
 refine ACall.enter (rs:=[.tmp 4]) 41 [(0,.slice pa a.length ca),(1,.slice pb b.length cb)] Try.func64 rfl rfl (Nat.le_of_ble_eq_true rfl) rfl ⟨rfl,rfl,trivial⟩ ?_
 refine k_a (k_e rfl (AWP.seq (k_a (k_e rfl ?_))))
 refine AWP.block ?_
 refine AWP.loop (X:=Nat) (fun x=>[(0,.slice pa a.length ca),(1,.slice pb b.length cb),(5,.int .i64 x)]) (fun x=>S) (fun x=>x≤a.length∧x≤b.length∧lessB (a.drop x) (b.drop x)=lessB a b) (fun x=>a.length-x) (0) ⟨rfl,rfl,rfl,trivial⟩ (Mem.Less.refl _) (⟨Nat.zero_le _,Nat.zero_le _,rfl⟩) ?_
 rintro i ⟨hi1,hi2,hq⟩
 (try dsimp only at *)
 by_cases hl:i<a.length
 ·by_cases hlb:i<b.length
  ·refine AWP.seq (k_a (k_m rfl (k_m rfl ?_)))
   refine rC (Calm.lenSl Try.underlying22 rfl) ?_
   refine rC (Calm.bin rfl rfl b_lss) ?_
   refine k_m rfl ?_
   first|refine k_q 10 ?_|refine rG 10 (Calm.move rfl) ?_
   first|refine k_q 10 ?_|refine rG 10 (Calm.move rfl) ?_
   first|refine k_q 10 ?_|refine rG 10 (Calm.lenSl Try.underlying22 rfl) ?_
   first|refine k_q 10 ?_|refine rG 10 (Calm.bin rfl rfl b_lss) ?_
   first|refine k_t rfl rfl ?_|refine k_f rfl rfl ?_
   refine k_n ?_
   refine k_u [(0,_),(1,_),(5,_),(15,_)] ?_
   refine k_T rfl ?_
   rw [List.drop_eq_getElem_cons hl,List.drop_eq_getElem_cons hlb,lessB] at hq
   obtain ⟨b0,off,rfl,hkn⟩:=ha3.resolve_left (by intro h;rw [h] at hl;exact absurd hl (Nat.not_lt_zero _))
   obtain ⟨b1,off1,rfl,hkn1⟩:=hb3.resolve_left (by intro h;rw [h] at hlb;exact absurd hlb (Nat.not_lt_zero _))
   have hkk:=hkn i hl
   have hkk1:=hkn1 i hlb
   by_cases c1:a[i]=b[i]
   ·refine k_k (AWP.seq ?_)
    refine AWP.block ?_
    refine AWP.seq ?_
    refine AWP.draw [(0,true),(1,true),(2,true),(3,true),(4,true),(5,true),(6,true),(7,true),(8,true)] [] mixed (by kernel_rfl) ?_
    refine dP (hc:=fun _=>Calm.move rfl) (h:=?_)
    refine dP (hc:=fun _=>Calm.move rfl) (h:=?_)
    refine dP (hc:=fun _=>Calm.indexS Try.underlying22 ty_size_41 rfl rfl (by omega) (by omega)) (h:=?_)
    refine dC (hc:=ld_ ty_plain_41 rfl) (h:=?_)
    refine dP (hc:=fun _=>Calm.move rfl) (h:=?_)
    refine dP (hc:=fun _=>Calm.move rfl) (h:=?_)
    refine dP (hc:=fun _=>Calm.indexS Try.underlying22 ty_size_41 rfl rfl (by omega) (by omega)) (h:=?_)
    refine dC (hc:=ld_ ty_plain_41 rfl) (h:=?_)
    refine dP (hc:=fun _=>Calm.bin rfl rfl b_neq) (h:=?_)
    refine draw_nil ?_
    refine athen_n ?_
    refine k_u [(0,_),(1,_),(5,_),(15,_),(26,_)] ?_
    refine k_F rfl ?_
    refine AWP.skip ?_
    refine ain_n ?_
    refine athen_n ?_
    refine AWP.region ?_
    refine k_m rfl ?_
    refine rC (Calm.bin rfl rfl b_add_i64) ?_
    refine k_e rfl ?_
    refine ⟨i+1,?_,?_,?_,?_⟩
    all_goals (try dsimp only)
    ·exact ⟨rfl,rfl,rfl,trivial⟩
    ·exact Mem.Less.refl _
    ·exact ⟨hl,hlb,by rw [← hq];simp [c1]⟩
    ·omega
   ·refine k_k (AWP.seq ?_)
    refine AWP.block ?_
    refine AWP.seq ?_
    refine AWP.draw [(0,true),(1,true),(2,true),(3,true),(4,true),(5,true),(6,true),(7,true),(8,true)] [] mixed (by kernel_rfl) ?_
    refine dP (hc:=fun _=>Calm.move rfl) (h:=?_)
    refine dP (hc:=fun _=>Calm.move rfl) (h:=?_)
    refine dP (hc:=fun _=>Calm.indexS Try.underlying22 ty_size_41 rfl rfl (by omega) (by omega)) (h:=?_)
    refine dC (hc:=ld_ ty_plain_41 rfl) (h:=?_)
    refine dP (hc:=fun _=>Calm.move rfl) (h:=?_)
    refine dP (hc:=fun _=>Calm.move rfl) (h:=?_)
    refine dP (hc:=fun _=>Calm.indexS Try.underlying22 ty_size_41 rfl rfl (by omega) (by omega)) (h:=?_)
    refine dC (hc:=ld_ ty_plain_41 rfl) (h:=?_)
    refine dP (hc:=fun _=>Calm.bin rfl rfl b_neq) (h:=?_)
    refine draw_nil ?_
    refine athen_n ?_
    refine k_u [(0,_),(1,_),(5,_),(15,_),(26,_)] ?_
    refine k_T rfl ?_
    refine AWP.seq ?_
    refine AWP.draw [(0,true),(1,true),(2,true),(3,true),(4,true),(5,true),(6,true),(7,true),(8,true),(9,true)] [] mixed (by kernel_rfl) ?_
    refine dP (hc:=fun _=>Calm.move rfl) (h:=?_)
    refine dP (hc:=fun _=>Calm.move rfl) (h:=?_)
    refine dP (hc:=fun _=>Calm.indexS Try.underlying22 ty_size_41 rfl rfl (by omega) (by omega)) (h:=?_)
    refine dC (hc:=ld_ ty_plain_41 rfl) (h:=?_)
    refine dP (hc:=fun _=>Calm.move rfl) (h:=?_)
    refine dP (hc:=fun _=>Calm.move rfl) (h:=?_)
    refine dP (hc:=fun _=>Calm.indexS Try.underlying22 ty_size_41 rfl rfl (by omega) (by omega)) (h:=?_)
    refine dC (hc:=ld_ ty_plain_41 rfl) (h:=?_)
    refine dP (hc:=fun _=>Calm.bin rfl rfl b_lss) (h:=?_)
    refine dP (hc:=fun _=>Calm.assign rfl) (h:=?_)
    refine draw_nil ?_
    refine athen_n ?_
    refine k_u [(0,_),(1,_),(5,_),(15,_),(26,_),(4,_)] ?_
    refine AWP.ret ?_
    refine ain_ret ?_
    refine athen_ret ?_
    refine athen_ret ?_
    refine ain_ret ?_
    refine athen_ret ?_
    refine ⟨_,S,⟨_,_,rfl,rfl,rfl⟩,less_,?_⟩
    exact ⟨by rw [← hq];simp [c1,one],rfl⟩
  ·refine AWP.seq (k_a (k_m rfl (k_m rfl ?_)))
   refine rC (Calm.lenSl Try.underlying22 rfl) ?_
   refine rC (Calm.bin rfl rfl b_lss) ?_
   refine k_m rfl ?_
   first|refine k_q 10 ?_|refine rG 10 (Calm.move rfl) ?_
   first|refine k_q 10 ?_|refine rG 10 (Calm.move rfl) ?_
   first|refine k_q 10 ?_|refine rG 10 (Calm.lenSl Try.underlying22 rfl) ?_
   first|refine k_q 10 ?_|refine rG 10 (Calm.bin rfl rfl b_lss) ?_
   first|refine k_t rfl rfl ?_|refine k_f rfl rfl ?_
   refine k_n ?_
   refine k_u [(0,_),(1,_),(5,_),(15,_)] ?_
   refine k_F rfl ?_
   rw [List.drop_of_length_le (show b.length≤i by omega)] at hq
   obtain ⟨x,y,hxy⟩ : ∃ x y,a.drop i=x :: y:=⟨_,_,List.drop_eq_getElem_cons hl⟩
   rw [hxy] at hq
   refine AWP.exit ?_
   refine athen_exit ?_
   refine athen_exit ?_
   refine ain_same ?_
   refine athen_n ?_
   refine k_a (k_m rfl ?_)
   refine rC (Calm.lenSl Try.underlying22 rfl) ?_
   refine k_m rfl ?_
   refine rC (Calm.lenSl Try.underlying22 rfl) ?_
   refine rC (Calm.bin rfl rfl b_lss) ?_
   refine k_e rfl ?_
   refine k_u [(0,_),(1,_),(5,_),(15,_),(4,_)] ?_
   refine AWP.ret ?_
   refine ⟨_,S,⟨_,_,rfl,rfl,rfl⟩,less_,?_⟩
   exact ⟨by rw [← hq];show Value.bool _=Value.bool _;congr 1 <;> (first | (simp [lessB];done) | (simp [lessB];omega)),rfl⟩
 ·refine AWP.seq (k_a (k_m rfl (k_m rfl ?_)))
  refine rC (Calm.lenSl Try.underlying22 rfl) ?_
  refine rC (Calm.bin rfl rfl b_lss) ?_
  refine k_m rfl ?_
  first|refine k_q 10 ?_|refine rG 10 (Calm.move rfl) ?_
  first|refine k_q 10 ?_|refine rG 10 (Calm.move rfl) ?_
  first|refine k_q 10 ?_|refine rG 10 (Calm.lenSl Try.underlying22 rfl) ?_
  first|refine k_q 10 ?_|refine rG 10 (Calm.bin rfl rfl b_lss) ?_
  first|refine k_t rfl rfl ?_|refine k_f rfl rfl ?_
  refine k_n ?_
  refine k_u [(0,_),(1,_),(5,_),(15,_)] ?_
  refine k_F rfl ?_
  rw [List.drop_of_length_le (show a.length≤i by omega)] at hq
  by_cases hlb:i<b.length
  ·rw [List.drop_eq_getElem_cons hlb] at hq
   refine AWP.exit ?_
   refine athen_exit ?_
   refine athen_exit ?_
   refine ain_same ?_
   refine athen_n ?_
   refine k_a (k_m rfl ?_)
   refine rC (Calm.lenSl Try.underlying22 rfl) ?_
   refine k_m rfl ?_
   refine rC (Calm.lenSl Try.underlying22 rfl) ?_
   refine rC (Calm.bin rfl rfl b_lss) ?_
   refine k_e rfl ?_
   refine k_u [(0,_),(1,_),(5,_),(15,_),(4,_)] ?_
   refine AWP.ret ?_
   refine ⟨_,S,⟨_,_,rfl,rfl,rfl⟩,less_,?_⟩
   exact ⟨by rw [← hq];show Value.bool _=Value.bool _;congr 1 <;> (first | (simp [lessB];done) | (simp [lessB];omega)),rfl⟩
  ·rw [List.drop_of_length_le (show b.length≤i by omega)] at hq
   refine AWP.exit ?_
   refine athen_exit ?_
   refine athen_exit ?_
   refine ain_same ?_
   refine athen_n ?_
   refine k_a (k_m rfl ?_)
   refine rC (Calm.lenSl Try.underlying22 rfl) ?_
   refine k_m rfl ?_
   refine rC (Calm.lenSl Try.underlying22 rfl) ?_
   refine rC (Calm.bin rfl rfl b_lss) ?_
   refine k_e rfl ?_
   refine k_u [(0,_),(1,_),(5,_),(15,_),(4,_)] ?_
   refine AWP.ret ?_
   refine ⟨_,S,⟨_,_,rfl,rfl,rfl⟩,less_,?_⟩
   exact ⟨by rw [← hq];show Value.bool _=Value.bool _;congr 1 <;> (first | (simp [lessB];done) | (simp [lessB];omega)),rfl⟩
end Go.Proofs.Ytgidjbpgkeemiaa
namespace Go.Proofs.Ytgidjbpgkeemiaa
open Go.RowKit
open Mv Num
set_option maxRecDepth 4000
/-- Numbers from 0 on, as ints. -/
def i64n (k : Nat) : List Value := [.int .i64 (k : Int)]
abbrev IdxR (S : Mem) (v : Value) (l : List Nat) : Prop := Sl 1 i64n S v l
theorem idxR_less (S S' : Mem) (v : Value) (l : List Nat) (h : IdxR S v l) (hl : S.Less S') : IdxR S' v l := h.less hl
theorem idx_ints {S : Mem} {v : Value} {l : List Nat} (h : IdxR S v l) : Sl 1 i64s S v (l.map (fun k : Nat => (k : Int))) := by
 obtain ⟨a,cap,rfl,h1,h2,h3⟩:=h
 refine ⟨a,cap,by rw [List.length_map],by rw [List.length_map];exact h1,by rw [List.length_map];exact h2,?_⟩
 rcases h3 with h | ⟨b,off,e,hk⟩
 ·exact .inl (by rw [h];rfl)
 ·refine .inr ⟨b,off,e,fun i hi=>?_⟩
  rw [List.getElem_map];exact hk i (by rw [List.length_map] at hi;exact hi)
theorem ints_idx {S : Mem} {v : Value} {l : List Nat} (h : Sl 1 i64s S v (l.map (fun k : Nat => (k : Int)))) : IdxR S v l := Sl.map (fun k : Nat => (k : Int)) (fun _ => rfl) h
def cmpZ (x y : Int) : Int := if x < y then -1 else if y < x then 1 else 0
theorem cmpZ_neg (x y : Int) : cmpZ x y < 0 ↔ x < y := by unfold cmpZ; split <;> (try split) <;> omega
def orL : List Int → Int
  | [] => 0
  | x :: l => if x = 0 then orL l else x
theorem si_SameNumbers (a b : List Int) (va vb : Value) (S : Mem) (ha : Sl 1 i64s S va a) (hb : Sl 1 i64s S vb b) :
  ACall Try.prog 21 #[va,vb] S fun r S'=>r = .bool (decide (a=b))∧S'=S:=by
 obtain ⟨pa,ca,rfl,ha1,ha2,ha3⟩:=ha
 obtain ⟨pb,cb,rfl,hb1,hb2,hb3⟩:=hb
 by_cases hlen:a.length=b.length
 ·have hlen0:=hlen
  refine ACall.enter (rs:=[.tmp 4]) 26 [(0,.slice pa a.length ca),(1,.slice pb b.length cb)] Try.func21 rfl rfl (Nat.le_of_ble_eq_true rfl) rfl ⟨rfl,rfl,trivial⟩ ?_
  refine k_a (k_e rfl (AWP.seq (k_a (k_m rfl ?_))))
  refine rC (Calm.lenSl Try.underlying24 rfl) ?_
  refine k_m rfl ?_
  refine rC (Calm.lenSl Try.underlying24 rfl) ?_
  refine rC (Calm.bin rfl rfl b_neq) ?_
  refine k_n ?_
  refine k_u [(0,_),(1,_),(4,_),(10,_)] ?_
  refine k_F rfl ?_
  refine k_k (AWP.seq (k_a (k_m rfl ?_)))
  refine rC (Calm.lenSl Try.underlying24 rfl) ?_
  refine k_m rfl (k_n ?_)
  refine k_u [(0,_),(1,_),(4,_),(10,_),(12,_),(13,_)] ?_
  refine AWP.block ?_
  refine AWP.loop (X:=Nat) (fun x=>[(0,.slice pa a.length ca),(1,.slice pb b.length cb),(12,.int .i64 a.length),(13,.int .i64 x)]) (fun x=>S) (fun x=>x≤a.length ∧ ∀ j (hj:j<a.length) (hj2:j<b.length),j<x→a[j]=b[j]) (fun x=>a.length-x) (0) ⟨rfl,rfl,rfl,rfl,trivial⟩ (Mem.Less.refl _) (⟨Nat.zero_le _,fun _ _ _ h=>absurd h (Nat.not_lt_zero _)⟩) ?_
  rintro i ⟨hi1,hq⟩
  (try dsimp only at *)
  refine k_a ?_
  refine rC (Calm.bin rfl rfl b_lss) ?_
  refine k_n (AWP.seq ?_)
  refine AWP.condB rfl (fun hl=>?_) (fun hl=>?_)
  ·have hl:i<a.length:=by have:=of_decide_eq_true hl;omega
   have hlb:i<b.length:=by omega
   obtain ⟨b0,off,rfl,hkn⟩:=ha3.resolve_left (by intro h;rw [h] at hl;exact absurd hl (Nat.not_lt_zero _))
   obtain ⟨b1,off1,rfl,hkn1⟩:=hb3.resolve_left (by intro h;rw [h] at hlb;exact absurd hlb (Nat.not_lt_zero _))
   have hkk:=hkn i hl
   have hkk1:=hkn1 i hlb
   by_cases c1:a[i]=b[i]
   ·refine k_k (AWP.seq ?_)
    refine AWP.block ?_
    refine k_a (k_m rfl (k_e rfl ?_))
    refine k_u [(0,_),(1,_),(12,_),(13,_),(14,_),(5,_)] ?_
    refine AWP.seq ?_
    refine AWP.draw [(0,true),(1,true),(2,true),(3,true),(4,true),(5,true),(6,true),(7,true),(8,true)] [] mixed (by kernel_rfl) ?_
    refine dP (hc:=fun _=>Calm.move rfl) (h:=?_)
    refine dP (hc:=fun _=>Calm.move rfl) (h:=?_)
    refine dP (hc:=fun _=>Calm.indexS Try.underlying24 ty_size_3 rfl rfl (by omega) (by omega)) (h:=?_)
    refine dC (hc:=ld_ ty_plain_3 rfl) (h:=?_)
    refine dP (hc:=fun _=>Calm.move rfl) (h:=?_)
    refine dP (hc:=fun _=>Calm.move rfl) (h:=?_)
    refine dP (hc:=fun _=>Calm.indexS Try.underlying24 ty_size_3 rfl rfl (by omega) (by omega)) (h:=?_)
    refine dC (hc:=ld_ ty_plain_3 rfl) (h:=?_)
    refine dP (hc:=fun _=>Calm.bin rfl rfl b_neq) (h:=?_)
    refine draw_nil ?_
    refine athen_n ?_
    refine k_u [(0,_),(1,_),(12,_),(13,_),(14,_),(5,_),(24,_)] ?_
    refine k_F rfl ?_
    refine AWP.skip ?_
    refine ain_n ?_
    refine athen_n ?_
    refine AWP.region ?_
    refine rC (Calm.bin rfl rfl b_add_i64) ?_
    refine k_m rfl (k_n ?_)
    refine ⟨i+1,?_,?_,?_,?_⟩
    all_goals (try dsimp only)
    ·exact ⟨rfl,rfl,rfl,rfl,trivial⟩
    ·exact Mem.Less.refl _
    ·exact ⟨hl,fun j hj hj2 hji=>by rcases Nat.lt_or_ge j i with h | h;exact hq j hj hj2 h;obtain rfl:j=i:=(by omega);exact c1⟩
    ·omega
   ·refine k_k (AWP.seq ?_)
    refine AWP.block ?_
    refine k_a (k_m rfl (k_e rfl ?_))
    refine k_u [(0,_),(1,_),(12,_),(13,_),(14,_),(5,_)] ?_
    refine AWP.seq ?_
    refine AWP.draw [(0,true),(1,true),(2,true),(3,true),(4,true),(5,true),(6,true),(7,true),(8,true)] [] mixed (by kernel_rfl) ?_
    refine dP (hc:=fun _=>Calm.move rfl) (h:=?_)
    refine dP (hc:=fun _=>Calm.move rfl) (h:=?_)
    refine dP (hc:=fun _=>Calm.indexS Try.underlying24 ty_size_3 rfl rfl (by omega) (by omega)) (h:=?_)
    refine dC (hc:=ld_ ty_plain_3 rfl) (h:=?_)
    refine dP (hc:=fun _=>Calm.move rfl) (h:=?_)
    refine dP (hc:=fun _=>Calm.move rfl) (h:=?_)
    refine dP (hc:=fun _=>Calm.indexS Try.underlying24 ty_size_3 rfl rfl (by omega) (by omega)) (h:=?_)
    refine dC (hc:=ld_ ty_plain_3 rfl) (h:=?_)
    refine dP (hc:=fun _=>Calm.bin rfl rfl b_neq) (h:=?_)
    refine draw_nil ?_
    refine athen_n ?_
    refine k_u [(0,_),(1,_),(12,_),(13,_),(14,_),(5,_),(24,_)] ?_
    refine k_T rfl ?_
    refine k_a (k_e rfl ?_)
    refine AWP.ret ?_
    refine ain_ret ?_
    refine athen_ret ?_
    refine athen_ret ?_
    refine ain_ret ?_
    refine athen_ret ?_
    refine ⟨_,S,⟨_,_,rfl,rfl,rfl⟩,less_,?_⟩
    exact ⟨by rw [decide_eq_false (fun e=>c1 (by subst e;rfl))];rfl,rfl⟩
  ·have hl:i=a.length:=by have:=of_decide_eq_false hl;omega
   refine AWP.exit ?_
   refine athen_exit ?_
   refine athen_exit ?_
   refine ain_same ?_
   refine athen_n ?_
   refine k_a (k_e rfl ?_)
   refine AWP.ret ?_
   refine ⟨_,S,⟨_,_,rfl,rfl,rfl⟩,less_,?_⟩
   exact ⟨by rw [decide_eq_true (List.ext_getElem hlen fun j h1 h2=>hq j h1 h2 (by omega))];rfl,rfl⟩
 ·have hlen0:=hlen
  refine ACall.enter (rs:=[.tmp 4]) 26 [(0,.slice pa a.length ca),(1,.slice pb b.length cb)] Try.func21 rfl rfl (Nat.le_of_ble_eq_true rfl) rfl ⟨rfl,rfl,trivial⟩ ?_
  refine k_a (k_e rfl (AWP.seq (k_a (k_m rfl ?_))))
  refine rC (Calm.lenSl Try.underlying24 rfl) ?_
  refine k_m rfl ?_
  refine rC (Calm.lenSl Try.underlying24 rfl) ?_
  refine rC (Calm.bin rfl rfl b_neq) ?_
  refine k_n ?_
  refine k_u [(0,_),(1,_),(4,_),(10,_)] ?_
  refine k_T rfl ?_
  refine k_a (k_e rfl ?_)
  refine k_r ?_
  refine ⟨_,S,⟨_,_,rfl,rfl,rfl⟩,less_,?_⟩
  exact ⟨by rw [decide_eq_false (fun e=>hlen (by rw [e]))];rfl,rfl⟩
end Go.Proofs.Ytgidjbpgkeemiaa
namespace Go.Proofs.Ytgidjbpgkeemiaa
open Go.RowKit
open Mv
theorem push_sub {α : Type} {b c n : Nat} {L : List α} {x : α} (h : n = L.length + 1) : some (outV (some (b, c)) n) = some (outV (some (b, c)) (L ++ [x]).length) := by
 rw [h,List.length_append];rfl
/-- Slots that are as told. -/
theorem sq_ {p : Prop} (h : p := by first | rfl | (refine some_int ?_; first | omega | (dsimp only; omega)) | exact push_sub (by first | rfl | omega)) : p := h
/-- A value that is read: what was known stays, and it is this list. -/
def RdL {α : Type} (g : α → Value) (l : List α) (S : Mem) (r : Value) (S' : Mem) : Prop := S.Less S' ∧ Sl 1 (fun x => [g x]) S' r l
theorem RdL.of_out {α : Type} {g : α → Value} {S : Mem} {o : Option (Nat × Nat)} {e : TypeId} {l : List α} {n : Nat} (h : OkO S o n) (hn : l.length = n) (hm : n ≤ 9223372036854775807) : RdL g l S (outV o n) (outM S o e (l.map g)) :=
 ⟨outM_over h,sl_outV h hn hm⟩
/-- A new slice that is the call's own. -/
def NewL {α : Type} (g : α → Value) (e : TypeId) (l : List α) (S : Mem) (r : Value) (S' : Mem) : Prop := ∃ o, OkO S o l.length ∧ r = outV o l.length ∧ S' = outM S o e (l.map g)
theorem NewL.rd {α : Type} {g : α → Value} {e : TypeId} {l : List α} {S : Mem} {r : Value} {S' : Mem} (h : NewL g e l S r S') (hm : l.length ≤ 9223372036854775807) : RdL g l S r S' := by
 obtain ⟨o,ho,rfl,rfl⟩:=h
 exact RdL.of_out ho rfl hm
/-- A list that is filled from its beginning on. -/
theorem fill_set {α : Type} (hs : List α) (z v : α) (m i : Nat) (h : hs.length = i) (hi : i < m) : (hs ++ List.replicate (m - i) z).set i v = (hs ++ [v]) ++ List.replicate (m - (i + 1)) z := by
 subst h
 rw [List.set_append_right _ _ (Nat.le_refl _),Nat.sub_self,show m-hs.length=(m-(hs.length+1))+1 by omega,List.replicate_succ,List.set_cons_zero,List.append_assoc];rfl
theorem fill_map {α β : Type} (g : α → β) (L : List α) (z : α) (m i : Nat) (x : α) (h : L.length = i) (hi : i < m) : (L.map g ++ List.replicate (m - i) (g z)).set i (g x) = (L ++ [x]).map g ++ List.replicate (m - (i + 1)) (g z) := by
 rw [fill_set _ _ _ _ _ (by rw [List.length_map];exact h) hi,List.map_append];rfl
/-- Headers that are told one behind the other. -/
theorem heads_step {β : Type} {R : Mem → Value → β → Prop} (hR : ∀ S S' v x, R S v x → S.Less S' → R S' v x) {M M' : Mem} {hs : List Value} {f : Nat → β} (h : ∀ j (h : j < hs.length), R M hs[j] (f j)) (hl : M.Less M') {v : Value} (hv : R M' v (f hs.length)) :
  ∀ j (h:j<(hs ++ [v]).length),R M' (hs ++ [v])[j] (f j):=by
 intro j hj
 rw [List.length_append] at hj
 rcases Nat.lt_or_ge j hs.length with h' | h'
 ·rw [List.getElem_append_left h'];exact hR _ _ _ _ (h j h') hl
 ·obtain rfl:j=hs.length:=by simp at hj;omega
  rw [List.getElem_append_right (Nat.le_refl _)]
  simpa using hv
theorem rd_list {α : Type} {S : Mem} {b : Nat} {T : TypeId} {g : α → Value} {L : List α} {room o : Nat} (k : Nat) (hk : k < L.length) (h : S.own b = some ⟨T, L.map g, room⟩) (ho : o = k) : S.rd ⟨b, o, none⟩ = some (g L[k]) := by
 rw [rd_own h,ho];simp [hk]
end Go.Proofs.Ytgidjbpgkeemiaa
namespace Go.Proofs.Ytgidjbpgkeemiaa
open Go.RowKit
namespace Mv
/-! ### Less is known of blocks -/
def Mem.Shr (S' S : Mem) : Prop := (∀ b r', S'.own b = some r' → ∃ r, S.own b = some r ∧ r.elem = r'.elem ∧ r'.cells <+: r.cells ∧ r'.room ≤ r.room) ∧ S'.ro = S.ro
theorem View.shr {S S' : Mem} {w : World} (h : View S w) (hl : S'.Shr S) : View S' w :=
 ⟨fun b r' hb=>by
  obtain ⟨r,h1,h2,h3,h4⟩:=hl.1 b r' hb
  obtain ⟨cur,fz,e1,e2,e3,e4⟩:=h.own b r h1
  exact ⟨cur,fz,by rw [← h2];exact e1,h3.trans e2,Nat.le_trans h4 e3,by rw [← h2];exact e4⟩,fun a v ha=>by
  rw [hl.2] at ha
  refine ⟨(h.ro a v ha).1,?_⟩
  cases e:S'.own a.block with
  | none=>rfl
  | some r =>
   obtain ⟨r0,h1,_⟩:=hl.1 _ _ e
   rw [(h.ro a v ha).2] at h1;cases h1⟩
theorem Step.shrL {S S0 S' : Mem} {w w' : World} (h : Step S0 w S' w') (hl : S0.Shr S) (hs : ∀ k, S.own k ≠ none → S0.own k ≠ none) : Step S w S' w' :=
 ⟨h.view,h.os,h.tape,h.output,h.size,fun k hk hn=>h.block k hk (by
  cases e:S0.own k with
  | none=>rfl
  | some r=>obtain ⟨r0,h1,_⟩:=hl.1 _ _ e;rw [hn] at h1;cases h1),fun k hk=>by
  rcases h.dom k hk with x | x
  ·left
   intro e
   cases e0:S0.own k with
   | none=>exact x e0
   | some r=>obtain ⟨r0,h1,_⟩:=hl.1 _ _ e0;rw [e] at h1;cases h1
  ·exact .inr x,h.ro.trans hl.2⟩
theorem shr_set {S : Mem} {b : Nat} {e : TypeId} {cs cs' : List Value} {m m' : Nat} (h : cs' <+: cs) (hm : m' ≤ m) : (S.set b ⟨e, cs', m'⟩).Shr (S.set b ⟨e, cs, m⟩) :=
 ⟨fun k r' hk=>by
  by_cases x:k=b
  ·subst x
   rw [Mem.own_set_same] at hk ⊢
   cases hk
   exact ⟨_,rfl,rfl,h,hm⟩
  ·rw [Mem.own_set_other _ _ x] at hk ⊢
   exact ⟨r',hk,rfl,List.prefix_rfl,Nat.le_refl _⟩,rfl⟩
theorem dom_set {S : Mem} {b : Nat} {r r' : Blk} : ∀ k, (S.set b r).own k ≠ none → (S.set b r').own k ≠ none := fun k hk => by
 by_cases x:k=b
 ·subst x;rw [Mem.own_set_same];simp
 ·rw [Mem.own_set_other _ _ x] at hk ⊢;exact hk
theorem AWP.cut {P : Program} {N : Nat} {c : Code} {Q : Exit → Env → Mem → Prop} {E : Env} {S : Mem} {b : Nat} {e : TypeId} {cs cs' : List Value} {m m' : Nat} (h : cs' <+: cs) (hm : m' ≤ m) (hA : AWP P N c Q E (S.set b ⟨e, cs', m'⟩)) : AWP P N c Q E (S.set b ⟨e, cs, m⟩) := fun a w hg hv =>
 wp_mono (hA a w hg (hv.shr (shr_set h hm))) fun _ _ _ ⟨E',S',hq,hg',hs⟩=>⟨E',S',hq,hg',hs.shrL (shr_set h hm) dom_set⟩
/-- The own memory of a slice of things of n cells. -/
def outN (n : Nat) (S : Mem) (o : Option (Nat × Nat)) (e : TypeId) (cs : List Value) : Mem := match o with
  | none => S
  | some (b, c) => S.set b ⟨e, cs, c * n⟩
theorem outN_over {n : Nat} {S : Mem} {o : Option (Nat × Nat)} {k : Nat} {e : TypeId} {cs : List Value} (h : OkO S o k) : S.Less (outN n S o e cs) := by
 cases o with
 | none=>exact Mem.Less.refl _
 | some q=>exact Mem.less_set _ _ _ (h.own q.1 q.2 rfl).1.1
section
variable {P : Program} {N : Nat} {ops : Array Oper} {E : Env} {S : Mem} {K : Env → Mem → Prop}
variable {ty : TypeId} {pos : String} {aft : Array Edge} {gd : Option (Nat × Bool)}
/-- append to a block of one's own, of what is known. -/
theorem ARun.appendRunK {os : List Oper} {T e : TypeId} {n y : Nat} {z : List Value} {x1 x2 : Operand} {b k c : Nat} {xs news : List Value} {a2 : Addr} {m c2 d : Nat} (hn : d < N) (hT : slT P T = some (e, n, y, z)) (hz : z.length = n)
  (hx:ev E x1=some (.slice (some ⟨b,0,none⟩) k c)) (hb:S.own b=some ⟨e,xs,c*n⟩) (hxs:xs.length=k*n)
  (hy:ev E x2=some (.slice (some a2) m c2)) (hnews:S.Knows a2 news) (hnl:news.length=m*n) (h1:∀ v ∈ news,v.oneCell'=true) (hfit:(k+m)*y≤140737488355328) (h63:k+m≤9223372036854775807)
  (h:∀ b' c',Fresh (S.del b) b'→k+m≤c'→ARun P N ops os K ((d,.slice (some ⟨b',0,none⟩) (k+m) c') :: E) ((S.del b).set b' ⟨e,xs ++ news,c'*n⟩)) :
  ARun P N ops (⟨some d,.call ⟨.builtin .append,#[x1,x2],#[T,T]⟩,ty,pos,aft,none⟩ :: os) K E S:=fun a w g hv=>by
 rw [if_pos (by simp [Region.wanted])]
 obtain ⟨hu,i,v,e1,e2,rfl,rfl,rfl⟩:=slT_spec hT
 have hz':v.cells.size=i.size:=by simpa using hz
 have hex:(execOp a.eval ⟨some d,.call ⟨.builtin .append,#[x1,x2],#[T,T]⟩,ty,pos,aft,none⟩).run P w=((Builtin.append_ #[T,T] ty #[.slice (some ⟨b,0,none⟩) k c,.slice (some a2) m c2]).run P w).andThen fun v w'=>.ok (.value v) w':=by
  simp [execOp,resolve,invoke,builtin,g.ev hx,g.ev hy]
 unfold Oper.wp
 rw [hex]
 by_cases hroom:k+m≤c
 ·obtain ⟨q1,q2⟩:=store_cells (P:=P) hv hb (vs:=news) (o:=k*i.size) (by simp [hxs]) (.inr (by simp only [hnl];rw [← Nat.add_mul];exact Nat.mul_le_mul_right _ hroom)) h1
  have hf:=run_firstCells_some (P:=P) w i.size m a2 m c2 news hnl (fun j u hj=>hnews w hv j u hj)
  have hr:(Builtin.append_ #[T,T] ty #[.slice (some ⟨b,0,none⟩) k c,.slice (some a2) m c2]).run P w = .ok (.slice (some ⟨b,0,none⟩) (k+m) c) (w.setCells b (k*i.size) news):=by
   simp [Builtin.append_,run_underlying hu,sizeOf,typeInfo,e1,Builtin.lenOf,hroom,hf,addr_add,q1]
  rw [hr]
  have hsp:spl xs (k*i.size) news=xs ++ news:=by
   unfold spl
   rw [List.take_of_length_le (by omega),List.drop_of_length_le (by omega),List.append_nil]
  simp only [hsp] at q2
  refine ⟨_,_,h b c (fresh_del (fun a v ha=>(hv.ro a v ha).2) hb) hroom,g.put hn _,?_⟩
  rw [del_set];exact q2
 ·have hfit':Builtin.nextslicecap (k+m) c*i.bytes≤281474976710656:=growslice_fits (by omega) hfit
  have hr:=run_append_grow (P:=P) w T ty e i v hu e1 e2 ⟨b,0,none⟩ k c xs hxs (fun j u hj=>hv.rd (by rw [addr_add,Nat.zero_add,rd_own hb];exact hj)) a2 m c2 news hnl (fun j u hj=>hnews w hv j u hj) (by omega) (by omega) hfit'
  rw [hr]
  have hge:=grownCap_ge w (k+m) c e
  have hvd:View S w.drew:=hv.drawn _
  have hst:=Step.allocP hvd e (xs.toArray ++ news.toArray ++ Builtin.zeroCells v.cells (grownCap w (k+m) c e-(k+m))) (xs ++ news) (grownCap w (k+m) c e*i.size) (by simp [List.append_assoc]) (by
   simp only [Array.size_append,List.size_toArray,size_zeroCells,hz',hxs,hnl,← Nat.add_mul]
   exact Nat.mul_le_mul_right _ (by omega))
  refine ⟨_,_,h w.heap.size (grownCap w (k+m) c e) (hv.freshAt.less (Less.del S b)) hge,g.put hn _,?_⟩
  exact ((Step.drawn hv _).trans hst).less (less_del S b _ _)
theorem ARun.appendNilK {os : List Oper} {T e : TypeId} {n y : Nat} {z : List Value} {x1 x2 : Operand} {news : List Value} {a2 : Addr} {m c2 d : Nat} (hn : d < N) (hT : slT P T = some (e, n, y, z)) (hz : z.length = n)
  (hx:ev E x1=some (.slice none 0 0)) (hy:ev E x2=some (.slice (some a2) m c2)) (hnews:S.Knows a2 news) (hnl:news.length=m*n) (hm:0<m) (hfit:m*y≤140737488355328) (h63:m≤9223372036854775807)
  (h:∀ b' c',Fresh S b'→m≤c'→ARun P N ops os K ((d,.slice (some ⟨b',0,none⟩) m c') :: E) (S.set b' ⟨e,news,c'*n⟩)) :
  ARun P N ops (⟨some d,.call ⟨.builtin .append,#[x1,x2],#[T,T]⟩,ty,pos,aft,none⟩ :: os) K E S:=fun a w g hv=>by
 rw [if_pos (by simp [Region.wanted])]
 obtain ⟨hu,i,v,e1,e2,rfl,rfl,rfl⟩:=slT_spec hT
 have hz':v.cells.size=i.size:=by simpa using hz
 have hex:(execOp a.eval ⟨some d,.call ⟨.builtin .append,#[x1,x2],#[T,T]⟩,ty,pos,aft,none⟩).run P w=((Builtin.append_ #[T,T] ty #[.slice none 0 0,.slice (some a2) m c2]).run P w).andThen fun v w'=>.ok (.value v) w':=by
  simp [execOp,resolve,invoke,builtin,g.ev hx,g.ev hy]
 unfold Oper.wp
 rw [hex,run_append_nil (P:=P) w T ty e i v hu e1 e2 a2 m c2 news hnl (fun j u hj=>hnews w hv j u hj) hm (by omega) (by omega)]
 have hge:=grownCap_ge w m 0 e
 have hvd:View S w.drew:=hv.drawn _
 have hst:=Step.allocP hvd e (news.toArray ++ Builtin.zeroCells v.cells (grownCap w m 0 e-m)) news (grownCap w m 0 e*i.size) (by simp) (by
  simp only [Array.size_append,List.size_toArray,size_zeroCells,hz',hnl,← Nat.add_mul]
  exact Nat.mul_le_mul_right _ (by omega))
 exact ⟨_,_,h w.heap.size (grownCap w m 0 e) hv.freshAt hge,g.put hn _,(Step.drawn hv _).trans hst⟩
theorem Calm.cap {T e : TypeId} {x : Operand} {a : Option Addr} {k c : Nat} {dst : Option Nat} (hT : P.underlying T = some (.slice e)) (hx : ev E x = some (.slice a k c)) : ACalm P N ⟨dst, .call ⟨.builtin .cap, #[x], #[T]⟩, ty, pos, aft, gd⟩ E S (.int .i64 (c : Int)) := fun ac w g hv => by
 simp [execOp,resolve,invoke,builtin,g.ev hx,Builtin.cap_,run_underlying hT,goInt]
end
/-! ### Appending to a slice of one's own -/
/-- The first m things of a slice that is known. -/
def Src (M : Mem) (v : Value) (m : Nat) (news : List Value) : Prop := ∃ A c, v = .slice A m c ∧ (m = 0 ∨ ∃ a, A = some a ∧ M.Knows a news)
theorem Src.less {M M' : Mem} {v : Value} {m : Nat} {news : List Value} (h : Src M v m news) (hl : M.Less M') : Src M' v m news := by
 obtain ⟨A,c,e,h⟩:=h
 exact ⟨A,c,e,h.imp id fun ⟨a,e2,k⟩=>⟨a,e2,k.less hl⟩⟩
theorem flat_split {α : Type} {n : Nat} {f : α → List Value} (hn : ∀ x, (f x).length = n) : ∀ (l : List α) (j : Nat) (v : Value), (l.flatMap f)[j]? = some v → ∃ (i q : Nat) (h : i < l.length), j = i * n + q ∧ q < n ∧ (f l[i])[q]? = some v
 | [],j,v,h=>by simp at h
 | x :: l,j,v,h=>by
  rw [List.flatMap_cons] at h
  by_cases hj:j<(f x).length
  ·rw [List.getElem?_append_left hj] at h
   rw [hn] at hj
   exact ⟨0,j,by simp,by omega,hj,h⟩
  ·rw [List.getElem?_append_right (by omega)] at h
   rw [hn] at hj h
   obtain ⟨i,q,hi,e,hq,hv⟩:=flat_split hn l (j-n) v h
   exact ⟨i+1,q,by simpa using hi,by rw [Nat.succ_mul];omega,hq,by simpa using hv⟩
theorem Sl.allN {α : Type} {n : Nat} {f : α → List Value} (hn : ∀ x, (f x).length = n) {S : Mem} {b off : Nat} {len cap : Nat} {l : List α} (h : Sl n f S (.slice (some ⟨b, off, none⟩) len cap) l) : S.Knows ⟨b, off, none⟩ (l.flatMap f) := fun w hv j v hj => by
 obtain ⟨i,q,hi,rfl,hq,hx⟩:=flat_split hn l j v hj
 have:=h.at1 i hi w hv q v hx
 rw [addr_add] at this ⊢
 rw [← this];congr 2;omega
theorem Sl.src {α : Type} {n : Nat} {f : α → List Value} (hn : ∀ x, (f x).length = n) {S : Mem} {v : Value} {l : List α} (h : Sl n f S v l) : Src S v l.length (l.flatMap f) := by
 obtain ⟨a,c,rfl,_,_,h4⟩:=id h
 refine ⟨a,c,rfl,?_⟩
 rcases h4 with rfl | ⟨b,off,rfl,_⟩
 ·left;rfl
 ·right;exact ⟨_,rfl,Sl.allN hn h⟩
theorem src_own {S : Mem} {b c : Nat} {r : Blk} {news : List Value} {m : Nat} (h : S.own b = some r) (hc : news <+: r.cells) : Src S (.slice (some ⟨b, 0, none⟩) m c) m news := ⟨_, c, rfl, .inr ⟨_, rfl, (rds_prefix h hc).knows⟩⟩
structure AppN (n : Nat) (M S : Mem) (o : Option (Nat × Nat)) (e : TypeId) (cs : List Value) : Prop where
  nil : o = none → cs = [] ∧ S.Less M
  own : ∀ b c, o = some (b, c) → M.own b = some ⟨e, cs, c * n⟩ ∧ S.Less (M.del b)
theorem appN_self {n : Nat} {S : Mem} {o : Option (Nat × Nat)} {k : Nat} {e : TypeId} {cs : List Value} (h : OkO S o k) (hn : cs.length = k * n) : AppN n (outN n S o e cs) S o e cs := by
 refine ⟨fun ho=>?_,fun b c ho=>?_⟩
 ·subst ho
  exact ⟨List.eq_nil_of_length_eq_zero (by rw [hn,h.nil rfl,Nat.zero_mul]),Mem.Less.refl _⟩
 ·subst ho
  refine ⟨Mem.own_set_same _ _ _,?_⟩
  rw [show (outN n S (some (b,c)) e cs).del b=S from set_del_same' (del_base (h.own b c rfl).1)]
  exact Mem.Less.refl _
theorem AppN.temp {n : Nat} {M S : Mem} {o : Option (Nat × Nat)} {e : TypeId} {cs : List Value} {t : Nat} {r : Blk} (h : AppN n M S o e cs) (ht : Fresh M t) : AppN n (M.set t r) S o e cs := by
 refine ⟨fun ho=>⟨(h.nil ho).1,(h.nil ho).2.trans (Mem.less_set _ _ _ ht.1)⟩,fun b c ho=>?_⟩
 obtain ⟨h1,h2⟩:=h.own b c ho
 have hne:=ht.ne h1
 refine ⟨(Mem.own_set_other _ _ hne).trans h1,h2.trans ⟨fun k r' hk=>?_,rfl⟩⟩
 have hkb:k≠b:=fun e=>by subst e;simp [Mem.del] at hk
 rw [Mem.own_del_other _ hkb] at hk ⊢
 exact (Mem.own_set_other _ _ (Ne.symm (ht.ne' hk))).trans hk
section
variable {P : Program} {N : Nat} {ops : Array Oper} {E : Env} {S M : Mem} {K : Env → Mem → Prop}
variable {ty : TypeId} {pos : String} {aft : Array Edge} {gd : Option (Nat × Bool)}
theorem ARun.appendOK {os : List Oper} {T e : TypeId} {n y : Nat} {z : List Value} {x1 x2 : Operand} {o : Option (Nat × Nat)} {k m d : Nat} {cs news : List Value} {v : Value} (hn : d < N) (hT : slT P T = some (e, n, y, z)) (hz : z.length = n)
  (hx:ev E x1=some (outV o k)) (hcs:cs.length=k*n) (hok:OkO S o k) (happ:AppN n M S o e cs) (hy:ev E x2=some v) (hv:Src M v m news) (hnl:news.length=m*n) (h1:∀ v ∈ news,v.oneCell'=true) (hfit:(k+m)*y≤140737488355328) (h63:k+m≤9223372036854775807)
  (h:∀ o',OkO S o' (k+m)→ARun P N ops os K ((d,outV o' (k+m)) :: E) (outN n S o' e (cs ++ news))) :
  ARun P N ops (⟨some d,.call ⟨.builtin .append,#[x1,x2],#[T,T]⟩,ty,pos,aft,none⟩ :: os) K E M:=by
 obtain ⟨A,c2,rfl,hv⟩:=hv
 by_cases hm:m=0
 ·subst hm
  obtain rfl:news = []:=List.eq_nil_of_length_eq_zero (by rw [hnl,Nat.zero_mul])
  have h2:=h o hok
  rw [Nat.add_zero,List.append_nil] at h2
  refine AOp.toLess (K:=fun E' S'=>ARun P N ops os K E' S') ?_
  cases o with
  | none =>
   have h0:=hok.nil rfl;subst h0
   exact ARun.appendNone (os:=[]) hn hT (Nat.le_refl 0) hx hy ⟨S,(happ.nil rfl).2,h2⟩
  | some q =>
   obtain ⟨b,c⟩:=q
   obtain ⟨p1,p2⟩:=happ.own b c rfl
   refine ARun.appendNone (os:=[]) hn hT (hok.own b c rfl).2 hx hy ⟨_,?_,h2⟩
   refine ⟨fun k' r hk=>?_,p2.2⟩
   by_cases ek:k'=b
   ·subst ek;rw [show (outN n S (some (k',c)) e cs).own k'=_ from Mem.own_set_same _ _ _] at hk;rw [p1];exact hk
   ·rw [show (outN n S (some (b,c)) e cs).own k'=_ from Mem.own_set_other _ _ ek] at hk
    have:=p2.1 _ _ hk
    rwa [Mem.own_del_other _ ek] at this
 ·obtain ⟨a2,rfl,hk⟩:=hv.resolve_left hm
  cases o with
  | none =>
   have h0:=hok.nil rfl;subst h0
   obtain ⟨q1,q2⟩:=happ.nil rfl
   subst q1
   refine AOp.toLess (K:=fun E' S'=>ARun P N ops os K E' S') ?_
   refine ARun.appendNilK (os:=[]) hn hT hz hx hy hk hnl (by omega) (by simpa using hfit) (by omega) fun b c hb hc=>?_
   refine ⟨S.set b ⟨e,news,c*n⟩,Less.set q2 _ _,?_⟩
   have:=h (some (b,c)) ⟨(fun x=>by cases x),fun b' c' x=>by cases x;exact ⟨hb.less q2,by omega⟩⟩
   simpa [outN,outV] using this
  | some q =>
   obtain ⟨b0,c0⟩:=q
   obtain ⟨q1,q2⟩:=happ.own b0 c0 rfl
   refine AOp.toLess (K:=fun E' S'=>ARun P N ops os K E' S') ?_
   refine ARun.appendRunK (os:=[]) hn hT hz hx q1 hcs hy hk hnl h1 hfit h63 fun b c hb hc=>?_
   refine ⟨S.set b ⟨e,cs ++ news,c*n⟩,Less.set q2 _ _,?_⟩
   exact h (some (b,c)) ⟨(fun x=>by cases x),fun b' c' x=>by cases x;exact ⟨hb.less q2,hc⟩⟩
end
section
variable {P : Program} {N : Nat} {ops : Array Oper} {E : Env} {S : Mem} {K : Env → Mem → Prop}
variable {ty : TypeId} {pos : String} {aft : Array Edge} {gd : Option (Nat × Bool)}
end
section
variable {P : Program} {N : Nat} {E : Env} {S : Mem} {dst : Option Nat} {ty : TypeId} {pos : String} {aft : Array Edge} {gd : Option (Nat × Bool)}
end
end Mv
end Go.Proofs.Ytgidjbpgkeemiaa
namespace Go.Proofs
open Go.Shelf
def Try.lays125_ren : Go.Shelf.Ren := ⟨fun | 125 => 122 | 128 => 155 | 129 => 156 | n => n, fun | 46 => 139 | 3 => 3 | 51 => 166 | 53 => 41 | 4 => 4 | 5 => 5 | 9 => 9 | n => n, fun | n => n⟩
theorem Try.lays125 : Go.Proofs.Lays.n125 Try.prog Try.lays125_ren := {
 mixed:=by kernel_rfl
 f125:=Try.func122.trans (congrArg some (by kernel_rfl))
 f128:=Try.func155.trans (congrArg some (by kernel_rfl))
 f129:=Try.func156.trans (congrArg some (by kernel_rfl))
 t3:=Try.underlying3
 a3:=Try.isAgg3
 z3:=Try.sizeOf3
 v3:=Try.zeroValue3
 t4:=Try.underlying4
 a4:=Try.isAgg4
 z4:=Try.sizeOf4
 v4:=Try.zeroValue4
 t5:=Try.underlying5
 a5:=Try.isAgg5
 z5:=Try.sizeOf5
 v5:=Try.zeroValue5
 t9:=Try.underlying9
 a9:=Try.isAgg9
 z9:=Try.sizeOf9
 v9:=Try.zeroValue9
 t46:=Try.underlying139
 a46:=Try.isAgg139
 z46:=Try.sizeOf139
 v46:=Try.zeroValue139
 t51:=Try.underlying166
 a51:=Try.isAgg166
 z51:=Try.sizeOf166
 v51:=Try.zeroValue166
 t53:=Try.underlying41
 a53:=Try.isAgg41
 z53:=Try.sizeOf41
 v53:=Try.zeroValue41 }
/-- bits.Len: "Len returns the minimum number of bits required to represent x; the result is 0 for x == 0.": IT RETURNS 'Lib.bitLen x'; the world is as it was. (A uint has 64 bits in the model.) ITS CALLEE bits.Len64 IS MET BY ITS OWN CONTRACT OFF THE SHELF (lay that first). (LAID: no walk: one application.) -/
theorem Try.bits_Len (x : Int) (w : World) (h0 : 0 ≤ x) (h1 : x ≤ 18446744073709551615) :
  Calls Try.prog 122 #[.int .u64 x] w fun e w'=>e = .returned (.int .i64 (Lib.bitLen x.toNat))∧w'=w:=Any.bits_Len Try.lays125 x w h0 h1
end Go.Proofs
namespace Go.Proofs.Ytgidjbpgkeemiaa
namespace Loser
open Num
theorem lessB_trans (a b c : List Nat) (h1 : lessB a b = true) (h2 : lessB b c = true) : lessB a c = true := by
 induction a generalizing b c with
 | nil=>cases b with
  | nil=>simp [lessB] at h1
  | cons y b=>cases c with
   | nil=>simp [lessB] at h2
   | cons z c=>rfl
 | cons x a ih =>
  cases b with
  | nil=>simp [lessB] at h1
  | cons y b =>
   cases c with
   | nil=>simp [lessB] at h2
   | cons z c =>
    simp only [lessB,Bool.or_eq_true,decide_eq_true_eq,Bool.and_eq_true] at h1 h2 ⊢
    rcases h1 with h1 | ⟨h1,h1'⟩ <;> rcases h2 with h2 | ⟨h2,h2'⟩
    ·left;omega
    ·left;omega
    ·left;omega
    ·right;exact ⟨by omega,ih b c h1' h2'⟩
def key (ks : List (List Nat)) (a : Nat) : List Nat := ks.getD a []
/-- Leaf i is under node n, in a tree of k leaves. -/
def under (k n i : Nat) : Prop := ∃ j, (k + i) / 2 ^ j = n
end Loser
end Go.Proofs.Ytgidjbpgkeemiaa
namespace Go.Proofs.Ytgidjbpgkeemiaa
open Num Loser
namespace Ord
/-! ### A list's ends -/
/-- The end at a is less than that at b. -/
def sl (l : List Nat) (a b : Nat) : Bool := lessB (l.drop a) (l.drop b)
theorem sl_irrefl (l : List Nat) (a : Nat) : sl l a a = false := lessB_irrefl _
theorem sl_asymm (l : List Nat) (a b : Nat) (h : sl l a b = true) : sl l b a = false := lessB_asymm _ _ h
theorem sl_trans (l : List Nat) (a b c : Nat) (h1 : sl l a b = true) (h2 : sl l b c = true) : sl l a c = true := lessB_trans _ _ _ h1 h2
theorem sl_total (l : List Nat) (a b : Nat) (ha : a < l.length) (hb : b < l.length) (h1 : sl l a b = false) (h2 : sl l b a = false) : a = b := by
 have h:=congrArg List.length (lessB_total _ _ h1 h2)
 simp only [List.length_drop] at h;omega
/-- Step by step: first the number, then what is behind it. -/
theorem sl_step (l : List Nat) (a b : Nat) (ha : a < l.length) (hb : b < l.length) : sl l a b = (decide (l[a] < l[b]) || (decide (l[a] = l[b]) && sl l (a + 1) (b + 1))) := by
 unfold sl
 rw [List.drop_eq_getElem_cons ha,List.drop_eq_getElem_cons hb,lessB]
theorem sl_end (l : List Nat) (a b : Nat) (ha : l.length ≤ a) : sl l a b = decide (b < l.length) := by
 unfold sl
 rw [List.drop_eq_nil_of_le ha]
 by_cases hb:b<l.length
 ·rw [List.drop_eq_getElem_cons hb];simp [lessB,hb]
 ·rw [List.drop_eq_nil_of_le (by omega)];simp [lessB,hb]
theorem sl_no (l : List Nat) (a b : Nat) (hb : l.length ≤ b) : sl l a b = false := by
 unfold sl
 rw [List.drop_eq_nil_of_le hb]
 cases l.drop a <;> rfl

/-! ### Sorted: there is one -/
/-- Ends in order. -/
def SortedE (l e : List Nat) : Prop := e.Perm (List.range l.length) ∧ e.Pairwise (fun a b => sl l a b = true)
theorem SortedE.len {l e : List Nat} (h : SortedE l e) : e.length = l.length := by rw [h.1.length_eq, List.length_range]
theorem SortedE.lt {l e : List Nat} (h : SortedE l e) {a : Nat} (ha : a ∈ e) : a < l.length := List.mem_range.1 (h.1.mem_iff.1 ha)

/-! ### The document's: each end is put where it belongs -/
/-- The place that is reached from at on downwards. -/
def insAt (l out : List Nat) (i : Nat) : Nat → Nat
  | 0 => 0
  | at' + 1 => if sl l i (out.getD at' 0) then insAt l out i at' else at' + 1
def insE (l out : List Nat) (i : Nat) : List Nat := out.take (insAt l out i out.length) ++ i :: out.drop (insAt l out i out.length)
def endsR (l : List Nat) : Nat → List Nat
  | 0 => []
  | i + 1 => insE l (endsR l i) i
theorem insAt_le (l out : List Nat) (i : Nat) : ∀ n, insAt l out i n ≤ n
 | 0=>Nat.le_refl _
 | n+1=>by
  rw [insAt];split
  ·exact Nat.le_succ_of_le (insAt_le l out i n)
  ·exact Nat.le_refl _
theorem insAt_hi (l out : List Nat) (i : Nat) : ∀ n k, insAt l out i n ≤ k → k < n → sl l i (out.getD k 0) = true
 | 0,k,_,h=>absurd h (Nat.not_lt_zero _)
 | n+1,k,h1,h2=>by
  rw [insAt] at h1;split at h1
  ·rename_i hs
   rcases Nat.lt_or_ge k n with h | h
   ·exact insAt_hi l out i n k h1 h
   ·obtain rfl:k=n:=by omega
    exact hs
  ·omega
theorem insAt_lo (l out : List Nat) (i : Nat) : ∀ n, 0 < insAt l out i n → sl l i (out.getD (insAt l out i n - 1) 0) = false
 | 0,h=>absurd h (Nat.not_lt_zero _)
 | n+1,h=>by
  rw [insAt] at h ⊢;split at h
  ·rename_i hs;rw [if_pos hs];exact insAt_lo l out i n h
  ·rename_i hs;rw [if_neg hs];simpa using hs
theorem endsR_perm (l : List Nat) : ∀ i, (endsR l i).Perm (List.range i)
 | 0=>List.Perm.refl _
 | i+1=>by
  rw [endsR,insE,List.range_succ]
  refine List.perm_middle.trans ?_
  rw [List.take_append_drop]
  exact ((endsR_perm l i).cons i).trans (List.perm_append_singleton i _).symm
theorem endsR_sorted (l : List Nat) : ∀ i, i ≤ l.length → (endsR l i).Pairwise (fun a b => sl l a b = true)
 | 0,_=>List.Pairwise.nil
 | i+1,hi=>by
  have ih:=endsR_sorted l i (by omega)
  have hp:=endsR_perm l i
  have hmem:∀ a ∈ endsR l i,a<i:=fun a ha=>List.mem_range.1 (hp.mem_iff.1 ha)
  rw [endsR,insE]
  generalize endsR l i=out at *
  have hat:=insAt_le l out i out.length
  have hhi:=insAt_hi l out i out.length
  have hlo:=insAt_lo l out i out.length
  generalize insAt l out i out.length=k at *
  have e:=List.take_append_drop k out
  have hpw:(out.take k ++ out.drop k).Pairwise (fun a b=>sl l a b=true):=by rw [e];exact ih
  obtain ⟨p1,p2,p3⟩:=List.pairwise_append.1 hpw
  have hlow:∀ a ∈ out.take k,sl l a i=true:=by
   intro a ha
   have hm:a ∈ out:=List.mem_of_mem_take ha
   obtain ⟨j,hj,rfl⟩:=List.getElem_of_mem ha
   have hk:j<k∧j<out.length:=by rw [List.length_take] at hj;omega
   have h0:=hlo (by omega)
   have hlast:sl l out[k-1] i=true:=by
    have hn:out[k-1]≠i:=fun h=>by have:=hmem out[k-1] (List.getElem_mem _);omega
    rw [List.getD_eq_getElem?_getD,List.getElem?_eq_getElem (by omega),Option.getD_some] at h0
    cases hc:sl l out[k-1] i with
    | true=>rfl
    | false=>exact absurd (sl_total l _ _ (by have:=hmem out[k-1] (List.getElem_mem _);omega) (by omega) hc h0) hn
   simp only [List.getElem_take]
   rcases Nat.lt_or_ge j (k-1) with h | h
   ·exact sl_trans l _ _ _ (List.pairwise_iff_getElem.1 ih j (k-1) hk.2 (by omega) h) hlast
   ·obtain rfl:j=k-1:=by omega
    exact hlast
  have hhigh:∀ a ∈ out.drop k,sl l i a=true:=by
   intro a ha
   obtain ⟨j,hj,rfl⟩:=List.getElem_of_mem ha
   have hk:j+k<out.length:=by simp at hj;omega
   have:=hhi (k+j) (by omega) (by omega)
   rw [List.getD_eq_getElem?_getD,List.getElem?_eq_getElem (by omega),Option.getD_some] at this
   simpa only [List.getElem_drop] using this
  refine List.pairwise_append.2 ⟨p1,List.pairwise_cons.2 ⟨hhigh,p2⟩,fun a ha b hb=>?_⟩
  rcases List.mem_cons.1 hb with rfl | hb
  ·exact hlow a ha
  ·exact p3 a ha b hb
theorem endsR_ok (l : List Nat) : SortedE l (endsR l l.length) := ⟨endsR_perm l _, endsR_sorted l _ (Nat.le_refl _)⟩

/-! ### Right: each is less than the next one by its first number, or by the place of what is behind that -/
/-- The place of what is behind, and one; 0: nothing is behind. -/
def behind (n : Nat) (at_ : Nat → Nat) (a : Nat) : Nat := if a + 1 < n then at_ (a + 1) + 1 else 0
def stepR (l : List Nat) (at_ : Nat → Nat) (a b : Nat) : Prop := l.getD a 0 < l.getD b 0 ∨ l.getD a 0 = l.getD b 0 ∧ behind l.length at_ a < behind l.length at_ b
theorem stepR_trans (l : List Nat) (at_ : Nat → Nat) (a b c : Nat) (h1 : stepR l at_ a b) (h2 : stepR l at_ b c) : stepR l at_ a c := by
 unfold stepR at *;omega
theorem chain_lt {R : Nat → Nat → Prop} (ht : ∀ a b c, R a b → R b c → R a c) (e : List Nat) (h : ∀ k (hk : k + 1 < e.length), R (e[k]'(by omega)) e[k + 1]) : ∀ (i j : Nat) (hj : j < e.length) (hij : i < j), R (e[i]'(by omega)) e[j] := by
 intro i j
 induction j with
 | zero=>intro _ h;omega
 | succ j ih =>
  intro hj hij
  rcases Nat.lt_or_ge i j with h' | h'
  ·exact ht _ _ _ (ih (by omega) h') (h j hj)
  ·obtain rfl:i=j:=by omega
   exact h i hj
/-- All steps hold: the ends are in order. -/
theorem right_sorted (l e : List Nat) (at_ : Nat → Nat) (hp : e.Perm (List.range l.length)) (hat : ∀ k (hk : k < e.length), at_ e[k] = k) (h : ∀ k (hk : k + 1 < e.length), stepR l at_ (e[k]'(by omega)) e[k + 1]) : SortedE l e := by
 have hlen:e.length=l.length:=by rw [hp.length_eq,List.length_range]
 have hch:=chain_lt (stepR_trans l at_) e h
 have hlt:∀ k (hk:k<e.length),e[k]<l.length:=fun k hk=>List.mem_range.1 (hp.mem_iff.1 (List.getElem_mem hk))
 have hall:∀ a,a<l.length→at_ a<e.length∧e.getD (at_ a) 0=a:=by
  intro a ha
  obtain ⟨k,hk,rfl⟩:=List.getElem_of_mem (hp.mem_iff.2 (List.mem_range.2 ha))
  rw [hat k hk];exact ⟨hk,by rw [List.getD_eq_getElem?_getD,List.getElem?_eq_getElem hk];rfl⟩
 have key:∀ m a b,a<l.length→b<l.length→l.length-a≤m→at_ a<at_ b→sl l a b=true:=by
  intro m
  induction m with
  | zero=>intro a b ha _ hm;omega
  | succ m ih =>
   intro a b ha hb hm hab
   obtain ⟨ha1,ha2⟩:=hall a ha
   obtain ⟨hb1,hb2⟩:=hall b hb
   have hs:=hch (at_ a) (at_ b) hb1 hab
   rw [List.getD_eq_getElem?_getD,List.getElem?_eq_getElem ha1,Option.getD_some] at ha2
   rw [List.getD_eq_getElem?_getD,List.getElem?_eq_getElem hb1,Option.getD_some] at hb2
   rw [ha2,hb2] at hs
   rw [sl_step l a b ha hb]
   unfold stepR at hs
   rw [List.getD_eq_getElem?_getD,List.getElem?_eq_getElem ha,Option.getD_some,List.getD_eq_getElem?_getD,List.getElem?_eq_getElem hb,Option.getD_some] at hs
   rcases hs with hs | ⟨hs,hs2⟩
   ·simp [hs]
   ·have:sl l (a+1) (b+1)=true:=by
     unfold behind at hs2
     by_cases h1:a+1<l.length
     ·rw [if_pos h1] at hs2
      by_cases h2:b+1<l.length
      ·rw [if_pos h2] at hs2
       exact ih (a+1) (b+1) h1 h2 (by omega) (by omega)
      ·rw [if_neg h2] at hs2;omega
     ·rw [if_neg h1] at hs2
      rw [sl_end l _ _ (by omega)]
      by_cases h2:b+1<l.length
      ·simpa using h2
      ·rw [if_neg h2] at hs2;omega
    simp [hs,this]
 refine ⟨hp,List.pairwise_iff_getElem.2 fun i j hi hj hij=>?_⟩
 exact key _ _ _ (hlt i hi) (hlt j hj) (Nat.le_refl _) (by rw [hat i hi,hat j hj];exact hij)
/-- In order: all steps hold. -/
theorem sorted_right (l e : List Nat) (at_ : Nat → Nat) (hs : SortedE l e) (hat : ∀ k (hk : k < e.length), at_ e[k] = k) (k : Nat) (hk : k + 1 < e.length) : stepR l at_ (e[k]'(by omega)) e[k + 1] := by
 have hlt:∀ k (hk:k<e.length),e[k]<l.length:=fun k hk=>hs.lt (List.getElem_mem hk)
 have hall:∀ a,a<l.length → ∃ k,∃ hk:k<e.length,e[k]=a∧at_ a=k:=by
  intro a ha
  obtain ⟨k,hk,rfl⟩:=List.getElem_of_mem (hs.1.mem_iff.2 (List.mem_range.2 ha))
  exact ⟨k,hk,rfl,hat k hk⟩
 have hsl:=List.pairwise_iff_getElem.1 hs.2 k (k+1) (by omega) hk (by omega)
 have ha:=hlt k (by omega)
 have hb:=hlt (k+1) hk
 generalize e[k]=a at *
 generalize e[k+1]=b at *
 rw [sl_step l a b ha hb] at hsl
 unfold stepR
 rw [List.getD_eq_getElem?_getD,List.getElem?_eq_getElem ha,Option.getD_some,List.getD_eq_getElem?_getD,List.getElem?_eq_getElem hb,Option.getD_some]
 simp only [Bool.or_eq_true,decide_eq_true_eq,Bool.and_eq_true] at hsl
 rcases hsl with h | ⟨h,h2⟩
 ·exact .inl h
 ·refine .inr ⟨h,?_⟩
  unfold behind
  by_cases h1:b+1<l.length
  ·rw [if_pos h1]
   by_cases h3:a+1<l.length
   ·rw [if_pos h3]
    obtain ⟨i,hi,ei,e1⟩:=hall (a+1) h3
    obtain ⟨j,hj,ej,e2⟩:=hall (b+1) h1
    rw [e1,e2]
    rcases Nat.lt_trichotomy i j with h4 | h4 | h4
    ·omega
    ·subst h4;rw [← ei,← ej,sl_irrefl] at h2;cases h2
    ·have:=sl_asymm l _ _ (List.pairwise_iff_getElem.1 hs.2 j i hj hi h4)
     rw [ei,ej] at this;rw [this] at h2;cases h2
   ·rw [if_neg h3];omega
  ·rw [sl_no l _ _ (by omega)] at h2;cases h2

/-! ### Doubling -/
/-- By the first k numbers. -/
def pl (l : List Nat) (k a b : Nat) : Bool := lessB ((l.drop a).take k) ((l.drop b).take k)
def RK (l : List Nat) (k : Nat) (r : Nat → Nat) : Prop := ∀ a b, a < l.length → b < l.length → (r a < r b ↔ pl l k a b = true)
def beh (n : Nat) (r : Nat → Nat) (k a : Nat) : Nat := if a + k < n then r (a + k) + 1 else 0
theorem RK.eq {l : List Nat} {k : Nat} {r : Nat → Nat} (h : RK l k r) {a b : Nat} (ha : a < l.length) (hb : b < l.length) : r a = r b ↔ (l.drop a).take k = (l.drop b).take k := by
 have h1:=h a b ha hb
 have h2:=h b a hb ha
 unfold pl at h1 h2
 constructor
 ·intro e
  refine lessB_total _ _ ?_ ?_
  ·cases hc:lessB ((l.drop a).take k) ((l.drop b).take k) with
   | false=>rfl
   | true=>have:=h1.2 hc;omega
  ·cases hc:lessB ((l.drop b).take k) ((l.drop a).take k) with
   | false=>rfl
   | true=>have:=h2.2 hc;omega
 ·intro e
  rw [e,lessB_irrefl] at h1
  rw [e,lessB_irrefl] at h2
  have h3 : ¬ r a<r b:=fun h=>Bool.noConfusion (h1.1 h)
  have h4 : ¬ r b<r a:=fun h=>Bool.noConfusion (h2.1 h)
  omega
/-! ### The ranks that a sorted list gives -/
/-- How many steps up there are among the first i steps. -/
def ups (R : Nat → Nat → Bool) (e : List Nat) : Nat → Nat
  | 0 => 0
  | i + 1 => ups R e i + (if R (e.getD i 0) (e.getD (i + 1) 0) then 1 else 0)
/-! ### What two ends have in common -/
end Ord
end Go.Proofs.Ytgidjbpgkeemiaa
namespace Go.Proofs.Ytgidjbpgkeemiaa
open Go.RowKit
open Mv Num
set_option maxRecDepth 4000
def gI (k : Nat) : Value := .int .i64 (k : Int)
def gU (k : Nat) : Value := .int .u64 (k : Int)
def gZ (x : Int) : Value := .int .i64 x
theorem getD_get {α : Type} (l : List α) (i : Nat) (z : α) (h : i < l.length) : l.getD i z = l[i] := by rw [List.getD_eq_getElem?_getD, List.getElem?_eq_getElem h]; rfl
def cmpU (x y : Nat) : Int := if x < y then -1 else if y < x then 1 else 0
theorem cmpU_neg (x y : Nat) : cmpU x y < 0 ↔ x < y := by unfold cmpU; split <;> (try split) <;> omega
theorem cmpU_zero (x y : Nat) : cmpU x y = 0 ↔ x = y := by unfold cmpU; split <;> (try split) <;> omega
/-! ### Where each number is -/
theorem pig_le : ∀ (n : Nat) (l : List Nat), l.Nodup → (∀ x ∈ l, x < n) → l.length ≤ n
 | 0,l,_,h=>by
  cases l with
  | nil=>exact Nat.le_refl _
  | cons x l=>exact absurd (h x (List.mem_cons_self ..)) (Nat.not_lt_zero _)
 | n+1,l,hn,h=>by
  by_cases hm:n ∈ l
  ·have:=pig_le n (l.erase n) (hn.erase n) fun x hx=>by
    have h1:=h x (List.mem_of_mem_erase hx)
    have h2:x≠n:=fun e=>by subst e;exact absurd hx (List.Nodup.not_mem_erase hn)
    omega
   rw [List.length_erase_of_mem hm] at this
   omega
  ·have:=pig_le n l hn fun x hx=>by
    have h1:=h x hx
    have h2:x≠n:=fun e=>by subst e;exact hm hx
    omega
   omega
theorem pig : ∀ (n : Nat) (l : List Nat), l.Nodup → (∀ x ∈ l, x < n) → l.length = n → l.Perm (List.range n)
 | 0,l,_,_,hl=>by rw [List.length_eq_zero_iff.1 hl];exact List.Perm.refl _
 | n+1,l,hn,h,hl=>by
  by_cases hm:n ∈ l
  ·have:=pig n (l.erase n) (hn.erase n) (fun x hx=>by
    have h1:=h x (List.mem_of_mem_erase hx)
    have h2:x≠n:=fun e=>by subst e;exact absurd hx (List.Nodup.not_mem_erase hn)
    omega) (by rw [List.length_erase_of_mem hm];omega)
   refine (List.perm_cons_erase hm).trans ?_
   rw [List.range_succ]
   exact (this.cons n).trans (List.perm_append_singleton n _).symm
  ·have:=pig_le n l hn fun x hx=>by
    have h1:=h x hx
    have h2:x≠n:=fun e=>by subst e;exact hm hx
    omega
   omega
def InvOf (l : List Int) (x : List Int) : Prop := x.length = l.length ∧ ∀ j (h : j < l.length), x.getD (l[j]).toNat 0 = (j : Int)
/-- The first i of a list, told. -/
structure InvI (l : List Int) (i : Nat) (x : List Int) : Prop where
  len : x.length = l.length
  rng : ∀ j (h : j < l.length), j < i → 0 ≤ l[j] ∧ l[j] < l.length
  at_ : ∀ j (h : j < l.length), j < i → x.getD (l[j]).toNat 0 = (j : Int)
end Go.Proofs.Ytgidjbpgkeemiaa
namespace Go.Proofs.Ytgidjbpgkeemiaa
open Go.RowKit
namespace Mv
section
variable {P : Program} {N : Nat} {l : List Oper} {W : List Nat} {S0 : Mem} {K : Env → Mem → Prop}
/-- From here on, whatever comes up. -/
def DG (P : Program) (N : Nat) (l : List Oper) (W : List Nat) (S0 : Mem) (K : Env → Mem → Prop) (n : Nat) (listed : Array Bool) (E : Env) (S : Mem) : Prop :=
  ∀ w0 a w, Closed l.toArray listed → Good N E a → View S w → Step S0 w0 S w → wpAnyG P l.toArray (Q0 N K S0 w0) (fun i => W.contains i) (View S0) n listed a w
theorem DG.nil {listed : Array Bool} {E : Env} {S : Mem} (hr : Region.ready .any l.toArray listed = []) (h : K E S) : DG P N l W S0 K 0 listed E S :=
 fun w0 a w _ g hv hs=>⟨hr,E,S,h,g,hs⟩
/-- Each of those that may come up. -/
theorem DG.fork {n : Nat} {listed : Array Bool} {E : Env} {S : Mem} (is : List Nat) (hr : (Region.ready .any l.toArray listed == is) = true) (hne : is ≠ [])
  (h:∀ i ∈ is,∃ o,l[i]?=some o∧AOp P N l.toArray o (fun E' S'=>(W.contains i=false→S0.Less S')∧DG P N l W S0 K n (listed.setIfInBounds i true) E' S') E S):DG P N l W S0 K (n+1) listed E S:=fun w0 a w hcl g hv hs=>by
 have hr:=beq_iff_eq.1 hr
 refine ⟨fun h0=>absurd (hr.symm.trans h0) hne,fun j hj=>?_⟩
 have hj':=hj
 rw [hr] at hj
 obtain ⟨o,ho,hop⟩:=h j hj
 have h1:=hop a w g hv
 unfold wpOp
 have ho':l.toArray[j]?=some o:=by simpa using ho
 simp only [ho']
 have next:∀ a1 w1,Post N (fun E' S'=>(W.contains j=false→S0.Less S')∧DG P N l W S0 K n (listed.setIfInBounds j true) E' S') S w a1 w1→(W.contains j=false→View S0 w→View S0 w1)∧wpAnyG P l.toArray (Q0 N K S0 w0) (fun i=>W.contains i) (View S0) n (listed.setIfInBounds j true) a1 w1:=fun a1 w1 ⟨E1,S1,⟨k1,k2⟩,g1,s1⟩ =>
  ⟨fun hw _=>s1.view.less (k1 hw),k2 w0 a1 w1 (closed_put hcl hj') g1 s1.view (hs.trans s1)⟩
 split
 ·rename_i hw;rw [if_pos hw] at h1
  exact .inl (upon_noQ (Oper.wp_mono next h1))
 ·rename_i hw;rw [if_neg hw] at h1
  exact next _ _ h1
theorem DG.fork1 {n : Nat} {listed : Array Bool} {E : Env} {S : Mem} (i : Nat) (hr : (Region.ready .any l.toArray listed == [i]) = true)
  (h:∃ o,l[i]?=some o∧AOp P N l.toArray o (fun E' S'=>(W.contains i=false→S0.Less S')∧DG P N l W S0 K n (listed.setIfInBounds i true) E' S') E S):DG P N l W S0 K (n+1) listed E S :=
 DG.fork [i] hr (by simp) fun j hj=>by
  have e:j=i:=by simpa using hj
  rw [e];exact h
theorem DG.fork2 {n : Nat} {listed : Array Bool} {E : Env} {S : Mem} (i j : Nat) (hr : (Region.ready .any l.toArray listed == [i, j]) = true)
  (h:∃ o,l[i]?=some o∧AOp P N l.toArray o (fun E' S'=>(W.contains i=false→S0.Less S')∧DG P N l W S0 K n (listed.setIfInBounds i true) E' S') E S)
  (k:∃ o,l[j]?=some o∧AOp P N l.toArray o (fun E' S'=>(W.contains j=false→S0.Less S')∧DG P N l W S0 K n (listed.setIfInBounds j true) E' S') E S):DG P N l W S0 K (n+1) listed E S :=
 DG.fork [i,j] hr (by simp) fun q hq=>by
  rcases List.mem_cons.1 hq with rfl | hq
  ·exact h
  ·obtain rfl:q=j:=by simpa using hq
   exact k
/-- One that only looks is taken first. -/
theorem DG.first {n : Nat} {listed : Array Bool} {E : Env} {S : Mem} (i : Nat) (hsel : Region.noSelect l.toArray = true) (hc1 : mayFirst l W listed i = true)
  (h:∃ o d v,l[i]?=some o∧o.dst=some d∧d<N∧(pureOp o=true∨S0.Less S)∧ACalmG P N l.toArray o E (if pureOp o then noMem else S0) v∧DG P N l W S0 K n (listed.setIfInBounds i true) ((d,v) :: E) S):DG P N l W S0 K (n+1) listed E S:=fun w0 a w hcl g hv hs=>by
 obtain ⟨o,d,v,ho,hd,hn,hless,hcalm,hrest⟩:=h
 simp only [mayFirst,Bool.and_eq_true,Bool.or_eq_true] at hc1
 obtain ⟨⟨hr,hf⟩,hp⟩:=hc1
 have ho':l.toArray[i]?=some o:=by simpa using ho
 have hri:i ∈ Region.ready .any l.toArray listed:=by simpa using hr
 let D:World→Prop:=fun w'=>if pureOp o=true then True else View S0 w'
 have hDw:D w:=by
  simp only [D]
  split
  ·trivial
  ·rename_i hx
   exact hv.less (hless.resolve_left hx)
 have hmem:∀ w',D w'→View (if pureOp o then noMem else S0) w':=fun w' h=>by
  simp only [D] at h
  split
  ·exact view_noMem _
  ·rename_i hx;rw [if_neg hx] at h;exact h
 refine wpAnyG_first (D:=D) (v:=v) ho' (Region.noSelect_spec hsel) (fun c a w h=>h) ?_ n listed a w hcl (Region.free_spec ho' hf) hri ?_ hDw ?_
 ·intro j w1 w2 listed' hcl' hun hj hD1 hpres
  simp only [D] at hD1 ⊢
  split
  ·trivial
  ·rename_i hx
   rw [if_neg hx] at hD1
   refine hpres ?_ hD1
   rcases hp with hp | hp
   ·rw [ho] at hp;exact absurd (by simpa using hp) hx
   ·cases hwc:W.contains j with
    | false=>rfl
    | true =>
     have h1:=List.all_eq_true.1 hp j (by simpa using hwc)
     obtain ⟨hju,oj,hoj,hall⟩:=mem_ready.1 hj
     have h2:=waitsFor_spec h1 listed' hcl' fun o2 ho2 e he hb=>by
      obtain rfl:oj=o2:=Option.some.inj (hoj.symm.trans ho2)
      exact hall e he hb
     rcases Nat.lt_or_ge i listed'.size with hlt | hge
     ·simp [hlt] at hun h2;rw [hun] at h2;cases h2
     ·simp [Array.getElem?_eq_none hge] at h2
 ·by_cases hw:Region.wanted o (yielded l.toArray a.tmps)=true
  ·refine .inl ⟨hw,fun w' hD'=>?_⟩
   rcases hcalm a w' g (hmem w' hD') with h1 | h1
   ·exact h1.2
   ·rw [hw] at h1;cases h1.1
  ·rcases hcalm a w g (hmem w hDw) with h1 | h1
   ·exact absurd h1.1 hw
   ·exact .inr h1
 ·rw [hd]
  exact hrest w0 _ w (closed_put hcl hri) (g.put hn v) hv hs
theorem DG.pure {n : Nat} {listed : Array Bool} {E : Env} {S : Mem} {o : Oper} {d : Nat} {v : Value} (i : Nat) (hsel : Region.noSelect l.toArray = true) (hc1 : mayFirst l W listed i = true) (ho : l[i]? = some o) (hp : pureOp o = true) (hg : o.guard = none) (hd : o.dst = some d) (hn : d < N)
  (hc:∀ S',ACalm P N o E S' v) (h:DG P N l W S0 K n (listed.setIfInBounds i true) ((d,v) :: E) S):DG P N l W S0 K (n+1) listed E S :=
 DG.first i hsel hc1 ⟨o,d,v,ho,hd,hn,.inl hp,fun a w g hv=>.inl ⟨by simp [Region.wanted,hg],hc _ a w g hv⟩,h⟩
theorem DG.look {n : Nat} {listed : Array Bool} {E : Env} {S : Mem} {o : Oper} {d : Nat} {v : Value} (i : Nat) (hsel : Region.noSelect l.toArray = true) (hc1 : mayFirst l W listed i = true) (ho : l[i]? = some o) (hp : pureOp o = false) (hg : o.guard = none) (hd : o.dst = some d) (hn : d < N) (hl : S0.Less S)
  (hc:ACalm P N o E S0 v) (h:DG P N l W S0 K n (listed.setIfInBounds i true) ((d,v) :: E) S):DG P N l W S0 K (n+1) listed E S :=
 DG.first i hsel hc1 ⟨o,d,v,ho,hd,hn,.inr hl,fun a w g hv=>.inl ⟨by simp [Region.wanted,hg],by rw [hp] at hv;exact hc a w g hv⟩,h⟩
theorem DG.only {n : Nat} {listed : Array Bool} {E : Env} {S : Mem} {o : Oper} (i : Nat) (hr : (Region.ready .any l.toArray listed == [i]) = true) (ho : l[i]? = some o)
  (h:ARun P N l.toArray [o] (fun E' S'=>(W.contains i=false→S0.Less S')∧DG P N l W S0 K n (listed.setIfInBounds i true) E' S') E S):DG P N l W S0 K (n+1) listed E S:=DG.fork1 i hr ⟨o,ho,h⟩
theorem DG.two {n : Nat} {listed : Array Bool} {E : Env} {S : Mem} {o o' : Oper} (i j : Nat) (hr : (Region.ready .any l.toArray listed == [i, j]) = true) (ho : l[i]? = some o)
  (h:ARun P N l.toArray [o] (fun E' S'=>(W.contains i=false→S0.Less S')∧DG P N l W S0 K n (listed.setIfInBounds i true) E' S') E S) (ho':l[j]?=some o')
  (h':ARun P N l.toArray [o'] (fun E' S'=>(W.contains j=false→S0.Less S')∧DG P N l W S0 K n (listed.setIfInBounds j true) E' S') E S):DG P N l W S0 K (n+1) listed E S:=DG.fork2 i j hr ⟨o,ho,h⟩ ⟨o',ho',h'⟩
theorem DG.end_ {listed : Array Bool} {E : Env} {S : Mem} (hr : (Region.ready .any l.toArray listed).isEmpty = true) (h : K E S) : DG P N l W S0 K 0 listed E S := DG.nil (by simpa using hr) h
theorem AWP.drawG {id : Nat} {Q : Exit → Env → Mem → Prop} {E : Env} {S : Mem} (W : List Nat) (hm : P.follows .mixedOrders = true)
  (h:DG P N l W S (Q .normal) l.length (Array.replicate l.length false) E S):AWP P N (.region id l.toArray true) Q E S:=fun a w g hv=>by
 refine wp_mono (Q:=Q0 N (Q .normal) S w) ?_ (fun e a' w' x=>by cases e <;> first | exact x | exact x.elim)
 refine wp_region_any hm ?_
 refine wpAny_of_G (W:=fun i=>W.contains i) (C:=View S) _ _ _ _ ?_
 have hst:Step S w S { w with drawn:=w.drawn+1 }:=Step.drawn hv _
 have:=h w a _ (closed_start _ _) g hst.view hst
 simpa using this
end
end Mv
end Go.Proofs.Ytgidjbpgkeemiaa
namespace Go.Proofs.Ytgidjbpgkeemiaa
open Go.RowKit
open Mv Num
set_option maxRecDepth 4000
def gB (b : Bool) : Value := .bool b
/-- Ends that are in order. -/
def RightE (l : List Nat) (ends : List Int) : Prop := ∃ e : List Nat, ends = e.map (fun k : Nat => (k : Int)) ∧ Ord.SortedE l e
/-- What is behind a place, or -1. -/
def behZ (n : Nat) (x : List Int) (a : Nat) : Int := if a + 1 < n then x.getD (a + 1) 0 else -1
def cfR (l : List Nat) (x : List Int) (a b : Nat) : Int := orL [cmpU (l.getD a 0) (l.getD b 0), cmpZ (behZ l.length x a) (behZ l.length x b)]
theorem inv_nat {e : List Nat} {x : List Int} (hp : e.Perm (List.range e.length)) (hx : InvOf (e.map (fun k : Nat => (k : Int))) x) (q : Nat) (hq : q < e.length) : ∃ k, ∃ h : k < e.length, e[k] = q ∧ x.getD q 0 = (k : Int) := by
 obtain ⟨j,hj,ej⟩:=List.getElem_of_mem (hp.mem_iff.2 (List.mem_range.2 hq))
 have:=hx.2 j (by rw [List.length_map];exact hj)
 rw [List.getElem_map,Int.toNat_natCast,ej] at this
 exact ⟨j,hj,ej,this⟩
theorem cfR_neg {l e : List Nat} {x : List Int} (hp : e.Perm (List.range e.length)) (hx : InvOf (e.map (fun k : Nat => (k : Int))) x) (hl : e.length = l.length) (a b : Nat) : cfR l x a b < 0 ↔ Ord.stepR l (fun q => (x.getD q 0).toNat) a b := by
 unfold cfR orL orL orL Ord.stepR
 have h1:=cmpU_neg (l.getD a 0) (l.getD b 0)
 have h2:=cmpU_zero (l.getD a 0) (l.getD b 0)
 have h3:=cmpZ_neg (behZ l.length x a) (behZ l.length x b)
 have hb:∀ a,behZ l.length x a=((Ord.behind l.length (fun q=>(x.getD q 0).toNat) a:Nat):Int)-1:=fun a=>by
  unfold behZ Ord.behind
  split
  ·obtain ⟨k,hk,_,e1⟩:=inv_nat hp hx (a+1) (by omega)
   dsimp only;rw [e1];omega
  ·rfl
 have ha:=hb a
 have hb':=hb b
 split
 ·split <;> omega
 ·omega
theorem right_iff {l e : List Nat} {x : List Int} (hp : e.Perm (List.range e.length)) (hx : InvOf (e.map (fun k : Nat => (k : Int))) x) (hl : e.length = l.length) :
  RightE l (e.map (fun k:Nat=>(k:Int))) ↔ ∀ k (hk:k+1<e.length),cfR l x (e[k]'(by omega)) e[k+1]<0:=by
 have hat:∀ k (hk:k<e.length),(x.getD e[k] 0).toNat=k:=fun k hk=>by
  have:=hx.2 k (by rw [List.length_map];exact hk)
  rw [List.getElem_map,Int.toNat_natCast] at this
  rw [this];omega
 constructor
 ·rintro ⟨e',h1,h2⟩ k hk
  have he:e=e':=by
   have:=congrArg (List.map Int.toNat) h1
   simpa [List.map_map,Function.comp_def] using this
  subst he
  rw [cfR_neg hp hx hl]
  exact Ord.sorted_right l e _ h2 hat k hk
 ·intro h
  exact ⟨e,rfl,Ord.right_sorted l e _ (by rw [hl] at hp;exact hp) hat fun k hk=>(cfR_neg hp hx hl _ _).1 (h k hk)⟩
/-- A slice from a place on. -/
theorem Sl.drop1 {α : Type} {f : α → List Value} {S : Mem} {b o n cap : Nat} {l : List α} (h : Sl 1 f S (.slice (some ⟨b, o, none⟩) n cap) l) (k : Nat) (hk : k ≤ n) : Sl 1 f S (.slice (some ⟨b, if cap = k then o else o + k * 1, none⟩) (n - k) (cap - k)) (l.drop k) := by
 obtain ⟨a,c,e,h1,h2,h3⟩:=h
 cases e
 refine ⟨_,cap-k,by rw [List.length_drop],by rw [List.length_drop];omega,by rw [List.length_drop];omega,?_⟩
 by_cases hl:k<l.length
 ·obtain ⟨b',o',e',hkn⟩:=h3.resolve_left (fun h=>by rw [h] at hl;exact absurd hl (Nat.not_lt_zero _))
  cases e'
  refine .inr ⟨b,_,rfl,fun i hi=>?_⟩
  have hne : ¬ cap=k:=by omega
  rw [if_neg hne,List.getElem_drop]
  rw [List.length_drop] at hi
  have:=hkn (k+i) (by omega)
  rw [show o+k*1+i*1=o+(k+i)*1 by omega]
  exact this
 ·exact .inl (List.drop_eq_nil_of_le (by omega))
end Go.Proofs.Ytgidjbpgkeemiaa
namespace Go.Proofs.Ytgidjbpgkeemiaa
open Go.RowKit
open Mv Num
set_option maxRecDepth 4000
theorem okO_down {S B : Mem} {o : Option (Nat × Nat)} {n : Nat} (h : OkO B o n) (hl : S.Less B) : OkO S o n := ⟨h.nil, fun b c e => ⟨(h.own b c e).1.less hl, (h.own b c e).2⟩⟩
theorem outN_one (S : Mem) (o : Option (Nat × Nat)) (e : TypeId) (cs : List Value) : outN 1 S o e cs = outM S o e cs := by
 cases o with
 | none=>rfl
 | some q=>show S.set q.1 ⟨e,cs,q.2*1⟩=S.set q.1 ⟨e,cs,q.2⟩;rw [Nat.mul_one]
theorem appN1 {S : Mem} {o : Option (Nat × Nat)} {k : Nat} {e : TypeId} {cs : List Value} (h : OkO S o k) (hn : cs.length = k) : AppN 1 (outM S o e cs) S o e cs := by
 rw [← outN_one];exact appN_self h (by rw [hn,Nat.mul_one])
theorem flat_one {α : Type} (g : α → Value) (L : List α) : L.flatMap (fun x => [g x]) = L.map g := by
 induction L with
 | nil=>rfl
 | cons x l ih=>rw [List.flatMap_cons,List.map_cons,ih];rfl
theorem src_sl {α : Type} {g : α → Value} {S : Mem} {v : Value} {L : List α} (h : Sl 1 (fun x => [g x]) S v L) : Src S v L.length (L.map g) := by
 have:=Sl.src (n:=1) (fun _=>rfl) h
 rw [flat_one] at this;exact this
theorem Src.cast_len {M : Mem} {v : Value} {m m' : Nat} {news : List Value} (h : Src M v m news) (e : m = m') : Src M v m' news := e ▸ h
theorem src_one {S : Mem} {b c : Nat} {e : TypeId} {room : Nat} {v : Value} (h : S.own b = some ⟨e, [v], room⟩) : Src S (.slice (some ⟨b, 0, none⟩) 1 c) 1 [v] := src_own h List.prefix_rfl
theorem one_cells {α : Type} {g : α → Value} (hg : ∀ x, (g x).oneCell' = true) (L : List α) : ∀ v ∈ L.map g, v.oneCell' = true := fun v hv => by obtain ⟨x, _, rfl⟩ := List.mem_map.1 hv; exact hg x
theorem ins_cells (L : List Nat) (i k : Nat) : [] ++ (L.take k).map gI ++ [gI i] ++ (L.drop k).map gI = (L.take k ++ i :: L.drop k).map gI := by simp
theorem insAt_go {l L : List Nat} {i k : Nat} (h : Ord.sl l i (L.getD k 0) = true) : Ord.insAt l L i k = Ord.insAt l L i (k + 1) := by rw [Ord.insAt, if_pos h]
theorem insAt_no {l L : List Nat} {i k : Nat} (h : Ord.sl l i (L.getD k 0) = false) : k + 1 = Ord.insAt l L i (k + 1) := by rw [Ord.insAt, if_neg (by rw [h]; exact Bool.false_ne_true)]
theorem okO_len {S : Mem} {o : Option (Nat × Nat)} {n m : Nat} (h : OkO S o n) (e : n = m) : OkO S o m := e ▸ h
/-- The beginning and the rest of a slice that grows. -/
theorem out_cut {α : Type} {P : Program} {g : α → Value} {S : Mem} {o : Option (Nat × Nat)} {e : TypeId} {L : List α} (h : OkO S o L.length) (hm : L.length ≤ 9223372036854775807) (k : Nat) (hk : k ≤ L.length) :
  (∃ u,Src (outM S o e (L.map g)) u k ((L.take k).map g) ∧ ∀ (N:Nat) (E:Env) (M:Mem) (dst:Option Nat) (T el ty:TypeId) (x hi:Operand) (kd:IntKind) (pos:String) (aft:Array Edge) (gd:Option (Nat × Bool)),P.underlying T=some (.slice el)→sizeT P el=some 1→ev E x=some (outV o L.length)→ev E hi=some (.int kd (k:Int))→ACalm P N ⟨dst,.slice T x none (some hi) none,ty,pos,aft,gd⟩ E M u) ∧
  (∃ u,Src (outM S o e (L.map g)) u (L.length-k) ((L.drop k).map g) ∧ ∀ (N:Nat) (E:Env) (M:Mem) (dst:Option Nat) (T el ty:TypeId) (x lo:Operand) (kd:IntKind) (pos:String) (aft:Array Edge) (gd:Option (Nat × Bool)),P.underlying T=some (.slice el)→sizeT P el=some 1→ev E x=some (outV o L.length)→ev E lo=some (.int kd (k:Int))→ACalm P N ⟨dst,.slice T x (some lo) none none,ty,pos,aft,gd⟩ E M u):=by
 have hsl:=sl_outV (g:=g) (M:=S) (e:=e) h rfl hm
 cases o with
 | none =>
  have hL:L = []:=List.length_eq_zero_iff.1 (h.nil rfl)
  subst hL
  have hk0:k=0:=Nat.le_zero.1 hk
  subst hk0
  refine ⟨⟨.slice none 0 0,⟨none,0,rfl,.inl rfl⟩,fun N E M dst T el ty x hi kd pos aft gd hT hs hx hh=>Calm.sliceNil hT hs hx (bnd_none _ _) (by simp) (bnd_zero _ _ hh) (bnd_none _ _)⟩,⟨.slice none 0 0,⟨none,0,rfl,.inl rfl⟩,fun N E M dst T el ty x lo kd pos aft gd hT hs hx hh=>Calm.sliceNil hT hs hx (bnd_none _ _) (by simp) (bnd_none _ _) (bnd_zero _ _ hh)⟩⟩
 | some q =>
  obtain ⟨b,c⟩:=q
  have hc:=(h.own b c rfl).2
  refine ⟨⟨_,src_sl (L:=L.take k) (show Sl 1 (fun x=>[g x]) _ (.slice (some ⟨b,0,none⟩) (L.take k).length c) (L.take k) from Sl.own1 (g:=g) (Mem.own_set_same _ _ _) ?_ rfl ?_ ?_) |> fun h=>Src.cast_len h (by rw [List.length_take,Nat.min_eq_left hk]),fun N E M dst T el ty x hi kd pos aft gd hT hs hx hh=>?_⟩,⟨_,Src.cast_len (src_sl (Sl.drop1 hsl k hk)) (by rw [List.length_drop]),fun N E M dst T el ty x lo kd pos aft gd hT hs hx hh=>?_⟩⟩
  ·show (L.take k).map g <+: L.map g;rw [List.map_take];exact List.take_prefix _ _
  ·rw [List.length_take];omega
  ·rw [List.length_take];omega
  ·have:=Calm.sliceHead (dst:=dst) (ty:=ty) (pos:=pos) (aft:=aft) (gd:=gd) (N:=N) (S:=M) hT hs hx (bnd_none c c) (by simp) (bnd_some L.length c hh (Int.natCast_nonneg _) (by omega))
   rw [Int.toNat_natCast] at this
   rw [List.length_take,Nat.min_eq_left hk]
   exact this
  ·have:=Calm.sliceSl (dst:=dst) (ty:=ty) (pos:=pos) (aft:=aft) (gd:=gd) (N:=N) (S:=M) hT hs hx (bnd_none c c) (by simp) (bnd_none L.length c) (bnd_some 0 L.length hh (Int.natCast_nonneg _) (by omega))
   rw [Int.toNat_natCast] at this
   exact this
theorem own_outN1 {B : Mem} {o : Option (Nat × Nat)} {n : Nat} {e : TypeId} {cs : List Value} {b : Nat} {r : Blk} (h : OkO B o n) (hb : B.own b = some r) : (outN 1 B o e cs).own b = some r := by rw [outN_one]; exact own_outM h hb
/-- What Ends hands back. -/
def EndsR (l : List Nat) (S : Mem) (r : Value) (S' : Mem) : Prop := (l.length ≤ 4096 ∧ ∃ u, r = .tuple #[u, .int .i64 0] ∧ RdL gI (Ord.endsR l l.length) S u S') ∨ (4096 < l.length ∧ r = .tuple #[.slice none 0 0, .int .i64 1] ∧ S' = S)
set_option maxHeartbeats 4000000 in
theorem rr_Ends (v : Value) (l : List Nat) (S : Mem) (hv : RowR S v l) :
  ACall Try.prog 48 #[v] S (EndsR l S):=by
 obtain ⟨va,vc,rfl,v1,v2,v3⟩:=id hv
 by_cases hbig:4096<l.length
 ·have hb0:=hbig
  refine ACall.enter (rs:=[.tmp 2,.tmp 3]) 48 [(0,.slice va l.length vc)] Try.func48 rfl rfl (Nat.le_of_ble_eq_true rfl) rfl ⟨rfl,trivial⟩ ?_
  refine k_a (k_s rfl (k_e rfl (AWP.seq (k_a ?_))))
  refine k_m rfl ?_
  refine rC (Calm.lenSl Try.underlying22 rfl) ?_
  refine rC (Calm.bin rfl rfl b_gtr) ?_
  refine k_n ?_
  refine k_u [(0,_),(2,_),(3,_),(9,_)] ?_
  refine k_T rfl ?_
  refine k_a (k_s rfl (k_e rfl ?_))
  refine k_r ?_
  refine ⟨_,S,⟨_,_,rfl,⟨_,_,rfl,rfl,rfl⟩,rfl⟩,less_,?_⟩
  exact .inr ⟨hbig,rfl,rfl⟩
 ·have hb0:=hbig
  refine ACall.enter (rs:=[.tmp 2,.tmp 3]) 48 [(0,.slice va l.length vc)] Try.func48 rfl rfl (Nat.le_of_ble_eq_true rfl) rfl ⟨rfl,trivial⟩ ?_
  refine k_a (k_s rfl (k_e rfl (AWP.seq (k_a ?_))))
  refine k_m rfl ?_
  refine rC (Calm.lenSl Try.underlying22 rfl) ?_
  refine rC (Calm.bin rfl rfl b_gtr) ?_
  refine k_n ?_
  refine k_u [(0,_),(2,_),(3,_),(9,_)] ?_
  refine k_F rfl ?_
  refine k_k (k_a (k_e rfl (AWP.seq (k_a ?_))))
  refine k_m rfl ?_
  refine rC (Calm.lenSl Try.underlying22 rfl) ?_
  refine k_m rfl (k_n ?_)
  refine k_u [(0,_),(2,_),(3,_),(9,_),(4,_),(11,_),(12,_)] ?_
  refine AWP.block ?_
  refine AWP.loop (X:=Nat × List Nat × Option (Nat × Nat)) (fun x=>[(0,.slice va l.length vc),(4,outV x.2.2 x.2.1.length),(11,.int .i64 l.length),(12,.int .i64 x.1)]) (fun x=>outM S x.2.2 3 (x.2.1.map gI)) (fun x=>x.1≤l.length∧x.2.1=Ord.endsR l x.1∧OkO S x.2.2 x.2.1.length) (fun x=>l.length-x.1) ((0,[],none)) ⟨rfl,rfl,rfl,rfl,trivial⟩ (Mem.Less.refl _) (⟨Nat.zero_le _,rfl,okO_nil _⟩) ?_
  rintro ⟨i,L,o⟩ ⟨h1,hL,ho⟩
  (try dsimp only at *)
  have hLl:L.length=i:=by rw [hL,(Ord.endsR_perm l i).length_eq,List.length_range]
  have hLm:∀ x ∈ L,x<i:=fun x hx=>by rw [hL] at hx;exact List.mem_range.1 ((Ord.endsR_perm l i).mem_iff.1 hx)
  have hSo:S.Less (outM S o 3 (L.map gI)):=outM_over ho
  by_cases hc:i<l.length
  ·refine k_a ?_
   refine rC (Calm.bin rfl rfl b_lss) ?_
   refine k_n (AWP.seq ?_)
   refine k_T rfl ?_
   obtain ⟨vb,vo,rfl,hkv⟩:=v3.resolve_left (fun h=>by rw [h] at hc;exact absurd hc (Nat.not_lt_zero _))
   clear hkv
   obtain ⟨ov,hov⟩ : ∃ ov,ov=outV o L.length:=⟨_,rfl⟩
   obtain ⟨oa,oc,hoa⟩ : ∃ a c,outV o L.length = .slice a L.length c:=by cases o with | none=>exact ⟨none,0,by rw [ho.nil rfl];rfl⟩ | some q=>exact ⟨_,_,rfl⟩
   clear hov ov
   rw [hoa]
   refine k_k (AWP.seq ?_)
   refine AWP.block ?_
   refine k_a (k_m rfl (k_e rfl ?_))
   refine k_u [(0,_),(4,_),(11,_),(12,_),(13,_),(5,_)] ?_
   refine k_a (k_m rfl ?_)
   refine rC (Calm.lenSl Try.underlying24 rfl) ?_
   refine k_e rfl ?_
   refine k_u [(0,_),(4,_),(11,_),(12,_),(13,_),(5,_),(6,_)] ?_
   refine AWP.seq ?_
   refine AWP.join (X:=Nat) (fun k=>[(0,.slice (some ⟨vb,vo,none⟩) l.length vc),(4,.slice oa L.length oc),(5,.int .i64 i),(6,.int .i64 k),(11,.int .i64 l.length),(12,.int .i64 i)]) (fun k=>outM S o 3 (L.map gI)) (fun k=>k≤L.length∧k=Ord.insAt l L i L.length) ?_ ?_
   ·refine AWP.block ?_
    refine AWP.loop (X:=Nat) (fun k=>[(0,.slice (some ⟨vb,vo,none⟩) l.length vc),(4,.slice oa L.length oc),(5,.int .i64 i),(6,.int .i64 k),(11,.int .i64 l.length),(12,.int .i64 i)]) (fun k=>outM S o 3 (L.map gI)) (fun k=>k≤L.length∧Ord.insAt l L i k=Ord.insAt l L i L.length) (fun k=>k) (L.length) ⟨sq_,sq_,sq_,sq_,sq_,sq_,trivial⟩ (Mem.Less.refl _) (⟨Nat.le_refl _,rfl⟩) ?_
    rintro k ⟨k1,k2⟩
    (try dsimp only at *)
    by_cases hk:0<k
    ·obtain ⟨k,rfl⟩ : ∃ q,k=q+1:=⟨k-1,by omega⟩
     obtain ⟨b,c,rfl⟩:=ho.some (by omega)
     cases hoa
     have hx:L[k]<l.length:=by have:=hLm L[k] (List.getElem_mem _);omega
     obtain ⟨x,hxe⟩ : ∃ x,x=L[k]:=⟨_,rfl⟩
     refine AWP.seq (AWP.seq ?_)
     refine AWP.draw [(0,true),(1,true),(2,true),(3,true),(4,true),(5,true),(6,true),(7,true),(8,true),(9,true),(10,true),(11,true),(12,true),(13,false),(14,true)] [] mixed (by kernel_rfl) ?_
     refine dP (hc:=fun _=>Calm.move rfl) (h:=?_)
     refine dP (hc:=fun _=>Calm.bin rfl rfl b_gtr) (h:=?_)
     refine dP (hc:=fun _=>Calm.move rfl) (h:=?_)
     first|refine k_d ?_|refine dG (hc:=fun _=>Calm.move rfl) (h:=?_)
     first|refine k_d ?_|refine dG (hc:=fun _=>Calm.move rfl) (h:=?_)
     first|refine k_d ?_|refine dG (hc:=fun _=>(by first | exact Calm.sliceSl Try.underlying22 ty_size_41 rfl (bnd_none _ _) (by simp) (bnd_none _ _) (bnd_some _ _ rfl (by omega) (by omega)) | exact Calm.sliceNil Try.underlying22 ty_size_41 rfl (bnd_none _ _) (by simp) (bnd_none _ _) (bnd_zero _ _ rfl))) (h:=?_)
     first|refine k_d ?_|refine dG (hc:=fun _=>Calm.move rfl) (h:=?_)
     first|refine k_d ?_|refine dG (hc:=fun _=>Calm.move rfl) (h:=?_)
     first|refine k_d ?_|refine dG (hc:=fun _=>Calm.move rfl) (h:=?_)
     first|refine k_d ?_|refine dG (hc:=fun _=>Calm.bin rfl rfl b_sub_i64) (h:=?_)
     first|refine k_d ?_|refine dG (hc:=fun _=>Calm.indexS Try.underlying24 ty_size_3 rfl rfl (by omega) (by omega)) (h:=?_)
     first|refine k_d ?_|refine dL (hc:=Calm.as (show gI L[k] = .int .i64 (x:Int) by rw [← hxe];rfl) (Calm.load ty_plain_3 rfl (rd_list (g:=gI) k (by omega) (Mem.own_set_same _ _ _) (by omega)))) (h:=?_)
     first|refine k_d ?_|refine dG (hc:=fun _=>(by first | exact Calm.sliceSl Try.underlying22 ty_size_41 rfl (bnd_none _ _) (by simp) (bnd_none _ _) (bnd_some _ _ rfl (by omega) (by omega)) | exact Calm.sliceNil Try.underlying22 ty_size_41 rfl (bnd_none _ _) (by simp) (bnd_none _ _) (bnd_zero _ _ rfl))) (h:=?_)
     refine draw_only rfl ?_
     refine ARun.callG 2 true 19 rfl (lit_lt rfl) rfl (lit_lt rfl) go_64 rfl (rnumV_Less (l.drop i) (l.drop x) _ _ _ (Sl.drop1 (hv.less hSo) i (by omega)) (Sl.drop1 (hv.less hSo) x (by omega))) ?_
     rintro _ _ ⟨rfl,rfl⟩
     have hgd:Ord.sl l i (L.getD k 0)=lessB (l.drop i) (l.drop x):=by rw [getD_get L k 0 (by omega),← hxe];rfl
     refine arun_nil ⟨fun _=>less_,?_⟩
     refine dP (hc:=fun _=>(by first | exact Calm.pickT rfl rfl | exact Calm.pickF rfl rfl)) (h:=?_)
     refine draw_nil ?_
     refine athen_n ?_
     refine k_u [(0,_),(4,_),(5,_),(6,_),(11,_),(12,_),(31,_)] ?_
     refine AWP.condB rfl (fun hls=>?_) (fun hls=>?_)
     ·refine k_k ?_
      refine AWP.block ?_
      refine AWP.region ?_
      refine k_m rfl ?_
      refine rC (Calm.bin rfl rfl b_sub_i64) ?_
      refine k_s rfl ?_
      refine arun_nil ?_
      refine ain_n ?_
      refine athen_n ?_
      refine ⟨k,?_,?_,?_,?_⟩
      all_goals (try dsimp only)
      ·exact ⟨sq_,sq_,sq_,sq_,sq_,sq_,trivial⟩
      ·exact Mem.Less.refl _
      ·exact ⟨by omega,by rw [← k2];exact insAt_go (by rw [hgd];exact hls)⟩
      ·omega
     ·refine AWP.exit ?_
      refine athen_exit ?_
      refine athen_exit ?_
      refine ain_same ?_
      refine ⟨(k+1),?_,?_,?_⟩
      all_goals (try dsimp only)
      ·exact ⟨k1,by rw [← k2];exact insAt_no (by rw [hgd];exact hls)⟩
      ·exact ⟨sq_,sq_,sq_,sq_,sq_,sq_,trivial⟩
      ·exact Mem.Less.refl _
    ·obtain rfl:k=0:=by omega
     refine AWP.seq (AWP.seq ?_)
     refine AWP.draw [(0,true),(1,true),(2,true),(3,true),(4,true),(5,true),(6,true),(7,true),(8,true),(9,true),(10,true),(11,true),(12,true),(13,false),(14,true)] [] mixed (by kernel_rfl) ?_
     refine dP (hc:=fun _=>Calm.move rfl) (h:=?_)
     refine dP (hc:=fun _=>Calm.bin rfl rfl b_gtr) (h:=?_)
     refine dP (hc:=fun _=>Calm.move rfl) (h:=?_)
     first|refine k_d ?_|refine dG (hc:=fun _=>Calm.move rfl) (h:=?_)
     first|refine k_d ?_|refine dG (hc:=fun _=>Calm.move rfl) (h:=?_)
     first|refine k_d ?_|refine dG (hc:=fun _=>(by first | exact Calm.sliceSl Try.underlying22 ty_size_41 rfl (bnd_none _ _) (by simp) (bnd_none _ _) (bnd_some _ _ rfl (by omega) (by omega)) | exact Calm.sliceNil Try.underlying22 ty_size_41 rfl (bnd_none _ _) (by simp) (bnd_none _ _) (bnd_zero _ _ rfl))) (h:=?_)
     first|refine k_d ?_|refine dG (hc:=fun _=>Calm.move rfl) (h:=?_)
     first|refine k_d ?_|refine dG (hc:=fun _=>Calm.move rfl) (h:=?_)
     first|refine k_d ?_|refine dG (hc:=fun _=>Calm.move rfl) (h:=?_)
     first|refine k_d ?_|refine dG (hc:=fun _=>Calm.bin rfl rfl b_sub_i64) (h:=?_)
     first|refine k_d ?_|refine dG (hc:=fun _=>Calm.indexS Try.underlying24 ty_size_3 rfl rfl (by omega) (by omega)) (h:=?_)
     first|refine k_d ?_|refine dL (hc:=ld_ ty_plain_3 rfl) (h:=?_)
     first|refine k_d ?_|refine dG (hc:=fun _=>(by first | exact Calm.sliceSl Try.underlying22 ty_size_41 rfl (bnd_none _ _) (by simp) (bnd_none _ _) (bnd_some _ _ rfl (by omega) (by omega)) | exact Calm.sliceNil Try.underlying22 ty_size_41 rfl (bnd_none _ _) (by simp) (bnd_none _ _) (bnd_zero _ _ rfl))) (h:=?_)
     refine draw_only rfl ?_
     first | refine rS 19 ?_ | refine rU 19 ?_
     refine arun_nil ⟨fun _=>less_,?_⟩
     refine dP (hc:=fun _=>(by first | exact Calm.pickT rfl rfl | exact Calm.pickF rfl rfl)) (h:=?_)
     refine draw_nil ?_
     refine athen_n ?_
     refine k_u [(0,_),(4,_),(5,_),(6,_),(11,_),(12,_),(31,_)] ?_
     refine k_F rfl ?_
     refine AWP.exit ?_
     refine athen_exit ?_
     refine athen_exit ?_
     refine ain_same ?_
     refine ⟨0,?_,?_,?_⟩
     all_goals (try dsimp only)
     ·exact ⟨k1,k2⟩
     ·exact ⟨sq_,sq_,sq_,sq_,sq_,sq_,trivial⟩
     ·exact Mem.Less.refl _
   rintro k ⟨k1,k2⟩
   intro _ _ hs_ hl_
   (try dsimp only at *)
   refine athen_n ?_
   refine AWP.sub _ hs_ (AWP.less _ hl_ ?_)
   clear hs_ hl_
   rw [← hoa]
   obtain ⟨⟨uT,hsT,hcT⟩,⟨uD,hsD,hcD⟩⟩:=out_cut (P:=Try.prog) (g:=gI) (e:=3) ho (by omega) k k1
   clear hoa
   refine AWP.join (X:=Option (Nat × Nat)) (fun x=>[(0,.slice (some ⟨vb,vo,none⟩) l.length vc),(4,outV x (L.length+1)),(11,.int .i64 l.length),(12,.int .i64 i)]) (fun x=>outM S x 3 ((L.take k ++ i :: L.drop k).map gI)) (fun x=>OkO S x (L.length+1)) ?_ ?_
   ·refine AWP.drawG [4,7,11] mixed ?_
    refine DG.pure 1 (by kernel_rfl) (by kernel_rfl) rfl rfl rfl rfl (lit_lt rfl) (fun _=>Calm.move rfl) ?_
    refine DG.pure 2 (by kernel_rfl) (by kernel_rfl) rfl rfl rfl rfl (lit_lt rfl) (fun _=>Calm.move rfl) ?_
    refine DG.pure 3 (by kernel_rfl) (by kernel_rfl) rfl rfl rfl rfl (lit_lt rfl) (fun _=>hcT _ _ _ _ _ _ _ _ _ _ _ _ _ Try.underlying24 ty_size_3 rfl rfl) ?_
    refine DG.pure 5 (by kernel_rfl) (by kernel_rfl) rfl rfl rfl rfl (lit_lt rfl) (fun _=>Calm.move rfl) ?_
    refine DG.pure 8 (by kernel_rfl) (by kernel_rfl) rfl rfl rfl rfl (lit_lt rfl) (fun _=>Calm.move rfl) ?_
    refine DG.pure 9 (by kernel_rfl) (by kernel_rfl) rfl rfl rfl rfl (lit_lt rfl) (fun _=>Calm.move rfl) ?_
    refine DG.pure 10 (by kernel_rfl) (by kernel_rfl) rfl rfl rfl rfl (lit_lt rfl) (fun _=>hcD _ _ _ _ _ _ _ _ _ _ _ _ _ Try.underlying24 ty_size_3 rfl rfl) ?_
    refine DG.two 0 6 (by kernel_rfl) rfl ?_ rfl ?_
    ·refine ARun.build0 (lit_lt rfl) ty_sl_24 ?_
     intro b34 f34
     have g34:=f34
     repeat ((with_reducible replace g34:=fresh_set g34);obtain ⟨g34,_⟩:=g34)
     refine arun_nil ⟨fun _=>less_,?_⟩
     refine DG.two 4 6 (by kernel_rfl) rfl ?_ rfl ?_
     ·refine ARun.appendOK (n:=1) (o:=some (b34,0)) (k:=0) (m:=k) (cs:=[]) (news:=(L.take k).map gI) (lit_lt rfl) ty_sl_24 rfl rfl rfl (okO_own f34 (Nat.zero_le _)) (appN1 (okO_own f34 (Nat.zero_le _)) rfl) rfl (hsT.less (Mem.less_set _ _ _ f34.1)) (by rw [List.length_map,List.length_take,Nat.min_eq_left k1,Nat.mul_one]) (one_cells (fun _=>rfl) _) (by omega) (by omega) ?_
      intro o1 ho1
      refine arun_nil ⟨fun h=>absurd h (by decide),?_⟩
      refine DG.only 6 (by kernel_rfl) rfl ?_
      refine ARun.build1s (lit_lt rfl) ty_sl_24 rfl rfl ?_
      intro b40 f40
      have g40:=f40
      repeat ((with_reducible replace g40:=fresh_set g40);obtain ⟨g40,_⟩:=g40)
      have hN1:=outN_over (n:=1) (e:=3) (cs:=[] ++ (L.take k).map gI) ho1
      have hf40:=f40.less hN1
      refine arun_nil ⟨fun _=>less_,?_⟩
      refine DG.only 7 (by kernel_rfl) rfl ?_
      refine ARun.appendOK (n:=1) (o:=o1) (k:=0+k) (m:=1) (cs:=[] ++ (L.take k).map gI) (news:=[gI i]) (lit_lt rfl) ty_sl_24 rfl rfl (by simp [Nat.min_eq_left k1]) ho1 ((appN_self ho1 (by simp [Nat.min_eq_left k1])).temp f40) rfl (src_one (Mem.own_set_same _ _ _)) rfl (fun v hv=>by simp at hv;rw [hv];rfl) (by omega) (by omega) ?_
      intro o2 ho2
      refine arun_nil ⟨fun h=>absurd h (by decide),?_⟩
      refine DG.only 11 (by kernel_rfl) rfl ?_
      refine ARun.appendOK (n:=1) (o:=o2) (k:=0+k+1) (m:=L.length-k) (cs:=[] ++ (L.take k).map gI ++ [gI i]) (news:=(L.drop k).map gI) (lit_lt rfl) ty_sl_24 rfl rfl (by simp [Nat.min_eq_left k1]) ho2 (appN_self ho2 (by simp [Nat.min_eq_left k1])) rfl (hsD.less (outN_over ho2)) (by rw [List.length_map,List.length_drop,Nat.mul_one]) (one_cells (fun _=>rfl) _) (by omega) (by omega) ?_
      intro o3 ho3
      rw [ins_cells,outN_one]
      refine arun_nil ⟨fun h=>absurd h (by decide),?_⟩
      refine DG.pure 12 (by kernel_rfl) (by kernel_rfl) rfl rfl rfl rfl (lit_lt rfl) (fun _=>Calm.assign rfl) ?_
      refine DG.end_ (by kernel_rfl) ?_
      refine ⟨o3,?_,?_,?_⟩
      all_goals (try dsimp only)
      ·exact okO_len (okO_down ho3 hSo) (by omega)
      ·exact ⟨sq_,congrArg (fun q=>some (outV o3 q)) (by omega),sq_,sq_,trivial⟩
      ·exact outM_more _ _ _ hSo
     ·refine ARun.build1s (lit_lt rfl) ty_sl_24 rfl rfl ?_
      intro b40 f40
      have g40:=f40
      repeat ((with_reducible replace g40:=fresh_set g40);obtain ⟨g40,_⟩:=g40)
      refine arun_nil ⟨fun _=>less_,?_⟩
      have hS40:(outM S o 3 (L.map gI)).Less ((outM S o 3 (L.map gI)).set b40 ⟨3,[gI i],1⟩):=Mem.less_set _ _ _ g40.1
      have h34:Fresh ((outM S o 3 (L.map gI)).set b40 ⟨3,[gI i],1⟩) b34:=fresh_more f34 (by first | assumption | (apply Ne.symm;assumption))
      rw [Mem.set_comm _ _ _ (by first | assumption | (apply Ne.symm;assumption):b34≠b40)]
      refine DG.only 4 (by kernel_rfl) rfl ?_
      refine ARun.appendOK (n:=1) (o:=some (b34,0)) (k:=0) (m:=k) (cs:=[]) (news:=(L.take k).map gI) (lit_lt rfl) ty_sl_24 rfl rfl rfl (okO_own h34 (Nat.zero_le _)) (appN1 (okO_own h34 (Nat.zero_le _)) rfl) rfl (hsT.less (hS40.trans (Mem.less_set _ _ _ h34.1))) (by rw [List.length_map,List.length_take,Nat.min_eq_left k1,Nat.mul_one]) (one_cells (fun _=>rfl) _) (by omega) (by omega) ?_
      intro o1 ho1
      refine arun_nil ⟨fun h=>absurd h (by decide),?_⟩
      refine DG.only 7 (by kernel_rfl) rfl ?_
      refine ARun.appendOK (n:=1) (o:=o1) (k:=0+k) (m:=1) (cs:=[] ++ (L.take k).map gI) (news:=[gI i]) (lit_lt rfl) ty_sl_24 rfl rfl (by simp [Nat.min_eq_left k1]) ho1 (appN_self ho1 (by simp [Nat.min_eq_left k1])) rfl (src_one (own_outN1 ho1 (Mem.own_set_same _ _ _))) rfl (fun v hv=>by simp at hv;rw [hv];rfl) (by omega) (by omega) ?_
      intro o2 ho2
      refine arun_nil ⟨fun h=>absurd h (by decide),?_⟩
      refine DG.only 11 (by kernel_rfl) rfl ?_
      refine ARun.appendOK (n:=1) (o:=o2) (k:=0+k+1) (m:=L.length-k) (cs:=[] ++ (L.take k).map gI ++ [gI i]) (news:=(L.drop k).map gI) (lit_lt rfl) ty_sl_24 rfl rfl (by simp [Nat.min_eq_left k1]) ho2 (appN_self ho2 (by simp [Nat.min_eq_left k1])) rfl (hsD.less (hS40.trans (outN_over ho2))) (by rw [List.length_map,List.length_drop,Nat.mul_one]) (one_cells (fun _=>rfl) _) (by omega) (by omega) ?_
      intro o3 ho3
      rw [ins_cells,outN_one]
      refine arun_nil ⟨fun h=>absurd h (by decide),?_⟩
      refine DG.pure 12 (by kernel_rfl) (by kernel_rfl) rfl rfl rfl rfl (lit_lt rfl) (fun _=>Calm.assign rfl) ?_
      refine DG.end_ (by kernel_rfl) ?_
      refine ⟨o3,?_,?_,?_⟩
      all_goals (try dsimp only)
      ·exact okO_len (okO_down ho3 (hSo.trans hS40)) (by omega)
      ·exact ⟨sq_,congrArg (fun q=>some (outV o3 q)) (by omega),sq_,sq_,trivial⟩
      ·exact outM_more _ _ _ (hSo.trans hS40)
    ·refine ARun.build1s (lit_lt rfl) ty_sl_24 rfl rfl ?_
     intro b40 f40
     have g40:=f40
     repeat ((with_reducible replace g40:=fresh_set g40);obtain ⟨g40,_⟩:=g40)
     refine arun_nil ⟨fun _=>less_,?_⟩
     have hS40:(outM S o 3 (L.map gI)).Less ((outM S o 3 (L.map gI)).set b40 ⟨3,[gI i],1⟩):=Mem.less_set _ _ _ f40.1
     refine DG.only 0 (by kernel_rfl) rfl ?_
     refine ARun.build0 (lit_lt rfl) ty_sl_24 ?_
     intro b34 f34
     have g34:=f34
     repeat ((with_reducible replace g34:=fresh_set g34);obtain ⟨g34,_⟩:=g34)
     refine arun_nil ⟨fun _=>less_,?_⟩
     refine DG.only 4 (by kernel_rfl) rfl ?_
     refine ARun.appendOK (n:=1) (o:=some (b34,0)) (k:=0) (m:=k) (cs:=[]) (news:=(L.take k).map gI) (lit_lt rfl) ty_sl_24 rfl rfl rfl (okO_own f34 (Nat.zero_le _)) (appN1 (okO_own f34 (Nat.zero_le _)) rfl) rfl (hsT.less (hS40.trans (Mem.less_set _ _ _ f34.1))) (by rw [List.length_map,List.length_take,Nat.min_eq_left k1,Nat.mul_one]) (one_cells (fun _=>rfl) _) (by omega) (by omega) ?_
     intro o1 ho1
     refine arun_nil ⟨fun h=>absurd h (by decide),?_⟩
     refine DG.only 7 (by kernel_rfl) rfl ?_
     refine ARun.appendOK (n:=1) (o:=o1) (k:=0+k) (m:=1) (cs:=[] ++ (L.take k).map gI) (news:=[gI i]) (lit_lt rfl) ty_sl_24 rfl rfl (by simp [Nat.min_eq_left k1]) ho1 (appN_self ho1 (by simp [Nat.min_eq_left k1])) rfl (src_one (own_outN1 ho1 (Mem.own_set_same _ _ _))) rfl (fun v hv=>by simp at hv;rw [hv];rfl) (by omega) (by omega) ?_
     intro o2 ho2
     refine arun_nil ⟨fun h=>absurd h (by decide),?_⟩
     refine DG.only 11 (by kernel_rfl) rfl ?_
     refine ARun.appendOK (n:=1) (o:=o2) (k:=0+k+1) (m:=L.length-k) (cs:=[] ++ (L.take k).map gI ++ [gI i]) (news:=(L.drop k).map gI) (lit_lt rfl) ty_sl_24 rfl rfl (by simp [Nat.min_eq_left k1]) ho2 (appN_self ho2 (by simp [Nat.min_eq_left k1])) rfl (hsD.less (hS40.trans (outN_over ho2))) (by rw [List.length_map,List.length_drop,Nat.mul_one]) (one_cells (fun _=>rfl) _) (by omega) (by omega) ?_
     intro o3 ho3
     rw [ins_cells,outN_one]
     refine arun_nil ⟨fun h=>absurd h (by decide),?_⟩
     refine DG.pure 12 (by kernel_rfl) (by kernel_rfl) rfl rfl rfl rfl (lit_lt rfl) (fun _=>Calm.assign rfl) ?_
     refine DG.end_ (by kernel_rfl) ?_
     refine ⟨o3,?_,?_,?_⟩
     all_goals (try dsimp only)
     ·exact okO_len (okO_down ho3 (hSo.trans hS40)) (by omega)
     ·exact ⟨sq_,congrArg (fun q=>some (outV o3 q)) (by omega),sq_,sq_,trivial⟩
     ·exact outM_more _ _ _ (hSo.trans hS40)
   rintro x hx
   intro _ _ hs_ hl_
   (try dsimp only at *)
   refine ain_n ?_
   refine athen_n ?_
   refine AWP.sub _ hs_ (AWP.less _ hl_ ?_)
   clear hs_ hl_
   have hins:L.take k ++ i :: L.drop k=Ord.endsR l (i+1):=by rw [Ord.endsR,← hL,Ord.insE,← k2]
   have hil:(Ord.endsR l (i+1)).length=L.length+1:=by rw [(Ord.endsR_perm l (i+1)).length_eq,List.length_range];omega
   refine AWP.region ?_
   refine rC (Calm.bin rfl rfl b_add_i64) ?_
   refine k_m rfl (k_n ?_)
   refine ⟨(i+1,Ord.endsR l (i+1),x),?_,?_,?_,?_⟩
   all_goals (try dsimp only)
   ·exact ⟨sq_,congrArg (fun q=>some (outV x q)) hil.symm,sq_,sq_,trivial⟩
   ·rw [hins];exact Mem.Less.refl _
   ·exact ⟨hc,rfl,by rw [hil];exact hx⟩
   ·omega
  ·obtain rfl:i=l.length:=by omega
   refine k_a ?_
   refine rC (Calm.bin rfl rfl b_lss) ?_
   refine k_n (AWP.seq ?_)
   refine k_F rfl ?_
   refine AWP.exit ?_
   refine athen_exit ?_
   refine athen_exit ?_
   refine ain_same ?_
   refine athen_n ?_
   refine k_a (k_m rfl (k_s rfl (k_e rfl ?_)))
   refine k_u [(0,_),(4,_),(11,_),(12,_),(13,_),(2,_),(3,_)] ?_
   refine AWP.ret ?_
   refine ⟨_,_,⟨_,_,rfl,⟨_,_,rfl,rfl,rfl⟩,rfl⟩,Mem.Less.refl _,?_⟩
   exact .inl ⟨by omega,_,rfl,by rw [← hL];exact RdL.of_out ho rfl (by omega)⟩
end Go.Proofs.Ytgidjbpgkeemiaa
namespace Go.Proofs.Ytgidjbpgkeemiaa
open Go.RowKit
open Mv
namespace Srt
theorem rw_ {p : Prop} (h : p := by first | omega | (simp only [Array.size_setIfInBounds]; omega)) : p := h
theorem sb_ {p : Prop} (h : p := by first | rfl | (refine some_int ?_; first | omega | (dsimp only; omega))) : p := h
section
variable {P : Program} {N : Nat} {ops : Array Oper} {E : Env} {S : Mem} {K : Env → Mem → Prop} {ty : TypeId} {pos : String} {aft : Array Edge}
theorem ARun.storeRow {α : Type} {os : List Oper} {T e : TypeId} {x y : Operand} {b o room : Nat} (enc : α → Value) {d : Array α} {v : α} (k : Nat) (hx : ev E x = some (.pointer (some ⟨b, o, none⟩))) (hy : ev E y = some (enc v)) (hs : sizeT P T = some 1)
  (h1:(enc v).cells = #[enc v]∧(enc v).oneCell'=true) (hb:S.own b=some ⟨e,d.toList.map enc,room⟩) (hk:k<d.size) (ho:o=k) (h:ARun P N ops os K E (S.set b ⟨e,(d.setIfInBounds k v).toList.map enc,room⟩)) :
  ARun P N ops (⟨none,.store T x y,ty,pos,aft,none⟩ :: os) K E S:=by
 subst ho
 refine ARun.store1 hx hy hs h1.1 hb (by simpa using hk) h1.2 ?_
 have:(d.toList.map enc).set o (enc v)=(d.setIfInBounds o v).toList.map enc:=by simp
 rw [this];exact h
end
/-- A function that tells what is less, as a value. -/
structure CmpC {α : Type} (P : Program) (enc : α → Value) (cf : α → α → Int) (okP : α → Prop) (g : Nat) (cb : List Value) (S : Mem) : Prop where
  one : ∀ x, (enc x).cells = #[enc x] ∧ (enc x).oneCell' = true
  go : goFn P g = true
  cmp : ∀ x y, okP x → okP y → ACall P g ([] ++ [enc x, enc y] ++ cb).toArray S fun r S' => r = .int .i64 (cf x y) ∧ S' = S
theorem CmpC.call {α : Type} {P : Program} {enc : α → Value} {cf : α → α → Int} {okP : α → Prop} {g : Nat} {cb : List Value} {S S' : Mem} (C : CmpC P enc cf okP g cb S) (hl : S.Less S') {x y : α} (hx : okP x) (hy : okP y) :
  ACall P g ([] ++ [enc x,enc y] ++ cb).toArray S' fun r S''=>r = .int .i64 (cf x y)∧S''=S':=ACall.pure_more hl (C.cmp x y hx hy)
variable {α : Type} [Inhabited α]
theorem rd_row {S : Mem} {b : Nat} {T : TypeId} {enc : α → Value} {d : Array α} {room o k : Nat} (h : S.own b = some ⟨T, d.toList.map enc, room⟩) (hk : k < d.size) (ho : o = k) : S.rd ⟨b, o, none⟩ = some (enc d[k]!) := by
 rw [rd_own h,ho,getElem!_pos d k hk];simp [hk]
/-- A row at work: its length, and what holds of each thing in it. -/
structure Rw (okP : α → Prop) (n : Nat) (d : Array α) : Prop where
  size : d.size = n
  ok : ∀ i, i < n → okP d[i]!
theorem Rw.swp {okP : α → Prop} {n : Nat} {d : Array α} (h : Rw okP n d) (i j : Nat) (hi : i < n) (hj : j < n) : Rw okP n (Go.Sort.swp d i j) := by
 refine ⟨by rw [Go.Sort.size_swp,h.size],fun k hk=>?_⟩
 have hs:=h.size
 by_cases h1:k=j
 ·subst h1;rw [Go.Sort.swp_right d i k (by omega)];exact h.ok i hi
 ·by_cases h2:k=i
  ·subst h2;rw [Go.Sort.swp_left d k j (by omega) h1];exact h.ok j hj
  ·rw [Go.Sort.swp_other d i j k h2 h1];exact h.ok k hk
/-! ### The plain sort's steps -/
section
variable (lt : α → α → Bool)
theorem ins_go {a j : Nat} {d : Array α} (h1 : a < j + 1) (h2 : lt d[j + 1]! d[j]! = true) : Go.Sort.insInner lt a j (Go.Sort.swp d (j + 1) j) = Go.Sort.insInner lt a (j + 1) d := by
 rw [Go.Sort.insInner.eq_def lt a (j+1) d];simp only [];rw [if_pos (by simp [h1,h2])]
theorem ins_no {a j : Nat} {d : Array α} (h2 : lt d[j + 1]! d[j]! = false) : d = Go.Sort.insInner lt a (j + 1) d := by
 rw [Go.Sort.insInner];rw [if_neg (by simp [h2])]
theorem ins_end {a j : Nat} {d : Array α} (h1 : ¬ a < j) : d = Go.Sort.insInner lt a j d := by
 cases j with
 | zero=>rfl
 | succ j=>rw [Go.Sort.insInner];rw [if_neg (by simp;omega)]
theorem outer_go {a b i : Nat} {d : Array α} (h : i < b) : Go.Sort.insOuter lt a b (i + 1) (Go.Sort.insInner lt a i d) = Go.Sort.insOuter lt a b i d := by
 rw [Go.Sort.insOuter.eq_def lt a b i d,if_pos h]
theorem outer_end {a b i : Nat} {d : Array α} (h : ¬ i < b) : d = Go.Sort.insOuter lt a b i d := by
 rw [Go.Sort.insOuter,if_neg h]
/-- The child that is looked at. -/
def child (hi first root : Nat) (d : Array α) : Nat := if 2 * root + 2 < hi ∧ lt d[first + (2 * root + 1)]! d[first + (2 * root + 2)]! = true then 2 * root + 2 else 2 * root + 1
theorem sift_leaf {hi first root : Nat} {d : Array α} (h : hi ≤ 2 * root + 1) : d = Go.Sort.siftDown lt hi first root d := by
 rw [Go.Sort.siftDown,dif_pos h]
theorem sift_stop {hi first root : Nat} {d : Array α} (h : ¬ hi ≤ 2 * root + 1) (h2 : lt d[first + root]! d[first + child lt hi first root d]! = false) : d = Go.Sort.siftDown lt hi first root d := by
 rw [Go.Sort.siftDown,dif_neg h]
 unfold child at h2
 by_cases hc:2*root+2<hi∧lt d[first+(2*root+1)]! d[first+(2*root+2)]! = true
 ·rw [if_pos hc] at h2
  rw [if_pos (by simp;exact hc),if_pos (by simp [h2])]
 ·rw [if_neg hc] at h2
  rw [if_neg (fun h=>hc (by simp only [Bool.and_eq_true,decide_eq_true_eq] at h;exact h)),if_pos (by simp [h2])]
theorem sift_go {hi first root : Nat} {d : Array α} (h : ¬ hi ≤ 2 * root + 1) (h2 : lt d[first + root]! d[first + child lt hi first root d]! = true) :
  Go.Sort.siftDown lt hi first (child lt hi first root d) (Go.Sort.swp d (first+root) (first+child lt hi first root d))=Go.Sort.siftDown lt hi first root d:=by
 rw [Go.Sort.siftDown.eq_def lt hi first root d,dif_neg h]
 unfold child at *
 by_cases hc:2*root+2<hi∧lt d[first+(2*root+1)]! d[first+(2*root+2)]! = true
 ·rw [if_pos hc] at h2 ⊢
  rw [if_pos (by simp;exact hc),if_neg (by simp [h2]),dif_pos hc.1]
 ·rw [if_neg hc] at h2 ⊢
  rw [if_neg (fun h=>hc (by simp only [Bool.and_eq_true,decide_eq_true_eq] at h;exact h)),if_neg (by simp [h2])]
theorem up_go {p : α → Bool} {d : Array α} {i j : Nat} (h : i ≤ j) (h2 : p d[i]! = true) : Go.Sort.scanUp p d j (i + 1) = Go.Sort.scanUp p d j i := by
 rw [Go.Sort.scanUp.eq_def p d j i,if_pos (by simp [h,h2])]
theorem up_end {p : α → Bool} {d : Array α} {i j : Nat} (h : ¬ i ≤ j) : i = Go.Sort.scanUp p d j i := by
 rw [Go.Sort.scanUp,if_neg (by simp;omega)]
theorem up_no {p : α → Bool} {d : Array α} {i j : Nat} (h : p d[i]! = false) : i = Go.Sort.scanUp p d j i := by
 rw [Go.Sort.scanUp,if_neg (by simp [h])]
theorem down_go {p : α → Bool} {d : Array α} {i j : Nat} (h : i ≤ j + 1) (h2 : p d[j + 1]! = true) : Go.Sort.scanDown p d i j = Go.Sort.scanDown p d i (j + 1) := by
 rw [Go.Sort.scanDown.eq_def p d i (j+1)];simp only [];rw [if_pos (by simp [h,h2])]
theorem down_end {p : α → Bool} {d : Array α} {i j : Nat} (h : ¬ i ≤ j) : j = Go.Sort.scanDown p d i j := by
 cases j with
 | zero=>rfl
 | succ j=>rw [Go.Sort.scanDown];rw [if_neg (by simp;omega)]
theorem down_no {p : α → Bool} {d : Array α} {i j : Nat} (h0 : 0 < j) (h : p d[j]! = false) : j = Go.Sort.scanDown p d i j := by
 cases j with
 | zero=>omega
 | succ j=>rw [Go.Sort.scanDown];rw [if_neg (by simp [h])]
theorem part_stop {a i j i2 j2 : Nat} {d : Array α} (h1 : i2 = Go.Sort.scanUp (fun x => lt x d[a]!) d j i) (h2 : j2 = Go.Sort.scanDown (fun x => !lt x d[a]!) d i2 j) (h : j2 < i2) : (j2, d) = Go.Sort.partLoop lt a i j d := by
 rw [Go.Sort.partLoop_eq,← h1,← h2,if_pos h]
theorem part_go {a i j i2 j2 : Nat} {d : Array α} (h1 : i2 = Go.Sort.scanUp (fun x => lt x d[a]!) d j i) (h2 : j2 = Go.Sort.scanDown (fun x => !lt x d[a]!) d i2 j) (h : ¬ j2 < i2) : Go.Sort.partLoop lt a (i2 + 1) (j2 - 1) (Go.Sort.swp d i2 j2) = Go.Sort.partLoop lt a i j d := by
 rw [Go.Sort.partLoop_eq lt a i j d,← h1,← h2,if_neg h]
theorem parteq_stop {a i j i2 j2 : Nat} {d : Array α} (h1 : i2 = Go.Sort.scanUp (fun x => !lt d[a]! x) d j i) (h2 : j2 = Go.Sort.scanDown (fun x => lt d[a]! x) d i2 j) (h : j2 < i2) : (i2, d) = Go.Sort.partEqLoop lt a i j d := by
 rw [Go.Sort.partEqLoop_eq,← h1,← h2,if_pos h]
theorem parteq_go {a i j i2 j2 : Nat} {d : Array α} (h1 : i2 = Go.Sort.scanUp (fun x => !lt d[a]! x) d j i) (h2 : j2 = Go.Sort.scanDown (fun x => lt d[a]! x) d i2 j) (h : ¬ j2 < i2) : Go.Sort.partEqLoop lt a (i2 + 1) (j2 - 1) (Go.Sort.swp d i2 j2) = Go.Sort.partEqLoop lt a i j d := by
 rw [Go.Sort.partEqLoop_eq lt a i j d,← h1,← h2,if_neg h]
theorem ss_go {d : Array α} {b i : Nat} (h : i < b) (h2 : lt d[i]! d[i - 1]! = false) : Go.Sort.scanSorted lt d b (i + 1) = Go.Sort.scanSorted lt d b i := by
 rw [Go.Sort.scanSorted.eq_def lt d b i,if_pos (by simp [h,h2])]
theorem ss_end {d : Array α} {b i : Nat} (h : ¬ i < b) : i = Go.Sort.scanSorted lt d b i := by
 rw [Go.Sort.scanSorted,if_neg (by simp;omega)]
theorem ss_no {d : Array α} {b i : Nat} (h2 : lt d[i]! d[i - 1]! = true) : i = Go.Sort.scanSorted lt d b i := by
 rw [Go.Sort.scanSorted,if_neg (by simp [h2])]
theorem sd_go {j : Nat} {d : Array α} (h2 : lt d[j + 1]! d[j]! = true) : Go.Sort.shiftDown lt j (Go.Sort.swp d (j + 1) j) = Go.Sort.shiftDown lt (j + 1) d := by
 rw [Go.Sort.shiftDown.eq_def lt (j+1) d];simp only [];rw [if_neg (by simp [h2])]
theorem sd_no {j : Nat} {d : Array α} (h2 : lt d[j + 1]! d[j]! = false) : d = Go.Sort.shiftDown lt (j + 1) d := by
 rw [Go.Sort.shiftDown];rw [if_pos (by simp [h2])]
theorem su_go {b j : Nat} {d : Array α} (h : j < b) (h2 : lt d[j]! d[j - 1]! = true) : Go.Sort.shiftUp lt b (j + 1) (Go.Sort.swp d j (j - 1)) = Go.Sort.shiftUp lt b j d := by
 rw [Go.Sort.shiftUp.eq_def lt b j d,if_pos h,if_neg (by simp [h2])]
theorem su_no {b j : Nat} {d : Array α} (h2 : lt d[j]! d[j - 1]! = false) : d = Go.Sort.shiftUp lt b j d := by
 rw [Go.Sort.shiftUp];split
 ·rw [if_pos (by simp [h2])]
 ·rfl
theorem su_end {b j : Nat} {d : Array α} (h : ¬ j < b) : d = Go.Sort.shiftUp lt b j d := by
 rw [Go.Sort.shiftUp,if_neg h]
theorem rev_go {i j : Nat} {d : Array α} (h : i < j) : Go.Sort.reverseLoop (i + 1) (j - 1) (Go.Sort.swp d i j) = Go.Sort.reverseLoop i j d := by
 rw [Go.Sort.reverseLoop.eq_def i j d,if_pos h]
theorem rev_end {i j : Nat} {d : Array α} (h : ¬ i < j) : d = Go.Sort.reverseLoop i j d := by
 rw [Go.Sort.reverseLoop,if_neg h]
end
end Srt
end Go.Proofs.Ytgidjbpgkeemiaa
namespace Go.Proofs.Ytgidjbpgkeemiaa
open Go.RowKit
open Mv
namespace Srt
open Go.Sort (swp scanUp scanDown partLoop partition partEqLoop partitionEqual)
theorem nt_ {p : Bool} (h : (!p) = true) : p = false := by cases p <;> simp_all
theorem nf_ {p : Bool} (h : (!p) = false) : p = true := by cases p <;> simp_all
def PartR (α : Type) [Inhabited α] (M : Array α → Mem) (okP : α → Prop) (n : Nat) (q : Nat × Bool × Array α) (a e : Nat) (r : Value) (S' : Mem) : Prop :=
  r = .tuple #[.int .i64 (q.1 : Int), .bool q.2.1] ∧ S' = M q.2.2 ∧ Rw okP n q.2.2 ∧ a ≤ q.1 ∧ q.1 < e
def PartEqR (α : Type) [Inhabited α] (M : Array α → Mem) (okP : α → Prop) (n : Nat) (q : Nat × Array α) (a e : Nat) (r : Value) (S' : Mem) : Prop :=
  r = .int .i64 (q.1 : Int) ∧ S' = M q.2 ∧ Rw okP n q.2 ∧ a < q.1 ∧ q.1 ≤ e
section
variable {α : Type} [Inhabited α] (lt : α → α → Bool)
theorem part_res1 {M : Array α → Mem} {okP : α → Prop} {n a p J i j : Nat} {d d0 : Array α} (hd : d0 = swp d a p) (hU : i = scanUp (fun x => lt x d0[a]!) d0 J (a + 1)) (hD : j = scanDown (fun x => !lt x d0[a]!) d0 i J) (hx : j < i)
  (R:Rw okP n (swp d0 j a)) (h1:a≤j) (h2:j≤J):PartR α M okP n (partition lt d a (J+1) p) a (J+1) (.tuple #[.int .i64 (j:Int),.bool true]) (M (swp d0 j a)):=by
 have e:partition lt d a (J+1) p=(j,true,swp d0 j a):=by
  unfold partition
  simp only [Nat.add_sub_cancel,← hd,← hU,← hD]
  rw [if_pos hx]
 rw [e];exact ⟨rfl,rfl,R,h1,by show j<J+1;omega⟩
theorem part_res2 {M : Array α → Mem} {okP : α → Prop} {n a p J i j j3 : Nat} {d d0 d3 : Array α} (hd : d0 = swp d a p) (hU : i = scanUp (fun x => lt x d0[a]!) d0 J (a + 1)) (hD : j = scanDown (fun x => !lt x d0[a]!) d0 i J) (hx : ¬ j < i)
  (h3:(j3,d3)=partLoop lt a (i+1) (j-1) (swp d0 i j)) (R:Rw okP n (swp d3 j3 a)) (h1:a≤j3) (h2:j3≤J):PartR α M okP n (partition lt d a (J+1) p) a (J+1) (.tuple #[.int .i64 (j3:Int),.bool false]) (M (swp d3 j3 a)):=by
 have e:partition lt d a (J+1) p=(j3,false,swp d3 j3 a):=by
  unfold partition
  simp only [Nat.add_sub_cancel,← hd,← hU,← hD]
  rw [if_neg hx,← h3]
 rw [e];exact ⟨rfl,rfl,R,h1,by show j3<J+1;omega⟩
theorem parteq_res {M : Array α → Mem} {okP : α → Prop} {n a p J i : Nat} {d d0 d3 : Array α} (hd : d0 = swp d a p) (h3 : (i, d3) = partEqLoop lt a (a + 1) J d0) (R : Rw okP n d3) (h1 : a + 1 ≤ i) (h2 : i ≤ J + 1) :
  PartEqR α M okP n (partitionEqual lt d a (J+1) p) a (J+1) (.int .i64 (i:Int)) (M d3):=by
 have e:partitionEqual lt d a (J+1) p=(i,d3):=by
  unfold partitionEqual
  rw [Nat.add_sub_cancel,← hd,← h3]
 rw [e];exact ⟨rfl,rfl,R,h1,h2⟩
end
end Srt
end Go.Proofs.Ytgidjbpgkeemiaa
namespace Go.Proofs.Ytgidjbpgkeemiaa
open Go.RowKit
open Mv Srt
set_option maxRecDepth 4000
theorem bitLen_bits (x : Nat) (h : x < 2 ^ 64) : Lib.bitLen x = Go.Sort.bitsLen x := by
 induction x using Nat.strongRecOn with
 | _ x ih =>
  by_cases h0:x=0
  ·subst h0;rfl
  ·rw [Lib.bitLen_half x h0 h,ih (x / 2) (by omega) (by omega)]
   unfold Go.Sort.bitsLen
   rw [if_neg h0,Nat.log2_def x]
   by_cases h2:2≤x
   ·rw [if_pos h2,if_neg (by omega)];omega
   ·obtain rfl:x=1:=by omega
    simp
theorem so_Len (x : Nat) (hx : x < 9223372036854775808) (S : Mem) : ACall Try.prog 122 #[.int .u64 (x : Int)] S fun r S' => r = .int .i64 (Go.Sort.bitsLen x : Nat) ∧ S' = S := by
 refine ACall.of_same fun w=>?_
 have h:=Try.bits_Len (x:Int) w (by omega) (by omega)
 rw [Int.toNat_natCast,bitLen_bits x (by omega)] at h
 exact h
theorem bitsLen_small (L : Nat) (h : L ≤ 1048576) : Go.Sort.bitsLen L ≤ 21 := (Go.Sort.bitsLen_le_iff L 21).2 (by omega)
set_option maxHeartbeats 1000000 in
theorem so_pow (iL : Int) (L : Nat) (eL : iL = L) (hL : L ≤ 1048576) (S : Mem) : ACall Try.prog 179 #[.int .i64 iL] S fun r S' => r = .int .u64 ((1 <<< Go.Sort.bitsLen L : Nat) : Int) ∧ S' = S := by
 subst eL
 have hb:=bitsLen_small L hL
 have hp:IntKind.u64.wrap (1*2 ^ ((Go.Sort.bitsLen L:Nat):Int).toNat)=((1 <<< Go.Sort.bitsLen L:Nat):Int):=by
  rw [Int.toNat_natCast,Nat.one_shiftLeft,Int.one_mul]
  have h1:(2:Nat) ^ Go.Sort.bitsLen L≤2 ^ 21:=Nat.pow_le_pow_right (by omega) hb
  have h2:((2:Int) ^ Go.Sort.bitsLen L)=((2 ^ Go.Sort.bitsLen L:Nat):Int):=by simp
  rw [h2]
  generalize 2 ^ Go.Sort.bitsLen L=M at *
  exact IntWalk.u64_in _ (by omega)
 generalize hK:Go.Sort.bitsLen L=K at *
 refine ACall.enter (rs:=[.tmp 2]) 7 [(0,.int .i64 L)] Try.func179 rfl rfl (Nat.le_of_ble_eq_true rfl) rfl ⟨rfl,trivial⟩ ?_
 refine k_a (k_e rfl (k_a (k_m rfl ?_)))
 refine rC (Calm.conv rfl (by first | exact conv_intW Try.underlying3 Try.underlying139 (IntWalk.u64_in _ (by omega)) | exact conv_int Try.underlying3 Try.underlying139)) ?_
 refine ARun.call (lit_lt rfl) go_122 rfl ((hK ▸ so_Len L (by omega) S)) ?_
 rintro _ S1 ⟨rfl,h1⟩
 rw [h1];clear h1 S1
 refine rC (Calm.as (congrArg (Value.int .u64) hp) (Calm.bin rfl rfl (bin_shl (by omega) (by show ((K:Nat):Int)≤64;omega)))) ?_
 refine k_e rfl ?_
 refine k_u [(0,_),(2,_)] ?_
 refine AWP.ret ?_
 refine ⟨_,S,⟨_,_,rfl,rfl,rfl⟩,less_,?_⟩
 exact ⟨rfl,rfl⟩
theorem xor_nat64 (a b : Nat) (ha : a < 18446744073709551616) (hb : b < 18446744073709551616) : bits .xor .u64 (a : Int) (b : Int) = ((a ^^^ b : Nat) : Int) := by
 have h:a ^^^ b<2 ^ 64:=Nat.xor_lt_two_pow (by omega) (by omega)
 show IntKind.u64.wrap (((BitVec.ofInt 64 (a:Int)) ^^^ (BitVec.ofInt 64 (b:Int))).toNat:Int)=_
 rw [BitVec.ofInt_natCast,BitVec.ofInt_natCast,BitVec.toNat_xor,BitVec.toNat_ofNat,BitVec.toNat_ofNat,Nat.mod_eq_of_lt (by omega),Nat.mod_eq_of_lt (by omega)]
 exact IntWalk.u64_in _ (by omega)
theorem wrap_u64 (n : Nat) : IntKind.u64.wrap (n : Int) = ((n % 18446744073709551616 : Nat) : Int) := by
 simp [IntKind.wrap,IntKind.bits,IntKind.signed]
def xorB (x : Nat) : Blk := ⟨188, [.int .u64 (x : Int)], 1⟩
set_option maxHeartbeats 1000000 in
theorem so_next (c : Nat) (r : UInt64) (S : Mem) (hc : Fresh S c) :
  ACall Try.prog 180 #[.pointer (some ⟨c,0,none⟩)] (S.set c (xorB r.toNat)) fun v S'=>v = .int .u64 (((Go.Sort.xorNext r).toNat:Nat):Int)∧S'=S.set c (xorB (Go.Sort.xorNext r).toNat):=by
 have hx:r.toNat<18446744073709551616:=r.toNat_lt
 rw [Go.Sort.xorNext_toNat]
 unfold Go.Sort.xorNextN
 generalize r.toNat=x at *
 have p:(18446744073709551616:Nat)=2 ^ 64:=by decide
 obtain ⟨y,hy⟩ : ∃ y,y=x ^^^ (x*8192 % 18446744073709551616):=⟨_,rfl⟩
 have y1:y<18446744073709551616:=by rw [hy,p];exact Nat.xor_lt_two_pow (by omega) (by omega)
 obtain ⟨z,hz⟩ : ∃ z,z=y ^^^ (y / 128):=⟨_,rfl⟩
 have z1:z<18446744073709551616:=by rw [hz,p];exact Nat.xor_lt_two_pow (by omega) (by omega)
 have e1:∀ (t:TypeId) (a b:Operand),Bin Try.prog .shl t a b (.int .u64 (x:Int)) (.int .u64 13) (.int .u64 ((x*8192 % 18446744073709551616:Nat):Int)):=fun t a b=>by
  have h:=bin_shl (P:=Try.prog) (t:=t) (x:=a) (y:=b) (k:=.u64) (k':=.u64) (a:=(x:Int)) (b:=13) (by decide) (by decide)
  have e:IntKind.u64.wrap ((x:Int)*2 ^ (13:Int).toNat)=((x*8192 % 18446744073709551616:Nat):Int):=wrap_u64 (x*8192)
  rw [e] at h;exact h
 have e2:∀ (t:TypeId) (a b:Operand),Bin Try.prog .shr t a b (.int .u64 (y:Int)) (.int .u64 7) (.int .u64 ((y / 128:Nat):Int)):=fun t a b =>
  bin_shr (P:=Try.prog) (t:=t) (x:=a) (y:=b) (k:=.u64) (k':=.u64) (a:=(y:Int)) (b:=7) (by decide) (by decide)
 have e3:∀ (t:TypeId) (a b:Operand),Bin Try.prog .shl t a b (.int .u64 (z:Int)) (.int .u64 17) (.int .u64 ((z*131072 % 18446744073709551616:Nat):Int)):=fun t a b=>by
  have h:=bin_shl (P:=Try.prog) (t:=t) (x:=a) (y:=b) (k:=.u64) (k':=.u64) (a:=(z:Int)) (b:=17) (by decide) (by decide)
  have e:IntKind.u64.wrap ((z:Int)*2 ^ (17:Int).toNat)=((z*131072 % 18446744073709551616:Nat):Int):=wrap_u64 (z*131072)
  rw [e] at h;exact h
 have x1:=xor_nat64 x (x*8192 % 18446744073709551616) hx (Nat.mod_lt _ (by decide))
 have x2:=xor_nat64 y (y / 128) y1 (by omega)
 have x3:=xor_nat64 z (z*131072 % 18446744073709551616) z1 (Nat.mod_lt _ (by decide))
 rw [← hy] at x1
 rw [← hz] at x2
 simp only [← hy,← hz]
 clear hy hz
 unfold xorB
 refine ACall.enter (rs:=[.tmp 2]) 33 [(0,.pointer (some ⟨c,0,none⟩))] Try.func180 rfl rfl (Nat.le_of_ble_eq_true rfl) rfl ⟨rfl,trivial⟩ ?_
 refine k_a (k_e rfl (AWP.seq ?_))
 refine AWP.draw [(0,true),(1,true),(2,true),(3,true),(4,true),(5,true),(6,true),(7,true),(8,true),(9,false)] [9] mixed (by kernel_rfl) ?_
 refine dP (hc:=fun _=>Calm.move rfl) (h:=?_)
 refine dP (hc:=fun _=>Calm.nilCheck rfl) (h:=?_)
 refine dC (hc:=ld_ ty_plain_188 rfl) (h:=?_)
 refine dP (hc:=fun _=>Calm.move rfl) (h:=?_)
 refine dP (hc:=fun _=>Calm.nilCheck rfl) (h:=?_)
 refine dC (hc:=ld_ ty_plain_188 rfl) (h:=?_)
 refine dP (hc:=fun _=>Calm.bin rfl rfl (e1 _ _ _)) (h:=?_)
 refine dP (hc:=fun _=>Calm.bin rfl rfl (bin_xorE x1)) (h:=?_)
 refine dP (hc:=fun _=>Calm.nilCheck rfl) (h:=?_)
 refine draw_only rfl ?_
 refine ARun.store1 rfl rfl ty_size_188 rfl own_ lens_ rfl ?_
 try simp only [k_ms,k_sz,k_ss,k_za,Nat.reduceAdd]
 refine arun_nil ⟨fun h=>absurd h (by decide),?_⟩
 refine draw_nil ?_
 refine athen_n ?_
 refine k_u [(0,_),(2,_)] ?_
 refine AWP.seq ?_
 refine AWP.draw [(0,true),(1,true),(2,true),(3,true),(4,true),(5,true),(6,true),(7,true),(8,true),(9,false)] [9] mixed (by kernel_rfl) ?_
 refine dP (hc:=fun _=>Calm.move rfl) (h:=?_)
 refine dP (hc:=fun _=>Calm.nilCheck rfl) (h:=?_)
 refine dC (hc:=ld_ ty_plain_188 rfl) (h:=?_)
 refine dP (hc:=fun _=>Calm.move rfl) (h:=?_)
 refine dP (hc:=fun _=>Calm.nilCheck rfl) (h:=?_)
 refine dC (hc:=ld_ ty_plain_188 rfl) (h:=?_)
 refine dP (hc:=fun _=>Calm.bin rfl rfl (e2 _ _ _)) (h:=?_)
 refine dP (hc:=fun _=>Calm.bin rfl rfl (bin_xorE x2)) (h:=?_)
 refine dP (hc:=fun _=>Calm.nilCheck rfl) (h:=?_)
 refine draw_only rfl ?_
 refine ARun.store1 rfl rfl ty_size_188 rfl own_ lens_ rfl ?_
 try simp only [k_ms,k_sz,k_ss,k_za,Nat.reduceAdd]
 refine arun_nil ⟨fun h=>absurd h (by decide),?_⟩
 refine draw_nil ?_
 refine athen_n ?_
 refine k_u [(0,_),(2,_)] ?_
 refine AWP.seq ?_
 refine AWP.draw [(0,true),(1,true),(2,true),(3,true),(4,true),(5,true),(6,true),(7,true),(8,true),(9,false)] [9] mixed (by kernel_rfl) ?_
 refine dP (hc:=fun _=>Calm.move rfl) (h:=?_)
 refine dP (hc:=fun _=>Calm.nilCheck rfl) (h:=?_)
 refine dC (hc:=ld_ ty_plain_188 rfl) (h:=?_)
 refine dP (hc:=fun _=>Calm.move rfl) (h:=?_)
 refine dP (hc:=fun _=>Calm.nilCheck rfl) (h:=?_)
 refine dC (hc:=ld_ ty_plain_188 rfl) (h:=?_)
 refine dP (hc:=fun _=>Calm.bin rfl rfl (e3 _ _ _)) (h:=?_)
 refine dP (hc:=fun _=>Calm.bin rfl rfl (bin_xorE x3)) (h:=?_)
 refine dP (hc:=fun _=>Calm.nilCheck rfl) (h:=?_)
 refine draw_only rfl ?_
 refine ARun.store1 rfl rfl ty_size_188 rfl own_ lens_ rfl ?_
 try simp only [k_ms,k_sz,k_ss,k_za,Nat.reduceAdd]
 refine arun_nil ⟨fun h=>absurd h (by decide),?_⟩
 refine draw_nil ?_
 refine athen_n ?_
 refine k_u [(0,_),(2,_)] ?_
 refine k_a (k_m rfl ?_)
 refine rC (Calm.nilCheck rfl) ?_
 refine rC (ld_ ty_plain_188 rfl) ?_
 refine k_e rfl ?_
 refine k_u [(0,_),(2,_)] ?_
 refine AWP.ret ?_
 refine ⟨_,_,⟨_,_,rfl,rfl,rfl⟩,Mem.Less.refl _,?_⟩
 exact ⟨rfl,rfl⟩
end Go.Proofs.Ytgidjbpgkeemiaa
namespace Go.Proofs.Ytgidjbpgkeemiaa
open Go.RowKit
open Mv
namespace Srt
open Go.Sort (swp order2 median medianAdjacent choosePivot breakStep breakPatterns scanSorted shiftDown shiftUp partialIns partialInsertionSort bitsLen xorNext Hint)
theorem set_over (S : Mem) {b c : Nat} (r r' x : Blk) (h : b ≠ c) : ((S.set b r).set c x).set b r' = (S.set b r').set c x := by
 rw [Mem.set_comm _ _ _ (Ne.symm h),Mem.set_set]
def hintI : Hint → Int
  | .unknown => 0
  | .increasing => 1
  | .decreasing => 2
section
variable {α : Type} [Inhabited α] (lt : α → α → Bool)
theorem ord2_lt {d : Array α} {a e k n x y k' : Nat} (h : (x, y, k') = order2 lt d a e k) (ha : a < n) (he : e < n) : x < n ∧ y < n ∧ k' ≤ k + 1 := by
 unfold order2 at h
 split at h <;> (simp only [Prod.mk.injEq] at h;omega)
theorem median_lt {d : Array α} {a e o k p k' lo hi : Nat} (h : (p, k') = median lt d a e o k) (ha : lo ≤ a ∧ a < hi) (he : lo ≤ e ∧ e < hi) (ho : lo ≤ o ∧ o < hi) : (lo ≤ p ∧ p < hi) ∧ k' ≤ k + 3 := by
 have hm:=Go.Sort.median_mem lt d a e o k
 rw [← h] at hm
 have hk:k'≤k+3:=by
  unfold median at h
  simp only [Prod.mk.injEq] at h
  rw [h.2]
  have h1:∀ x y z,(order2 lt d x y z).2.2≤z+1:=fun x y z=>by unfold order2;split <;> simp
  have:=h1 (order2 lt d a e k).1 (order2 lt d (order2 lt d a e k).2.1 o (order2 lt d a e k).2.2).1 (order2 lt d (order2 lt d a e k).2.1 o (order2 lt d a e k).2.2).2.2
  have:=h1 (order2 lt d a e k).2.1 o (order2 lt d a e k).2.2
  have:=h1 a e k
  omega
 refine ⟨?_,hk⟩
 simp only at hm
 omega
theorem medadj_lt {d : Array α} {a k p k' lo hi : Nat} (h : (p, k') = medianAdjacent lt d a k) (ha : lo < a) (he : a + 1 < hi) : (lo ≤ p ∧ p < hi) ∧ k' ≤ k + 3 :=
 median_lt lt (h.trans rfl) (by omega) (by omega) (by omega)
end
theorem piv_hint {k : Nat} (h0 : ¬ k = 0) (h1 : ¬ k = 12) : (if k = 0 then Hint.increasing else if k = 12 then Hint.decreasing else Hint.unknown) = .unknown := by rw [if_neg h0, if_neg h1]
theorem piv_val {i j h : Int} (e : i = j) : one [.int .i64 i, .int .i64 h] = .tuple #[.int .i64 j, .int .i64 h] := by rw [e]; rfl
theorem and_n64 (a b : Nat) (ha : a < 18446744073709551616) (hb : b < 18446744073709551616) : bits .and .u64 (a : Int) (b : Int) = ((a &&& b : Nat) : Int) := by
 have h:a &&& b<2 ^ 64:=Nat.and_lt_two_pow _ (by omega)
 show IntKind.u64.wrap (((BitVec.ofInt 64 (a:Int)) &&& (BitVec.ofInt 64 (b:Int))).toNat:Int)=_
 rw [BitVec.ofInt_natCast,BitVec.ofInt_natCast,BitVec.toNat_and,BitVec.toNat_ofNat,BitVec.toNat_ofNat,Nat.mod_eq_of_lt (by omega),Nat.mod_eq_of_lt (by omega)]
 exact IntWalk.u64_in _ (by omega)
theorem sub_u64 (m : Nat) (h0 : 1 ≤ m) (h1 : m < 18446744073709551616) : IntKind.u64.wrap ((m : Int) - 1) = ((m - 1 : Nat) : Int) := by
 rw [show ((m:Int)-1)=((m-1:Nat):Int) by omega];exact IntWalk.u64_in _ (by omega)
section
variable {α : Type} [Inhabited α]
/-- So many rounds of breaking patterns are left. -/
def bpR (a L mo ba : Nat) : Nat → UInt64 × Array α → UInt64 × Array α
  | 0, st => st
  | k + 1, st => bpR a L mo ba k (breakStep a L mo st (ba + (2 - k)))
theorem bpR_succ (a L mo ba k : Nat) (r : UInt64) (d : Array α) : bpR a L mo ba (k + 1) (r, d) = bpR a L mo ba k (xorNext r, swp d (ba + (2 - k)) (a + (if L ≤ (xorNext r).toNat &&& (mo - 1) then ((xorNext r).toNat &&& (mo - 1)) - L else (xorNext r).toNat &&& (mo - 1)))) := rfl
theorem bp_eq {d : Array α} {a L : Nat} (h8 : 8 ≤ L) : breakPatterns d a (a + L) = (bpR a L (1 <<< bitsLen L) (a + L / 4 * 2 - 1) 3 (UInt64.ofNat L, d)).2 := by
 unfold breakPatterns
 simp only [Nat.add_sub_cancel_left]
 rw [if_pos h8]
 rfl
end
theorem bp_mod (L : Nat) (h0 : 0 < L) (h : L ≤ 1048576) : 1 ≤ 1 <<< bitsLen L ∧ 1 <<< bitsLen L ≤ 2 * L := by
 rw [Nat.one_shiftLeft]
 exact ⟨Nat.one_le_two_pow,Go.Sort.two_pow_bitsLen_le h0⟩
section
variable {α : Type} [Inhabited α] (lt : α → α → Bool)
theorem pis_res {okP : α → Prop} {n a e s i : Nat} {d d1 : Array α} {M : Array α → Mem} {r : Value} {S' : Mem} (h3 : partialIns lt a e (s + 1) i d1 = partialInsertionSort lt d a e)
  (h:(scanSorted lt d1 e i=e∧r = .bool true∧S'=M d1)∨(¬ scanSorted lt d1 e i=e∧e-a<50∧r = .bool false∧S'=M d1)) (R:Rw okP n d1) :
  r = .bool (partialInsertionSort lt d a e).2∧S'=M (partialInsertionSort lt d a e).1∧Rw okP n (partialInsertionSort lt d a e).1:=by
 rw [← h3]
 unfold partialIns
 rcases h with ⟨h,rfl,rfl⟩ | ⟨h,h5,rfl,rfl⟩
 ·simp only [if_pos h];exact ⟨trivial,trivial,R⟩
 ·simp only [if_neg h,if_pos h5];exact ⟨trivial,trivial,R⟩
theorem pi_step {a e s i w : Nat} {d1 d2 d3 d4 : Array α} (hS : w + 1 = scanSorted lt d1 e i) (hne : ¬ w + 1 = e) (h50 : ¬ e - a < 50) (hd2 : d2 = swp d1 (w + 1) w) (hd3 : d3 = if w + 1 - a ≥ 2 then shiftDown lt w d2 else d2)
  (hd4:d4=if e-(w+1) ≥ 2 then shiftUp lt e (w+1+1) d3 else d3):partialIns lt a e s (w+1) d4=partialIns lt a e (s+1) i d1:=by
 rw [partialIns.eq_def lt a e (s+1) i d1]
 simp only [← hS,if_neg hne,if_neg h50,Nat.add_sub_cancel,← hd2,← hd3,← hd4]
end
/-! ### The recursion, stage by stage -/
section
open Go.Sort (pdq insertionSort heapSort reverseRange partition partitionEqual)
variable {α : Type} [Inhabited α] (lt : α → α → Bool)
def pdq3 (d3 : Array α) (a b l : Nat) (w1 w2 : Bool) (pv : Nat) : Array α :=
  if (decide (a > 0) && !lt d3[a - 1]! d3[pv]!) = true then
    (if a < (partitionEqual lt d3 a b pv).1 ∧ (partitionEqual lt d3 a b pv).1 ≤ b then pdq lt (partitionEqual lt d3 a b pv).2 (partitionEqual lt d3 a b pv).1 b l w1 w2 else (partitionEqual lt d3 a b pv).2)
  else
    (if a ≤ (partition lt d3 a b pv).1 ∧ (partition lt d3 a b pv).1 < b then
      (if (partition lt d3 a b pv).1 - a < b - (partition lt d3 a b pv).1 then
        pdq lt (pdq lt (partition lt d3 a b pv).2.2 a (partition lt d3 a b pv).1 l true true) ((partition lt d3 a b pv).1 + 1) b l (decide ((partition lt d3 a b pv).1 - a ≥ (b - a) / 8)) (partition lt d3 a b pv).2.1
      else
        pdq lt (pdq lt (partition lt d3 a b pv).2.2 ((partition lt d3 a b pv).1 + 1) b l true true) a (partition lt d3 a b pv).1 l (decide (b - (partition lt d3 a b pv).1 ≥ (b - a) / 8)) (partition lt d3 a b pv).2.1)
    else (partition lt d3 a b pv).2.2)
def pdq2 (d2 : Array α) (a b l : Nat) (w1 w2 : Bool) (pv : Nat) (hi : Hint) : Array α :=
  if (w1 && w2 && decide (hi = .increasing)) = true then (if (partialInsertionSort lt d2 a b).2 = true then (partialInsertionSort lt d2 a b).1 else pdq3 lt (partialInsertionSort lt d2 a b).1 a b l w1 w2 pv)
  else pdq3 lt d2 a b l w1 w2 pv
def pdq1 (d1 : Array α) (a b l : Nat) (w1 w2 : Bool) : Array α :=
  if (choosePivot lt d1 a b).2 = .decreasing then pdq2 lt (reverseRange d1 a b) a b l w1 w2 (b - 1 - ((choosePivot lt d1 a b).1 - a)) .increasing
  else pdq2 lt d1 a b l w1 w2 (choosePivot lt d1 a b).1 (choosePivot lt d1 a b).2
theorem pdq_ins {d : Array α} {a b l : Nat} {w1 w2 : Bool} (h : b - a ≤ 12) : pdq lt d a b l w1 w2 = insertionSort lt d a b := by rw [pdq, if_pos h]
theorem pdq_heap {d : Array α} {a b l : Nat} {w1 w2 : Bool} (h : ¬ b - a ≤ 12) (h0 : l = 0) : pdq lt d a b l w1 w2 = heapSort lt d a b := by rw [pdq, if_neg h, if_pos h0]
theorem pdq_1 {d : Array α} {a b l : Nat} {w1 w2 : Bool} (h : ¬ b - a ≤ 12) (h0 : ¬ l = 0) : pdq lt d a b l w1 w2 = pdq1 lt (if !w1 then breakPatterns d a b else d) a b (if !w1 then l - 1 else l) w1 w2 := by
 rw [pdq,if_neg h,if_neg h0]
 dsimp only
 unfold pdq1 pdq2 pdq3
 generalize (if (!w1)=true then breakPatterns d a b else d)=d1
 generalize (if (!w1)=true then l-1 else l)=l2
 generalize choosePivot lt d1 a b=c
 obtain ⟨p0,hn⟩:=c
 dsimp only
 by_cases hd:hn = .decreasing
 ·subst hd
  simp only [if_true]
  generalize partialInsertionSort lt (reverseRange d1 a b) a b=q
  obtain ⟨d3,pb⟩:=q
  cases w1 <;> cases w2 <;> cases pb <;> simp
 ·simp only [if_neg hd]
  by_cases hx:(w1 && w2 && decide (hn=Hint.increasing))=true
  ·simp only [if_pos hx]
   generalize partialInsertionSort lt d1 a b=q
   obtain ⟨d3,pb⟩:=q
   cases pb <;> simp
  ·simp only [if_neg hx];simp
end
theorem hint_ne {h : Hint} (hd : ¬ h = .decreasing) : hintI h < 2 ∧ 0 ≤ hintI h := by cases h <;> simp_all [hintI]
theorem hint_1 (h : Hint) : decide (hintI h = 1) = decide (h = .increasing) := by cases h <;> rfl
theorem wbv_ {p q : Prop} [Decidable p] [Decidable q] (h : p ↔ q) : some (Value.bool (decide p)) = some (Value.bool (decide q)) := by
 congr 2;rw [decide_eq_decide];exact h
end Srt
end Go.Proofs.Ytgidjbpgkeemiaa
namespace Go.Proofs.Ytgidjbpgkeemiaa
open Go.RowKit
open Mv Num Loser Srt
set_option maxRecDepth 4000
/-- What a place's number so far behind is ranked, and one. -/
def bhd (r : List Nat) (k a : Nat) : Nat := Ord.beh r.length (fun j => r.getD j 0) k a
def cfD (r : List Nat) (k a b : Nat) : Int := orL [cmpZ (r.getD a 0 : Nat) (r.getD b 0 : Nat), cmpZ (bhd r k a : Nat) (bhd r k b : Nat)]
end Go.Proofs.Ytgidjbpgkeemiaa
namespace Go.Proofs.Ytgidjbpgkeemiaa
open Go.RowKit
open Mv Num Loser Srt
set_option maxRecDepth 4000
def stepD (r : List Nat) (k a b : Nat) : Bool := decide (cfD r k a b < 0)
/-- The new ranks, place by place. -/
def RkD (r e : List Nat) (k i : Nat) (o : List Nat) : Prop := o.length = e.length ∧ ∀ j, j < i → o.getD (e.getD j 0) 0 = Ord.ups (stepD r k) e j
theorem RkD.step {r e o : List Nat} {k i n y : Nat} (h : RkD r e k i o) (hp : e.Perm (List.range n)) (hi : i < e.length) (hy : y = Ord.ups (stepD r k) e i) : RkD r e k (i + 1) (o.set (e.getD i 0) y) := by
 have hel:e.length=n:=by rw [hp.length_eq,List.length_range]
 have hlt:∀ q,q<e.length→e.getD q 0<n:=fun q hq=>by rw [getD_get e q 0 hq];exact List.mem_range.1 (hp.mem_iff.1 (List.getElem_mem hq))
 refine ⟨by rw [List.length_set];exact h.1,fun j hj=>?_⟩
 have hl:=h.1
 rcases Nat.lt_or_ge j i with h' | h'
 ·have hne:e.getD i 0≠e.getD j 0:=fun h2=>by
   have hnd:e.Nodup:=hp.nodup_iff.2 List.nodup_range
   rw [getD_get e i 0 hi,getD_get e j 0 (by omega)] at h2
   exact absurd h2.symm (List.pairwise_iff_getElem.1 hnd j i (by omega) hi h')
  rw [List.getD_eq_getElem?_getD,List.getElem?_set_ne hne,← List.getD_eq_getElem?_getD,h.2 j h']
 ·obtain rfl:j=i:=by omega
  rw [List.getD_eq_getElem?_getD,List.getElem?_set_self (by have:=hlt j hi;omega),hy];rfl
end Go.Proofs.Ytgidjbpgkeemiaa
namespace Go.Proofs.Ytgidjbpgkeemiaa
open Go.RowKit
open Mv Num Loser Srt
set_option maxRecDepth 4000
/-- A new slice over what was there. -/
def OwnL {α : Type} (g : α → Value) (e : TypeId) (l : List α) (S : Mem) (r : Value) (S' : Mem) : Prop := ∃ M, S.Less M ∧ NewL g e l M r S'
theorem OwnL.rd {α : Type} {g : α → Value} {e : TypeId} {l : List α} {S : Mem} {r : Value} {S' : Mem} (h : OwnL g e l S r S') (hm : l.length ≤ 9223372036854775807) : RdL g l S r S' := by
 obtain ⟨M,h1,h2⟩:=h
 obtain ⟨h3,h4⟩:=h2.rd hm
 exact ⟨h1.trans h3,h4⟩
end Go.Proofs.Ytgidjbpgkeemiaa
namespace Go.Proofs.Ytgidjbpgkeemiaa
open Go.RowKit
open Mv Num Loser Srt
/-- How many are less. -/
def cntL (D : List Nat) (x : Nat) : Nat := D.countP (fun y => decide (y < x))
theorem cnt_le (D : List Nat) (x : Nat) : cntL D x ≤ D.length := List.countP_le_length
/-- Compact at work: so many are written, so many are read. -/
def CpI (L A : List Nat) (k q : Nat) : Prop := A.length = L.length ∧ 1 ≤ k ∧ k < q ∧ q ≤ L.length ∧ (∀ p, k ≤ p → A.getD p 0 = L.getD p 0) ∧ (∀ i, i + 1 < k → A.getD i 0 < A.getD (i + 1) 0) ∧ A.getD (k - 1) 0 = L.getD (q - 1) 0 ∧ ∀ p, p < q → ∃ i, i < k ∧ A.getD i 0 = L.getD p 0
theorem CpI.start {L : List Nat} {k : Nat} (h1 : 1 ≤ k) (hk : k < L.length) (hs : ∀ i, i + 1 < k → L.getD i 0 < L.getD (i + 1) 0) (he : L.getD k 0 = L.getD (k - 1) 0) : CpI L L k (k + 1) :=
 ⟨rfl,h1,Nat.lt_succ_self _,hk,fun _ _=>rfl,hs,by rw [Nat.add_sub_cancel];exact he.symm,fun p hp=>by
  rcases Nat.lt_or_ge p k with h | h
  ·exact ⟨p,h,rfl⟩
  ·obtain rfl:p=k:=by omega
   exact ⟨p-1,by omega,he.symm⟩⟩
theorem CpI.same {L A : List Nat} {k q : Nat} (h : CpI L A k q) (hq : q < L.length) (he : L.getD q 0 = L.getD (q - 1) 0) : CpI L A k (q + 1) := by
 obtain ⟨h1,h2,h3,h4,h5,h6,h7,h8⟩:=h
 refine ⟨h1,h2,by omega,hq,h5,h6,by rw [Nat.add_sub_cancel,h7,he],fun p hp=>?_⟩
 rcases Nat.lt_or_ge p q with h | h
 ·exact h8 p h
 ·obtain rfl:p=q:=by omega
  exact ⟨k-1,by omega,by rw [h7,he]⟩
theorem up_pairwise (D : List Nat) (h : ∀ i, i + 1 < D.length → D.getD i 0 < D.getD (i + 1) 0) : D.Pairwise (· < ·) := by
 refine List.pairwise_iff_getElem.2 fun i j hi hj hij=>?_
 have:=Ord.chain_lt (R:=fun a b=>a<b) (fun a b c=>Nat.lt_trans) D (fun k hk=>by have:=h k hk;rw [getD_get _ _ _ (by omega),getD_get _ _ _ hk] at this;exact this) i j hj hij
 exact this
theorem CpI.done {L A : List Nat} {k : Nat} (h : CpI L A k L.length) : (A.take k).Pairwise (· < ·) ∧ (∀ x ∈ L, x ∈ A.take k) ∧ (A.take k).length = k ∧ k < L.length := by
 obtain ⟨h1,h2,h3,h4,h5,h6,h7,h8⟩:=h
 have hl:(A.take k).length=k:=by rw [List.length_take];omega
 have hg:∀ i,i<k→(A.take k).getD i 0=A.getD i 0:=fun i hi=>by rw [List.getD_eq_getElem?_getD,List.getElem?_take_of_lt hi,← List.getD_eq_getElem?_getD]
 refine ⟨up_pairwise _ fun i hi=>by rw [hl] at hi;rw [hg _ (by omega),hg _ hi];exact h6 i hi,fun x hx=>?_,hl,h3⟩
 obtain ⟨p,hp,rfl⟩:=List.getElem_of_mem hx
 obtain ⟨i,hi,e⟩:=h8 p hp
 rw [getD_get L p 0 hp,← hg i hi,getD_get _ _ _ (by omega)] at e
 rw [← e];exact List.getElem_mem _
end Go.Proofs.Ytgidjbpgkeemiaa
namespace Go.Proofs.Ytgidjbpgkeemiaa
open Go.RowKit
open Mv Num Loser Srt
set_option maxRecDepth 4000
/-- The byte at a place, as a number. -/
def byT (s : ByteArray) (i : Nat) : Nat := (nb (at8 s.data.toList i)).toNat
theorem byT_nb (s : ByteArray) (i : Nat) : nb (at8 s.data.toList i) = (byT s i : Int) := by unfold byT; rw [Int.toNat_of_nonneg]; unfold nb; omega
def numsT (s : ByteArray) : List Nat := (List.range s.size).map (byT s)
theorem numsT_length (s : ByteArray) : (numsT s).length = s.size := by simp [numsT]
set_option maxHeartbeats 1000000 in
theorem rr_Numbers (s : ByteArray) (S : Mem) (hs : s.size ≤ 1048576) :
  ACall Try.prog 88 #[.string s] S (RdL gU (numsT s) S):=by
 refine ACall.enter (rs:=[.tmp 2]) 19 [(0,.string s)] Try.func88 rfl rfl (Nat.le_of_ble_eq_true rfl) rfl ⟨rfl,trivial⟩ ?_
 refine k_a (k_e rfl (k_a (k_e rfl (AWP.seq ?_))))
 refine k_a (k_e rfl ?_)
 refine AWP.block ?_
 refine AWP.loop (X:=Nat × Option (Nat × Nat)) (fun x=>[(0,.string s),(3,outV x.2 x.1),(4,.int .i64 x.1)]) (fun x=>outM S x.2 41 (((List.range x.1).map (byT s)).map gU)) (fun x=>x.1≤s.size∧OkO S x.2 x.1) (fun x=>s.size-x.1) ((0,none)) ⟨rfl,rfl,rfl,trivial⟩ (Mem.Less.refl _) (⟨Nat.zero_le _,okO_nil _⟩) ?_
 rintro ⟨i,o⟩ ⟨q1,q2⟩
 (try dsimp only at *)
 by_cases hi:i<s.size
 ·refine AWP.seq (k_a (k_m rfl (k_m rfl ?_)))
  refine rC (Calm.lenStr (strT_spec ty_str_9) rfl) ?_
  refine rC (Calm.bin rfl rfl b_lss) ?_
  refine k_n ?_
  refine k_u [(0,_),(3,_),(4,_),(8,_)] ?_
  refine k_T rfl ?_
  have hlen:(((List.range i).map (byT s)).map gU).length=i:=by simp
  refine k_k (AWP.seq ?_)
  refine AWP.block ?_
  refine AWP.region ?_
  refine k_m rfl (k_m rfl (k_m rfl ?_))
  refine rC ((by first | exact Calm.indexStrN (strT_spec ty_str_9) rfl rfl (by omega) | exact Calm.indexStr (strT_spec ty_str_9) rfl rfl (by omega) (by omega))) ?_
  refine rC (Calm.conv rfl (by first | exact conv_intW Try.underlying5 Try.underlying41 (IntWalk.u64_in _ (by omega)) | exact conv_intW Try.underlying5 Try.underlying41 (wrap_nb_u64 _) | exact conv_int Try.underlying5 Try.underlying41)) ?_
  refine ARun.build1s (lit_lt rfl) ty_sl_22 rfl rfl ?_
  intro b16 f16
  have g16:=f16
  repeat ((with_reducible replace g16:=fresh_set g16);obtain ⟨g16,_⟩:=g16)
  refine ARun.appendO (lit_lt rfl) ty_sl_22 rfl hlen (appO_of q2 hlen f16) rfl (news:=[_]) rds_ rfl (by omega) (by simp [Value.oneCell']) (by omega) (by omega) ?_
  intro b17 c17 ho2
  have hpush:((List.range i).map (byT s)).map gU ++ [gU (byT s i)]=((List.range (i+1)).map (byT s)).map gU:=by rw [List.range_succ];simp
  refine k_s rfl ?_
  refine arun_nil ?_
  refine ain_n ?_
  refine athen_n ?_
  refine k_u [(0,_),(3,_),(4,_),(8,_)] ?_
  refine AWP.region ?_
  refine k_m rfl ?_
  refine rC (Calm.bin rfl rfl b_add_i64) ?_
  refine k_e rfl ?_
  refine ⟨(i+1,some (b17,c17)),?_,?_,?_,?_⟩
  all_goals (try dsimp only)
  ·exact ⟨sq_,rfl,sq_,trivial⟩
  ·rw [← hpush,byT_nb];exact Mem.Less.refl _
  ·exact ⟨hi,ho2⟩
  ·omega
 ·obtain rfl:i=s.size:=by omega
  refine AWP.seq (k_a (k_m rfl (k_m rfl ?_)))
  refine rC (Calm.lenStr (strT_spec ty_str_9) rfl) ?_
  refine rC (Calm.bin rfl rfl b_lss) ?_
  refine k_n ?_
  refine k_u [(0,_),(3,_),(4,_),(8,_)] ?_
  refine k_F rfl ?_
  refine AWP.exit ?_
  refine athen_exit ?_
  refine athen_exit ?_
  refine ain_same ?_
  refine athen_n ?_
  refine k_a (k_m rfl (k_e rfl ?_))
  refine k_u [(0,_),(3,_),(4,_),(8,_),(2,_)] ?_
  refine AWP.ret ?_
  refine ⟨_,_,⟨_,_,rfl,rfl,rfl⟩,Mem.Less.refl _,?_⟩
  exact RdL.of_out q2 (numsT_length s) (by omega)
end Go.Proofs.Ytgidjbpgkeemiaa
namespace Go.Proofs.Ytgidjbpgkeemiaa
open Go.RowKit
open Mv Srt
open Go.Sort (swp insInner insOuter insertionSort siftDown heapBuild heapPop heapSort scanUp scanDown partLoop partition partEqLoop partitionEqual scanSorted shiftDown shiftUp partialIns partialInsertionSort order2 median medianAdjacent choosePivot reverseLoop reverseRange breakStep breakPatterns pdq bitsLen xorNext Hint)
set_option maxRecDepth 4000
def encB (x : Nat) : Value := .int .u8 (x : Int)
end Go.Proofs.Ytgidjbpgkeemiaa
namespace Go.Proofs.Ytgidjbpgkeemiaa
open Num Loser
namespace Ord
/-! ### Counting -/
theorem countP_lt_range (m : Nat) : ∀ k, m ≤ k → (List.range k).countP (fun x => decide (x < m)) = m
 | 0,h=>by
  obtain rfl:m=0:=by omega
  rfl
 | k+1,h=>by
  rw [List.range_succ,List.countP_append]
  rcases Nat.lt_or_ge k m with h' | h'
  ·obtain rfl:m=k+1:=by omega
   have:(List.range k).countP (fun x=>decide (x<k+1))=(List.range k).length:=List.countP_eq_length.2 fun x hx=>by have:=List.mem_range.1 hx;simp;omega
   rw [this,List.length_range];simp
  ·rw [countP_lt_range m k h']
   simp;omega
theorem countP_less (p q : Nat → Bool) (x : Nat) (hx : p x = false) (hq : q x = true) : ∀ l : List Nat, (∀ y ∈ l, p y = true → q y = true) → x ∈ l → l.countP p < l.countP q
 | [],_,h=>by cases h
 | y :: l,h,hm=>by
  have hle:l.countP p≤l.countP q:=List.countP_mono_left fun z hz=>h z (List.mem_cons_of_mem _ hz)
  rw [List.countP_cons,List.countP_cons]
  rcases List.mem_cons.1 hm with rfl | hm
  ·rw [if_neg (by rw [hx];exact Bool.false_ne_true),if_pos hq];omega
  ·have:=countP_less p q x hx hq l (fun z hz=>h z (List.mem_cons_of_mem _ hz)) hm
   have h0:=h y (List.mem_cons_self ..)
   cases hp:p y with
   | true=>rw [h0 hp];simp;omega
   | false=>cases q y <;> simp <;> omega
theorem range_inj_perm (n : Nat) (f : Nat → Nat) (hf : ∀ a, a < n → f a < n) (hi : ∀ a b, a < n → b < n → f a = f b → a = b) : ((List.range n).map f).Perm (List.range n) := by
 refine pig n _ ?_ (fun y hy=>?_) (by simp)
 ·refine List.pairwise_iff_getElem.2 fun i j h1 h2 hij e=>?_
  simp only [List.length_map,List.length_range] at h1 h2
  simp only [List.getElem_map,List.getElem_range] at e
  have:=hi i j h1 h2 e;omega
 ·obtain ⟨a,ha,rfl⟩:=List.mem_map.1 hy
  exact hf a (List.mem_range.1 ha)
/-! ### Rows: the empty end's is 0 -/
theorem sl_total' (l : List Nat) (a b : Nat) (ha : a ≤ l.length) (hb : b ≤ l.length) (h1 : sl l a b = false) (h2 : sl l b a = false) : a = b := by
 have h:=congrArg List.length (lessB_total _ _ h1 h2)
 simp only [List.length_drop] at h;omega
structure IsRow (s : List Nat) (r : Nat → Nat) : Prop where
  le : ∀ a, a ≤ s.length → r a ≤ s.length
  lt : ∀ a b, a ≤ s.length → b ≤ s.length → (r a < r b ↔ sl s a b = true)
theorem IsRow.inj {s : List Nat} {r : Nat → Nat} (h : IsRow s r) {a b : Nat} (ha : a ≤ s.length) (hb : b ≤ s.length) (e : r a = r b) : a = b := by
 refine sl_total' s a b ha hb ?_ ?_
 ·cases hc:sl s a b with
  | false=>rfl
  | true=>have:=(h.lt a b ha hb).2 hc;omega
 ·cases hc:sl s b a with
  | false=>rfl
  | true=>have:=(h.lt b a hb ha).2 hc;omega
theorem IsRow.one {s : List Nat} {r : Nat → Nat} (h : IsRow s r) (a : Nat) (ha : a ≤ s.length) : r a = (List.range (s.length + 1)).countP (fun b => sl s b a) := by
 have hp:=range_inj_perm (s.length+1) r (fun a ha=>by have:=h.le a (by omega);omega) (fun a b ha hb e=>h.inj (by omega) (by omega) e)
 have h1:=hp.countP_eq (fun x=>decide (x<r a))
 rw [countP_lt_range (r a) (s.length+1) (by have:=h.le a ha;omega),List.countP_map] at h1
 rw [← h1]
 refine List.countP_congr fun b hb=>?_
 have hb':=List.mem_range.1 hb
 rw [← h.lt b a (by omega) ha]
 simp
theorem IsRow.zero {s : List Nat} {r : Nat → Nat} (h : IsRow s r) : r s.length = 0 := by
 rw [h.one _ (Nat.le_refl _)]
 refine List.countP_eq_zero.2 fun b _=>?_
 rw [sl_no s b _ (Nat.le_refl _)];exact Bool.false_ne_true
/-- The rows of ends in order. -/
def rowE (e : List Nat) (n a : Nat) : Nat := if a < n then e.idxOf a + 1 else 0
theorem isRow_sorted {s e : List Nat} (h : SortedE s e) : IsRow s (rowE e s.length) := by
 have hl:=h.len
 have hm:∀ a,a<s.length→a ∈ e:=fun a ha=>h.1.mem_iff.2 (List.mem_range.2 ha)
 refine ⟨fun a ha=>?_,fun a b ha hb=>?_⟩
 ·unfold rowE;split
  ·rename_i h1;have:=List.idxOf_lt_length_of_mem (hm a h1);omega
  ·omega
 ·unfold rowE
  by_cases h1:b<s.length
  ·rw [if_pos h1]
   by_cases h2:a<s.length
   ·rw [if_pos h2]
    have i1:=List.idxOf_lt_length_of_mem (hm a h2)
    have i2:=List.idxOf_lt_length_of_mem (hm b h1)
    have e1:e[e.idxOf a]=a:=List.getElem_idxOf i1
    have e2:e[e.idxOf b]=b:=List.getElem_idxOf i2
    constructor
    ·intro hlt
     have:=List.pairwise_iff_getElem.1 h.2 _ _ i1 i2 (by omega)
     rw [e1,e2] at this;exact this
    ·intro hs
     rcases Nat.lt_trichotomy (e.idxOf a) (e.idxOf b) with h3 | h3 | h3
     ·omega
     ·have:a=b:=by rw [← e1,← e2];simp only [h3]
      subst this;rw [sl_irrefl] at hs;cases hs
     ·have:=List.pairwise_iff_getElem.1 h.2 _ _ i2 i1 h3
      rw [e1,e2] at this
      rw [sl_asymm _ _ _ this] at hs;cases hs
   ·rw [if_neg h2,sl_end s a b (by omega)]
    simp [h1]
  ·rw [if_neg h1,sl_no s a b (by omega)]
   constructor
   ·intro h;omega
   ·intro h;cases h
/-! ### The column, and the way back -/
/-- The place in the column that a row has. -/
def atR (p r : Nat) : Nat := if p < r then r - 1 else r
/-- What is less in a column. -/
def ltC (c : List Nat) (j i : Nat) : Bool := decide (c.getD j 0 < c.getD i 0) || (decide (c.getD j 0 = c.getD i 0) && decide (j < i))
/-- The row of the end that begins with the byte at a place. -/
def toR (c : List Nat) (i : Nat) : Nat := 1 + (List.range c.length).countP (fun j => ltC c j i)
def walkT (c : List Nat) (p : Nat) : Nat → Nat → List Nat → Option (List Nat)
  | 0, r, acc => if r = p then some acc else none
  | k + 1, r, acc => if r = p then none else walkT c p k (toR c (atR p r)) (c.getD (atR p r) 0 :: acc)
theorem ltC_irrefl (c : List Nat) (i : Nat) : ltC c i i = false := by simp [ltC]
theorem ltC_trans (c : List Nat) (i j k : Nat) (h1 : ltC c i j = true) (h2 : ltC c j k = true) : ltC c i k = true := by
 simp only [ltC,Bool.or_eq_true,decide_eq_true_eq,Bool.and_eq_true] at *;omega
theorem ltC_total (c : List Nat) (i j : Nat) (h1 : ltC c i j = false) (h2 : ltC c j i = false) : i = j := by
 simp only [ltC,Bool.or_eq_false_iff,decide_eq_false_iff_not,Bool.and_eq_false_iff] at *;omega
theorem toR_lt (c : List Nat) (i j : Nat) (hi : i < c.length) (hj : j < c.length) : toR c i < toR c j ↔ ltC c i j = true := by
 have up:∀ i j,i<c.length→ltC c i j=true→toR c i<toR c j:=fun i j hi h=>by
  unfold toR
  have:=countP_less (fun b=>ltC c b i) (fun b=>ltC c b j) i (ltC_irrefl c i) h (List.range c.length) (fun b _ hb=>ltC_trans c b i j hb h) (List.mem_range.2 hi)
  omega
 refine ⟨fun h=>?_,up i j hi⟩
 cases hc:ltC c i j with
 | true=>rfl
 | false =>
  cases hd:ltC c j i with
  | true=>have:=up j i hj hd;omega
  | false=>rw [ltC_total c i j hc hd] at h;omega
theorem toR_le (c : List Nat) (i : Nat) (hi : i < c.length) : toR c i ≤ c.length := by
 unfold toR
 have:=countP_less (fun b=>ltC c b i) (fun _=>true) i (ltC_irrefl c i) rfl (List.range c.length) (fun _ _ _=>rfl) (List.mem_range.2 hi)
 simp only [List.countP_true,List.length_range] at this
 omega
theorem toR_pos (c : List Nat) (i : Nat) : 1 ≤ toR c i := by unfold toR; omega
theorem atR_lt {n p r : Nat} (hr : r ≤ n) (hp : p ≤ n) (hne : r ≠ p) : atR p r < n := by unfold atR; split <;> omega
theorem atR_mono {p a b : Nat} (ha : a ≠ p) (hb : b ≠ p) : atR p a < atR p b ↔ a < b := by unfold atR; split <;> split <;> omega
theorem atR_inj {p a b : Nat} (ha : a ≠ p) (hb : b ≠ p) (e : atR p a = atR p b) : a = b := by unfold atR at e; split at e <;> split at e <;> omega
/-- c is the column of s, p its primary: by rows. -/
structure ColR (s c : List Nat) (p : Nat) (r : Nat → Nat) : Prop where
  row : IsRow s r
  len : c.length = s.length
  pos : 0 < s.length
  prim : r 0 = p
  byte : ∀ a, a < s.length → c.getD (atR p (r (a + 1))) 0 = s.getD a 0
theorem ColR.ne {s c : List Nat} {p : Nat} {r : Nat → Nat} (h : ColR s c p r) {a : Nat} (ha : a < s.length) : r (a + 1) ≠ p := fun e => by
 have:=h.row.inj (by omega) (by omega) (e.trans h.prim.symm);omega
theorem ColR.le {s c : List Nat} {p : Nat} {r : Nat → Nat} (h : ColR s c p r) : p ≤ s.length := by rw [← h.prim]; exact h.row.le 0 (by omega)
theorem ColR.at {s c : List Nat} {p : Nat} {r : Nat → Nat} (h : ColR s c p r) {a : Nat} (ha : a < s.length) : atR p (r (a + 1)) < s.length := atR_lt (h.row.le _ (by omega)) h.le (h.ne ha)
theorem ColR.step {s c : List Nat} {p : Nat} {r : Nat → Nat} (h : ColR s c p r) (a : Nat) (ha : a < s.length) : toR c (atR p (r (a + 1))) = r a := by
 have hsl:∀ b,b<s.length→ltC c (atR p (r (b+1))) (atR p (r (a+1)))=sl s b a:=fun b hb=>by
  rw [sl_step s b a hb ha]
  unfold ltC
  have e:decide (atR p (r (b+1))<atR p (r (a+1)))=sl s (b+1) (a+1):=by rw [Bool.eq_iff_iff,decide_eq_true_eq,atR_mono (h.ne hb) (h.ne ha),h.row.lt (b+1) (a+1) (by omega) (by omega)]
  rw [h.byte a ha,h.byte b hb,getD_get s a 0 ha,getD_get s b 0 hb,e]
 have hp:=range_inj_perm s.length (fun b=>atR p (r (b+1))) (fun b hb=>h.at hb) (fun b d hb hd e=>by
  have:=h.row.inj (by omega) (by omega) (atR_inj (h.ne hb) (h.ne hd) e);omega)
 rw [h.row.one a (by omega),List.range_succ,List.countP_append]
 unfold toR
 rw [h.len,← hp.countP_eq,List.countP_map]
 have e1:(List.range s.length).countP ((fun j=>ltC c j (atR p (r (a+1)))) ∘ fun b=>atR p (r (b+1)))=(List.range s.length).countP (fun b=>sl s b a):=List.countP_congr fun b hb=>by
  rw [Function.comp_apply,hsl b (List.mem_range.1 hb)]
 rw [e1,List.countP_singleton,sl_end s _ a (Nat.le_refl _),if_pos (by simp [ha])]
 omega
theorem ColR.back {s c : List Nat} {p : Nat} {r : Nat → Nat} (h : ColR s c p r) : ∀ k, k ≤ s.length → walkT c p k (r k) (s.drop k) = some s
 | 0,_=>by rw [walkT,if_pos h.prim];rfl
 | k+1,hk=>by
  rw [walkT,if_neg (h.ne (by omega)),h.step k (by omega),h.byte k (by omega),getD_get s k 0 (by omega),← List.drop_eq_getElem_cons (by omega)]
  exact h.back k (by omega)
/-- The column's text is the text. -/
theorem ColR.text {s c : List Nat} {p : Nat} {r : Nat → Nat} (h : ColR s c p r) : walkT c p c.length 0 [] = some s := by
 have:=h.back s.length (Nat.le_refl _)
 rw [h.row.zero,List.drop_of_length_le (Nat.le_refl _)] at this
 rw [h.len];exact this
theorem ColR.perm {s c : List Nat} {p : Nat} {r : Nat → Nat} (h : ColR s c p r) : c.Perm s := by
 have hp:=range_inj_perm s.length (fun b=>atR p (r (b+1))) (fun b hb=>h.at hb) (fun b d hb hd e=>by
  have:=h.row.inj (by omega) (by omega) (atR_inj (h.ne hb) (h.ne hd) e);omega)
 have h1:=hp.map (fun i=>c.getD i 0)
 rw [List.map_map] at h1
 have e1:(List.range s.length).map ((fun i=>c.getD i 0) ∘ fun b=>atR p (r (b+1)))=s:=by
  refine List.ext_getElem (by simp) fun i h1 h2=>?_
  rw [List.getElem_map,List.getElem_range,Function.comp_apply,h.byte i h2,getD_get s i 0 h2]
 have e2:(List.range s.length).map (fun i=>c.getD i 0)=c:=by
  refine List.ext_getElem (by simp [h.len]) fun i h1 h2=>?_
  rw [List.getElem_map,List.getElem_range,getD_get c i 0 h2]
 rw [e1,e2] at h1
 exact h1.symm
/-- What a walk that ends well has gone through. -/
theorem walk_rows (c : List Nat) (p : Nat) (s : List Nat) : ∀ (k row : Nat) (acc : List Nat), walkT c p k row acc = some s →
  ∃ r:Nat→Nat,r k=row∧r 0=p∧(∀ j,j<k→r (j+1)≠p∧r j=toR c (atR p (r (j+1)))∧s.getD j 0=c.getD (atR p (r (j+1))) 0)∧s.drop k=acc∧k+acc.length=s.length
 | 0,row,acc,h=>by
  rw [walkT] at h;split at h
  ·rename_i hr;injection h with h;subst h
   exact ⟨fun _=>row,rfl,hr,fun j hj=>absurd hj (Nat.not_lt_zero _),rfl,Nat.zero_add _⟩
  ·cases h
 | k+1,row,acc,h=>by
  rw [walkT] at h;split at h
  ·cases h
  ·rename_i hr
   obtain ⟨r,h1,h2,h3,h4,h5⟩:=walk_rows c p s k _ _ h
   rw [List.length_cons] at h5
   have hk:k<s.length:=by omega
   rw [List.drop_eq_getElem_cons hk] at h4
   injection h4 with h4 h6
   refine ⟨fun j=>if j=k+1 then row else r j,by simp,by simp [h2],fun j hj=>?_,h6,by omega⟩
   rcases Nat.lt_or_ge j k with hj' | hj'
   ·have:=h3 j hj'
    dsimp only
    rw [if_neg (by omega),if_neg (by omega)];exact this
   ·obtain rfl:j=k:=by omega
    dsimp only
    rw [if_pos rfl,if_neg (by omega)]
    exact ⟨hr,h1,by rw [getD_get s j 0 hk];exact h4⟩
/-! ### The column of ends in order -/
/-! ### What two ends have in common -/
end Ord
end Go.Proofs.Ytgidjbpgkeemiaa
namespace Go.Proofs.Ytgidjbpgkeemiaa
open Go.RowKit
open Mv Num Loser Srt
set_option maxRecDepth 4000
theorem nums_map (s : ByteArray) : numsT s = s.data.toList.map UInt8.toNat := by
 refine List.ext_getElem (by simp [numsT]) fun i h1 h2=>?_
 have hi:i<s.data.toList.length:=by simpa using h2
 simp only [numsT,List.getElem_map,List.getElem_range]
 unfold byT
 rw [at8_get _ _ hi];unfold nb;rw [Int.toNat_natCast]
theorem nums_bs (l : List UInt8) : numsT (bs l) = l.map UInt8.toNat := by rw [nums_map, bs_data]
theorem nums_inj {s t : ByteArray} (h : numsT s = numsT t) : s = t := by
 rw [nums_map,nums_map] at h
 have:=List.map_inj_right (f:=UInt8.toNat) (fun a b h=>UInt8.toNat_inj.1 h) |>.1 h
 rw [← bs_of s,← bs_of t,this]
theorem nums_getD (s : ByteArray) (i : Nat) : (numsT s).getD i 0 = (at8 s.data.toList i).toNat := by
 rw [nums_map,List.getD_eq_getElem?_getD,List.getElem?_map]
 unfold at8
 rw [List.getD_eq_getElem?_getD]
 cases s.data.toList[i]? <;> rfl
theorem size_z (s : ByteArray) : (s = ByteArray.empty) ↔ s.size = 0 := ⟨fun h => by rw [h]; rfl, fun h => by
 have h2:s.data.toList = []:=List.length_eq_zero_iff.1 (by simpa using h)
 rw [← bs_of s,h2];rfl⟩
end Go.Proofs.Ytgidjbpgkeemiaa
