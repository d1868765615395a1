/-
  Texts that belong together: Fd6, Fd7, Fd8, FindMath2, Fd9, SortOI.
-/
import Derived.Test.YtgidjbpgkeemiaaBFi4
import Derived.Test.YtgidjbpgkeemiaaBitsMath
set_option linter.unusedVariables false
set_option linter.unusedSimpArgs false
set_option linter.unusedSectionVars false
namespace Go.Proofs.Ytgidjbpgkeemiaa
open Go.RowKit Go.Shelf
open Mv Num Loser Srt
set_option maxRecDepth 8000
/-- What the program looks at. -/
def sameX (x y : Ix) : Bool := decide (x.fir = y.fir) && (decide (x.mks = y.mks) && (decide (x.plcs = y.plcs) && (decide (x.bits = y.bits ∧ x.n = y.n) && decide (x.cnts = y.cnts))))
/-- What the document looks at. -/
def sameD (x y : Ix) : Bool := decide (x.col = y.col) && (decide (x.pri = y.pri) && (decide (x.fir = y.fir) && (decide (marksU x.mks = marksU y.mks) && ((decide (x.bits = y.bits ∧ x.n = y.n) && decide (x.cnts = y.cnts)) && decide (x.plcs = y.plcs)))))
def FitX (x : Ix) : Prop := x.mks.length ≤ 5864062014634 ∧ ∀ m ∈ x.mks, m.length ≤ 17592186043904
set_option maxHeartbeats 2000000 in
theorem fd_same (x y : Ix) (cx cy : List Value) (S : Mem) (hx : IxV S cx x) (hy : IxV S cy y) :
  ACall Try.prog 79 #[.agg cx.toArray,.agg cy.toArray] S fun r S'=>r = .bool (sameX x y)∧S'=S:=by
 obtain ⟨v2,v3,v6,v7,rfl,h1,h2,h3,h4⟩:=hx
 obtain ⟨u2,u3,u6,u7,rfl,k1,k2,k3,k4⟩:=hy
 obtain ⟨p1,c1,rfl,_⟩:=id h1
 obtain ⟨p3,c3,rfl,_⟩:=id h3
 obtain ⟨p4,c4,rfl,_⟩:=id h4
 obtain ⟨d1,e1,rfl,_⟩:=id k1
 obtain ⟨d3,e3,rfl,_⟩:=id k3
 obtain ⟨d4,e4,rfl,_⟩:=id k4
 obtain ⟨n2,p2,c2,rfl⟩ : ∃ n p c,v3 = .slice p n c:=by obtain ⟨g,_,⟨p,c,rfl,_⟩,_⟩:=id h2;exact ⟨_,_,_,rfl⟩
 obtain ⟨m2,d2,e2,rfl⟩ : ∃ n p c,u3 = .slice p n c:=by obtain ⟨g,_,⟨p,c,rfl,_⟩,_⟩:=id k2;exact ⟨_,_,_,rfl⟩
 unfold sameX
 by_cases q0:x.fir=y.fir
 ·by_cases q1:x.mks=y.mks
  ·by_cases q2:x.plcs=y.plcs
   ·by_cases q3:x.bits=y.bits∧x.n=y.n
    ·by_cases q4:x.cnts=y.cnts
     ·rw [decide_eq_true q0,Bool.true_and,decide_eq_true q1,Bool.true_and,decide_eq_true q2,Bool.true_and,decide_eq_true q3,Bool.true_and,decide_eq_true q4]
      refine ACall.enter (rs:=[.tmp 4]) 42 [(0,.agg #[.string x.col,.int .i64 x.pri,.slice p1 x.fir.length c1,.slice p2 n2 c2,.string x.bits,.int .i64 x.n,.slice p3 x.cnts.length c3,.slice p4 x.plcs.length c4]),(1,.agg #[.string y.col,.int .i64 y.pri,.slice d1 y.fir.length e1,.slice d2 m2 e2,.string y.bits,.int .i64 y.n,.slice d3 y.cnts.length e3,.slice d4 y.plcs.length e4])] Try.func79 rfl rfl (Nat.le_of_ble_eq_true rfl) rfl ⟨rfl,rfl,trivial⟩ ?_
      refine k_a ?_
      refine ARun.boxA (cs:=[_,_,_,_,_,_,_,_]) (lit_lt rfl) rfl ?_
      intro b2 f2
      have g2:=f2
      repeat ((with_reducible replace g2:=fresh_set g2);obtain ⟨g2,_⟩:=g2)
      try simp only [k_l1,k_l0,k_za,Nat.reduceAdd]
      refine ARun.boxA (cs:=[_,_,_,_,_,_,_,_]) (lit_lt rfl) rfl ?_
      intro b3 f3
      have g3:=f3
      repeat ((with_reducible replace g3:=fresh_set g3);obtain ⟨g3,_⟩:=g3)
      try simp only [k_l1,k_l0,k_za,Nat.reduceAdd]
      refine k_e rfl (k_a ?_)
      refine rC (Calm.fieldAddr ty_field_48_2 rfl) ?_
      refine rC (ld_ ty_plain_24 rfl) ?_
      refine rC (Calm.fieldAddr ty_field_48_2 rfl) ?_
      refine rC (ld_ ty_plain_24 rfl) ?_
      refine ARun.call (lit_lt rfl) go_116 rfl (losV_EqualI x.fir y.fir _ _ _ (h1.less less_) (k1.less less_)) ?_
      rintro _ S1 ⟨rfl,q⟩
      rw [q,decide_eq_true q0];clear q S1
      refine k_m rfl ?_
      first|refine k_q 10 ?_|refine rG 10 (Calm.fieldAddr ty_field_48_3 rfl) ?_
      first|refine k_q 10 ?_|refine rG 10 (ld_ ty_plain_42 rfl) ?_
      first|refine k_q 10 ?_|refine rG 10 (Calm.fieldAddr ty_field_48_3 rfl) ?_
      first|refine k_q 10 ?_|refine rG 10 (ld_ ty_plain_42 rfl) ?_
      refine ARun.callG 5 true 10 rfl (lit_lt rfl) rfl (lit_lt rfl) go_117 rfl (fd_EqualFunc x.mks y.mks _ _ _ (h2.less intsV_less less_) (k2.less intsV_less less_)) ?_
      rintro _ S1 ⟨rfl,q⟩
      rw [q,decide_eq_true q1];clear q S1
      first|refine k_t rfl rfl ?_|refine k_f rfl rfl ?_
      refine k_m rfl ?_
      first|refine k_q 17 ?_|refine rG 17 (Calm.fieldAddr ty_field_48_5 rfl) ?_
      first|refine k_q 17 ?_|refine rG 17 (ld_ ty_plain_24 rfl) ?_
      first|refine k_q 17 ?_|refine rG 17 (Calm.fieldAddr ty_field_48_5 rfl) ?_
      first|refine k_q 17 ?_|refine rG 17 (ld_ ty_plain_24 rfl) ?_
      refine ARun.callG 12 true 17 rfl (lit_lt rfl) rfl (lit_lt rfl) go_116 rfl (losV_EqualI x.plcs y.plcs _ _ _ (h4.less less_) (k4.less less_)) ?_
      rintro _ S1 ⟨rfl,q⟩
      rw [q,decide_eq_true q2];clear q S1
      first|refine k_t rfl rfl ?_|refine k_f rfl rfl ?_
      refine k_m rfl ?_
      first|refine k_q 24 ?_|refine rG 24 (Calm.fieldAddr ty_field_48_4 rfl) ?_
      first|refine k_q 24 ?_|refine rG 24 (Calm.fieldAddr ty_field_46_0 rfl) ?_
      first|refine k_q 24 ?_|refine rG 24 (ldA_ (cs:=[_,_]) ty_agg_44 ty_size_44 rfl) ?_
      first|refine k_q 24 ?_|refine rG 24 (Calm.fieldAddr ty_field_48_4 rfl) ?_
      first|refine k_q 24 ?_|refine rG 24 (Calm.fieldAddr ty_field_46_0 rfl) ?_
      first|refine k_q 24 ?_|refine rG 24 (ldA_ (cs:=[_,_]) ty_agg_44 ty_size_44 rfl) ?_
      first|refine k_q 24 ?_|refine rG 24 (Calm.bin rfl rfl (bin_bool (bin_eql_Bitstr _ _ _ _) (decide_eq_true q3))) ?_
      first|refine k_t rfl rfl ?_|refine k_f rfl rfl ?_
      refine k_m rfl ?_
      first|refine k_q 33 ?_|refine rG 33 (Calm.fieldAddr ty_field_48_4 rfl) ?_
      first|refine k_q 33 ?_|refine rG 33 (Calm.fieldAddr ty_field_46_1 rfl) ?_
      first|refine k_q 33 ?_|refine rG 33 (ld_ ty_plain_24 rfl) ?_
      first|refine k_q 33 ?_|refine rG 33 (Calm.fieldAddr ty_field_48_4 rfl) ?_
      first|refine k_q 33 ?_|refine rG 33 (Calm.fieldAddr ty_field_46_1 rfl) ?_
      first|refine k_q 33 ?_|refine rG 33 (ld_ ty_plain_24 rfl) ?_
      refine ARun.callG 28 true 33 rfl (lit_lt rfl) rfl (lit_lt rfl) go_116 rfl (losV_EqualI x.cnts y.cnts _ _ _ (h3.less less_) (k3.less less_)) ?_
      rintro _ S1 ⟨rfl,q⟩
      rw [q,decide_eq_true q4];clear q S1
      first|refine k_t rfl rfl ?_|refine k_f rfl rfl ?_
      refine k_e rfl ?_
      refine k_u [(0,_),(1,_),(2,_),(3,_),(4,_)] ?_
      refine AWP.ret ?_
      refine ⟨_,S,⟨_,_,rfl,rfl,rfl⟩,less_,?_⟩
      exact ⟨rfl,rfl⟩
     ·rw [decide_eq_true q0,Bool.true_and,decide_eq_true q1,Bool.true_and,decide_eq_true q2,Bool.true_and,decide_eq_true q3,Bool.true_and,decide_eq_false q4]
      refine ACall.enter (rs:=[.tmp 4]) 42 [(0,.agg #[.string x.col,.int .i64 x.pri,.slice p1 x.fir.length c1,.slice p2 n2 c2,.string x.bits,.int .i64 x.n,.slice p3 x.cnts.length c3,.slice p4 x.plcs.length c4]),(1,.agg #[.string y.col,.int .i64 y.pri,.slice d1 y.fir.length e1,.slice d2 m2 e2,.string y.bits,.int .i64 y.n,.slice d3 y.cnts.length e3,.slice d4 y.plcs.length e4])] Try.func79 rfl rfl (Nat.le_of_ble_eq_true rfl) rfl ⟨rfl,rfl,trivial⟩ ?_
      refine k_a ?_
      refine ARun.boxA (cs:=[_,_,_,_,_,_,_,_]) (lit_lt rfl) rfl ?_
      intro b2 f2
      have g2:=f2
      repeat ((with_reducible replace g2:=fresh_set g2);obtain ⟨g2,_⟩:=g2)
      try simp only [k_l1,k_l0,k_za,Nat.reduceAdd]
      refine ARun.boxA (cs:=[_,_,_,_,_,_,_,_]) (lit_lt rfl) rfl ?_
      intro b3 f3
      have g3:=f3
      repeat ((with_reducible replace g3:=fresh_set g3);obtain ⟨g3,_⟩:=g3)
      try simp only [k_l1,k_l0,k_za,Nat.reduceAdd]
      refine k_e rfl (k_a ?_)
      refine rC (Calm.fieldAddr ty_field_48_2 rfl) ?_
      refine rC (ld_ ty_plain_24 rfl) ?_
      refine rC (Calm.fieldAddr ty_field_48_2 rfl) ?_
      refine rC (ld_ ty_plain_24 rfl) ?_
      refine ARun.call (lit_lt rfl) go_116 rfl (losV_EqualI x.fir y.fir _ _ _ (h1.less less_) (k1.less less_)) ?_
      rintro _ S1 ⟨rfl,q⟩
      rw [q,decide_eq_true q0];clear q S1
      refine k_m rfl ?_
      first|refine k_q 10 ?_|refine rG 10 (Calm.fieldAddr ty_field_48_3 rfl) ?_
      first|refine k_q 10 ?_|refine rG 10 (ld_ ty_plain_42 rfl) ?_
      first|refine k_q 10 ?_|refine rG 10 (Calm.fieldAddr ty_field_48_3 rfl) ?_
      first|refine k_q 10 ?_|refine rG 10 (ld_ ty_plain_42 rfl) ?_
      refine ARun.callG 5 true 10 rfl (lit_lt rfl) rfl (lit_lt rfl) go_117 rfl (fd_EqualFunc x.mks y.mks _ _ _ (h2.less intsV_less less_) (k2.less intsV_less less_)) ?_
      rintro _ S1 ⟨rfl,q⟩
      rw [q,decide_eq_true q1];clear q S1
      first|refine k_t rfl rfl ?_|refine k_f rfl rfl ?_
      refine k_m rfl ?_
      first|refine k_q 17 ?_|refine rG 17 (Calm.fieldAddr ty_field_48_5 rfl) ?_
      first|refine k_q 17 ?_|refine rG 17 (ld_ ty_plain_24 rfl) ?_
      first|refine k_q 17 ?_|refine rG 17 (Calm.fieldAddr ty_field_48_5 rfl) ?_
      first|refine k_q 17 ?_|refine rG 17 (ld_ ty_plain_24 rfl) ?_
      refine ARun.callG 12 true 17 rfl (lit_lt rfl) rfl (lit_lt rfl) go_116 rfl (losV_EqualI x.plcs y.plcs _ _ _ (h4.less less_) (k4.less less_)) ?_
      rintro _ S1 ⟨rfl,q⟩
      rw [q,decide_eq_true q2];clear q S1
      first|refine k_t rfl rfl ?_|refine k_f rfl rfl ?_
      refine k_m rfl ?_
      first|refine k_q 24 ?_|refine rG 24 (Calm.fieldAddr ty_field_48_4 rfl) ?_
      first|refine k_q 24 ?_|refine rG 24 (Calm.fieldAddr ty_field_46_0 rfl) ?_
      first|refine k_q 24 ?_|refine rG 24 (ldA_ (cs:=[_,_]) ty_agg_44 ty_size_44 rfl) ?_
      first|refine k_q 24 ?_|refine rG 24 (Calm.fieldAddr ty_field_48_4 rfl) ?_
      first|refine k_q 24 ?_|refine rG 24 (Calm.fieldAddr ty_field_46_0 rfl) ?_
      first|refine k_q 24 ?_|refine rG 24 (ldA_ (cs:=[_,_]) ty_agg_44 ty_size_44 rfl) ?_
      first|refine k_q 24 ?_|refine rG 24 (Calm.bin rfl rfl (bin_bool (bin_eql_Bitstr _ _ _ _) (decide_eq_true q3))) ?_
      first|refine k_t rfl rfl ?_|refine k_f rfl rfl ?_
      refine k_m rfl ?_
      first|refine k_q 33 ?_|refine rG 33 (Calm.fieldAddr ty_field_48_4 rfl) ?_
      first|refine k_q 33 ?_|refine rG 33 (Calm.fieldAddr ty_field_46_1 rfl) ?_
      first|refine k_q 33 ?_|refine rG 33 (ld_ ty_plain_24 rfl) ?_
      first|refine k_q 33 ?_|refine rG 33 (Calm.fieldAddr ty_field_48_4 rfl) ?_
      first|refine k_q 33 ?_|refine rG 33 (Calm.fieldAddr ty_field_46_1 rfl) ?_
      first|refine k_q 33 ?_|refine rG 33 (ld_ ty_plain_24 rfl) ?_
      refine ARun.callG 28 true 33 rfl (lit_lt rfl) rfl (lit_lt rfl) go_116 rfl (losV_EqualI x.cnts y.cnts _ _ _ (h3.less less_) (k3.less less_)) ?_
      rintro _ S1 ⟨rfl,q⟩
      rw [q,decide_eq_false q4];clear q S1
      first|refine k_t rfl rfl ?_|refine k_f rfl rfl ?_
      refine k_e rfl ?_
      refine k_u [(0,_),(1,_),(2,_),(3,_),(4,_)] ?_
      refine AWP.ret ?_
      refine ⟨_,S,⟨_,_,rfl,rfl,rfl⟩,less_,?_⟩
      exact ⟨rfl,rfl⟩
    ·rw [decide_eq_true q0,Bool.true_and,decide_eq_true q1,Bool.true_and,decide_eq_true q2,Bool.true_and,decide_eq_false q3,Bool.false_and]
     refine ACall.enter (rs:=[.tmp 4]) 42 [(0,.agg #[.string x.col,.int .i64 x.pri,.slice p1 x.fir.length c1,.slice p2 n2 c2,.string x.bits,.int .i64 x.n,.slice p3 x.cnts.length c3,.slice p4 x.plcs.length c4]),(1,.agg #[.string y.col,.int .i64 y.pri,.slice d1 y.fir.length e1,.slice d2 m2 e2,.string y.bits,.int .i64 y.n,.slice d3 y.cnts.length e3,.slice d4 y.plcs.length e4])] Try.func79 rfl rfl (Nat.le_of_ble_eq_true rfl) rfl ⟨rfl,rfl,trivial⟩ ?_
     refine k_a ?_
     refine ARun.boxA (cs:=[_,_,_,_,_,_,_,_]) (lit_lt rfl) rfl ?_
     intro b2 f2
     have g2:=f2
     repeat ((with_reducible replace g2:=fresh_set g2);obtain ⟨g2,_⟩:=g2)
     try simp only [k_l1,k_l0,k_za,Nat.reduceAdd]
     refine ARun.boxA (cs:=[_,_,_,_,_,_,_,_]) (lit_lt rfl) rfl ?_
     intro b3 f3
     have g3:=f3
     repeat ((with_reducible replace g3:=fresh_set g3);obtain ⟨g3,_⟩:=g3)
     try simp only [k_l1,k_l0,k_za,Nat.reduceAdd]
     refine k_e rfl (k_a ?_)
     refine rC (Calm.fieldAddr ty_field_48_2 rfl) ?_
     refine rC (ld_ ty_plain_24 rfl) ?_
     refine rC (Calm.fieldAddr ty_field_48_2 rfl) ?_
     refine rC (ld_ ty_plain_24 rfl) ?_
     refine ARun.call (lit_lt rfl) go_116 rfl (losV_EqualI x.fir y.fir _ _ _ (h1.less less_) (k1.less less_)) ?_
     rintro _ S1 ⟨rfl,q⟩
     rw [q,decide_eq_true q0];clear q S1
     refine k_m rfl ?_
     first|refine k_q 10 ?_|refine rG 10 (Calm.fieldAddr ty_field_48_3 rfl) ?_
     first|refine k_q 10 ?_|refine rG 10 (ld_ ty_plain_42 rfl) ?_
     first|refine k_q 10 ?_|refine rG 10 (Calm.fieldAddr ty_field_48_3 rfl) ?_
     first|refine k_q 10 ?_|refine rG 10 (ld_ ty_plain_42 rfl) ?_
     refine ARun.callG 5 true 10 rfl (lit_lt rfl) rfl (lit_lt rfl) go_117 rfl (fd_EqualFunc x.mks y.mks _ _ _ (h2.less intsV_less less_) (k2.less intsV_less less_)) ?_
     rintro _ S1 ⟨rfl,q⟩
     rw [q,decide_eq_true q1];clear q S1
     first|refine k_t rfl rfl ?_|refine k_f rfl rfl ?_
     refine k_m rfl ?_
     first|refine k_q 17 ?_|refine rG 17 (Calm.fieldAddr ty_field_48_5 rfl) ?_
     first|refine k_q 17 ?_|refine rG 17 (ld_ ty_plain_24 rfl) ?_
     first|refine k_q 17 ?_|refine rG 17 (Calm.fieldAddr ty_field_48_5 rfl) ?_
     first|refine k_q 17 ?_|refine rG 17 (ld_ ty_plain_24 rfl) ?_
     refine ARun.callG 12 true 17 rfl (lit_lt rfl) rfl (lit_lt rfl) go_116 rfl (losV_EqualI x.plcs y.plcs _ _ _ (h4.less less_) (k4.less less_)) ?_
     rintro _ S1 ⟨rfl,q⟩
     rw [q,decide_eq_true q2];clear q S1
     first|refine k_t rfl rfl ?_|refine k_f rfl rfl ?_
     refine k_m rfl ?_
     first|refine k_q 24 ?_|refine rG 24 (Calm.fieldAddr ty_field_48_4 rfl) ?_
     first|refine k_q 24 ?_|refine rG 24 (Calm.fieldAddr ty_field_46_0 rfl) ?_
     first|refine k_q 24 ?_|refine rG 24 (ldA_ (cs:=[_,_]) ty_agg_44 ty_size_44 rfl) ?_
     first|refine k_q 24 ?_|refine rG 24 (Calm.fieldAddr ty_field_48_4 rfl) ?_
     first|refine k_q 24 ?_|refine rG 24 (Calm.fieldAddr ty_field_46_0 rfl) ?_
     first|refine k_q 24 ?_|refine rG 24 (ldA_ (cs:=[_,_]) ty_agg_44 ty_size_44 rfl) ?_
     first|refine k_q 24 ?_|refine rG 24 (Calm.bin rfl rfl (bin_bool (bin_eql_Bitstr _ _ _ _) (decide_eq_false q3))) ?_
     first|refine k_t rfl rfl ?_|refine k_f rfl rfl ?_
     refine k_m rfl ?_
     first|refine k_q 33 ?_|refine rG 33 (Calm.fieldAddr ty_field_48_4 rfl) ?_
     first|refine k_q 33 ?_|refine rG 33 (Calm.fieldAddr ty_field_46_1 rfl) ?_
     first|refine k_q 33 ?_|refine rG 33 (ld_ ty_plain_24 rfl) ?_
     first|refine k_q 33 ?_|refine rG 33 (Calm.fieldAddr ty_field_48_4 rfl) ?_
     first|refine k_q 33 ?_|refine rG 33 (Calm.fieldAddr ty_field_46_1 rfl) ?_
     first|refine k_q 33 ?_|refine rG 33 (ld_ ty_plain_24 rfl) ?_
     first | refine rS 33 ?_ | refine rU 33 ?_
     first|refine k_t rfl rfl ?_|refine k_f rfl rfl ?_
     refine k_e rfl ?_
     refine k_u [(0,_),(1,_),(2,_),(3,_),(4,_)] ?_
     refine AWP.ret ?_
     refine ⟨_,S,⟨_,_,rfl,rfl,rfl⟩,less_,?_⟩
     exact ⟨rfl,rfl⟩
   ·rw [decide_eq_true q0,Bool.true_and,decide_eq_true q1,Bool.true_and,decide_eq_false q2,Bool.false_and]
    refine ACall.enter (rs:=[.tmp 4]) 42 [(0,.agg #[.string x.col,.int .i64 x.pri,.slice p1 x.fir.length c1,.slice p2 n2 c2,.string x.bits,.int .i64 x.n,.slice p3 x.cnts.length c3,.slice p4 x.plcs.length c4]),(1,.agg #[.string y.col,.int .i64 y.pri,.slice d1 y.fir.length e1,.slice d2 m2 e2,.string y.bits,.int .i64 y.n,.slice d3 y.cnts.length e3,.slice d4 y.plcs.length e4])] Try.func79 rfl rfl (Nat.le_of_ble_eq_true rfl) rfl ⟨rfl,rfl,trivial⟩ ?_
    refine k_a ?_
    refine ARun.boxA (cs:=[_,_,_,_,_,_,_,_]) (lit_lt rfl) rfl ?_
    intro b2 f2
    have g2:=f2
    repeat ((with_reducible replace g2:=fresh_set g2);obtain ⟨g2,_⟩:=g2)
    try simp only [k_l1,k_l0,k_za,Nat.reduceAdd]
    refine ARun.boxA (cs:=[_,_,_,_,_,_,_,_]) (lit_lt rfl) rfl ?_
    intro b3 f3
    have g3:=f3
    repeat ((with_reducible replace g3:=fresh_set g3);obtain ⟨g3,_⟩:=g3)
    try simp only [k_l1,k_l0,k_za,Nat.reduceAdd]
    refine k_e rfl (k_a ?_)
    refine rC (Calm.fieldAddr ty_field_48_2 rfl) ?_
    refine rC (ld_ ty_plain_24 rfl) ?_
    refine rC (Calm.fieldAddr ty_field_48_2 rfl) ?_
    refine rC (ld_ ty_plain_24 rfl) ?_
    refine ARun.call (lit_lt rfl) go_116 rfl (losV_EqualI x.fir y.fir _ _ _ (h1.less less_) (k1.less less_)) ?_
    rintro _ S1 ⟨rfl,q⟩
    rw [q,decide_eq_true q0];clear q S1
    refine k_m rfl ?_
    first|refine k_q 10 ?_|refine rG 10 (Calm.fieldAddr ty_field_48_3 rfl) ?_
    first|refine k_q 10 ?_|refine rG 10 (ld_ ty_plain_42 rfl) ?_
    first|refine k_q 10 ?_|refine rG 10 (Calm.fieldAddr ty_field_48_3 rfl) ?_
    first|refine k_q 10 ?_|refine rG 10 (ld_ ty_plain_42 rfl) ?_
    refine ARun.callG 5 true 10 rfl (lit_lt rfl) rfl (lit_lt rfl) go_117 rfl (fd_EqualFunc x.mks y.mks _ _ _ (h2.less intsV_less less_) (k2.less intsV_less less_)) ?_
    rintro _ S1 ⟨rfl,q⟩
    rw [q,decide_eq_true q1];clear q S1
    first|refine k_t rfl rfl ?_|refine k_f rfl rfl ?_
    refine k_m rfl ?_
    first|refine k_q 17 ?_|refine rG 17 (Calm.fieldAddr ty_field_48_5 rfl) ?_
    first|refine k_q 17 ?_|refine rG 17 (ld_ ty_plain_24 rfl) ?_
    first|refine k_q 17 ?_|refine rG 17 (Calm.fieldAddr ty_field_48_5 rfl) ?_
    first|refine k_q 17 ?_|refine rG 17 (ld_ ty_plain_24 rfl) ?_
    refine ARun.callG 12 true 17 rfl (lit_lt rfl) rfl (lit_lt rfl) go_116 rfl (losV_EqualI x.plcs y.plcs _ _ _ (h4.less less_) (k4.less less_)) ?_
    rintro _ S1 ⟨rfl,q⟩
    rw [q,decide_eq_false q2];clear q S1
    first|refine k_t rfl rfl ?_|refine k_f rfl rfl ?_
    refine k_m rfl ?_
    first|refine k_q 24 ?_|refine rG 24 (Calm.fieldAddr ty_field_48_4 rfl) ?_
    first|refine k_q 24 ?_|refine rG 24 (Calm.fieldAddr ty_field_46_0 rfl) ?_
    first|refine k_q 24 ?_|refine rG 24 (ldA_ (cs:=[_,_]) ty_agg_44 ty_size_44 rfl) ?_
    first|refine k_q 24 ?_|refine rG 24 (Calm.fieldAddr ty_field_48_4 rfl) ?_
    first|refine k_q 24 ?_|refine rG 24 (Calm.fieldAddr ty_field_46_0 rfl) ?_
    first|refine k_q 24 ?_|refine rG 24 (ldA_ (cs:=[_,_]) ty_agg_44 ty_size_44 rfl) ?_
    first|refine k_q 24 ?_|refine rG 24 (Calm.bin rfl rfl (BIN_struct)) ?_
    first|refine k_t rfl rfl ?_|refine k_f rfl rfl ?_
    refine k_m rfl ?_
    first|refine k_q 33 ?_|refine rG 33 (Calm.fieldAddr ty_field_48_4 rfl) ?_
    first|refine k_q 33 ?_|refine rG 33 (Calm.fieldAddr ty_field_46_1 rfl) ?_
    first|refine k_q 33 ?_|refine rG 33 (ld_ ty_plain_24 rfl) ?_
    first|refine k_q 33 ?_|refine rG 33 (Calm.fieldAddr ty_field_48_4 rfl) ?_
    first|refine k_q 33 ?_|refine rG 33 (Calm.fieldAddr ty_field_46_1 rfl) ?_
    first|refine k_q 33 ?_|refine rG 33 (ld_ ty_plain_24 rfl) ?_
    first | refine rS 33 ?_ | refine rU 33 ?_
    first|refine k_t rfl rfl ?_|refine k_f rfl rfl ?_
    refine k_e rfl ?_
    refine k_u [(0,_),(1,_),(2,_),(3,_),(4,_)] ?_
    refine AWP.ret ?_
    refine ⟨_,S,⟨_,_,rfl,rfl,rfl⟩,less_,?_⟩
    exact ⟨rfl,rfl⟩
  ·rw [decide_eq_true q0,Bool.true_and,decide_eq_false q1,Bool.false_and]
   refine ACall.enter (rs:=[.tmp 4]) 42 [(0,.agg #[.string x.col,.int .i64 x.pri,.slice p1 x.fir.length c1,.slice p2 n2 c2,.string x.bits,.int .i64 x.n,.slice p3 x.cnts.length c3,.slice p4 x.plcs.length c4]),(1,.agg #[.string y.col,.int .i64 y.pri,.slice d1 y.fir.length e1,.slice d2 m2 e2,.string y.bits,.int .i64 y.n,.slice d3 y.cnts.length e3,.slice d4 y.plcs.length e4])] Try.func79 rfl rfl (Nat.le_of_ble_eq_true rfl) rfl ⟨rfl,rfl,trivial⟩ ?_
   refine k_a ?_
   refine ARun.boxA (cs:=[_,_,_,_,_,_,_,_]) (lit_lt rfl) rfl ?_
   intro b2 f2
   have g2:=f2
   repeat ((with_reducible replace g2:=fresh_set g2);obtain ⟨g2,_⟩:=g2)
   try simp only [k_l1,k_l0,k_za,Nat.reduceAdd]
   refine ARun.boxA (cs:=[_,_,_,_,_,_,_,_]) (lit_lt rfl) rfl ?_
   intro b3 f3
   have g3:=f3
   repeat ((with_reducible replace g3:=fresh_set g3);obtain ⟨g3,_⟩:=g3)
   try simp only [k_l1,k_l0,k_za,Nat.reduceAdd]
   refine k_e rfl (k_a ?_)
   refine rC (Calm.fieldAddr ty_field_48_2 rfl) ?_
   refine rC (ld_ ty_plain_24 rfl) ?_
   refine rC (Calm.fieldAddr ty_field_48_2 rfl) ?_
   refine rC (ld_ ty_plain_24 rfl) ?_
   refine ARun.call (lit_lt rfl) go_116 rfl (losV_EqualI x.fir y.fir _ _ _ (h1.less less_) (k1.less less_)) ?_
   rintro _ S1 ⟨rfl,q⟩
   rw [q,decide_eq_true q0];clear q S1
   refine k_m rfl ?_
   first|refine k_q 10 ?_|refine rG 10 (Calm.fieldAddr ty_field_48_3 rfl) ?_
   first|refine k_q 10 ?_|refine rG 10 (ld_ ty_plain_42 rfl) ?_
   first|refine k_q 10 ?_|refine rG 10 (Calm.fieldAddr ty_field_48_3 rfl) ?_
   first|refine k_q 10 ?_|refine rG 10 (ld_ ty_plain_42 rfl) ?_
   refine ARun.callG 5 true 10 rfl (lit_lt rfl) rfl (lit_lt rfl) go_117 rfl (fd_EqualFunc x.mks y.mks _ _ _ (h2.less intsV_less less_) (k2.less intsV_less less_)) ?_
   rintro _ S1 ⟨rfl,q⟩
   rw [q,decide_eq_false q1];clear q S1
   first|refine k_t rfl rfl ?_|refine k_f rfl rfl ?_
   refine k_m rfl ?_
   first|refine k_q 17 ?_|refine rG 17 (Calm.fieldAddr ty_field_48_5 rfl) ?_
   first|refine k_q 17 ?_|refine rG 17 (ld_ ty_plain_24 rfl) ?_
   first|refine k_q 17 ?_|refine rG 17 (Calm.fieldAddr ty_field_48_5 rfl) ?_
   first|refine k_q 17 ?_|refine rG 17 (ld_ ty_plain_24 rfl) ?_
   first | refine rS 17 ?_ | refine rU 17 ?_
   first|refine k_t rfl rfl ?_|refine k_f rfl rfl ?_
   refine k_m rfl ?_
   first|refine k_q 24 ?_|refine rG 24 (Calm.fieldAddr ty_field_48_4 rfl) ?_
   first|refine k_q 24 ?_|refine rG 24 (Calm.fieldAddr ty_field_46_0 rfl) ?_
   first|refine k_q 24 ?_|refine rG 24 (ldA_ (cs:=[_,_]) ty_agg_44 ty_size_44 rfl) ?_
   first|refine k_q 24 ?_|refine rG 24 (Calm.fieldAddr ty_field_48_4 rfl) ?_
   first|refine k_q 24 ?_|refine rG 24 (Calm.fieldAddr ty_field_46_0 rfl) ?_
   first|refine k_q 24 ?_|refine rG 24 (ldA_ (cs:=[_,_]) ty_agg_44 ty_size_44 rfl) ?_
   first|refine k_q 24 ?_|refine rG 24 (Calm.bin rfl rfl (BIN_struct)) ?_
   first|refine k_t rfl rfl ?_|refine k_f rfl rfl ?_
   refine k_m rfl ?_
   first|refine k_q 33 ?_|refine rG 33 (Calm.fieldAddr ty_field_48_4 rfl) ?_
   first|refine k_q 33 ?_|refine rG 33 (Calm.fieldAddr ty_field_46_1 rfl) ?_
   first|refine k_q 33 ?_|refine rG 33 (ld_ ty_plain_24 rfl) ?_
   first|refine k_q 33 ?_|refine rG 33 (Calm.fieldAddr ty_field_48_4 rfl) ?_
   first|refine k_q 33 ?_|refine rG 33 (Calm.fieldAddr ty_field_46_1 rfl) ?_
   first|refine k_q 33 ?_|refine rG 33 (ld_ ty_plain_24 rfl) ?_
   first | refine rS 33 ?_ | refine rU 33 ?_
   first|refine k_t rfl rfl ?_|refine k_f rfl rfl ?_
   refine k_e rfl ?_
   refine k_u [(0,_),(1,_),(2,_),(3,_),(4,_)] ?_
   refine AWP.ret ?_
   refine ⟨_,S,⟨_,_,rfl,rfl,rfl⟩,less_,?_⟩
   exact ⟨rfl,rfl⟩
 ·rw [decide_eq_false q0,Bool.false_and]
  refine ACall.enter (rs:=[.tmp 4]) 42 [(0,.agg #[.string x.col,.int .i64 x.pri,.slice p1 x.fir.length c1,.slice p2 n2 c2,.string x.bits,.int .i64 x.n,.slice p3 x.cnts.length c3,.slice p4 x.plcs.length c4]),(1,.agg #[.string y.col,.int .i64 y.pri,.slice d1 y.fir.length e1,.slice d2 m2 e2,.string y.bits,.int .i64 y.n,.slice d3 y.cnts.length e3,.slice d4 y.plcs.length e4])] Try.func79 rfl rfl (Nat.le_of_ble_eq_true rfl) rfl ⟨rfl,rfl,trivial⟩ ?_
  refine k_a ?_
  refine ARun.boxA (cs:=[_,_,_,_,_,_,_,_]) (lit_lt rfl) rfl ?_
  intro b2 f2
  have g2:=f2
  repeat ((with_reducible replace g2:=fresh_set g2);obtain ⟨g2,_⟩:=g2)
  try simp only [k_l1,k_l0,k_za,Nat.reduceAdd]
  refine ARun.boxA (cs:=[_,_,_,_,_,_,_,_]) (lit_lt rfl) rfl ?_
  intro b3 f3
  have g3:=f3
  repeat ((with_reducible replace g3:=fresh_set g3);obtain ⟨g3,_⟩:=g3)
  try simp only [k_l1,k_l0,k_za,Nat.reduceAdd]
  refine k_e rfl (k_a ?_)
  refine rC (Calm.fieldAddr ty_field_48_2 rfl) ?_
  refine rC (ld_ ty_plain_24 rfl) ?_
  refine rC (Calm.fieldAddr ty_field_48_2 rfl) ?_
  refine rC (ld_ ty_plain_24 rfl) ?_
  refine ARun.call (lit_lt rfl) go_116 rfl (losV_EqualI x.fir y.fir _ _ _ (h1.less less_) (k1.less less_)) ?_
  rintro _ S1 ⟨rfl,q⟩
  rw [q,decide_eq_false q0];clear q S1
  refine k_m rfl ?_
  first|refine k_q 10 ?_|refine rG 10 (Calm.fieldAddr ty_field_48_3 rfl) ?_
  first|refine k_q 10 ?_|refine rG 10 (ld_ ty_plain_42 rfl) ?_
  first|refine k_q 10 ?_|refine rG 10 (Calm.fieldAddr ty_field_48_3 rfl) ?_
  first|refine k_q 10 ?_|refine rG 10 (ld_ ty_plain_42 rfl) ?_
  first | refine rS 10 ?_ | refine rU 10 ?_
  first|refine k_t rfl rfl ?_|refine k_f rfl rfl ?_
  refine k_m rfl ?_
  first|refine k_q 17 ?_|refine rG 17 (Calm.fieldAddr ty_field_48_5 rfl) ?_
  first|refine k_q 17 ?_|refine rG 17 (ld_ ty_plain_24 rfl) ?_
  first|refine k_q 17 ?_|refine rG 17 (Calm.fieldAddr ty_field_48_5 rfl) ?_
  first|refine k_q 17 ?_|refine rG 17 (ld_ ty_plain_24 rfl) ?_
  first | refine rS 17 ?_ | refine rU 17 ?_
  first|refine k_t rfl rfl ?_|refine k_f rfl rfl ?_
  refine k_m rfl ?_
  first|refine k_q 24 ?_|refine rG 24 (Calm.fieldAddr ty_field_48_4 rfl) ?_
  first|refine k_q 24 ?_|refine rG 24 (Calm.fieldAddr ty_field_46_0 rfl) ?_
  first|refine k_q 24 ?_|refine rG 24 (ldA_ (cs:=[_,_]) ty_agg_44 ty_size_44 rfl) ?_
  first|refine k_q 24 ?_|refine rG 24 (Calm.fieldAddr ty_field_48_4 rfl) ?_
  first|refine k_q 24 ?_|refine rG 24 (Calm.fieldAddr ty_field_46_0 rfl) ?_
  first|refine k_q 24 ?_|refine rG 24 (ldA_ (cs:=[_,_]) ty_agg_44 ty_size_44 rfl) ?_
  first|refine k_q 24 ?_|refine rG 24 (Calm.bin rfl rfl (BIN_struct)) ?_
  first|refine k_t rfl rfl ?_|refine k_f rfl rfl ?_
  refine k_m rfl ?_
  first|refine k_q 33 ?_|refine rG 33 (Calm.fieldAddr ty_field_48_4 rfl) ?_
  first|refine k_q 33 ?_|refine rG 33 (Calm.fieldAddr ty_field_46_1 rfl) ?_
  first|refine k_q 33 ?_|refine rG 33 (ld_ ty_plain_24 rfl) ?_
  first|refine k_q 33 ?_|refine rG 33 (Calm.fieldAddr ty_field_48_4 rfl) ?_
  first|refine k_q 33 ?_|refine rG 33 (Calm.fieldAddr ty_field_46_1 rfl) ?_
  first|refine k_q 33 ?_|refine rG 33 (ld_ ty_plain_24 rfl) ?_
  first | refine rS 33 ?_ | refine rU 33 ?_
  first|refine k_t rfl rfl ?_|refine k_f rfl rfl ?_
  refine k_e rfl ?_
  refine k_u [(0,_),(1,_),(2,_),(3,_),(4,_)] ?_
  refine AWP.ret ?_
  refine ⟨_,S,⟨_,_,rfl,rfl,rfl⟩,less_,?_⟩
  exact ⟨rfl,rfl⟩
theorem sameD_eq (x y : Ix) : sameD x y = (decide (x.col = y.col) && (decide (x.pri = y.pri) && (decide (x.fir = y.fir) && (decide (marksU x.mks = marksU y.mks) && (decide ((x.bits = y.bits ∧ x.n = y.n) ∧ x.cnts = y.cnts) && decide (x.plcs = y.plcs)))))) := by
 unfold sameD;rw [Bool.decide_and (x.bits=y.bits∧x.n=y.n)]
set_option maxHeartbeats 4000000 in
theorem rfd_Same (x y : Ix) (cx cy : List Value) (S : Mem) (hx : IxV S cx x) (hy : IxV S cy y) (fx : FitX x) (fy : FitX y) :
  ACall Try.prog 35 #[.agg cx.toArray,.agg cy.toArray] S fun r S'=>r = .bool (sameD x y)∧S'=S:=by
 obtain ⟨v2,v3,v6,v7,rfl,h1,h2,h3,h4⟩:=hx
 obtain ⟨u2,u3,u6,u7,rfl,k1,k2,k3,k4⟩:=hy
 obtain ⟨p1,c1,rfl,_⟩:=id h1
 obtain ⟨p3,c3,rfl,_⟩:=id h3
 obtain ⟨p4,c4,rfl,_⟩:=id h4
 obtain ⟨d1,e1,rfl,_⟩:=id k1
 obtain ⟨d3,e3,rfl,_⟩:=id k3
 obtain ⟨d4,e4,rfl,_⟩:=id k4
 obtain ⟨n2,p2,c2,rfl⟩ : ∃ n p c,v3 = .slice p n c:=by obtain ⟨g,_,⟨p,c,rfl,_⟩,_⟩:=id h2;exact ⟨_,_,_,rfl⟩
 obtain ⟨m2,d2,e2,rfl⟩ : ∃ n p c,u3 = .slice p n c:=by obtain ⟨g,_,⟨p,c,rfl,_⟩,_⟩:=id k2;exact ⟨_,_,_,rfl⟩
 rw [sameD_eq]
 by_cases q0:x.col=y.col
 ·by_cases q1:x.pri=y.pri
  ·by_cases q2:x.fir=y.fir
   ·by_cases q3:marksU x.mks=marksU y.mks
    ·by_cases q4:(x.bits=y.bits∧x.n=y.n)∧x.cnts=y.cnts
     ·by_cases q5:x.plcs=y.plcs
      ·rw [decide_eq_true q0,Bool.true_and,decide_eq_true q1,Bool.true_and,decide_eq_true q2,Bool.true_and,decide_eq_true q3,Bool.true_and,decide_eq_true q4,Bool.true_and,decide_eq_true q5]
       refine ACall.enter (rs:=[.tmp 4]) 47 [(0,.agg #[.string x.col,.int .i64 x.pri,.slice p1 x.fir.length c1,.slice p2 n2 c2,.string x.bits,.int .i64 x.n,.slice p3 x.cnts.length c3,.slice p4 x.plcs.length c4]),(1,.agg #[.string y.col,.int .i64 y.pri,.slice d1 y.fir.length e1,.slice d2 m2 e2,.string y.bits,.int .i64 y.n,.slice d3 y.cnts.length e3,.slice d4 y.plcs.length e4])] Try.func35 rfl rfl (Nat.le_of_ble_eq_true rfl) rfl ⟨rfl,rfl,trivial⟩ ?_
       refine k_a ?_
       refine ARun.boxA (cs:=[_,_,_,_,_,_,_,_]) (lit_lt rfl) rfl ?_
       intro b2 f2
       have g2:=f2
       repeat ((with_reducible replace g2:=fresh_set g2);obtain ⟨g2,_⟩:=g2)
       try simp only [k_l1,k_l0,k_za,Nat.reduceAdd]
       refine ARun.boxA (cs:=[_,_,_,_,_,_,_,_]) (lit_lt rfl) rfl ?_
       intro b3 f3
       have g3:=f3
       repeat ((with_reducible replace g3:=fresh_set g3);obtain ⟨g3,_⟩:=g3)
       try simp only [k_l1,k_l0,k_za,Nat.reduceAdd]
       refine k_e rfl (AWP.seq ?_)
       refine AWP.draw [(0,true),(1,true),(2,true),(3,true),(4,true),(5,true),(6,true),(7,true),(8,true),(9,true),(10,true),(11,true),(12,true),(13,true),(14,true),(15,true),(16,true),(17,false),(18,true),(19,true),(20,true),(21,true),(23,true),(24,true),(22,false),(25,false),(26,false),(27,true),(28,true),(29,true),(30,true),(31,true),(32,true),(33,false),(34,true),(35,true),(36,true),(37,true),(38,true),(39,true),(40,false),(41,true),(42,true)] [] mixed (by kernel_rfl) ?_
       refine dP (hc:=fun _=>Calm.fieldAddr ty_field_48_0 rfl) (h:=?_)
       refine dC (hc:=ld_ ty_plain_9 rfl) (h:=?_)
       refine dP (hc:=fun _=>Calm.fieldAddr ty_field_48_0 rfl) (h:=?_)
       refine dC (hc:=ld_ ty_plain_9 rfl) (h:=?_)
       refine dP (hc:=fun _=>Calm.bin rfl rfl (bin_bool (bin_str_eql _ _) (decide_eq_true q0))) (h:=?_)
       refine dP (hc:=fun _=>Calm.move rfl) (h:=?_)
       first|refine k_d ?_|refine dG (hc:=fun _=>Calm.fieldAddr ty_field_48_1 rfl) (h:=?_)
       first|refine k_d ?_|refine dL (hc:=ld_ ty_plain_3 rfl) (h:=?_)
       first|refine k_d ?_|refine dG (hc:=fun _=>Calm.fieldAddr ty_field_48_1 rfl) (h:=?_)
       first|refine k_d ?_|refine dL (hc:=ld_ ty_plain_3 rfl) (h:=?_)
       first|refine k_d ?_|refine dG (hc:=fun _=>Calm.bin rfl rfl (bin_bool (bin_eql _ _) (decide_eq_true q1))) (h:=?_)
       refine dP (hc:=fun _=>(by first | exact Calm.pickT rfl rfl | exact Calm.pickF rfl rfl)) (h:=?_)
       refine dP (hc:=fun _=>Calm.move rfl) (h:=?_)
       first|refine k_d ?_|refine dG (hc:=fun _=>Calm.fieldAddr ty_field_48_2 rfl) (h:=?_)
       first|refine k_d ?_|refine dL (hc:=ld_ ty_plain_24 rfl) (h:=?_)
       first|refine k_d ?_|refine dG (hc:=fun _=>Calm.fieldAddr ty_field_48_2 rfl) (h:=?_)
       first|refine k_d ?_|refine dL (hc:=ld_ ty_plain_24 rfl) (h:=?_)
       refine draw_only rfl ?_
       refine ARun.callG 12 true 17 rfl (lit_lt rfl) rfl (lit_lt rfl) go_21 rfl (rlosV_SameNumbers x.fir y.fir _ _ _ (h1.less less_) (k1.less less_)) ?_
       rintro _ S1 ⟨rfl,q⟩
       rw [q,decide_eq_true q2];clear q S1
       refine arun_nil ⟨fun _=>less_,?_⟩
       refine dP (hc:=fun _=>(by first | exact Calm.pickT rfl rfl | exact Calm.pickF rfl rfl)) (h:=?_)
       refine dP (hc:=fun _=>Calm.move rfl) (h:=?_)
       first|refine k_d ?_|refine dG (hc:=fun _=>Calm.fieldAddr ty_field_48_3 rfl) (h:=?_)
       first|refine k_d ?_|refine dL (hc:=ld_ ty_plain_42 rfl) (h:=?_)
       first|refine k_d ?_|refine dG (hc:=fun _=>Calm.fieldAddr ty_field_48_3 rfl) (h:=?_)
       first|refine k_d ?_|refine dL (hc:=ld_ ty_plain_42 rfl) (h:=?_)
       refine draw_only rfl ?_
       refine ARun.callG 19 true 24 rfl (lit_lt rfl) rfl (lit_lt rfl) go_77 rfl ((((rfd_marks _ x.mks S h2 fx.1 fx.2).frame f2).frame f3)) ?_
       rintro va _ ⟨_,⟨S5,⟨hS5,hva⟩,fa2,rfl⟩,fa3,rfl⟩
       have ga3:=fa3
       repeat ((with_reducible replace ga3:=fresh_set ga3);obtain ⟨ga3,_⟩:=ga3)
       refine arun_nil ⟨fun _=>less_,?_⟩
       refine draw_only rfl ?_
       refine ARun.callG 19 true 24 rfl (lit_lt rfl) rfl (lit_lt rfl) go_77 rfl ((((rfd_marks _ y.mks S5 (k2.less intsV_less hS5) fy.1 fy.2).frame fa2).frame fa3)) ?_
       rintro vb _ ⟨_,⟨S6,⟨hS6,hvb⟩,fb2,rfl⟩,fb3,rfl⟩
       have hS56:=hS5.trans hS6
       have gb3:=fb3
       repeat ((with_reducible replace gb3:=fresh_set gb3);obtain ⟨gb3,_⟩:=gb3)
       refine arun_nil ⟨fun _=>less_,?_⟩
       refine draw_only rfl ?_
       refine ARun.callG 19 true 24 rfl (lit_lt rfl) rfl (lit_lt rfl) go_76 rfl (rfd_Same30 _ _ _ _ _ (hva.less rowR_less (hS6.trans less_)) (hvb.less rowR_less less_)) ?_
       rintro _ S1 ⟨rfl,q⟩
       rw [q,decide_eq_true q3];clear q S1
       refine arun_nil ⟨fun _=>less_,?_⟩
       refine dP (hc:=fun _=>(by first | exact Calm.pickT rfl rfl | exact Calm.pickF rfl rfl)) (h:=?_)
       refine dP (hc:=fun _=>Calm.move rfl) (h:=?_)
       first|refine k_d ?_|refine dG (hc:=fun _=>Calm.fieldAddr ty_field_48_4 rfl) (h:=?_)
       first|refine k_d ?_|refine dL (hc:=ldA_ (cs:=[_,_,_]) ty_agg_46 ty_size_46 rfl) (h:=?_)
       first|refine k_d ?_|refine dG (hc:=fun _=>Calm.fieldAddr ty_field_48_4 rfl) (h:=?_)
       first|refine k_d ?_|refine dL (hc:=ldA_ (cs:=[_,_,_]) ty_agg_46 ty_size_46 rfl) (h:=?_)
       refine draw_only rfl ?_
       refine ARun.callG 28 true 33 rfl (lit_lt rfl) rfl (lit_lt rfl) go_78 rfl (rselV_Same _ _ _ _ _ _ x.cnts y.cnts _ (h3.less ((hS5.trans hS6).trans less_)) (k3.less ((hS5.trans hS6).trans less_))) ?_
       rintro _ S1 ⟨rfl,q⟩
       rw [q,← Bool.decide_and,decide_eq_true q4];clear q S1
       refine arun_nil ⟨fun _=>less_,?_⟩
       refine dP (hc:=fun _=>(by first | exact Calm.pickT rfl rfl | exact Calm.pickF rfl rfl)) (h:=?_)
       refine dP (hc:=fun _=>Calm.move rfl) (h:=?_)
       first|refine k_d ?_|refine dG (hc:=fun _=>Calm.fieldAddr ty_field_48_5 rfl) (h:=?_)
       first|refine k_d ?_|refine dL (hc:=ld_ ty_plain_24 rfl) (h:=?_)
       first|refine k_d ?_|refine dG (hc:=fun _=>Calm.fieldAddr ty_field_48_5 rfl) (h:=?_)
       first|refine k_d ?_|refine dL (hc:=ld_ ty_plain_24 rfl) (h:=?_)
       refine draw_only rfl ?_
       refine ARun.callG 35 true 40 rfl (lit_lt rfl) rfl (lit_lt rfl) go_21 rfl (rlosV_SameNumbers x.plcs y.plcs _ _ _ (h4.less ((hS5.trans hS6).trans less_)) (k4.less ((hS5.trans hS6).trans less_))) ?_
       rintro _ S1 ⟨rfl,q⟩
       rw [q,decide_eq_true q5];clear q S1
       refine arun_nil ⟨fun _=>less_,?_⟩
       refine dP (hc:=fun _=>(by first | exact Calm.pickT rfl rfl | exact Calm.pickF rfl rfl)) (h:=?_)
       refine dP (hc:=fun _=>Calm.assign rfl) (h:=?_)
       refine draw_nil ?_
       refine athen_n ?_
       refine k_u [(0,_),(1,_),(2,_),(3,_),(4,_)] ?_
       refine AWP.ret ?_
       refine ⟨_,S,⟨_,_,rfl,rfl,rfl⟩,(hS5.trans hS6).trans less_,?_⟩
       exact ⟨rfl,rfl⟩
      ·rw [decide_eq_true q0,Bool.true_and,decide_eq_true q1,Bool.true_and,decide_eq_true q2,Bool.true_and,decide_eq_true q3,Bool.true_and,decide_eq_true q4,Bool.true_and,decide_eq_false q5]
       refine ACall.enter (rs:=[.tmp 4]) 47 [(0,.agg #[.string x.col,.int .i64 x.pri,.slice p1 x.fir.length c1,.slice p2 n2 c2,.string x.bits,.int .i64 x.n,.slice p3 x.cnts.length c3,.slice p4 x.plcs.length c4]),(1,.agg #[.string y.col,.int .i64 y.pri,.slice d1 y.fir.length e1,.slice d2 m2 e2,.string y.bits,.int .i64 y.n,.slice d3 y.cnts.length e3,.slice d4 y.plcs.length e4])] Try.func35 rfl rfl (Nat.le_of_ble_eq_true rfl) rfl ⟨rfl,rfl,trivial⟩ ?_
       refine k_a ?_
       refine ARun.boxA (cs:=[_,_,_,_,_,_,_,_]) (lit_lt rfl) rfl ?_
       intro b2 f2
       have g2:=f2
       repeat ((with_reducible replace g2:=fresh_set g2);obtain ⟨g2,_⟩:=g2)
       try simp only [k_l1,k_l0,k_za,Nat.reduceAdd]
       refine ARun.boxA (cs:=[_,_,_,_,_,_,_,_]) (lit_lt rfl) rfl ?_
       intro b3 f3
       have g3:=f3
       repeat ((with_reducible replace g3:=fresh_set g3);obtain ⟨g3,_⟩:=g3)
       try simp only [k_l1,k_l0,k_za,Nat.reduceAdd]
       refine k_e rfl (AWP.seq ?_)
       refine AWP.draw [(0,true),(1,true),(2,true),(3,true),(4,true),(5,true),(6,true),(7,true),(8,true),(9,true),(10,true),(11,true),(12,true),(13,true),(14,true),(15,true),(16,true),(17,false),(18,true),(19,true),(20,true),(21,true),(23,true),(24,true),(22,false),(25,false),(26,false),(27,true),(28,true),(29,true),(30,true),(31,true),(32,true),(33,false),(34,true),(35,true),(36,true),(37,true),(38,true),(39,true),(40,false),(41,true),(42,true)] [] mixed (by kernel_rfl) ?_
       refine dP (hc:=fun _=>Calm.fieldAddr ty_field_48_0 rfl) (h:=?_)
       refine dC (hc:=ld_ ty_plain_9 rfl) (h:=?_)
       refine dP (hc:=fun _=>Calm.fieldAddr ty_field_48_0 rfl) (h:=?_)
       refine dC (hc:=ld_ ty_plain_9 rfl) (h:=?_)
       refine dP (hc:=fun _=>Calm.bin rfl rfl (bin_bool (bin_str_eql _ _) (decide_eq_true q0))) (h:=?_)
       refine dP (hc:=fun _=>Calm.move rfl) (h:=?_)
       first|refine k_d ?_|refine dG (hc:=fun _=>Calm.fieldAddr ty_field_48_1 rfl) (h:=?_)
       first|refine k_d ?_|refine dL (hc:=ld_ ty_plain_3 rfl) (h:=?_)
       first|refine k_d ?_|refine dG (hc:=fun _=>Calm.fieldAddr ty_field_48_1 rfl) (h:=?_)
       first|refine k_d ?_|refine dL (hc:=ld_ ty_plain_3 rfl) (h:=?_)
       first|refine k_d ?_|refine dG (hc:=fun _=>Calm.bin rfl rfl (bin_bool (bin_eql _ _) (decide_eq_true q1))) (h:=?_)
       refine dP (hc:=fun _=>(by first | exact Calm.pickT rfl rfl | exact Calm.pickF rfl rfl)) (h:=?_)
       refine dP (hc:=fun _=>Calm.move rfl) (h:=?_)
       first|refine k_d ?_|refine dG (hc:=fun _=>Calm.fieldAddr ty_field_48_2 rfl) (h:=?_)
       first|refine k_d ?_|refine dL (hc:=ld_ ty_plain_24 rfl) (h:=?_)
       first|refine k_d ?_|refine dG (hc:=fun _=>Calm.fieldAddr ty_field_48_2 rfl) (h:=?_)
       first|refine k_d ?_|refine dL (hc:=ld_ ty_plain_24 rfl) (h:=?_)
       refine draw_only rfl ?_
       refine ARun.callG 12 true 17 rfl (lit_lt rfl) rfl (lit_lt rfl) go_21 rfl (rlosV_SameNumbers x.fir y.fir _ _ _ (h1.less less_) (k1.less less_)) ?_
       rintro _ S1 ⟨rfl,q⟩
       rw [q,decide_eq_true q2];clear q S1
       refine arun_nil ⟨fun _=>less_,?_⟩
       refine dP (hc:=fun _=>(by first | exact Calm.pickT rfl rfl | exact Calm.pickF rfl rfl)) (h:=?_)
       refine dP (hc:=fun _=>Calm.move rfl) (h:=?_)
       first|refine k_d ?_|refine dG (hc:=fun _=>Calm.fieldAddr ty_field_48_3 rfl) (h:=?_)
       first|refine k_d ?_|refine dL (hc:=ld_ ty_plain_42 rfl) (h:=?_)
       first|refine k_d ?_|refine dG (hc:=fun _=>Calm.fieldAddr ty_field_48_3 rfl) (h:=?_)
       first|refine k_d ?_|refine dL (hc:=ld_ ty_plain_42 rfl) (h:=?_)
       refine draw_only rfl ?_
       refine ARun.callG 19 true 24 rfl (lit_lt rfl) rfl (lit_lt rfl) go_77 rfl ((((rfd_marks _ x.mks S h2 fx.1 fx.2).frame f2).frame f3)) ?_
       rintro va _ ⟨_,⟨S5,⟨hS5,hva⟩,fa2,rfl⟩,fa3,rfl⟩
       have ga3:=fa3
       repeat ((with_reducible replace ga3:=fresh_set ga3);obtain ⟨ga3,_⟩:=ga3)
       refine arun_nil ⟨fun _=>less_,?_⟩
       refine draw_only rfl ?_
       refine ARun.callG 19 true 24 rfl (lit_lt rfl) rfl (lit_lt rfl) go_77 rfl ((((rfd_marks _ y.mks S5 (k2.less intsV_less hS5) fy.1 fy.2).frame fa2).frame fa3)) ?_
       rintro vb _ ⟨_,⟨S6,⟨hS6,hvb⟩,fb2,rfl⟩,fb3,rfl⟩
       have hS56:=hS5.trans hS6
       have gb3:=fb3
       repeat ((with_reducible replace gb3:=fresh_set gb3);obtain ⟨gb3,_⟩:=gb3)
       refine arun_nil ⟨fun _=>less_,?_⟩
       refine draw_only rfl ?_
       refine ARun.callG 19 true 24 rfl (lit_lt rfl) rfl (lit_lt rfl) go_76 rfl (rfd_Same30 _ _ _ _ _ (hva.less rowR_less (hS6.trans less_)) (hvb.less rowR_less less_)) ?_
       rintro _ S1 ⟨rfl,q⟩
       rw [q,decide_eq_true q3];clear q S1
       refine arun_nil ⟨fun _=>less_,?_⟩
       refine dP (hc:=fun _=>(by first | exact Calm.pickT rfl rfl | exact Calm.pickF rfl rfl)) (h:=?_)
       refine dP (hc:=fun _=>Calm.move rfl) (h:=?_)
       first|refine k_d ?_|refine dG (hc:=fun _=>Calm.fieldAddr ty_field_48_4 rfl) (h:=?_)
       first|refine k_d ?_|refine dL (hc:=ldA_ (cs:=[_,_,_]) ty_agg_46 ty_size_46 rfl) (h:=?_)
       first|refine k_d ?_|refine dG (hc:=fun _=>Calm.fieldAddr ty_field_48_4 rfl) (h:=?_)
       first|refine k_d ?_|refine dL (hc:=ldA_ (cs:=[_,_,_]) ty_agg_46 ty_size_46 rfl) (h:=?_)
       refine draw_only rfl ?_
       refine ARun.callG 28 true 33 rfl (lit_lt rfl) rfl (lit_lt rfl) go_78 rfl (rselV_Same _ _ _ _ _ _ x.cnts y.cnts _ (h3.less ((hS5.trans hS6).trans less_)) (k3.less ((hS5.trans hS6).trans less_))) ?_
       rintro _ S1 ⟨rfl,q⟩
       rw [q,← Bool.decide_and,decide_eq_true q4];clear q S1
       refine arun_nil ⟨fun _=>less_,?_⟩
       refine dP (hc:=fun _=>(by first | exact Calm.pickT rfl rfl | exact Calm.pickF rfl rfl)) (h:=?_)
       refine dP (hc:=fun _=>Calm.move rfl) (h:=?_)
       first|refine k_d ?_|refine dG (hc:=fun _=>Calm.fieldAddr ty_field_48_5 rfl) (h:=?_)
       first|refine k_d ?_|refine dL (hc:=ld_ ty_plain_24 rfl) (h:=?_)
       first|refine k_d ?_|refine dG (hc:=fun _=>Calm.fieldAddr ty_field_48_5 rfl) (h:=?_)
       first|refine k_d ?_|refine dL (hc:=ld_ ty_plain_24 rfl) (h:=?_)
       refine draw_only rfl ?_
       refine ARun.callG 35 true 40 rfl (lit_lt rfl) rfl (lit_lt rfl) go_21 rfl (rlosV_SameNumbers x.plcs y.plcs _ _ _ (h4.less ((hS5.trans hS6).trans less_)) (k4.less ((hS5.trans hS6).trans less_))) ?_
       rintro _ S1 ⟨rfl,q⟩
       rw [q,decide_eq_false q5];clear q S1
       refine arun_nil ⟨fun _=>less_,?_⟩
       refine dP (hc:=fun _=>(by first | exact Calm.pickT rfl rfl | exact Calm.pickF rfl rfl)) (h:=?_)
       refine dP (hc:=fun _=>Calm.assign rfl) (h:=?_)
       refine draw_nil ?_
       refine athen_n ?_
       refine k_u [(0,_),(1,_),(2,_),(3,_),(4,_)] ?_
       refine AWP.ret ?_
       refine ⟨_,S,⟨_,_,rfl,rfl,rfl⟩,(hS5.trans hS6).trans less_,?_⟩
       exact ⟨rfl,rfl⟩
     ·rw [decide_eq_true q0,Bool.true_and,decide_eq_true q1,Bool.true_and,decide_eq_true q2,Bool.true_and,decide_eq_true q3,Bool.true_and,decide_eq_false q4,Bool.false_and]
      refine ACall.enter (rs:=[.tmp 4]) 47 [(0,.agg #[.string x.col,.int .i64 x.pri,.slice p1 x.fir.length c1,.slice p2 n2 c2,.string x.bits,.int .i64 x.n,.slice p3 x.cnts.length c3,.slice p4 x.plcs.length c4]),(1,.agg #[.string y.col,.int .i64 y.pri,.slice d1 y.fir.length e1,.slice d2 m2 e2,.string y.bits,.int .i64 y.n,.slice d3 y.cnts.length e3,.slice d4 y.plcs.length e4])] Try.func35 rfl rfl (Nat.le_of_ble_eq_true rfl) rfl ⟨rfl,rfl,trivial⟩ ?_
      refine k_a ?_
      refine ARun.boxA (cs:=[_,_,_,_,_,_,_,_]) (lit_lt rfl) rfl ?_
      intro b2 f2
      have g2:=f2
      repeat ((with_reducible replace g2:=fresh_set g2);obtain ⟨g2,_⟩:=g2)
      try simp only [k_l1,k_l0,k_za,Nat.reduceAdd]
      refine ARun.boxA (cs:=[_,_,_,_,_,_,_,_]) (lit_lt rfl) rfl ?_
      intro b3 f3
      have g3:=f3
      repeat ((with_reducible replace g3:=fresh_set g3);obtain ⟨g3,_⟩:=g3)
      try simp only [k_l1,k_l0,k_za,Nat.reduceAdd]
      refine k_e rfl (AWP.seq ?_)
      refine AWP.draw [(0,true),(1,true),(2,true),(3,true),(4,true),(5,true),(6,true),(7,true),(8,true),(9,true),(10,true),(11,true),(12,true),(13,true),(14,true),(15,true),(16,true),(17,false),(18,true),(19,true),(20,true),(21,true),(23,true),(24,true),(22,false),(25,false),(26,false),(27,true),(28,true),(29,true),(30,true),(31,true),(32,true),(33,false),(34,true),(35,true),(36,true),(37,true),(38,true),(39,true),(40,false),(41,true),(42,true)] [] mixed (by kernel_rfl) ?_
      refine dP (hc:=fun _=>Calm.fieldAddr ty_field_48_0 rfl) (h:=?_)
      refine dC (hc:=ld_ ty_plain_9 rfl) (h:=?_)
      refine dP (hc:=fun _=>Calm.fieldAddr ty_field_48_0 rfl) (h:=?_)
      refine dC (hc:=ld_ ty_plain_9 rfl) (h:=?_)
      refine dP (hc:=fun _=>Calm.bin rfl rfl (bin_bool (bin_str_eql _ _) (decide_eq_true q0))) (h:=?_)
      refine dP (hc:=fun _=>Calm.move rfl) (h:=?_)
      first|refine k_d ?_|refine dG (hc:=fun _=>Calm.fieldAddr ty_field_48_1 rfl) (h:=?_)
      first|refine k_d ?_|refine dL (hc:=ld_ ty_plain_3 rfl) (h:=?_)
      first|refine k_d ?_|refine dG (hc:=fun _=>Calm.fieldAddr ty_field_48_1 rfl) (h:=?_)
      first|refine k_d ?_|refine dL (hc:=ld_ ty_plain_3 rfl) (h:=?_)
      first|refine k_d ?_|refine dG (hc:=fun _=>Calm.bin rfl rfl (bin_bool (bin_eql _ _) (decide_eq_true q1))) (h:=?_)
      refine dP (hc:=fun _=>(by first | exact Calm.pickT rfl rfl | exact Calm.pickF rfl rfl)) (h:=?_)
      refine dP (hc:=fun _=>Calm.move rfl) (h:=?_)
      first|refine k_d ?_|refine dG (hc:=fun _=>Calm.fieldAddr ty_field_48_2 rfl) (h:=?_)
      first|refine k_d ?_|refine dL (hc:=ld_ ty_plain_24 rfl) (h:=?_)
      first|refine k_d ?_|refine dG (hc:=fun _=>Calm.fieldAddr ty_field_48_2 rfl) (h:=?_)
      first|refine k_d ?_|refine dL (hc:=ld_ ty_plain_24 rfl) (h:=?_)
      refine draw_only rfl ?_
      refine ARun.callG 12 true 17 rfl (lit_lt rfl) rfl (lit_lt rfl) go_21 rfl (rlosV_SameNumbers x.fir y.fir _ _ _ (h1.less less_) (k1.less less_)) ?_
      rintro _ S1 ⟨rfl,q⟩
      rw [q,decide_eq_true q2];clear q S1
      refine arun_nil ⟨fun _=>less_,?_⟩
      refine dP (hc:=fun _=>(by first | exact Calm.pickT rfl rfl | exact Calm.pickF rfl rfl)) (h:=?_)
      refine dP (hc:=fun _=>Calm.move rfl) (h:=?_)
      first|refine k_d ?_|refine dG (hc:=fun _=>Calm.fieldAddr ty_field_48_3 rfl) (h:=?_)
      first|refine k_d ?_|refine dL (hc:=ld_ ty_plain_42 rfl) (h:=?_)
      first|refine k_d ?_|refine dG (hc:=fun _=>Calm.fieldAddr ty_field_48_3 rfl) (h:=?_)
      first|refine k_d ?_|refine dL (hc:=ld_ ty_plain_42 rfl) (h:=?_)
      refine draw_only rfl ?_
      refine ARun.callG 19 true 24 rfl (lit_lt rfl) rfl (lit_lt rfl) go_77 rfl ((((rfd_marks _ x.mks S h2 fx.1 fx.2).frame f2).frame f3)) ?_
      rintro va _ ⟨_,⟨S5,⟨hS5,hva⟩,fa2,rfl⟩,fa3,rfl⟩
      have ga3:=fa3
      repeat ((with_reducible replace ga3:=fresh_set ga3);obtain ⟨ga3,_⟩:=ga3)
      refine arun_nil ⟨fun _=>less_,?_⟩
      refine draw_only rfl ?_
      refine ARun.callG 19 true 24 rfl (lit_lt rfl) rfl (lit_lt rfl) go_77 rfl ((((rfd_marks _ y.mks S5 (k2.less intsV_less hS5) fy.1 fy.2).frame fa2).frame fa3)) ?_
      rintro vb _ ⟨_,⟨S6,⟨hS6,hvb⟩,fb2,rfl⟩,fb3,rfl⟩
      have hS56:=hS5.trans hS6
      have gb3:=fb3
      repeat ((with_reducible replace gb3:=fresh_set gb3);obtain ⟨gb3,_⟩:=gb3)
      refine arun_nil ⟨fun _=>less_,?_⟩
      refine draw_only rfl ?_
      refine ARun.callG 19 true 24 rfl (lit_lt rfl) rfl (lit_lt rfl) go_76 rfl (rfd_Same30 _ _ _ _ _ (hva.less rowR_less (hS6.trans less_)) (hvb.less rowR_less less_)) ?_
      rintro _ S1 ⟨rfl,q⟩
      rw [q,decide_eq_true q3];clear q S1
      refine arun_nil ⟨fun _=>less_,?_⟩
      refine dP (hc:=fun _=>(by first | exact Calm.pickT rfl rfl | exact Calm.pickF rfl rfl)) (h:=?_)
      refine dP (hc:=fun _=>Calm.move rfl) (h:=?_)
      first|refine k_d ?_|refine dG (hc:=fun _=>Calm.fieldAddr ty_field_48_4 rfl) (h:=?_)
      first|refine k_d ?_|refine dL (hc:=ldA_ (cs:=[_,_,_]) ty_agg_46 ty_size_46 rfl) (h:=?_)
      first|refine k_d ?_|refine dG (hc:=fun _=>Calm.fieldAddr ty_field_48_4 rfl) (h:=?_)
      first|refine k_d ?_|refine dL (hc:=ldA_ (cs:=[_,_,_]) ty_agg_46 ty_size_46 rfl) (h:=?_)
      refine draw_only rfl ?_
      refine ARun.callG 28 true 33 rfl (lit_lt rfl) rfl (lit_lt rfl) go_78 rfl (rselV_Same _ _ _ _ _ _ x.cnts y.cnts _ (h3.less ((hS5.trans hS6).trans less_)) (k3.less ((hS5.trans hS6).trans less_))) ?_
      rintro _ S1 ⟨rfl,q⟩
      rw [q,← Bool.decide_and,decide_eq_false q4];clear q S1
      refine arun_nil ⟨fun _=>less_,?_⟩
      refine dP (hc:=fun _=>(by first | exact Calm.pickT rfl rfl | exact Calm.pickF rfl rfl)) (h:=?_)
      refine dP (hc:=fun _=>Calm.move rfl) (h:=?_)
      first|refine k_d ?_|refine dG (hc:=fun _=>Calm.fieldAddr ty_field_48_5 rfl) (h:=?_)
      first|refine k_d ?_|refine dL (hc:=ld_ ty_plain_24 rfl) (h:=?_)
      first|refine k_d ?_|refine dG (hc:=fun _=>Calm.fieldAddr ty_field_48_5 rfl) (h:=?_)
      first|refine k_d ?_|refine dL (hc:=ld_ ty_plain_24 rfl) (h:=?_)
      refine draw_only rfl ?_
      first | refine rS 40 ?_ | refine rU 40 ?_
      refine arun_nil ⟨fun _=>less_,?_⟩
      refine dP (hc:=fun _=>(by first | exact Calm.pickT rfl rfl | exact Calm.pickF rfl rfl)) (h:=?_)
      refine dP (hc:=fun _=>Calm.assign rfl) (h:=?_)
      refine draw_nil ?_
      refine athen_n ?_
      refine k_u [(0,_),(1,_),(2,_),(3,_),(4,_)] ?_
      refine AWP.ret ?_
      refine ⟨_,S,⟨_,_,rfl,rfl,rfl⟩,(hS5.trans hS6).trans less_,?_⟩
      exact ⟨rfl,rfl⟩
    ·rw [decide_eq_true q0,Bool.true_and,decide_eq_true q1,Bool.true_and,decide_eq_true q2,Bool.true_and,decide_eq_false q3,Bool.false_and]
     refine ACall.enter (rs:=[.tmp 4]) 47 [(0,.agg #[.string x.col,.int .i64 x.pri,.slice p1 x.fir.length c1,.slice p2 n2 c2,.string x.bits,.int .i64 x.n,.slice p3 x.cnts.length c3,.slice p4 x.plcs.length c4]),(1,.agg #[.string y.col,.int .i64 y.pri,.slice d1 y.fir.length e1,.slice d2 m2 e2,.string y.bits,.int .i64 y.n,.slice d3 y.cnts.length e3,.slice d4 y.plcs.length e4])] Try.func35 rfl rfl (Nat.le_of_ble_eq_true rfl) rfl ⟨rfl,rfl,trivial⟩ ?_
     refine k_a ?_
     refine ARun.boxA (cs:=[_,_,_,_,_,_,_,_]) (lit_lt rfl) rfl ?_
     intro b2 f2
     have g2:=f2
     repeat ((with_reducible replace g2:=fresh_set g2);obtain ⟨g2,_⟩:=g2)
     try simp only [k_l1,k_l0,k_za,Nat.reduceAdd]
     refine ARun.boxA (cs:=[_,_,_,_,_,_,_,_]) (lit_lt rfl) rfl ?_
     intro b3 f3
     have g3:=f3
     repeat ((with_reducible replace g3:=fresh_set g3);obtain ⟨g3,_⟩:=g3)
     try simp only [k_l1,k_l0,k_za,Nat.reduceAdd]
     refine k_e rfl (AWP.seq ?_)
     refine AWP.draw [(0,true),(1,true),(2,true),(3,true),(4,true),(5,true),(6,true),(7,true),(8,true),(9,true),(10,true),(11,true),(12,true),(13,true),(14,true),(15,true),(16,true),(17,false),(18,true),(19,true),(20,true),(21,true),(23,true),(24,true),(22,false),(25,false),(26,false),(27,true),(28,true),(29,true),(30,true),(31,true),(32,true),(33,false),(34,true),(35,true),(36,true),(37,true),(38,true),(39,true),(40,false),(41,true),(42,true)] [] mixed (by kernel_rfl) ?_
     refine dP (hc:=fun _=>Calm.fieldAddr ty_field_48_0 rfl) (h:=?_)
     refine dC (hc:=ld_ ty_plain_9 rfl) (h:=?_)
     refine dP (hc:=fun _=>Calm.fieldAddr ty_field_48_0 rfl) (h:=?_)
     refine dC (hc:=ld_ ty_plain_9 rfl) (h:=?_)
     refine dP (hc:=fun _=>Calm.bin rfl rfl (bin_bool (bin_str_eql _ _) (decide_eq_true q0))) (h:=?_)
     refine dP (hc:=fun _=>Calm.move rfl) (h:=?_)
     first|refine k_d ?_|refine dG (hc:=fun _=>Calm.fieldAddr ty_field_48_1 rfl) (h:=?_)
     first|refine k_d ?_|refine dL (hc:=ld_ ty_plain_3 rfl) (h:=?_)
     first|refine k_d ?_|refine dG (hc:=fun _=>Calm.fieldAddr ty_field_48_1 rfl) (h:=?_)
     first|refine k_d ?_|refine dL (hc:=ld_ ty_plain_3 rfl) (h:=?_)
     first|refine k_d ?_|refine dG (hc:=fun _=>Calm.bin rfl rfl (bin_bool (bin_eql _ _) (decide_eq_true q1))) (h:=?_)
     refine dP (hc:=fun _=>(by first | exact Calm.pickT rfl rfl | exact Calm.pickF rfl rfl)) (h:=?_)
     refine dP (hc:=fun _=>Calm.move rfl) (h:=?_)
     first|refine k_d ?_|refine dG (hc:=fun _=>Calm.fieldAddr ty_field_48_2 rfl) (h:=?_)
     first|refine k_d ?_|refine dL (hc:=ld_ ty_plain_24 rfl) (h:=?_)
     first|refine k_d ?_|refine dG (hc:=fun _=>Calm.fieldAddr ty_field_48_2 rfl) (h:=?_)
     first|refine k_d ?_|refine dL (hc:=ld_ ty_plain_24 rfl) (h:=?_)
     refine draw_only rfl ?_
     refine ARun.callG 12 true 17 rfl (lit_lt rfl) rfl (lit_lt rfl) go_21 rfl (rlosV_SameNumbers x.fir y.fir _ _ _ (h1.less less_) (k1.less less_)) ?_
     rintro _ S1 ⟨rfl,q⟩
     rw [q,decide_eq_true q2];clear q S1
     refine arun_nil ⟨fun _=>less_,?_⟩
     refine dP (hc:=fun _=>(by first | exact Calm.pickT rfl rfl | exact Calm.pickF rfl rfl)) (h:=?_)
     refine dP (hc:=fun _=>Calm.move rfl) (h:=?_)
     first|refine k_d ?_|refine dG (hc:=fun _=>Calm.fieldAddr ty_field_48_3 rfl) (h:=?_)
     first|refine k_d ?_|refine dL (hc:=ld_ ty_plain_42 rfl) (h:=?_)
     first|refine k_d ?_|refine dG (hc:=fun _=>Calm.fieldAddr ty_field_48_3 rfl) (h:=?_)
     first|refine k_d ?_|refine dL (hc:=ld_ ty_plain_42 rfl) (h:=?_)
     refine draw_only rfl ?_
     refine ARun.callG 19 true 24 rfl (lit_lt rfl) rfl (lit_lt rfl) go_77 rfl ((((rfd_marks _ x.mks S h2 fx.1 fx.2).frame f2).frame f3)) ?_
     rintro va _ ⟨_,⟨S5,⟨hS5,hva⟩,fa2,rfl⟩,fa3,rfl⟩
     have ga3:=fa3
     repeat ((with_reducible replace ga3:=fresh_set ga3);obtain ⟨ga3,_⟩:=ga3)
     refine arun_nil ⟨fun _=>less_,?_⟩
     refine draw_only rfl ?_
     refine ARun.callG 19 true 24 rfl (lit_lt rfl) rfl (lit_lt rfl) go_77 rfl ((((rfd_marks _ y.mks S5 (k2.less intsV_less hS5) fy.1 fy.2).frame fa2).frame fa3)) ?_
     rintro vb _ ⟨_,⟨S6,⟨hS6,hvb⟩,fb2,rfl⟩,fb3,rfl⟩
     have hS56:=hS5.trans hS6
     have gb3:=fb3
     repeat ((with_reducible replace gb3:=fresh_set gb3);obtain ⟨gb3,_⟩:=gb3)
     refine arun_nil ⟨fun _=>less_,?_⟩
     refine draw_only rfl ?_
     refine ARun.callG 19 true 24 rfl (lit_lt rfl) rfl (lit_lt rfl) go_76 rfl (rfd_Same30 _ _ _ _ _ (hva.less rowR_less (hS6.trans less_)) (hvb.less rowR_less less_)) ?_
     rintro _ S1 ⟨rfl,q⟩
     rw [q,decide_eq_false q3];clear q S1
     refine arun_nil ⟨fun _=>less_,?_⟩
     refine dP (hc:=fun _=>(by first | exact Calm.pickT rfl rfl | exact Calm.pickF rfl rfl)) (h:=?_)
     refine dP (hc:=fun _=>Calm.move rfl) (h:=?_)
     first|refine k_d ?_|refine dG (hc:=fun _=>Calm.fieldAddr ty_field_48_4 rfl) (h:=?_)
     first|refine k_d ?_|refine dL (hc:=ldA_ (cs:=[_,_,_]) ty_agg_46 ty_size_46 rfl) (h:=?_)
     first|refine k_d ?_|refine dG (hc:=fun _=>Calm.fieldAddr ty_field_48_4 rfl) (h:=?_)
     first|refine k_d ?_|refine dL (hc:=ldA_ (cs:=[_,_,_]) ty_agg_46 ty_size_46 rfl) (h:=?_)
     refine draw_only rfl ?_
     first | refine rS 33 ?_ | refine rU 33 ?_
     refine arun_nil ⟨fun _=>less_,?_⟩
     refine dP (hc:=fun _=>(by first | exact Calm.pickT rfl rfl | exact Calm.pickF rfl rfl)) (h:=?_)
     refine dP (hc:=fun _=>Calm.move rfl) (h:=?_)
     first|refine k_d ?_|refine dG (hc:=fun _=>Calm.fieldAddr ty_field_48_5 rfl) (h:=?_)
     first|refine k_d ?_|refine dL (hc:=ld_ ty_plain_24 rfl) (h:=?_)
     first|refine k_d ?_|refine dG (hc:=fun _=>Calm.fieldAddr ty_field_48_5 rfl) (h:=?_)
     first|refine k_d ?_|refine dL (hc:=ld_ ty_plain_24 rfl) (h:=?_)
     refine draw_only rfl ?_
     first | refine rS 40 ?_ | refine rU 40 ?_
     refine arun_nil ⟨fun _=>less_,?_⟩
     refine dP (hc:=fun _=>(by first | exact Calm.pickT rfl rfl | exact Calm.pickF rfl rfl)) (h:=?_)
     refine dP (hc:=fun _=>Calm.assign rfl) (h:=?_)
     refine draw_nil ?_
     refine athen_n ?_
     refine k_u [(0,_),(1,_),(2,_),(3,_),(4,_)] ?_
     refine AWP.ret ?_
     refine ⟨_,S,⟨_,_,rfl,rfl,rfl⟩,(hS5.trans hS6).trans less_,?_⟩
     exact ⟨rfl,rfl⟩
   ·rw [decide_eq_true q0,Bool.true_and,decide_eq_true q1,Bool.true_and,decide_eq_false q2,Bool.false_and]
    refine ACall.enter (rs:=[.tmp 4]) 47 [(0,.agg #[.string x.col,.int .i64 x.pri,.slice p1 x.fir.length c1,.slice p2 n2 c2,.string x.bits,.int .i64 x.n,.slice p3 x.cnts.length c3,.slice p4 x.plcs.length c4]),(1,.agg #[.string y.col,.int .i64 y.pri,.slice d1 y.fir.length e1,.slice d2 m2 e2,.string y.bits,.int .i64 y.n,.slice d3 y.cnts.length e3,.slice d4 y.plcs.length e4])] Try.func35 rfl rfl (Nat.le_of_ble_eq_true rfl) rfl ⟨rfl,rfl,trivial⟩ ?_
    refine k_a ?_
    refine ARun.boxA (cs:=[_,_,_,_,_,_,_,_]) (lit_lt rfl) rfl ?_
    intro b2 f2
    have g2:=f2
    repeat ((with_reducible replace g2:=fresh_set g2);obtain ⟨g2,_⟩:=g2)
    try simp only [k_l1,k_l0,k_za,Nat.reduceAdd]
    refine ARun.boxA (cs:=[_,_,_,_,_,_,_,_]) (lit_lt rfl) rfl ?_
    intro b3 f3
    have g3:=f3
    repeat ((with_reducible replace g3:=fresh_set g3);obtain ⟨g3,_⟩:=g3)
    try simp only [k_l1,k_l0,k_za,Nat.reduceAdd]
    refine k_e rfl (AWP.seq ?_)
    refine AWP.draw [(0,true),(1,true),(2,true),(3,true),(4,true),(5,true),(6,true),(7,true),(8,true),(9,true),(10,true),(11,true),(12,true),(13,true),(14,true),(15,true),(16,true),(17,false),(18,true),(19,true),(20,true),(21,true),(23,true),(24,true),(22,false),(25,false),(26,false),(27,true),(28,true),(29,true),(30,true),(31,true),(32,true),(33,false),(34,true),(35,true),(36,true),(37,true),(38,true),(39,true),(40,false),(41,true),(42,true)] [] mixed (by kernel_rfl) ?_
    refine dP (hc:=fun _=>Calm.fieldAddr ty_field_48_0 rfl) (h:=?_)
    refine dC (hc:=ld_ ty_plain_9 rfl) (h:=?_)
    refine dP (hc:=fun _=>Calm.fieldAddr ty_field_48_0 rfl) (h:=?_)
    refine dC (hc:=ld_ ty_plain_9 rfl) (h:=?_)
    refine dP (hc:=fun _=>Calm.bin rfl rfl (bin_bool (bin_str_eql _ _) (decide_eq_true q0))) (h:=?_)
    refine dP (hc:=fun _=>Calm.move rfl) (h:=?_)
    first|refine k_d ?_|refine dG (hc:=fun _=>Calm.fieldAddr ty_field_48_1 rfl) (h:=?_)
    first|refine k_d ?_|refine dL (hc:=ld_ ty_plain_3 rfl) (h:=?_)
    first|refine k_d ?_|refine dG (hc:=fun _=>Calm.fieldAddr ty_field_48_1 rfl) (h:=?_)
    first|refine k_d ?_|refine dL (hc:=ld_ ty_plain_3 rfl) (h:=?_)
    first|refine k_d ?_|refine dG (hc:=fun _=>Calm.bin rfl rfl (bin_bool (bin_eql _ _) (decide_eq_true q1))) (h:=?_)
    refine dP (hc:=fun _=>(by first | exact Calm.pickT rfl rfl | exact Calm.pickF rfl rfl)) (h:=?_)
    refine dP (hc:=fun _=>Calm.move rfl) (h:=?_)
    first|refine k_d ?_|refine dG (hc:=fun _=>Calm.fieldAddr ty_field_48_2 rfl) (h:=?_)
    first|refine k_d ?_|refine dL (hc:=ld_ ty_plain_24 rfl) (h:=?_)
    first|refine k_d ?_|refine dG (hc:=fun _=>Calm.fieldAddr ty_field_48_2 rfl) (h:=?_)
    first|refine k_d ?_|refine dL (hc:=ld_ ty_plain_24 rfl) (h:=?_)
    refine draw_only rfl ?_
    refine ARun.callG 12 true 17 rfl (lit_lt rfl) rfl (lit_lt rfl) go_21 rfl (rlosV_SameNumbers x.fir y.fir _ _ _ (h1.less less_) (k1.less less_)) ?_
    rintro _ S1 ⟨rfl,q⟩
    rw [q,decide_eq_false q2];clear q S1
    refine arun_nil ⟨fun _=>less_,?_⟩
    refine dP (hc:=fun _=>(by first | exact Calm.pickT rfl rfl | exact Calm.pickF rfl rfl)) (h:=?_)
    refine dP (hc:=fun _=>Calm.move rfl) (h:=?_)
    first|refine k_d ?_|refine dG (hc:=fun _=>Calm.fieldAddr ty_field_48_3 rfl) (h:=?_)
    first|refine k_d ?_|refine dL (hc:=ld_ ty_plain_42 rfl) (h:=?_)
    first|refine k_d ?_|refine dG (hc:=fun _=>Calm.fieldAddr ty_field_48_3 rfl) (h:=?_)
    first|refine k_d ?_|refine dL (hc:=ld_ ty_plain_42 rfl) (h:=?_)
    refine draw_only rfl ?_
    first | refine rS 24 ?_ | refine rU 24 ?_
    refine arun_nil ⟨fun _=>less_,?_⟩
    refine draw_only rfl ?_
    first | refine rS 24 ?_ | refine rU 24 ?_
    refine arun_nil ⟨fun _=>less_,?_⟩
    refine draw_only rfl ?_
    first | refine rS 24 ?_ | refine rU 24 ?_
    refine arun_nil ⟨fun _=>less_,?_⟩
    refine dP (hc:=fun _=>(by first | exact Calm.pickT rfl rfl | exact Calm.pickF rfl rfl)) (h:=?_)
    refine dP (hc:=fun _=>Calm.move rfl) (h:=?_)
    first|refine k_d ?_|refine dG (hc:=fun _=>Calm.fieldAddr ty_field_48_4 rfl) (h:=?_)
    first|refine k_d ?_|refine dL (hc:=ldA_ (cs:=[_,_,_]) ty_agg_46 ty_size_46 rfl) (h:=?_)
    first|refine k_d ?_|refine dG (hc:=fun _=>Calm.fieldAddr ty_field_48_4 rfl) (h:=?_)
    first|refine k_d ?_|refine dL (hc:=ldA_ (cs:=[_,_,_]) ty_agg_46 ty_size_46 rfl) (h:=?_)
    refine draw_only rfl ?_
    first | refine rS 33 ?_ | refine rU 33 ?_
    refine arun_nil ⟨fun _=>less_,?_⟩
    refine dP (hc:=fun _=>(by first | exact Calm.pickT rfl rfl | exact Calm.pickF rfl rfl)) (h:=?_)
    refine dP (hc:=fun _=>Calm.move rfl) (h:=?_)
    first|refine k_d ?_|refine dG (hc:=fun _=>Calm.fieldAddr ty_field_48_5 rfl) (h:=?_)
    first|refine k_d ?_|refine dL (hc:=ld_ ty_plain_24 rfl) (h:=?_)
    first|refine k_d ?_|refine dG (hc:=fun _=>Calm.fieldAddr ty_field_48_5 rfl) (h:=?_)
    first|refine k_d ?_|refine dL (hc:=ld_ ty_plain_24 rfl) (h:=?_)
    refine draw_only rfl ?_
    first | refine rS 40 ?_ | refine rU 40 ?_
    refine arun_nil ⟨fun _=>less_,?_⟩
    refine dP (hc:=fun _=>(by first | exact Calm.pickT rfl rfl | exact Calm.pickF rfl rfl)) (h:=?_)
    refine dP (hc:=fun _=>Calm.assign rfl) (h:=?_)
    refine draw_nil ?_
    refine athen_n ?_
    refine k_u [(0,_),(1,_),(2,_),(3,_),(4,_)] ?_
    refine AWP.ret ?_
    refine ⟨_,S,⟨_,_,rfl,rfl,rfl⟩,less_,?_⟩
    exact ⟨rfl,rfl⟩
  ·rw [decide_eq_true q0,Bool.true_and,decide_eq_false q1,Bool.false_and]
   refine ACall.enter (rs:=[.tmp 4]) 47 [(0,.agg #[.string x.col,.int .i64 x.pri,.slice p1 x.fir.length c1,.slice p2 n2 c2,.string x.bits,.int .i64 x.n,.slice p3 x.cnts.length c3,.slice p4 x.plcs.length c4]),(1,.agg #[.string y.col,.int .i64 y.pri,.slice d1 y.fir.length e1,.slice d2 m2 e2,.string y.bits,.int .i64 y.n,.slice d3 y.cnts.length e3,.slice d4 y.plcs.length e4])] Try.func35 rfl rfl (Nat.le_of_ble_eq_true rfl) rfl ⟨rfl,rfl,trivial⟩ ?_
   refine k_a ?_
   refine ARun.boxA (cs:=[_,_,_,_,_,_,_,_]) (lit_lt rfl) rfl ?_
   intro b2 f2
   have g2:=f2
   repeat ((with_reducible replace g2:=fresh_set g2);obtain ⟨g2,_⟩:=g2)
   try simp only [k_l1,k_l0,k_za,Nat.reduceAdd]
   refine ARun.boxA (cs:=[_,_,_,_,_,_,_,_]) (lit_lt rfl) rfl ?_
   intro b3 f3
   have g3:=f3
   repeat ((with_reducible replace g3:=fresh_set g3);obtain ⟨g3,_⟩:=g3)
   try simp only [k_l1,k_l0,k_za,Nat.reduceAdd]
   refine k_e rfl (AWP.seq ?_)
   refine AWP.draw [(0,true),(1,true),(2,true),(3,true),(4,true),(5,true),(6,true),(7,true),(8,true),(9,true),(10,true),(11,true),(12,true),(13,true),(14,true),(15,true),(16,true),(17,false),(18,true),(19,true),(20,true),(21,true),(23,true),(24,true),(22,false),(25,false),(26,false),(27,true),(28,true),(29,true),(30,true),(31,true),(32,true),(33,false),(34,true),(35,true),(36,true),(37,true),(38,true),(39,true),(40,false),(41,true),(42,true)] [] mixed (by kernel_rfl) ?_
   refine dP (hc:=fun _=>Calm.fieldAddr ty_field_48_0 rfl) (h:=?_)
   refine dC (hc:=ld_ ty_plain_9 rfl) (h:=?_)
   refine dP (hc:=fun _=>Calm.fieldAddr ty_field_48_0 rfl) (h:=?_)
   refine dC (hc:=ld_ ty_plain_9 rfl) (h:=?_)
   refine dP (hc:=fun _=>Calm.bin rfl rfl (bin_bool (bin_str_eql _ _) (decide_eq_true q0))) (h:=?_)
   refine dP (hc:=fun _=>Calm.move rfl) (h:=?_)
   first|refine k_d ?_|refine dG (hc:=fun _=>Calm.fieldAddr ty_field_48_1 rfl) (h:=?_)
   first|refine k_d ?_|refine dL (hc:=ld_ ty_plain_3 rfl) (h:=?_)
   first|refine k_d ?_|refine dG (hc:=fun _=>Calm.fieldAddr ty_field_48_1 rfl) (h:=?_)
   first|refine k_d ?_|refine dL (hc:=ld_ ty_plain_3 rfl) (h:=?_)
   first|refine k_d ?_|refine dG (hc:=fun _=>Calm.bin rfl rfl (bin_bool (bin_eql _ _) (decide_eq_false q1))) (h:=?_)
   refine dP (hc:=fun _=>(by first | exact Calm.pickT rfl rfl | exact Calm.pickF rfl rfl)) (h:=?_)
   refine dP (hc:=fun _=>Calm.move rfl) (h:=?_)
   first|refine k_d ?_|refine dG (hc:=fun _=>Calm.fieldAddr ty_field_48_2 rfl) (h:=?_)
   first|refine k_d ?_|refine dL (hc:=ld_ ty_plain_24 rfl) (h:=?_)
   first|refine k_d ?_|refine dG (hc:=fun _=>Calm.fieldAddr ty_field_48_2 rfl) (h:=?_)
   first|refine k_d ?_|refine dL (hc:=ld_ ty_plain_24 rfl) (h:=?_)
   refine draw_only rfl ?_
   first | refine rS 17 ?_ | refine rU 17 ?_
   refine arun_nil ⟨fun _=>less_,?_⟩
   refine dP (hc:=fun _=>(by first | exact Calm.pickT rfl rfl | exact Calm.pickF rfl rfl)) (h:=?_)
   refine dP (hc:=fun _=>Calm.move rfl) (h:=?_)
   first|refine k_d ?_|refine dG (hc:=fun _=>Calm.fieldAddr ty_field_48_3 rfl) (h:=?_)
   first|refine k_d ?_|refine dL (hc:=ld_ ty_plain_42 rfl) (h:=?_)
   first|refine k_d ?_|refine dG (hc:=fun _=>Calm.fieldAddr ty_field_48_3 rfl) (h:=?_)
   first|refine k_d ?_|refine dL (hc:=ld_ ty_plain_42 rfl) (h:=?_)
   refine draw_only rfl ?_
   first | refine rS 24 ?_ | refine rU 24 ?_
   refine arun_nil ⟨fun _=>less_,?_⟩
   refine draw_only rfl ?_
   first | refine rS 24 ?_ | refine rU 24 ?_
   refine arun_nil ⟨fun _=>less_,?_⟩
   refine draw_only rfl ?_
   first | refine rS 24 ?_ | refine rU 24 ?_
   refine arun_nil ⟨fun _=>less_,?_⟩
   refine dP (hc:=fun _=>(by first | exact Calm.pickT rfl rfl | exact Calm.pickF rfl rfl)) (h:=?_)
   refine dP (hc:=fun _=>Calm.move rfl) (h:=?_)
   first|refine k_d ?_|refine dG (hc:=fun _=>Calm.fieldAddr ty_field_48_4 rfl) (h:=?_)
   first|refine k_d ?_|refine dL (hc:=ldA_ (cs:=[_,_,_]) ty_agg_46 ty_size_46 rfl) (h:=?_)
   first|refine k_d ?_|refine dG (hc:=fun _=>Calm.fieldAddr ty_field_48_4 rfl) (h:=?_)
   first|refine k_d ?_|refine dL (hc:=ldA_ (cs:=[_,_,_]) ty_agg_46 ty_size_46 rfl) (h:=?_)
   refine draw_only rfl ?_
   first | refine rS 33 ?_ | refine rU 33 ?_
   refine arun_nil ⟨fun _=>less_,?_⟩
   refine dP (hc:=fun _=>(by first | exact Calm.pickT rfl rfl | exact Calm.pickF rfl rfl)) (h:=?_)
   refine dP (hc:=fun _=>Calm.move rfl) (h:=?_)
   first|refine k_d ?_|refine dG (hc:=fun _=>Calm.fieldAddr ty_field_48_5 rfl) (h:=?_)
   first|refine k_d ?_|refine dL (hc:=ld_ ty_plain_24 rfl) (h:=?_)
   first|refine k_d ?_|refine dG (hc:=fun _=>Calm.fieldAddr ty_field_48_5 rfl) (h:=?_)
   first|refine k_d ?_|refine dL (hc:=ld_ ty_plain_24 rfl) (h:=?_)
   refine draw_only rfl ?_
   first | refine rS 40 ?_ | refine rU 40 ?_
   refine arun_nil ⟨fun _=>less_,?_⟩
   refine dP (hc:=fun _=>(by first | exact Calm.pickT rfl rfl | exact Calm.pickF rfl rfl)) (h:=?_)
   refine dP (hc:=fun _=>Calm.assign rfl) (h:=?_)
   refine draw_nil ?_
   refine athen_n ?_
   refine k_u [(0,_),(1,_),(2,_),(3,_),(4,_)] ?_
   refine AWP.ret ?_
   refine ⟨_,S,⟨_,_,rfl,rfl,rfl⟩,less_,?_⟩
   exact ⟨rfl,rfl⟩
 ·rw [decide_eq_false q0,Bool.false_and]
  refine ACall.enter (rs:=[.tmp 4]) 47 [(0,.agg #[.string x.col,.int .i64 x.pri,.slice p1 x.fir.length c1,.slice p2 n2 c2,.string x.bits,.int .i64 x.n,.slice p3 x.cnts.length c3,.slice p4 x.plcs.length c4]),(1,.agg #[.string y.col,.int .i64 y.pri,.slice d1 y.fir.length e1,.slice d2 m2 e2,.string y.bits,.int .i64 y.n,.slice d3 y.cnts.length e3,.slice d4 y.plcs.length e4])] Try.func35 rfl rfl (Nat.le_of_ble_eq_true rfl) rfl ⟨rfl,rfl,trivial⟩ ?_
  refine k_a ?_
  refine ARun.boxA (cs:=[_,_,_,_,_,_,_,_]) (lit_lt rfl) rfl ?_
  intro b2 f2
  have g2:=f2
  repeat ((with_reducible replace g2:=fresh_set g2);obtain ⟨g2,_⟩:=g2)
  try simp only [k_l1,k_l0,k_za,Nat.reduceAdd]
  refine ARun.boxA (cs:=[_,_,_,_,_,_,_,_]) (lit_lt rfl) rfl ?_
  intro b3 f3
  have g3:=f3
  repeat ((with_reducible replace g3:=fresh_set g3);obtain ⟨g3,_⟩:=g3)
  try simp only [k_l1,k_l0,k_za,Nat.reduceAdd]
  refine k_e rfl (AWP.seq ?_)
  refine AWP.draw [(0,true),(1,true),(2,true),(3,true),(4,true),(5,true),(6,true),(7,true),(8,true),(9,true),(10,true),(11,true),(12,true),(13,true),(14,true),(15,true),(16,true),(17,false),(18,true),(19,true),(20,true),(21,true),(23,true),(24,true),(22,false),(25,false),(26,false),(27,true),(28,true),(29,true),(30,true),(31,true),(32,true),(33,false),(34,true),(35,true),(36,true),(37,true),(38,true),(39,true),(40,false),(41,true),(42,true)] [] mixed (by kernel_rfl) ?_
  refine dP (hc:=fun _=>Calm.fieldAddr ty_field_48_0 rfl) (h:=?_)
  refine dC (hc:=ld_ ty_plain_9 rfl) (h:=?_)
  refine dP (hc:=fun _=>Calm.fieldAddr ty_field_48_0 rfl) (h:=?_)
  refine dC (hc:=ld_ ty_plain_9 rfl) (h:=?_)
  refine dP (hc:=fun _=>Calm.bin rfl rfl (bin_bool (bin_str_eql _ _) (decide_eq_false q0))) (h:=?_)
  refine dP (hc:=fun _=>Calm.move rfl) (h:=?_)
  first|refine k_d ?_|refine dG (hc:=fun _=>Calm.fieldAddr ty_field_48_1 rfl) (h:=?_)
  first|refine k_d ?_|refine dL (hc:=ld_ ty_plain_3 rfl) (h:=?_)
  first|refine k_d ?_|refine dG (hc:=fun _=>Calm.fieldAddr ty_field_48_1 rfl) (h:=?_)
  first|refine k_d ?_|refine dL (hc:=ld_ ty_plain_3 rfl) (h:=?_)
  first|refine k_d ?_|refine dG (hc:=fun _=>Calm.bin rfl rfl b_eql) (h:=?_)
  refine dP (hc:=fun _=>(by first | exact Calm.pickT rfl rfl | exact Calm.pickF rfl rfl)) (h:=?_)
  refine dP (hc:=fun _=>Calm.move rfl) (h:=?_)
  first|refine k_d ?_|refine dG (hc:=fun _=>Calm.fieldAddr ty_field_48_2 rfl) (h:=?_)
  first|refine k_d ?_|refine dL (hc:=ld_ ty_plain_24 rfl) (h:=?_)
  first|refine k_d ?_|refine dG (hc:=fun _=>Calm.fieldAddr ty_field_48_2 rfl) (h:=?_)
  first|refine k_d ?_|refine dL (hc:=ld_ ty_plain_24 rfl) (h:=?_)
  refine draw_only rfl ?_
  first | refine rS 17 ?_ | refine rU 17 ?_
  refine arun_nil ⟨fun _=>less_,?_⟩
  refine dP (hc:=fun _=>(by first | exact Calm.pickT rfl rfl | exact Calm.pickF rfl rfl)) (h:=?_)
  refine dP (hc:=fun _=>Calm.move rfl) (h:=?_)
  first|refine k_d ?_|refine dG (hc:=fun _=>Calm.fieldAddr ty_field_48_3 rfl) (h:=?_)
  first|refine k_d ?_|refine dL (hc:=ld_ ty_plain_42 rfl) (h:=?_)
  first|refine k_d ?_|refine dG (hc:=fun _=>Calm.fieldAddr ty_field_48_3 rfl) (h:=?_)
  first|refine k_d ?_|refine dL (hc:=ld_ ty_plain_42 rfl) (h:=?_)
  refine draw_only rfl ?_
  first | refine rS 24 ?_ | refine rU 24 ?_
  refine arun_nil ⟨fun _=>less_,?_⟩
  refine draw_only rfl ?_
  first | refine rS 24 ?_ | refine rU 24 ?_
  refine arun_nil ⟨fun _=>less_,?_⟩
  refine draw_only rfl ?_
  first | refine rS 24 ?_ | refine rU 24 ?_
  refine arun_nil ⟨fun _=>less_,?_⟩
  refine dP (hc:=fun _=>(by first | exact Calm.pickT rfl rfl | exact Calm.pickF rfl rfl)) (h:=?_)
  refine dP (hc:=fun _=>Calm.move rfl) (h:=?_)
  first|refine k_d ?_|refine dG (hc:=fun _=>Calm.fieldAddr ty_field_48_4 rfl) (h:=?_)
  first|refine k_d ?_|refine dL (hc:=ldA_ (cs:=[_,_,_]) ty_agg_46 ty_size_46 rfl) (h:=?_)
  first|refine k_d ?_|refine dG (hc:=fun _=>Calm.fieldAddr ty_field_48_4 rfl) (h:=?_)
  first|refine k_d ?_|refine dL (hc:=ldA_ (cs:=[_,_,_]) ty_agg_46 ty_size_46 rfl) (h:=?_)
  refine draw_only rfl ?_
  first | refine rS 33 ?_ | refine rU 33 ?_
  refine arun_nil ⟨fun _=>less_,?_⟩
  refine dP (hc:=fun _=>(by first | exact Calm.pickT rfl rfl | exact Calm.pickF rfl rfl)) (h:=?_)
  refine dP (hc:=fun _=>Calm.move rfl) (h:=?_)
  first|refine k_d ?_|refine dG (hc:=fun _=>Calm.fieldAddr ty_field_48_5 rfl) (h:=?_)
  first|refine k_d ?_|refine dL (hc:=ld_ ty_plain_24 rfl) (h:=?_)
  first|refine k_d ?_|refine dG (hc:=fun _=>Calm.fieldAddr ty_field_48_5 rfl) (h:=?_)
  first|refine k_d ?_|refine dL (hc:=ld_ ty_plain_24 rfl) (h:=?_)
  refine draw_only rfl ?_
  first | refine rS 40 ?_ | refine rU 40 ?_
  refine arun_nil ⟨fun _=>less_,?_⟩
  refine dP (hc:=fun _=>(by first | exact Calm.pickT rfl rfl | exact Calm.pickF rfl rfl)) (h:=?_)
  refine dP (hc:=fun _=>Calm.assign rfl) (h:=?_)
  refine draw_nil ?_
  refine athen_n ?_
  refine k_u [(0,_),(1,_),(2,_),(3,_),(4,_)] ?_
  refine AWP.ret ?_
  refine ⟨_,S,⟨_,_,rfl,rfl,rfl⟩,less_,?_⟩
  exact ⟨rfl,rfl⟩
end Go.Proofs.Ytgidjbpgkeemiaa
namespace Go.Proofs.Ytgidjbpgkeemiaa
open Go.RowKit Go.Shelf
open Mv Num Loser Srt
set_option maxRecDepth 8000
/-! ### Whether an index is right -/
noncomputable def mkX (x : Ix) : Ix := ixP x.col x.pri.toNat (textP x.col x.pri).1
open Classical in
noncomputable def chkX (x : Ix) : Nat := if (textP x.col x.pri).2 = 0 ∧ sameX x (mkX x) = true then 0 else 2
theorem chk_two (x : Ix) : chkX x = 0 ∨ chkX x = 2 := by unfold chkX; split <;> simp
/-- A right one. -/
structure OkX (x : Ix) (p : Nat) (t : ByteArray) : Prop where
  txt : textP x.col p = (t, 0)
  is : x = ixP x.col p t
  le : p ≤ x.col.size
  small : x.col.size ≤ 4096
  col : Fd.Col (numsT t) (numsT x.col) p
  size : t.size = x.col.size
theorem chk_ok {x : Ix} (h : chkX x = 0) : ∃ p t, OkX x p t ∧ x.pri = (p : Nat) := by
 unfold chkX at h
 split at h
 case isFalse=>cases h
 rename_i hh
 obtain ⟨h1,h2⟩:=hh
 obtain ⟨p,ep,q1,q2,q3,q4⟩:=text_col h1
 refine ⟨p,(textP x.col p).1,?_,ep⟩
 unfold mkX at h2
 rw [ep] at h1 h2 q3 q4
 rw [Int.toNat_natCast] at h2
 unfold sameX at h2
 simp only [Bool.and_eq_true,decide_eq_true_eq] at h2
 obtain ⟨e1,e2,e3,⟨e4,e5⟩,e6⟩:=h2
 refine ⟨Prod.ext rfl h1,?_,q1,q2,q3,q4⟩
 cases x
 simp only at *
 subst ep
 rw [Ix.mk.injEq]
 exact ⟨rfl,rfl,e1,e2,e4,e5,e6,e3⟩
theorem ok_chk {x : Ix} {p : Nat} {t : ByteArray} (h : OkX x p t) (hp : x.pri = (p : Nat)) : chkX x = 0 := by
 unfold chkX
 have e:mkX x=x:=by unfold mkX;rw [hp,Int.toNat_natCast,h.txt];exact h.is.symm
 rw [if_pos ⟨by rw [hp,h.txt],by rw [e];simp [sameX]⟩]
/-- The fields of an index that lies somewhere. -/
theorem IxV.parts {S : Mem} {cs : List Value} {x : Ix} (h : IxV S cs x) : ∃ p1 c1 n2 p2 c2 p3 c3 p4 c4, cs = [.string x.col, .int .i64 x.pri, .slice p1 x.fir.length c1, .slice p2 n2 c2, .string x.bits, .int .i64 x.n, .slice p3 x.cnts.length c3, .slice p4 x.plcs.length c4] ∧ IntsV S (.slice p1 x.fir.length c1) x.fir ∧ SlOf IntsV S (.slice p2 n2 c2) x.mks ∧ IntsV S (.slice p3 x.cnts.length c3) x.cnts ∧ IntsV S (.slice p4 x.plcs.length c4) x.plcs := by
 obtain ⟨v2,v3,v6,v7,rfl,h1,h2,h3,h4⟩:=h
 obtain ⟨p1,c1,rfl,_⟩:=id h1
 obtain ⟨p3,c3,rfl,_⟩:=id h3
 obtain ⟨p4,c4,rfl,_⟩:=id h4
 obtain ⟨n2,p2,c2,rfl⟩ : ∃ n p c,v3 = .slice p n c:=by obtain ⟨g,_,⟨p,c,rfl,_⟩,_⟩:=id h2;exact ⟨_,_,_,rfl⟩
 exact ⟨p1,c1,n2,p2,c2,p3,c3,p4,c4,rfl,h1,h2,h3,h4⟩
theorem MkR.yes {s : ByteArray} {pp : Int} {S S' : Mem} {r : Value} (h : MkR s pp S r S') (h0 : (textP s pp).2 = 0) : ∃ p1 c1 n2 p2 c2 p3 c3 p4 c4, ∀ y, y = ixP s pp.toNat (textP s pp).1 → r = .tuple #[.agg #[.string y.col, .int .i64 y.pri, .slice p1 y.fir.length c1, .slice p2 n2 c2, .string y.bits, .int .i64 y.n, .slice p3 y.cnts.length c3, .slice p4 y.plcs.length c4], .int .i64 0] ∧ S.Less S' ∧ IxV S' [.string y.col, .int .i64 y.pri, .slice p1 y.fir.length c1, .slice p2 n2 c2, .string y.bits, .int .i64 y.n, .slice p3 y.cnts.length c3, .slice p4 y.plcs.length c4] y := by
 rcases h with ⟨_,cs,h1,h2,h3⟩ | ⟨h,_⟩
 ·obtain ⟨p1,c1,n2,p2,c2,p3,c3,p4,c4,e,_⟩:=h3.parts
  exact ⟨p1,c1,n2,p2,c2,p3,c3,p4,c4,fun y hy=>by subst hy;subst e;exact ⟨h1,h2,h3⟩⟩
 ·exact absurd h0 h
theorem MkR.no {s : ByteArray} {pp : Int} {S S' : Mem} {r : Value} (h : MkR s pp S r S') (h0 : (textP s pp).2 ≠ 0) : r = .tuple #[.agg (ixC zix (.slice none 0 0) (.slice none 0 0) (.slice none 0 0) (.slice none 0 0)).toArray, .int .i64 ((textP s pp).2 : Nat)] ∧ S' = S := by
 rcases h with ⟨h,_⟩ | ⟨_,h⟩
 ·exact absurd h h0
 ·exact h
set_option maxHeartbeats 4000000 in
theorem fd_Check (x : Ix) (cx : List Value) (S : Mem) (hx : IxV S cx x) :
  ACall Try.prog 36 #[.agg cx.toArray] S fun r S'=>r = .int .i64 (chkX x:Nat)∧S'=S:=by
 have hx0:=hx
 obtain ⟨v2,v3,v6,v7,rfl,h1,h2,h3,h4⟩:=hx
 by_cases h0:(textP x.col x.pri).2=0
 ·by_cases h5:sameX x (mkX x)=true
  ·have e:chkX x=0:=by unfold chkX;rw [if_pos ⟨h0,h5⟩]
   rw [e]
   refine ACall.enter (rs:=[.tmp 2]) 21 [(0,.agg #[.string x.col,.int .i64 x.pri,v2,v3,.string x.bits,.int .i64 x.n,v6,v7])] Try.func36 rfl rfl (Nat.le_of_ble_eq_true rfl) rfl ⟨rfl,trivial⟩ ?_
   refine k_a ?_
   refine ARun.boxA (cs:=[_,_,_,_,_,_,_,_]) (lit_lt rfl) rfl ?_
   intro b1 f1
   have g1:=f1
   repeat ((with_reducible replace g1:=fresh_set g1);obtain ⟨g1,_⟩:=g1)
   try simp only [k_l1,k_l0,k_za,Nat.reduceAdd]
   refine k_e rfl (k_a ?_)
   refine rC (Calm.fieldAddr ty_field_48_0 rfl) ?_
   refine rC (ld_ ty_plain_9 rfl) ?_
   refine rC (Calm.fieldAddr ty_field_48_1 rfl) ?_
   refine rC (ld_ ty_plain_3 rfl) ?_
   refine ARun.call (lit_lt rfl) go_33 rfl (((fd_Make x.col x.pri S).frame f1)) ?_
   rintro _ _ ⟨S1,hm,f1a,rfl⟩
   obtain ⟨p1,c1,n2,p2,c2,p3,c3,p4,c4,hyy⟩:=hm.yes h0
   obtain ⟨y,hye⟩ : ∃ y,y=ixP x.col x.pri.toNat (textP x.col x.pri).1:=⟨_,rfl⟩
   obtain ⟨rfl,hS1,hy⟩:=hyy y hye
   clear hyy hm
   refine k_m rfl ?_
   refine rC (Calm.extract rfl rfl) ?_
   refine rC (Calm.extract rfl rfl) ?_
   refine ARun.alloc (lit_lt rfl) ty_zero_48 ?_
   intro b3 f3
   have g3:=f3
   repeat ((with_reducible replace g3:=fresh_set g3);obtain ⟨g3,_⟩:=g3)
   try simp only [k_l1,k_l0,k_za,Nat.reduceAdd]
   first|refine k_A rfl rfl ty_size_48 ?_|refine k_B rfl rfl ty_size_48 ?_
   try simp only [k_ms,k_sz,k_ss,k_za,Nat.reduceAdd]
   refine k_e rfl ?_
   refine k_u [(0,_),(1,_),(2,_),(3,_),(4,_)] ?_
   refine AWP.seq (k_a (k_m rfl ?_))
   refine rC (Calm.bin rfl rfl b_neq) ?_
   refine k_m rfl ?_
   first|refine k_q 15 ?_|refine rG 15 (ldA_ (cs:=[_,_,_,_,_,_,_,_]) ty_agg_48 ty_size_48 rfl) ?_
   first|refine k_q 15 ?_|refine rG 15 (ldA_ (cs:=[_,_,_,_,_,_,_,_]) ty_agg_48 ty_size_48 rfl) ?_
   refine ARun.callG 2 false 15 rfl (lit_lt rfl) rfl (lit_lt rfl) go_79 rfl (fd_same x _ _ _ _ (hx0.less (hS1.trans less_)) (hy.less less_)) ?_
   rintro _ S2 ⟨rfl,q⟩
   rw [q];clear q S2
   rw [show sameX x y=true from by rw [hye];exact h5]
   first|refine k_q 15 ?_|refine rG 15 (Calm.un rfl (una_not _)) ?_
   first|refine k_t rfl rfl ?_|refine k_f rfl rfl ?_
   refine k_n ?_
   refine k_u [(0,_),(1,_),(2,_),(3,_),(4,_),(20,_)] ?_
   refine k_F rfl ?_
   refine k_k (k_a (k_e rfl ?_))
   refine AWP.ret ?_
   refine ⟨_,S,⟨_,_,rfl,rfl,rfl⟩,hS1.trans less_,?_⟩
   exact ⟨rfl,rfl⟩
  ·have e:chkX x=2:=by unfold chkX;rw [if_neg (fun h=>h5 h.2)]
   rw [e]
   refine ACall.enter (rs:=[.tmp 2]) 21 [(0,.agg #[.string x.col,.int .i64 x.pri,v2,v3,.string x.bits,.int .i64 x.n,v6,v7])] Try.func36 rfl rfl (Nat.le_of_ble_eq_true rfl) rfl ⟨rfl,trivial⟩ ?_
   refine k_a ?_
   refine ARun.boxA (cs:=[_,_,_,_,_,_,_,_]) (lit_lt rfl) rfl ?_
   intro b1 f1
   have g1:=f1
   repeat ((with_reducible replace g1:=fresh_set g1);obtain ⟨g1,_⟩:=g1)
   try simp only [k_l1,k_l0,k_za,Nat.reduceAdd]
   refine k_e rfl (k_a ?_)
   refine rC (Calm.fieldAddr ty_field_48_0 rfl) ?_
   refine rC (ld_ ty_plain_9 rfl) ?_
   refine rC (Calm.fieldAddr ty_field_48_1 rfl) ?_
   refine rC (ld_ ty_plain_3 rfl) ?_
   refine ARun.call (lit_lt rfl) go_33 rfl (((fd_Make x.col x.pri S).frame f1)) ?_
   rintro _ _ ⟨S1,hm,f1a,rfl⟩
   obtain ⟨p1,c1,n2,p2,c2,p3,c3,p4,c4,hyy⟩:=hm.yes h0
   obtain ⟨y,hye⟩ : ∃ y,y=ixP x.col x.pri.toNat (textP x.col x.pri).1:=⟨_,rfl⟩
   obtain ⟨rfl,hS1,hy⟩:=hyy y hye
   clear hyy hm
   refine k_m rfl ?_
   refine rC (Calm.extract rfl rfl) ?_
   refine rC (Calm.extract rfl rfl) ?_
   refine ARun.alloc (lit_lt rfl) ty_zero_48 ?_
   intro b3 f3
   have g3:=f3
   repeat ((with_reducible replace g3:=fresh_set g3);obtain ⟨g3,_⟩:=g3)
   try simp only [k_l1,k_l0,k_za,Nat.reduceAdd]
   first|refine k_A rfl rfl ty_size_48 ?_|refine k_B rfl rfl ty_size_48 ?_
   try simp only [k_ms,k_sz,k_ss,k_za,Nat.reduceAdd]
   refine k_e rfl ?_
   refine k_u [(0,_),(1,_),(2,_),(3,_),(4,_)] ?_
   refine AWP.seq (k_a (k_m rfl ?_))
   refine rC (Calm.bin rfl rfl b_neq) ?_
   refine k_m rfl ?_
   first|refine k_q 15 ?_|refine rG 15 (ldA_ (cs:=[_,_,_,_,_,_,_,_]) ty_agg_48 ty_size_48 rfl) ?_
   first|refine k_q 15 ?_|refine rG 15 (ldA_ (cs:=[_,_,_,_,_,_,_,_]) ty_agg_48 ty_size_48 rfl) ?_
   refine ARun.callG 2 false 15 rfl (lit_lt rfl) rfl (lit_lt rfl) go_79 rfl (fd_same x _ _ _ _ (hx0.less (hS1.trans less_)) (hy.less less_)) ?_
   rintro _ S2 ⟨rfl,q⟩
   rw [q];clear q S2
   rw [show sameX x y=false from by rw [hye];exact Bool.eq_false_iff.2 h5]
   first|refine k_q 15 ?_|refine rG 15 (Calm.un rfl (una_not _)) ?_
   first|refine k_t rfl rfl ?_|refine k_f rfl rfl ?_
   refine k_n ?_
   refine k_u [(0,_),(1,_),(2,_),(3,_),(4,_),(20,_)] ?_
   refine k_T rfl ?_
   refine k_a (k_e rfl ?_)
   refine k_r ?_
   refine ⟨_,S,⟨_,_,rfl,rfl,rfl⟩,hS1.trans less_,?_⟩
   exact ⟨rfl,rfl⟩
 ·have e:chkX x=2:=by unfold chkX;rw [if_neg (fun h=>h0 h.1)]
  rw [e]
  refine ACall.enter (rs:=[.tmp 2]) 21 [(0,.agg #[.string x.col,.int .i64 x.pri,v2,v3,.string x.bits,.int .i64 x.n,v6,v7])] Try.func36 rfl rfl (Nat.le_of_ble_eq_true rfl) rfl ⟨rfl,trivial⟩ ?_
  refine k_a ?_
  refine ARun.boxA (cs:=[_,_,_,_,_,_,_,_]) (lit_lt rfl) rfl ?_
  intro b1 f1
  have g1:=f1
  repeat ((with_reducible replace g1:=fresh_set g1);obtain ⟨g1,_⟩:=g1)
  try simp only [k_l1,k_l0,k_za,Nat.reduceAdd]
  refine k_e rfl (k_a ?_)
  refine rC (Calm.fieldAddr ty_field_48_0 rfl) ?_
  refine rC (ld_ ty_plain_9 rfl) ?_
  refine rC (Calm.fieldAddr ty_field_48_1 rfl) ?_
  refine rC (ld_ ty_plain_3 rfl) ?_
  refine ARun.call (lit_lt rfl) go_33 rfl (((fd_Make x.col x.pri S).frame f1)) ?_
  rintro _ _ ⟨S1,hm,f1a,rfl⟩
  obtain ⟨rfl,hSS⟩:=hm.no h0
  obtain rfl:S=S1:=hSS.symm
  clear hSS hm
  refine k_m rfl ?_
  refine rC (Calm.extract rfl rfl) ?_
  refine rC (Calm.extract rfl rfl) ?_
  refine ARun.alloc (lit_lt rfl) ty_zero_48 ?_
  intro b3 f3
  have g3:=f3
  repeat ((with_reducible replace g3:=fresh_set g3);obtain ⟨g3,_⟩:=g3)
  try simp only [k_l1,k_l0,k_za,Nat.reduceAdd]
  first|refine k_A rfl rfl ty_size_48 ?_|refine k_B rfl rfl ty_size_48 ?_
  try simp only [k_ms,k_sz,k_ss,k_za,Nat.reduceAdd]
  refine k_e rfl ?_
  refine k_u [(0,_),(1,_),(2,_),(3,_),(4,_)] ?_
  refine AWP.seq (k_a (k_m rfl ?_))
  refine rC (Calm.bin rfl rfl b_neq) ?_
  refine k_m rfl ?_
  first|refine k_q 15 ?_|refine rG 15 (ldA_ (cs:=[_,_,_,_,_,_,_,_]) ty_agg_48 ty_size_48 rfl) ?_
  first|refine k_q 15 ?_|refine rG 15 (ldA_ (cs:=[_,_,_,_,_,_,_,_]) ty_agg_48 ty_size_48 rfl) ?_
  first | refine rS 15 ?_ | refine rU 15 ?_
  first|refine k_q 15 ?_|refine rG 15 (Calm.un rfl (una_not _)) ?_
  first|refine k_t rfl rfl ?_|refine k_f rfl rfl ?_
  refine k_n ?_
  refine k_u [(0,_),(1,_),(2,_),(3,_),(4,_),(20,_)] ?_
  refine k_T rfl ?_
  refine k_a (k_e rfl ?_)
  refine k_r ?_
  refine ⟨_,S,⟨_,_,rfl,rfl,rfl⟩,less_,?_⟩
  exact ⟨rfl,rfl⟩
/-! ### A book -/
theorem slOf_idx {S : Mem} {v : Value} {l : List (List Nat)} (h : SlOf IntsV S v (l.map castL)) : SlOf IdxR S v l := by
 obtain ⟨hs,e,h1,h2⟩:=h
 refine ⟨hs,by rw [List.length_map] at e;exact e,h1,fun i hi hi'=>?_⟩
 have:=h2 i (by rw [List.length_map];exact hi) hi'
 rw [List.getElem_map] at this
 exact ints_idx this
structure Book (S : Mem) (b : Nat) (x : Ix) (p : Nat) (t : ByteArray) : Prop where
  ok : OkX x p t
  bk : BkK S b x.col p
  pl : ∃ v, S.Knows ⟨b, 7, none⟩ [v] ∧ IntsV S v x.plcs
  bits : S.Knows ⟨b, 8, none⟩ [.string x.bits]
  bv : S.Knows ⟨b, 8, none⟩ [.string x.bits, .int .i64 x.n]
  n : S.Knows ⟨b, 9, none⟩ [.int .i64 x.n]
  cnts : ∃ v, S.Knows ⟨b, 10, none⟩ [v] ∧ IntsV S v x.cnts
theorem Book.less {S S' : Mem} {b : Nat} {x : Ix} {p : Nat} {t : ByteArray} (h : Book S b x p t) (hl : S.Less S') : Book S' b x p t := by
 obtain ⟨h1,h2,⟨v,h3,h4⟩,h5,h5',h6,⟨u,h7,h8⟩⟩:=h
 exact ⟨h1,h2.less hl,⟨v,h3.less hl,h4.less hl⟩,h5.less hl,h5'.less hl,h6.less hl,⟨u,h7.less hl,h8.less hl⟩⟩
theorem book_of {S : Mem} {b : Nat} {x : Ix} {p : Nat} {t : ByteArray} {T : TypeId} {room : Nat} {v2 v3 v6 v7 : Value} (ho : OkX x p t) (hp : x.pri = (p : Nat)) (h : S.own b = some ⟨T, [.string x.col, .int .i64 x.pri, v2, v3, .string x.bits, .int .i64 x.n, v6, v7, .string x.bits, .int .i64 x.n, v6], room⟩) (h1 : IntsV S v2 x.fir) (h2 : SlOf IntsV S v3 x.mks) (h3 : IntsV S v6 x.cnts) (h4 : IntsV S v7 x.plcs) : Book S b x p t := by
 have kn:∀ (i:Nat) (v:Value),[.string x.col,.int .i64 x.pri,v2,v3,.string x.bits,.int .i64 x.n,v6,v7,.string x.bits,.int .i64 x.n,v6][i]?=some v→S.Knows ⟨b,i,none⟩ [v]:=fun i v hv=>Mem.own_knows h i _ (fun j u hj=>by
  cases j with
  | zero=>simp at hj;rw [← hj];exact hv
  | succ j=>simp at hj)
 have e1:x.fir=castL (firP x.col):=congrArg Ix.fir ho.is
 have e2:x.mks=(mksP (numsT x.col) p).map castL:=congrArg Ix.mks ho.is
 rw [e1] at h1
 rw [e2] at h2
 exact ⟨ho,⟨kn 0 _ rfl,kn 1 _ (by rw [hp];rfl),⟨v2,kn 2 _ rfl,ints_idx h1⟩,⟨v3,kn 3 _ rfl,slOf_idx h2⟩⟩,⟨v7,kn 7 _ rfl,h4⟩,kn 8 _ rfl,Mem.own_knows h 8 _ (fun j u hj=>by
  match j,hj with
  | 0,hj=>exact hj
  | 1,hj=>exact hj
  | j+2,hj=>simp at hj),kn 9 _ rfl,⟨v6,kn 10 _ rfl,h3⟩⟩
set_option maxHeartbeats 4000000 in
theorem fd_open_ok (x : Ix) (p : Nat) (t : ByteArray) (cx : List Value) (S : Mem) (hx : IxV S cx x) (ho : OkX x p t) (hp : x.pri = (p : Nat)) :
  ACall Try.prog 80 #[.agg cx.toArray] S fun r S'=>∃ b,r = .tuple #[.pointer (some ⟨b,0,none⟩),.int .i64 0]∧S.Less S'∧Book S' b x p t:=by
 have hx0:=hx
 obtain ⟨p1,c1,n2,p2,c2,p3,c3,p4,c4,rfl,h1,h2,h3,h4⟩:=hx.parts
 have e:=ok_chk ho hp
 refine ACall.enter (rs:=[.tmp 2,.tmp 3]) 16 [(0,.agg #[.string x.col,.int .i64 x.pri,.slice p1 x.fir.length c1,.slice p2 n2 c2,.string x.bits,.int .i64 x.n,.slice p3 x.cnts.length c3,.slice p4 x.plcs.length c4])] Try.func80 rfl rfl (Nat.le_of_ble_eq_true rfl) rfl ⟨rfl,trivial⟩ ?_
 refine k_a ?_
 refine ARun.boxA (cs:=[_,_,_,_,_,_,_,_]) (lit_lt rfl) rfl ?_
 intro b1 f1
 have g1:=f1
 repeat ((with_reducible replace g1:=fresh_set g1);obtain ⟨g1,_⟩:=g1)
 try simp only [k_l1,k_l0,k_za,Nat.reduceAdd]
 refine k_s rfl (k_e rfl (AWP.seq (k_a ?_)))
 refine rC (ldA_ (cs:=[_,_,_,_,_,_,_,_]) ty_agg_48 ty_size_48 rfl) ?_
 refine ARun.call (lit_lt rfl) go_36 rfl (fd_Check x _ _ (hx0.less less_)) ?_
 rintro _ S1 ⟨rfl,q⟩
 rw [q,e];clear q S1
 refine k_e rfl ?_
 refine k_u [(0,_),(1,_),(2,_),(3,_),(4,_)] ?_
 refine k_a (k_m rfl ?_)
 refine rC (Calm.bin rfl rfl b_neq) ?_
 refine k_n ?_
 refine k_u [(0,_),(1,_),(2,_),(3,_),(4,_),(8,_)] ?_
 refine k_F rfl ?_
 refine k_k (k_a ?_)
 refine rC (ldA_ (cs:=[_,_,_,_,_,_,_,_]) ty_agg_48 ty_size_48 rfl) ?_
 refine rC (Calm.fieldAddr ty_field_48_4 rfl) ?_
 refine rC (ldA_ (cs:=[_,_,_]) ty_agg_46 ty_size_46 rfl) ?_
 refine rC (Calm.build (cs:=[_,_,_]) ty_bld_89 rfl rfl) ?_
 refine rC (Calm.build (cs:=[_,_,_,_,_,_,_,_,_,_,_]) ty_bld_91 rfl rfl) ?_
 refine ARun.boxA (cs:=[_,_,_,_,_,_,_,_,_,_,_]) (lit_lt rfl) rfl ?_
 intro b15 f15
 have g15:=f15
 repeat ((with_reducible replace g15:=fresh_set g15);obtain ⟨g15,_⟩:=g15)
 try simp only [k_l1,k_l0,k_za,Nat.reduceAdd]
 refine k_s rfl (k_e rfl ?_)
 refine k_u [(0,_),(1,_),(2,_),(3,_),(4,_),(8,_)] ?_
 refine AWP.ret ?_
 refine ⟨_,_,⟨_,_,rfl,⟨_,_,rfl,rfl,rfl⟩,rfl⟩,Mem.Less.refl _,?_⟩
 exact ⟨b15,rfl,less_,book_of ho hp (Mem.own_set_same _ _ _) (h1.less less_) (h2.less intsV_less less_) (h3.less less_) (h4.less less_)⟩
set_option maxHeartbeats 4000000 in
theorem fd_open_no (x : Ix) (cx : List Value) (S : Mem) (hx : IxV S cx x) (h0 : chkX x ≠ 0) :
  ACall Try.prog 80 #[.agg cx.toArray] S fun r S'=>r = .tuple #[.pointer none,.int .i64 2]∧S'=S:=by
 have hx0:=hx
 obtain ⟨p1,c1,n2,p2,c2,p3,c3,p4,c4,rfl,h1,h2,h3,h4⟩:=hx.parts
 have e:chkX x=2:=(chk_two x).resolve_left h0
 refine ACall.enter (rs:=[.tmp 2,.tmp 3]) 16 [(0,.agg #[.string x.col,.int .i64 x.pri,.slice p1 x.fir.length c1,.slice p2 n2 c2,.string x.bits,.int .i64 x.n,.slice p3 x.cnts.length c3,.slice p4 x.plcs.length c4])] Try.func80 rfl rfl (Nat.le_of_ble_eq_true rfl) rfl ⟨rfl,trivial⟩ ?_
 refine k_a ?_
 refine ARun.boxA (cs:=[_,_,_,_,_,_,_,_]) (lit_lt rfl) rfl ?_
 intro b1 f1
 have g1:=f1
 repeat ((with_reducible replace g1:=fresh_set g1);obtain ⟨g1,_⟩:=g1)
 try simp only [k_l1,k_l0,k_za,Nat.reduceAdd]
 refine k_s rfl (k_e rfl (AWP.seq (k_a ?_)))
 refine rC (ldA_ (cs:=[_,_,_,_,_,_,_,_]) ty_agg_48 ty_size_48 rfl) ?_
 refine ARun.call (lit_lt rfl) go_36 rfl (fd_Check x _ _ (hx0.less less_)) ?_
 rintro _ S1 ⟨rfl,q⟩
 rw [q,e];clear q S1
 refine k_e rfl ?_
 refine k_u [(0,_),(1,_),(2,_),(3,_),(4,_)] ?_
 refine k_a (k_m rfl ?_)
 refine rC (Calm.bin rfl rfl b_neq) ?_
 refine k_n ?_
 refine k_u [(0,_),(1,_),(2,_),(3,_),(4,_),(8,_)] ?_
 refine k_T rfl ?_
 refine k_a (k_m rfl (k_s rfl (k_e rfl ?_)))
 refine k_u [(0,_),(1,_),(2,_),(3,_),(4,_),(8,_)] ?_
 refine k_r ?_
 refine ⟨_,S,⟨_,_,rfl,⟨_,_,rfl,rfl,rfl⟩,rfl⟩,less_,?_⟩
 exact ⟨rfl,rfl⟩
theorem drop_back (s : ByteArray) (k : Nat) (h : k < s.size) : (numsT s).drop k = byT s k :: (numsT s).drop (k + 1) := by
 rw [List.drop_eq_getElem_cons (by rw [numsT_length];exact h)]
 congr 1
 rw [← byT_getD,getD_get _ _ _ (by rw [numsT_length];exact h)]
set_option maxHeartbeats 4000000 in
theorem fd_within (b : Nat) (x : Ix) (p : Nat) (t : ByteArray) (what : ByteArray) (S : Mem) (hB : Book S b x p t) (hw : what.size ≤ 140737488355328) :
  ACall Try.prog 81 #[.pointer (some ⟨b,0,none⟩),.string what] S fun v S'=>v = .tuple #[.int .i64 (Fd.fromP (numsT t) (numsT what):Nat),.int .i64 (Fd.toP (numsT t) (numsT what):Nat)]∧S'=S:=by
 have hK:=hB.bk
 have hc:=hB.ok.col
 have hs:=hB.ok.small
 have hp:=hB.ok.le
 have ht:=hB.ok.size
 obtain ⟨s,hse⟩ : ∃ s,s=x.col:=⟨_,rfl⟩
 rw [← hse] at hK hc hs hp ht
 have k0:=hK.col
 obtain ⟨vf,k2,hv⟩:=hK.fir
 obtain ⟨fa,fc,rfl,f1,f2,f3⟩:=hv
 have hfl:(firP s).length=257:=tb_length _ _
 rw [hfl] at f1 f2 k2
 obtain ⟨fb,fo,rfl,hk⟩:=f3.resolve_left (fun e=>by rw [e] at hfl;simp at hfl)
 have hle:∀ w,Fd.fromP (numsT t) w≤s.size+1∧Fd.toP (numsT t) w≤s.size+1:=fun w=>by
  have h1:=Fd.from_le (numsT t) w
  have h2:=Fd.to_le (numsT t) w
  rw [numsT_length,ht] at h1 h2
  exact ⟨h1,h2⟩
 have hnil:(numsT what).drop what.size = []:=List.drop_of_length_le (by rw [numsT_length];exact Nat.le_refl _)
 obtain ⟨W,hW⟩ : ∃ W,W=numsT what:=⟨_,rfl⟩
 have hto0:=Fd.to_nil (numsT t)
 rw [numsT_length,ht] at hto0
 refine ACall.enter (rs:=[.tmp 4,.tmp 5]) 57 [(0,.pointer (some ⟨b,0,none⟩)),(1,.string what)] Try.func81 rfl rfl (Nat.le_of_ble_eq_true rfl) rfl ⟨rfl,rfl,trivial⟩ ?_
 refine k_a (k_s rfl (k_e rfl (AWP.seq ?_)))
 refine AWP.draw [(0,true),(1,true),(2,true),(3,true),(4,true),(5,true),(6,true),(7,true),(8,true)] [] mixed (by kernel_rfl) ?_
 refine dP (hc:=fun _=>Calm.move rfl) (h:=?_)
 refine dP (hc:=fun _=>Calm.nilCheck rfl) (h:=?_)
 refine dP (hc:=fun _=>Calm.fieldAddr ty_field_91_0 rfl) (h:=?_)
 refine dP (hc:=fun _=>Calm.fieldAddr ty_field_48_0 rfl) (h:=?_)
 refine dC (hc:=ld_ ty_plain_9 rfl) (h:=?_)
 refine dC (hc:=Calm.lenStr (strT_spec ty_str_9) rfl) (h:=?_)
 refine dP (hc:=fun _=>Calm.bin rfl rfl b_add_i64) (h:=?_)
 refine dP (hc:=fun _=>Calm.assign rfl) (h:=?_)
 refine dP (hc:=fun _=>Calm.assign rfl) (h:=?_)
 refine draw_nil ?_
 refine athen_n ?_
 refine k_u [(0,_),(1,_),(4,_),(5,_),(6,_),(7,_)] ?_
 refine AWP.seq (k_a (k_m rfl ?_))
 refine rC (Calm.lenStr (strT_spec ty_str_9) rfl) ?_
 refine rC (Calm.bin rfl rfl b_sub_i64) ?_
 refine k_e rfl ?_
 refine k_u [(0,_),(1,_),(4,_),(5,_),(6,_),(7,_),(8,_)] ?_
 refine AWP.block ?_
 refine AWP.loop (X:=Nat) (fun k=>[(0,.pointer (some ⟨b,0,none⟩)),(1,.string what),(6,.int .i64 (Fd.fromP (numsT t) (W.drop k):Nat)),(7,.int .i64 (Fd.toP (numsT t) (W.drop k):Nat)),(8,.int .i64 ((k:Int)-1))]) (fun k=>S) (fun k=>k≤what.size) (fun k=>k) (what.size) ⟨rfl,rfl,some_int (by rw [hW,hnil,Fd.from_nil];rfl),some_int (by rw [hW,hnil,hto0];omega),some_int (by omega),trivial⟩ (Mem.Less.refl _) (Nat.le_refl _) ?_
 rintro k hk1
 (try dsimp only at *)
 by_cases hkz:k=0
 ·subst hkz
  refine AWP.seq (k_a (k_m rfl ?_))
  refine rC (Calm.bin rfl rfl b_geq) ?_
  refine k_n ?_
  refine k_u [(0,_),(1,_),(6,_),(7,_),(8,_),(21,_)] ?_
  refine k_F rfl ?_
  rw [List.drop_zero,hW]
  refine AWP.exit ?_
  refine athen_exit ?_
  refine athen_exit ?_
  refine ain_same ?_
  refine athen_n ?_
  refine k_a (k_m rfl (k_m rfl (k_s rfl (k_e rfl ?_))))
  refine k_u [(0,_),(1,_),(6,_),(7,_),(8,_),(21,_),(4,_),(5,_)] ?_
  refine AWP.ret ?_
  refine ⟨_,S,⟨_,_,rfl,⟨_,_,rfl,rfl,rfl⟩,rfl⟩,less_,?_⟩
  exact ⟨rfl,rfl⟩
 ·obtain ⟨j,rfl⟩ : ∃ j,k=j+1:=⟨k-1,by omega⟩
  refine AWP.seq (k_a (k_m rfl ?_))
  refine rC (Calm.bin rfl rfl b_geq) ?_
  refine k_n ?_
  refine k_u [(0,_),(1,_),(6,_),(7,_),(8,_),(21,_)] ?_
  refine k_T rfl ?_
  obtain ⟨y,hy⟩ : ∃ y,y=byT what j:=⟨_,rfl⟩
  have hy256:y<256:=by rw [hy];exact byT_lt _ _
  have hdr:W.drop j=y :: W.drop (j+1):=by rw [hW,hy];exact drop_back what j (by omega)
  have ef:=Fd.from_cons hc y (W.drop (j+1))
  have et:=Fd.to_cons hc y (W.drop (j+1))
  rw [← hdr] at ef et
  obtain ⟨q1,q2⟩:=hle (W.drop (j+1))
  have kx:S.Knows ⟨fb,fo+y*1,none⟩ [.int .i64 (clt (numsT s) y:Nat)]:=by have:=hk y (by omega);simp only [firP,tb,List.getElem_map,List.getElem_range] at this;exact this
  have hcl:=clt_le (numsT s) y
  have hml1:=Fd.mk_le (numsT s) p (Fd.fromP (numsT t) (W.drop (j+1))) y
  have hml2:=Fd.mk_le (numsT s) p (Fd.toP (numsT t) (W.drop (j+1))) y
  rw [numsT_length] at hcl hml1 hml2
  refine k_k (AWP.seq ?_)
  refine AWP.block ?_
  refine k_a (k_m rfl (k_m rfl ?_))
  refine rC (Calm.as ((show Value.int .u8 (nb (at8 what.data.toList ((((j+1:Nat):Int)-1).toNat))) = .int .u8 (nb (at8 what.data.toList j)) by rw [show (((j+1:Nat):Int)-1).toNat=j by omega]).trans ((byT_val what j).trans (by rw [← hy]))) (Calm.indexStr (strT_spec ty_str_9) rfl rfl (by omega) (by omega))) ?_
  refine k_e rfl ?_
  refine k_u [(0,_),(1,_),(6,_),(7,_),(8,_),(21,_),(9,_)] ?_
  refine AWP.draw [(0,true),(1,true),(2,true),(3,true),(4,true),(5,true),(6,true),(7,true),(8,true),(9,true),(10,true),(11,true),(14,true),(15,true),(16,true),(17,true),(18,true),(19,true),(20,true),(21,true),(22,true),(23,true),(24,true),(25,true),(12,false),(13,true),(26,false),(27,true),(28,true),(29,true)] [] mixed (by kernel_rfl) ?_
  refine dP (hc:=fun _=>Calm.move rfl) (h:=?_)
  refine dP (hc:=fun _=>Calm.nilCheck rfl) (h:=?_)
  refine dP (hc:=fun _=>Calm.fieldAddr ty_field_91_0 rfl) (h:=?_)
  refine dP (hc:=fun _=>Calm.fieldAddr ty_field_48_2 rfl) (h:=?_)
  refine dC (hc:=ld_ ty_plain_24 rfl) (h:=?_)
  refine dP (hc:=fun _=>Calm.move rfl) (h:=?_)
  refine dP (hc:=fun _=>Calm.indexS Try.underlying24 ty_size_3 rfl rfl (by omega) (by omega)) (h:=?_)
  refine dC (hc:=ld_ ty_plain_3 rfl) (h:=?_)
  refine dP (hc:=fun _=>Calm.bin rfl rfl b_add_i64) (h:=?_)
  refine dP (hc:=fun _=>Calm.move rfl) (h:=?_)
  refine dP (hc:=fun _=>Calm.move rfl) (h:=?_)
  refine dP (hc:=fun _=>Calm.move rfl) (h:=?_)
  refine dP (hc:=fun _=>Calm.move rfl) (h:=?_)
  refine dP (hc:=fun _=>Calm.nilCheck rfl) (h:=?_)
  refine dP (hc:=fun _=>Calm.fieldAddr ty_field_91_0 rfl) (h:=?_)
  refine dP (hc:=fun _=>Calm.fieldAddr ty_field_48_2 rfl) (h:=?_)
  refine dC (hc:=ld_ ty_plain_24 rfl) (h:=?_)
  refine dP (hc:=fun _=>Calm.move rfl) (h:=?_)
  refine dP (hc:=fun _=>Calm.indexS Try.underlying24 ty_size_3 rfl rfl (by omega) (by omega)) (h:=?_)
  refine dC (hc:=ld_ ty_plain_3 rfl) (h:=?_)
  refine dP (hc:=fun _=>Calm.bin rfl rfl b_add_i64) (h:=?_)
  refine dP (hc:=fun _=>Calm.move rfl) (h:=?_)
  refine dP (hc:=fun _=>Calm.move rfl) (h:=?_)
  refine dP (hc:=fun _=>Calm.move rfl) (h:=?_)
  refine draw_only rfl ?_
  refine ARun.call (lit_lt rfl) go_118 rfl (fd_ahead _ _ b s p y _ _ hK rfl rfl hy256 q1 hp hs) ?_
  rintro _ S9 ⟨rfl,e9⟩
  rw [e9];clear e9 S9
  refine arun_nil ⟨fun _=>less_,?_⟩
  refine dP (hc:=fun _=>Calm.bin rfl rfl b_add_i64) (h:=?_)
  refine draw_only rfl ?_
  refine ARun.call (lit_lt rfl) go_118 rfl (fd_ahead _ _ b s p y _ _ hK rfl rfl hy256 q2 hp hs) ?_
  rintro _ S9 ⟨rfl,e9⟩
  rw [e9];clear e9 S9
  refine arun_nil ⟨fun _=>less_,?_⟩
  refine dP (hc:=fun _=>Calm.bin rfl rfl b_add_i64) (h:=?_)
  refine dP (hc:=fun _=>Calm.assign rfl) (h:=?_)
  refine dP (hc:=fun _=>Calm.assign rfl) (h:=?_)
  refine draw_nil ?_
  refine ain_n ?_
  refine athen_n ?_
  refine k_u [(0,_),(1,_),(6,_),(7,_),(8,_),(21,_),(9,_)] ?_
  refine AWP.region ?_
  refine k_m rfl ?_
  refine rC (Calm.bin rfl rfl b_sub_i64) ?_
  refine k_e rfl ?_
  refine ⟨j,?_,?_,?_,?_⟩
  all_goals (try dsimp only)
  ·exact ⟨sq_,sq_,some_int (by omega),some_int (by omega),some_int (by omega),trivial⟩
  ·exact Mem.Less.refl _
  ·omega
  ·omega
end Go.Proofs.Ytgidjbpgkeemiaa
namespace Go.Proofs.Ytgidjbpgkeemiaa
open Go.RowKit Go.Shelf
open Mv Num Loser Srt
set_option maxRecDepth 8000
/-- A right index's text. -/
noncomputable def txtX (x : Ix) : ByteArray := (textP x.col x.pri).1
theorem OkX.tx {x : Ix} {p : Nat} {t : ByteArray} (h : OkX x p t) (hp : x.pri = (p : Nat)) : txtX x = t := by unfold txtX; rw [hp, h.txt]
noncomputable def rangeP (x : Ix) (what : ByteArray) : Nat × Nat × Nat := if chkX x = 0 then (Fd.fromP (numsT (txtX x)) (numsT what), Fd.toP (numsT (txtX x)) (numsT what), 0) else (0, 0, 2)
theorem range_le (x : Ix) (what : ByteArray) : (rangeP x what).1 ≤ 4097 ∧ (rangeP x what).2.1 ≤ 4097 := by
 unfold rangeP
 split
 ·rename_i h
  obtain ⟨p,t,ho,hp⟩:=chk_ok h
  have h1:=Fd.from_le (numsT (txtX x)) (numsT what)
  have h2:=Fd.to_le (numsT (txtX x)) (numsT what)
  have h3:=ho.size
  have h4:=ho.small
  rw [numsT_length,ho.tx hp] at h1 h2
  rw [ho.tx hp]
  exact ⟨show Fd.fromP _ _≤4097 by omega,show Fd.toP _ _≤4097 by omega⟩
 ·exact ⟨by simp,by simp⟩
set_option maxHeartbeats 4000000 in
theorem fd_Range (x : Ix) (what : ByteArray) (cx : List Value) (S : Mem) (hx : IxV S cx x) (hw : what.size ≤ 140737488355328) :
  ACall Try.prog 38 #[.agg cx.toArray,.string what] S fun r S'=>r = .tuple #[.int .i64 ((rangeP x what).1:Nat),.int .i64 ((rangeP x what).2.1:Nat),.int .i64 ((rangeP x what).2.2:Nat)]∧S'=S:=by
 have hx0:=hx
 obtain ⟨p1,c1,n2,p2,c2,p3,c3,p4,c4,rfl,h1,h2,h3,h4⟩:=hx.parts
 unfold rangeP
 by_cases h0:chkX x=0
 ·obtain ⟨p,t,ho,hp⟩:=chk_ok h0
  rw [if_pos h0,ho.tx hp]
  refine ACall.enter (rs:=[.tmp 4,.tmp 5,.tmp 6]) 27 [(0,.agg #[.string x.col,.int .i64 x.pri,.slice p1 x.fir.length c1,.slice p2 n2 c2,.string x.bits,.int .i64 x.n,.slice p3 x.cnts.length c3,.slice p4 x.plcs.length c4]),(1,.string what)] Try.func38 rfl rfl (Nat.le_of_ble_eq_true rfl) rfl ⟨rfl,rfl,trivial⟩ ?_
  refine k_a ?_
  refine ARun.boxA (cs:=[_,_,_,_,_,_,_,_]) (lit_lt rfl) rfl ?_
  intro b2 f2
  have g2:=f2
  repeat ((with_reducible replace g2:=fresh_set g2);obtain ⟨g2,_⟩:=g2)
  try simp only [k_l1,k_l0,k_za,Nat.reduceAdd]
  refine k_s rfl (k_s rfl (k_e rfl (k_a ?_)))
  refine rC (ldA_ (cs:=[_,_,_,_,_,_,_,_]) ty_agg_48 ty_size_48 rfl) ?_
  refine ARun.call (lit_lt rfl) go_80 rfl (fd_open_ok x p t _ _ (hx0.less less_) ho hp) ?_
  rintro _ S1 ⟨b,rfl,hS1,hB⟩
  refine k_m rfl ?_
  refine rC (Calm.extract rfl rfl) ?_
  refine rC (Calm.extract rfl rfl) ?_
  refine k_s rfl (k_e rfl ?_)
  refine k_u [(0,_),(1,_),(2,_),(4,_),(5,_),(6,_),(7,_),(8,_)] ?_
  refine AWP.seq (k_a (k_m rfl ?_))
  refine rC (Calm.bin rfl rfl b_neq) ?_
  refine k_n ?_
  refine k_u [(0,_),(1,_),(2,_),(4,_),(5,_),(6,_),(7,_),(8,_),(17,_)] ?_
  refine k_F rfl ?_
  refine k_k (k_a (k_m rfl (k_m rfl ?_)))
  refine ARun.call (lit_lt rfl) go_81 rfl (fd_within b x p t what _ hB hw) ?_
  rintro _ S2 ⟨rfl,q⟩
  rw [q];clear q S2
  refine k_m rfl ?_
  refine rC (Calm.extract rfl rfl) ?_
  refine rC (Calm.extract rfl rfl) ?_
  refine k_s rfl (k_e rfl ?_)
  refine k_u [(0,_),(1,_),(2,_),(4,_),(5,_),(6,_),(7,_),(8,_),(17,_),(9,_),(10,_)] ?_
  refine k_a (k_m rfl (k_m rfl (k_s rfl (k_s rfl ?_))))
  refine k_e rfl ?_
  refine k_u [(0,_),(1,_),(2,_),(4,_),(5,_),(6,_),(7,_),(8,_),(17,_),(9,_),(10,_)] ?_
  refine AWP.ret ?_
  refine ⟨_,S,⟨_,_,rfl,⟨_,_,rfl,⟨_,_,rfl,rfl,rfl⟩,rfl⟩,rfl⟩,Mem.Less.trans less_ hS1,?_⟩
  exact ⟨rfl,rfl⟩
 ·rw [if_neg h0]
  refine ACall.enter (rs:=[.tmp 4,.tmp 5,.tmp 6]) 27 [(0,.agg #[.string x.col,.int .i64 x.pri,.slice p1 x.fir.length c1,.slice p2 n2 c2,.string x.bits,.int .i64 x.n,.slice p3 x.cnts.length c3,.slice p4 x.plcs.length c4]),(1,.string what)] Try.func38 rfl rfl (Nat.le_of_ble_eq_true rfl) rfl ⟨rfl,rfl,trivial⟩ ?_
  refine k_a ?_
  refine ARun.boxA (cs:=[_,_,_,_,_,_,_,_]) (lit_lt rfl) rfl ?_
  intro b2 f2
  have g2:=f2
  repeat ((with_reducible replace g2:=fresh_set g2);obtain ⟨g2,_⟩:=g2)
  try simp only [k_l1,k_l0,k_za,Nat.reduceAdd]
  refine k_s rfl (k_s rfl (k_e rfl (k_a ?_)))
  refine rC (ldA_ (cs:=[_,_,_,_,_,_,_,_]) ty_agg_48 ty_size_48 rfl) ?_
  refine ARun.call (lit_lt rfl) go_80 rfl (fd_open_no x _ _ (hx0.less less_) h0) ?_
  rintro _ S1 ⟨rfl,q⟩
  rw [q];clear q S1
  refine k_m rfl ?_
  refine rC (Calm.extract rfl rfl) ?_
  refine rC (Calm.extract rfl rfl) ?_
  refine k_s rfl (k_e rfl ?_)
  refine k_u [(0,_),(1,_),(2,_),(4,_),(5,_),(6,_),(7,_),(8,_)] ?_
  refine AWP.seq (k_a (k_m rfl ?_))
  refine rC (Calm.bin rfl rfl b_neq) ?_
  refine k_n ?_
  refine k_u [(0,_),(1,_),(2,_),(4,_),(5,_),(6,_),(7,_),(8,_),(17,_)] ?_
  refine k_T rfl ?_
  refine k_a (k_m rfl (k_s rfl (k_s rfl (k_e rfl ?_))))
  refine k_u [(0,_),(1,_),(2,_),(4,_),(5,_),(6,_),(7,_),(8,_),(17,_)] ?_
  refine k_r ?_
  refine ⟨_,S,⟨_,_,rfl,⟨_,_,rfl,⟨_,_,rfl,rfl,rfl⟩,rfl⟩,rfl⟩,less_,?_⟩
  exact ⟨rfl,rfl⟩
set_option maxHeartbeats 4000000 in
theorem fd_Count (x : Ix) (what : ByteArray) (cx : List Value) (S : Mem) (hx : IxV S cx x) (hw : what.size ≤ 140737488355328) :
  ACall Try.prog 40 #[.agg cx.toArray,.string what] S fun r S'=>r = .tuple #[.int .i64 (((rangeP x what).2.1:Int)-(rangeP x what).1),.int .i64 ((rangeP x what).2.2:Nat)]∧S'=S:=by
 have hx0:=hx
 obtain ⟨p1,c1,n2,p2,c2,p3,c3,p4,c4,rfl,h1,h2,h3,h4⟩:=hx.parts
 obtain ⟨q1,q2⟩:=range_le x what
 refine ACall.enter (rs:=[.tmp 4,.tmp 5]) 20 [(0,.agg #[.string x.col,.int .i64 x.pri,.slice p1 x.fir.length c1,.slice p2 n2 c2,.string x.bits,.int .i64 x.n,.slice p3 x.cnts.length c3,.slice p4 x.plcs.length c4]),(1,.string what)] Try.func40 rfl rfl (Nat.le_of_ble_eq_true rfl) rfl ⟨rfl,rfl,trivial⟩ ?_
 refine k_a ?_
 refine ARun.boxA (cs:=[_,_,_,_,_,_,_,_]) (lit_lt rfl) rfl ?_
 intro b2 f2
 have g2:=f2
 repeat ((with_reducible replace g2:=fresh_set g2);obtain ⟨g2,_⟩:=g2)
 try simp only [k_l1,k_l0,k_za,Nat.reduceAdd]
 refine k_s rfl (k_e rfl (k_a ?_))
 refine rC (ldA_ (cs:=[_,_,_,_,_,_,_,_]) ty_agg_48 ty_size_48 rfl) ?_
 refine k_m rfl ?_
 refine ARun.call (lit_lt rfl) go_38 rfl (fd_Range x what _ _ (hx0.less less_) hw) ?_
 rintro _ S1 ⟨rfl,q⟩
 rw [q];clear q S1
 refine k_m rfl ?_
 refine rC (Calm.extract rfl rfl) ?_
 refine rC (Calm.extract rfl rfl) ?_
 refine rC (Calm.extract rfl rfl) ?_
 refine k_s rfl (k_s rfl (k_e rfl ?_))
 refine k_u [(0,_),(1,_),(2,_),(4,_),(5,_),(6,_),(7,_),(8,_)] ?_
 refine k_a (k_m rfl (k_m rfl ?_))
 refine rC (Calm.bin rfl rfl b_sub_i64) ?_
 refine k_m rfl (k_s rfl (k_e rfl ?_))
 refine k_u [(0,_),(1,_),(2,_),(4,_),(5,_),(6,_),(7,_),(8,_)] ?_
 refine AWP.ret ?_
 refine ⟨_,S,⟨_,_,rfl,⟨_,_,rfl,rfl,rfl⟩,rfl⟩,less_,?_⟩
 exact ⟨rfl,rfl⟩
end Go.Proofs.Ytgidjbpgkeemiaa
namespace Go.Proofs.Ytgidjbpgkeemiaa
open Num
namespace Fd
theorem filter_at {α : Type} (q : α → Bool) : ∀ (l : List α) (i : Nat) (h : i < l.length), q l[i] = true → (l.filter q)[(l.take i).countP q]? = some l[i]
 | x :: l,0,h,hq=>by
  rw [List.getElem_cons_zero] at hq ⊢
  rw [List.filter_cons_of_pos hq];rfl
 | x :: l,i+1,h,hq=>by
  rw [List.getElem_cons_succ] at hq ⊢
  rw [List.take_succ_cons,List.countP_cons]
  have ih:=filter_at q l i (by simpa using h) hq
  by_cases hx:q x=true
  ·rw [List.filter_cons_of_pos hx,if_pos hx,List.getElem?_cons_succ];exact ih
  ·rw [List.filter_cons_of_neg hx,if_neg hx,Nat.add_zero];exact ih
theorem range_filter (a : Nat) : ∀ (m b : Nat), b ≤ m → (List.range m).filter (fun r => decide (a ≤ r) && decide (r < b)) = (List.range (b - a)).map (fun i => a + i)
 | 0,b,h=>by
  obtain rfl:b=0:=by omega
  rw [Nat.zero_sub];rfl
 | m+1,b,h=>by
  rw [List.range_succ,List.filter_append]
  by_cases hb:b≤m
  ·rw [range_filter a m b hb,List.filter_cons_of_neg (by simp;omega),List.filter_nil,List.append_nil]
  ·obtain rfl:b=m+1:=by omega
   have e:(List.range m).filter (fun r=>decide (a≤r) && decide (r<m+1))=(List.range m).filter (fun r=>decide (a≤r) && decide (r<m)):=List.filter_congr fun r hr=>by
    have:=List.mem_range.1 hr
    rw [decide_eq_true (show r<m+1 by omega),decide_eq_true this]
   rw [e,range_filter a m m (Nat.le_refl _)]
   by_cases ha:a≤m
   ·rw [List.filter_cons_of_pos (by simp [ha]),show m+1-a=(m-a)+1 by omega,List.range_succ,List.map_append]
    simp;omega
   ·rw [List.filter_cons_of_neg (by simp;omega),show m+1-a=0 by omega,show m-a=0 by omega];rfl
/-- The places at which a text has what is asked for. -/
def plcs (s w : List Nat) : List Nat := (List.range (s.length + 1)).filter (fun a => beg w (s.drop a))
theorem places (s w : List Nat) : ((List.range (toP s w - fromP s w)).map (fun i => fre s (fromP s w + i))).Perm (plcs s w) := by
 have h:=(plc_perm s).filter (fun a=>beg w (s.drop a))
 rw [plc_map,List.filter_map] at h
 have e:(List.range (s.length+1)).filter ((fun a=>beg w (s.drop a)) ∘ fre s)=(List.range (s.length+1)).filter (fun r=>decide (fromP s w≤r) && decide (r<toP s w)):=List.filter_congr fun r hr=>by
  have:=List.mem_range.1 hr
  rw [Bool.eq_iff_iff,Bool.and_eq_true,decide_eq_true_eq,decide_eq_true_eq]
  exact (in_rows s w r (by omega)).symm
 rw [e,range_filter _ _ _ (to_le s w),List.map_map] at h
 exact h
theorem plcs_up (s w : List Nat) : (plcs s w).Pairwise (· < ·) := List.Pairwise.filter _ List.pairwise_lt_range
end Fd
theorem cnt_take (L : List Bool) : ∀ i, i ≤ L.length → Sel.cnt (Bits.pack L) i = (L.take i).countP id
 | 0,_=>rfl
 | i+1,h=>by
  rw [Sel.cnt_succ,cnt_take L i (by omega),List.take_succ_eq_append_getElem (by omega),List.countP_append,Bits.isBit_pack L i (by omega),List.getElem?_eq_getElem (by omega)]
  simp [List.countP_cons]
end Go.Proofs.Ytgidjbpgkeemiaa
namespace Go.Proofs.Ytgidjbpgkeemiaa
open Go.RowKit Go.Shelf
open Mv Num Loser Srt Sel Bits
set_option maxRecDepth 8000
theorem ofP_small (L : List Bool) (h : L.length ≤ 65536) : ofP L = (bs (pack L), ((L.length : Nat) : Int), rows (pack L) L.length, 0) := by
 unfold ofP makeR
 rw [if_neg (by omega),bs_data,if_pos (chk_yes ⟨by omega,by omega,by rw [Int.toNat_natCast];exact right_pack L⟩),Int.toNat_natCast]
theorem smpR_length (t : List Nat) : (smpR t).length = t.length + 1 := by unfold smpR; rw [List.length_map, Fd.plc_length]
/-- The list of a right index's bits. -/
theorem OkX.rows {x : Ix} {p : Nat} {t : ByteArray} (h : OkX x p t) : ∃ L : List Bool, L = smpR (numsT t) ∧ L.length = x.col.size + 1 ∧ x.bits = bs (pack L) ∧ x.n = (L.length : Nat) ∧ x.cnts = Sel.rows (pack L) L.length := by
 have hl:(smpR (numsT t)).length=x.col.size+1:=by rw [smpR_length,numsT_length,h.size]
 have hs:=h.small
 have e:=ofP_small (smpR (numsT t)) (by omega)
 have e1:x.bits=(ofP (smpR (numsT t))).1:=congrArg Ix.bits h.is
 have e2:x.n=(ofP (smpR (numsT t))).2.1:=congrArg Ix.n h.is
 have e3:x.cnts=(ofP (smpR (numsT t))).2.2.1:=congrArg Ix.cnts h.is
 rw [e] at e1 e2 e3
 exact ⟨_,rfl,hl,e1,e2,e3⟩
theorem smp_at (t : List Nat) (r : Nat) (hr : r ≤ t.length) : isBit (pack (smpR t)) r = decide (Fd.fre t r % 16 = 0) := by
 have h1:=smpR_length t
 have h2:=Fd.plc_length t
 rw [isBit_pack _ _ (by omega),List.getElem?_eq_getElem (by omega)]
 unfold smpR
 rw [Option.getD_some,List.getElem_map,Fd.fre_get]
set_option maxHeartbeats 1000000 in
theorem fd_Is (b : Nat) (x : Ix) (p : Nat) (t : ByteArray) (r : Nat) (S : Mem) (hB : Book S b x p t) (hr : r ≤ x.col.size) :
  ACall Try.prog 119 #[.pointer (some ⟨b,8,none⟩),.int .i64 (r:Int)] S fun v S'=>v = .bool (decide (Fd.fre (numsT t) r % 16=0))∧S'=S:=by
 obtain ⟨L,hL,hl,e1,e2,e3⟩:=hB.ok.rows
 have hs:=hB.ok.small
 have ht:=hB.ok.size
 have kb:=hB.bv
 rw [← smp_at (numsT t) r (by rw [numsT_length];omega),← hL]
 rw [e1,e2] at kb
 have hps:=pack_length L
 obtain ⟨s,hse⟩ : ∃ s,s=bs (pack L):=⟨_,rfl⟩
 have hsd:s.data.toList=pack L:=by rw [hse,bs_data]
 have hsz:s.size=(L.length+7) / 8:=by rw [hse,bs_size,hps]
 rw [← hse] at kb
 rw [← hsd]
 have hb:num (slc s.data.toList r 1)=if isBit s.data.toList r=true then 1 else 0:=by
  have:slc s.data.toList r 1 = [isBit s.data.toList r]:=by simp [slc,List.range_succ]
  rw [this];cases isBit s.data.toList r <;> rfl
 have hat:=fun w=>bits_At s (by omega) (L.length:Nat) r 1 w (by omega) (by omega) (by omega) (by omega)
 rw [Int.toNat_natCast,show (1:Int).toNat=1 from rfl,hb] at hat
 cases hbt:isBit s.data.toList r with
 | true =>
  rw [hbt,if_pos rfl] at hat
  refine ACall.enter (rs:=[.tmp 4]) 13 [(0,.pointer (some ⟨b,8,none⟩)),(1,.int .i64 (r:Int))] Try.func119 rfl rfl (Nat.le_of_ble_eq_true rfl) rfl ⟨rfl,rfl,trivial⟩ ?_
  refine k_a (k_e rfl (k_a (k_m rfl ?_)))
  refine rC (Calm.nilCheck rfl) ?_
  refine rC (Calm.fieldAddr ty_field_89_0 rfl) ?_
  refine rC (Calm.fieldAddr ty_field_46_0 rfl) ?_
  refine rC (Calm.loadAK (cs:=[.string s,.int .i64 (L.length:Nat)]) ty_agg_44 ty_size_44 rfl kb) ?_
  refine k_m rfl ?_
  refine ARun.call (lit_lt rfl) go_144 rfl (ACall.of_calls hat) ?_
  rintro _ S1 ⟨rfl,h1⟩
  rw [h1];clear h1 S1
  refine rC (Calm.bin rfl rfl b_eql) ?_
  refine k_e rfl ?_
  refine k_u [(0,_),(1,_),(4,_)] ?_
  refine AWP.ret ?_
  refine ⟨_,S,⟨_,_,rfl,rfl,rfl⟩,less_,?_⟩
  exact ⟨rfl,rfl⟩
 | false =>
  rw [hbt,if_neg (by decide)] at hat
  refine ACall.enter (rs:=[.tmp 4]) 13 [(0,.pointer (some ⟨b,8,none⟩)),(1,.int .i64 (r:Int))] Try.func119 rfl rfl (Nat.le_of_ble_eq_true rfl) rfl ⟨rfl,rfl,trivial⟩ ?_
  refine k_a (k_e rfl (k_a (k_m rfl ?_)))
  refine rC (Calm.nilCheck rfl) ?_
  refine rC (Calm.fieldAddr ty_field_89_0 rfl) ?_
  refine rC (Calm.fieldAddr ty_field_46_0 rfl) ?_
  refine rC (Calm.loadAK (cs:=[.string s,.int .i64 (L.length:Nat)]) ty_agg_44 ty_size_44 rfl kb) ?_
  refine k_m rfl ?_
  refine ARun.call (lit_lt rfl) go_144 rfl (ACall.of_calls hat) ?_
  rintro _ S1 ⟨rfl,h1⟩
  rw [h1];clear h1 S1
  refine rC (Calm.bin rfl rfl b_eql) ?_
  refine k_e rfl ?_
  refine k_u [(0,_),(1,_),(4,_)] ?_
  refine AWP.ret ?_
  refine ⟨_,S,⟨_,_,rfl,rfl,rfl⟩,less_,?_⟩
  exact ⟨rfl,rfl⟩
set_option maxHeartbeats 1000000 in
theorem fd_Ahead (b : Nat) (x : Ix) (p : Nat) (t : ByteArray) (r : Nat) (S : Mem) (hB : Book S b x p t) (hr : r ≤ x.col.size) :
  ACall Try.prog 120 #[.pointer (some ⟨b,8,none⟩),.int .i64 (r:Int)] S fun v S'=>v = .int .i64 (Sel.cnt (pack (smpR (numsT t))) r:Nat)∧S'=S:=by
 obtain ⟨L,hL,hl,e1,e2,e3⟩:=hB.ok.rows
 have hs:=hB.ok.small
 have kb:=hB.bits
 obtain ⟨vc,kc,hv⟩:=hB.cnts
 rw [← hL]
 rw [e1] at kb
 rw [e3] at hv
 have hps:=pack_length L
 obtain ⟨s,hse⟩ : ∃ s,s=bs (pack L):=⟨_,rfl⟩
 have hsd:s.data.toList=pack L:=by rw [hse,bs_data]
 have hsz:s.size=(L.length+7) / 8:=by rw [hse,bs_size,hps]
 rw [← hse] at kb
 rw [← hsd] at hv ⊢
 have hrl:=rows_length s.data.toList L.length
 obtain ⟨pc,cc,rfl,a1,a2,a3⟩:=id hv
 obtain ⟨b0,off,rfl,hkn⟩:=a3.resolve_left (by intro h;rw [h] at hrl;simp at hrl)
 have k1:=hkn (r / 32) (by omega)
 rw [rows_get] at k1
 unfold i64s at k1
 have hc1:=Sel.cnt_le s.data.toList r
 have hc2:=Sel.cnt_mono s.data.toList (a:=32*(r / 32)) (b:=r) (by omega)
 refine ACall.enter (rs:=[.tmp 4]) 27 [(0,.pointer (some ⟨b,8,none⟩)),(1,.int .i64 (r:Int))] Try.func120 rfl rfl (Nat.le_of_ble_eq_true rfl) rfl ⟨rfl,rfl,trivial⟩ ?_
 refine k_a (k_e rfl (k_a (k_m rfl ?_)))
 refine rC (Calm.bin rfl rfl b_quo_i64) ?_
 refine k_e rfl ?_
 refine k_u [(0,_),(1,_),(4,_),(5,_)] ?_
 refine AWP.seq ?_
 refine AWP.draw [(0,true),(1,true),(2,true),(3,true),(4,true),(5,true),(6,true),(7,true),(8,true),(9,true),(10,true),(11,true),(12,true),(13,true),(14,true),(15,true),(16,true),(17,false),(18,true),(19,true)] [] mixed (by kernel_rfl) ?_
 refine dP (hc:=fun _=>Calm.move rfl) (h:=?_)
 refine dP (hc:=fun _=>Calm.nilCheck rfl) (h:=?_)
 refine dP (hc:=fun _=>Calm.fieldAddr ty_field_89_0 rfl) (h:=?_)
 refine dP (hc:=fun _=>Calm.fieldAddr ty_field_46_1 rfl) (h:=?_)
 refine dC (hc:=ld_ ty_plain_24 rfl) (h:=?_)
 refine dP (hc:=fun _=>Calm.move rfl) (h:=?_)
 refine dP (hc:=fun _=>Calm.indexS Try.underlying24 ty_size_3 rfl rfl (by omega) (by omega)) (h:=?_)
 refine dC (hc:=ld_ ty_plain_3 rfl) (h:=?_)
 refine dP (hc:=fun _=>Calm.move rfl) (h:=?_)
 refine dP (hc:=fun _=>Calm.nilCheck rfl) (h:=?_)
 refine dP (hc:=fun _=>Calm.fieldAddr ty_field_89_0 rfl) (h:=?_)
 refine dP (hc:=fun _=>Calm.fieldAddr ty_field_46_0 rfl) (h:=?_)
 refine dP (hc:=fun _=>Calm.fieldAddr ty_field_44_0 rfl) (h:=?_)
 refine dC (hc:=ld_ ty_plain_9 rfl) (h:=?_)
 refine dP (hc:=fun _=>Calm.move rfl) (h:=?_)
 refine dP (hc:=fun _=>Calm.bin rfl rfl b_mul_i64) (h:=?_)
 refine dP (hc:=fun _=>Calm.move rfl) (h:=?_)
 refine draw_only rfl ?_
 refine ARun.call (lit_lt rfl) go_145 rfl (selV_onesI s _ _ (32*(r / 32)) r _ (by omega) (by omega) (by omega) (by omega) (by omega) (by omega)) ?_
 rintro _ S1 ⟨rfl,h1⟩
 rw [h1];clear h1 S1
 refine arun_nil ⟨fun _=>less_,?_⟩
 refine dP (hc:=fun _=>Calm.bin rfl rfl b_add_i64) (h:=?_)
 refine dP (hc:=fun _=>Calm.assign rfl) (h:=?_)
 refine draw_nil ?_
 refine athen_n ?_
 refine k_u [(0,_),(1,_),(4,_),(5,_)] ?_
 rw [show (cnt s.data.toList (32*(r / 32)):Int)+(cnt s.data.toList r-cnt s.data.toList (32*(r / 32)):Nat)=(cnt s.data.toList r:Nat) from by omega]
 refine AWP.ret ?_
 refine ⟨_,S,⟨_,_,rfl,rfl,rfl⟩,less_,?_⟩
 exact ⟨rfl,rfl⟩
/-- The place that is written down for a sampled row. -/
theorem plc_at (t : List Nat) (r : Nat) (hr : r ≤ t.length) (h : Fd.fre t r % 16 = 0) : (plcR t)[Sel.cnt (pack (smpR t)) r]? = some (Fd.fre t r) := by
 have h1:=smpR_length t
 have h2:=Fd.plc_length t
 rw [cnt_take _ r (by omega)]
 have e:((smpR t).take r).countP id=((Fd.plc t).take r).countP (fun a=>decide (a % 16=0)):=by
  unfold smpR;rw [← List.map_take,List.countP_map];rfl
 rw [e]
 have:=Fd.filter_at (fun a=>decide (a % 16=0)) (Fd.plc t) r (by omega) (by rw [Fd.fre_get];exact decide_eq_true h)
 rw [Fd.fre_get] at this
 exact this
set_option maxHeartbeats 2000000 in
theorem fd_place (b : Nat) (x : Ix) (p : Nat) (t : ByteArray) (r0 : Nat) (S : Mem) (hB : Book S b x p t) (hr : r0 ≤ x.col.size) :
  ACall Try.prog 84 #[.pointer (some ⟨b,0,none⟩),.int .i64 (r0:Int)] S fun v S'=>v = .int .i64 (Fd.fre (numsT t) r0:Nat)∧S'=S:=by
 have hK:=hB.bk
 have hc:=hB.ok.col
 have hs:=hB.ok.small
 have hp:=hB.ok.le
 have ht:=hB.ok.size
 obtain ⟨vp,kp,hv⟩:=hB.pl
 have epl:x.plcs=castL (plcR (numsT t)):=congrArg Ix.plcs hB.ok.is
 rw [epl] at hv
 replace hv:=ints_idx hv
 obtain ⟨T,hT⟩ : ∃ T,T=numsT t:=⟨_,rfl⟩
 have hTl:T.length=x.col.size:=by rw [hT,numsT_length,ht]
 rw [← hT] at hc hv ⊢
 have hfle:=Fd.fre_le T r0
 refine ACall.enter (rs:=[.tmp 4]) 31 [(0,.pointer (some ⟨b,0,none⟩)),(1,.int .i64 (r0:Int))] Try.func84 rfl rfl (Nat.le_of_ble_eq_true rfl) rfl ⟨rfl,rfl,trivial⟩ ?_
 refine k_a (k_e rfl (k_a (k_e rfl (AWP.seq ?_))))
 refine AWP.block ?_
 refine AWP.loop (X:=Nat × Nat) (fun y=>[(0,.pointer (some ⟨b,0,none⟩)),(1,.int .i64 y.1),(5,.int .i64 y.2)]) (fun y=>S) (fun y=>y.1≤x.col.size∧Fd.fre T y.1+y.2=Fd.fre T r0) (fun y=>Fd.fre T y.1) ((r0,0)) ⟨rfl,rfl,rfl,trivial⟩ (Mem.Less.refl _) (⟨hr,rfl⟩) ?_
 rintro ⟨r,k⟩ ⟨hr1,hk⟩
 (try dsimp only at *)
 refine AWP.seq (k_a (k_m rfl ?_))
 refine rC (Calm.nilCheck rfl) ?_
 refine rC (Calm.fieldAddr ty_field_91_1 rfl) ?_
 refine k_m rfl ?_
 refine ARun.call (lit_lt rfl) go_119 rfl (fd_Is b x p t r _ hB hr1) ?_
 rintro _ S9 ⟨rfl,e9⟩
 rw [e9,← hT];clear e9 S9
 refine rC (Calm.un rfl (una_not _)) ?_
 refine k_n ?_
 refine k_u [(0,_),(1,_),(5,_),(11,_)] ?_
 by_cases h16:Fd.fre T r % 16=0
 ·refine k_F rfl ?_
  have hat:=plc_at T r (by omega) h16
  have hlt:=(List.getElem?_eq_some_iff.1 hat).1
  have hge:=(List.getElem?_eq_some_iff.1 hat).2
  obtain ⟨pa,pc,rfl,m1,m2,m3⟩:=hv
  obtain ⟨pb,po,rfl,hkn⟩:=m3.resolve_left (fun e=>by rw [e] at hlt;simp at hlt)
  have kx:=hkn _ hlt
  rw [hge] at kx
  unfold i64n at kx
  have hsa:=fd_Ahead b x p t r S hB hr1
  rw [← hT] at hsa
  obtain ⟨c,hcc⟩ : ∃ c,c=Sel.cnt (pack (smpR T)) r:=⟨_,rfl⟩
  rw [← hcc] at kx hlt hsa
  refine AWP.exit ?_
  refine athen_exit ?_
  refine athen_exit ?_
  refine ain_same ?_
  refine athen_n ?_
  refine AWP.seq ?_
  refine AWP.draw [(0,true),(1,true),(2,true),(3,true),(4,true),(5,true),(6,true),(7,true),(8,true),(12,true),(9,false),(10,true),(11,true),(13,true),(14,true)] [] mixed (by kernel_rfl) ?_
  refine dP (hc:=fun _=>Calm.move rfl) (h:=?_)
  refine dP (hc:=fun _=>Calm.nilCheck rfl) (h:=?_)
  refine dP (hc:=fun _=>Calm.fieldAddr ty_field_91_0 rfl) (h:=?_)
  refine dP (hc:=fun _=>Calm.fieldAddr ty_field_48_5 rfl) (h:=?_)
  refine dC (hc:=ld_ ty_plain_24 rfl) (h:=?_)
  refine dP (hc:=fun _=>Calm.move rfl) (h:=?_)
  refine dP (hc:=fun _=>Calm.nilCheck rfl) (h:=?_)
  refine dP (hc:=fun _=>Calm.fieldAddr ty_field_91_1 rfl) (h:=?_)
  refine dP (hc:=fun _=>Calm.move rfl) (h:=?_)
  refine dP (hc:=fun _=>Calm.move rfl) (h:=?_)
  refine draw_only rfl ?_
  refine ARun.call (lit_lt rfl) go_120 rfl (hsa) ?_
  rintro _ S9 ⟨rfl,e9⟩
  rw [e9];clear e9 S9
  refine arun_nil ⟨fun _=>less_,?_⟩
  refine dP (hc:=fun _=>Calm.indexS Try.underlying24 ty_size_3 rfl rfl (by omega) (by omega)) (h:=?_)
  refine dC (hc:=ld_ ty_plain_3 rfl) (h:=?_)
  refine dP (hc:=fun _=>Calm.bin rfl rfl b_add_i64) (h:=?_)
  refine dP (hc:=fun _=>Calm.assign rfl) (h:=?_)
  refine draw_nil ?_
  refine athen_n ?_
  refine k_u [(0,_),(1,_),(5,_),(11,_),(4,_)] ?_
  refine AWP.ret ?_
  refine ⟨_,S,⟨_,_,rfl,rfl,rfl⟩,less_,?_⟩
  exact ⟨congrArg (fun q:Int=>Value.int .i64 q) (by omega),rfl⟩
 ·have hne:r≠p:=fun e=>h16 (by rw [(hc.f0 (by omega)).1 e])
  have hbk:=hc.back (r:=r) (by omega) hne
  have hf0:Fd.fre T r≠0:=fun e=>h16 (by rw [e])
  have hfr:=Fd.fre_le T r
  have hrw:=(Fd.rw_ok T).le (Fd.fre T r-1) (by omega)
  have hfb:=Fd.fre_rw T (Fd.fre T r-1) (by omega)
  refine k_T rfl ?_
  refine k_k ?_
  refine AWP.block ?_
  refine k_a (k_m rfl (k_m rfl ?_))
  refine ARun.call (lit_lt rfl) go_110 rfl (fd_back _ b x.col p r _ hK rfl hr1 hp hne hs) ?_
  rintro _ S9 ⟨rfl,e9⟩
  rw [e9,hbk];clear e9 S9
  refine k_e rfl ?_
  refine k_u [(0,_),(1,_),(5,_),(11,_)] ?_
  refine AWP.region ?_
  refine k_m rfl ?_
  refine rC (Calm.bin rfl rfl b_add_i64) ?_
  refine k_s rfl ?_
  refine arun_nil ?_
  refine ain_n ?_
  refine athen_n ?_
  refine ⟨(Fd.rw' T (Fd.fre T r-1),k+1),?_,?_,?_,?_⟩
  all_goals (try dsimp only)
  ·exact ⟨sq_,sq_,some_int (by omega),trivial⟩
  ·exact Mem.Less.refl _
  ·exact ⟨by omega,by rw [hfb];omega⟩
  ·rw [hfb];omega
end Go.Proofs.Ytgidjbpgkeemiaa
namespace Go.Proofs.Ytgidjbpgkeemiaa
open Go.RowKit
open Mv Srt
open Go.Sort (swp insInner insOuter insertionSort siftDown heapBuild heapPop heapSort scanUp scanDown partLoop partition partEqLoop partitionEqual scanSorted shiftDown shiftUp partialIns partialInsertionSort order2 median medianAdjacent choosePivot reverseLoop reverseRange breakStep breakPatterns pdq bitsLen xorNext Hint)
set_option maxRecDepth 4000
def encI (x : Int) : Value := .int .i64 x
theorem soI_nan (x : Int) (S : Mem) : ACall Try.prog 131 #[encI x] S fun r S' => r = .bool false ∧ S' = S := by
 unfold encI
 refine ACall.enter (rs:=[.tmp 2]) 6 [(0,.int .i64 x)] Try.func131 rfl rfl (Nat.le_of_ble_eq_true rfl) rfl ⟨rfl,trivial⟩ ?_
 refine k_a (k_e rfl (k_a (k_m rfl (k_m rfl ?_))))
 refine rC (Calm.bin rfl rfl b_neq) ?_
 refine k_e rfl ?_
 refine k_u [(0,_),(2,_)] ?_
 refine AWP.ret ?_
 refine ⟨_,S,⟨_,_,rfl,rfl,rfl⟩,less_,?_⟩
 exact ⟨rfl,rfl⟩
theorem soI_less (x y : Int) (S : Mem) : ACall Try.prog 152 #[encI x, encI y] S fun r S' => r = .bool (Go.Sort.ltInt x y) ∧ S' = S := by
 have hlt:decide ((x:Int)<(y:Int))=Go.Sort.ltInt x y:=rfl
 have hx:=soI_nan x S
 unfold encI at *
 refine ACall.enter (rs:=[.tmp 4]) 17 [(0,.int .i64 x),(1,.int .i64 y)] Try.func152 rfl rfl (Nat.le_of_ble_eq_true rfl) rfl ⟨rfl,rfl,trivial⟩ ?_
 refine k_a (k_e rfl (k_a (k_m rfl ?_)))
 refine ARun.call (lit_lt rfl) go_131 rfl (hx) ?_
 rintro _ S1 ⟨rfl,h1⟩
 rw [h1];clear h1 S1
 refine k_m rfl ?_
 first|refine k_q 7 ?_|refine rG 7 (Calm.move rfl) ?_
 first | refine rS 7 ?_ | refine rU 7 ?_
 first|refine k_q 7 ?_|refine rG 7 (Calm.un rfl (una_not _)) ?_
 first|refine k_t rfl rfl ?_|refine k_f rfl rfl ?_
 refine k_m rfl ?_
 first|refine k_q 12 ?_|refine rG 12 (Calm.move rfl) ?_
 first|refine k_q 12 ?_|refine rG 12 (Calm.move rfl) ?_
 first|refine k_q 12 ?_|refine rG 12 (Calm.bin rfl rfl (bin_bool (bin_lss _ _) hlt)) ?_
 first|refine k_t rfl rfl ?_|refine k_f rfl rfl ?_
 refine k_e rfl ?_
 refine k_u [(0,_),(1,_),(4,_)] ?_
 refine AWP.ret ?_
 refine ⟨_,S,⟨_,_,rfl,rfl,rfl⟩,less_,?_⟩
 exact ⟨rfl,rfl⟩
set_option maxHeartbeats 4000000 in
theorem soI_ins {S : Mem} (b room n cap : Nat) (hb : Fresh S b) (hn : n ≤ 1048576) (d : Array Int) (R : Rw (fun _ => True) n d) (ia ie : Int) (a e : Nat) (ha : ia = a) (he : ie = e) (han : a ≤ n) (hen : e ≤ n) :
  ACall Try.prog 146 #[.slice (some ⟨b,0,none⟩) n cap,.int .i64 ia,.int .i64 ie] (S.set b ⟨3,(d).toList.map encI,room⟩) fun r S'=>S'=S.set b ⟨3,(insertionSort Go.Sort.ltInt d a e).toList.map encI,room⟩∧Rw (fun _=>True) n (insertionSort Go.Sort.ltInt d a e):=by
 subst ha he
 refine ACall.enter (rs:=[]) 49 [(0,.slice (some ⟨b,0,none⟩) n cap),(1,.int .i64 a),(2,.int .i64 e)] Try.func146 rfl rfl (Nat.le_of_ble_eq_true rfl) rfl ⟨rfl,rfl,rfl,trivial⟩ ?_
 refine k_a (k_m rfl ?_)
 refine rC (Calm.bin rfl rfl b_add_i64) ?_
 refine k_e rfl ?_
 refine k_u [(0,_),(1,_),(2,_),(6,_)] ?_
 refine AWP.block ?_
 refine AWP.loop (X:=Nat × Array Int) (fun x=>[(0,.slice (some ⟨b,0,none⟩) n cap),(1,.int .i64 a),(2,.int .i64 e),(6,.int .i64 x.1)]) (fun x=>S.set b ⟨3,(x.2).toList.map encI,room⟩) (fun x=>a<x.1∧(x.1≤n∨e≤x.1)∧Rw (fun _=>True) n x.2∧insOuter Go.Sort.ltInt a e x.1 x.2=insertionSort Go.Sort.ltInt d a e) (fun x=>e-x.1) ((a+1,d)) ⟨sb_,sb_,sb_,sb_,trivial⟩ (Mem.Less.refl _) (⟨by omega,by omega,R,rfl⟩) ?_
 rintro ⟨i,d1⟩ ⟨h1,h2,R1,h3⟩
 (try dsimp only at *)
 have z1:=R1.size
 by_cases hi:i<e
 ·refine AWP.seq (k_a (k_m rfl (k_m rfl ?_)))
  refine rC (Calm.bin rfl rfl b_lss) ?_
  refine k_n ?_
  refine k_u [(0,_),(1,_),(2,_),(6,_),(12,_)] ?_
  refine k_T rfl ?_
  refine k_k (AWP.seq ?_)
  refine AWP.block ?_
  refine k_a (k_m rfl (k_e rfl ?_))
  refine k_u [(0,_),(1,_),(2,_),(6,_),(12,_),(7,_)] ?_
  refine AWP.block ?_
  refine AWP.loop (X:=Nat × Array Int) (fun x=>[(0,.slice (some ⟨b,0,none⟩) n cap),(1,.int .i64 a),(2,.int .i64 e),(6,.int .i64 i),(7,.int .i64 x.1)]) (fun x=>S.set b ⟨3,(x.2).toList.map encI,room⟩) (fun x=>x.1≤i∧Rw (fun _=>True) n x.2∧insInner Go.Sort.ltInt a x.1 x.2=insInner Go.Sort.ltInt a i d1) (fun x=>x.1) ((i,d1)) ⟨rfl,rfl,rfl,rfl,rfl,trivial⟩ (Mem.Less.refl _) (⟨Nat.le_refl _,R1,rfl⟩) ?_
  rintro ⟨j,d2⟩ ⟨k1,R2,k3⟩
  (try dsimp only at *)
  have z2:=R2.size
  have q0:=outer_go Go.Sort.ltInt (a:=a) (d:=d1) hi
  by_cases ha:a<j
  ·obtain ⟨j,rfl⟩ : ∃ q,j=q+1:=⟨j-1,by omega⟩
   refine AWP.seq (AWP.seq ?_)
   refine AWP.draw [(0,true),(1,true),(2,true),(3,true),(4,true),(5,true),(6,true),(7,true),(8,true),(9,true),(10,true),(11,true),(12,true),(13,false),(14,true)] [] mixed (by kernel_rfl) ?_
   refine dP (hc:=fun _=>Calm.move rfl) (h:=?_)
   refine dP (hc:=fun _=>Calm.move rfl) (h:=?_)
   refine dP (hc:=fun _=>Calm.bin rfl rfl b_gtr) (h:=?_)
   refine dP (hc:=fun _=>Calm.move rfl) (h:=?_)
   first|refine k_d ?_|refine dG (hc:=fun _=>Calm.move rfl) (h:=?_)
   first|refine k_d ?_|refine dG (hc:=fun _=>Calm.move rfl) (h:=?_)
   first|refine k_d ?_|refine dG (hc:=fun _=>Calm.indexS Try.underlying24 ty_size_3 rfl rfl (by omega) (by omega)) (h:=?_)
   first|refine k_d ?_|refine dL (hc:=Calm.load ty_plain_3 rfl (rd_row (k:=j+1) own_ rw_ rw_)) (h:=?_)
   first|refine k_d ?_|refine dG (hc:=fun _=>Calm.move rfl) (h:=?_)
   first|refine k_d ?_|refine dG (hc:=fun _=>Calm.move rfl) (h:=?_)
   first|refine k_d ?_|refine dG (hc:=fun _=>Calm.bin rfl rfl b_sub_i64) (h:=?_)
   first|refine k_d ?_|refine dG (hc:=fun _=>Calm.indexS Try.underlying24 ty_size_3 rfl rfl (by omega) (by omega)) (h:=?_)
   first|refine k_d ?_|refine dL (hc:=Calm.load ty_plain_3 rfl (rd_row (k:=j) own_ rw_ rw_)) (h:=?_)
   refine draw_only rfl ?_
   refine ARun.callG 3 true 19 rfl (lit_lt rfl) rfl (lit_lt rfl) go_152 rfl (soI_less _ _ _) ?_
   rintro _ _ ⟨rfl,rfl⟩
   refine arun_nil ⟨fun _=>less_,?_⟩
   refine dP (hc:=fun _=>(by first | exact Calm.pickT rfl rfl | exact Calm.pickF rfl rfl)) (h:=?_)
   refine draw_nil ?_
   refine athen_n ?_
   refine k_u [(0,_),(1,_),(2,_),(6,_),(7,_),(30,_)] ?_
   refine AWP.condB rfl (fun hl=>?_) (fun hl=>?_)
   ·refine k_k (AWP.seq ?_)
    refine AWP.block ?_
    refine AWP.draw [(0,true),(1,true),(2,true),(3,true),(4,true),(5,true),(6,true),(7,true),(8,true),(9,true),(10,true),(11,true),(12,true),(13,true),(14,true),(15,false),(16,true),(17,false)] [15,17] mixed (by kernel_rfl) ?_
    refine dP (hc:=fun _=>Calm.move rfl) (h:=?_)
    refine dP (hc:=fun _=>Calm.move rfl) (h:=?_)
    refine dP (hc:=fun _=>Calm.move rfl) (h:=?_)
    refine dP (hc:=fun _=>Calm.move rfl) (h:=?_)
    refine dP (hc:=fun _=>Calm.bin rfl rfl b_sub_i64) (h:=?_)
    refine dP (hc:=fun _=>Calm.move rfl) (h:=?_)
    refine dP (hc:=fun _=>Calm.move rfl) (h:=?_)
    refine dP (hc:=fun _=>Calm.bin rfl rfl b_sub_i64) (h:=?_)
    refine dP (hc:=fun _=>Calm.indexS Try.underlying24 ty_size_3 rfl rfl (by omega) (by omega)) (h:=?_)
    refine dC (hc:=Calm.load ty_plain_3 rfl (rd_row (k:=j) own_ rw_ rw_)) (h:=?_)
    refine dP (hc:=fun _=>Calm.move rfl) (h:=?_)
    refine dP (hc:=fun _=>Calm.move rfl) (h:=?_)
    refine dP (hc:=fun _=>Calm.indexS Try.underlying24 ty_size_3 rfl rfl (by omega) (by omega)) (h:=?_)
    refine dC (hc:=Calm.load ty_plain_3 rfl (rd_row (k:=j+1) own_ rw_ rw_)) (h:=?_)
    refine dP (hc:=fun _=>Calm.indexS Try.underlying24 ty_size_3 rfl rfl (by omega) (by omega)) (h:=?_)
    refine draw_only rfl ?_
    refine ARun.storeRow encI (j+1) rfl rfl ty_size_3 ⟨rfl,rfl⟩ own_ rw_ rw_ ?_
    try simp only [k_ms,k_sz,k_ss,k_za,Nat.reduceAdd]
    refine arun_nil ⟨fun h=>absurd h (by decide),?_⟩
    refine dP (hc:=fun _=>Calm.indexS Try.underlying24 ty_size_3 rfl rfl (by omega) (by omega)) (h:=?_)
    refine draw_only rfl ?_
    refine ARun.storeRow encI (j) rfl rfl ty_size_3 ⟨rfl,rfl⟩ own_ rw_ rw_ ?_
    try simp only [k_ms,k_sz,k_ss,k_za,Nat.reduceAdd]
    refine arun_nil ⟨fun h=>absurd h (by decide),?_⟩
    refine draw_nil ?_
    refine ain_n ?_
    refine athen_n ?_
    refine k_u [(0,_),(1,_),(2,_),(6,_),(7,_),(30,_)] ?_
    refine AWP.region ?_
    refine k_m rfl ?_
    refine rC (Calm.bin rfl rfl b_sub_i64) ?_
    refine k_e rfl ?_
    refine ⟨(j,swp d2 (j+1) j),?_,?_,?_,?_⟩
    all_goals (try dsimp only)
    ·exact ⟨sb_,sb_,sb_,sb_,sb_,trivial⟩
    ·exact Mem.Less.refl _
    ·exact ⟨by omega,R2.swp _ _ (by omega) (by omega),(ins_go Go.Sort.ltInt ha hl).trans k3⟩
    ·omega
   ·refine AWP.exit ?_
    refine athen_exit ?_
    refine athen_exit ?_
    refine ain_same ?_
    refine ain_n ?_
    refine athen_n ?_
    refine AWP.region ?_
    refine k_m rfl ?_
    refine rC (Calm.bin rfl rfl b_add_i64) ?_
    refine k_e rfl ?_
    refine ⟨(i+1,d2),?_,?_,?_,?_⟩
    all_goals (try dsimp only)
    ·exact ⟨sb_,sb_,sb_,sb_,trivial⟩
    ·exact Mem.Less.refl _
    ·exact ⟨by omega,by omega,R2,by rw [← k3,← ins_no Go.Sort.ltInt hl] at q0;exact q0.trans h3⟩
    ·omega
  ·refine AWP.seq (AWP.seq ?_)
   refine AWP.draw [(0,true),(1,true),(2,true),(3,true),(4,true),(5,true),(6,true),(7,true),(8,true),(9,true),(10,true),(11,true),(12,true),(13,false),(14,true)] [] mixed (by kernel_rfl) ?_
   refine dP (hc:=fun _=>Calm.move rfl) (h:=?_)
   refine dP (hc:=fun _=>Calm.move rfl) (h:=?_)
   refine dP (hc:=fun _=>Calm.bin rfl rfl b_gtr) (h:=?_)
   refine dP (hc:=fun _=>Calm.move rfl) (h:=?_)
   first|refine k_d ?_|refine dG (hc:=fun _=>Calm.move rfl) (h:=?_)
   first|refine k_d ?_|refine dG (hc:=fun _=>Calm.move rfl) (h:=?_)
   first|refine k_d ?_|refine dG (hc:=fun _=>Calm.indexS Try.underlying24 ty_size_3 rfl rfl (by omega) (by omega)) (h:=?_)
   first|refine k_d ?_|refine dL (hc:=Calm.load ty_plain_3 rfl (rd_row (k:=j+1) own_ rw_ rw_)) (h:=?_)
   first|refine k_d ?_|refine dG (hc:=fun _=>Calm.move rfl) (h:=?_)
   first|refine k_d ?_|refine dG (hc:=fun _=>Calm.move rfl) (h:=?_)
   first|refine k_d ?_|refine dG (hc:=fun _=>Calm.bin rfl rfl b_sub_i64) (h:=?_)
   first|refine k_d ?_|refine dG (hc:=fun _=>Calm.indexS Try.underlying24 ty_size_3 rfl rfl (by omega) (by omega)) (h:=?_)
   first|refine k_d ?_|refine dL (hc:=Calm.load ty_plain_3 rfl (rd_row (k:=j) own_ rw_ rw_)) (h:=?_)
   refine draw_only rfl ?_
   first | refine rS 19 ?_ | refine rU 19 ?_
   refine arun_nil ⟨fun _=>less_,?_⟩
   refine dP (hc:=fun _=>(by first | exact Calm.pickT rfl rfl | exact Calm.pickF rfl rfl)) (h:=?_)
   refine draw_nil ?_
   refine athen_n ?_
   refine k_u [(0,_),(1,_),(2,_),(6,_),(7,_),(30,_)] ?_
   refine k_F rfl ?_
   refine AWP.exit ?_
   refine athen_exit ?_
   refine athen_exit ?_
   refine ain_same ?_
   refine ain_n ?_
   refine athen_n ?_
   refine AWP.region ?_
   refine k_m rfl ?_
   refine rC (Calm.bin rfl rfl b_add_i64) ?_
   refine k_e rfl ?_
   refine ⟨(i+1,d2),?_,?_,?_,?_⟩
   all_goals (try dsimp only)
   ·exact ⟨sb_,sb_,sb_,sb_,trivial⟩
   ·exact Mem.Less.refl _
   ·exact ⟨by omega,by omega,R2,by rw [← k3,← ins_end Go.Sort.ltInt ha] at q0;exact q0.trans h3⟩
   ·omega
 ·refine AWP.seq (k_a (k_m rfl (k_m rfl ?_)))
  refine rC (Calm.bin rfl rfl b_lss) ?_
  refine k_n ?_
  refine k_u [(0,_),(1,_),(2,_),(6,_),(12,_)] ?_
  refine k_F rfl ?_
  refine AWP.exit ?_
  refine athen_exit ?_
  refine athen_exit ?_
  refine ain_same ?_
  refine ⟨_,_,rfl,Mem.Less.refl _,?_⟩
  rw [← h3,← outer_end Go.Sort.ltInt hi];exact ⟨rfl,R1⟩
set_option maxHeartbeats 4000000 in
theorem soI_sift {S : Mem} (b room n cap : Nat) (hb : Fresh S b) (hn : n ≤ 1048576) (d : Array Int) (R : Rw (fun _ => True) n d) (il ih iF : Int) (lo hi first : Nat) (el : il = lo) (eh : ih = hi) (ef : iF = first) (hlo : lo ≤ n) (hfn : first + hi ≤ n) :
  ACall Try.prog 178 #[.slice (some ⟨b,0,none⟩) n cap,.int .i64 il,.int .i64 ih,.int .i64 iF] (S.set b ⟨3,(d).toList.map encI,room⟩) fun r S'=>S'=S.set b ⟨3,(siftDown Go.Sort.ltInt hi first lo d).toList.map encI,room⟩∧Rw (fun _=>True) n (siftDown Go.Sort.ltInt hi first lo d):=by
 subst el eh ef
 refine ACall.enter (rs:=[]) 76 [(0,.slice (some ⟨b,0,none⟩) n cap),(1,.int .i64 lo),(2,.int .i64 hi),(3,.int .i64 first)] Try.func178 rfl rfl (Nat.le_of_ble_eq_true rfl) rfl ⟨rfl,rfl,rfl,rfl,trivial⟩ ?_
 refine k_a (k_m rfl (k_e rfl ?_))
 refine k_u [(0,_),(1,_),(2,_),(3,_),(8,_)] ?_
 refine AWP.block ?_
 refine AWP.loop (X:=Nat × Array Int) (fun x=>[(0,.slice (some ⟨b,0,none⟩) n cap),(2,.int .i64 hi),(3,.int .i64 first),(8,.int .i64 x.1)]) (fun x=>S.set b ⟨3,(x.2).toList.map encI,room⟩) (fun x=>x.1≤n∧Rw (fun _=>True) n x.2∧siftDown Go.Sort.ltInt hi first x.1 x.2=siftDown Go.Sort.ltInt hi first lo d) (fun x=>n+1-x.1) ((lo,d)) ⟨rfl,rfl,rfl,rfl,trivial⟩ (Mem.Less.refl _) (⟨hlo,R,rfl⟩) ?_
 rintro ⟨r,d1⟩ ⟨h1,R1,h3⟩
 (try dsimp only at *)
 have z1:=R1.size
 by_cases hc:hi≤2*r+1
 ·refine AWP.block ?_
  refine k_a (k_m rfl ?_)
  refine rC (Calm.bin rfl rfl b_mul_i64) ?_
  refine rC (Calm.bin rfl rfl b_add_i64) ?_
  refine k_e rfl ?_
  refine k_u [(0,_),(2,_),(3,_),(8,_),(9,_)] ?_
  refine AWP.seq (k_a (k_m rfl (k_m rfl ?_)))
  refine rC (Calm.bin rfl rfl b_geq) ?_
  refine k_n ?_
  refine k_u [(0,_),(2,_),(3,_),(8,_),(9,_),(16,_)] ?_
  refine k_T rfl ?_
  refine AWP.exit ?_
  refine athen_exit ?_
  refine ain_other rfl ?_
  refine athen_exit ?_
  refine ain_same ?_
  refine ⟨_,_,rfl,Mem.Less.refl _,?_⟩
  rw [← h3,← sift_leaf Go.Sort.ltInt hc];exact ⟨rfl,R1⟩
 ·refine AWP.block ?_
  refine k_a (k_m rfl ?_)
  refine rC (Calm.bin rfl rfl b_mul_i64) ?_
  refine rC (Calm.bin rfl rfl b_add_i64) ?_
  refine k_e rfl ?_
  refine k_u [(0,_),(2,_),(3,_),(8,_),(9,_)] ?_
  refine AWP.seq (k_a (k_m rfl (k_m rfl ?_)))
  refine rC (Calm.bin rfl rfl b_geq) ?_
  refine k_n ?_
  refine k_u [(0,_),(2,_),(3,_),(8,_),(9,_),(16,_)] ?_
  refine k_F rfl ?_
  by_cases h2:2*r+2<hi
  ·refine k_k (AWP.seq (AWP.seq ?_))
   refine AWP.draw [(0,true),(1,true),(2,true),(3,true),(4,true),(5,true),(6,true),(7,true),(8,true),(9,true),(10,true),(11,true),(12,true),(13,true),(14,true),(15,true),(16,true),(17,true),(18,false),(19,true)] [] mixed (by kernel_rfl) ?_
   refine dP (hc:=fun _=>Calm.move rfl) (h:=?_)
   refine dP (hc:=fun _=>Calm.bin rfl rfl b_add_i64) (h:=?_)
   refine dP (hc:=fun _=>Calm.move rfl) (h:=?_)
   refine dP (hc:=fun _=>Calm.bin rfl rfl b_lss) (h:=?_)
   refine dP (hc:=fun _=>Calm.move rfl) (h:=?_)
   first|refine k_d ?_|refine dG (hc:=fun _=>Calm.move rfl) (h:=?_)
   first|refine k_d ?_|refine dG (hc:=fun _=>Calm.move rfl) (h:=?_)
   first|refine k_d ?_|refine dG (hc:=fun _=>Calm.move rfl) (h:=?_)
   first|refine k_d ?_|refine dG (hc:=fun _=>Calm.bin rfl rfl b_add_i64) (h:=?_)
   first|refine k_d ?_|refine dG (hc:=fun _=>Calm.indexS Try.underlying24 ty_size_3 rfl rfl (by omega) (by omega)) (h:=?_)
   first|refine k_d ?_|refine dL (hc:=Calm.load ty_plain_3 rfl (rd_row (k:=first+(2*r+1)) own_ rw_ rw_)) (h:=?_)
   first|refine k_d ?_|refine dG (hc:=fun _=>Calm.move rfl) (h:=?_)
   first|refine k_d ?_|refine dG (hc:=fun _=>Calm.move rfl) (h:=?_)
   first|refine k_d ?_|refine dG (hc:=fun _=>Calm.move rfl) (h:=?_)
   first|refine k_d ?_|refine dG (hc:=fun _=>Calm.bin rfl rfl b_add_i64) (h:=?_)
   first|refine k_d ?_|refine dG (hc:=fun _=>Calm.bin rfl rfl b_add_i64) (h:=?_)
   first|refine k_d ?_|refine dG (hc:=fun _=>Calm.indexS Try.underlying24 ty_size_3 rfl rfl (by omega) (by omega)) (h:=?_)
   first|refine k_d ?_|refine dL (hc:=Calm.load ty_plain_3 rfl (rd_row (k:=first+(2*r+2)) own_ rw_ rw_)) (h:=?_)
   refine draw_only rfl ?_
   refine ARun.callG 4 true 21 rfl (lit_lt rfl) rfl (lit_lt rfl) go_152 rfl (soI_less _ _ _) ?_
   rintro _ _ ⟨rfl,rfl⟩
   refine arun_nil ⟨fun _=>less_,?_⟩
   refine dP (hc:=fun _=>(by first | exact Calm.pickT rfl rfl | exact Calm.pickF rfl rfl)) (h:=?_)
   refine draw_nil ?_
   refine athen_n ?_
   refine k_u [(0,_),(2,_),(3,_),(8,_),(9,_),(16,_),(36,_)] ?_
   refine AWP.condB rfl (fun hl=>?_) (fun hl=>?_)
   ·have ch:child Go.Sort.ltInt hi first r d1=2*r+2:=if_pos ⟨h2,hl⟩
    refine AWP.region ?_
    refine k_m rfl ?_
    refine rC (Calm.bin rfl rfl b_add_i64) ?_
    refine k_e rfl ?_
    refine k_u [(0,_),(2,_),(3,_),(8,_),(9,_),(16,_),(36,_)] ?_
    refine AWP.seq (AWP.seq ?_)
    refine AWP.draw [(0,true),(1,true),(2,true),(3,true),(4,true),(5,true),(6,true),(7,true),(8,true),(9,true),(10,true),(11,true),(12,false),(13,true)] [] mixed (by kernel_rfl) ?_
    refine dP (hc:=fun _=>Calm.move rfl) (h:=?_)
    refine dP (hc:=fun _=>Calm.move rfl) (h:=?_)
    refine dP (hc:=fun _=>Calm.move rfl) (h:=?_)
    refine dP (hc:=fun _=>Calm.bin rfl rfl b_add_i64) (h:=?_)
    refine dP (hc:=fun _=>Calm.indexS Try.underlying24 ty_size_3 rfl rfl (by omega) (by omega)) (h:=?_)
    refine dC (hc:=Calm.load ty_plain_3 rfl (rd_row (k:=first+r) own_ rw_ rw_)) (h:=?_)
    refine dP (hc:=fun _=>Calm.move rfl) (h:=?_)
    refine dP (hc:=fun _=>Calm.move rfl) (h:=?_)
    refine dP (hc:=fun _=>Calm.move rfl) (h:=?_)
    refine dP (hc:=fun _=>Calm.bin rfl rfl b_add_i64) (h:=?_)
    refine dP (hc:=fun _=>Calm.indexS Try.underlying24 ty_size_3 rfl rfl (by omega) (by omega)) (h:=?_)
    refine dC (hc:=Calm.load ty_plain_3 rfl (rd_row (k:=first+(2*r+2)) own_ rw_ rw_)) (h:=?_)
    refine draw_only rfl ?_
    refine ARun.call (lit_lt rfl) go_152 rfl (soI_less _ _ _) ?_
    rintro _ _ ⟨rfl,rfl⟩
    refine arun_nil ⟨fun _=>less_,?_⟩
    refine dP (hc:=fun _=>Calm.un rfl (una_not _)) (h:=?_)
    refine draw_nil ?_
    refine athen_n ?_
    refine k_u [(0,_),(2,_),(3,_),(8,_),(9,_),(16,_),(36,_),(52,_)] ?_
    refine AWP.condB rfl (fun hl2=>?_) (fun hl2=>?_)
    ·have hl2:=nt_ hl2
     refine k_r ?_
     refine ain_ret ?_
     refine athen_ret ?_
     refine ain_ret ?_
     refine ⟨_,_,rfl,Mem.Less.refl _,?_⟩
     rw [← h3,← sift_stop Go.Sort.ltInt hc (by rw [ch];exact hl2)];exact ⟨rfl,R1⟩
    ·have hl2:=nf_ hl2
     refine k_k (AWP.seq ?_)
     refine AWP.draw [(0,true),(1,true),(2,true),(3,true),(4,true),(5,true),(6,true),(7,true),(8,true),(9,true),(10,true),(11,true),(12,true),(13,true),(14,true),(15,true),(16,true),(17,true),(18,true),(19,true),(20,true),(21,false),(22,true),(23,false)] [21,23] mixed (by kernel_rfl) ?_
     refine dP (hc:=fun _=>Calm.move rfl) (h:=?_)
     refine dP (hc:=fun _=>Calm.move rfl) (h:=?_)
     refine dP (hc:=fun _=>Calm.move rfl) (h:=?_)
     refine dP (hc:=fun _=>Calm.bin rfl rfl b_add_i64) (h:=?_)
     refine dP (hc:=fun _=>Calm.move rfl) (h:=?_)
     refine dP (hc:=fun _=>Calm.move rfl) (h:=?_)
     refine dP (hc:=fun _=>Calm.move rfl) (h:=?_)
     refine dP (hc:=fun _=>Calm.bin rfl rfl b_add_i64) (h:=?_)
     refine dP (hc:=fun _=>Calm.move rfl) (h:=?_)
     refine dP (hc:=fun _=>Calm.move rfl) (h:=?_)
     refine dP (hc:=fun _=>Calm.move rfl) (h:=?_)
     refine dP (hc:=fun _=>Calm.bin rfl rfl b_add_i64) (h:=?_)
     refine dP (hc:=fun _=>Calm.indexS Try.underlying24 ty_size_3 rfl rfl (by omega) (by omega)) (h:=?_)
     refine dC (hc:=Calm.load ty_plain_3 rfl (rd_row (k:=first+(2*r+2)) own_ rw_ rw_)) (h:=?_)
     refine dP (hc:=fun _=>Calm.move rfl) (h:=?_)
     refine dP (hc:=fun _=>Calm.move rfl) (h:=?_)
     refine dP (hc:=fun _=>Calm.move rfl) (h:=?_)
     refine dP (hc:=fun _=>Calm.bin rfl rfl b_add_i64) (h:=?_)
     refine dP (hc:=fun _=>Calm.indexS Try.underlying24 ty_size_3 rfl rfl (by omega) (by omega)) (h:=?_)
     refine dC (hc:=Calm.load ty_plain_3 rfl (rd_row (k:=first+r) own_ rw_ rw_)) (h:=?_)
     refine dP (hc:=fun _=>Calm.indexS Try.underlying24 ty_size_3 rfl rfl (by omega) (by omega)) (h:=?_)
     refine draw_only rfl ?_
     refine ARun.storeRow encI (first+r) rfl rfl ty_size_3 ⟨rfl,rfl⟩ own_ rw_ rw_ ?_
     try simp only [k_ms,k_sz,k_ss,k_za,Nat.reduceAdd]
     refine arun_nil ⟨fun h=>absurd h (by decide),?_⟩
     refine dP (hc:=fun _=>Calm.indexS Try.underlying24 ty_size_3 rfl rfl (by omega) (by omega)) (h:=?_)
     refine draw_only rfl ?_
     refine ARun.storeRow encI (first+(2*r+2)) rfl rfl ty_size_3 ⟨rfl,rfl⟩ own_ rw_ rw_ ?_
     try simp only [k_ms,k_sz,k_ss,k_za,Nat.reduceAdd]
     refine arun_nil ⟨fun h=>absurd h (by decide),?_⟩
     refine draw_nil ?_
     refine athen_n ?_
     refine k_u [(0,_),(2,_),(3,_),(8,_),(9,_),(16,_),(36,_),(52,_)] ?_
     refine AWP.region ?_
     refine k_m rfl (k_s rfl ?_)
     refine arun_nil ?_
     refine ain_n ?_
     refine athen_n ?_
     refine ⟨(2*r+2,swp d1 (first+r) (first+(2*r+2))),?_,?_,?_,?_⟩
     all_goals (try dsimp only)
     ·exact ⟨sb_,sb_,sb_,sb_,trivial⟩
     ·exact Mem.Less.refl _
     ·exact ⟨by omega,R1.swp _ _ (by omega) (by omega),by have q0:=sift_go Go.Sort.ltInt hc (by rw [ch];exact hl2);rw [ch] at q0;exact q0.trans h3⟩
     ·omega
   ·have ch:child Go.Sort.ltInt hi first r d1=2*r+1:=if_neg (fun h=>Bool.noConfusion (hl.symm.trans h.2))
    refine k_k (AWP.seq (AWP.seq ?_))
    refine AWP.draw [(0,true),(1,true),(2,true),(3,true),(4,true),(5,true),(6,true),(7,true),(8,true),(9,true),(10,true),(11,true),(12,false),(13,true)] [] mixed (by kernel_rfl) ?_
    refine dP (hc:=fun _=>Calm.move rfl) (h:=?_)
    refine dP (hc:=fun _=>Calm.move rfl) (h:=?_)
    refine dP (hc:=fun _=>Calm.move rfl) (h:=?_)
    refine dP (hc:=fun _=>Calm.bin rfl rfl b_add_i64) (h:=?_)
    refine dP (hc:=fun _=>Calm.indexS Try.underlying24 ty_size_3 rfl rfl (by omega) (by omega)) (h:=?_)
    refine dC (hc:=Calm.load ty_plain_3 rfl (rd_row (k:=first+r) own_ rw_ rw_)) (h:=?_)
    refine dP (hc:=fun _=>Calm.move rfl) (h:=?_)
    refine dP (hc:=fun _=>Calm.move rfl) (h:=?_)
    refine dP (hc:=fun _=>Calm.move rfl) (h:=?_)
    refine dP (hc:=fun _=>Calm.bin rfl rfl b_add_i64) (h:=?_)
    refine dP (hc:=fun _=>Calm.indexS Try.underlying24 ty_size_3 rfl rfl (by omega) (by omega)) (h:=?_)
    refine dC (hc:=Calm.load ty_plain_3 rfl (rd_row (k:=first+(2*r+1)) own_ rw_ rw_)) (h:=?_)
    refine draw_only rfl ?_
    refine ARun.call (lit_lt rfl) go_152 rfl (soI_less _ _ _) ?_
    rintro _ _ ⟨rfl,rfl⟩
    refine arun_nil ⟨fun _=>less_,?_⟩
    refine dP (hc:=fun _=>Calm.un rfl (una_not _)) (h:=?_)
    refine draw_nil ?_
    refine athen_n ?_
    refine k_u [(0,_),(2,_),(3,_),(8,_),(9,_),(16,_),(36,_),(52,_)] ?_
    refine AWP.condB rfl (fun hl2=>?_) (fun hl2=>?_)
    ·have hl2:=nt_ hl2
     refine k_r ?_
     refine ain_ret ?_
     refine athen_ret ?_
     refine ain_ret ?_
     refine ⟨_,_,rfl,Mem.Less.refl _,?_⟩
     rw [← h3,← sift_stop Go.Sort.ltInt hc (by rw [ch];exact hl2)];exact ⟨rfl,R1⟩
    ·have hl2:=nf_ hl2
     refine k_k (AWP.seq ?_)
     refine AWP.draw [(0,true),(1,true),(2,true),(3,true),(4,true),(5,true),(6,true),(7,true),(8,true),(9,true),(10,true),(11,true),(12,true),(13,true),(14,true),(15,true),(16,true),(17,true),(18,true),(19,true),(20,true),(21,false),(22,true),(23,false)] [21,23] mixed (by kernel_rfl) ?_
     refine dP (hc:=fun _=>Calm.move rfl) (h:=?_)
     refine dP (hc:=fun _=>Calm.move rfl) (h:=?_)
     refine dP (hc:=fun _=>Calm.move rfl) (h:=?_)
     refine dP (hc:=fun _=>Calm.bin rfl rfl b_add_i64) (h:=?_)
     refine dP (hc:=fun _=>Calm.move rfl) (h:=?_)
     refine dP (hc:=fun _=>Calm.move rfl) (h:=?_)
     refine dP (hc:=fun _=>Calm.move rfl) (h:=?_)
     refine dP (hc:=fun _=>Calm.bin rfl rfl b_add_i64) (h:=?_)
     refine dP (hc:=fun _=>Calm.move rfl) (h:=?_)
     refine dP (hc:=fun _=>Calm.move rfl) (h:=?_)
     refine dP (hc:=fun _=>Calm.move rfl) (h:=?_)
     refine dP (hc:=fun _=>Calm.bin rfl rfl b_add_i64) (h:=?_)
     refine dP (hc:=fun _=>Calm.indexS Try.underlying24 ty_size_3 rfl rfl (by omega) (by omega)) (h:=?_)
     refine dC (hc:=Calm.load ty_plain_3 rfl (rd_row (k:=first+(2*r+1)) own_ rw_ rw_)) (h:=?_)
     refine dP (hc:=fun _=>Calm.move rfl) (h:=?_)
     refine dP (hc:=fun _=>Calm.move rfl) (h:=?_)
     refine dP (hc:=fun _=>Calm.move rfl) (h:=?_)
     refine dP (hc:=fun _=>Calm.bin rfl rfl b_add_i64) (h:=?_)
     refine dP (hc:=fun _=>Calm.indexS Try.underlying24 ty_size_3 rfl rfl (by omega) (by omega)) (h:=?_)
     refine dC (hc:=Calm.load ty_plain_3 rfl (rd_row (k:=first+r) own_ rw_ rw_)) (h:=?_)
     refine dP (hc:=fun _=>Calm.indexS Try.underlying24 ty_size_3 rfl rfl (by omega) (by omega)) (h:=?_)
     refine draw_only rfl ?_
     refine ARun.storeRow encI (first+r) rfl rfl ty_size_3 ⟨rfl,rfl⟩ own_ rw_ rw_ ?_
     try simp only [k_ms,k_sz,k_ss,k_za,Nat.reduceAdd]
     refine arun_nil ⟨fun h=>absurd h (by decide),?_⟩
     refine dP (hc:=fun _=>Calm.indexS Try.underlying24 ty_size_3 rfl rfl (by omega) (by omega)) (h:=?_)
     refine draw_only rfl ?_
     refine ARun.storeRow encI (first+(2*r+1)) rfl rfl ty_size_3 ⟨rfl,rfl⟩ own_ rw_ rw_ ?_
     try simp only [k_ms,k_sz,k_ss,k_za,Nat.reduceAdd]
     refine arun_nil ⟨fun h=>absurd h (by decide),?_⟩
     refine draw_nil ?_
     refine athen_n ?_
     refine k_u [(0,_),(2,_),(3,_),(8,_),(9,_),(16,_),(36,_),(52,_)] ?_
     refine AWP.region ?_
     refine k_m rfl (k_s rfl ?_)
     refine arun_nil ?_
     refine ain_n ?_
     refine athen_n ?_
     refine ⟨(2*r+1,swp d1 (first+r) (first+(2*r+1))),?_,?_,?_,?_⟩
     all_goals (try dsimp only)
     ·exact ⟨sb_,sb_,sb_,sb_,trivial⟩
     ·exact Mem.Less.refl _
     ·exact ⟨by omega,R1.swp _ _ (by omega) (by omega),by have q0:=sift_go Go.Sort.ltInt hc (by rw [ch];exact hl2);rw [ch] at q0;exact q0.trans h3⟩
     ·omega
  ·refine k_k (AWP.seq (AWP.seq ?_))
   refine AWP.draw [(0,true),(1,true),(2,true),(3,true),(4,true),(5,true),(6,true),(7,true),(8,true),(9,true),(10,true),(11,true),(12,true),(13,true),(14,true),(15,true),(16,true),(17,true),(18,false),(19,true)] [] mixed (by kernel_rfl) ?_
   refine dP (hc:=fun _=>Calm.move rfl) (h:=?_)
   refine dP (hc:=fun _=>Calm.bin rfl rfl b_add_i64) (h:=?_)
   refine dP (hc:=fun _=>Calm.move rfl) (h:=?_)
   refine dP (hc:=fun _=>Calm.bin rfl rfl b_lss) (h:=?_)
   refine dP (hc:=fun _=>Calm.move rfl) (h:=?_)
   first|refine k_d ?_|refine dG (hc:=fun _=>Calm.move rfl) (h:=?_)
   first|refine k_d ?_|refine dG (hc:=fun _=>Calm.move rfl) (h:=?_)
   first|refine k_d ?_|refine dG (hc:=fun _=>Calm.move rfl) (h:=?_)
   first|refine k_d ?_|refine dG (hc:=fun _=>Calm.bin rfl rfl b_add_i64) (h:=?_)
   first|refine k_d ?_|refine dG (hc:=fun _=>Calm.indexS Try.underlying24 ty_size_3 rfl rfl (by omega) (by omega)) (h:=?_)
   first|refine k_d ?_|refine dL (hc:=Calm.load ty_plain_3 rfl (rd_row (k:=first+(2*r+1)) own_ rw_ rw_)) (h:=?_)
   first|refine k_d ?_|refine dG (hc:=fun _=>Calm.move rfl) (h:=?_)
   first|refine k_d ?_|refine dG (hc:=fun _=>Calm.move rfl) (h:=?_)
   first|refine k_d ?_|refine dG (hc:=fun _=>Calm.move rfl) (h:=?_)
   first|refine k_d ?_|refine dG (hc:=fun _=>Calm.bin rfl rfl b_add_i64) (h:=?_)
   first|refine k_d ?_|refine dG (hc:=fun _=>Calm.bin rfl rfl b_add_i64) (h:=?_)
   first|refine k_d ?_|refine dG (hc:=fun _=>Calm.indexS Try.underlying24 ty_size_3 rfl rfl (by omega) (by omega)) (h:=?_)
   first|refine k_d ?_|refine dL (hc:=Calm.load ty_plain_3 rfl (rd_row (k:=first+(2*r+2)) own_ rw_ rw_)) (h:=?_)
   refine draw_only rfl ?_
   first | refine rS 21 ?_ | refine rU 21 ?_
   refine arun_nil ⟨fun _=>less_,?_⟩
   refine dP (hc:=fun _=>(by first | exact Calm.pickT rfl rfl | exact Calm.pickF rfl rfl)) (h:=?_)
   refine draw_nil ?_
   refine athen_n ?_
   refine k_u [(0,_),(2,_),(3,_),(8,_),(9,_),(16,_),(36,_)] ?_
   refine k_F rfl ?_
   have ch:child Go.Sort.ltInt hi first r d1=2*r+1:=if_neg (fun h=>h2 h.1)
   refine k_k (AWP.seq (AWP.seq ?_))
   refine AWP.draw [(0,true),(1,true),(2,true),(3,true),(4,true),(5,true),(6,true),(7,true),(8,true),(9,true),(10,true),(11,true),(12,false),(13,true)] [] mixed (by kernel_rfl) ?_
   refine dP (hc:=fun _=>Calm.move rfl) (h:=?_)
   refine dP (hc:=fun _=>Calm.move rfl) (h:=?_)
   refine dP (hc:=fun _=>Calm.move rfl) (h:=?_)
   refine dP (hc:=fun _=>Calm.bin rfl rfl b_add_i64) (h:=?_)
   refine dP (hc:=fun _=>Calm.indexS Try.underlying24 ty_size_3 rfl rfl (by omega) (by omega)) (h:=?_)
   refine dC (hc:=Calm.load ty_plain_3 rfl (rd_row (k:=first+r) own_ rw_ rw_)) (h:=?_)
   refine dP (hc:=fun _=>Calm.move rfl) (h:=?_)
   refine dP (hc:=fun _=>Calm.move rfl) (h:=?_)
   refine dP (hc:=fun _=>Calm.move rfl) (h:=?_)
   refine dP (hc:=fun _=>Calm.bin rfl rfl b_add_i64) (h:=?_)
   refine dP (hc:=fun _=>Calm.indexS Try.underlying24 ty_size_3 rfl rfl (by omega) (by omega)) (h:=?_)
   refine dC (hc:=Calm.load ty_plain_3 rfl (rd_row (k:=first+(2*r+1)) own_ rw_ rw_)) (h:=?_)
   refine draw_only rfl ?_
   refine ARun.call (lit_lt rfl) go_152 rfl (soI_less _ _ _) ?_
   rintro _ _ ⟨rfl,rfl⟩
   refine arun_nil ⟨fun _=>less_,?_⟩
   refine dP (hc:=fun _=>Calm.un rfl (una_not _)) (h:=?_)
   refine draw_nil ?_
   refine athen_n ?_
   refine k_u [(0,_),(2,_),(3,_),(8,_),(9,_),(16,_),(36,_),(52,_)] ?_
   refine AWP.condB rfl (fun hl2=>?_) (fun hl2=>?_)
   ·have hl2:=nt_ hl2
    refine k_r ?_
    refine ain_ret ?_
    refine athen_ret ?_
    refine ain_ret ?_
    refine ⟨_,_,rfl,Mem.Less.refl _,?_⟩
    rw [← h3,← sift_stop Go.Sort.ltInt hc (by rw [ch];exact hl2)];exact ⟨rfl,R1⟩
   ·have hl2:=nf_ hl2
    refine k_k (AWP.seq ?_)
    refine AWP.draw [(0,true),(1,true),(2,true),(3,true),(4,true),(5,true),(6,true),(7,true),(8,true),(9,true),(10,true),(11,true),(12,true),(13,true),(14,true),(15,true),(16,true),(17,true),(18,true),(19,true),(20,true),(21,false),(22,true),(23,false)] [21,23] mixed (by kernel_rfl) ?_
    refine dP (hc:=fun _=>Calm.move rfl) (h:=?_)
    refine dP (hc:=fun _=>Calm.move rfl) (h:=?_)
    refine dP (hc:=fun _=>Calm.move rfl) (h:=?_)
    refine dP (hc:=fun _=>Calm.bin rfl rfl b_add_i64) (h:=?_)
    refine dP (hc:=fun _=>Calm.move rfl) (h:=?_)
    refine dP (hc:=fun _=>Calm.move rfl) (h:=?_)
    refine dP (hc:=fun _=>Calm.move rfl) (h:=?_)
    refine dP (hc:=fun _=>Calm.bin rfl rfl b_add_i64) (h:=?_)
    refine dP (hc:=fun _=>Calm.move rfl) (h:=?_)
    refine dP (hc:=fun _=>Calm.move rfl) (h:=?_)
    refine dP (hc:=fun _=>Calm.move rfl) (h:=?_)
    refine dP (hc:=fun _=>Calm.bin rfl rfl b_add_i64) (h:=?_)
    refine dP (hc:=fun _=>Calm.indexS Try.underlying24 ty_size_3 rfl rfl (by omega) (by omega)) (h:=?_)
    refine dC (hc:=Calm.load ty_plain_3 rfl (rd_row (k:=first+(2*r+1)) own_ rw_ rw_)) (h:=?_)
    refine dP (hc:=fun _=>Calm.move rfl) (h:=?_)
    refine dP (hc:=fun _=>Calm.move rfl) (h:=?_)
    refine dP (hc:=fun _=>Calm.move rfl) (h:=?_)
    refine dP (hc:=fun _=>Calm.bin rfl rfl b_add_i64) (h:=?_)
    refine dP (hc:=fun _=>Calm.indexS Try.underlying24 ty_size_3 rfl rfl (by omega) (by omega)) (h:=?_)
    refine dC (hc:=Calm.load ty_plain_3 rfl (rd_row (k:=first+r) own_ rw_ rw_)) (h:=?_)
    refine dP (hc:=fun _=>Calm.indexS Try.underlying24 ty_size_3 rfl rfl (by omega) (by omega)) (h:=?_)
    refine draw_only rfl ?_
    refine ARun.storeRow encI (first+r) rfl rfl ty_size_3 ⟨rfl,rfl⟩ own_ rw_ rw_ ?_
    try simp only [k_ms,k_sz,k_ss,k_za,Nat.reduceAdd]
    refine arun_nil ⟨fun h=>absurd h (by decide),?_⟩
    refine dP (hc:=fun _=>Calm.indexS Try.underlying24 ty_size_3 rfl rfl (by omega) (by omega)) (h:=?_)
    refine draw_only rfl ?_
    refine ARun.storeRow encI (first+(2*r+1)) rfl rfl ty_size_3 ⟨rfl,rfl⟩ own_ rw_ rw_ ?_
    try simp only [k_ms,k_sz,k_ss,k_za,Nat.reduceAdd]
    refine arun_nil ⟨fun h=>absurd h (by decide),?_⟩
    refine draw_nil ?_
    refine athen_n ?_
    refine k_u [(0,_),(2,_),(3,_),(8,_),(9,_),(16,_),(36,_),(52,_)] ?_
    refine AWP.region ?_
    refine k_m rfl (k_s rfl ?_)
    refine arun_nil ?_
    refine ain_n ?_
    refine athen_n ?_
    refine ⟨(2*r+1,swp d1 (first+r) (first+(2*r+1))),?_,?_,?_,?_⟩
    all_goals (try dsimp only)
    ·exact ⟨sb_,sb_,sb_,sb_,trivial⟩
    ·exact Mem.Less.refl _
    ·exact ⟨by omega,R1.swp _ _ (by omega) (by omega),by have q0:=sift_go Go.Sort.ltInt hc (by rw [ch];exact hl2);rw [ch] at q0;exact q0.trans h3⟩
    ·omega
set_option maxHeartbeats 4000000 in
theorem soI_heap {S : Mem} (b room n cap : Nat) (hb : Fresh S b) (hn : n ≤ 1048576) (d : Array Int) (R : Rw (fun _ => True) n d) (ia ie : Int) (a e : Nat) (ha : ia = a) (he : ie = e) (hae : a < e) (hen : e ≤ n) :
  ACall Try.prog 147 #[.slice (some ⟨b,0,none⟩) n cap,.int .i64 ia,.int .i64 ie] (S.set b ⟨3,(d).toList.map encI,room⟩) fun r S'=>S'=S.set b ⟨3,(heapSort Go.Sort.ltInt d a e).toList.map encI,room⟩∧Rw (fun _=>True) n (heapSort Go.Sort.ltInt d a e):=by
 subst ha he
 obtain ⟨L,rfl⟩ : ∃ L,e=a+L:=⟨e-a,by omega⟩
 have hH:heapPop Go.Sort.ltInt a L (heapBuild Go.Sort.ltInt L a ((L-1) / 2+1) d)=heapSort Go.Sort.ltInt d a (a+L):=by unfold heapSort;rw [Nat.add_sub_cancel_left]
 refine ACall.enter (rs:=[]) 56 [(0,.slice (some ⟨b,0,none⟩) n cap),(1,.int .i64 a),(2,.int .i64 ((a+L:Nat):Int))] Try.func147 rfl rfl (Nat.le_of_ble_eq_true rfl) rfl ⟨rfl,rfl,rfl,trivial⟩ ?_
 refine k_a (k_m rfl (k_e rfl ?_))
 refine k_u [(0,_),(1,_),(2,_),(6,_)] ?_
 refine k_a (k_e rfl (k_a (k_m rfl (k_m rfl ?_))))
 refine rC (Calm.bin rfl rfl b_sub_i64) ?_
 refine k_e rfl ?_
 refine k_u [(0,_),(1,_),(2,_),(6,_),(7,_),(8,_)] ?_
 refine AWP.seq (k_a (k_m rfl ?_))
 refine rC (Calm.bin rfl rfl b_sub_i64) ?_
 refine rC (Calm.bin rfl rfl b_quo_i64) ?_
 refine k_e rfl ?_
 refine k_u [(0,_),(1,_),(2,_),(6,_),(7,_),(8,_),(9,_)] ?_
 refine AWP.block ?_
 refine AWP.loop (X:=Nat × Array Int) (fun x=>[(0,.slice (some ⟨b,0,none⟩) n cap),(6,.int .i64 a),(7,.int .i64 0),(8,.int .i64 L),(9,.int .i64 ((x.1:Int)-1))]) (fun x=>S.set b ⟨3,(x.2).toList.map encI,room⟩) (fun x=>x.1≤L∧Rw (fun _=>True) n x.2∧heapPop Go.Sort.ltInt a L (heapBuild Go.Sort.ltInt L a x.1 x.2)=heapSort Go.Sort.ltInt d a (a+L)) (fun x=>x.1) (((L-1) / 2+1,d)) ⟨sb_,sb_,sb_,sb_,sb_,trivial⟩ (Mem.Less.refl _) (⟨by omega,R,hH⟩) ?_
 rintro ⟨k,d1⟩ ⟨h1,R1,h3⟩
 (try dsimp only at *)
 by_cases hk:0<k
 ·obtain ⟨k,rfl⟩ : ∃ q,k=q+1:=⟨k-1,by omega⟩
  refine AWP.seq (k_a (k_m rfl ?_))
  refine rC (Calm.bin rfl rfl b_geq) ?_
  refine k_n ?_
  refine k_u [(0,_),(6,_),(7,_),(8,_),(9,_),(19,_)] ?_
  refine k_T rfl ?_
  refine k_k (AWP.seq ?_)
  refine AWP.block ?_
  refine AWP.region ?_
  refine k_m rfl (k_m rfl (k_m rfl (k_m rfl ?_)))
  refine ARun.call (lit_lt rfl) go_178 rfl (soI_sift b room n cap hb hn d1 R1 _ _ _ k L a rw_ rw_ rfl (by omega) (by omega)) ?_
  rintro _ _ ⟨rfl,R2⟩
  refine arun_nil ?_
  refine ain_n ?_
  refine athen_n ?_
  refine k_u [(0,_),(6,_),(7,_),(8,_),(9,_),(19,_)] ?_
  refine AWP.region ?_
  refine k_m rfl ?_
  refine rC (Calm.bin rfl rfl b_sub_i64) ?_
  refine k_e rfl ?_
  refine ⟨(k,siftDown Go.Sort.ltInt L a k d1),?_,?_,?_,?_⟩
  all_goals (try dsimp only)
  ·exact ⟨sb_,sb_,sb_,sb_,sb_,trivial⟩
  ·exact Mem.Less.refl _
  ·exact ⟨by omega,R2,h3⟩
  ·omega
 ·obtain rfl:k=0:=by omega
  refine AWP.seq (k_a (k_m rfl ?_))
  refine rC (Calm.bin rfl rfl b_geq) ?_
  refine k_n ?_
  refine k_u [(0,_),(6,_),(7,_),(8,_),(9,_),(19,_)] ?_
  refine k_F rfl ?_
  refine AWP.exit ?_
  refine athen_exit ?_
  refine athen_exit ?_
  refine ain_same ?_
  refine athen_n ?_
  refine k_a (k_m rfl ?_)
  refine rC (Calm.bin rfl rfl b_sub_i64) ?_
  refine k_e rfl ?_
  refine k_u [(0,_),(6,_),(7,_),(8,_),(9,_),(19,_),(10,_)] ?_
  refine AWP.block ?_
  refine AWP.loop (X:=Nat × Array Int) (fun x=>[(0,.slice (some ⟨b,0,none⟩) n cap),(6,.int .i64 a),(7,.int .i64 0),(10,.int .i64 ((x.1:Int)-1))]) (fun x=>S.set b ⟨3,(x.2).toList.map encI,room⟩) (fun x=>x.1≤L∧Rw (fun _=>True) n x.2∧heapPop Go.Sort.ltInt a x.1 x.2=heapSort Go.Sort.ltInt d a (a+L)) (fun x=>x.1) ((L,d1)) ⟨sb_,sb_,sb_,sb_,trivial⟩ (Mem.Less.refl _) (⟨Nat.le_refl _,R1,h3⟩) ?_
  rintro ⟨k,d2⟩ ⟨k1,R2,k3⟩
  (try dsimp only at *)
  have z2:=R2.size
  by_cases hk:0<k
  ·obtain ⟨k,rfl⟩ : ∃ q,k=q+1:=⟨k-1,by omega⟩
   refine AWP.seq (k_a (k_m rfl ?_))
   refine rC (Calm.bin rfl rfl b_geq) ?_
   refine k_n ?_
   refine k_u [(0,_),(6,_),(7,_),(10,_),(30,_)] ?_
   refine k_T rfl ?_
   refine k_k (AWP.seq ?_)
   refine AWP.block ?_
   refine AWP.seq ?_
   refine AWP.draw [(0,true),(1,true),(2,true),(3,true),(4,true),(5,true),(6,true),(7,true),(8,true),(9,true),(10,true),(11,true),(12,true),(13,true),(14,true),(15,true),(16,true),(17,false),(18,true),(19,false)] [17,19] mixed (by kernel_rfl) ?_
   refine dP (hc:=fun _=>Calm.move rfl) (h:=?_)
   refine dP (hc:=fun _=>Calm.move rfl) (h:=?_)
   refine dP (hc:=fun _=>Calm.move rfl) (h:=?_)
   refine dP (hc:=fun _=>Calm.move rfl) (h:=?_)
   refine dP (hc:=fun _=>Calm.move rfl) (h:=?_)
   refine dP (hc:=fun _=>Calm.bin rfl rfl b_add_i64) (h:=?_)
   refine dP (hc:=fun _=>Calm.move rfl) (h:=?_)
   refine dP (hc:=fun _=>Calm.move rfl) (h:=?_)
   refine dP (hc:=fun _=>Calm.move rfl) (h:=?_)
   refine dP (hc:=fun _=>Calm.bin rfl rfl b_add_i64) (h:=?_)
   refine dP (hc:=fun _=>Calm.indexS Try.underlying24 ty_size_3 rfl rfl (by omega) (by omega)) (h:=?_)
   refine dC (hc:=Calm.load ty_plain_3 rfl (rd_row (k:=a+k) own_ rw_ rw_)) (h:=?_)
   refine dP (hc:=fun _=>Calm.move rfl) (h:=?_)
   refine dP (hc:=fun _=>Calm.move rfl) (h:=?_)
   refine dP (hc:=fun _=>Calm.indexS Try.underlying24 ty_size_3 rfl rfl (by omega) (by omega)) (h:=?_)
   refine dC (hc:=Calm.load ty_plain_3 rfl (rd_row (k:=a) own_ rw_ rw_)) (h:=?_)
   refine dP (hc:=fun _=>Calm.indexS Try.underlying24 ty_size_3 rfl rfl (by omega) (by omega)) (h:=?_)
   refine draw_only rfl ?_
   refine ARun.storeRow encI (a) rfl rfl ty_size_3 ⟨rfl,rfl⟩ own_ rw_ rw_ ?_
   try simp only [k_ms,k_sz,k_ss,k_za,Nat.reduceAdd]
   refine arun_nil ⟨fun h=>absurd h (by decide),?_⟩
   refine dP (hc:=fun _=>Calm.indexS Try.underlying24 ty_size_3 rfl rfl (by omega) (by omega)) (h:=?_)
   refine draw_only rfl ?_
   refine ARun.storeRow encI (a+k) rfl rfl ty_size_3 ⟨rfl,rfl⟩ own_ rw_ rw_ ?_
   try simp only [k_ms,k_sz,k_ss,k_za,Nat.reduceAdd]
   refine arun_nil ⟨fun h=>absurd h (by decide),?_⟩
   refine draw_nil ?_
   refine athen_n ?_
   refine k_u [(0,_),(6,_),(7,_),(10,_),(30,_)] ?_
   refine AWP.region ?_
   refine k_m rfl (k_m rfl (k_m rfl (k_m rfl ?_)))
   refine ARun.call (lit_lt rfl) go_178 rfl (soI_sift b room n cap hb hn (swp d2 a (a+k)) (R2.swp _ _ (by omega) (by omega)) _ _ _ 0 k a rfl rw_ rfl (by omega) (by omega)) ?_
   rintro _ _ ⟨rfl,R3⟩
   refine arun_nil ?_
   refine ain_n ?_
   refine athen_n ?_
   refine k_u [(0,_),(6,_),(7,_),(10,_),(30,_)] ?_
   refine AWP.region ?_
   refine k_m rfl ?_
   refine rC (Calm.bin rfl rfl b_sub_i64) ?_
   refine k_e rfl ?_
   refine ⟨(k,siftDown Go.Sort.ltInt k a 0 (swp d2 a (a+k))),?_,?_,?_,?_⟩
   all_goals (try dsimp only)
   ·exact ⟨sb_,sb_,sb_,sb_,trivial⟩
   ·exact Mem.Less.refl _
   ·exact ⟨by omega,R3,k3⟩
   ·omega
  ·obtain rfl:k=0:=by omega
   refine AWP.seq (k_a (k_m rfl ?_))
   refine rC (Calm.bin rfl rfl b_geq) ?_
   refine k_n ?_
   refine k_u [(0,_),(6,_),(7,_),(10,_),(30,_)] ?_
   refine k_F rfl ?_
   refine AWP.exit ?_
   refine athen_exit ?_
   refine athen_exit ?_
   refine ain_same ?_
   refine ⟨_,_,rfl,Mem.Less.refl _,?_⟩
   rw [← k3];exact ⟨rfl,R2⟩
set_option maxHeartbeats 4000000 in
theorem soI_part {S : Mem} (b room n cap : Nat) (hb : Fresh S b) (hn : n ≤ 1048576) (d : Array Int) (R : Rw (fun _ => True) n d) (ia ie ip : Int) (a e p : Nat) (ha : ia = a) (he : ie = e) (hpp : ip = p) (hap : a ≤ p) (hpe : p < e) (hen : e ≤ n) :
  ACall Try.prog 154 #[.slice (some ⟨b,0,none⟩) n cap,.int .i64 ia,.int .i64 ie,.int .i64 ip] (S.set b ⟨3,(d).toList.map encI,room⟩) fun r S'=>PartR Int (fun x:Array Int=>S.set b ⟨3,(x).toList.map encI,room⟩) (fun _=>True) n (partition Go.Sort.ltInt d a e p) a e r S':=by
 subst ha he hpp
 obtain ⟨J,rfl⟩ : ∃ J,e=J+1:=⟨e-1,by omega⟩
 have R0:=R.swp a p (by omega) (by omega)
 have z:=R.size
 obtain ⟨d0,hd0⟩ : ∃ d0,d0=swp d a p:=⟨_,rfl⟩
 rw [← hd0] at R0
 have z0:=R0.size
 refine ACall.enter (rs:=[.tmp 8,.tmp 9]) 168 [(0,.slice (some ⟨b,0,none⟩) n cap),(1,.int .i64 a),(2,.int .i64 ((J+1:Nat):Int)),(3,.int .i64 p)] Try.func154 rfl rfl (Nat.le_of_ble_eq_true rfl) rfl ⟨rfl,rfl,rfl,rfl,trivial⟩ ?_
 refine k_a (k_s rfl (k_e rfl (AWP.seq ?_)))
 refine AWP.draw [(0,true),(1,true),(2,true),(3,true),(4,true),(5,true),(6,true),(7,true),(8,true),(9,true),(10,true),(11,true),(12,true),(13,false),(14,true),(15,false)] [13,15] mixed (by kernel_rfl) ?_
 refine dP (hc:=fun _=>Calm.move rfl) (h:=?_)
 refine dP (hc:=fun _=>Calm.move rfl) (h:=?_)
 refine dP (hc:=fun _=>Calm.move rfl) (h:=?_)
 refine dP (hc:=fun _=>Calm.move rfl) (h:=?_)
 refine dP (hc:=fun _=>Calm.move rfl) (h:=?_)
 refine dP (hc:=fun _=>Calm.move rfl) (h:=?_)
 refine dP (hc:=fun _=>Calm.indexS Try.underlying24 ty_size_3 rfl rfl (by omega) (by omega)) (h:=?_)
 refine dC (hc:=Calm.load ty_plain_3 rfl (rd_row (k:=p) own_ rw_ rw_)) (h:=?_)
 refine dP (hc:=fun _=>Calm.move rfl) (h:=?_)
 refine dP (hc:=fun _=>Calm.move rfl) (h:=?_)
 refine dP (hc:=fun _=>Calm.indexS Try.underlying24 ty_size_3 rfl rfl (by omega) (by omega)) (h:=?_)
 refine dC (hc:=Calm.load ty_plain_3 rfl (rd_row (k:=a) own_ rw_ rw_)) (h:=?_)
 refine dP (hc:=fun _=>Calm.indexS Try.underlying24 ty_size_3 rfl rfl (by omega) (by omega)) (h:=?_)
 refine draw_only rfl ?_
 refine ARun.storeRow encI (a) rfl rfl ty_size_3 ⟨rfl,rfl⟩ own_ rw_ rw_ ?_
 try simp only [k_ms,k_sz,k_ss,k_za,Nat.reduceAdd]
 refine arun_nil ⟨fun h=>absurd h (by decide),?_⟩
 refine dP (hc:=fun _=>Calm.indexS Try.underlying24 ty_size_3 rfl rfl (by omega) (by omega)) (h:=?_)
 refine draw_only rfl ?_
 refine ARun.storeRow encI (p) rfl rfl ty_size_3 ⟨rfl,rfl⟩ own_ rw_ rw_ ?_
 try simp only [k_ms,k_sz,k_ss,k_za,Nat.reduceAdd]
 refine arun_nil ⟨fun h=>absurd h (by decide),?_⟩
 refine draw_nil ?_
 refine athen_n ?_
 refine k_u [(0,_),(1,_),(2,_),(3,_),(8,_),(9,_)] ?_
 refine AWP.less (S.set b ⟨3,(d0).toList.map encI,room⟩) (by rw [hd0];exact Mem.Less.refl _) ?_
 refine k_a (k_m rfl ?_)
 refine rC (Calm.bin rfl rfl b_add_i64) ?_
 refine k_m rfl ?_
 refine rC (Calm.bin rfl rfl b_sub_i64) ?_
 refine k_s rfl (k_e rfl ?_)
 refine k_u [(0,_),(1,_),(2,_),(3,_),(8,_),(9,_),(10,_),(11,_)] ?_
 refine AWP.seq ?_
 refine AWP.join (X:=Nat) (fun x=>[(0,.slice (some ⟨b,0,none⟩) n cap),(1,.int .i64 a),(10,.int .i64 x),(11,.int .i64 J)]) (fun _=>S.set b ⟨3,(d0).toList.map encI,room⟩) (fun x=>a+1≤x∧x≤J+1∧x=scanUp (fun x=>Go.Sort.ltInt x d0[a]!) d0 (J) (a+1)) ?_ ?_
 ·refine AWP.block ?_
  refine AWP.loop (X:=Nat) (fun x=>[(0,.slice (some ⟨b,0,none⟩) n cap),(1,.int .i64 a),(10,.int .i64 x),(11,.int .i64 J)]) (fun _=>S.set b ⟨3,(d0).toList.map encI,room⟩) (fun x=>a+1≤x∧x≤J+1∧scanUp (fun x=>Go.Sort.ltInt x d0[a]!) d0 (J) x=scanUp (fun x=>Go.Sort.ltInt x d0[a]!) d0 (J) (a+1)) (fun x=>J+1-x) ((a+1)) ⟨sb_,sb_,sb_,sb_,trivial⟩ (Mem.Less.refl _) (⟨by omega,by omega,rfl⟩) ?_
  rintro i ⟨q1,q2,q3⟩
  (try dsimp only at *)
  by_cases hij:i≤J
  ·refine AWP.seq (AWP.seq ?_)
   refine AWP.draw [(0,true),(1,true),(2,true),(3,true),(4,true),(5,true),(6,true),(7,true),(8,true),(9,true),(10,true),(11,true),(12,false),(13,true)] [] mixed (by kernel_rfl) ?_
   refine dP (hc:=fun _=>Calm.move rfl) (h:=?_)
   refine dP (hc:=fun _=>Calm.move rfl) (h:=?_)
   refine dP (hc:=fun _=>Calm.bin rfl rfl b_leq) (h:=?_)
   refine dP (hc:=fun _=>Calm.move rfl) (h:=?_)
   first|refine k_d ?_|refine dG (hc:=fun _=>Calm.move rfl) (h:=?_)
   first|refine k_d ?_|refine dG (hc:=fun _=>Calm.move rfl) (h:=?_)
   first|refine k_d ?_|refine dG (hc:=fun _=>Calm.indexS Try.underlying24 ty_size_3 rfl rfl (by omega) (by omega)) (h:=?_)
   first|refine k_d ?_|refine dL (hc:=Calm.load ty_plain_3 rfl (rd_row (k:=i) own_ rw_ rw_)) (h:=?_)
   first|refine k_d ?_|refine dG (hc:=fun _=>Calm.move rfl) (h:=?_)
   first|refine k_d ?_|refine dG (hc:=fun _=>Calm.move rfl) (h:=?_)
   first|refine k_d ?_|refine dG (hc:=fun _=>Calm.indexS Try.underlying24 ty_size_3 rfl rfl (by omega) (by omega)) (h:=?_)
   first|refine k_d ?_|refine dL (hc:=Calm.load ty_plain_3 rfl (rd_row (k:=a) own_ rw_ rw_)) (h:=?_)
   refine draw_only rfl ?_
   refine ARun.callG 3 true 33 rfl (lit_lt rfl) rfl (lit_lt rfl) go_152 rfl (soI_less _ _ _) ?_
   rintro _ _ ⟨rfl,rfl⟩
   refine arun_nil ⟨fun _=>less_,?_⟩
   refine dP (hc:=fun _=>(by first | exact Calm.pickT rfl rfl | exact Calm.pickF rfl rfl)) (h:=?_)
   refine draw_nil ?_
   refine athen_n ?_
   refine k_u [(0,_),(1,_),(10,_),(11,_),(43,_)] ?_
   refine AWP.condB rfl (fun hl=>?_) (fun hl=>?_)
   ·refine k_k ?_
    refine AWP.block ?_
    refine AWP.region ?_
    refine k_m rfl ?_
    refine rC (Calm.bin rfl rfl b_add_i64) ?_
    refine k_s rfl ?_
    refine arun_nil ?_
    refine ain_n ?_
    refine athen_n ?_
    refine ⟨i+1,?_,?_,?_,?_⟩
    all_goals (try dsimp only)
    ·exact ⟨sb_,sb_,sb_,sb_,trivial⟩
    ·exact Mem.Less.refl _
    ·exact ⟨by omega,by omega,(up_go (p:=(fun x=>Go.Sort.ltInt x d0[a]!)) hij (by simp only [hl,Bool.not_true,Bool.not_false])).trans q3⟩
    ·omega
   ·refine AWP.exit ?_
    refine athen_exit ?_
    refine athen_exit ?_
    refine ain_same ?_
    refine ⟨i,?_,?_,?_⟩
    all_goals (try dsimp only)
    ·exact ⟨by omega,by omega,(up_no (p:=(fun x=>Go.Sort.ltInt x d0[a]!)) (by simp only [hl,Bool.not_true,Bool.not_false])).trans q3⟩
    ·exact ⟨sb_,sb_,sb_,sb_,trivial⟩
    ·exact Mem.Less.refl _
  ·refine AWP.seq (AWP.seq ?_)
   refine AWP.draw [(0,true),(1,true),(2,true),(3,true),(4,true),(5,true),(6,true),(7,true),(8,true),(9,true),(10,true),(11,true),(12,false),(13,true)] [] mixed (by kernel_rfl) ?_
   refine dP (hc:=fun _=>Calm.move rfl) (h:=?_)
   refine dP (hc:=fun _=>Calm.move rfl) (h:=?_)
   refine dP (hc:=fun _=>Calm.bin rfl rfl b_leq) (h:=?_)
   refine dP (hc:=fun _=>Calm.move rfl) (h:=?_)
   first|refine k_d ?_|refine dG (hc:=fun _=>Calm.move rfl) (h:=?_)
   first|refine k_d ?_|refine dG (hc:=fun _=>Calm.move rfl) (h:=?_)
   first|refine k_d ?_|refine dG (hc:=fun _=>Calm.indexS Try.underlying24 ty_size_3 rfl rfl (by omega) (by omega)) (h:=?_)
   first|refine k_d ?_|refine dL (hc:=Calm.load ty_plain_3 rfl (rd_row (k:=i) own_ rw_ rw_)) (h:=?_)
   first|refine k_d ?_|refine dG (hc:=fun _=>Calm.move rfl) (h:=?_)
   first|refine k_d ?_|refine dG (hc:=fun _=>Calm.move rfl) (h:=?_)
   first|refine k_d ?_|refine dG (hc:=fun _=>Calm.indexS Try.underlying24 ty_size_3 rfl rfl (by omega) (by omega)) (h:=?_)
   first|refine k_d ?_|refine dL (hc:=Calm.load ty_plain_3 rfl (rd_row (k:=a) own_ rw_ rw_)) (h:=?_)
   refine draw_only rfl ?_
   first | refine rS 33 ?_ | refine rU 33 ?_
   refine arun_nil ⟨fun _=>less_,?_⟩
   refine dP (hc:=fun _=>(by first | exact Calm.pickT rfl rfl | exact Calm.pickF rfl rfl)) (h:=?_)
   refine draw_nil ?_
   refine athen_n ?_
   refine k_u [(0,_),(1,_),(10,_),(11,_),(43,_)] ?_
   refine k_F rfl ?_
   refine AWP.exit ?_
   refine athen_exit ?_
   refine athen_exit ?_
   refine ain_same ?_
   refine ⟨i,?_,?_,?_⟩
   all_goals (try dsimp only)
   ·exact ⟨by omega,by omega,(up_end (p:=(fun x=>Go.Sort.ltInt x d0[a]!)) hij).trans q3⟩
   ·exact ⟨sb_,sb_,sb_,sb_,trivial⟩
   ·exact Mem.Less.refl _
 rintro i2 ⟨b1,b2,hU⟩
 intro _ _ hs_ hl_
 (try dsimp only at *)
 refine athen_n ?_
 refine AWP.sub _ hs_ (AWP.less _ hl_ ?_)
 clear hs_ hl_
 refine AWP.seq ?_
 refine AWP.join (X:=Nat) (fun x=>[(0,.slice (some ⟨b,0,none⟩) n cap),(1,.int .i64 a),(10,.int .i64 i2),(11,.int .i64 x)]) (fun _=>S.set b ⟨3,(d0).toList.map encI,room⟩) (fun x=>a≤x∧x≤J∧x=scanDown (fun x=>!Go.Sort.ltInt x d0[a]!) d0 i2 J) ?_ ?_
 ·refine AWP.block ?_
  refine AWP.loop (X:=Nat) (fun x=>[(0,.slice (some ⟨b,0,none⟩) n cap),(1,.int .i64 a),(10,.int .i64 i2),(11,.int .i64 x)]) (fun _=>S.set b ⟨3,(d0).toList.map encI,room⟩) (fun x=>a≤x∧x≤J∧scanDown (fun x=>!Go.Sort.ltInt x d0[a]!) d0 i2 x=scanDown (fun x=>!Go.Sort.ltInt x d0[a]!) d0 i2 J) (fun x=>x) (J) ⟨sb_,sb_,sb_,sb_,trivial⟩ (Mem.Less.refl _) (⟨by omega,by omega,rfl⟩) ?_
  rintro j ⟨q1,q2,q3⟩
  (try dsimp only at *)
  by_cases hij:i2≤j
  ·obtain ⟨j,rfl⟩ : ∃ q,j=q+1:=⟨j-1,by omega⟩
   refine AWP.seq (AWP.seq ?_)
   refine AWP.draw [(0,true),(1,true),(2,true),(3,true),(4,true),(5,true),(6,true),(7,true),(8,true),(9,true),(10,true),(11,true),(12,false),(13,true),(14,true)] [] mixed (by kernel_rfl) ?_
   refine dP (hc:=fun _=>Calm.move rfl) (h:=?_)
   refine dP (hc:=fun _=>Calm.move rfl) (h:=?_)
   refine dP (hc:=fun _=>Calm.bin rfl rfl b_leq) (h:=?_)
   refine dP (hc:=fun _=>Calm.move rfl) (h:=?_)
   first|refine k_d ?_|refine dG (hc:=fun _=>Calm.move rfl) (h:=?_)
   first|refine k_d ?_|refine dG (hc:=fun _=>Calm.move rfl) (h:=?_)
   first|refine k_d ?_|refine dG (hc:=fun _=>Calm.indexS Try.underlying24 ty_size_3 rfl rfl (by omega) (by omega)) (h:=?_)
   first|refine k_d ?_|refine dL (hc:=Calm.load ty_plain_3 rfl (rd_row (k:=j+1) own_ rw_ rw_)) (h:=?_)
   first|refine k_d ?_|refine dG (hc:=fun _=>Calm.move rfl) (h:=?_)
   first|refine k_d ?_|refine dG (hc:=fun _=>Calm.move rfl) (h:=?_)
   first|refine k_d ?_|refine dG (hc:=fun _=>Calm.indexS Try.underlying24 ty_size_3 rfl rfl (by omega) (by omega)) (h:=?_)
   first|refine k_d ?_|refine dL (hc:=Calm.load ty_plain_3 rfl (rd_row (k:=a) own_ rw_ rw_)) (h:=?_)
   refine draw_only rfl ?_
   refine ARun.callG 3 true 49 rfl (lit_lt rfl) rfl (lit_lt rfl) go_152 rfl (soI_less _ _ _) ?_
   rintro _ _ ⟨rfl,rfl⟩
   refine arun_nil ⟨fun _=>less_,?_⟩
   first|refine k_d ?_|refine dG (hc:=fun _=>Calm.un rfl (una_not _)) (h:=?_)
   refine dP (hc:=fun _=>(by first | exact Calm.pickT rfl rfl | exact Calm.pickF rfl rfl)) (h:=?_)
   refine draw_nil ?_
   refine athen_n ?_
   refine k_u [(0,_),(1,_),(10,_),(11,_),(60,_)] ?_
   refine AWP.condB rfl (fun hl=>?_) (fun hl=>?_)
   ·have hl:=nt_ hl
    refine k_k ?_
    refine AWP.block ?_
    refine AWP.region ?_
    refine k_m rfl ?_
    refine rC (Calm.bin rfl rfl b_sub_i64) ?_
    refine k_s rfl ?_
    refine arun_nil ?_
    refine ain_n ?_
    refine athen_n ?_
    refine ⟨j,?_,?_,?_,?_⟩
    all_goals (try dsimp only)
    ·exact ⟨sb_,sb_,sb_,sb_,trivial⟩
    ·exact Mem.Less.refl _
    ·exact ⟨by omega,by omega,(down_go (p:=(fun x=>!Go.Sort.ltInt x d0[a]!)) hij (by simp only [hl,Bool.not_true,Bool.not_false])).trans q3⟩
    ·omega
   ·have hl:=nf_ hl
    refine AWP.exit ?_
    refine athen_exit ?_
    refine athen_exit ?_
    refine ain_same ?_
    refine ⟨(j+1),?_,?_,?_⟩
    all_goals (try dsimp only)
    ·exact ⟨by omega,by omega,(down_no (p:=(fun x=>!Go.Sort.ltInt x d0[a]!)) (by omega) (by simp only [hl,Bool.not_true,Bool.not_false])).trans q3⟩
    ·exact ⟨sb_,sb_,sb_,sb_,trivial⟩
    ·exact Mem.Less.refl _
  ·refine AWP.seq (AWP.seq ?_)
   refine AWP.draw [(0,true),(1,true),(2,true),(3,true),(4,true),(5,true),(6,true),(7,true),(8,true),(9,true),(10,true),(11,true),(12,false),(13,true),(14,true)] [] mixed (by kernel_rfl) ?_
   refine dP (hc:=fun _=>Calm.move rfl) (h:=?_)
   refine dP (hc:=fun _=>Calm.move rfl) (h:=?_)
   refine dP (hc:=fun _=>Calm.bin rfl rfl b_leq) (h:=?_)
   refine dP (hc:=fun _=>Calm.move rfl) (h:=?_)
   first|refine k_d ?_|refine dG (hc:=fun _=>Calm.move rfl) (h:=?_)
   first|refine k_d ?_|refine dG (hc:=fun _=>Calm.move rfl) (h:=?_)
   first|refine k_d ?_|refine dG (hc:=fun _=>Calm.indexS Try.underlying24 ty_size_3 rfl rfl (by omega) (by omega)) (h:=?_)
   first|refine k_d ?_|refine dL (hc:=Calm.load ty_plain_3 rfl (rd_row (k:=j+1) own_ rw_ rw_)) (h:=?_)
   first|refine k_d ?_|refine dG (hc:=fun _=>Calm.move rfl) (h:=?_)
   first|refine k_d ?_|refine dG (hc:=fun _=>Calm.move rfl) (h:=?_)
   first|refine k_d ?_|refine dG (hc:=fun _=>Calm.indexS Try.underlying24 ty_size_3 rfl rfl (by omega) (by omega)) (h:=?_)
   first|refine k_d ?_|refine dL (hc:=Calm.load ty_plain_3 rfl (rd_row (k:=a) own_ rw_ rw_)) (h:=?_)
   refine draw_only rfl ?_
   first | refine rS 49 ?_ | refine rU 49 ?_
   refine arun_nil ⟨fun _=>less_,?_⟩
   first|refine k_d ?_|refine dG (hc:=fun _=>Calm.un rfl (una_not _)) (h:=?_)
   refine dP (hc:=fun _=>(by first | exact Calm.pickT rfl rfl | exact Calm.pickF rfl rfl)) (h:=?_)
   refine draw_nil ?_
   refine athen_n ?_
   refine k_u [(0,_),(1,_),(10,_),(11,_),(60,_)] ?_
   refine k_F rfl ?_
   refine AWP.exit ?_
   refine athen_exit ?_
   refine athen_exit ?_
   refine ain_same ?_
   refine ⟨j,?_,?_,?_⟩
   all_goals (try dsimp only)
   ·exact ⟨by omega,by omega,(down_end (p:=(fun x=>!Go.Sort.ltInt x d0[a]!)) hij).trans q3⟩
   ·exact ⟨sb_,sb_,sb_,sb_,trivial⟩
   ·exact Mem.Less.refl _
 rintro j2 ⟨b3,b4,hD⟩
 intro _ _ hs_ hl_
 (try dsimp only at *)
 refine athen_n ?_
 refine AWP.sub _ hs_ (AWP.less _ hl_ ?_)
 clear hs_ hl_
 by_cases hx:j2<i2
 ·refine AWP.seq (k_a (k_m rfl (k_m rfl ?_)))
  refine rC (Calm.bin rfl rfl b_gtr) ?_
  refine k_n ?_
  refine k_u [(0,_),(1,_),(10,_),(11,_),(65,_)] ?_
  refine k_T rfl ?_
  refine AWP.seq ?_
  refine AWP.draw [(0,true),(1,true),(2,true),(3,true),(4,true),(5,true),(6,true),(7,true),(8,true),(9,true),(10,true),(11,true),(12,true),(13,false),(14,true),(15,false)] [13,15] mixed (by kernel_rfl) ?_
  refine dP (hc:=fun _=>Calm.move rfl) (h:=?_)
  refine dP (hc:=fun _=>Calm.move rfl) (h:=?_)
  refine dP (hc:=fun _=>Calm.move rfl) (h:=?_)
  refine dP (hc:=fun _=>Calm.move rfl) (h:=?_)
  refine dP (hc:=fun _=>Calm.move rfl) (h:=?_)
  refine dP (hc:=fun _=>Calm.move rfl) (h:=?_)
  refine dP (hc:=fun _=>Calm.indexS Try.underlying24 ty_size_3 rfl rfl (by omega) (by omega)) (h:=?_)
  refine dC (hc:=Calm.load ty_plain_3 rfl (rd_row (k:=a) own_ rw_ rw_)) (h:=?_)
  refine dP (hc:=fun _=>Calm.move rfl) (h:=?_)
  refine dP (hc:=fun _=>Calm.move rfl) (h:=?_)
  refine dP (hc:=fun _=>Calm.indexS Try.underlying24 ty_size_3 rfl rfl (by omega) (by omega)) (h:=?_)
  refine dC (hc:=Calm.load ty_plain_3 rfl (rd_row (k:=j2) own_ rw_ rw_)) (h:=?_)
  refine dP (hc:=fun _=>Calm.indexS Try.underlying24 ty_size_3 rfl rfl (by omega) (by omega)) (h:=?_)
  refine draw_only rfl ?_
  refine ARun.storeRow encI (j2) rfl rfl ty_size_3 ⟨rfl,rfl⟩ own_ rw_ rw_ ?_
  try simp only [k_ms,k_sz,k_ss,k_za,Nat.reduceAdd]
  refine arun_nil ⟨fun h=>absurd h (by decide),?_⟩
  refine dP (hc:=fun _=>Calm.indexS Try.underlying24 ty_size_3 rfl rfl (by omega) (by omega)) (h:=?_)
  refine draw_only rfl ?_
  refine ARun.storeRow encI (a) rfl rfl ty_size_3 ⟨rfl,rfl⟩ own_ rw_ rw_ ?_
  try simp only [k_ms,k_sz,k_ss,k_za,Nat.reduceAdd]
  refine arun_nil ⟨fun h=>absurd h (by decide),?_⟩
  refine draw_nil ?_
  refine athen_n ?_
  refine k_u [(0,_),(1,_),(10,_),(11,_),(65,_)] ?_
  refine k_a (k_m rfl (k_s rfl (k_e rfl ?_)))
  refine k_u [(0,_),(1,_),(10,_),(11,_),(65,_),(8,_),(9,_)] ?_
  refine k_r ?_
  refine ⟨_,_,⟨_,_,rfl,⟨_,_,rfl,rfl,rfl⟩,rfl⟩,Mem.Less.refl _,?_⟩
  exact part_res1 Go.Sort.ltInt hd0 hU hD hx (R0.swp _ _ (by omega) (by omega)) (by omega) (by omega)
 ·refine AWP.seq (k_a (k_m rfl (k_m rfl ?_)))
  refine rC (Calm.bin rfl rfl b_gtr) ?_
  refine k_n ?_
  refine k_u [(0,_),(1,_),(10,_),(11,_),(65,_)] ?_
  refine k_F rfl ?_
  refine k_k (AWP.seq ?_)
  refine AWP.draw [(0,true),(1,true),(2,true),(3,true),(4,true),(5,true),(6,true),(7,true),(8,true),(9,true),(10,true),(11,true),(12,true),(13,false),(14,true),(15,false)] [13,15] mixed (by kernel_rfl) ?_
  have R1:=R0.swp i2 j2 (by omega) (by omega)
  have hst:partLoop Go.Sort.ltInt a (i2+1) (j2-1) (swp d0 i2 j2)=partLoop Go.Sort.ltInt a (i2+1) (j2-1) (swp d0 i2 j2):=rfl
  refine dP (hc:=fun _=>Calm.move rfl) (h:=?_)
  refine dP (hc:=fun _=>Calm.move rfl) (h:=?_)
  refine dP (hc:=fun _=>Calm.move rfl) (h:=?_)
  refine dP (hc:=fun _=>Calm.move rfl) (h:=?_)
  refine dP (hc:=fun _=>Calm.move rfl) (h:=?_)
  refine dP (hc:=fun _=>Calm.move rfl) (h:=?_)
  refine dP (hc:=fun _=>Calm.indexS Try.underlying24 ty_size_3 rfl rfl (by omega) (by omega)) (h:=?_)
  refine dC (hc:=Calm.load ty_plain_3 rfl (rd_row (k:=j2) own_ rw_ rw_)) (h:=?_)
  refine dP (hc:=fun _=>Calm.move rfl) (h:=?_)
  refine dP (hc:=fun _=>Calm.move rfl) (h:=?_)
  refine dP (hc:=fun _=>Calm.indexS Try.underlying24 ty_size_3 rfl rfl (by omega) (by omega)) (h:=?_)
  refine dC (hc:=Calm.load ty_plain_3 rfl (rd_row (k:=i2) own_ rw_ rw_)) (h:=?_)
  refine dP (hc:=fun _=>Calm.indexS Try.underlying24 ty_size_3 rfl rfl (by omega) (by omega)) (h:=?_)
  refine draw_only rfl ?_
  refine ARun.storeRow encI (i2) rfl rfl ty_size_3 ⟨rfl,rfl⟩ own_ rw_ rw_ ?_
  try simp only [k_ms,k_sz,k_ss,k_za,Nat.reduceAdd]
  refine arun_nil ⟨fun h=>absurd h (by decide),?_⟩
  refine dP (hc:=fun _=>Calm.indexS Try.underlying24 ty_size_3 rfl rfl (by omega) (by omega)) (h:=?_)
  refine draw_only rfl ?_
  refine ARun.storeRow encI (j2) rfl rfl ty_size_3 ⟨rfl,rfl⟩ own_ rw_ rw_ ?_
  try simp only [k_ms,k_sz,k_ss,k_za,Nat.reduceAdd]
  refine arun_nil ⟨fun h=>absurd h (by decide),?_⟩
  refine draw_nil ?_
  refine athen_n ?_
  refine k_u [(0,_),(1,_),(10,_),(11,_),(65,_)] ?_
  refine k_a (k_m rfl ?_)
  refine rC (Calm.bin rfl rfl b_add_i64) ?_
  refine k_e rfl ?_
  refine k_u [(0,_),(1,_),(10,_),(11,_),(65,_)] ?_
  refine k_a (k_m rfl ?_)
  refine rC (Calm.bin rfl rfl b_sub_i64) ?_
  refine k_e rfl ?_
  refine k_u [(0,_),(1,_),(10,_),(11,_),(65,_)] ?_
  refine AWP.seq ?_
  refine AWP.join (X:=Nat × Array Int) (fun x=>[(0,.slice (some ⟨b,0,none⟩) n cap),(1,.int .i64 a),(11,.int .i64 x.1)]) (fun x=>S.set b ⟨3,(x.2).toList.map encI,room⟩) (fun x=>a≤x.1∧x.1≤J∧Rw (fun _=>True) n x.2∧(x.1,x.2)=partLoop Go.Sort.ltInt a (i2+1) (j2-1) (swp d0 i2 j2)) ?_ ?_
  ·refine AWP.block ?_
   refine AWP.loop (X:=Nat × Nat × Array Int) (fun x=>[(0,.slice (some ⟨b,0,none⟩) n cap),(1,.int .i64 a),(10,.int .i64 x.1),(11,.int .i64 x.2.1)]) (fun x=>S.set b ⟨3,(x.2.2).toList.map encI,room⟩) (fun x=>a+1≤x.1∧x.1≤J+1∧a≤x.2.1∧x.2.1≤J∧Rw (fun _=>True) n x.2.2∧partLoop Go.Sort.ltInt a x.1 x.2.1 x.2.2=partLoop Go.Sort.ltInt a (i2+1) (j2-1) (swp d0 i2 j2)) (fun x=>J+1-x.1) ((i2+1,j2-1,swp d0 i2 j2)) ⟨sb_,sb_,sb_,sb_,trivial⟩ (Mem.Less.refl _) (⟨by dsimp only;omega,by dsimp only;omega,by dsimp only;omega,by dsimp only;omega,R1,rfl⟩) ?_
   rintro ⟨I2,J2,d2⟩ ⟨m1,m2,m4,m5,R2,m3⟩
   (try dsimp only at *)
   have z2:=R2.size
   refine AWP.block ?_
   refine AWP.seq ?_
   refine AWP.join (X:=Nat) (fun x=>[(0,.slice (some ⟨b,0,none⟩) n cap),(1,.int .i64 a),(10,.int .i64 x),(11,.int .i64 J2)]) (fun _=>S.set b ⟨3,(d2).toList.map encI,room⟩) (fun x=>a+1≤x∧x≤J+1∧x=scanUp (fun x=>Go.Sort.ltInt x d2[a]!) d2 (J2) I2) ?_ ?_
   ·refine AWP.block ?_
    refine AWP.loop (X:=Nat) (fun x=>[(0,.slice (some ⟨b,0,none⟩) n cap),(1,.int .i64 a),(10,.int .i64 x),(11,.int .i64 J2)]) (fun _=>S.set b ⟨3,(d2).toList.map encI,room⟩) (fun x=>a+1≤x∧x≤J+1∧scanUp (fun x=>Go.Sort.ltInt x d2[a]!) d2 (J2) x=scanUp (fun x=>Go.Sort.ltInt x d2[a]!) d2 (J2) I2) (fun x=>J+1-x) (I2) ⟨sb_,sb_,sb_,sb_,trivial⟩ (Mem.Less.refl _) (⟨by omega,by omega,rfl⟩) ?_
    rintro i ⟨q1,q2,q3⟩
    (try dsimp only at *)
    by_cases hij:i≤J2
    ·refine AWP.seq (AWP.seq ?_)
     refine AWP.draw [(0,true),(1,true),(2,true),(3,true),(4,true),(5,true),(6,true),(7,true),(8,true),(9,true),(10,true),(11,true),(12,false),(13,true)] [] mixed (by kernel_rfl) ?_
     refine dP (hc:=fun _=>Calm.move rfl) (h:=?_)
     refine dP (hc:=fun _=>Calm.move rfl) (h:=?_)
     refine dP (hc:=fun _=>Calm.bin rfl rfl b_leq) (h:=?_)
     refine dP (hc:=fun _=>Calm.move rfl) (h:=?_)
     first|refine k_d ?_|refine dG (hc:=fun _=>Calm.move rfl) (h:=?_)
     first|refine k_d ?_|refine dG (hc:=fun _=>Calm.move rfl) (h:=?_)
     first|refine k_d ?_|refine dG (hc:=fun _=>Calm.indexS Try.underlying24 ty_size_3 rfl rfl (by omega) (by omega)) (h:=?_)
     first|refine k_d ?_|refine dL (hc:=Calm.load ty_plain_3 rfl (rd_row (k:=i) own_ rw_ rw_)) (h:=?_)
     first|refine k_d ?_|refine dG (hc:=fun _=>Calm.move rfl) (h:=?_)
     first|refine k_d ?_|refine dG (hc:=fun _=>Calm.move rfl) (h:=?_)
     first|refine k_d ?_|refine dG (hc:=fun _=>Calm.indexS Try.underlying24 ty_size_3 rfl rfl (by omega) (by omega)) (h:=?_)
     first|refine k_d ?_|refine dL (hc:=Calm.load ty_plain_3 rfl (rd_row (k:=a) own_ rw_ rw_)) (h:=?_)
     refine draw_only rfl ?_
     refine ARun.callG 3 true 102 rfl (lit_lt rfl) rfl (lit_lt rfl) go_152 rfl (soI_less _ _ _) ?_
     rintro _ _ ⟨rfl,rfl⟩
     refine arun_nil ⟨fun _=>less_,?_⟩
     refine dP (hc:=fun _=>(by first | exact Calm.pickT rfl rfl | exact Calm.pickF rfl rfl)) (h:=?_)
     refine draw_nil ?_
     refine athen_n ?_
     refine k_u [(0,_),(1,_),(10,_),(11,_),(112,_)] ?_
     refine AWP.condB rfl (fun hl=>?_) (fun hl=>?_)
     ·refine k_k ?_
      refine AWP.block ?_
      refine AWP.region ?_
      refine k_m rfl ?_
      refine rC (Calm.bin rfl rfl b_add_i64) ?_
      refine k_s rfl ?_
      refine arun_nil ?_
      refine ain_n ?_
      refine athen_n ?_
      refine ⟨i+1,?_,?_,?_,?_⟩
      all_goals (try dsimp only)
      ·exact ⟨sb_,sb_,sb_,sb_,trivial⟩
      ·exact Mem.Less.refl _
      ·exact ⟨by omega,by omega,(up_go (p:=(fun x=>Go.Sort.ltInt x d2[a]!)) hij (by simp only [hl,Bool.not_true,Bool.not_false])).trans q3⟩
      ·omega
     ·refine AWP.exit ?_
      refine athen_exit ?_
      refine athen_exit ?_
      refine ain_same ?_
      refine ⟨i,?_,?_,?_⟩
      all_goals (try dsimp only)
      ·exact ⟨by omega,by omega,(up_no (p:=(fun x=>Go.Sort.ltInt x d2[a]!)) (by simp only [hl,Bool.not_true,Bool.not_false])).trans q3⟩
      ·exact ⟨sb_,sb_,sb_,sb_,trivial⟩
      ·exact Mem.Less.refl _
    ·refine AWP.seq (AWP.seq ?_)
     refine AWP.draw [(0,true),(1,true),(2,true),(3,true),(4,true),(5,true),(6,true),(7,true),(8,true),(9,true),(10,true),(11,true),(12,false),(13,true)] [] mixed (by kernel_rfl) ?_
     refine dP (hc:=fun _=>Calm.move rfl) (h:=?_)
     refine dP (hc:=fun _=>Calm.move rfl) (h:=?_)
     refine dP (hc:=fun _=>Calm.bin rfl rfl b_leq) (h:=?_)
     refine dP (hc:=fun _=>Calm.move rfl) (h:=?_)
     first|refine k_d ?_|refine dG (hc:=fun _=>Calm.move rfl) (h:=?_)
     first|refine k_d ?_|refine dG (hc:=fun _=>Calm.move rfl) (h:=?_)
     first|refine k_d ?_|refine dG (hc:=fun _=>Calm.indexS Try.underlying24 ty_size_3 rfl rfl (by omega) (by omega)) (h:=?_)
     first|refine k_d ?_|refine dL (hc:=Calm.load ty_plain_3 rfl (rd_row (k:=i) own_ rw_ rw_)) (h:=?_)
     first|refine k_d ?_|refine dG (hc:=fun _=>Calm.move rfl) (h:=?_)
     first|refine k_d ?_|refine dG (hc:=fun _=>Calm.move rfl) (h:=?_)
     first|refine k_d ?_|refine dG (hc:=fun _=>Calm.indexS Try.underlying24 ty_size_3 rfl rfl (by omega) (by omega)) (h:=?_)
     first|refine k_d ?_|refine dL (hc:=Calm.load ty_plain_3 rfl (rd_row (k:=a) own_ rw_ rw_)) (h:=?_)
     refine draw_only rfl ?_
     first | refine rS 102 ?_ | refine rU 102 ?_
     refine arun_nil ⟨fun _=>less_,?_⟩
     refine dP (hc:=fun _=>(by first | exact Calm.pickT rfl rfl | exact Calm.pickF rfl rfl)) (h:=?_)
     refine draw_nil ?_
     refine athen_n ?_
     refine k_u [(0,_),(1,_),(10,_),(11,_),(112,_)] ?_
     refine k_F rfl ?_
     refine AWP.exit ?_
     refine athen_exit ?_
     refine athen_exit ?_
     refine ain_same ?_
     refine ⟨i,?_,?_,?_⟩
     all_goals (try dsimp only)
     ·exact ⟨by omega,by omega,(up_end (p:=(fun x=>Go.Sort.ltInt x d2[a]!)) hij).trans q3⟩
     ·exact ⟨sb_,sb_,sb_,sb_,trivial⟩
     ·exact Mem.Less.refl _
   rintro i2 ⟨b1,b2,hU⟩
   intro _ _ hs_ hl_
   (try dsimp only at *)
   refine athen_n ?_
   refine AWP.sub _ hs_ (AWP.less _ hl_ ?_)
   clear hs_ hl_
   refine AWP.seq ?_
   refine AWP.join (X:=Nat) (fun x=>[(0,.slice (some ⟨b,0,none⟩) n cap),(1,.int .i64 a),(10,.int .i64 i2),(11,.int .i64 x)]) (fun _=>S.set b ⟨3,(d2).toList.map encI,room⟩) (fun x=>a≤x∧x≤J∧x=scanDown (fun x=>!Go.Sort.ltInt x d2[a]!) d2 i2 J2) ?_ ?_
   ·refine AWP.block ?_
    refine AWP.loop (X:=Nat) (fun x=>[(0,.slice (some ⟨b,0,none⟩) n cap),(1,.int .i64 a),(10,.int .i64 i2),(11,.int .i64 x)]) (fun _=>S.set b ⟨3,(d2).toList.map encI,room⟩) (fun x=>a≤x∧x≤J∧scanDown (fun x=>!Go.Sort.ltInt x d2[a]!) d2 i2 x=scanDown (fun x=>!Go.Sort.ltInt x d2[a]!) d2 i2 J2) (fun x=>x) (J2) ⟨sb_,sb_,sb_,sb_,trivial⟩ (Mem.Less.refl _) (⟨by omega,by omega,rfl⟩) ?_
    rintro j ⟨q1,q2,q3⟩
    (try dsimp only at *)
    by_cases hij:i2≤j
    ·obtain ⟨j,rfl⟩ : ∃ q,j=q+1:=⟨j-1,by omega⟩
     refine AWP.seq (AWP.seq ?_)
     refine AWP.draw [(0,true),(1,true),(2,true),(3,true),(4,true),(5,true),(6,true),(7,true),(8,true),(9,true),(10,true),(11,true),(12,false),(13,true),(14,true)] [] mixed (by kernel_rfl) ?_
     refine dP (hc:=fun _=>Calm.move rfl) (h:=?_)
     refine dP (hc:=fun _=>Calm.move rfl) (h:=?_)
     refine dP (hc:=fun _=>Calm.bin rfl rfl b_leq) (h:=?_)
     refine dP (hc:=fun _=>Calm.move rfl) (h:=?_)
     first|refine k_d ?_|refine dG (hc:=fun _=>Calm.move rfl) (h:=?_)
     first|refine k_d ?_|refine dG (hc:=fun _=>Calm.move rfl) (h:=?_)
     first|refine k_d ?_|refine dG (hc:=fun _=>Calm.indexS Try.underlying24 ty_size_3 rfl rfl (by omega) (by omega)) (h:=?_)
     first|refine k_d ?_|refine dL (hc:=Calm.load ty_plain_3 rfl (rd_row (k:=j+1) own_ rw_ rw_)) (h:=?_)
     first|refine k_d ?_|refine dG (hc:=fun _=>Calm.move rfl) (h:=?_)
     first|refine k_d ?_|refine dG (hc:=fun _=>Calm.move rfl) (h:=?_)
     first|refine k_d ?_|refine dG (hc:=fun _=>Calm.indexS Try.underlying24 ty_size_3 rfl rfl (by omega) (by omega)) (h:=?_)
     first|refine k_d ?_|refine dL (hc:=Calm.load ty_plain_3 rfl (rd_row (k:=a) own_ rw_ rw_)) (h:=?_)
     refine draw_only rfl ?_
     refine ARun.callG 3 true 118 rfl (lit_lt rfl) rfl (lit_lt rfl) go_152 rfl (soI_less _ _ _) ?_
     rintro _ _ ⟨rfl,rfl⟩
     refine arun_nil ⟨fun _=>less_,?_⟩
     first|refine k_d ?_|refine dG (hc:=fun _=>Calm.un rfl (una_not _)) (h:=?_)
     refine dP (hc:=fun _=>(by first | exact Calm.pickT rfl rfl | exact Calm.pickF rfl rfl)) (h:=?_)
     refine draw_nil ?_
     refine athen_n ?_
     refine k_u [(0,_),(1,_),(10,_),(11,_),(129,_)] ?_
     refine AWP.condB rfl (fun hl=>?_) (fun hl=>?_)
     ·have hl:=nt_ hl
      refine k_k ?_
      refine AWP.block ?_
      refine AWP.region ?_
      refine k_m rfl ?_
      refine rC (Calm.bin rfl rfl b_sub_i64) ?_
      refine k_s rfl ?_
      refine arun_nil ?_
      refine ain_n ?_
      refine athen_n ?_
      refine ⟨j,?_,?_,?_,?_⟩
      all_goals (try dsimp only)
      ·exact ⟨sb_,sb_,sb_,sb_,trivial⟩
      ·exact Mem.Less.refl _
      ·exact ⟨by omega,by omega,(down_go (p:=(fun x=>!Go.Sort.ltInt x d2[a]!)) hij (by simp only [hl,Bool.not_true,Bool.not_false])).trans q3⟩
      ·omega
     ·have hl:=nf_ hl
      refine AWP.exit ?_
      refine athen_exit ?_
      refine athen_exit ?_
      refine ain_same ?_
      refine ⟨(j+1),?_,?_,?_⟩
      all_goals (try dsimp only)
      ·exact ⟨by omega,by omega,(down_no (p:=(fun x=>!Go.Sort.ltInt x d2[a]!)) (by omega) (by simp only [hl,Bool.not_true,Bool.not_false])).trans q3⟩
      ·exact ⟨sb_,sb_,sb_,sb_,trivial⟩
      ·exact Mem.Less.refl _
    ·refine AWP.seq (AWP.seq ?_)
     refine AWP.draw [(0,true),(1,true),(2,true),(3,true),(4,true),(5,true),(6,true),(7,true),(8,true),(9,true),(10,true),(11,true),(12,false),(13,true),(14,true)] [] mixed (by kernel_rfl) ?_
     refine dP (hc:=fun _=>Calm.move rfl) (h:=?_)
     refine dP (hc:=fun _=>Calm.move rfl) (h:=?_)
     refine dP (hc:=fun _=>Calm.bin rfl rfl b_leq) (h:=?_)
     refine dP (hc:=fun _=>Calm.move rfl) (h:=?_)
     first|refine k_d ?_|refine dG (hc:=fun _=>Calm.move rfl) (h:=?_)
     first|refine k_d ?_|refine dG (hc:=fun _=>Calm.move rfl) (h:=?_)
     first|refine k_d ?_|refine dG (hc:=fun _=>Calm.indexS Try.underlying24 ty_size_3 rfl rfl (by omega) (by omega)) (h:=?_)
     first|refine k_d ?_|refine dL (hc:=Calm.load ty_plain_3 rfl (rd_row (k:=j+1) own_ rw_ rw_)) (h:=?_)
     first|refine k_d ?_|refine dG (hc:=fun _=>Calm.move rfl) (h:=?_)
     first|refine k_d ?_|refine dG (hc:=fun _=>Calm.move rfl) (h:=?_)
     first|refine k_d ?_|refine dG (hc:=fun _=>Calm.indexS Try.underlying24 ty_size_3 rfl rfl (by omega) (by omega)) (h:=?_)
     first|refine k_d ?_|refine dL (hc:=Calm.load ty_plain_3 rfl (rd_row (k:=a) own_ rw_ rw_)) (h:=?_)
     refine draw_only rfl ?_
     first | refine rS 118 ?_ | refine rU 118 ?_
     refine arun_nil ⟨fun _=>less_,?_⟩
     first|refine k_d ?_|refine dG (hc:=fun _=>Calm.un rfl (una_not _)) (h:=?_)
     refine dP (hc:=fun _=>(by first | exact Calm.pickT rfl rfl | exact Calm.pickF rfl rfl)) (h:=?_)
     refine draw_nil ?_
     refine athen_n ?_
     refine k_u [(0,_),(1,_),(10,_),(11,_),(129,_)] ?_
     refine k_F rfl ?_
     refine AWP.exit ?_
     refine athen_exit ?_
     refine athen_exit ?_
     refine ain_same ?_
     refine ⟨j,?_,?_,?_⟩
     all_goals (try dsimp only)
     ·exact ⟨by omega,by omega,(down_end (p:=(fun x=>!Go.Sort.ltInt x d2[a]!)) hij).trans q3⟩
     ·exact ⟨sb_,sb_,sb_,sb_,trivial⟩
     ·exact Mem.Less.refl _
   rintro j2 ⟨b3,b4,hD⟩
   intro _ _ hs_ hl_
   (try dsimp only at *)
   refine athen_n ?_
   refine AWP.sub _ hs_ (AWP.less _ hl_ ?_)
   clear hs_ hl_
   by_cases hx:j2<i2
   ·refine AWP.seq (k_a (k_m rfl (k_m rfl ?_)))
    refine rC (Calm.bin rfl rfl b_gtr) ?_
    refine k_n ?_
    refine k_u [(0,_),(1,_),(10,_),(11,_),(134,_)] ?_
    refine k_T rfl ?_
    refine AWP.exit ?_
    refine athen_exit ?_
    refine ain_other rfl ?_
    refine athen_exit ?_
    refine ain_same ?_
    refine ⟨(j2,d2),?_,?_,?_⟩
    all_goals (try dsimp only)
    ·exact ⟨by omega,by omega,R2,(part_stop Go.Sort.ltInt hU hD hx).trans m3⟩
    ·exact ⟨sb_,sb_,sb_,trivial⟩
    ·exact Mem.Less.refl _
   ·refine AWP.seq (k_a (k_m rfl (k_m rfl ?_)))
    refine rC (Calm.bin rfl rfl b_gtr) ?_
    refine k_n ?_
    refine k_u [(0,_),(1,_),(10,_),(11,_),(134,_)] ?_
    refine k_F rfl ?_
    refine k_k (AWP.seq ?_)
    refine AWP.draw [(0,true),(1,true),(2,true),(3,true),(4,true),(5,true),(6,true),(7,true),(8,true),(9,true),(10,true),(11,true),(12,true),(13,false),(14,true),(15,false)] [13,15] mixed (by kernel_rfl) ?_
    refine dP (hc:=fun _=>Calm.move rfl) (h:=?_)
    refine dP (hc:=fun _=>Calm.move rfl) (h:=?_)
    refine dP (hc:=fun _=>Calm.move rfl) (h:=?_)
    refine dP (hc:=fun _=>Calm.move rfl) (h:=?_)
    refine dP (hc:=fun _=>Calm.move rfl) (h:=?_)
    refine dP (hc:=fun _=>Calm.move rfl) (h:=?_)
    refine dP (hc:=fun _=>Calm.indexS Try.underlying24 ty_size_3 rfl rfl (by omega) (by omega)) (h:=?_)
    refine dC (hc:=Calm.load ty_plain_3 rfl (rd_row (k:=j2) own_ rw_ rw_)) (h:=?_)
    refine dP (hc:=fun _=>Calm.move rfl) (h:=?_)
    refine dP (hc:=fun _=>Calm.move rfl) (h:=?_)
    refine dP (hc:=fun _=>Calm.indexS Try.underlying24 ty_size_3 rfl rfl (by omega) (by omega)) (h:=?_)
    refine dC (hc:=Calm.load ty_plain_3 rfl (rd_row (k:=i2) own_ rw_ rw_)) (h:=?_)
    refine dP (hc:=fun _=>Calm.indexS Try.underlying24 ty_size_3 rfl rfl (by omega) (by omega)) (h:=?_)
    refine draw_only rfl ?_
    refine ARun.storeRow encI (i2) rfl rfl ty_size_3 ⟨rfl,rfl⟩ own_ rw_ rw_ ?_
    try simp only [k_ms,k_sz,k_ss,k_za,Nat.reduceAdd]
    refine arun_nil ⟨fun h=>absurd h (by decide),?_⟩
    refine dP (hc:=fun _=>Calm.indexS Try.underlying24 ty_size_3 rfl rfl (by omega) (by omega)) (h:=?_)
    refine draw_only rfl ?_
    refine ARun.storeRow encI (j2) rfl rfl ty_size_3 ⟨rfl,rfl⟩ own_ rw_ rw_ ?_
    try simp only [k_ms,k_sz,k_ss,k_za,Nat.reduceAdd]
    refine arun_nil ⟨fun h=>absurd h (by decide),?_⟩
    refine draw_nil ?_
    refine athen_n ?_
    refine k_u [(0,_),(1,_),(10,_),(11,_),(134,_)] ?_
    refine k_a (k_m rfl ?_)
    refine rC (Calm.bin rfl rfl b_add_i64) ?_
    refine k_e rfl ?_
    refine k_u [(0,_),(1,_),(10,_),(11,_),(134,_)] ?_
    refine AWP.region ?_
    refine k_m rfl ?_
    refine rC (Calm.bin rfl rfl b_sub_i64) ?_
    refine k_s rfl ?_
    refine arun_nil ?_
    refine ain_n ?_
    refine athen_n ?_
    refine ⟨(i2+1,j2-1,swp d2 i2 j2),?_,?_,?_,?_⟩
    all_goals (try dsimp only)
    ·exact ⟨sb_,sb_,sb_,sb_,trivial⟩
    ·exact Mem.Less.refl _
    ·exact ⟨by omega,by omega,by omega,by omega,R2.swp _ _ (by omega) (by omega),(part_go Go.Sort.ltInt hU hD hx).trans m3⟩
    ·(have:I2≤i2:=by rw [hU];exact Go.Sort.scanUp_ge _ _ _ _);omega
  rintro ⟨j3,d3⟩ ⟨t1,t2,R3,t3⟩
  intro _ _ hs_ hl_
  (try dsimp only at *)
  refine athen_n ?_
  refine AWP.sub _ hs_ (AWP.less _ hl_ ?_)
  clear hs_ hl_
  have z3:=R3.size
  refine AWP.seq ?_
  refine AWP.draw [(0,true),(1,true),(2,true),(3,true),(4,true),(5,true),(6,true),(7,true),(8,true),(9,true),(10,true),(11,true),(12,true),(13,false),(14,true),(15,false)] [13,15] mixed (by kernel_rfl) ?_
  refine dP (hc:=fun _=>Calm.move rfl) (h:=?_)
  refine dP (hc:=fun _=>Calm.move rfl) (h:=?_)
  refine dP (hc:=fun _=>Calm.move rfl) (h:=?_)
  refine dP (hc:=fun _=>Calm.move rfl) (h:=?_)
  refine dP (hc:=fun _=>Calm.move rfl) (h:=?_)
  refine dP (hc:=fun _=>Calm.move rfl) (h:=?_)
  refine dP (hc:=fun _=>Calm.indexS Try.underlying24 ty_size_3 rfl rfl (by omega) (by omega)) (h:=?_)
  refine dC (hc:=Calm.load ty_plain_3 rfl (rd_row (k:=a) own_ rw_ rw_)) (h:=?_)
  refine dP (hc:=fun _=>Calm.move rfl) (h:=?_)
  refine dP (hc:=fun _=>Calm.move rfl) (h:=?_)
  refine dP (hc:=fun _=>Calm.indexS Try.underlying24 ty_size_3 rfl rfl (by omega) (by omega)) (h:=?_)
  refine dC (hc:=Calm.load ty_plain_3 rfl (rd_row (k:=j3) own_ rw_ rw_)) (h:=?_)
  refine dP (hc:=fun _=>Calm.indexS Try.underlying24 ty_size_3 rfl rfl (by omega) (by omega)) (h:=?_)
  refine draw_only rfl ?_
  refine ARun.storeRow encI (j3) rfl rfl ty_size_3 ⟨rfl,rfl⟩ own_ rw_ rw_ ?_
  try simp only [k_ms,k_sz,k_ss,k_za,Nat.reduceAdd]
  refine arun_nil ⟨fun h=>absurd h (by decide),?_⟩
  refine dP (hc:=fun _=>Calm.indexS Try.underlying24 ty_size_3 rfl rfl (by omega) (by omega)) (h:=?_)
  refine draw_only rfl ?_
  refine ARun.storeRow encI (a) rfl rfl ty_size_3 ⟨rfl,rfl⟩ own_ rw_ rw_ ?_
  try simp only [k_ms,k_sz,k_ss,k_za,Nat.reduceAdd]
  refine arun_nil ⟨fun h=>absurd h (by decide),?_⟩
  refine draw_nil ?_
  refine athen_n ?_
  refine k_u [(0,_),(1,_),(11,_)] ?_
  refine k_a (k_m rfl (k_s rfl (k_e rfl ?_)))
  refine k_u [(0,_),(1,_),(11,_),(8,_),(9,_)] ?_
  refine AWP.ret ?_
  refine ⟨_,_,⟨_,_,rfl,⟨_,_,rfl,rfl,rfl⟩,rfl⟩,Mem.Less.refl _,?_⟩
  exact part_res2 Go.Sort.ltInt hd0 hU hD hx t3 (R3.swp _ _ (by omega) (by omega)) (by omega) (by omega)
set_option maxHeartbeats 4000000 in
theorem soI_parteq {S : Mem} (b room n cap : Nat) (hb : Fresh S b) (hn : n ≤ 1048576) (d : Array Int) (R : Rw (fun _ => True) n d) (ia ie ip : Int) (a e p : Nat) (ha : ia = a) (he : ie = e) (hpp : ip = p) (hap : a ≤ p) (hpe : p < e) (hen : e ≤ n) :
  ACall Try.prog 153 #[.slice (some ⟨b,0,none⟩) n cap,.int .i64 ia,.int .i64 ie,.int .i64 ip] (S.set b ⟨3,(d).toList.map encI,room⟩) fun r S'=>PartEqR Int (fun x:Array Int=>S.set b ⟨3,(x).toList.map encI,room⟩) (fun _=>True) n (partitionEqual Go.Sort.ltInt d a e p) a e r S':=by
 subst ha he hpp
 obtain ⟨J,rfl⟩ : ∃ J,e=J+1:=⟨e-1,by omega⟩
 have R0:=R.swp a p (by omega) (by omega)
 have z:=R.size
 obtain ⟨d0,hd0⟩ : ∃ d0,d0=swp d a p:=⟨_,rfl⟩
 rw [← hd0] at R0
 have z0:=R0.size
 refine ACall.enter (rs:=[.tmp 8]) 84 [(0,.slice (some ⟨b,0,none⟩) n cap),(1,.int .i64 a),(2,.int .i64 ((J+1:Nat):Int)),(3,.int .i64 p)] Try.func153 rfl rfl (Nat.le_of_ble_eq_true rfl) rfl ⟨rfl,rfl,rfl,rfl,trivial⟩ ?_
 refine k_a (k_e rfl (AWP.seq ?_))
 refine AWP.draw [(0,true),(1,true),(2,true),(3,true),(4,true),(5,true),(6,true),(7,true),(8,true),(9,true),(10,true),(11,true),(12,true),(13,false),(14,true),(15,false)] [13,15] mixed (by kernel_rfl) ?_
 refine dP (hc:=fun _=>Calm.move rfl) (h:=?_)
 refine dP (hc:=fun _=>Calm.move rfl) (h:=?_)
 refine dP (hc:=fun _=>Calm.move rfl) (h:=?_)
 refine dP (hc:=fun _=>Calm.move rfl) (h:=?_)
 refine dP (hc:=fun _=>Calm.move rfl) (h:=?_)
 refine dP (hc:=fun _=>Calm.move rfl) (h:=?_)
 refine dP (hc:=fun _=>Calm.indexS Try.underlying24 ty_size_3 rfl rfl (by omega) (by omega)) (h:=?_)
 refine dC (hc:=Calm.load ty_plain_3 rfl (rd_row (k:=p) own_ rw_ rw_)) (h:=?_)
 refine dP (hc:=fun _=>Calm.move rfl) (h:=?_)
 refine dP (hc:=fun _=>Calm.move rfl) (h:=?_)
 refine dP (hc:=fun _=>Calm.indexS Try.underlying24 ty_size_3 rfl rfl (by omega) (by omega)) (h:=?_)
 refine dC (hc:=Calm.load ty_plain_3 rfl (rd_row (k:=a) own_ rw_ rw_)) (h:=?_)
 refine dP (hc:=fun _=>Calm.indexS Try.underlying24 ty_size_3 rfl rfl (by omega) (by omega)) (h:=?_)
 refine draw_only rfl ?_
 refine ARun.storeRow encI (a) rfl rfl ty_size_3 ⟨rfl,rfl⟩ own_ rw_ rw_ ?_
 try simp only [k_ms,k_sz,k_ss,k_za,Nat.reduceAdd]
 refine arun_nil ⟨fun h=>absurd h (by decide),?_⟩
 refine dP (hc:=fun _=>Calm.indexS Try.underlying24 ty_size_3 rfl rfl (by omega) (by omega)) (h:=?_)
 refine draw_only rfl ?_
 refine ARun.storeRow encI (p) rfl rfl ty_size_3 ⟨rfl,rfl⟩ own_ rw_ rw_ ?_
 try simp only [k_ms,k_sz,k_ss,k_za,Nat.reduceAdd]
 refine arun_nil ⟨fun h=>absurd h (by decide),?_⟩
 refine draw_nil ?_
 refine athen_n ?_
 refine k_u [(0,_),(1,_),(2,_),(3,_),(8,_)] ?_
 refine AWP.less (S.set b ⟨3,(d0).toList.map encI,room⟩) (by rw [hd0];exact Mem.Less.refl _) ?_
 refine k_a (k_m rfl ?_)
 refine rC (Calm.bin rfl rfl b_add_i64) ?_
 refine k_m rfl ?_
 refine rC (Calm.bin rfl rfl b_sub_i64) ?_
 refine k_s rfl (k_e rfl ?_)
 refine k_u [(0,_),(1,_),(2,_),(3,_),(8,_),(9,_),(10,_)] ?_
 refine AWP.seq ?_
 refine AWP.block ?_
 refine AWP.loop (X:=Nat × Nat × Array Int) (fun x=>[(0,.slice (some ⟨b,0,none⟩) n cap),(1,.int .i64 a),(9,.int .i64 x.1),(10,.int .i64 x.2.1)]) (fun x=>S.set b ⟨3,(x.2.2).toList.map encI,room⟩) (fun x=>a+1≤x.1∧x.1≤J+1∧a≤x.2.1∧x.2.1≤J∧Rw (fun _=>True) n x.2.2∧partEqLoop Go.Sort.ltInt a x.1 x.2.1 x.2.2=partEqLoop Go.Sort.ltInt a (a+1) J d0) (fun x=>J+1-x.1) ((a+1,J,d0)) ⟨sb_,sb_,sb_,sb_,trivial⟩ (Mem.Less.refl _) (⟨by dsimp only;omega,by dsimp only;omega,by dsimp only;omega,by dsimp only;omega,R0,rfl⟩) ?_
 rintro ⟨I2,J2,d2⟩ ⟨m1,m2,m4,m5,R2,m3⟩
 (try dsimp only at *)
 have z2:=R2.size
 refine AWP.block ?_
 refine AWP.seq ?_
 refine AWP.join (X:=Nat) (fun x=>[(0,.slice (some ⟨b,0,none⟩) n cap),(1,.int .i64 a),(9,.int .i64 x),(10,.int .i64 J2)]) (fun _=>S.set b ⟨3,(d2).toList.map encI,room⟩) (fun x=>a+1≤x∧x≤J+1∧x=scanUp (fun x=>!Go.Sort.ltInt d2[a]! x) d2 (J2) I2) ?_ ?_
 ·refine AWP.block ?_
  refine AWP.loop (X:=Nat) (fun x=>[(0,.slice (some ⟨b,0,none⟩) n cap),(1,.int .i64 a),(9,.int .i64 x),(10,.int .i64 J2)]) (fun _=>S.set b ⟨3,(d2).toList.map encI,room⟩) (fun x=>a+1≤x∧x≤J+1∧scanUp (fun x=>!Go.Sort.ltInt d2[a]! x) d2 (J2) x=scanUp (fun x=>!Go.Sort.ltInt d2[a]! x) d2 (J2) I2) (fun x=>J+1-x) (I2) ⟨sb_,sb_,sb_,sb_,trivial⟩ (Mem.Less.refl _) (⟨by omega,by omega,rfl⟩) ?_
  rintro i ⟨q1,q2,q3⟩
  (try dsimp only at *)
  by_cases hij:i≤J2
  ·refine AWP.seq (AWP.seq ?_)
   refine AWP.draw [(0,true),(1,true),(2,true),(3,true),(4,true),(5,true),(6,true),(7,true),(8,true),(9,true),(10,true),(11,true),(12,false),(13,true),(14,true)] [] mixed (by kernel_rfl) ?_
   refine dP (hc:=fun _=>Calm.move rfl) (h:=?_)
   refine dP (hc:=fun _=>Calm.move rfl) (h:=?_)
   refine dP (hc:=fun _=>Calm.bin rfl rfl b_leq) (h:=?_)
   refine dP (hc:=fun _=>Calm.move rfl) (h:=?_)
   first|refine k_d ?_|refine dG (hc:=fun _=>Calm.move rfl) (h:=?_)
   first|refine k_d ?_|refine dG (hc:=fun _=>Calm.move rfl) (h:=?_)
   first|refine k_d ?_|refine dG (hc:=fun _=>Calm.indexS Try.underlying24 ty_size_3 rfl rfl (by omega) (by omega)) (h:=?_)
   first|refine k_d ?_|refine dL (hc:=Calm.load ty_plain_3 rfl (rd_row (k:=a) own_ rw_ rw_)) (h:=?_)
   first|refine k_d ?_|refine dG (hc:=fun _=>Calm.move rfl) (h:=?_)
   first|refine k_d ?_|refine dG (hc:=fun _=>Calm.move rfl) (h:=?_)
   first|refine k_d ?_|refine dG (hc:=fun _=>Calm.indexS Try.underlying24 ty_size_3 rfl rfl (by omega) (by omega)) (h:=?_)
   first|refine k_d ?_|refine dL (hc:=Calm.load ty_plain_3 rfl (rd_row (k:=i) own_ rw_ rw_)) (h:=?_)
   refine draw_only rfl ?_
   refine ARun.callG 3 true 32 rfl (lit_lt rfl) rfl (lit_lt rfl) go_152 rfl (soI_less _ _ _) ?_
   rintro _ _ ⟨rfl,rfl⟩
   refine arun_nil ⟨fun _=>less_,?_⟩
   first|refine k_d ?_|refine dG (hc:=fun _=>Calm.un rfl (una_not _)) (h:=?_)
   refine dP (hc:=fun _=>(by first | exact Calm.pickT rfl rfl | exact Calm.pickF rfl rfl)) (h:=?_)
   refine draw_nil ?_
   refine athen_n ?_
   refine k_u [(0,_),(1,_),(9,_),(10,_),(43,_)] ?_
   refine AWP.condB rfl (fun hl=>?_) (fun hl=>?_)
   ·have hl:=nt_ hl
    refine k_k ?_
    refine AWP.block ?_
    refine AWP.region ?_
    refine k_m rfl ?_
    refine rC (Calm.bin rfl rfl b_add_i64) ?_
    refine k_s rfl ?_
    refine arun_nil ?_
    refine ain_n ?_
    refine athen_n ?_
    refine ⟨i+1,?_,?_,?_,?_⟩
    all_goals (try dsimp only)
    ·exact ⟨sb_,sb_,sb_,sb_,trivial⟩
    ·exact Mem.Less.refl _
    ·exact ⟨by omega,by omega,(up_go (p:=(fun x=>!Go.Sort.ltInt d2[a]! x)) hij (by simp only [hl,Bool.not_true,Bool.not_false])).trans q3⟩
    ·omega
   ·have hl:=nf_ hl
    refine AWP.exit ?_
    refine athen_exit ?_
    refine athen_exit ?_
    refine ain_same ?_
    refine ⟨i,?_,?_,?_⟩
    all_goals (try dsimp only)
    ·exact ⟨by omega,by omega,(up_no (p:=(fun x=>!Go.Sort.ltInt d2[a]! x)) (by simp only [hl,Bool.not_true,Bool.not_false])).trans q3⟩
    ·exact ⟨sb_,sb_,sb_,sb_,trivial⟩
    ·exact Mem.Less.refl _
  ·refine AWP.seq (AWP.seq ?_)
   refine AWP.draw [(0,true),(1,true),(2,true),(3,true),(4,true),(5,true),(6,true),(7,true),(8,true),(9,true),(10,true),(11,true),(12,false),(13,true),(14,true)] [] mixed (by kernel_rfl) ?_
   refine dP (hc:=fun _=>Calm.move rfl) (h:=?_)
   refine dP (hc:=fun _=>Calm.move rfl) (h:=?_)
   refine dP (hc:=fun _=>Calm.bin rfl rfl b_leq) (h:=?_)
   refine dP (hc:=fun _=>Calm.move rfl) (h:=?_)
   first|refine k_d ?_|refine dG (hc:=fun _=>Calm.move rfl) (h:=?_)
   first|refine k_d ?_|refine dG (hc:=fun _=>Calm.move rfl) (h:=?_)
   first|refine k_d ?_|refine dG (hc:=fun _=>Calm.indexS Try.underlying24 ty_size_3 rfl rfl (by omega) (by omega)) (h:=?_)
   first|refine k_d ?_|refine dL (hc:=Calm.load ty_plain_3 rfl (rd_row (k:=a) own_ rw_ rw_)) (h:=?_)
   first|refine k_d ?_|refine dG (hc:=fun _=>Calm.move rfl) (h:=?_)
   first|refine k_d ?_|refine dG (hc:=fun _=>Calm.move rfl) (h:=?_)
   first|refine k_d ?_|refine dG (hc:=fun _=>Calm.indexS Try.underlying24 ty_size_3 rfl rfl (by omega) (by omega)) (h:=?_)
   first|refine k_d ?_|refine dL (hc:=Calm.load ty_plain_3 rfl (rd_row (k:=i) own_ rw_ rw_)) (h:=?_)
   refine draw_only rfl ?_
   first | refine rS 32 ?_ | refine rU 32 ?_
   refine arun_nil ⟨fun _=>less_,?_⟩
   first|refine k_d ?_|refine dG (hc:=fun _=>Calm.un rfl (una_not _)) (h:=?_)
   refine dP (hc:=fun _=>(by first | exact Calm.pickT rfl rfl | exact Calm.pickF rfl rfl)) (h:=?_)
   refine draw_nil ?_
   refine athen_n ?_
   refine k_u [(0,_),(1,_),(9,_),(10,_),(43,_)] ?_
   refine k_F rfl ?_
   refine AWP.exit ?_
   refine athen_exit ?_
   refine athen_exit ?_
   refine ain_same ?_
   refine ⟨i,?_,?_,?_⟩
   all_goals (try dsimp only)
   ·exact ⟨by omega,by omega,(up_end (p:=(fun x=>!Go.Sort.ltInt d2[a]! x)) hij).trans q3⟩
   ·exact ⟨sb_,sb_,sb_,sb_,trivial⟩
   ·exact Mem.Less.refl _
 rintro i2 ⟨b1,b2,hU⟩
 intro _ _ hs_ hl_
 (try dsimp only at *)
 refine athen_n ?_
 refine AWP.sub _ hs_ (AWP.less _ hl_ ?_)
 clear hs_ hl_
 refine AWP.seq ?_
 refine AWP.join (X:=Nat) (fun x=>[(0,.slice (some ⟨b,0,none⟩) n cap),(1,.int .i64 a),(9,.int .i64 i2),(10,.int .i64 x)]) (fun _=>S.set b ⟨3,(d2).toList.map encI,room⟩) (fun x=>a≤x∧x≤J∧x=scanDown (fun x=>Go.Sort.ltInt d2[a]! x) d2 i2 J2) ?_ ?_
 ·refine AWP.block ?_
  refine AWP.loop (X:=Nat) (fun x=>[(0,.slice (some ⟨b,0,none⟩) n cap),(1,.int .i64 a),(9,.int .i64 i2),(10,.int .i64 x)]) (fun _=>S.set b ⟨3,(d2).toList.map encI,room⟩) (fun x=>a≤x∧x≤J∧scanDown (fun x=>Go.Sort.ltInt d2[a]! x) d2 i2 x=scanDown (fun x=>Go.Sort.ltInt d2[a]! x) d2 i2 J2) (fun x=>x) (J2) ⟨sb_,sb_,sb_,sb_,trivial⟩ (Mem.Less.refl _) (⟨by omega,by omega,rfl⟩) ?_
  rintro j ⟨q1,q2,q3⟩
  (try dsimp only at *)
  by_cases hij:i2≤j
  ·obtain ⟨j,rfl⟩ : ∃ q,j=q+1:=⟨j-1,by omega⟩
   refine AWP.seq (AWP.seq ?_)
   refine AWP.draw [(0,true),(1,true),(2,true),(3,true),(4,true),(5,true),(6,true),(7,true),(8,true),(9,true),(10,true),(11,true),(12,false),(13,true)] [] mixed (by kernel_rfl) ?_
   refine dP (hc:=fun _=>Calm.move rfl) (h:=?_)
   refine dP (hc:=fun _=>Calm.move rfl) (h:=?_)
   refine dP (hc:=fun _=>Calm.bin rfl rfl b_leq) (h:=?_)
   refine dP (hc:=fun _=>Calm.move rfl) (h:=?_)
   first|refine k_d ?_|refine dG (hc:=fun _=>Calm.move rfl) (h:=?_)
   first|refine k_d ?_|refine dG (hc:=fun _=>Calm.move rfl) (h:=?_)
   first|refine k_d ?_|refine dG (hc:=fun _=>Calm.indexS Try.underlying24 ty_size_3 rfl rfl (by omega) (by omega)) (h:=?_)
   first|refine k_d ?_|refine dL (hc:=Calm.load ty_plain_3 rfl (rd_row (k:=a) own_ rw_ rw_)) (h:=?_)
   first|refine k_d ?_|refine dG (hc:=fun _=>Calm.move rfl) (h:=?_)
   first|refine k_d ?_|refine dG (hc:=fun _=>Calm.move rfl) (h:=?_)
   first|refine k_d ?_|refine dG (hc:=fun _=>Calm.indexS Try.underlying24 ty_size_3 rfl rfl (by omega) (by omega)) (h:=?_)
   first|refine k_d ?_|refine dL (hc:=Calm.load ty_plain_3 rfl (rd_row (k:=j+1) own_ rw_ rw_)) (h:=?_)
   refine draw_only rfl ?_
   refine ARun.callG 3 true 49 rfl (lit_lt rfl) rfl (lit_lt rfl) go_152 rfl (soI_less _ _ _) ?_
   rintro _ _ ⟨rfl,rfl⟩
   refine arun_nil ⟨fun _=>less_,?_⟩
   refine dP (hc:=fun _=>(by first | exact Calm.pickT rfl rfl | exact Calm.pickF rfl rfl)) (h:=?_)
   refine draw_nil ?_
   refine athen_n ?_
   refine k_u [(0,_),(1,_),(9,_),(10,_),(59,_)] ?_
   refine AWP.condB rfl (fun hl=>?_) (fun hl=>?_)
   ·refine k_k ?_
    refine AWP.block ?_
    refine AWP.region ?_
    refine k_m rfl ?_
    refine rC (Calm.bin rfl rfl b_sub_i64) ?_
    refine k_s rfl ?_
    refine arun_nil ?_
    refine ain_n ?_
    refine athen_n ?_
    refine ⟨j,?_,?_,?_,?_⟩
    all_goals (try dsimp only)
    ·exact ⟨sb_,sb_,sb_,sb_,trivial⟩
    ·exact Mem.Less.refl _
    ·exact ⟨by omega,by omega,(down_go (p:=(fun x=>Go.Sort.ltInt d2[a]! x)) hij (by simp only [hl,Bool.not_true,Bool.not_false])).trans q3⟩
    ·omega
   ·refine AWP.exit ?_
    refine athen_exit ?_
    refine athen_exit ?_
    refine ain_same ?_
    refine ⟨(j+1),?_,?_,?_⟩
    all_goals (try dsimp only)
    ·exact ⟨by omega,by omega,(down_no (p:=(fun x=>Go.Sort.ltInt d2[a]! x)) (by omega) (by simp only [hl,Bool.not_true,Bool.not_false])).trans q3⟩
    ·exact ⟨sb_,sb_,sb_,sb_,trivial⟩
    ·exact Mem.Less.refl _
  ·refine AWP.seq (AWP.seq ?_)
   refine AWP.draw [(0,true),(1,true),(2,true),(3,true),(4,true),(5,true),(6,true),(7,true),(8,true),(9,true),(10,true),(11,true),(12,false),(13,true)] [] mixed (by kernel_rfl) ?_
   refine dP (hc:=fun _=>Calm.move rfl) (h:=?_)
   refine dP (hc:=fun _=>Calm.move rfl) (h:=?_)
   refine dP (hc:=fun _=>Calm.bin rfl rfl b_leq) (h:=?_)
   refine dP (hc:=fun _=>Calm.move rfl) (h:=?_)
   first|refine k_d ?_|refine dG (hc:=fun _=>Calm.move rfl) (h:=?_)
   first|refine k_d ?_|refine dG (hc:=fun _=>Calm.move rfl) (h:=?_)
   first|refine k_d ?_|refine dG (hc:=fun _=>Calm.indexS Try.underlying24 ty_size_3 rfl rfl (by omega) (by omega)) (h:=?_)
   first|refine k_d ?_|refine dL (hc:=Calm.load ty_plain_3 rfl (rd_row (k:=a) own_ rw_ rw_)) (h:=?_)
   first|refine k_d ?_|refine dG (hc:=fun _=>Calm.move rfl) (h:=?_)
   first|refine k_d ?_|refine dG (hc:=fun _=>Calm.move rfl) (h:=?_)
   first|refine k_d ?_|refine dG (hc:=fun _=>Calm.indexS Try.underlying24 ty_size_3 rfl rfl (by omega) (by omega)) (h:=?_)
   first|refine k_d ?_|refine dL (hc:=Calm.load ty_plain_3 rfl (rd_row (k:=j+1) own_ rw_ rw_)) (h:=?_)
   refine draw_only rfl ?_
   first | refine rS 49 ?_ | refine rU 49 ?_
   refine arun_nil ⟨fun _=>less_,?_⟩
   refine dP (hc:=fun _=>(by first | exact Calm.pickT rfl rfl | exact Calm.pickF rfl rfl)) (h:=?_)
   refine draw_nil ?_
   refine athen_n ?_
   refine k_u [(0,_),(1,_),(9,_),(10,_),(59,_)] ?_
   refine k_F rfl ?_
   refine AWP.exit ?_
   refine athen_exit ?_
   refine athen_exit ?_
   refine ain_same ?_
   refine ⟨j,?_,?_,?_⟩
   all_goals (try dsimp only)
   ·exact ⟨by omega,by omega,(down_end (p:=(fun x=>Go.Sort.ltInt d2[a]! x)) hij).trans q3⟩
   ·exact ⟨sb_,sb_,sb_,sb_,trivial⟩
   ·exact Mem.Less.refl _
 rintro j2 ⟨b3,b4,hD⟩
 intro _ _ hs_ hl_
 (try dsimp only at *)
 refine athen_n ?_
 refine AWP.sub _ hs_ (AWP.less _ hl_ ?_)
 clear hs_ hl_
 by_cases hx:j2<i2
 ·refine AWP.seq (k_a (k_m rfl (k_m rfl ?_)))
  refine rC (Calm.bin rfl rfl b_gtr) ?_
  refine k_n ?_
  refine k_u [(0,_),(1,_),(9,_),(10,_),(64,_)] ?_
  refine k_T rfl ?_
  refine AWP.exit ?_
  refine athen_exit ?_
  refine ain_other rfl ?_
  refine athen_exit ?_
  refine ain_same ?_
  refine athen_n ?_
  refine k_a (k_m rfl (k_e rfl ?_))
  refine k_u [(0,_),(1,_),(9,_),(10,_),(64,_),(8,_)] ?_
  refine AWP.ret ?_
  refine ⟨_,_,⟨_,_,rfl,rfl,rfl⟩,Mem.Less.refl _,?_⟩
  exact parteq_res Go.Sort.ltInt hd0 ((parteq_stop Go.Sort.ltInt hU hD hx).trans m3) R2 (by omega) (by omega)
 ·refine AWP.seq (k_a (k_m rfl (k_m rfl ?_)))
  refine rC (Calm.bin rfl rfl b_gtr) ?_
  refine k_n ?_
  refine k_u [(0,_),(1,_),(9,_),(10,_),(64,_)] ?_
  refine k_F rfl ?_
  refine k_k (AWP.seq ?_)
  refine AWP.draw [(0,true),(1,true),(2,true),(3,true),(4,true),(5,true),(6,true),(7,true),(8,true),(9,true),(10,true),(11,true),(12,true),(13,false),(14,true),(15,false)] [13,15] mixed (by kernel_rfl) ?_
  refine dP (hc:=fun _=>Calm.move rfl) (h:=?_)
  refine dP (hc:=fun _=>Calm.move rfl) (h:=?_)
  refine dP (hc:=fun _=>Calm.move rfl) (h:=?_)
  refine dP (hc:=fun _=>Calm.move rfl) (h:=?_)
  refine dP (hc:=fun _=>Calm.move rfl) (h:=?_)
  refine dP (hc:=fun _=>Calm.move rfl) (h:=?_)
  refine dP (hc:=fun _=>Calm.indexS Try.underlying24 ty_size_3 rfl rfl (by omega) (by omega)) (h:=?_)
  refine dC (hc:=Calm.load ty_plain_3 rfl (rd_row (k:=j2) own_ rw_ rw_)) (h:=?_)
  refine dP (hc:=fun _=>Calm.move rfl) (h:=?_)
  refine dP (hc:=fun _=>Calm.move rfl) (h:=?_)
  refine dP (hc:=fun _=>Calm.indexS Try.underlying24 ty_size_3 rfl rfl (by omega) (by omega)) (h:=?_)
  refine dC (hc:=Calm.load ty_plain_3 rfl (rd_row (k:=i2) own_ rw_ rw_)) (h:=?_)
  refine dP (hc:=fun _=>Calm.indexS Try.underlying24 ty_size_3 rfl rfl (by omega) (by omega)) (h:=?_)
  refine draw_only rfl ?_
  refine ARun.storeRow encI (i2) rfl rfl ty_size_3 ⟨rfl,rfl⟩ own_ rw_ rw_ ?_
  try simp only [k_ms,k_sz,k_ss,k_za,Nat.reduceAdd]
  refine arun_nil ⟨fun h=>absurd h (by decide),?_⟩
  refine dP (hc:=fun _=>Calm.indexS Try.underlying24 ty_size_3 rfl rfl (by omega) (by omega)) (h:=?_)
  refine draw_only rfl ?_
  refine ARun.storeRow encI (j2) rfl rfl ty_size_3 ⟨rfl,rfl⟩ own_ rw_ rw_ ?_
  try simp only [k_ms,k_sz,k_ss,k_za,Nat.reduceAdd]
  refine arun_nil ⟨fun h=>absurd h (by decide),?_⟩
  refine draw_nil ?_
  refine athen_n ?_
  refine k_u [(0,_),(1,_),(9,_),(10,_),(64,_)] ?_
  refine k_a (k_m rfl ?_)
  refine rC (Calm.bin rfl rfl b_add_i64) ?_
  refine k_e rfl ?_
  refine k_u [(0,_),(1,_),(9,_),(10,_),(64,_)] ?_
  refine AWP.region ?_
  refine k_m rfl ?_
  refine rC (Calm.bin rfl rfl b_sub_i64) ?_
  refine k_s rfl ?_
  refine arun_nil ?_
  refine ain_n ?_
  refine athen_n ?_
  refine ⟨(i2+1,j2-1,swp d2 i2 j2),?_,?_,?_,?_⟩
  all_goals (try dsimp only)
  ·exact ⟨sb_,sb_,sb_,sb_,trivial⟩
  ·exact Mem.Less.refl _
  ·exact ⟨by omega,by omega,by omega,by omega,R2.swp _ _ (by omega) (by omega),(parteq_go Go.Sort.ltInt hU hD hx).trans m3⟩
  ·(have:I2≤i2:=by rw [hU];exact Go.Sort.scanUp_ge _ _ _ _);omega
end Go.Proofs.Ytgidjbpgkeemiaa
