/-
  Texts that belong together: PR8, PR9, PR1S, PL4.
-/
import Derived.Test.YtkeiphkccnfhoaaGreatBPq6
set_option linter.unusedVariables false
set_option linter.unusedSimpArgs false
set_option linter.unusedSectionVars false
namespace Go.Proofs.YtkeiphkccnfhoaaGreat
open Go.RowKit
open Mv Disk
set_option maxRecDepth 4000
/-- What stands between two rounds. -/
structure RL where
  i : Nat
  y : Pl
  B : Mem
  qe : Option Addr
  de : Nat
  qw : Option Addr
  dw : Nat
  o : Option (Nat × Nat)
  l : List Int
def RL.C (z : RL) (b c : Nat) : List Value := [.int .i64 z.y.d.size, .slice z.qe z.y.d.ext.length z.de, .slice z.qw z.y.d.waits.length z.dw, .int .i64 z.y.d.fuse, .bool z.y.d.down, .slice (some ⟨b, 0, none⟩) z.y.fr.length c, .int .u64 z.y.tick, .int .u64 z.y.reads, .int .u64 z.y.writes]
def RL.M (z : RL) (b c b2 b4 b10 : Nat) (rA rZ rX : Blk) : Mem := (((z.B.set b (frB z.y.fr c)).set b2 rA).set b4 rZ).set b10 rX
structure RL.Ok (S : Mem) (b c b2 b4 b10 : Nat) (rA rZ rX : Blk) (z : RL) : Prop where
  hw : LW z.y
  hS : S.Less z.B
  hb : Fresh z.B b
  hlc : z.y.fr.length ≤ c
  hE : Sl 2 extF z.B (.slice z.qe z.y.d.ext.length z.de) z.y.d.ext
  hW : Sl 3 wrF z.B (.slice z.qw z.y.d.waits.length z.dw) z.y.d.waits
  g2 : Fresh z.B b2
  g4 : Fresh z.B b4
  g10 : Fresh z.B b10
  ho : OkO (z.M b c b2 b4 b10 rA rZ rX) z.o z.l.length
theorem RL.Ok.fr {S : Mem} {b c b2 b4 b10 : Nat} {rA rZ rX : Blk} {z : RL} (h : RL.Ok S b c b2 b4 b10 rA rZ rX z) (n2 : b2 ≠ b) (n4 : b4 ≠ b) (n42 : b4 ≠ b2) (n10 : b10 ≠ b) (n102 : b10 ≠ b2) (n104 : b10 ≠ b4) :
  Fresh (z.B.set b (frB z.y.fr c)) b2∧Fresh ((z.B.set b (frB z.y.fr c)).set b2 rA) b4∧Fresh (((z.B.set b (frB z.y.fr c)).set b2 rA).set b4 rZ) b10 :=
 ⟨fresh_more h.g2 n2,fresh_more (fresh_more h.g4 n4) n42,fresh_more (fresh_more (fresh_more h.g10 n10) n102) n104⟩
/-- A call of one who turns the pool, where boxes and a slice of numbers lie over it. -/
theorem rl_call {S : Mem} {b c b2 b4 b10 : Nat} {rA rZ rX : Blk} {z : RL} (h : RL.Ok S b c b2 b4 b10 rA rZ rX z) (n2 : b2 ≠ b) (n4 : b4 ≠ b) (n42 : b4 ≠ b2) (n10 : b10 ≠ b) (n102 : b10 ≠ b2) (n104 : b10 ≠ b4)
  {f:FuncId} {args:Array Value} {y':Pl} {k:Value→Value→Prop} (hy:LW y')
  (hc:∀ v T,RpB z.B b c z.y v T→v = .agg (z.C b c).toArray→ACall Tryz.prog f args T fun r T'=>∃ w,k r w∧RpB z.B b c y' w T') :
  ACall Tryz.prog f args (outN 1 (z.M b c b2 b4 b10 rA rZ rX) z.o 3 (z.l.flatMap i64s)) fun r S'=>∃ z':RL,z'.i=z.i∧z'.y=y'∧z'.o=z.o∧z'.l=z.l∧k r (.agg (z'.C b c).toArray)∧RL.Ok S b c b2 b4 b10 rA rZ rX z'∧S'=outN 1 (z'.M b c b2 b4 b10 rA rZ rX) z'.o 3 (z'.l.flatMap i64s):=by
 obtain ⟨f2,f4,f10⟩:=h.fr (rA:=rA) (rZ:=rZ) n2 n4 n42 n10 n102 n104
 have hc1:=hc (.agg (z.C b c).toArray) (z.B.set b (frB z.y.fr c)) ⟨z.B,z.qe,z.de,z.qw,z.dw,Mem.Less.refl _,h.hb,h.hlc,h.hE,h.hW,rfl,rfl⟩ rfl
 refine ((((hc1.frame (r:=rA) f2).frame (r:=rZ) f4).frame (r:=rX) f10).frameO h.ho).mono fun r S' ⟨S5,⟨S4,⟨S3,⟨S2,⟨w,hk,B',qe',de',qw',dw',hBB,hfb,hlc,hE,hW,hw,hS2⟩,g2,hS3⟩,g4,hS4⟩,g10,hS5⟩,ho,hS'⟩=>?_
 subst hw hS2 hS3 hS4 hS5
 refine ⟨⟨z.i,y',B',qe',de',qw',dw',z.o,z.l⟩,rfl,rfl,rfl,rfl,hk,⟨hy,h.hS.trans hBB,hfb,hlc,hE,hW,(fresh_set g2).1,(fresh_set (fresh_set g4).1).1,(fresh_set (fresh_set (fresh_set g10).1).1).1,ho⟩,hS'⟩
/-- Behind a call, a store into the frames, and the new value in its box. -/
theorem rl_less {z : RL} {b c b2 b4 b10 bn : Nat} {rA rZ rX rX' rn : Blk} {e : TypeId} {cs : List Value} {fr' : List Fr} {m : Nat} (hb : Fresh z.B b) (g2 : Fresh z.B b2) (g4 : Fresh z.B b4) (g10 : Fresh z.B b10) (n2 : b2 ≠ b) (n4 : b4 ≠ b) (n42 : b4 ≠ b2) (n10 : b10 ≠ b) (n102 : b10 ≠ b2) (n104 : b10 ≠ b4)
  (ho:OkO (z.M b c b2 b4 b10 rA rZ rX) z.o m) (hn:Fresh (outN 1 (z.M b c b2 b4 b10 rA rZ rX) z.o e cs) bn) :
  (outN 1 ((((z.B.set b (frB fr' c)).set b2 rA).set b4 rZ).set b10 rX') z.o e cs).Less ((((outN 1 (z.M b c b2 b4 b10 rA rZ rX) z.o e cs).set bn rn).set b (frB fr' c)).set b10 rX'):=by
 obtain ⟨hn1,hnq⟩:=fresh_outN hn
 unfold RL.M at *
 obtain ⟨hn2,nn10⟩:=fresh_set hn1
 obtain ⟨hn3,nn4⟩:=fresh_set hn2
 obtain ⟨hn4,nn2⟩:=fresh_set hn3
 obtain ⟨hn5,nnb⟩:=fresh_set hn4
 cases ho':z.o with
 | none=>simp only [outN];exact less_
 | some q =>
  obtain ⟨q,cq⟩:=q
  obtain ⟨hq1,_⟩:=ho.own q cq ho'
  obtain ⟨hq2,nq10⟩:=fresh_set hq1
  obtain ⟨hq3,nq4⟩:=fresh_set hq2
  obtain ⟨hq4,nq2⟩:=fresh_set hq3
  obtain ⟨hq5,nqb⟩:=fresh_set hq4
  have nnq:=hnq q cq ho'
  simp only [outN];exact less_
theorem rl_okO {z : RL} {b c b2 b4 b10 : Nat} {rA rZ rX rX' : Blk} {fr' : List Fr} {m : Nat} (ho : OkO (z.M b c b2 b4 b10 rA rZ rX) z.o m) : OkO ((((z.B.set b (frB fr' c)).set b2 rA).set b4 rZ).set b10 rX') z.o m := by
 refine ⟨ho.nil,fun q cq e=>?_⟩
 obtain ⟨hq1,hm⟩:=ho.own q cq e
 unfold RL.M at hq1
 obtain ⟨hq2,nq10⟩:=fresh_set hq1
 obtain ⟨hq3,nq4⟩:=fresh_set hq2
 obtain ⟨hq4,nq2⟩:=fresh_set hq3
 obtain ⟨hq5,nqb⟩:=fresh_set hq4
 exact ⟨fresh_more (fresh_more (fresh_more (fresh_more hq5 nqb) nq2) nq4) nq10,hm⟩
/-- Behind a call that ends all: what is told lies over the pool's frames. -/
theorem rl_less2 {z : RL} {b c b2 b4 b10 bn : Nat} {rA rZ rX rn r4 : Blk} {e : TypeId} {cs : List Value} {m : Nat} (hb : Fresh z.B b) (g2 : Fresh z.B b2) (g4 : Fresh z.B b4) (g10 : Fresh z.B b10) (n2 : b2 ≠ b) (n4 : b4 ≠ b) (n42 : b4 ≠ b2) (n10 : b10 ≠ b) (n102 : b10 ≠ b2) (n104 : b10 ≠ b4)
  (ho:OkO (z.M b c b2 b4 b10 rA rZ rX) z.o m) (hn:Fresh (outN 1 (z.M b c b2 b4 b10 rA rZ rX) z.o e cs) bn) :
  (z.B.set b (frB z.y.fr c)).Less (((outN 1 (z.M b c b2 b4 b10 rA rZ rX) z.o e cs).set bn rn).set b4 r4):=by
 obtain ⟨hn1,hnq⟩:=fresh_outN hn
 unfold RL.M at *
 obtain ⟨hn2,nn10⟩:=fresh_set hn1
 obtain ⟨hn3,nn4⟩:=fresh_set hn2
 obtain ⟨hn4,nn2⟩:=fresh_set hn3
 obtain ⟨hn5,nnb⟩:=fresh_set hn4
 cases ho':z.o with
 | none=>simp only [outN];exact less_
 | some q =>
  obtain ⟨q,cq⟩:=q
  obtain ⟨hq1,_⟩:=ho.own q cq ho'
  obtain ⟨hq2,nq10⟩:=fresh_set hq1
  obtain ⟨hq3,nq4⟩:=fresh_set hq2
  obtain ⟨hq4,nq2⟩:=fresh_set hq3
  obtain ⟨hq5,nqb⟩:=fresh_set hq4
  have nnq:=hnq q cq ho'
  simp only [outN];exact less_
/-- At the end of a run: the slice of numbers stays. -/
theorem rl_less4 {z : RL} {b c b2 b4 b10 : Nat} {rA rZ rX r4 : Blk} {e : TypeId} {cs : List Value} {m : Nat} (hb : Fresh z.B b) (g2 : Fresh z.B b2) (g4 : Fresh z.B b4) (g10 : Fresh z.B b10) (n2 : b2 ≠ b) (n4 : b4 ≠ b) (n42 : b4 ≠ b2) (n10 : b10 ≠ b) (n102 : b10 ≠ b2) (n104 : b10 ≠ b4)
  (ho:OkO (z.M b c b2 b4 b10 rA rZ rX) z.o m) :
  (outN 1 (z.B.set b (frB z.y.fr c)) z.o e cs).Less ((outN 1 (z.M b c b2 b4 b10 rA rZ rX) z.o e cs).set b4 r4)∧OkO (z.B.set b (frB z.y.fr c)) z.o m:=by
 unfold RL.M at *
 cases ho':z.o with
 | none=>exact ⟨by simp only [outN];exact less_,⟨fun _=>ho.nil ho',fun q cq e=>(by cases e)⟩⟩
 | some q =>
  obtain ⟨q,cq⟩:=q
  obtain ⟨hq1,hm⟩:=ho.own q cq ho'
  obtain ⟨hq2,nq10⟩:=fresh_set hq1
  obtain ⟨hq3,nq4⟩:=fresh_set hq2
  obtain ⟨hq4,nq2⟩:=fresh_set hq3
  obtain ⟨hq5,nqb⟩:=fresh_set hq4
  exact ⟨by simp only [outN];exact less_,⟨fun h=>(by cases h),fun q' cq' e=>(by cases e;exact ⟨hq4,hm⟩)⟩⟩
theorem RL.Ok.own2 {S : Mem} {b c b2 b4 b10 : Nat} {rA rZ rX : Blk} {z : RL} (h : RL.Ok S b c b2 b4 b10 rA rZ rX z) (n2 : b2 ≠ b) (n4 : b4 ≠ b) (n42 : b4 ≠ b2) (n10 : b10 ≠ b) (n102 : b10 ≠ b2) (n104 : b10 ≠ b4) :
  (z.M b c b2 b4 b10 rA rZ rX).own b=some (frB z.y.fr c)∧(z.M b c b2 b4 b10 rA rZ rX).own b2=some rA∧(z.M b c b2 b4 b10 rA rZ rX).own b4=some rZ∧(z.M b c b2 b4 b10 rA rZ rX).own b10=some rX :=
 ⟨(Mem.own_set_other _ _ (Ne.symm n10)).trans ((Mem.own_set_other _ _ (Ne.symm n4)).trans ((Mem.own_set_other _ _ (Ne.symm n2)).trans (Mem.own_set_same _ _ _))),(Mem.own_set_other _ _ (Ne.symm n102)).trans ((Mem.own_set_other _ _ (Ne.symm n42)).trans (Mem.own_set_same _ _ _)),(Mem.own_set_other _ _ (Ne.symm n104)).trans (Mem.own_set_same _ _ _),Mem.own_set_same _ _ _⟩
theorem RL.Ok.plR {S : Mem} {b c b2 b4 b10 : Nat} {rA rZ rX : Blk} {z : RL} (h : RL.Ok S b c b2 b4 b10 rA rZ rX z) : S.Less (z.B.set b (frB z.y.fr c)) ∧ PlR (z.B.set b (frB z.y.fr c)) (.agg (z.C b c).toArray) z.y :=
 RpB.plR ⟨z.B,z.qe,z.de,z.qw,z.dw,Mem.Less.refl _,h.hb,h.hlc,h.hE,h.hW,rfl,rfl⟩ h.hS h.hw.f
set_option maxHeartbeats 8000000 in
theorem rp_Lease (v : Value) (x : Pl) (n : Int) (S : Mem) (hp : PlR S v x) (hz : Dz x.d) (hf : x.fr.length * 72 ≤ 140737488351232) :
  ACall Tryz.prog 19 #[v,.int .i64 n] S (PlL (openedL x (leaseP x n)) S):=by
 have hpow:=fun M h=>rp_power v x M h hz
 have hasw:=rp_as v x (openP x).2 S hp hz hf
 have hcopy:=rp_Copy v x S hp hz hf
 have hcopyR:=fun M h=>rp_CopyR v x M h hz hf
 obtain ⟨pe,ce,pw,cw,pf,cf,rfl,hE,hW,hF⟩:=id hp
 unfold openedL
 rcases openP_or x with ⟨ho',hR⟩ | ⟨ho',hR,hdn⟩ | ⟨ho',hR,hdn⟩ <;> rw [ho'] at hpow hasw ⊢
 ·rw [if_neg (show ¬ (2:Int)=0 from by decide)]
  refine ACall.enter (rs:=[.cell 4 29,.tmp 5,.tmp 6]) 65 [(0,.agg #[.int .i64 x.d.size,.slice pe x.d.ext.length ce,.slice pw x.d.waits.length cw,.int .i64 x.d.fuse,.bool x.d.down,.slice pf x.fr.length cf,.int .u64 x.tick,.int .u64 x.reads,.int .u64 x.writes]),(1,.int .i64 n)] Tryz.func19 rfl rfl (Nat.le_of_ble_eq_true rfl) rfl ⟨rfl,rfl,trivial⟩ ?_
  refine k_a ?_
  refine k_b9 rfl ?_
  intro b2 f2
  have g2:=f2
  repeat ((with_reducible replace g2:=fresh_set g2);obtain ⟨g2,_⟩:=g2)
  try simp only [k_l1,k_l0,k_za,Nat.reduceAdd]
  refine ARun.alloc (lit_lt rfl) ty_zero_29 ?_
  intro b4 f4
  have g4:=f4
  repeat ((with_reducible replace g4:=fresh_set g4);obtain ⟨g4,_⟩:=g4)
  try simp only [k_l1,k_l0,k_za,Nat.reduceAdd]
  refine k_s rfl (k_e rfl (k_a ?_))
  refine k_9 ty_agg_29 ty_size_29 rfl ?_
  refine ARun.call (lit_lt rfl) go_33 rfl (hpow _ (hp.less less_)) ?_
  rintro _ S1 ⟨rfl,h1⟩
  rw [h1];clear h1 S1
  refine k_e rfl ?_
  refine k_u [(0,_),(1,_),(2,_),(4,_),(5,_),(6,_),(7,_)] ?_
  refine AWP.seq (k_a (k_m rfl ?_))
  refine rC (Calm.bin rfl rfl b_neq) ?_
  refine k_n ?_
  refine k_u [(0,_),(1,_),(2,_),(4,_),(5,_),(6,_),(7,_),(19,_)] ?_
  refine k_T rfl ?_
  refine k_a ?_
  refine k_9 ty_agg_29 ty_size_29 rfl ?_
  refine k_m rfl ?_
  refine ARun.call (lit_lt rfl) go_34 rfl ((hasw.frame f2).frame f4) ?_
  rintro _ S1 ⟨Sa,⟨M,⟨w,rfl,hSM,hpl⟩,fa,hSa⟩,fb,h1⟩
  rw [h1,hSa];rw [hSa] at fb;clear h1 S1 hSa Sa
  obtain ⟨fbm,n21⟩:=fresh_set fb
  obtain ⟨qe,de,qw,dw,qf,df,rfl,hE2,hW2,hF2⟩:=id hpl
  refine k_m rfl ?_
  refine rC (Calm.extract rfl rfl) ?_
  refine rC (Calm.extract rfl rfl) ?_
  refine ARun.alloc (lit_lt rfl) ty_zero_29 ?_
  intro b8 f8
  have g8:=f8
  repeat ((with_reducible replace g8:=fresh_set g8);obtain ⟨g8,_⟩:=g8)
  try simp only [k_l1,k_l0,k_za,Nat.reduceAdd]
  first|refine k_A rfl rfl ty_size_29 ?_|refine k_B rfl rfl ty_size_29 ?_
  try simp only [k_ms,k_sz,k_ss,k_za,Nat.reduceAdd]
  refine k_e rfl ?_
  refine k_u [(0,_),(1,_),(2,_),(4,_),(5,_),(6,_),(7,_),(19,_),(8,_),(9,_)] ?_
  refine k_a ?_
  refine k_9 ty_agg_29 ty_size_29 rfl ?_
  refine k_m rfl ?_
  first|refine k_A rfl rfl ty_size_29 ?_|refine k_B rfl rfl ty_size_29 ?_
  try simp only [k_ms,k_sz,k_ss,k_za,Nat.reduceAdd]
  refine k_s rfl (k_e rfl ?_)
  refine k_u [(0,_),(1,_),(2,_),(4,_),(5,_),(6,_),(7,_),(19,_),(8,_),(9,_)] ?_
  refine k_r ?_
  refine ⟨_,M,⟨_,_,_,rfl,.inr ⟨ty_agg_29,[_,_,_,_,_,_,_,_,_],ty_size_29,rds_,rfl⟩,⟨_,_,rfl,⟨_,_,rfl,rfl,rfl⟩,rfl⟩,rfl⟩,less_,?_⟩
  exact ⟨_,_,rfl,hSM,hpl,Sl.nil _ _ _⟩
 ·rw [if_neg (show ¬ (10:Int)=0 from by decide)]
  refine ACall.enter (rs:=[.cell 4 29,.tmp 5,.tmp 6]) 65 [(0,.agg #[.int .i64 x.d.size,.slice pe x.d.ext.length ce,.slice pw x.d.waits.length cw,.int .i64 x.d.fuse,.bool x.d.down,.slice pf x.fr.length cf,.int .u64 x.tick,.int .u64 x.reads,.int .u64 x.writes]),(1,.int .i64 n)] Tryz.func19 rfl rfl (Nat.le_of_ble_eq_true rfl) rfl ⟨rfl,rfl,trivial⟩ ?_
  refine k_a ?_
  refine k_b9 rfl ?_
  intro b2 f2
  have g2:=f2
  repeat ((with_reducible replace g2:=fresh_set g2);obtain ⟨g2,_⟩:=g2)
  try simp only [k_l1,k_l0,k_za,Nat.reduceAdd]
  refine ARun.alloc (lit_lt rfl) ty_zero_29 ?_
  intro b4 f4
  have g4:=f4
  repeat ((with_reducible replace g4:=fresh_set g4);obtain ⟨g4,_⟩:=g4)
  try simp only [k_l1,k_l0,k_za,Nat.reduceAdd]
  refine k_s rfl (k_e rfl (k_a ?_))
  refine k_9 ty_agg_29 ty_size_29 rfl ?_
  refine ARun.call (lit_lt rfl) go_33 rfl (hpow _ (hp.less less_)) ?_
  rintro _ S1 ⟨rfl,h1⟩
  rw [h1];clear h1 S1
  refine k_e rfl ?_
  refine k_u [(0,_),(1,_),(2,_),(4,_),(5,_),(6,_),(7,_)] ?_
  refine AWP.seq (k_a (k_m rfl ?_))
  refine rC (Calm.bin rfl rfl b_neq) ?_
  refine k_n ?_
  refine k_u [(0,_),(1,_),(2,_),(4,_),(5,_),(6,_),(7,_),(19,_)] ?_
  refine k_T rfl ?_
  refine k_a ?_
  refine k_9 ty_agg_29 ty_size_29 rfl ?_
  refine k_m rfl ?_
  refine ARun.call (lit_lt rfl) go_34 rfl ((hasw.frame f2).frame f4) ?_
  rintro _ S1 ⟨Sa,⟨M,⟨w,rfl,hSM,hpl⟩,fa,hSa⟩,fb,h1⟩
  rw [h1,hSa];rw [hSa] at fb;clear h1 S1 hSa Sa
  obtain ⟨fbm,n21⟩:=fresh_set fb
  obtain ⟨qe,de,qw,dw,qf,df,rfl,hE2,hW2,hF2⟩:=id hpl
  refine k_m rfl ?_
  refine rC (Calm.extract rfl rfl) ?_
  refine rC (Calm.extract rfl rfl) ?_
  refine ARun.alloc (lit_lt rfl) ty_zero_29 ?_
  intro b8 f8
  have g8:=f8
  repeat ((with_reducible replace g8:=fresh_set g8);obtain ⟨g8,_⟩:=g8)
  try simp only [k_l1,k_l0,k_za,Nat.reduceAdd]
  first|refine k_A rfl rfl ty_size_29 ?_|refine k_B rfl rfl ty_size_29 ?_
  try simp only [k_ms,k_sz,k_ss,k_za,Nat.reduceAdd]
  refine k_e rfl ?_
  refine k_u [(0,_),(1,_),(2,_),(4,_),(5,_),(6,_),(7,_),(19,_),(8,_),(9,_)] ?_
  refine k_a ?_
  refine k_9 ty_agg_29 ty_size_29 rfl ?_
  refine k_m rfl ?_
  first|refine k_A rfl rfl ty_size_29 ?_|refine k_B rfl rfl ty_size_29 ?_
  try simp only [k_ms,k_sz,k_ss,k_za,Nat.reduceAdd]
  refine k_s rfl (k_e rfl ?_)
  refine k_u [(0,_),(1,_),(2,_),(4,_),(5,_),(6,_),(7,_),(19,_),(8,_),(9,_)] ?_
  refine k_r ?_
  refine ⟨_,M,⟨_,_,_,rfl,.inr ⟨ty_agg_29,[_,_,_,_,_,_,_,_,_],ty_size_29,rds_,rfl⟩,⟨_,_,rfl,⟨_,_,rfl,rfl,rfl⟩,rfl⟩,rfl⟩,less_,?_⟩
  exact ⟨_,_,rfl,hSM,hpl,Sl.nil _ _ _⟩
 ·rw [if_pos rfl]
  have hw:=right_PW hR hz hdn
  have hl1:=hw.l1
  have h256:=hw.l2
  have hil:idlesP x≤x.fr.length:=List.countP_le_length
  by_cases q1:n<0
  ·have hL:leaseP x n=(x,[],1):=by unfold leaseP;rw [if_pos q1]
   rw [hL]
   refine ACall.enter (rs:=[.cell 4 29,.tmp 5,.tmp 6]) 65 [(0,.agg #[.int .i64 x.d.size,.slice pe x.d.ext.length ce,.slice pw x.d.waits.length cw,.int .i64 x.d.fuse,.bool x.d.down,.slice pf x.fr.length cf,.int .u64 x.tick,.int .u64 x.reads,.int .u64 x.writes]),(1,.int .i64 n)] Tryz.func19 rfl rfl (Nat.le_of_ble_eq_true rfl) rfl ⟨rfl,rfl,trivial⟩ ?_
   refine k_a ?_
   refine k_b9 rfl ?_
   intro b2 f2
   have g2:=f2
   repeat ((with_reducible replace g2:=fresh_set g2);obtain ⟨g2,_⟩:=g2)
   try simp only [k_l1,k_l0,k_za,Nat.reduceAdd]
   refine ARun.alloc (lit_lt rfl) ty_zero_29 ?_
   intro b4 f4
   have g4:=f4
   repeat ((with_reducible replace g4:=fresh_set g4);obtain ⟨g4,_⟩:=g4)
   try simp only [k_l1,k_l0,k_za,Nat.reduceAdd]
   refine k_s rfl (k_e rfl (k_a ?_))
   refine k_9 ty_agg_29 ty_size_29 rfl ?_
   refine ARun.call (lit_lt rfl) go_33 rfl (hpow _ (hp.less less_)) ?_
   rintro _ S1 ⟨rfl,h1⟩
   rw [h1];clear h1 S1
   refine k_e rfl ?_
   refine k_u [(0,_),(1,_),(2,_),(4,_),(5,_),(6,_),(7,_)] ?_
   refine AWP.seq (k_a (k_m rfl ?_))
   refine rC (Calm.bin rfl rfl b_neq) ?_
   refine k_n ?_
   refine k_u [(0,_),(1,_),(2,_),(4,_),(5,_),(6,_),(7,_),(19,_)] ?_
   refine k_F rfl ?_
   refine k_k (k_a ?_)
   refine k_9 ty_agg_29 ty_size_29 rfl ?_
   refine ARun.call (lit_lt rfl) go_5 rfl ((hcopy.frame f2).frame f4) ?_
   rintro _ S1 ⟨Sa,⟨T0,⟨B,oF,qe,de,qw,dw,hSB,ho,hE2,hW2,rfl,hT0⟩,fa,hSa⟩,fb,h1⟩
   obtain ⟨b,c,rfl⟩:=ho.some (by omega)
   obtain ⟨hbB,hlc⟩:=ho.own b c rfl
   have hT0':T0=B.set b (frB x.fr c):=hT0
   rw [hSa] at fb;rw [hT0'] at fa fb;rw [h1,hSa,hT0'];clear h1 S1 hSa Sa hT0 hT0' T0
   obtain ⟨hAB,nAb⟩:=fresh_set fa
   obtain ⟨hRb,nRA⟩:=fresh_set fb
   obtain ⟨hRB,nRb⟩:=fresh_set hRb
   rw [show outV (some (b,c)) x.fr.length = .slice (some ⟨b,0,none⟩) x.fr.length c from rfl]
   have hyB:=rpB_like (y:=x) hbB hlc hE2 hW2 rfl rfl
   obtain ⟨hST,hpl⟩:=hyB.plR hSB h256
   refine ARun.alloc (lit_lt rfl) ty_zero_29 ?_
   intro b10 f10
   have g10:=f10
   repeat ((with_reducible replace g10:=fresh_set g10);obtain ⟨g10,_⟩:=g10)
   try simp only [k_l1,k_l0,k_za,Nat.reduceAdd]
   first|refine k_A rfl rfl ty_size_29 ?_|refine k_B rfl rfl ty_size_29 ?_
   try simp only [k_ms,k_sz,k_ss,k_za,Nat.reduceAdd]
   refine k_n ?_
   refine k_u [(0,_),(1,_),(2,_),(4,_),(5,_),(6,_),(7,_),(19,_),(10,_)] ?_
   refine AWP.seq (k_a (k_m rfl ?_))
   refine rC (Calm.bin rfl rfl b_lss) ?_
   refine k_n ?_
   refine k_u [(0,_),(1,_),(2,_),(4,_),(5,_),(6,_),(7,_),(19,_),(10,_),(31,_)] ?_
   refine k_T rfl ?_
   refine k_a ?_
   refine k_9 ty_agg_29 ty_size_29 rfl ?_
   first|refine k_A rfl rfl ty_size_29 ?_|refine k_B rfl rfl ty_size_29 ?_
   try simp only [k_ms,k_sz,k_ss,k_za,Nat.reduceAdd]
   refine k_s rfl (k_e rfl ?_)
   refine k_u [(0,_),(1,_),(2,_),(4,_),(5,_),(6,_),(7,_),(19,_),(10,_),(31,_)] ?_
   refine k_r ?_
   refine ⟨_,B.set b (frB x.fr c),⟨_,_,_,rfl,.inr ⟨ty_agg_29,[_,_,_,_,_,_,_,_,_],ty_size_29,rds_,rfl⟩,⟨_,_,rfl,⟨_,_,rfl,rfl,rfl⟩,rfl⟩,rfl⟩,less_,?_⟩
   exact ⟨_,_,rfl,hST,hpl,Sl.nil _ _ _⟩
  ·obtain ⟨m,rfl⟩ : ∃ m:Nat,n=(m:Int):=⟨_,(Int.toNat_of_nonneg (by omega)).symm⟩
   by_cases q2:(idlesP x:Int)<m
   ·have hL:leaseP x (m:Int)=(x,[],9):=by unfold leaseP;rw [if_neg q1,if_pos q2]
    rw [hL]
    refine ACall.enter (rs:=[.cell 4 29,.tmp 5,.tmp 6]) 65 [(0,.agg #[.int .i64 x.d.size,.slice pe x.d.ext.length ce,.slice pw x.d.waits.length cw,.int .i64 x.d.fuse,.bool x.d.down,.slice pf x.fr.length cf,.int .u64 x.tick,.int .u64 x.reads,.int .u64 x.writes]),(1,.int .i64 (m:Nat))] Tryz.func19 rfl rfl (Nat.le_of_ble_eq_true rfl) rfl ⟨rfl,rfl,trivial⟩ ?_
    refine k_a ?_
    refine k_b9 rfl ?_
    intro b2 f2
    have g2:=f2
    repeat ((with_reducible replace g2:=fresh_set g2);obtain ⟨g2,_⟩:=g2)
    try simp only [k_l1,k_l0,k_za,Nat.reduceAdd]
    refine ARun.alloc (lit_lt rfl) ty_zero_29 ?_
    intro b4 f4
    have g4:=f4
    repeat ((with_reducible replace g4:=fresh_set g4);obtain ⟨g4,_⟩:=g4)
    try simp only [k_l1,k_l0,k_za,Nat.reduceAdd]
    refine k_s rfl (k_e rfl (k_a ?_))
    refine k_9 ty_agg_29 ty_size_29 rfl ?_
    refine ARun.call (lit_lt rfl) go_33 rfl (hpow _ (hp.less less_)) ?_
    rintro _ S1 ⟨rfl,h1⟩
    rw [h1];clear h1 S1
    refine k_e rfl ?_
    refine k_u [(0,_),(1,_),(2,_),(4,_),(5,_),(6,_),(7,_)] ?_
    refine AWP.seq (k_a (k_m rfl ?_))
    refine rC (Calm.bin rfl rfl b_neq) ?_
    refine k_n ?_
    refine k_u [(0,_),(1,_),(2,_),(4,_),(5,_),(6,_),(7,_),(19,_)] ?_
    refine k_F rfl ?_
    refine k_k (k_a ?_)
    refine k_9 ty_agg_29 ty_size_29 rfl ?_
    refine ARun.call (lit_lt rfl) go_5 rfl ((hcopy.frame f2).frame f4) ?_
    rintro _ S1 ⟨Sa,⟨T0,⟨B,oF,qe,de,qw,dw,hSB,ho,hE2,hW2,rfl,hT0⟩,fa,hSa⟩,fb,h1⟩
    obtain ⟨b,c,rfl⟩:=ho.some (by omega)
    obtain ⟨hbB,hlc⟩:=ho.own b c rfl
    have hT0':T0=B.set b (frB x.fr c):=hT0
    rw [hSa] at fb;rw [hT0'] at fa fb;rw [h1,hSa,hT0'];clear h1 S1 hSa Sa hT0 hT0' T0
    obtain ⟨hAB,nAb⟩:=fresh_set fa
    obtain ⟨hRb,nRA⟩:=fresh_set fb
    obtain ⟨hRB,nRb⟩:=fresh_set hRb
    rw [show outV (some (b,c)) x.fr.length = .slice (some ⟨b,0,none⟩) x.fr.length c from rfl]
    have hyB:=rpB_like (y:=x) hbB hlc hE2 hW2 rfl rfl
    obtain ⟨hST,hpl⟩:=hyB.plR hSB h256
    refine ARun.alloc (lit_lt rfl) ty_zero_29 ?_
    intro b10 f10
    have g10:=f10
    repeat ((with_reducible replace g10:=fresh_set g10);obtain ⟨g10,_⟩:=g10)
    try simp only [k_l1,k_l0,k_za,Nat.reduceAdd]
    first|refine k_A rfl rfl ty_size_29 ?_|refine k_B rfl rfl ty_size_29 ?_
    try simp only [k_ms,k_sz,k_ss,k_za,Nat.reduceAdd]
    refine k_n ?_
    refine k_u [(0,_),(1,_),(2,_),(4,_),(5,_),(6,_),(7,_),(19,_),(10,_)] ?_
    refine AWP.seq (k_a (k_m rfl ?_))
    refine rC (Calm.bin rfl rfl b_lss) ?_
    refine k_n ?_
    refine k_u [(0,_),(1,_),(2,_),(4,_),(5,_),(6,_),(7,_),(19,_),(10,_),(31,_)] ?_
    refine k_F rfl ?_
    refine k_k (AWP.seq (k_a (k_m rfl ?_)))
    refine k_9 ty_agg_29 ty_size_29 rfl ?_
    refine ARun.call (lit_lt rfl) go_57 rfl (rp_may _ x _ (hpl.less less_) h256) ?_
    rintro _ S1 ⟨rfl,h1⟩
    rw [h1];clear h1 S1
    refine rC (Calm.bin rfl rfl b_gtr) ?_
    refine k_n ?_
    refine k_u [(0,_),(1,_),(2,_),(4,_),(5,_),(6,_),(7,_),(19,_),(10,_),(31,_),(36,_)] ?_
    refine k_T rfl ?_
    refine k_a ?_
    refine k_9 ty_agg_29 ty_size_29 rfl ?_
    first|refine k_A rfl rfl ty_size_29 ?_|refine k_B rfl rfl ty_size_29 ?_
    try simp only [k_ms,k_sz,k_ss,k_za,Nat.reduceAdd]
    refine k_s rfl (k_e rfl ?_)
    refine k_u [(0,_),(1,_),(2,_),(4,_),(5,_),(6,_),(7,_),(19,_),(10,_),(31,_),(36,_)] ?_
    refine k_r ?_
    refine ⟨_,B.set b (frB x.fr c),⟨_,_,_,rfl,.inr ⟨ty_agg_29,[_,_,_,_,_,_,_,_,_],ty_size_29,rds_,rfl⟩,⟨_,_,rfl,⟨_,_,rfl,rfl,rfl⟩,rfl⟩,rfl⟩,less_,?_⟩
    exact ⟨_,_,rfl,hST,hpl,Sl.nil _ _ _⟩
   ·have hL:leaseP x (m:Int)=leaseN m x []:=by unfold leaseP;rw [if_neg q1,if_neg q2,Int.toNat_natCast]
    rw [hL]
    refine ACall.enter (rs:=[.cell 4 29,.tmp 5,.tmp 6]) 65 [(0,.agg #[.int .i64 x.d.size,.slice pe x.d.ext.length ce,.slice pw x.d.waits.length cw,.int .i64 x.d.fuse,.bool x.d.down,.slice pf x.fr.length cf,.int .u64 x.tick,.int .u64 x.reads,.int .u64 x.writes]),(1,.int .i64 (m:Nat))] Tryz.func19 rfl rfl (Nat.le_of_ble_eq_true rfl) rfl ⟨rfl,rfl,trivial⟩ ?_
    refine k_a ?_
    refine k_b9 rfl ?_
    intro b2 f2
    have g2:=f2
    repeat ((with_reducible replace g2:=fresh_set g2);obtain ⟨g2,_⟩:=g2)
    try simp only [k_l1,k_l0,k_za,Nat.reduceAdd]
    refine ARun.alloc (lit_lt rfl) ty_zero_29 ?_
    intro b4 f4
    have g4:=f4
    repeat ((with_reducible replace g4:=fresh_set g4);obtain ⟨g4,_⟩:=g4)
    try simp only [k_l1,k_l0,k_za,Nat.reduceAdd]
    refine k_s rfl (k_e rfl (k_a ?_))
    refine k_9 ty_agg_29 ty_size_29 rfl ?_
    refine ARun.call (lit_lt rfl) go_33 rfl (hpow _ (hp.less less_)) ?_
    rintro _ S1 ⟨rfl,h1⟩
    rw [h1];clear h1 S1
    refine k_e rfl ?_
    refine k_u [(0,_),(1,_),(2,_),(4,_),(5,_),(6,_),(7,_)] ?_
    refine AWP.seq (k_a (k_m rfl ?_))
    refine rC (Calm.bin rfl rfl b_neq) ?_
    refine k_n ?_
    refine k_u [(0,_),(1,_),(2,_),(4,_),(5,_),(6,_),(7,_),(19,_)] ?_
    refine k_F rfl ?_
    refine k_k (k_a ?_)
    refine k_9 ty_agg_29 ty_size_29 rfl ?_
    refine ARun.call (lit_lt rfl) go_5 rfl ((hcopy.frame f2).frame f4) ?_
    rintro _ S1 ⟨Sa,⟨T0,⟨B,oF,qe,de,qw,dw,hSB,ho,hE2,hW2,rfl,hT0⟩,fa,hSa⟩,fb,h1⟩
    obtain ⟨b,c,rfl⟩:=ho.some (by omega)
    obtain ⟨hbB,hlc⟩:=ho.own b c rfl
    have hT0':T0=B.set b (frB x.fr c):=hT0
    rw [hSa] at fb;rw [hT0'] at fa fb;rw [h1,hSa,hT0'];clear h1 S1 hSa Sa hT0 hT0' T0
    obtain ⟨hAB,nAb⟩:=fresh_set fa
    obtain ⟨hRb,nRA⟩:=fresh_set fb
    obtain ⟨hRB,nRb⟩:=fresh_set hRb
    rw [show outV (some (b,c)) x.fr.length = .slice (some ⟨b,0,none⟩) x.fr.length c from rfl]
    refine ARun.alloc (lit_lt rfl) ty_zero_29 ?_
    intro b10 f10
    have g10:=f10
    repeat ((with_reducible replace g10:=fresh_set g10);obtain ⟨g10,_⟩:=g10)
    try simp only [k_l1,k_l0,k_za,Nat.reduceAdd]
    first|refine k_A rfl rfl ty_size_29 ?_|refine k_B rfl rfl ty_size_29 ?_
    try simp only [k_ms,k_sz,k_ss,k_za,Nat.reduceAdd]
    refine k_n ?_
    refine k_u [(0,_),(1,_),(2,_),(4,_),(5,_),(6,_),(7,_),(19,_),(10,_)] ?_
    obtain ⟨h10a,n104⟩:=fresh_set f10
    obtain ⟨h10b,n102⟩:=fresh_set h10a
    obtain ⟨h10c,n10⟩:=fresh_set h10b
    have n2:b2≠b:=nAb
    have n4:b4≠b:=nRb
    have n42:b4≠b2:=nRA
    have hyB:=rpB_like (y:=x) hbB hlc hE2 hW2 rfl rfl
    obtain ⟨hST,hpl⟩:=hyB.plR hSB h256
    refine AWP.seq (k_a (k_m rfl ?_))
    refine rC (Calm.bin rfl rfl b_lss) ?_
    refine k_n ?_
    refine k_u [(0,_),(1,_),(2,_),(4,_),(5,_),(6,_),(7,_),(19,_),(10,_),(31,_)] ?_
    refine k_F rfl ?_
    refine k_k (AWP.seq (k_a (k_m rfl ?_)))
    refine k_9 ty_agg_29 ty_size_29 rfl ?_
    refine ARun.call (lit_lt rfl) go_57 rfl (rp_may _ x _ (hpl.less less_) h256) ?_
    rintro _ S1 ⟨rfl,h1⟩
    rw [h1];clear h1 S1
    refine rC (Calm.bin rfl rfl b_gtr) ?_
    refine k_n ?_
    refine k_u [(0,_),(1,_),(2,_),(4,_),(5,_),(6,_),(7,_),(19,_),(10,_),(31,_),(36,_)] ?_
    refine k_F rfl ?_
    refine k_k (k_a (k_e rfl (AWP.seq (k_a ?_))))
    refine k_e rfl ?_
    refine AWP.block ?_
    refine AWP.loop (X:=RL) (fun z=>[(1,.int .i64 (m:Nat)),(4,.pointer (some ⟨b4,0,none⟩)),(10,.pointer (some ⟨b10,0,none⟩)),(11,outV z.o z.l.length),(12,.int .i64 z.i)]) (fun z=>outN 1 (z.M b c b2 b4 b10 ⟨29,[.int .i64 x.d.size,.slice pe x.d.ext.length ce,.slice pw x.d.waits.length cw,.int .i64 x.d.fuse,.bool x.d.down,.slice pf x.fr.length cf,.int .u64 x.tick,.int .u64 x.reads,.int .u64 x.writes],9⟩ ⟨29,[.int .i64 0,.slice none 0 0,.slice none 0 0,.int .i64 0,.bool false,.slice none 0 0,.int .u64 0,.int .u64 0,.int .u64 0],9⟩ ⟨29,z.C b c,9⟩) z.o 3 (z.l.flatMap i64s)) (fun z=>z.i≤m∧PW z.y∧RL.Ok S b c b2 b4 b10 ⟨29,[.int .i64 x.d.size,.slice pe x.d.ext.length ce,.slice pw x.d.waits.length cw,.int .i64 x.d.fuse,.bool x.d.down,.slice pf x.fr.length cf,.int .u64 x.tick,.int .u64 x.reads,.int .u64 x.writes],9⟩ ⟨29,[.int .i64 0,.slice none 0 0,.slice none 0 0,.int .i64 0,.bool false,.slice none 0 0,.int .u64 0,.int .u64 0,.int .u64 0],9⟩ ⟨29,z.C b c,9⟩ z∧z.l.length=z.i∧leaseN m x []=leaseN (m-z.i) z.y z.l) (fun z=>m-z.i) (⟨0,x,B,qe,de,qw,dw,none,[]⟩) ⟨rfl,rfl,rfl,rfl,rfl,trivial⟩ (Mem.Less.refl _) (⟨Nat.zero_le _,hw,⟨hw.lw,hSB,hbB,hlc,hE2,hW2,hAB,hRB,h10c,okO_nil _⟩,rfl,rfl⟩) ?_
    rintro z ⟨hi,hwy,hok,hll,hfl⟩
    (try dsimp only at *)
    obtain ⟨mb,m2,m4,m10⟩:=hok.own2 n2 n4 n42 n10 n102 n104
    have k10:=own_outO (n:=1) (e:=3) (cs:=z.l.flatMap i64s) m10 hok.ho
    have w4z:=own_outO (n:=1) (e:=3) (cs:=z.l.flatMap i64s) m4 hok.ho
    have hlast:=fun r4=>rl_less4 (r4:=r4) (e:=3) (cs:=z.l.flatMap i64s) hok.hb hok.g2 hok.g4 hok.g10 n2 n4 n42 n10 n102 n104 hok.ho
    have htk:=rl_call hok n2 n4 n42 n10 n102 n104 (f:=37) (args:=#[.agg (z.C b c).toArray]) (y':=(takeP z.y).1) (k:=fun r w=>r = .tuple #[w,.int .i64 ((takeP z.y).2.1:Nat),.int .i64 (takeP z.y).2.2]) (take_LW hwy) (fun v T hb e=>by subst e;exact rp_take z.B b c z.y _ T hb hwy)
    generalize hTM:outN 1 (z.M b c b2 b4 b10 ⟨29,[.int .i64 x.d.size,.slice pe x.d.ext.length ce,.slice pw x.d.waits.length cw,.int .i64 x.d.fuse,.bool x.d.down,.slice pf x.fr.length cf,.int .u64 x.tick,.int .u64 x.reads,.int .u64 x.writes],9⟩ ⟨29,[.int .i64 0,.slice none 0 0,.slice none 0 0,.int .i64 0,.bool false,.slice none 0 0,.int .u64 0,.int .u64 0,.int .u64 0],9⟩ ⟨29,z.C b c,9⟩) z.o 3 (z.l.flatMap i64s)=TM at *
    refine AWP.seq (k_a (k_m rfl (k_m rfl ?_)))
    refine rC (Calm.bin rfl rfl b_lss) ?_
    refine k_n ?_
    refine k_u [(1,_),(4,_),(10,_),(11,_),(12,_),(40,_)] ?_
    refine AWP.condB rfl (fun hc=>?_) (fun hc=>?_)
    ·have hc:z.i<m:=by have:=of_decide_eq_true hc;omega
     rw [show m-z.i=(m-(z.i+1))+1 from by omega,leaseN] at hfl
     have hpw:=take_PW hwy
     have htl:=takeP_lt (x:=z.y)
     refine k_k (AWP.seq ?_)
     refine AWP.block ?_
     refine k_a ?_
     refine k_9 ty_agg_29 ty_size_29 rfl ?_
     refine ARun.call (lit_lt rfl) go_37 rfl (htk) ?_
     rintro _ S1 ⟨z',e1,e2,e3,e4,rfl,hok',h1⟩
     rw [h1];clear h1 S1 htk k10 mb m2 m4 m10 w4z hlast hTM TM
     obtain ⟨mb,m2,m4,m10⟩:=hok'.own2 n2 n4 n42 n10 n102 n104
     refine k_m rfl ?_
     refine rC (Calm.extract rfl rfl) ?_
     refine rC (Calm.extract rfl rfl) ?_
     refine rC (Calm.extract rfl rfl) ?_
     refine ARun.alloc (lit_lt rfl) ty_zero_29 ?_
     intro b13 f13
     have g13:=f13
     repeat ((with_reducible replace g13:=fresh_set g13);obtain ⟨g13,_⟩:=g13)
     try simp only [k_l1,k_l0,k_za,Nat.reduceAdd]
     first|refine k_A rfl rfl ty_size_29 ?_|refine k_B rfl rfl ty_size_29 ?_
     try simp only [k_ms,k_sz,k_ss,k_za,Nat.reduceAdd]
     refine k_s rfl (k_e rfl ?_)
     refine k_u [(1,_),(4,_),(10,_),(11,_),(12,_),(40,_),(13,_),(14,_),(15,_)] ?_
     generalize takeP z.y=u at *
     have hi':z'.i=z.i:=e1
     have hfn:=f13
     have n13:=fun {q:Nat} {r:Blk} (h:(outN 1 (z'.M b c b2 b4 b10 ⟨29,[.int .i64 x.d.size,.slice pe x.d.ext.length ce,.slice pw x.d.waits.length cw,.int .i64 x.d.fuse,.bool x.d.down,.slice pf x.fr.length cf,.int .u64 x.tick,.int .u64 x.reads,.int .u64 x.writes],9⟩ ⟨29,[.int .i64 0,.slice none 0 0,.slice none 0 0,.int .i64 0,.bool false,.slice none 0 0,.int .u64 0,.int .u64 0,.int .u64 0],9⟩ ⟨29,z.C b c,9⟩) z'.o 3 (z'.l.flatMap i64s)).own q=some r)=>hfn.ne h
     have w10:=own_outO (n:=1) (e:=3) (cs:=z'.l.flatMap i64s) m10 hok'.ho
     have wb:=own_outO (n:=1) (e:=3) (cs:=z'.l.flatMap i64s) mb hok'.ho
     have w4:=own_outO (n:=1) (e:=3) (cs:=z'.l.flatMap i64s) m4 hok'.ho
     have nb13:=n13 wb
     have nb13':=Ne.symm nb13
     by_cases q3:u.2.2=0
     ·rw [if_pos q3] at hfl
      have hul:=htl q3
      have hul':u.2.1<z'.y.fr.length:=by rw [e2];exact hul
      have hC:∀ fr':List Fr,fr'.length=z'.y.fr.length → ∀ i l o,(RL.mk i { z'.y with fr:=fr' } z'.B z'.qe z'.de z'.qw z'.dw o l).C b c=z'.C b c:=fun fr' h i l o=>by unfold RL.C;simp only [h]
      refine AWP.seq (k_a (k_m rfl ?_))
      refine rC (Calm.bin rfl rfl b_neq) ?_
      refine k_n ?_
      refine k_u [(1,_),(4,_),(10,_),(11,_),(12,_),(40,_),(13,_),(14,_),(15,_),(50,_)] ?_
      refine k_F rfl ?_
      refine k_k (k_a ?_)
      refine rC (Calm.fieldAddr ty_field_29_1 rfl) ?_
      refine rC (ld_ ty_plain_26 rfl) ?_
      refine k_m rfl ?_
      refine rC (Calm.build (cs:=[_,_,_,_,_,_,_]) ty_bld_62 rfl rfl) ?_
      refine rC (Calm.indexS Tryz.underlying26 ty_size_62 rfl rfl (by omega) (by omega)) ?_
      refine ARun.storeFr (c:=c) (i:=u.2.1) (l:=z'.y.fr) (u:=F1) rfl rfl rfl (by omega) hul' ty_size_62 ((Mem.own_set_other _ _ (n13 wb)).trans wb) ?_
      try simp only [k_ms,k_sz,k_ss,k_za,Nat.reduceAdd]
      refine k_n ?_
      refine k_u [(1,_),(4,_),(10,_),(11,_),(12,_),(40,_),(13,_),(14,_),(15,_),(50,_)] ?_
      refine k_a ?_
      refine k_9 ty_agg_29 ty_size_29 rfl ?_
      refine ARun.storeAll rfl rfl ty_size_29 ((Mem.own_set_other _ _ n10).trans ((Mem.own_set_other _ _ (n13 w10)).trans w10)) rfl rfl ?_
      try simp only [k_ms,k_sz,k_ss,k_za,Nat.reduceAdd]
      refine k_n ?_
      refine k_u [(1,_),(4,_),(10,_),(11,_),(12,_),(40,_),(13,_),(14,_),(15,_),(50,_)] ?_
      refine AWP.less (outN 1 ((((z'.B.set b (frB (z'.y.fr.set u.2.1 F1) c)).set b2 ⟨29,[.int .i64 x.d.size,.slice pe x.d.ext.length ce,.slice pw x.d.waits.length cw,.int .i64 x.d.fuse,.bool x.d.down,.slice pf x.fr.length cf,.int .u64 x.tick,.int .u64 x.reads,.int .u64 x.writes],9⟩).set b4 ⟨29,[.int .i64 0,.slice none 0 0,.slice none 0 0,.int .i64 0,.bool false,.slice none 0 0,.int .u64 0,.int .u64 0,.int .u64 0],9⟩).set b10 ⟨29,z'.C b c,9⟩) z'.o 3 (z'.l.flatMap i64s)) (rl_less hok'.hb hok'.g2 hok'.g4 hok'.g10 n2 n4 n42 n10 n102 n104 hok'.ho hfn) ?_
      have hoo3:=rl_okO (rX':=⟨29,z'.C b c,9⟩) (fr':=z'.y.fr.set u.2.1 F1) hok'.ho
      have happ:=appN_self (e:=3) hoo3 (flat_length i64_len z'.l)
      have hll':z'.l.length=z.i:=by rw [e4];exact hll
      have hst11:outV z.o z.l.length=outV z'.o z'.l.length:=by rw [e3,e4]
      rw [hst11]
      refine AWP.region ?_
      refine k_m rfl (k_m rfl ?_)
      refine ARun.build1s (lit_lt rfl) ty_sl_30 rfl rfl ?_
      intro b61 f61
      have g61:=f61
      repeat ((with_reducible replace g61:=fresh_set g61);obtain ⟨g61,_⟩:=g61)
      refine ARun.appendOK (n:=1) (o:=z'.o) (k:=z'.l.length) (m:=1) (cs:=z'.l.flatMap i64s) (news:=[.int .i64 (u.2.1:Nat)]) (lit_lt rfl) ty_sl_30 rfl rfl (flat_length i64_len z'.l) hoo3 (happ.temp f61) rfl (src_own (Mem.own_set_same _ _ _) List.prefix_rfl) rfl (i64_one [((u.2.1:Nat):Int)]) (by omega) (by omega) ?_
      intro o2 ho2
      refine k_s rfl ?_
      refine arun_nil ?_
      refine ain_n ?_
      refine athen_n ?_
      refine k_u [(1,_),(4,_),(10,_),(11,_),(12,_),(40,_),(13,_),(14,_),(15,_),(50,_)] ?_
      refine AWP.region ?_
      refine k_m rfl ?_
      refine rC (Calm.bin rfl rfl b_add_i64) ?_
      refine k_e rfl ?_
      refine ⟨(RL.mk (z.i+1) (setP u.1 u.2.1 F1) z'.B z'.qe z'.de z'.qw z'.dw o2 (z.l ++ [((u.2.1:Nat):Int)])),?_,?_,?_,?_⟩
      all_goals (try dsimp only)
      ·exact ⟨rfl,rfl,rfl,by rw [e4,List.length_append];rfl,rfl,trivial⟩
      ·exact less_eq (by unfold RL.M;rw [← e2,← e4,List.flatMap_append];unfold setP;rw [hC _ (by simp)];rfl)
      ·exact ⟨hc,set_PW (hpw q3) _ (by decide) (by decide),⟨(hok'.hw.like (y:=setP u.1 u.2.1 F1) (by rw [e2];rfl) (by rw [e2];unfold setP;simp)),hok'.hS,hok'.hb,by unfold setP;simp only [List.length_set];rw [← e2];exact hok'.hlc,by unfold setP;rw [← e2];exact hok'.hE,by unfold setP;rw [← e2];exact hok'.hW,hok'.g2,hok'.g4,hok'.g10,by unfold RL.M setP;rw [← e2,hC _ (by simp)];rw [e4] at ho2;rw [List.length_append];exact ho2⟩,by rw [List.length_append,hll];rfl,hfl⟩
      ·(show m-(z.i+1)<m-z.i;omega)
     ·rw [if_neg q3] at hfl
      rw [hfl,← e2]
      obtain ⟨hST,hpl⟩:=hok'.plR
      refine AWP.seq (k_a (k_m rfl ?_))
      refine rC (Calm.bin rfl rfl b_neq) ?_
      refine k_n ?_
      refine k_u [(1,_),(4,_),(10,_),(11,_),(12,_),(40,_),(13,_),(14,_),(15,_),(50,_)] ?_
      refine k_T rfl ?_
      refine k_a ?_
      refine k_9 ty_agg_29 ty_size_29 rfl ?_
      refine k_m rfl ?_
      refine ARun.storeAll rfl rfl ty_size_29 ((Mem.own_set_other _ _ (n13 w4)).trans w4) rfl rfl ?_
      try simp only [k_ms,k_sz,k_ss,k_za,Nat.reduceAdd]
      refine k_s rfl (k_e rfl ?_)
      refine k_u [(1,_),(4,_),(10,_),(11,_),(12,_),(40,_),(13,_),(14,_),(15,_),(50,_),(5,_),(6,_)] ?_
      refine k_r ?_
      refine ain_ret ?_
      refine athen_ret ?_
      refine athen_ret ?_
      refine ain_ret ?_
      refine athen_ret ?_
      refine ⟨_,z'.B.set b (frB z'.y.fr c),⟨_,_,_,rfl,.inr ⟨ty_agg_29,[_,_,_,_,_,_,_,_,_],ty_size_29,rds_,rfl⟩,⟨_,_,rfl,⟨_,_,rfl,rfl,rfl⟩,rfl⟩,rfl⟩,(rl_less2 hok'.hb hok'.g2 hok'.g4 hok'.g10 n2 n4 n42 n10 n102 n104 hok'.ho hfn),?_⟩
      exact ⟨_,_,rfl,hST,hpl,Sl.nil _ _ _⟩
    ·have hc:z.i=m:=by have:=of_decide_eq_false hc;omega
     rw [hc,Nat.sub_self,leaseN] at hfl
     rw [hfl]
     obtain ⟨hST,hpl⟩:=hok.plR
     have hoE:=(hlast ⟨29,[.int .i64 0,.slice none 0 0,.slice none 0 0,.int .i64 0,.bool false,.slice none 0 0,.int .u64 0,.int .u64 0,.int .u64 0],9⟩).2
     have hsl:Sl 1 i64s (outN 1 (z.B.set b (frB z.y.fr c)) z.o 3 (z.l.flatMap i64s)) (outV z.o z.l.length) z.l:=sl_outN i64_len hoE rfl (by omega)
     refine AWP.exit ?_
     refine athen_exit ?_
     refine athen_exit ?_
     refine ain_same ?_
     refine athen_n ?_
     refine k_a ?_
     refine k_9 ty_agg_29 ty_size_29 rfl ?_
     refine k_m rfl ?_
     refine ARun.storeAll rfl rfl ty_size_29 w4z rfl rfl ?_
     try simp only [k_ms,k_sz,k_ss,k_za,Nat.reduceAdd]
     refine k_s rfl (k_e rfl ?_)
     refine k_u [(1,_),(4,_),(10,_),(11,_),(12,_),(40,_),(5,_),(6,_)] ?_
     refine AWP.ret ?_
     refine ⟨_,outN 1 (z.B.set b (frB z.y.fr c)) z.o 3 (z.l.flatMap i64s),⟨_,_,_,rfl,.inr ⟨ty_agg_29,[_,_,_,_,_,_,_,_,_],ty_size_29,rds_,rfl⟩,⟨_,_,rfl,⟨_,_,rfl,rfl,rfl⟩,rfl⟩,rfl⟩,(hlast _).1,?_⟩
     exact ⟨_,_,rfl,hST.trans (outN_over hoE),hpl.less (outN_over hoE),hsl⟩
end Go.Proofs.YtkeiphkccnfhoaaGreat
namespace Go.Proofs.YtkeiphkccnfhoaaGreat
open Go.RowKit
open Mv Disk
set_option maxRecDepth 4000
theorem rl_less3 {z : RL} {b c b2 b4 b10 bn : Nat} {rA rZ rX rX' rn : Blk} {e : TypeId} {cs : List Value} {m : Nat} (hb : Fresh z.B b) (g2 : Fresh z.B b2) (g4 : Fresh z.B b4) (g10 : Fresh z.B b10) (n2 : b2 ≠ b) (n4 : b4 ≠ b) (n42 : b4 ≠ b2) (n10 : b10 ≠ b) (n102 : b10 ≠ b2) (n104 : b10 ≠ b4)
  (ho:OkO (z.M b c b2 b4 b10 rA rZ rX) z.o m) (hn:Fresh (outN 1 (z.M b c b2 b4 b10 rA rZ rX) z.o e cs) bn) :
  (outN 1 (z.M b c b2 b4 b10 rA rZ rX') z.o e cs).Less (((outN 1 (z.M b c b2 b4 b10 rA rZ rX) z.o e cs).set bn rn).set b10 rX'):=by
 obtain ⟨hn1,hnq⟩:=fresh_outN hn
 unfold RL.M at *
 obtain ⟨hn2,nn10⟩:=fresh_set hn1
 obtain ⟨hn3,nn4⟩:=fresh_set hn2
 obtain ⟨hn4,nn2⟩:=fresh_set hn3
 obtain ⟨hn5,nnb⟩:=fresh_set hn4
 cases ho':z.o with
 | none=>simp only [outN];exact less_
 | some q =>
  obtain ⟨q,cq⟩:=q
  obtain ⟨hq1,_⟩:=ho.own q cq ho'
  obtain ⟨hq2,nq10⟩:=fresh_set hq1
  obtain ⟨hq3,nq4⟩:=fresh_set hq2
  obtain ⟨hq4,nq2⟩:=fresh_set hq3
  obtain ⟨hq5,nqb⟩:=fresh_set hq4
  have nnq:=hnq q cq ho'
  simp only [outN];exact less_
theorem own_fr_kn {T : Mem} {b c : Nat} {l : List Fr} {j : Nat} (h : T.own b = some (frB l c)) (hj : j < l.length) : T.Knows ⟨b, 0 + j * 7, none⟩ (frF l[j]) := by
 refine Mem.own_knows h _ _ fun i v hi=>?_
 rw [Nat.zero_add];exact flat_get fr_len l j hj i v hi
set_option maxHeartbeats 8000000 in
theorem rp_Flush (v : Value) (x : Pl) (S : Mem) (hp : PlR S v x) (hz : Dz x.d) (hf : x.fr.length * 72 ≤ 140737488351232) :
  ACall Tryz.prog 25 #[v] S (PlRes (openedP x (flushP x)) S):=by
 have hpow:=fun M h=>rp_power v x M h hz
 have hasw:=rp_as v x (openP x).2 S hp hz hf
 have hcopy:=rp_Copy v x S hp hz hf
 have hcopyR:=fun M h=>rp_CopyR v x M h hz hf
 obtain ⟨pe,ce,pw,cw,pf,cf,rfl,hE,hW,hF⟩:=id hp
 unfold openedP
 rcases openP_or x with ⟨ho',hR⟩ | ⟨ho',hR,hdn⟩ | ⟨ho',hR,hdn⟩ <;> rw [ho'] at hpow hasw ⊢
 ·rw [if_neg (show ¬ (2:Int)=0 from by decide)]
  refine ACall.enter (rs:=[.cell 2 29,.tmp 3]) 52 [(0,.agg #[.int .i64 x.d.size,.slice pe x.d.ext.length ce,.slice pw x.d.waits.length cw,.int .i64 x.d.fuse,.bool x.d.down,.slice pf x.fr.length cf,.int .u64 x.tick,.int .u64 x.reads,.int .u64 x.writes])] Tryz.func25 rfl rfl (Nat.le_of_ble_eq_true rfl) rfl ⟨rfl,trivial⟩ ?_
  refine k_a ?_
  refine k_b9 rfl ?_
  intro b1 f1
  have g1:=f1
  repeat ((with_reducible replace g1:=fresh_set g1);obtain ⟨g1,_⟩:=g1)
  try simp only [k_l1,k_l0,k_za,Nat.reduceAdd]
  refine ARun.alloc (lit_lt rfl) ty_zero_29 ?_
  intro b2 f2
  have g2:=f2
  repeat ((with_reducible replace g2:=fresh_set g2);obtain ⟨g2,_⟩:=g2)
  try simp only [k_l1,k_l0,k_za,Nat.reduceAdd]
  refine k_e rfl (k_a ?_)
  refine k_9 ty_agg_29 ty_size_29 rfl ?_
  refine ARun.call (lit_lt rfl) go_33 rfl (hpow _ (hp.less less_)) ?_
  rintro _ S1 ⟨rfl,h1⟩
  rw [h1];clear h1 S1
  refine k_e rfl ?_
  refine k_u [(0,_),(1,_),(2,_),(3,_),(4,_)] ?_
  refine AWP.seq (k_a (k_m rfl ?_))
  refine rC (Calm.bin rfl rfl b_neq) ?_
  refine k_n ?_
  refine k_u [(0,_),(1,_),(2,_),(3,_),(4,_),(12,_)] ?_
  refine k_T rfl ?_
  refine k_a ?_
  refine k_9 ty_agg_29 ty_size_29 rfl ?_
  refine k_m rfl ?_
  refine ARun.call (lit_lt rfl) go_34 rfl ((hasw.frame f1).frame f2) ?_
  rintro _ S1 ⟨Sa,⟨M,⟨w,rfl,hSM,hpl⟩,fa,hSa⟩,fb,h1⟩
  rw [h1,hSa];rw [hSa] at fb;clear h1 S1 hSa Sa
  obtain ⟨fbm,n21⟩:=fresh_set fb
  obtain ⟨qe,de,qw,dw,qf,df,rfl,hE2,hW2,hF2⟩:=id hpl
  refine rC (Calm.extract rfl rfl) ?_
  refine rC (Calm.extract rfl rfl) ?_
  first|refine k_A rfl rfl ty_size_29 ?_|refine k_B rfl rfl ty_size_29 ?_
  try simp only [k_ms,k_sz,k_ss,k_za,Nat.reduceAdd]
  refine k_e rfl ?_
  refine k_u [(0,_),(1,_),(2,_),(3,_),(4,_),(12,_)] ?_
  refine k_r ?_
  refine ⟨_,M,⟨_,_,_,rfl,.inr ⟨ty_agg_29,[_,_,_,_,_,_,_,_,_],ty_size_29,rds_,rfl⟩,⟨_,_,rfl,rfl,rfl⟩,rfl⟩,less_,?_⟩
  exact ⟨_,rfl,hSM,hpl⟩
 ·rw [if_neg (show ¬ (10:Int)=0 from by decide)]
  refine ACall.enter (rs:=[.cell 2 29,.tmp 3]) 52 [(0,.agg #[.int .i64 x.d.size,.slice pe x.d.ext.length ce,.slice pw x.d.waits.length cw,.int .i64 x.d.fuse,.bool x.d.down,.slice pf x.fr.length cf,.int .u64 x.tick,.int .u64 x.reads,.int .u64 x.writes])] Tryz.func25 rfl rfl (Nat.le_of_ble_eq_true rfl) rfl ⟨rfl,trivial⟩ ?_
  refine k_a ?_
  refine k_b9 rfl ?_
  intro b1 f1
  have g1:=f1
  repeat ((with_reducible replace g1:=fresh_set g1);obtain ⟨g1,_⟩:=g1)
  try simp only [k_l1,k_l0,k_za,Nat.reduceAdd]
  refine ARun.alloc (lit_lt rfl) ty_zero_29 ?_
  intro b2 f2
  have g2:=f2
  repeat ((with_reducible replace g2:=fresh_set g2);obtain ⟨g2,_⟩:=g2)
  try simp only [k_l1,k_l0,k_za,Nat.reduceAdd]
  refine k_e rfl (k_a ?_)
  refine k_9 ty_agg_29 ty_size_29 rfl ?_
  refine ARun.call (lit_lt rfl) go_33 rfl (hpow _ (hp.less less_)) ?_
  rintro _ S1 ⟨rfl,h1⟩
  rw [h1];clear h1 S1
  refine k_e rfl ?_
  refine k_u [(0,_),(1,_),(2,_),(3,_),(4,_)] ?_
  refine AWP.seq (k_a (k_m rfl ?_))
  refine rC (Calm.bin rfl rfl b_neq) ?_
  refine k_n ?_
  refine k_u [(0,_),(1,_),(2,_),(3,_),(4,_),(12,_)] ?_
  refine k_T rfl ?_
  refine k_a ?_
  refine k_9 ty_agg_29 ty_size_29 rfl ?_
  refine k_m rfl ?_
  refine ARun.call (lit_lt rfl) go_34 rfl ((hasw.frame f1).frame f2) ?_
  rintro _ S1 ⟨Sa,⟨M,⟨w,rfl,hSM,hpl⟩,fa,hSa⟩,fb,h1⟩
  rw [h1,hSa];rw [hSa] at fb;clear h1 S1 hSa Sa
  obtain ⟨fbm,n21⟩:=fresh_set fb
  obtain ⟨qe,de,qw,dw,qf,df,rfl,hE2,hW2,hF2⟩:=id hpl
  refine rC (Calm.extract rfl rfl) ?_
  refine rC (Calm.extract rfl rfl) ?_
  first|refine k_A rfl rfl ty_size_29 ?_|refine k_B rfl rfl ty_size_29 ?_
  try simp only [k_ms,k_sz,k_ss,k_za,Nat.reduceAdd]
  refine k_e rfl ?_
  refine k_u [(0,_),(1,_),(2,_),(3,_),(4,_),(12,_)] ?_
  refine k_r ?_
  refine ⟨_,M,⟨_,_,_,rfl,.inr ⟨ty_agg_29,[_,_,_,_,_,_,_,_,_],ty_size_29,rds_,rfl⟩,⟨_,_,rfl,rfl,rfl⟩,rfl⟩,less_,?_⟩
  exact ⟨_,rfl,hSM,hpl⟩
 ·rw [if_pos rfl]
  have hw:=right_PW hR hz hdn
  have hl1:=hw.l1
  have h256:=hw.l2
  refine ACall.enter (rs:=[.cell 2 29,.tmp 3]) 52 [(0,.agg #[.int .i64 x.d.size,.slice pe x.d.ext.length ce,.slice pw x.d.waits.length cw,.int .i64 x.d.fuse,.bool x.d.down,.slice pf x.fr.length cf,.int .u64 x.tick,.int .u64 x.reads,.int .u64 x.writes])] Tryz.func25 rfl rfl (Nat.le_of_ble_eq_true rfl) rfl ⟨rfl,trivial⟩ ?_
  refine k_a ?_
  refine k_b9 rfl ?_
  intro b1 f1
  have g1:=f1
  repeat ((with_reducible replace g1:=fresh_set g1);obtain ⟨g1,_⟩:=g1)
  try simp only [k_l1,k_l0,k_za,Nat.reduceAdd]
  refine ARun.alloc (lit_lt rfl) ty_zero_29 ?_
  intro b2 f2
  have g2:=f2
  repeat ((with_reducible replace g2:=fresh_set g2);obtain ⟨g2,_⟩:=g2)
  try simp only [k_l1,k_l0,k_za,Nat.reduceAdd]
  refine k_e rfl (k_a ?_)
  refine k_9 ty_agg_29 ty_size_29 rfl ?_
  refine ARun.call (lit_lt rfl) go_33 rfl (hpow _ (hp.less less_)) ?_
  rintro _ S1 ⟨rfl,h1⟩
  rw [h1];clear h1 S1
  refine k_e rfl ?_
  refine k_u [(0,_),(1,_),(2,_),(3,_),(4,_)] ?_
  refine AWP.seq (k_a (k_m rfl ?_))
  refine rC (Calm.bin rfl rfl b_neq) ?_
  refine k_n ?_
  refine k_u [(0,_),(1,_),(2,_),(3,_),(4,_),(12,_)] ?_
  refine k_F rfl ?_
  refine k_k (k_a ?_)
  refine k_9 ty_agg_29 ty_size_29 rfl ?_
  refine ARun.call (lit_lt rfl) go_5 rfl ((hcopy.frame f1).frame f2) ?_
  rintro _ S1 ⟨Sa,⟨T0,⟨B,oF,qe,de,qw,dw,hSB,ho,hE2,hW2,rfl,hT0⟩,fa,hSa⟩,fb,h1⟩
  obtain ⟨b,c,rfl⟩:=ho.some (by omega)
  obtain ⟨hbB,hlc⟩:=ho.own b c rfl
  have hT0':T0=B.set b (frB x.fr c):=hT0
  rw [hSa] at fb;rw [hT0'] at fa fb;rw [h1,hSa,hT0'];clear h1 S1 hSa Sa hT0 hT0' T0
  obtain ⟨hAB,nAb⟩:=fresh_set fa
  obtain ⟨hRb,nRA⟩:=fresh_set fb
  obtain ⟨hRB,nRb⟩:=fresh_set hRb
  rw [show outV (some (b,c)) x.fr.length = .slice (some ⟨b,0,none⟩) x.fr.length c from rfl]
  refine ARun.alloc (lit_lt rfl) ty_zero_29 ?_
  intro b5 f5
  have g5:=f5
  repeat ((with_reducible replace g5:=fresh_set g5);obtain ⟨g5,_⟩:=g5)
  try simp only [k_l1,k_l0,k_za,Nat.reduceAdd]
  first|refine k_A rfl rfl ty_size_29 ?_|refine k_B rfl rfl ty_size_29 ?_
  try simp only [k_ms,k_sz,k_ss,k_za,Nat.reduceAdd]
  refine k_n ?_
  refine k_u [(0,_),(1,_),(2,_),(3,_),(4,_),(12,_),(5,_)] ?_
  obtain ⟨h5a,n104⟩:=fresh_set f5
  obtain ⟨h5b,n102⟩:=fresh_set h5a
  obtain ⟨h5c,n10⟩:=fresh_set h5b
  have n2:b1≠b:=nAb
  have n4:b2≠b:=nRb
  have n42:b2≠b1:=nRA
  refine AWP.seq (k_a ?_)
  refine rC (Calm.fieldAddr ty_field_29_1 rfl) ?_
  refine rC (ld_ ty_plain_26 rfl) ?_
  refine rC (Calm.lenSl Tryz.underlying26 rfl) ?_
  refine k_m rfl (k_n ?_)
  refine k_u [(0,_),(1,_),(2,_),(3,_),(4,_),(12,_),(5,_),(22,_),(23,_)] ?_
  refine AWP.block ?_
  refine AWP.loop (X:=RL) (fun z=>[(2,.pointer (some ⟨b2,0,none⟩)),(5,.pointer (some ⟨b5,0,none⟩)),(22,.int .i64 x.fr.length),(23,.int .i64 z.i)]) (fun z=>outN 1 (z.M b c b1 b2 b5 ⟨29,[.int .i64 x.d.size,.slice pe x.d.ext.length ce,.slice pw x.d.waits.length cw,.int .i64 x.d.fuse,.bool x.d.down,.slice pf x.fr.length cf,.int .u64 x.tick,.int .u64 x.reads,.int .u64 x.writes],9⟩ ⟨29,[.int .i64 0,.slice none 0 0,.slice none 0 0,.int .i64 0,.bool false,.slice none 0 0,.int .u64 0,.int .u64 0,.int .u64 0],9⟩ ⟨29,z.C b c,9⟩) z.o 3 (z.l.flatMap i64s)) (fun z=>z.i≤x.fr.length∧PW z.y∧RL.Ok S b c b1 b2 b5 ⟨29,[.int .i64 x.d.size,.slice pe x.d.ext.length ce,.slice pw x.d.waits.length cw,.int .i64 x.d.fuse,.bool x.d.down,.slice pf x.fr.length cf,.int .u64 x.tick,.int .u64 x.reads,.int .u64 x.writes],9⟩ ⟨29,[.int .i64 0,.slice none 0 0,.slice none 0 0,.int .i64 0,.bool false,.slice none 0 0,.int .u64 0,.int .u64 0,.int .u64 0],9⟩ ⟨29,z.C b c,9⟩ z∧z.y.fr.length=x.fr.length∧z.o=none∧z.l = []∧flushN x 0 x.fr.length=flushN z.y z.i (x.fr.length-z.i)) (fun z=>x.fr.length-z.i) (⟨0,x,B,qe,de,qw,dw,none,[]⟩) ⟨rfl,rfl,rfl,rfl,trivial⟩ (Mem.Less.refl _) (⟨Nat.zero_le _,hw,⟨hw.lw,hSB,hbB,hlc,hE2,hW2,hAB,hRB,h5c,okO_nil _⟩,rfl,rfl,rfl,rfl⟩) ?_
  rintro z ⟨hi,hwy,hok,hyl,hoN,hlN,hfl⟩
  (try dsimp only at *)
  obtain ⟨mb,m2,m4,m10⟩:=hok.own2 n2 n4 n42 n10 n102 n104
  have k10:=own_outO (n:=1) (e:=3) (cs:=z.l.flatMap i64s) m10 hok.ho
  have wb:=own_outO (n:=1) (e:=3) (cs:=z.l.flatMap i64s) mb hok.ho
  refine k_a ?_
  refine rC (Calm.bin rfl rfl b_lss) ?_
  refine k_n (AWP.seq ?_)
  refine AWP.condB rfl (fun hc=>?_) (fun hc=>?_)
  ·have hc:z.i<x.fr.length:=by have:=of_decide_eq_true hc;omega
   have hcy:z.i<z.y.fr.length:=by rw [hyl];exact hc
   have hkn:=own_fr_kn wb hcy
   rw [← atF_eq hcy] at hkn
   obtain ⟨_,_,_,_,kb,_,_⟩:=kn_fr hkn
   have htk:=rl_call hok n2 n4 n42 n10 n102 n104 (f:=61) (args:=#[.agg (z.C b c).toArray,.int .i64 (z.i:Nat)]) (y':=(wrP z.y z.i).1) (k:=fun r w=>r = .tuple #[w,.int .i64 (wrP z.y z.i).2]) (wr_LW hwy z.i) (fun v T hb e=>by subst e;exact rp_write z.B b c z.y z.i _ T hb hwy hcy)
   have hmemN:∀ i,outN 1 ((RL.mk i z.y z.B z.qe z.de z.qw z.dw z.o z.l).M b c b1 b2 b5 ⟨29,[.int .i64 x.d.size,.slice pe x.d.ext.length ce,.slice pw x.d.waits.length cw,.int .i64 x.d.fuse,.bool x.d.down,.slice pf x.fr.length cf,.int .u64 x.tick,.int .u64 x.reads,.int .u64 x.writes],9⟩ ⟨29,[.int .i64 0,.slice none 0 0,.slice none 0 0,.int .i64 0,.bool false,.slice none 0 0,.int .u64 0,.int .u64 0,.int .u64 0],9⟩ ⟨29,(RL.mk i z.y z.B z.qe z.de z.qw z.dw z.o z.l).C b c,9⟩) z.o 3 (z.l.flatMap i64s)=outN 1 (z.M b c b1 b2 b5 ⟨29,[.int .i64 x.d.size,.slice pe x.d.ext.length ce,.slice pw x.d.waits.length cw,.int .i64 x.d.fuse,.bool x.d.down,.slice pf x.fr.length cf,.int .u64 x.tick,.int .u64 x.reads,.int .u64 x.writes],9⟩ ⟨29,[.int .i64 0,.slice none 0 0,.slice none 0 0,.int .i64 0,.bool false,.slice none 0 0,.int .u64 0,.int .u64 0,.int .u64 0],9⟩ ⟨29,z.C b c,9⟩) z.o 3 (z.l.flatMap i64s):=fun i=>rfl
   generalize hTM:outN 1 (z.M b c b1 b2 b5 ⟨29,[.int .i64 x.d.size,.slice pe x.d.ext.length ce,.slice pw x.d.waits.length cw,.int .i64 x.d.fuse,.bool x.d.down,.slice pf x.fr.length cf,.int .u64 x.tick,.int .u64 x.reads,.int .u64 x.writes],9⟩ ⟨29,[.int .i64 0,.slice none 0 0,.slice none 0 0,.int .i64 0,.bool false,.slice none 0 0,.int .u64 0,.int .u64 0,.int .u64 0],9⟩ ⟨29,z.C b c,9⟩) z.o 3 (z.l.flatMap i64s)=TM at *
   rw [show x.fr.length-z.i=(x.fr.length-(z.i+1))+1 from by omega,flushN] at hfl
   by_cases q1:(atF z.y z.i).dirty=true
   ·rw [if_pos q1] at hfl
    have hpw:=wr_PW hwy hcy
    have hwl:=wrP_len z.y z.i
    refine k_k (AWP.seq ?_)
    refine AWP.block ?_
    refine k_a (k_m rfl (k_e rfl ?_))
    refine k_u [(2,_),(5,_),(22,_),(23,_),(24,_),(6,_)] ?_
    refine k_a ?_
    refine rC (Calm.fieldAddr ty_field_29_1 rfl) ?_
    refine rC (ld_ ty_plain_26 rfl) ?_
    refine k_m rfl ?_
    refine rC (Calm.indexS Tryz.underlying26 ty_size_62 rfl rfl (by omega) (by omega)) ?_
    refine rC (Calm.fieldAddr ty_field_62_4 rfl) ?_
    refine rC (Calm.as (congrArg Value.bool q1) (ld_ ty_plain_4 rfl)) ?_
    refine k_n ?_
    refine k_u [(2,_),(5,_),(22,_),(23,_),(24,_),(6,_),(31,_)] ?_
    refine k_T rfl ?_
    refine k_a ?_
    refine k_9 ty_agg_29 ty_size_29 rfl ?_
    refine k_m rfl ?_
    refine ARun.call (lit_lt rfl) go_61 rfl (htk) ?_
    rintro _ S1 ⟨z',e1,e2,e3,e4,rfl,hok',h1⟩
    rw [h1];clear h1 S1 htk k10 wb kb mb m2 m4 m10 hmemN hTM hkn
    obtain ⟨mb,m2,m4,m10⟩:=hok'.own2 n2 n4 n42 n10 n102 n104
    refine k_m rfl ?_
    refine rC (Calm.extract rfl rfl) ?_
    refine rC (Calm.extract rfl rfl) ?_
    refine ARun.alloc (lit_lt rfl) ty_zero_29 ?_
    intro b7 f7
    have g7:=f7
    repeat ((with_reducible replace g7:=fresh_set g7);obtain ⟨g7,_⟩:=g7)
    try simp only [k_l1,k_l0,k_za,Nat.reduceAdd]
    first|refine k_A rfl rfl ty_size_29 ?_|refine k_B rfl rfl ty_size_29 ?_
    try simp only [k_ms,k_sz,k_ss,k_za,Nat.reduceAdd]
    refine k_e rfl ?_
    refine k_u [(2,_),(5,_),(22,_),(23,_),(24,_),(6,_),(31,_),(7,_),(8,_)] ?_
    generalize wrP z.y z.i=u at *
    have hfn:=f7
    have n13:=fun {q:Nat} {r:Blk} (h:(outN 1 (z'.M b c b1 b2 b5 ⟨29,[.int .i64 x.d.size,.slice pe x.d.ext.length ce,.slice pw x.d.waits.length cw,.int .i64 x.d.fuse,.bool x.d.down,.slice pf x.fr.length cf,.int .u64 x.tick,.int .u64 x.reads,.int .u64 x.writes],9⟩ ⟨29,[.int .i64 0,.slice none 0 0,.slice none 0 0,.int .i64 0,.bool false,.slice none 0 0,.int .u64 0,.int .u64 0,.int .u64 0],9⟩ ⟨29,z.C b c,9⟩) z'.o 3 (z'.l.flatMap i64s)).own q=some r)=>hfn.ne h
    have w10:=own_outO (n:=1) (e:=3) (cs:=z'.l.flatMap i64s) m10 hok'.ho
    have w4:=own_outO (n:=1) (e:=3) (cs:=z'.l.flatMap i64s) m4 hok'.ho
    by_cases q2:u.2=0
    ·rw [if_pos q2] at hfl
     refine AWP.seq (k_a (k_m rfl ?_))
     refine rC (Calm.bin rfl rfl b_neq) ?_
     refine k_n ?_
     refine k_u [(2,_),(5,_),(22,_),(23,_),(24,_),(6,_),(31,_),(7,_),(8,_),(39,_)] ?_
     refine k_F rfl ?_
     refine k_k ?_
     refine AWP.region ?_
     refine k_9 ty_agg_29 ty_size_29 rfl ?_
     refine ARun.storeAll rfl rfl ty_size_29 ((Mem.own_set_other _ _ (n13 w10)).trans w10) rfl rfl ?_
     try simp only [k_ms,k_sz,k_ss,k_za,Nat.reduceAdd]
     refine arun_nil ?_
     refine ain_n ?_
     refine athen_n ?_
     refine k_u [(2,_),(5,_),(22,_),(23,_),(24,_),(6,_),(31,_),(7,_),(8,_),(39,_)] ?_
     refine AWP.region ?_
     refine rC (Calm.bin rfl rfl b_add_i64) ?_
     refine k_m rfl (k_n ?_)
     refine ⟨(RL.mk (z.i+1) z'.y z'.B z'.qe z'.de z'.qw z'.dw z'.o z'.l),?_,?_,?_,?_⟩
     all_goals (try dsimp only)
     ·exact ⟨rfl,rfl,rfl,rfl,trivial⟩
     ·exact (rl_less3 hok'.hb hok'.g2 hok'.g4 hok'.g10 n2 n4 n42 n10 n102 n104 hok'.ho hfn)
     ·exact ⟨hc,by rw [e2];exact hpw q2,⟨hok'.hw,hok'.hS,hok'.hb,hok'.hlc,hok'.hE,hok'.hW,hok'.g2,hok'.g4,hok'.g10,rl_okO (fr':=z'.y.fr) hok'.ho⟩,by rw [e2,hwl];exact hyl,by rw [e3];exact hoN,by rw [e4];exact hlN,by rw [e2];exact hfl⟩
     ·(show x.fr.length-(z.i+1)<x.fr.length-z.i;omega)
    ·rw [if_neg q2] at hfl
     have hfp:flushP x=u:=by unfold flushP;rw [hfl,if_neg q2]
     rw [hfp]
     obtain ⟨hST,hpl⟩:=hok'.plR
     refine AWP.seq (k_a (k_m rfl ?_))
     refine rC (Calm.bin rfl rfl b_neq) ?_
     refine k_n ?_
     refine k_u [(2,_),(5,_),(22,_),(23,_),(24,_),(6,_),(31,_),(7,_),(8,_),(39,_)] ?_
     refine k_T rfl ?_
     refine k_a ?_
     refine k_9 ty_agg_29 ty_size_29 rfl ?_
     refine k_m rfl ?_
     refine ARun.storeAll rfl rfl ty_size_29 ((Mem.own_set_other _ _ (n13 w4)).trans w4) rfl rfl ?_
     try simp only [k_ms,k_sz,k_ss,k_za,Nat.reduceAdd]
     refine k_e rfl ?_
     refine k_u [(2,_),(5,_),(22,_),(23,_),(24,_),(6,_),(31,_),(7,_),(8,_),(39,_),(3,_)] ?_
     refine k_r ?_
     refine ain_ret ?_
     refine athen_ret ?_
     refine athen_ret ?_
     refine ain_ret ?_
     refine athen_ret ?_
     refine ⟨_,z'.B.set b (frB z'.y.fr c),⟨_,_,_,rfl,.inr ⟨ty_agg_29,[_,_,_,_,_,_,_,_,_],ty_size_29,rds_,rfl⟩,⟨_,_,rfl,rfl,rfl⟩,rfl⟩,(rl_less2 hok'.hb hok'.g2 hok'.g4 hok'.g10 n2 n4 n42 n10 n102 n104 hok'.ho hfn),?_⟩
     exact ⟨_,rfl,hST,by rw [← e2];exact hpl⟩
   ·have q1':(atF z.y z.i).dirty=false:=by simpa using q1
    rw [if_neg q1] at hfl
    refine k_k (AWP.seq ?_)
    refine AWP.block ?_
    refine k_a (k_m rfl (k_e rfl ?_))
    refine k_u [(2,_),(5,_),(22,_),(23,_),(24,_),(6,_)] ?_
    refine k_a ?_
    refine rC (Calm.fieldAddr ty_field_29_1 rfl) ?_
    refine rC (ld_ ty_plain_26 rfl) ?_
    refine k_m rfl ?_
    refine rC (Calm.indexS Tryz.underlying26 ty_size_62 rfl rfl (by omega) (by omega)) ?_
    refine rC (Calm.fieldAddr ty_field_62_4 rfl) ?_
    refine rC (Calm.as (congrArg Value.bool q1') (ld_ ty_plain_4 rfl)) ?_
    refine k_n ?_
    refine k_u [(2,_),(5,_),(22,_),(23,_),(24,_),(6,_),(31,_)] ?_
    refine k_F rfl ?_
    refine AWP.skip ?_
    refine ain_n ?_
    refine athen_n ?_
    refine AWP.region ?_
    refine rC (Calm.bin rfl rfl b_add_i64) ?_
    refine k_m rfl (k_n ?_)
    refine ⟨(RL.mk (z.i+1) z.y z.B z.qe z.de z.qw z.dw z.o z.l),?_,?_,?_,?_⟩
    all_goals (try dsimp only)
    ·exact ⟨rfl,rfl,rfl,rfl,trivial⟩
    ·exact less_eq (hmemN _)
    ·exact ⟨hc,hwy,⟨hok.hw,hok.hS,hok.hb,hok.hlc,hok.hE,hok.hW,hok.g2,hok.g4,hok.g10,rl_okO (fr':=z.y.fr) hok.ho⟩,hyl,hoN,hlN,hfl⟩
    ·(show x.fr.length-(z.i+1)<x.fr.length-z.i;omega)
  ·have hc:z.i=x.fr.length:=by have:=of_decide_eq_false hc;omega
   rw [hc,Nat.sub_self,flushN] at hfl
   have hfp:flushP x=({ z.y with d:=settleD z.y.d fun _=>true },0):=by unfold flushP;rw [hfl,if_pos rfl]
   rw [hfp]
   obtain ⟨f2,f4,f10⟩:=hok.fr (rA:=⟨29,[.int .i64 x.d.size,.slice pe x.d.ext.length ce,.slice pw x.d.waits.length cw,.int .i64 x.d.fuse,.bool x.d.down,.slice pf x.fr.length cf,.int .u64 x.tick,.int .u64 x.reads,.int .u64 x.writes],9⟩) (rZ:=⟨29,[.int .i64 0,.slice none 0 0,.slice none 0 0,.int .i64 0,.bool false,.slice none 0 0,.int .u64 0,.int .u64 0,.int .u64 0],9⟩) n2 n4 n42 n10 n102 n104
   obtain ⟨i,y,B',qe',de',qw',dw',o,l⟩:=z
   obtain ⟨hokw,hokS,hokb,hoklc,hokE,hokW,hokg2,hokg4,hokg10,hoko⟩:=hok
   simp only at hoN hlN hokw hokS hokb hoklc hokE hokW hokg2 hokg4 hokg10 hwy f2 f4 f10 hyl hc
   subst hoN hlN
   have hsy:=rd_Sync (.agg #[.int .i64 y.d.size,.slice qe' y.d.ext.length de',.slice qw' y.d.waits.length dw',.int .i64 y.d.fuse,.bool y.d.down]) y.d B' ⟨qe',de',qw',dw',rfl,hokE,hokW⟩ (dz_right hwy.dr hwy.fu)
   rw [opened_ok hwy.dr hwy.nd] at hsy
   refine AWP.less ((((B'.set b (frB y.fr c)).set b1 ⟨29,[.int .i64 x.d.size,.slice pe x.d.ext.length ce,.slice pw x.d.waits.length cw,.int .i64 x.d.fuse,.bool x.d.down,.slice pf x.fr.length cf,.int .u64 x.tick,.int .u64 x.reads,.int .u64 x.writes],9⟩).set b2 ⟨29,[.int .i64 0,.slice none 0 0,.slice none 0 0,.int .i64 0,.bool false,.slice none 0 0,.int .u64 0,.int .u64 0,.int .u64 0],9⟩).set b5 ⟨29,[.int .i64 y.d.size,.slice qe' y.d.ext.length de',.slice qw' y.d.waits.length dw',.int .i64 y.d.fuse,.bool y.d.down,.slice (some ⟨b,0,none⟩) y.fr.length c,.int .u64 y.tick,.int .u64 y.reads,.int .u64 y.writes],9⟩) (Mem.Less.refl _) ?_
   clear k10 wb mb m2 m4 m10 hoko
   refine AWP.exit ?_
   refine athen_exit ?_
   refine athen_exit ?_
   refine ain_same ?_
   refine athen_n ?_
   refine k_a ?_
   refine rC (Calm.fieldAddr ty_field_29_0 rfl) ?_
   refine k_5 ty_agg_25 ty_size_25 rfl ?_
   refine ARun.call (lit_lt rfl) go_62 rfl ((((hsy.frame (r:=frB y.fr c) hokb).frame (r:=⟨29,[.int .i64 x.d.size,.slice pe x.d.ext.length ce,.slice pw x.d.waits.length cw,.int .i64 x.d.fuse,.bool x.d.down,.slice pf x.fr.length cf,.int .u64 x.tick,.int .u64 x.reads,.int .u64 x.writes],9⟩) f2).frame (r:=⟨29,[.int .i64 0,.slice none 0 0,.slice none 0 0,.int .i64 0,.bool false,.slice none 0 0,.int .u64 0,.int .u64 0,.int .u64 0],9⟩) f4).frame (r:=⟨29,[.int .i64 y.d.size,.slice qe' y.d.ext.length de',.slice qw' y.d.waits.length dw',.int .i64 y.d.fuse,.bool y.d.down,.slice (some ⟨b,0,none⟩) y.fr.length c,.int .u64 y.tick,.int .u64 y.reads,.int .u64 y.writes],9⟩) f10) ?_
   rintro _ S1 ⟨S4,⟨S3,⟨S2,⟨M,⟨w,rfl,hBM,hdk⟩,ga,e2⟩,gb,e3⟩,gc,e4⟩,gd,h1⟩
   rw [e2] at gb;rw [e3,e2] at gc;rw [e4,e3,e2] at gd;rw [h1,e4,e3,e2];clear h1 S1 e4 e3 e2 S4 S3 S2
   obtain ⟨q2e,d2e,q2w,d2w,rfl,hE3,hW3⟩:=id hdk
   have hM2:Fresh M b1:=(fresh_set gb).1
   have hM4:Fresh M b2:=(fresh_set (fresh_set gc).1).1
   have hM10:Fresh M b5:=(fresh_set (fresh_set (fresh_set gd).1).1).1
   refine k_m rfl ?_
   refine rC (Calm.extract rfl rfl) ?_
   refine rC (Calm.extract rfl rfl) ?_
   refine rC (Calm.fieldAddr ty_field_29_0 rfl) ?_
   refine ARun.store (r:=⟨29,[.int .i64 y.d.size,.slice qe' y.d.ext.length de',.slice qw' y.d.waits.length dw',.int .i64 y.d.fuse,.bool y.d.down,.slice (some ⟨b,0,none⟩) y.fr.length c,.int .u64 y.tick,.int .u64 y.reads,.int .u64 y.writes],9⟩) rfl rfl ty_size_25 own_ (show 0+0+5≤9 from by decide) (by simp [Value.cells,Value.oneCell']) ?_
   try simp only [k_ms,k_sz,k_ss,k_za,Nat.reduceAdd]
   refine k_n ?_
   refine k_u [(2,_),(5,_),(22,_),(23,_),(24,_)] ?_
   refine AWP.less ((((M.set b (frB y.fr c)).set b1 ⟨29,[.int .i64 x.d.size,.slice pe x.d.ext.length ce,.slice pw x.d.waits.length cw,.int .i64 x.d.fuse,.bool x.d.down,.slice pf x.fr.length cf,.int .u64 x.tick,.int .u64 x.reads,.int .u64 x.writes],9⟩).set b2 ⟨29,[.int .i64 0,.slice none 0 0,.slice none 0 0,.int .i64 0,.bool false,.slice none 0 0,.int .u64 0,.int .u64 0,.int .u64 0],9⟩).set b5 ⟨29,[.int .i64 (settleD y.d fun _=>true).size,.slice q2e (settleD y.d fun _=>true).ext.length d2e,.slice q2w (settleD y.d fun _=>true).waits.length d2w,.int .i64 (settleD y.d fun _=>true).fuse,.bool (settleD y.d fun _=>true).down,.slice (some ⟨b,0,none⟩) y.fr.length c,.int .u64 y.tick,.int .u64 y.reads,.int .u64 y.writes],9⟩) less_ ?_
   have hST:S.Less (M.set b (frB y.fr c)):=(hokS.trans hBM).trans (Mem.less_set _ _ _ ga.1)
   have hpl:PlR (M.set b (frB y.fr c)) (.agg #[.int .i64 (settleD y.d fun _=>true).size,.slice q2e (settleD y.d fun _=>true).ext.length d2e,.slice q2w (settleD y.d fun _=>true).waits.length d2w,.int .i64 (settleD y.d fun _=>true).fuse,.bool (settleD y.d fun _=>true).down,.slice (some ⟨b,0,none⟩) y.fr.length c,.int .u64 y.tick,.int .u64 y.reads,.int .u64 y.writes]) { y with d:=settleD y.d fun _=>true }:=((RpB.plR (S:=B') (B:=B') (b:=b) (c:=c) (x:={ y with d:=settleD y.d fun _=>true }) ⟨M,q2e,d2e,q2w,d2w,hBM,ga,hoklc,hE3,hW3,rfl,rfl⟩ (Mem.Less.refl _) hwy.l2).2)
   refine k_a ?_
   refine k_9 ty_agg_29 ty_size_29 rfl ?_
   first|refine k_A rfl rfl ty_size_29 ?_|refine k_B rfl rfl ty_size_29 ?_
   try simp only [k_ms,k_sz,k_ss,k_za,Nat.reduceAdd]
   refine k_e rfl ?_
   refine k_u [(2,_),(5,_),(22,_),(23,_),(24,_),(3,_)] ?_
   refine AWP.ret ?_
   refine ⟨_,M.set b (frB y.fr c),⟨_,_,_,rfl,.inr ⟨ty_agg_29,[_,_,_,_,_,_,_,_,_],ty_size_29,rds_,rfl⟩,⟨_,_,rfl,rfl,rfl⟩,rfl⟩,less_,?_⟩
   exact ⟨_,rfl,hST,hpl⟩
end Go.Proofs.YtkeiphkccnfhoaaGreat
namespace Go.Proofs.YtkeiphkccnfhoaaGreat
open Go.RowKit
open Mv Disk
set_option maxRecDepth 4000
theorem neq_frame (x : Fr) (w : World) : (binOp .neq 62 (frV x) (frV x)).run Tryz.prog w = .ok (.bool false) w := by
 unfold frV
 go_simp
theorem bin_neq_frame {p q : Operand} (x : Fr) : Bin Tryz.prog .neq 62 p q (frV x) (frV x) (.bool false) := fun w => by
 unfold frV
 rw [Sem.run_bind,run_eqGuard_agg w .neq 62 p q _ _ (by kernel_rfl)]
 exact neq_frame x w
set_option maxHeartbeats 2000000 in
theorem rp_Same (v v' : Value) (x : Pl) (S : Mem) (hp : PlR S v x) (hp' : PlR S v' x) :
  ACall Tryz.prog 15 #[v,v'] S fun r S'=>r = .bool true∧S'=S:=by
 obtain ⟨pe,ce,pw,cw,pf,cf,rfl,hE,hW,hF⟩:=hp
 obtain ⟨pe',ce',pw',cw',pf',cf',rfl,hE',hW',hF'⟩:=hp'
 have hd:DkR S (.agg #[.int .i64 x.d.size,.slice pe x.d.ext.length ce,.slice pw x.d.waits.length cw,.int .i64 x.d.fuse,.bool x.d.down]) x.d:=⟨pe,ce,pw,cw,rfl,hE,hW⟩
 have hd':DkR S (.agg #[.int .i64 x.d.size,.slice pe' x.d.ext.length ce',.slice pw' x.d.waits.length cw',.int .i64 x.d.fuse,.bool x.d.down]) x.d:=⟨pe',ce',pw',cw',rfl,hE',hW'⟩
 have hs:=fun (M:Mem) (h:DkR M (.agg #[.int .i64 x.d.size,.slice pe x.d.ext.length ce,.slice pw x.d.waits.length cw,.int .i64 x.d.fuse,.bool x.d.down]) x.d) (h':DkR M (.agg #[.int .i64 x.d.size,.slice pe' x.d.ext.length ce',.slice pw' x.d.waits.length cw',.int .i64 x.d.fuse,.bool x.d.down]) x.d)=>rd_Same _ _ x.d M h h'
 obtain ⟨_,_,ef1,ef2,ef3,hF3⟩:=id hF
 cases ef1
 obtain ⟨_,_,eg1,eg2,eg3,hG3⟩:=id hF'
 cases eg1
 refine ACall.enter (rs:=[.tmp 4]) 60 [(0,.agg #[.int .i64 x.d.size,.slice pe x.d.ext.length ce,.slice pw x.d.waits.length cw,.int .i64 x.d.fuse,.bool x.d.down,.slice pf x.fr.length cf,.int .u64 x.tick,.int .u64 x.reads,.int .u64 x.writes]),(1,.agg #[.int .i64 x.d.size,.slice pe' x.d.ext.length ce',.slice pw' x.d.waits.length cw',.int .i64 x.d.fuse,.bool x.d.down,.slice pf' x.fr.length cf',.int .u64 x.tick,.int .u64 x.reads,.int .u64 x.writes])] Tryz.func15 rfl rfl (Nat.le_of_ble_eq_true rfl) rfl ⟨rfl,rfl,trivial⟩ ?_
 refine k_a ?_
 refine k_b9 rfl ?_
 intro b2 f2
 have g2:=f2
 repeat ((with_reducible replace g2:=fresh_set g2);obtain ⟨g2,_⟩:=g2)
 try simp only [k_l1,k_l0,k_za,Nat.reduceAdd]
 refine k_b9 rfl ?_
 intro b3 f3
 have g3:=f3
 repeat ((with_reducible replace g3:=fresh_set g3);obtain ⟨g3,_⟩:=g3)
 try simp only [k_l1,k_l0,k_za,Nat.reduceAdd]
 refine k_e rfl (AWP.seq (k_a ?_))
 refine rC (Calm.fieldAddr ty_field_29_0 rfl) ?_
 refine k_5 ty_agg_25 ty_size_25 rfl ?_
 refine rC (Calm.fieldAddr ty_field_29_0 rfl) ?_
 refine k_5 ty_agg_25 ty_size_25 rfl ?_
 refine ARun.call (lit_lt rfl) go_47 rfl (hs _ (hd.less less_) (hd'.less less_)) ?_
 rintro _ S1 ⟨rfl,h1⟩
 rw [h1];clear h1 S1
 refine rC (Calm.un rfl (una_not _)) ?_
 refine k_m rfl ?_
 first|refine k_q 12 ?_|refine rG 12 (Calm.fieldAddr ty_field_29_2 rfl) ?_
 first|refine k_q 12 ?_|refine rG 12 (ld_ ty_plain_27 rfl) ?_
 first|refine k_q 12 ?_|refine rG 12 (Calm.fieldAddr ty_field_29_2 rfl) ?_
 first|refine k_q 12 ?_|refine rG 12 (ld_ ty_plain_27 rfl) ?_
 first|refine k_q 12 ?_|refine rG 12 (Calm.bin rfl rfl (bin_bool (bin_neq _ _) (bnot_dec_false rfl))) ?_
 first|refine k_t rfl rfl ?_|refine k_f rfl rfl ?_
 refine k_m rfl ?_
 first|refine k_q 19 ?_|refine rG 19 (Calm.fieldAddr ty_field_29_3 rfl) ?_
 first|refine k_q 19 ?_|refine rG 19 (ld_ ty_plain_27 rfl) ?_
 first|refine k_q 19 ?_|refine rG 19 (Calm.fieldAddr ty_field_29_3 rfl) ?_
 first|refine k_q 19 ?_|refine rG 19 (ld_ ty_plain_27 rfl) ?_
 first|refine k_q 19 ?_|refine rG 19 (Calm.bin rfl rfl (bin_bool (bin_neq _ _) (bnot_dec_false rfl))) ?_
 first|refine k_t rfl rfl ?_|refine k_f rfl rfl ?_
 refine k_m rfl ?_
 first|refine k_q 26 ?_|refine rG 26 (Calm.fieldAddr ty_field_29_4 rfl) ?_
 first|refine k_q 26 ?_|refine rG 26 (ld_ ty_plain_27 rfl) ?_
 first|refine k_q 26 ?_|refine rG 26 (Calm.fieldAddr ty_field_29_4 rfl) ?_
 first|refine k_q 26 ?_|refine rG 26 (ld_ ty_plain_27 rfl) ?_
 first|refine k_q 26 ?_|refine rG 26 (Calm.bin rfl rfl (bin_bool (bin_neq _ _) (bnot_dec_false rfl))) ?_
 first|refine k_t rfl rfl ?_|refine k_f rfl rfl ?_
 refine k_m rfl ?_
 first|refine k_q 33 ?_|refine rG 33 (Calm.fieldAddr ty_field_29_1 rfl) ?_
 first|refine k_q 33 ?_|refine rG 33 (ld_ ty_plain_26 rfl) ?_
 first|refine k_q 33 ?_|refine rG 33 (Calm.lenSl Tryz.underlying26 rfl) ?_
 first|refine k_q 33 ?_|refine rG 33 (Calm.fieldAddr ty_field_29_1 rfl) ?_
 first|refine k_q 33 ?_|refine rG 33 (ld_ ty_plain_26 rfl) ?_
 first|refine k_q 33 ?_|refine rG 33 (Calm.lenSl Tryz.underlying26 rfl) ?_
 first|refine k_q 33 ?_|refine rG 33 (Calm.bin rfl rfl (bin_bool (bin_neq _ _) (bnot_dec_false rfl))) ?_
 first|refine k_t rfl rfl ?_|refine k_f rfl rfl ?_
 refine k_n ?_
 refine k_u [(0,_),(1,_),(2,_),(3,_),(4,_),(41,_)] ?_
 refine k_F rfl ?_
 refine k_k (AWP.seq (k_a ?_))
 refine rC (Calm.fieldAddr ty_field_29_1 rfl) ?_
 refine rC (ld_ ty_plain_26 rfl) ?_
 refine rC (Calm.lenSl Tryz.underlying26 rfl) ?_
 refine k_m rfl (k_n ?_)
 refine k_u [(0,_),(1,_),(2,_),(3,_),(4,_),(41,_),(44,_),(45,_)] ?_
 refine AWP.block ?_
 refine AWP.loop (X:=Nat) (fun y=>[(2,.pointer (some ⟨b2,0,none⟩)),(3,.pointer (some ⟨b3,0,none⟩)),(44,.int .i64 x.fr.length),(45,.int .i64 y)]) (fun _=>(S.set b2 ⟨29,[.int .i64 x.d.size,.slice pe x.d.ext.length ce,.slice pw x.d.waits.length cw,.int .i64 x.d.fuse,.bool x.d.down,.slice pf x.fr.length cf,.int .u64 x.tick,.int .u64 x.reads,.int .u64 x.writes],9⟩).set b3 ⟨29,[.int .i64 x.d.size,.slice pe' x.d.ext.length ce',.slice pw' x.d.waits.length cw',.int .i64 x.d.fuse,.bool x.d.down,.slice pf' x.fr.length cf',.int .u64 x.tick,.int .u64 x.reads,.int .u64 x.writes],9⟩) (fun y=>y≤x.fr.length) (fun y=>x.fr.length-y) (0) ⟨rfl,rfl,rfl,rfl,trivial⟩ (Mem.Less.refl _) (Nat.zero_le _) ?_
 rintro i hi
 (try dsimp only at *)
 refine k_a ?_
 refine rC (Calm.bin rfl rfl b_lss) ?_
 refine k_n (AWP.seq ?_)
 refine AWP.condB rfl (fun hc=>?_) (fun hc=>?_)
 ·have hc:i<x.fr.length:=by have:=of_decide_eq_true hc;omega
  obtain ⟨bf,of',rfl,hkf⟩:=hF3.resolve_left (fun e=>by rw [e] at hc;simp at hc)
  obtain ⟨bg,og',rfl,hkg⟩:=hG3.resolve_left (fun e=>by rw [e] at hc;simp at hc)
  have hk1:=hkf i hc
  have hk2:=hkg i hc
  generalize x.fr[i]=y at *
  unfold frF at hk1 hk2
  refine k_k (AWP.seq ?_)
  refine AWP.block ?_
  refine k_a (k_m rfl (k_e rfl ?_))
  refine k_u [(2,_),(3,_),(44,_),(45,_),(46,_),(5,_)] ?_
  refine AWP.seq ?_
  refine AWP.draw [(0,true),(1,true),(2,true),(3,true),(4,true),(5,true),(6,true),(7,true),(8,true),(9,true),(10,true)] [] mixed (by kernel_rfl) ?_
  refine dP (hc:=fun _=>Calm.fieldAddr ty_field_29_1 rfl) (h:=?_)
  refine dC (hc:=ld_ ty_plain_26 rfl) (h:=?_)
  refine dP (hc:=fun _=>Calm.move rfl) (h:=?_)
  refine dP (hc:=fun _=>Calm.indexS Tryz.underlying26 ty_size_62 rfl rfl (by omega) (by omega)) (h:=?_)
  refine dC (hc:=ldA_ (cs:=[_,_,_,_,_,_,_]) ty_agg_62 ty_size_62 rfl) (h:=?_)
  refine dP (hc:=fun _=>Calm.fieldAddr ty_field_29_1 rfl) (h:=?_)
  refine dC (hc:=ld_ ty_plain_26 rfl) (h:=?_)
  refine dP (hc:=fun _=>Calm.move rfl) (h:=?_)
  refine dP (hc:=fun _=>Calm.indexS Tryz.underlying26 ty_size_62 rfl rfl (by omega) (by omega)) (h:=?_)
  refine dC (hc:=ldA_ (cs:=[_,_,_,_,_,_,_]) ty_agg_62 ty_size_62 rfl) (h:=?_)
  refine dP (hc:=fun _=>Calm.bin rfl rfl (bin_neq_frame y)) (h:=?_)
  refine draw_nil ?_
  refine athen_n ?_
  refine k_u [(2,_),(3,_),(44,_),(45,_),(46,_),(5,_),(58,_)] ?_
  refine k_F rfl ?_
  refine AWP.skip ?_
  refine ain_n ?_
  refine athen_n ?_
  refine AWP.region ?_
  refine rC (Calm.bin rfl rfl b_add_i64) ?_
  refine k_m rfl (k_n ?_)
  refine ⟨i+1,?_,?_,?_,?_⟩
  all_goals (try dsimp only)
  ·exact ⟨rfl,rfl,rfl,rfl,trivial⟩
  ·exact Mem.Less.refl _
  ·exact hc
  ·omega
 ·refine AWP.exit ?_
  refine athen_exit ?_
  refine athen_exit ?_
  refine ain_same ?_
  refine athen_n ?_
  refine k_a (k_e rfl ?_)
  refine AWP.ret ?_
  refine ⟨_,S,⟨_,_,rfl,rfl,rfl⟩,less_,?_⟩
  exact ⟨rfl,rfl⟩
end Go.Proofs.YtkeiphkccnfhoaaGreat
namespace Go.Proofs.YtkeiphkccnfhoaaGreat
open Go.RowKit
open Mv Disk
set_option maxRecDepth 20000
set_option maxHeartbeats 16000000 in
theorem law_PoolLeases (v vl : Value) (p : Pl) (n : Int) (l : List Int) (s : ByteArray) (S : Mem) (hp : PlR S v p) (hz : Dz p.d) (hf : p.fr.length * 72 ≤ 140737488351232) (hl : Sl 1 i64s S vl l) :
  ACall Tryz.prog 4 #[v,.int .i64 n,vl,.string s] S fun r S'=>r = .bool true:=by
 have c0:=fun v M h=>rp_CopyR v p M h hz hf
 have c1:=fun v M h=>pl_Lease v p n M h hz
 have e1:=fun v M h=>rp_Lease v p n M h hz hf
 have c2:=fun v vl M h hl=>pl_Return v vl p l M h hz hl
 have e2:=fun v vl M h hl=>rp_Return v p vl l M h hz hf hl
 have c3:=fun v M h=>pl_Drop v p s M h hz
 have e3:=fun v M h=>rp_Drop v p s M h hz hf
 have c4:=fun v M h=>pl_Flush v p M h hz
 have e4:=fun v M h=>rp_Flush v p M h hz hf
 have c5:=fun v M h=>pl_Counts v p M h hz
 have e5:=fun v M h=>rp_Counts v p M h hz
 obtain ⟨pe,ce,pw,cw,pf,cf,rfl,hE,hW,hF⟩:=id hp
 obtain ⟨la,lc,rfl,_⟩:=id hl
 generalize openedL p (leaseP p n)=u1 at *
 generalize openedP p (eachP ret1 p p l)=u2 at *
 generalize openedP p (dropP p s)=u3 at *
 generalize openedP p (flushP p)=u4 at *
 generalize countsP p=u5 at *
 refine ACall.enter (rs:=[.tmp 8]) 171 [(0,.agg #[.int .i64 p.d.size,.slice pe p.d.ext.length ce,.slice pw p.d.waits.length cw,.int .i64 p.d.fuse,.bool p.d.down,.slice pf p.fr.length cf,.int .u64 p.tick,.int .u64 p.reads,.int .u64 p.writes]),(1,.int .i64 n),(2,.slice la l.length lc),(3,.string s)] Tryz.func4 rfl rfl (Nat.le_of_ble_eq_true rfl) rfl ⟨rfl,rfl,rfl,rfl,trivial⟩ ?_
 refine k_a ?_
 refine k_b9 rfl ?_
 intro b4 f4
 have g4:=f4
 repeat ((with_reducible replace g4:=fresh_set g4);obtain ⟨g4,_⟩:=g4)
 try simp only [k_l1,k_l0,k_za,Nat.reduceAdd]
 refine k_e rfl ?_
 refine named (S:=S) (b:=b4) g4.1 ?_
 intro T4 hT4 kb4
 replace hp:=hp.less hT4
 replace hl:=hl.less hT4
 refine k_a ?_
 refine k_9 ty_agg_29 ty_size_29 rfl ?_
 refine ARun.call (lit_lt rfl) go_5 rfl (c0 _ _ hp) ?_
 rintro _ S1 ⟨hS1,hg⟩
 obtain ⟨pg,qg,rg,sg,tg,ug,rfl,hEg,hWg,hFg⟩:=id hg
 replace hp:=hp.less hS1
 replace hl:=hl.less hS1
 replace kb4:=hS1.own kb4
 refine ARun.alloc (lit_lt rfl) ty_zero_29 ?_
 intro b9 f9
 have g9:=f9
 repeat ((with_reducible replace g9:=fresh_set g9);obtain ⟨g9,_⟩:=g9)
 have:=g9.ne kb4;have:=g9.ne' kb4
 try simp only [k_l1,k_l0,k_za,Nat.reduceAdd]
 first|refine k_A rfl rfl ty_size_29 ?_|refine k_B rfl rfl ty_size_29 ?_
 try simp only [k_ms,k_sz,k_ss,k_za,Nat.reduceAdd]
 refine k_n ?_
 refine k_u [(0,_),(1,_),(2,_),(3,_),(4,_),(8,_),(9,_)] ?_
 refine named (S:=S1) (b:=b9) g9.1 ?_
 intro T9 hT9 kb9
 replace hp:=hp.less hT9
 replace hl:=hl.less hT9
 replace kb4:=hT9.own kb4
 replace hg:=hg.less hT9
 refine k_a ?_
 refine k_9 ty_agg_29 ty_size_29 rfl ?_
 refine k_m rfl ?_
 refine ARun.call (lit_lt rfl) go_18 rfl (c1 _ _ hg) ?_
 rintro _ S2 ⟨v,vl1,rfl,hS2,ha,hla⟩
 obtain ⟨pa,qa,ra,sa,ta,ua,rfl,hEa,hWa,hFa⟩:=id ha
 obtain ⟨xa,xc,rfl,_⟩:=id hla
 replace hp:=hp.less hS2
 replace hl:=hl.less hS2
 replace kb4:=hS2.own kb4
 replace hg:=hg.less hS2
 replace kb9:=hS2.own kb9
 refine k_m rfl ?_
 refine rC (Calm.extract rfl rfl) ?_
 refine rC (Calm.extract rfl rfl) ?_
 refine rC (Calm.extract rfl rfl) ?_
 refine ARun.alloc (lit_lt rfl) ty_zero_29 ?_
 intro b10 f10
 have g10:=f10
 repeat ((with_reducible replace g10:=fresh_set g10);obtain ⟨g10,_⟩:=g10)
 have:=g10.ne kb4;have:=g10.ne' kb4
 have:=g10.ne kb9;have:=g10.ne' kb9
 try simp only [k_l1,k_l0,k_za,Nat.reduceAdd]
 first|refine k_A rfl rfl ty_size_29 ?_|refine k_B rfl rfl ty_size_29 ?_
 try simp only [k_ms,k_sz,k_ss,k_za,Nat.reduceAdd]
 refine k_s rfl (k_e rfl ?_)
 refine k_u [(0,_),(1,_),(2,_),(3,_),(4,_),(8,_),(9,_),(10,_),(11,_),(12,_)] ?_
 refine named (S:=S2) (b:=b10) g10.1 ?_
 intro T10 hT10 kb10
 replace hp:=hp.less hT10
 replace hl:=hl.less hT10
 replace kb4:=hT10.own kb4
 replace hg:=hg.less hT10
 replace kb9:=hT10.own kb9
 replace ha:=ha.less hT10
 replace hla:=hla.less hT10
 refine k_a ?_
 refine k_9 ty_agg_29 ty_size_29 rfl ?_
 refine k_m rfl ?_
 refine ARun.call (lit_lt rfl) go_19 rfl (e1 _ _ hp) ?_
 rintro _ S3 ⟨v,vl2,rfl,hS3,hb,hlb⟩
 obtain ⟨pb,qb,rb,sb,tb,ub,rfl,hEb,hWb,hFb⟩:=id hb
 obtain ⟨ya,yc,rfl,_⟩:=id hlb
 replace hp:=hp.less hS3
 replace hl:=hl.less hS3
 replace kb4:=hS3.own kb4
 replace hg:=hg.less hS3
 replace kb9:=hS3.own kb9
 replace ha:=ha.less hS3
 replace hla:=hla.less hS3
 replace kb10:=hS3.own kb10
 refine k_m rfl ?_
 refine rC (Calm.extract rfl rfl) ?_
 refine rC (Calm.extract rfl rfl) ?_
 refine rC (Calm.extract rfl rfl) ?_
 refine ARun.alloc (lit_lt rfl) ty_zero_29 ?_
 intro b13 f13
 have g13:=f13
 repeat ((with_reducible replace g13:=fresh_set g13);obtain ⟨g13,_⟩:=g13)
 have:=g13.ne kb4;have:=g13.ne' kb4
 have:=g13.ne kb9;have:=g13.ne' kb9
 have:=g13.ne kb10;have:=g13.ne' kb10
 try simp only [k_l1,k_l0,k_za,Nat.reduceAdd]
 first|refine k_A rfl rfl ty_size_29 ?_|refine k_B rfl rfl ty_size_29 ?_
 try simp only [k_ms,k_sz,k_ss,k_za,Nat.reduceAdd]
 refine k_s rfl (k_e rfl ?_)
 refine k_u [(0,_),(1,_),(2,_),(3,_),(4,_),(8,_),(9,_),(10,_),(11,_),(12,_),(13,_),(14,_),(15,_)] ?_
 refine named (S:=S3) (b:=b13) g13.1 ?_
 intro T13 hT13 kb13
 replace hp:=hp.less hT13
 replace hl:=hl.less hT13
 replace kb4:=hT13.own kb4
 replace hg:=hg.less hT13
 replace kb9:=hT13.own kb9
 replace ha:=ha.less hT13
 replace hla:=hla.less hT13
 replace kb10:=hT13.own kb10
 replace hb:=hb.less hT13
 replace hlb:=hlb.less hT13
 refine k_a ?_
 refine k_9 ty_agg_29 ty_size_29 rfl ?_
 refine k_m rfl ?_
 refine ARun.call (lit_lt rfl) go_20 rfl (c2 _ _ _ hg hl) ?_
 rintro _ S4 ⟨v,rfl,hS4,hc⟩
 obtain ⟨pc,qc,rc,sc,tc,uc,rfl,hEc,hWc,hFc⟩:=id hc
 replace hp:=hp.less hS4
 replace hl:=hl.less hS4
 replace kb4:=hS4.own kb4
 replace hg:=hg.less hS4
 replace kb9:=hS4.own kb9
 replace ha:=ha.less hS4
 replace hla:=hla.less hS4
 replace kb10:=hS4.own kb10
 replace hb:=hb.less hS4
 replace hlb:=hlb.less hS4
 replace kb13:=hS4.own kb13
 refine k_m rfl ?_
 refine rC (Calm.extract rfl rfl) ?_
 refine rC (Calm.extract rfl rfl) ?_
 refine ARun.alloc (lit_lt rfl) ty_zero_29 ?_
 intro b16 f16
 have g16:=f16
 repeat ((with_reducible replace g16:=fresh_set g16);obtain ⟨g16,_⟩:=g16)
 have:=g16.ne kb4;have:=g16.ne' kb4
 have:=g16.ne kb9;have:=g16.ne' kb9
 have:=g16.ne kb10;have:=g16.ne' kb10
 have:=g16.ne kb13;have:=g16.ne' kb13
 try simp only [k_l1,k_l0,k_za,Nat.reduceAdd]
 first|refine k_A rfl rfl ty_size_29 ?_|refine k_B rfl rfl ty_size_29 ?_
 try simp only [k_ms,k_sz,k_ss,k_za,Nat.reduceAdd]
 refine k_e rfl ?_
 refine k_u [(0,_),(1,_),(2,_),(3,_),(4,_),(8,_),(9,_),(10,_),(11,_),(12,_),(13,_),(14,_),(15,_),(16,_),(17,_)] ?_
 refine named (S:=S4) (b:=b16) g16.1 ?_
 intro T16 hT16 kb16
 replace hp:=hp.less hT16
 replace hl:=hl.less hT16
 replace kb4:=hT16.own kb4
 replace hg:=hg.less hT16
 replace kb9:=hT16.own kb9
 replace ha:=ha.less hT16
 replace hla:=hla.less hT16
 replace kb10:=hT16.own kb10
 replace hb:=hb.less hT16
 replace hlb:=hlb.less hT16
 replace kb13:=hT16.own kb13
 replace hc:=hc.less hT16
 refine k_a ?_
 refine k_9 ty_agg_29 ty_size_29 rfl ?_
 refine k_m rfl ?_
 refine ARun.call (lit_lt rfl) go_21 rfl (e2 _ _ _ hp hl) ?_
 rintro _ S5 ⟨v,rfl,hS5,hd⟩
 obtain ⟨pd,qd,rd,sd,td,ud,rfl,hEd,hWd,hFd⟩:=id hd
 replace hp:=hp.less hS5
 replace hl:=hl.less hS5
 replace kb4:=hS5.own kb4
 replace hg:=hg.less hS5
 replace kb9:=hS5.own kb9
 replace ha:=ha.less hS5
 replace hla:=hla.less hS5
 replace kb10:=hS5.own kb10
 replace hb:=hb.less hS5
 replace hlb:=hlb.less hS5
 replace kb13:=hS5.own kb13
 replace hc:=hc.less hS5
 replace kb16:=hS5.own kb16
 refine k_m rfl ?_
 refine rC (Calm.extract rfl rfl) ?_
 refine rC (Calm.extract rfl rfl) ?_
 refine ARun.alloc (lit_lt rfl) ty_zero_29 ?_
 intro b18 f18
 have g18:=f18
 repeat ((with_reducible replace g18:=fresh_set g18);obtain ⟨g18,_⟩:=g18)
 have:=g18.ne kb4;have:=g18.ne' kb4
 have:=g18.ne kb9;have:=g18.ne' kb9
 have:=g18.ne kb10;have:=g18.ne' kb10
 have:=g18.ne kb13;have:=g18.ne' kb13
 have:=g18.ne kb16;have:=g18.ne' kb16
 try simp only [k_l1,k_l0,k_za,Nat.reduceAdd]
 first|refine k_A rfl rfl ty_size_29 ?_|refine k_B rfl rfl ty_size_29 ?_
 try simp only [k_ms,k_sz,k_ss,k_za,Nat.reduceAdd]
 refine k_e rfl ?_
 refine k_u [(0,_),(1,_),(2,_),(3,_),(4,_),(8,_),(9,_),(10,_),(11,_),(12,_),(13,_),(14,_),(15,_),(16,_),(17,_),(18,_),(19,_)] ?_
 refine named (S:=S5) (b:=b18) g18.1 ?_
 intro T18 hT18 kb18
 replace hp:=hp.less hT18
 replace hl:=hl.less hT18
 replace kb4:=hT18.own kb4
 replace hg:=hg.less hT18
 replace kb9:=hT18.own kb9
 replace ha:=ha.less hT18
 replace hla:=hla.less hT18
 replace kb10:=hT18.own kb10
 replace hb:=hb.less hT18
 replace hlb:=hlb.less hT18
 replace kb13:=hT18.own kb13
 replace hc:=hc.less hT18
 replace kb16:=hT18.own kb16
 replace hd:=hd.less hT18
 refine k_a ?_
 refine k_9 ty_agg_29 ty_size_29 rfl ?_
 refine k_m rfl ?_
 refine ARun.call (lit_lt rfl) go_22 rfl (c3 _ _ hg) ?_
 rintro _ S6 ⟨v,rfl,hS6,he⟩
 obtain ⟨pe,qe,re,se,te,ue,rfl,hEe,hWe,hFe⟩:=id he
 replace hp:=hp.less hS6
 replace hl:=hl.less hS6
 replace kb4:=hS6.own kb4
 replace hg:=hg.less hS6
 replace kb9:=hS6.own kb9
 replace ha:=ha.less hS6
 replace hla:=hla.less hS6
 replace kb10:=hS6.own kb10
 replace hb:=hb.less hS6
 replace hlb:=hlb.less hS6
 replace kb13:=hS6.own kb13
 replace hc:=hc.less hS6
 replace kb16:=hS6.own kb16
 replace hd:=hd.less hS6
 replace kb18:=hS6.own kb18
 refine k_m rfl ?_
 refine rC (Calm.extract rfl rfl) ?_
 refine rC (Calm.extract rfl rfl) ?_
 refine ARun.alloc (lit_lt rfl) ty_zero_29 ?_
 intro b20 f20
 have g20:=f20
 repeat ((with_reducible replace g20:=fresh_set g20);obtain ⟨g20,_⟩:=g20)
 have:=g20.ne kb4;have:=g20.ne' kb4
 have:=g20.ne kb9;have:=g20.ne' kb9
 have:=g20.ne kb10;have:=g20.ne' kb10
 have:=g20.ne kb13;have:=g20.ne' kb13
 have:=g20.ne kb16;have:=g20.ne' kb16
 have:=g20.ne kb18;have:=g20.ne' kb18
 try simp only [k_l1,k_l0,k_za,Nat.reduceAdd]
 first|refine k_A rfl rfl ty_size_29 ?_|refine k_B rfl rfl ty_size_29 ?_
 try simp only [k_ms,k_sz,k_ss,k_za,Nat.reduceAdd]
 refine k_e rfl ?_
 refine k_u [(0,_),(1,_),(2,_),(3,_),(4,_),(8,_),(9,_),(10,_),(11,_),(12,_),(13,_),(14,_),(15,_),(16,_),(17,_),(18,_),(19,_),(20,_),(21,_)] ?_
 refine named (S:=S6) (b:=b20) g20.1 ?_
 intro T20 hT20 kb20
 replace hp:=hp.less hT20
 replace hl:=hl.less hT20
 replace kb4:=hT20.own kb4
 replace hg:=hg.less hT20
 replace kb9:=hT20.own kb9
 replace ha:=ha.less hT20
 replace hla:=hla.less hT20
 replace kb10:=hT20.own kb10
 replace hb:=hb.less hT20
 replace hlb:=hlb.less hT20
 replace kb13:=hT20.own kb13
 replace hc:=hc.less hT20
 replace kb16:=hT20.own kb16
 replace hd:=hd.less hT20
 replace kb18:=hT20.own kb18
 replace he:=he.less hT20
 refine k_a ?_
 refine k_9 ty_agg_29 ty_size_29 rfl ?_
 refine k_m rfl ?_
 refine ARun.call (lit_lt rfl) go_23 rfl (e3 _ _ hp) ?_
 rintro _ S7 ⟨v,rfl,hS7,hf'⟩
 obtain ⟨pf,qf,rf,sf,tf,uf,rfl,hEf,hWf,hFf⟩:=id hf'
 replace hp:=hp.less hS7
 replace hl:=hl.less hS7
 replace kb4:=hS7.own kb4
 replace hg:=hg.less hS7
 replace kb9:=hS7.own kb9
 replace ha:=ha.less hS7
 replace hla:=hla.less hS7
 replace kb10:=hS7.own kb10
 replace hb:=hb.less hS7
 replace hlb:=hlb.less hS7
 replace kb13:=hS7.own kb13
 replace hc:=hc.less hS7
 replace kb16:=hS7.own kb16
 replace hd:=hd.less hS7
 replace kb18:=hS7.own kb18
 replace he:=he.less hS7
 replace kb20:=hS7.own kb20
 refine k_m rfl ?_
 refine rC (Calm.extract rfl rfl) ?_
 refine rC (Calm.extract rfl rfl) ?_
 refine ARun.alloc (lit_lt rfl) ty_zero_29 ?_
 intro b22 f22
 have g22:=f22
 repeat ((with_reducible replace g22:=fresh_set g22);obtain ⟨g22,_⟩:=g22)
 have:=g22.ne kb4;have:=g22.ne' kb4
 have:=g22.ne kb9;have:=g22.ne' kb9
 have:=g22.ne kb10;have:=g22.ne' kb10
 have:=g22.ne kb13;have:=g22.ne' kb13
 have:=g22.ne kb16;have:=g22.ne' kb16
 have:=g22.ne kb18;have:=g22.ne' kb18
 have:=g22.ne kb20;have:=g22.ne' kb20
 try simp only [k_l1,k_l0,k_za,Nat.reduceAdd]
 first|refine k_A rfl rfl ty_size_29 ?_|refine k_B rfl rfl ty_size_29 ?_
 try simp only [k_ms,k_sz,k_ss,k_za,Nat.reduceAdd]
 refine k_e rfl ?_
 refine k_u [(0,_),(1,_),(2,_),(3,_),(4,_),(8,_),(9,_),(10,_),(11,_),(12,_),(13,_),(14,_),(15,_),(16,_),(17,_),(18,_),(19,_),(20,_),(21,_),(22,_),(23,_)] ?_
 refine named (S:=S7) (b:=b22) g22.1 ?_
 intro T22 hT22 kb22
 replace hp:=hp.less hT22
 replace hl:=hl.less hT22
 replace kb4:=hT22.own kb4
 replace hg:=hg.less hT22
 replace kb9:=hT22.own kb9
 replace ha:=ha.less hT22
 replace hla:=hla.less hT22
 replace kb10:=hT22.own kb10
 replace hb:=hb.less hT22
 replace hlb:=hlb.less hT22
 replace kb13:=hT22.own kb13
 replace hc:=hc.less hT22
 replace kb16:=hT22.own kb16
 replace hd:=hd.less hT22
 replace kb18:=hT22.own kb18
 replace he:=he.less hT22
 replace kb20:=hT22.own kb20
 replace hf':=hf'.less hT22
 refine k_a ?_
 refine k_9 ty_agg_29 ty_size_29 rfl ?_
 refine ARun.call (lit_lt rfl) go_24 rfl (c4 _ _ hg) ?_
 rintro _ S8 ⟨v,rfl,hS8,hi⟩
 obtain ⟨pi,qi,ri,si,ti,ui,rfl,hEi,hWi,hFi⟩:=id hi
 replace hp:=hp.less hS8
 replace hl:=hl.less hS8
 replace kb4:=hS8.own kb4
 replace hg:=hg.less hS8
 replace kb9:=hS8.own kb9
 replace ha:=ha.less hS8
 replace hla:=hla.less hS8
 replace kb10:=hS8.own kb10
 replace hb:=hb.less hS8
 replace hlb:=hlb.less hS8
 replace kb13:=hS8.own kb13
 replace hc:=hc.less hS8
 replace kb16:=hS8.own kb16
 replace hd:=hd.less hS8
 replace kb18:=hS8.own kb18
 replace he:=he.less hS8
 replace kb20:=hS8.own kb20
 replace hf':=hf'.less hS8
 replace kb22:=hS8.own kb22
 refine k_m rfl ?_
 refine rC (Calm.extract rfl rfl) ?_
 refine rC (Calm.extract rfl rfl) ?_
 refine ARun.alloc (lit_lt rfl) ty_zero_29 ?_
 intro b24 f24
 have g24:=f24
 repeat ((with_reducible replace g24:=fresh_set g24);obtain ⟨g24,_⟩:=g24)
 have:=g24.ne kb4;have:=g24.ne' kb4
 have:=g24.ne kb9;have:=g24.ne' kb9
 have:=g24.ne kb10;have:=g24.ne' kb10
 have:=g24.ne kb13;have:=g24.ne' kb13
 have:=g24.ne kb16;have:=g24.ne' kb16
 have:=g24.ne kb18;have:=g24.ne' kb18
 have:=g24.ne kb20;have:=g24.ne' kb20
 have:=g24.ne kb22;have:=g24.ne' kb22
 try simp only [k_l1,k_l0,k_za,Nat.reduceAdd]
 first|refine k_A rfl rfl ty_size_29 ?_|refine k_B rfl rfl ty_size_29 ?_
 try simp only [k_ms,k_sz,k_ss,k_za,Nat.reduceAdd]
 refine k_e rfl ?_
 refine k_u [(0,_),(1,_),(2,_),(3,_),(4,_),(8,_),(9,_),(10,_),(11,_),(12,_),(13,_),(14,_),(15,_),(16,_),(17,_),(18,_),(19,_),(20,_),(21,_),(22,_),(23,_),(24,_),(25,_)] ?_
 refine named (S:=S8) (b:=b24) g24.1 ?_
 intro T24 hT24 kb24
 replace hp:=hp.less hT24
 replace hl:=hl.less hT24
 replace kb4:=hT24.own kb4
 replace hg:=hg.less hT24
 replace kb9:=hT24.own kb9
 replace ha:=ha.less hT24
 replace hla:=hla.less hT24
 replace kb10:=hT24.own kb10
 replace hb:=hb.less hT24
 replace hlb:=hlb.less hT24
 replace kb13:=hT24.own kb13
 replace hc:=hc.less hT24
 replace kb16:=hT24.own kb16
 replace hd:=hd.less hT24
 replace kb18:=hT24.own kb18
 replace he:=he.less hT24
 replace kb20:=hT24.own kb20
 replace hf':=hf'.less hT24
 replace kb22:=hT24.own kb22
 replace hi:=hi.less hT24
 refine k_a ?_
 refine k_9 ty_agg_29 ty_size_29 rfl ?_
 refine ARun.call (lit_lt rfl) go_25 rfl (e4 _ _ hp) ?_
 rintro _ S9 ⟨v,rfl,hS9,hj⟩
 obtain ⟨pj,qj,rj,sj,tj,uj,rfl,hEj,hWj,hFj⟩:=id hj
 replace hp:=hp.less hS9
 replace hl:=hl.less hS9
 replace kb4:=hS9.own kb4
 replace hg:=hg.less hS9
 replace kb9:=hS9.own kb9
 replace ha:=ha.less hS9
 replace hla:=hla.less hS9
 replace kb10:=hS9.own kb10
 replace hb:=hb.less hS9
 replace hlb:=hlb.less hS9
 replace kb13:=hS9.own kb13
 replace hc:=hc.less hS9
 replace kb16:=hS9.own kb16
 replace hd:=hd.less hS9
 replace kb18:=hS9.own kb18
 replace he:=he.less hS9
 replace kb20:=hS9.own kb20
 replace hf':=hf'.less hS9
 replace kb22:=hS9.own kb22
 replace hi:=hi.less hS9
 replace kb24:=hS9.own kb24
 refine k_m rfl ?_
 refine rC (Calm.extract rfl rfl) ?_
 refine rC (Calm.extract rfl rfl) ?_
 refine ARun.alloc (lit_lt rfl) ty_zero_29 ?_
 intro b26 f26
 have g26:=f26
 repeat ((with_reducible replace g26:=fresh_set g26);obtain ⟨g26,_⟩:=g26)
 have:=g26.ne kb4;have:=g26.ne' kb4
 have:=g26.ne kb9;have:=g26.ne' kb9
 have:=g26.ne kb10;have:=g26.ne' kb10
 have:=g26.ne kb13;have:=g26.ne' kb13
 have:=g26.ne kb16;have:=g26.ne' kb16
 have:=g26.ne kb18;have:=g26.ne' kb18
 have:=g26.ne kb20;have:=g26.ne' kb20
 have:=g26.ne kb22;have:=g26.ne' kb22
 have:=g26.ne kb24;have:=g26.ne' kb24
 try simp only [k_l1,k_l0,k_za,Nat.reduceAdd]
 first|refine k_A rfl rfl ty_size_29 ?_|refine k_B rfl rfl ty_size_29 ?_
 try simp only [k_ms,k_sz,k_ss,k_za,Nat.reduceAdd]
 refine k_e rfl ?_
 refine k_u [(0,_),(1,_),(2,_),(3,_),(4,_),(8,_),(9,_),(10,_),(11,_),(12,_),(13,_),(14,_),(15,_),(16,_),(17,_),(18,_),(19,_),(20,_),(21,_),(22,_),(23,_),(24,_),(25,_),(26,_),(27,_)] ?_
 refine named (S:=S9) (b:=b26) g26.1 ?_
 intro T26 hT26 kb26
 replace hp:=hp.less hT26
 replace hl:=hl.less hT26
 replace kb4:=hT26.own kb4
 replace hg:=hg.less hT26
 replace kb9:=hT26.own kb9
 replace ha:=ha.less hT26
 replace hla:=hla.less hT26
 replace kb10:=hT26.own kb10
 replace hb:=hb.less hT26
 replace hlb:=hlb.less hT26
 replace kb13:=hT26.own kb13
 replace hc:=hc.less hT26
 replace kb16:=hT26.own kb16
 replace hd:=hd.less hT26
 replace kb18:=hT26.own kb18
 replace he:=he.less hT26
 replace kb20:=hT26.own kb20
 replace hf':=hf'.less hT26
 replace kb22:=hT26.own kb22
 replace hi:=hi.less hT26
 replace kb24:=hT26.own kb24
 replace hj:=hj.less hT26
 refine k_a ?_
 refine k_9 ty_agg_29 ty_size_29 rfl ?_
 refine ARun.call (lit_lt rfl) go_26 rfl (c5 _ _ hg) ?_
 rintro _ Sx ⟨rfl,h1⟩
 rw [h1];clear h1 Sx
 refine k_m rfl ?_
 refine rC (Calm.extract rfl rfl) ?_
 refine rC (Calm.extract rfl rfl) ?_
 refine rC (Calm.extract rfl rfl) ?_
 refine rC (Calm.extract rfl rfl) ?_
 refine k_s rfl (k_s rfl (k_s rfl (k_e rfl ?_)))
 refine k_u [(0,_),(1,_),(2,_),(3,_),(4,_),(8,_),(9,_),(10,_),(11,_),(12,_),(13,_),(14,_),(15,_),(16,_),(17,_),(18,_),(19,_),(20,_),(21,_),(22,_),(23,_),(24,_),(25,_),(26,_),(27,_),(28,_),(29,_),(30,_),(31,_)] ?_
 refine k_a ?_
 refine k_9 ty_agg_29 ty_size_29 rfl ?_
 refine ARun.call (lit_lt rfl) go_27 rfl (e5 _ _ hp) ?_
 rintro _ Sx ⟨rfl,h1⟩
 rw [h1];clear h1 Sx
 refine k_m rfl ?_
 refine rC (Calm.extract rfl rfl) ?_
 refine rC (Calm.extract rfl rfl) ?_
 refine rC (Calm.extract rfl rfl) ?_
 refine rC (Calm.extract rfl rfl) ?_
 refine k_s rfl (k_s rfl (k_s rfl (k_e rfl ?_)))
 refine k_u [(0,_),(1,_),(2,_),(3,_),(4,_),(8,_),(9,_),(10,_),(11,_),(12,_),(13,_),(14,_),(15,_),(16,_),(17,_),(18,_),(19,_),(20,_),(21,_),(22,_),(23,_),(24,_),(25,_),(26,_),(27,_),(28,_),(29,_),(30,_),(31,_),(32,_),(33,_),(34,_),(35,_)] ?_
 refine k_a ?_
 refine ARun.call (lit_lt rfl) go_14 rfl (pv_lives _) ?_
 rintro _ Sx ⟨rfl,h1⟩
 rw [h1];clear h1 Sx
 refine k_m rfl ?_
 first|refine k_q 101 ?_|refine rG 101 (ldA_ (cs:=[_,_,_,_,_,_,_,_,_]) ty_agg_29 ty_size_29 rfl) ?_
 first|refine k_q 101 ?_|refine rG 101 (ldA_ (cs:=[_,_,_,_,_,_,_,_,_]) ty_agg_29 ty_size_29 rfl) ?_
 refine ARun.callG 1 true 101 rfl (lit_lt rfl) rfl (lit_lt rfl) go_15 rfl (rp_Same _ _ u1.1 _ ha hb) ?_
 rintro _ Sx ⟨rfl,h1⟩
 rw [h1];clear h1 Sx
 first|refine k_t rfl rfl ?_|refine k_f rfl rfl ?_
 refine k_m rfl ?_
 first|refine k_q 106 ?_|refine rG 106 (Calm.move rfl) ?_
 first|refine k_q 106 ?_|refine rG 106 (Calm.move rfl) ?_
 refine ARun.callG 6 true 106 rfl (lit_lt rfl) rfl (lit_lt rfl) go_28 rfl (rp_SameNumbers _ _ u1.2.1 _ hla hlb) ?_
 rintro _ Sx ⟨rfl,h1⟩
 rw [h1];clear h1 Sx
 first|refine k_t rfl rfl ?_|refine k_f rfl rfl ?_
 refine k_m rfl ?_
 first|refine k_q 111 ?_|refine rG 111 (Calm.move rfl) ?_
 first|refine k_q 111 ?_|refine rG 111 (Calm.move rfl) ?_
 first|refine k_q 111 ?_|refine rG 111 (Calm.bin rfl rfl (bin_bool b_eql (decide_eq_true rfl))) ?_
 first|refine k_t rfl rfl ?_|refine k_f rfl rfl ?_
 refine k_m rfl ?_
 first|refine k_q 116 ?_|refine rG 116 (ldA_ (cs:=[_,_,_,_,_,_,_,_,_]) ty_agg_29 ty_size_29 rfl) ?_
 first|refine k_q 116 ?_|refine rG 116 (ldA_ (cs:=[_,_,_,_,_,_,_,_,_]) ty_agg_29 ty_size_29 rfl) ?_
 refine ARun.callG 16 true 116 rfl (lit_lt rfl) rfl (lit_lt rfl) go_15 rfl (rp_Same _ _ u2.1 _ hc hd) ?_
 rintro _ Sx ⟨rfl,h1⟩
 rw [h1];clear h1 Sx
 first|refine k_t rfl rfl ?_|refine k_f rfl rfl ?_
 refine k_m rfl ?_
 first|refine k_q 121 ?_|refine rG 121 (Calm.move rfl) ?_
 first|refine k_q 121 ?_|refine rG 121 (Calm.move rfl) ?_
 first|refine k_q 121 ?_|refine rG 121 (Calm.bin rfl rfl (bin_bool b_eql (decide_eq_true rfl))) ?_
 first|refine k_t rfl rfl ?_|refine k_f rfl rfl ?_
 refine k_m rfl ?_
 first|refine k_q 126 ?_|refine rG 126 (ldA_ (cs:=[_,_,_,_,_,_,_,_,_]) ty_agg_29 ty_size_29 rfl) ?_
 first|refine k_q 126 ?_|refine rG 126 (ldA_ (cs:=[_,_,_,_,_,_,_,_,_]) ty_agg_29 ty_size_29 rfl) ?_
 refine ARun.callG 26 true 126 rfl (lit_lt rfl) rfl (lit_lt rfl) go_15 rfl (rp_Same _ _ u3.1 _ he hf') ?_
 rintro _ Sx ⟨rfl,h1⟩
 rw [h1];clear h1 Sx
 first|refine k_t rfl rfl ?_|refine k_f rfl rfl ?_
 refine k_m rfl ?_
 first|refine k_q 131 ?_|refine rG 131 (Calm.move rfl) ?_
 first|refine k_q 131 ?_|refine rG 131 (Calm.move rfl) ?_
 first|refine k_q 131 ?_|refine rG 131 (Calm.bin rfl rfl (bin_bool b_eql (decide_eq_true rfl))) ?_
 first|refine k_t rfl rfl ?_|refine k_f rfl rfl ?_
 refine k_m rfl ?_
 first|refine k_q 136 ?_|refine rG 136 (ldA_ (cs:=[_,_,_,_,_,_,_,_,_]) ty_agg_29 ty_size_29 rfl) ?_
 first|refine k_q 136 ?_|refine rG 136 (ldA_ (cs:=[_,_,_,_,_,_,_,_,_]) ty_agg_29 ty_size_29 rfl) ?_
 refine ARun.callG 36 true 136 rfl (lit_lt rfl) rfl (lit_lt rfl) go_15 rfl (rp_Same _ _ u4.1 _ hi hj) ?_
 rintro _ Sx ⟨rfl,h1⟩
 rw [h1];clear h1 Sx
 first|refine k_t rfl rfl ?_|refine k_f rfl rfl ?_
 refine k_m rfl ?_
 first|refine k_q 141 ?_|refine rG 141 (Calm.move rfl) ?_
 first|refine k_q 141 ?_|refine rG 141 (Calm.move rfl) ?_
 first|refine k_q 141 ?_|refine rG 141 (Calm.bin rfl rfl (bin_bool b_eql (decide_eq_true rfl))) ?_
 first|refine k_t rfl rfl ?_|refine k_f rfl rfl ?_
 refine k_m rfl ?_
 first|refine k_q 146 ?_|refine rG 146 (Calm.move rfl) ?_
 first|refine k_q 146 ?_|refine rG 146 (Calm.move rfl) ?_
 first|refine k_q 146 ?_|refine rG 146 (Calm.bin rfl rfl (bin_bool b_eql (decide_eq_true rfl))) ?_
 first|refine k_t rfl rfl ?_|refine k_f rfl rfl ?_
 refine k_m rfl ?_
 first|refine k_q 151 ?_|refine rG 151 (Calm.move rfl) ?_
 first|refine k_q 151 ?_|refine rG 151 (Calm.move rfl) ?_
 first|refine k_q 151 ?_|refine rG 151 (Calm.bin rfl rfl (bin_bool b_eql (decide_eq_true rfl))) ?_
 first|refine k_t rfl rfl ?_|refine k_f rfl rfl ?_
 refine k_m rfl ?_
 first|refine k_q 156 ?_|refine rG 156 (Calm.move rfl) ?_
 first|refine k_q 156 ?_|refine rG 156 (Calm.move rfl) ?_
 first|refine k_q 156 ?_|refine rG 156 (Calm.bin rfl rfl (bin_bool b_eql (decide_eq_true rfl))) ?_
 first|refine k_t rfl rfl ?_|refine k_f rfl rfl ?_
 refine k_m rfl ?_
 first|refine k_q 161 ?_|refine rG 161 (Calm.move rfl) ?_
 first|refine k_q 161 ?_|refine rG 161 (Calm.move rfl) ?_
 first|refine k_q 161 ?_|refine rG 161 (Calm.bin rfl rfl (bin_bool b_eql (decide_eq_true rfl))) ?_
 first|refine k_t rfl rfl ?_|refine k_f rfl rfl ?_
 refine k_m rfl ?_
 first|refine k_q 166 ?_|refine rG 166 (ldA_ (cs:=[_,_,_,_,_,_,_,_,_]) ty_agg_29 ty_size_29 rfl) ?_
 first|refine k_q 166 ?_|refine rG 166 (ldA_ (cs:=[_,_,_,_,_,_,_,_,_]) ty_agg_29 ty_size_29 rfl) ?_
 refine ARun.callG 66 true 166 rfl (lit_lt rfl) rfl (lit_lt rfl) go_15 rfl (rp_Same _ _ p _ hg hp) ?_
 rintro _ Sx ⟨rfl,h1⟩
 rw [h1];clear h1 Sx
 first|refine k_t rfl rfl ?_|refine k_f rfl rfl ?_
 refine k_e rfl ?_
 refine k_u [(0,_),(1,_),(2,_),(3,_),(4,_),(8,_),(9,_),(10,_),(11,_),(12,_),(13,_),(14,_),(15,_),(16,_),(17,_),(18,_),(19,_),(20,_),(21,_),(22,_),(23,_),(24,_),(25,_),(26,_),(27,_),(28,_),(29,_),(30,_),(31,_),(32,_),(33,_),(34,_),(35,_)] ?_
 refine AWP.ret ?_
 refine ⟨_,_,⟨_,_,rfl,rfl,rfl⟩,less_,?_⟩
 rfl
theorem walk_PoolLeases (cs : List Value) (y : Pl) (a1 : Int) (b2 : Option Addr) (len2 cap2 : Nat) (zs2 : List Int) (a3 : ByteArray) (W : World) (h0 : PlV (roM W) cs y) (w1 : (Lit.int .i64 a1).wf = true)
  (w2:Sl 1 (fun x=>[Value.int .i64 x]) (roM W) (.slice b2 len2 cap2) zs2) (wb2:∀ x ∈ zs2,(Lit.int .i64 x).wf=true) (zl2:zs2.length≤17592186043904) (w3:a3.size≤maxLen) (z3:a3.size<140737488355328) :
  Calls Tryz.prog 4 #[.agg cs.toArray,.int .i64 a1,.slice b2 len2 cap2,.string a3] W fun e w'=>e = .returned (.bool true)∧Below W.heap.size W w' :=
 ACall.callsW (law_PoolLeases _ _ y a1 zs2 a3 _ h0.1 h0.2.1 h0.2.2 w2)
end Go.Proofs.YtkeiphkccnfhoaaGreat
