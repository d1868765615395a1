/-
  Texts that belong together: PR2, PR3, PR4, PR5, PR6, PR7.
-/
import Derived.Test.YtkeiphkccnfhoaaGreatBPq5
set_option linter.unusedVariables false
set_option linter.unusedSimpArgs false
set_option linter.unusedSectionVars false
namespace Go.Proofs.YtkeiphkccnfhoaaGreat
open Go.RowKit
open Mv Disk
set_option maxRecDepth 20000
theorem rp_holds (x : Fr) (S : Mem) : ACall Tryz.prog 55 #[frV x] S fun r S' => r = .bool (decide x.holds) ∧ S' = S := by
 have e:(!decide (x.name=ByteArray.empty))=decide x.holds:=by
  by_cases h:x.name=ByteArray.empty
  ·rw [decide_eq_true h,decide_eq_false (show ¬ x.holds from fun q=>q ((size0 _).1 h))];rfl
  ·rw [decide_eq_false h,decide_eq_true (show x.holds from fun q=>h ((size0 _).2 q))];rfl
 unfold frV
 refine ACall.enter (rs:=[.tmp 2]) 6 [(0,.agg #[.string x.name,.int .i64 x.sector,.string x.data,.int .i64 x.pins,.bool x.dirty,.int .u64 x.tick,.bool x.leased])] Tryz.func55 rfl rfl (Nat.le_of_ble_eq_true rfl) rfl ⟨rfl,trivial⟩ ?_
 refine k_a ?_
 refine k_b7 rfl ?_
 intro b1 f1
 have g1:=f1
 repeat ((with_reducible replace g1:=fresh_set g1);obtain ⟨g1,_⟩:=g1)
 try simp only [k_l1,k_l0,k_za,Nat.reduceAdd]
 refine k_e rfl (k_a ?_)
 refine rC (Calm.fieldAddr ty_field_62_0 rfl) ?_
 refine rC (ld_ ty_plain_9 rfl) ?_
 refine rC (Calm.bin rfl rfl (bin_bool (bin_str_neq _ _) e)) ?_
 refine k_e rfl ?_
 refine k_u [(0,_),(1,_),(2,_)] ?_
 refine AWP.ret ?_
 refine ⟨_,S,⟨_,_,rfl,rfl,rfl⟩,less_,?_⟩
 exact ⟨rfl,rfl⟩
theorem rp_up (d : D) (a b : Value) (ha : a.cells = #[a]) (hb : b.cells = #[b]) (h1 : a.oneCell' = true) (h2 : b.oneCell' = true) (pe pw : Option Addr) (ne ce nw cw : Nat) (ea : a = .slice pe ne ce) (eb : b = .slice pw nw cw) (S : Mem) : ACall Tryz.prog 82 #[.agg #[.int .i64 d.size, a, b, .int .i64 d.fuse, .bool d.down]] S fun r S' => r = .agg #[.int .i64 d.size, a, b, .int .i64 d.fuse, .bool false] ∧ S' = S := by
 subst ea eb
 refine ACall.enter (rs:=[.cell 2 25]) 5 [(0,.agg #[.int .i64 d.size,.slice pe ne ce,.slice pw nw cw,.int .i64 d.fuse,.bool d.down])] Tryz.func82 rfl rfl (Nat.le_of_ble_eq_true rfl) rfl ⟨rfl,trivial⟩ ?_
 refine k_a ?_
 refine k_b5 rfl ?_
 intro b1 f1
 have g1:=f1
 repeat ((with_reducible replace g1:=fresh_set g1);obtain ⟨g1,_⟩:=g1)
 try simp only [k_l1,k_l0,k_za,Nat.reduceAdd]
 refine ARun.alloc (lit_lt rfl) ty_zero_25 ?_
 intro b2 f2
 have g2:=f2
 repeat ((with_reducible replace g2:=fresh_set g2);obtain ⟨g2,_⟩:=g2)
 try simp only [k_l1,k_l0,k_za,Nat.reduceAdd]
 refine k_n (k_a ?_)
 refine rC (Calm.fieldAddr ty_field_25_4 rfl) ?_
 refine ARun.store1 rfl rfl ty_size_4 rfl own_ lens_ rfl ?_
 try simp only [k_ms,k_sz,k_ss,k_za,Nat.reduceAdd]
 refine k_n ?_
 refine k_u [(0,_),(1,_),(2,_)] ?_
 refine k_a ?_
 refine k_5 ty_agg_25 ty_size_25 rfl ?_
 first|refine k_A rfl rfl ty_size_25 ?_|refine k_B rfl rfl ty_size_25 ?_
 try simp only [k_ms,k_sz,k_ss,k_za,Nat.reduceAdd]
 refine k_n ?_
 refine k_u [(0,_),(1,_),(2,_)] ?_
 refine AWP.ret ?_
 refine ⟨_,S,⟨_,_,_,rfl,.inr ⟨ty_agg_25,[_,_,_,_,_],ty_size_25,rds_,rfl⟩,rfl,rfl⟩,less_,?_⟩
 exact ⟨rfl,rfl⟩
theorem readO_up {d : D} (hR : Right d) (s : ByteArray) (k : Int) : readO { d with down := false } s k = readD d s k := by
 unfold readO
 rw [open_ok (show Right { d with down:=false } from right_fuse hR hR.fu false) rfl,if_neg (by simp)]
 rfl
theorem dz_up {d : D} (hz : Dz d) : Dz { d with down := false } := ⟨hz.s0, hz.s1, hz.f0, hz.f1, hz.el, hz.wl, hz.ez, hz.wz⟩
set_option maxHeartbeats 8000000 in
theorem rp_frame (d : D) (pe pw pf : Option Addr) (ce cw cf nf : Nat) (x : Fr) (tick reads writes : Int) (S : Mem) (hE : Sl 2 extF S (.slice pe d.ext.length ce) d.ext) (hW : Sl 3 wrF S (.slice pw d.waits.length cw) d.waits) (hR : Right d) (hz : Dz d) :
  ACall Tryz.prog 54 #[.agg #[.int .i64 d.size,.slice pe d.ext.length ce,.slice pw d.waits.length cw,.int .i64 d.fuse,.bool d.down,.slice pf nf cf,.int .u64 tick,.int .u64 reads,.int .u64 writes],frV x] S fun r S'=>r = .bool (decide (Sound d x tick))∧S'=S:=by
 have ch:=fun S=>rp_holds x S
 have cu:=fun S=>rp_up d (.slice pe d.ext.length ce) (.slice pw d.waits.length cw) rfl rfl rfl rfl pe pw _ ce _ cw rfl rfl S
 have cr:∀ M,S.Less M→ACall Tryz.prog 36 #[.agg #[.int .i64 d.size,.slice pe d.ext.length ce,.slice pw d.waits.length cw,.int .i64 d.fuse,.bool false],.string x.name,.int .i64 x.sector] M fun r S'=>r = .tuple #[.string (readD d x.name x.sector).1,.int .i64 (readD d x.name x.sector).2]∧S'=M:=fun M hl=>by
  have:=rd_Read (.agg #[.int .i64 d.size,.slice pe d.ext.length ce,.slice pw d.waits.length cw,.int .i64 d.fuse,.bool false]) { d with down:=false } x.name x.sector M ⟨pe,ce,pw,cw,rfl,hE.less hl,hW.less hl⟩ (dz_up hz)
  rw [readO_up hR] at this;exact this
 unfold frV at *
 by_cases q1:x.holds
 ·rw [decide_eq_true q1] at ch
  have hno:=fun h=>sound_no (d:=d) (x:=x) (tick:=tick) q1 h
  have hyes:decide (Sound d x tick)=decide ((readD d x.name x.sector).2=0∧x.leased=false∧x.data.size=64∧0≤x.pins∧x.pins≤256∧1≤x.tick∧x.tick≤tick∧(x.dirty=true∨x.data=(readD d x.name x.sector).1)):=by unfold Sound;simp [q1]
  generalize readD d x.name x.sector=u at *
  by_cases c0:u.2=0
  ·skip
   by_cases c1:x.leased=false
   ·skip
    by_cases c2:x.data.size=64
    ·skip
     by_cases c3:0≤x.pins
     ·skip
      by_cases c4:x.pins≤256
      ·skip
       by_cases c5:1≤x.tick
       ·skip
        by_cases c6:x.tick≤tick
        ·skip
         by_cases c7:x.dirty=true
         ·rw [hyes,decide_eq_true ⟨c0,c1,c2,c3,c4,c5,c6,.inl c7⟩]
          refine ACall.enter (rs:=[.tmp 4]) 71 [(0,.agg #[.int .i64 d.size,.slice pe d.ext.length ce,.slice pw d.waits.length cw,.int .i64 d.fuse,.bool d.down,.slice pf nf cf,.int .u64 tick,.int .u64 reads,.int .u64 writes]),(1,.agg #[.string x.name,.int .i64 x.sector,.string x.data,.int .i64 x.pins,.bool x.dirty,.int .u64 x.tick,.bool x.leased])] Tryz.func54 rfl rfl (Nat.le_of_ble_eq_true rfl) rfl ⟨rfl,rfl,trivial⟩ ?_
          refine k_a ?_
          refine k_b9 rfl ?_
          intro b2 f2
          have g2:=f2
          repeat ((with_reducible replace g2:=fresh_set g2);obtain ⟨g2,_⟩:=g2)
          try simp only [k_l1,k_l0,k_za,Nat.reduceAdd]
          refine k_b7 rfl ?_
          intro b3 f3
          have g3:=f3
          repeat ((with_reducible replace g3:=fresh_set g3);obtain ⟨g3,_⟩:=g3)
          try simp only [k_l1,k_l0,k_za,Nat.reduceAdd]
          refine k_e rfl (AWP.seq (k_a ?_))
          refine k_7 ty_agg_62 ty_size_62 rfl ?_
          refine ARun.call (lit_lt rfl) go_55 rfl (ch _) ?_
          rintro _ S1 ⟨rfl,h1⟩
          rw [h1];clear h1 S1
          refine rC (Calm.un rfl (una_not _)) ?_
          refine k_n ?_
          refine k_u [(0,_),(1,_),(2,_),(3,_),(4,_),(9,_)] ?_
          refine k_F rfl ?_
          refine k_k (AWP.seq ?_)
          refine AWP.draw [(0,true),(1,true),(3,true),(4,true),(5,true),(6,true),(2,false),(7,false),(8,true),(9,true),(10,true),(11,true),(12,true)] [] mixed (by kernel_rfl) ?_
          refine dP (hc:=fun _=>Calm.fieldAddr ty_field_29_0 rfl) (h:=?_)
          refine dC (hc:=ldA_ (cs:=[_,_,_,_,_]) ty_agg_25 ty_size_25 rfl) (h:=?_)
          refine dP (hc:=fun _=>Calm.fieldAddr ty_field_62_0 rfl) (h:=?_)
          refine dC (hc:=ld_ ty_plain_9 rfl) (h:=?_)
          refine dP (hc:=fun _=>Calm.fieldAddr ty_field_62_1 rfl) (h:=?_)
          refine dC (hc:=ld_ ty_plain_3 rfl) (h:=?_)
          refine draw_only rfl ?_
          refine ARun.call (lit_lt rfl) go_82 rfl (cu _) ?_
          rintro _ S1 ⟨rfl,h1⟩
          rw [h1];clear h1 S1
          refine arun_nil ⟨fun _=>less_,?_⟩
          refine draw_only rfl ?_
          refine ARun.call (lit_lt rfl) go_36 rfl (cr _ less_) ?_
          rintro _ S1 ⟨rfl,h1⟩
          rw [h1];clear h1 S1
          refine arun_nil ⟨fun _=>less_,?_⟩
          refine dP (hc:=fun _=>Calm.move rfl) (h:=?_)
          refine dP (hc:=fun _=>Calm.extract rfl rfl) (h:=?_)
          refine dP (hc:=fun _=>Calm.extract rfl rfl) (h:=?_)
          refine dP (hc:=fun _=>Calm.assign rfl) (h:=?_)
          refine dP (hc:=fun _=>Calm.assign rfl) (h:=?_)
          refine draw_nil ?_
          refine athen_n ?_
          refine k_u [(0,_),(1,_),(2,_),(3,_),(4,_),(9,_),(5,_),(6,_)] ?_
          refine AWP.seq (k_a (k_m rfl ?_))
          refine rC (Calm.bin rfl rfl (bin_bool (bin_neq _ _) (bnot_dec_false c0))) ?_
          refine k_m rfl ?_
          first|refine k_q 31 ?_|refine rG 31 (Calm.fieldAddr ty_field_62_6 rfl) ?_
          first|refine k_q 31 ?_|refine rG 31 (Calm.as (congrArg Value.bool c1) (ld_ ty_plain_4 rfl)) ?_
          first|refine k_t rfl rfl ?_|refine k_f rfl rfl ?_
          refine k_m rfl ?_
          first|refine k_q 35 ?_|refine rG 35 (Calm.fieldAddr ty_field_62_2 rfl) ?_
          first|refine k_q 35 ?_|refine rG 35 (ld_ ty_plain_9 rfl) ?_
          first|refine k_q 35 ?_|refine rG 35 (Calm.lenStr (strT_spec ty_str_9) rfl) ?_
          first|refine k_q 35 ?_|refine rG 35 (Calm.bin rfl rfl (bin_bool (bin_neq _ _) (bnot_dec_false (by omega)))) ?_
          first|refine k_t rfl rfl ?_|refine k_f rfl rfl ?_
          refine k_m rfl ?_
          first|refine k_q 41 ?_|refine rG 41 (Calm.fieldAddr ty_field_62_3 rfl) ?_
          first|refine k_q 41 ?_|refine rG 41 (ld_ ty_plain_3 rfl) ?_
          first|refine k_q 41 ?_|refine rG 41 (Calm.bin rfl rfl (bin_bool (bin_lss _ _) (decide_eq_false (by omega)))) ?_
          first|refine k_t rfl rfl ?_|refine k_f rfl rfl ?_
          refine k_m rfl ?_
          first|refine k_q 46 ?_|refine rG 46 (Calm.fieldAddr ty_field_62_3 rfl) ?_
          first|refine k_q 46 ?_|refine rG 46 (ld_ ty_plain_3 rfl) ?_
          first|refine k_q 46 ?_|refine rG 46 (Calm.bin rfl rfl (bin_bool (bin_gtr _ _) (decide_eq_false (by omega)))) ?_
          first|refine k_t rfl rfl ?_|refine k_f rfl rfl ?_
          refine k_m rfl ?_
          first|refine k_q 51 ?_|refine rG 51 (Calm.fieldAddr ty_field_62_5 rfl) ?_
          first|refine k_q 51 ?_|refine rG 51 (ld_ ty_plain_27 rfl) ?_
          first|refine k_q 51 ?_|refine rG 51 (Calm.bin rfl rfl (bin_bool (bin_lss _ _) (decide_eq_false (by omega)))) ?_
          first|refine k_t rfl rfl ?_|refine k_f rfl rfl ?_
          refine k_m rfl ?_
          first|refine k_q 56 ?_|refine rG 56 (Calm.fieldAddr ty_field_62_5 rfl) ?_
          first|refine k_q 56 ?_|refine rG 56 (ld_ ty_plain_27 rfl) ?_
          first|refine k_q 56 ?_|refine rG 56 (Calm.fieldAddr ty_field_29_2 rfl) ?_
          first|refine k_q 56 ?_|refine rG 56 (ld_ ty_plain_27 rfl) ?_
          first|refine k_q 56 ?_|refine rG 56 (Calm.bin rfl rfl (bin_bool (bin_gtr _ _) (decide_eq_false (by omega)))) ?_
          first|refine k_t rfl rfl ?_|refine k_f rfl rfl ?_
          refine k_n ?_
          refine k_u [(0,_),(1,_),(2,_),(3,_),(4,_),(9,_),(5,_),(6,_),(62,_)] ?_
          refine k_F rfl ?_
          refine k_k (k_a ?_)
          refine rC (Calm.fieldAddr ty_field_62_4 rfl) ?_
          refine rC (Calm.as (congrArg Value.bool c7) (ld_ ty_plain_4 rfl)) ?_
          refine k_m rfl ?_
          first|refine k_q 65 ?_|refine rG 65 (Calm.fieldAddr ty_field_62_2 rfl) ?_
          first|refine k_q 65 ?_|refine rG 65 (ld_ ty_plain_9 rfl) ?_
          first|refine k_q 65 ?_|refine rG 65 (Calm.move rfl) ?_
          first|refine k_q 65 ?_|refine rG 65 (Calm.bin rfl rfl (bin_str_eql _ _)) ?_
          first|refine k_t rfl rfl ?_|refine k_f rfl rfl ?_
          refine k_e rfl ?_
          refine k_u [(0,_),(1,_),(2,_),(3,_),(4,_),(9,_),(5,_),(6,_),(62,_)] ?_
          refine AWP.ret ?_
          refine ⟨_,S,⟨_,_,rfl,rfl,rfl⟩,less_,?_⟩
          exact ⟨rfl,rfl⟩
         ·have c7':x.dirty=false:=by simpa using c7
          have hfin:decide (Sound d x tick)=decide (x.data=u.1):=by rw [hyes];simp [c0,c1,c2,c3,c4,c5,c6,c7']
          rw [hfin]
          refine ACall.enter (rs:=[.tmp 4]) 71 [(0,.agg #[.int .i64 d.size,.slice pe d.ext.length ce,.slice pw d.waits.length cw,.int .i64 d.fuse,.bool d.down,.slice pf nf cf,.int .u64 tick,.int .u64 reads,.int .u64 writes]),(1,.agg #[.string x.name,.int .i64 x.sector,.string x.data,.int .i64 x.pins,.bool x.dirty,.int .u64 x.tick,.bool x.leased])] Tryz.func54 rfl rfl (Nat.le_of_ble_eq_true rfl) rfl ⟨rfl,rfl,trivial⟩ ?_
          refine k_a ?_
          refine k_b9 rfl ?_
          intro b2 f2
          have g2:=f2
          repeat ((with_reducible replace g2:=fresh_set g2);obtain ⟨g2,_⟩:=g2)
          try simp only [k_l1,k_l0,k_za,Nat.reduceAdd]
          refine k_b7 rfl ?_
          intro b3 f3
          have g3:=f3
          repeat ((with_reducible replace g3:=fresh_set g3);obtain ⟨g3,_⟩:=g3)
          try simp only [k_l1,k_l0,k_za,Nat.reduceAdd]
          refine k_e rfl (AWP.seq (k_a ?_))
          refine k_7 ty_agg_62 ty_size_62 rfl ?_
          refine ARun.call (lit_lt rfl) go_55 rfl (ch _) ?_
          rintro _ S1 ⟨rfl,h1⟩
          rw [h1];clear h1 S1
          refine rC (Calm.un rfl (una_not _)) ?_
          refine k_n ?_
          refine k_u [(0,_),(1,_),(2,_),(3,_),(4,_),(9,_)] ?_
          refine k_F rfl ?_
          refine k_k (AWP.seq ?_)
          refine AWP.draw [(0,true),(1,true),(3,true),(4,true),(5,true),(6,true),(2,false),(7,false),(8,true),(9,true),(10,true),(11,true),(12,true)] [] mixed (by kernel_rfl) ?_
          refine dP (hc:=fun _=>Calm.fieldAddr ty_field_29_0 rfl) (h:=?_)
          refine dC (hc:=ldA_ (cs:=[_,_,_,_,_]) ty_agg_25 ty_size_25 rfl) (h:=?_)
          refine dP (hc:=fun _=>Calm.fieldAddr ty_field_62_0 rfl) (h:=?_)
          refine dC (hc:=ld_ ty_plain_9 rfl) (h:=?_)
          refine dP (hc:=fun _=>Calm.fieldAddr ty_field_62_1 rfl) (h:=?_)
          refine dC (hc:=ld_ ty_plain_3 rfl) (h:=?_)
          refine draw_only rfl ?_
          refine ARun.call (lit_lt rfl) go_82 rfl (cu _) ?_
          rintro _ S1 ⟨rfl,h1⟩
          rw [h1];clear h1 S1
          refine arun_nil ⟨fun _=>less_,?_⟩
          refine draw_only rfl ?_
          refine ARun.call (lit_lt rfl) go_36 rfl (cr _ less_) ?_
          rintro _ S1 ⟨rfl,h1⟩
          rw [h1];clear h1 S1
          refine arun_nil ⟨fun _=>less_,?_⟩
          refine dP (hc:=fun _=>Calm.move rfl) (h:=?_)
          refine dP (hc:=fun _=>Calm.extract rfl rfl) (h:=?_)
          refine dP (hc:=fun _=>Calm.extract rfl rfl) (h:=?_)
          refine dP (hc:=fun _=>Calm.assign rfl) (h:=?_)
          refine dP (hc:=fun _=>Calm.assign rfl) (h:=?_)
          refine draw_nil ?_
          refine athen_n ?_
          refine k_u [(0,_),(1,_),(2,_),(3,_),(4,_),(9,_),(5,_),(6,_)] ?_
          refine AWP.seq (k_a (k_m rfl ?_))
          refine rC (Calm.bin rfl rfl (bin_bool (bin_neq _ _) (bnot_dec_false c0))) ?_
          refine k_m rfl ?_
          first|refine k_q 31 ?_|refine rG 31 (Calm.fieldAddr ty_field_62_6 rfl) ?_
          first|refine k_q 31 ?_|refine rG 31 (Calm.as (congrArg Value.bool c1) (ld_ ty_plain_4 rfl)) ?_
          first|refine k_t rfl rfl ?_|refine k_f rfl rfl ?_
          refine k_m rfl ?_
          first|refine k_q 35 ?_|refine rG 35 (Calm.fieldAddr ty_field_62_2 rfl) ?_
          first|refine k_q 35 ?_|refine rG 35 (ld_ ty_plain_9 rfl) ?_
          first|refine k_q 35 ?_|refine rG 35 (Calm.lenStr (strT_spec ty_str_9) rfl) ?_
          first|refine k_q 35 ?_|refine rG 35 (Calm.bin rfl rfl (bin_bool (bin_neq _ _) (bnot_dec_false (by omega)))) ?_
          first|refine k_t rfl rfl ?_|refine k_f rfl rfl ?_
          refine k_m rfl ?_
          first|refine k_q 41 ?_|refine rG 41 (Calm.fieldAddr ty_field_62_3 rfl) ?_
          first|refine k_q 41 ?_|refine rG 41 (ld_ ty_plain_3 rfl) ?_
          first|refine k_q 41 ?_|refine rG 41 (Calm.bin rfl rfl (bin_bool (bin_lss _ _) (decide_eq_false (by omega)))) ?_
          first|refine k_t rfl rfl ?_|refine k_f rfl rfl ?_
          refine k_m rfl ?_
          first|refine k_q 46 ?_|refine rG 46 (Calm.fieldAddr ty_field_62_3 rfl) ?_
          first|refine k_q 46 ?_|refine rG 46 (ld_ ty_plain_3 rfl) ?_
          first|refine k_q 46 ?_|refine rG 46 (Calm.bin rfl rfl (bin_bool (bin_gtr _ _) (decide_eq_false (by omega)))) ?_
          first|refine k_t rfl rfl ?_|refine k_f rfl rfl ?_
          refine k_m rfl ?_
          first|refine k_q 51 ?_|refine rG 51 (Calm.fieldAddr ty_field_62_5 rfl) ?_
          first|refine k_q 51 ?_|refine rG 51 (ld_ ty_plain_27 rfl) ?_
          first|refine k_q 51 ?_|refine rG 51 (Calm.bin rfl rfl (bin_bool (bin_lss _ _) (decide_eq_false (by omega)))) ?_
          first|refine k_t rfl rfl ?_|refine k_f rfl rfl ?_
          refine k_m rfl ?_
          first|refine k_q 56 ?_|refine rG 56 (Calm.fieldAddr ty_field_62_5 rfl) ?_
          first|refine k_q 56 ?_|refine rG 56 (ld_ ty_plain_27 rfl) ?_
          first|refine k_q 56 ?_|refine rG 56 (Calm.fieldAddr ty_field_29_2 rfl) ?_
          first|refine k_q 56 ?_|refine rG 56 (ld_ ty_plain_27 rfl) ?_
          first|refine k_q 56 ?_|refine rG 56 (Calm.bin rfl rfl (bin_bool (bin_gtr _ _) (decide_eq_false (by omega)))) ?_
          first|refine k_t rfl rfl ?_|refine k_f rfl rfl ?_
          refine k_n ?_
          refine k_u [(0,_),(1,_),(2,_),(3,_),(4,_),(9,_),(5,_),(6,_),(62,_)] ?_
          refine k_F rfl ?_
          refine k_k (k_a ?_)
          refine rC (Calm.fieldAddr ty_field_62_4 rfl) ?_
          refine rC (Calm.as (congrArg Value.bool c7') (ld_ ty_plain_4 rfl)) ?_
          refine k_m rfl ?_
          first|refine k_q 65 ?_|refine rG 65 (Calm.fieldAddr ty_field_62_2 rfl) ?_
          first|refine k_q 65 ?_|refine rG 65 (ld_ ty_plain_9 rfl) ?_
          first|refine k_q 65 ?_|refine rG 65 (Calm.move rfl) ?_
          first|refine k_q 65 ?_|refine rG 65 (Calm.bin rfl rfl (bin_bool (bin_str_eql _ _) rfl)) ?_
          first|refine k_t rfl rfl ?_|refine k_f rfl rfl ?_
          refine k_e rfl ?_
          refine k_u [(0,_),(1,_),(2,_),(3,_),(4,_),(9,_),(5,_),(6,_),(62,_)] ?_
          refine AWP.ret ?_
          refine ⟨_,S,⟨_,_,rfl,rfl,rfl⟩,less_,?_⟩
          exact ⟨rfl,rfl⟩
        ·rw [hno (fun h=>c6 h.2.2.2.2.2.2.1)]
         refine ACall.enter (rs:=[.tmp 4]) 71 [(0,.agg #[.int .i64 d.size,.slice pe d.ext.length ce,.slice pw d.waits.length cw,.int .i64 d.fuse,.bool d.down,.slice pf nf cf,.int .u64 tick,.int .u64 reads,.int .u64 writes]),(1,.agg #[.string x.name,.int .i64 x.sector,.string x.data,.int .i64 x.pins,.bool x.dirty,.int .u64 x.tick,.bool x.leased])] Tryz.func54 rfl rfl (Nat.le_of_ble_eq_true rfl) rfl ⟨rfl,rfl,trivial⟩ ?_
         refine k_a ?_
         refine k_b9 rfl ?_
         intro b2 f2
         have g2:=f2
         repeat ((with_reducible replace g2:=fresh_set g2);obtain ⟨g2,_⟩:=g2)
         try simp only [k_l1,k_l0,k_za,Nat.reduceAdd]
         refine k_b7 rfl ?_
         intro b3 f3
         have g3:=f3
         repeat ((with_reducible replace g3:=fresh_set g3);obtain ⟨g3,_⟩:=g3)
         try simp only [k_l1,k_l0,k_za,Nat.reduceAdd]
         refine k_e rfl (AWP.seq (k_a ?_))
         refine k_7 ty_agg_62 ty_size_62 rfl ?_
         refine ARun.call (lit_lt rfl) go_55 rfl (ch _) ?_
         rintro _ S1 ⟨rfl,h1⟩
         rw [h1];clear h1 S1
         refine rC (Calm.un rfl (una_not _)) ?_
         refine k_n ?_
         refine k_u [(0,_),(1,_),(2,_),(3,_),(4,_),(9,_)] ?_
         refine k_F rfl ?_
         refine k_k (AWP.seq ?_)
         refine AWP.draw [(0,true),(1,true),(3,true),(4,true),(5,true),(6,true),(2,false),(7,false),(8,true),(9,true),(10,true),(11,true),(12,true)] [] mixed (by kernel_rfl) ?_
         refine dP (hc:=fun _=>Calm.fieldAddr ty_field_29_0 rfl) (h:=?_)
         refine dC (hc:=ldA_ (cs:=[_,_,_,_,_]) ty_agg_25 ty_size_25 rfl) (h:=?_)
         refine dP (hc:=fun _=>Calm.fieldAddr ty_field_62_0 rfl) (h:=?_)
         refine dC (hc:=ld_ ty_plain_9 rfl) (h:=?_)
         refine dP (hc:=fun _=>Calm.fieldAddr ty_field_62_1 rfl) (h:=?_)
         refine dC (hc:=ld_ ty_plain_3 rfl) (h:=?_)
         refine draw_only rfl ?_
         refine ARun.call (lit_lt rfl) go_82 rfl (cu _) ?_
         rintro _ S1 ⟨rfl,h1⟩
         rw [h1];clear h1 S1
         refine arun_nil ⟨fun _=>less_,?_⟩
         refine draw_only rfl ?_
         refine ARun.call (lit_lt rfl) go_36 rfl (cr _ less_) ?_
         rintro _ S1 ⟨rfl,h1⟩
         rw [h1];clear h1 S1
         refine arun_nil ⟨fun _=>less_,?_⟩
         refine dP (hc:=fun _=>Calm.move rfl) (h:=?_)
         refine dP (hc:=fun _=>Calm.extract rfl rfl) (h:=?_)
         refine dP (hc:=fun _=>Calm.extract rfl rfl) (h:=?_)
         refine dP (hc:=fun _=>Calm.assign rfl) (h:=?_)
         refine dP (hc:=fun _=>Calm.assign rfl) (h:=?_)
         refine draw_nil ?_
         refine athen_n ?_
         refine k_u [(0,_),(1,_),(2,_),(3,_),(4,_),(9,_),(5,_),(6,_)] ?_
         refine AWP.seq (k_a (k_m rfl ?_))
         refine rC (Calm.bin rfl rfl (bin_bool (bin_neq _ _) (bnot_dec_false c0))) ?_
         refine k_m rfl ?_
         first|refine k_q 31 ?_|refine rG 31 (Calm.fieldAddr ty_field_62_6 rfl) ?_
         first|refine k_q 31 ?_|refine rG 31 (Calm.as (congrArg Value.bool c1) (ld_ ty_plain_4 rfl)) ?_
         first|refine k_t rfl rfl ?_|refine k_f rfl rfl ?_
         refine k_m rfl ?_
         first|refine k_q 35 ?_|refine rG 35 (Calm.fieldAddr ty_field_62_2 rfl) ?_
         first|refine k_q 35 ?_|refine rG 35 (ld_ ty_plain_9 rfl) ?_
         first|refine k_q 35 ?_|refine rG 35 (Calm.lenStr (strT_spec ty_str_9) rfl) ?_
         first|refine k_q 35 ?_|refine rG 35 (Calm.bin rfl rfl (bin_bool (bin_neq _ _) (bnot_dec_false (by omega)))) ?_
         first|refine k_t rfl rfl ?_|refine k_f rfl rfl ?_
         refine k_m rfl ?_
         first|refine k_q 41 ?_|refine rG 41 (Calm.fieldAddr ty_field_62_3 rfl) ?_
         first|refine k_q 41 ?_|refine rG 41 (ld_ ty_plain_3 rfl) ?_
         first|refine k_q 41 ?_|refine rG 41 (Calm.bin rfl rfl (bin_bool (bin_lss _ _) (decide_eq_false (by omega)))) ?_
         first|refine k_t rfl rfl ?_|refine k_f rfl rfl ?_
         refine k_m rfl ?_
         first|refine k_q 46 ?_|refine rG 46 (Calm.fieldAddr ty_field_62_3 rfl) ?_
         first|refine k_q 46 ?_|refine rG 46 (ld_ ty_plain_3 rfl) ?_
         first|refine k_q 46 ?_|refine rG 46 (Calm.bin rfl rfl (bin_bool (bin_gtr _ _) (decide_eq_false (by omega)))) ?_
         first|refine k_t rfl rfl ?_|refine k_f rfl rfl ?_
         refine k_m rfl ?_
         first|refine k_q 51 ?_|refine rG 51 (Calm.fieldAddr ty_field_62_5 rfl) ?_
         first|refine k_q 51 ?_|refine rG 51 (ld_ ty_plain_27 rfl) ?_
         first|refine k_q 51 ?_|refine rG 51 (Calm.bin rfl rfl (bin_bool (bin_lss _ _) (decide_eq_false (by omega)))) ?_
         first|refine k_t rfl rfl ?_|refine k_f rfl rfl ?_
         refine k_m rfl ?_
         first|refine k_q 56 ?_|refine rG 56 (Calm.fieldAddr ty_field_62_5 rfl) ?_
         first|refine k_q 56 ?_|refine rG 56 (ld_ ty_plain_27 rfl) ?_
         first|refine k_q 56 ?_|refine rG 56 (Calm.fieldAddr ty_field_29_2 rfl) ?_
         first|refine k_q 56 ?_|refine rG 56 (ld_ ty_plain_27 rfl) ?_
         first|refine k_q 56 ?_|refine rG 56 (Calm.bin rfl rfl (bin_bool (bin_gtr _ _) (decide_eq_true (by omega)))) ?_
         first|refine k_t rfl rfl ?_|refine k_f rfl rfl ?_
         refine k_n ?_
         refine k_u [(0,_),(1,_),(2,_),(3,_),(4,_),(9,_),(5,_),(6,_),(62,_)] ?_
         refine k_T rfl ?_
         refine k_a (k_e rfl ?_)
         refine k_r ?_
         refine ⟨_,S,⟨_,_,rfl,rfl,rfl⟩,less_,?_⟩
         exact ⟨rfl,rfl⟩
       ·rw [hno (fun h=>c5 h.2.2.2.2.2.1)]
        refine ACall.enter (rs:=[.tmp 4]) 71 [(0,.agg #[.int .i64 d.size,.slice pe d.ext.length ce,.slice pw d.waits.length cw,.int .i64 d.fuse,.bool d.down,.slice pf nf cf,.int .u64 tick,.int .u64 reads,.int .u64 writes]),(1,.agg #[.string x.name,.int .i64 x.sector,.string x.data,.int .i64 x.pins,.bool x.dirty,.int .u64 x.tick,.bool x.leased])] Tryz.func54 rfl rfl (Nat.le_of_ble_eq_true rfl) rfl ⟨rfl,rfl,trivial⟩ ?_
        refine k_a ?_
        refine k_b9 rfl ?_
        intro b2 f2
        have g2:=f2
        repeat ((with_reducible replace g2:=fresh_set g2);obtain ⟨g2,_⟩:=g2)
        try simp only [k_l1,k_l0,k_za,Nat.reduceAdd]
        refine k_b7 rfl ?_
        intro b3 f3
        have g3:=f3
        repeat ((with_reducible replace g3:=fresh_set g3);obtain ⟨g3,_⟩:=g3)
        try simp only [k_l1,k_l0,k_za,Nat.reduceAdd]
        refine k_e rfl (AWP.seq (k_a ?_))
        refine k_7 ty_agg_62 ty_size_62 rfl ?_
        refine ARun.call (lit_lt rfl) go_55 rfl (ch _) ?_
        rintro _ S1 ⟨rfl,h1⟩
        rw [h1];clear h1 S1
        refine rC (Calm.un rfl (una_not _)) ?_
        refine k_n ?_
        refine k_u [(0,_),(1,_),(2,_),(3,_),(4,_),(9,_)] ?_
        refine k_F rfl ?_
        refine k_k (AWP.seq ?_)
        refine AWP.draw [(0,true),(1,true),(3,true),(4,true),(5,true),(6,true),(2,false),(7,false),(8,true),(9,true),(10,true),(11,true),(12,true)] [] mixed (by kernel_rfl) ?_
        refine dP (hc:=fun _=>Calm.fieldAddr ty_field_29_0 rfl) (h:=?_)
        refine dC (hc:=ldA_ (cs:=[_,_,_,_,_]) ty_agg_25 ty_size_25 rfl) (h:=?_)
        refine dP (hc:=fun _=>Calm.fieldAddr ty_field_62_0 rfl) (h:=?_)
        refine dC (hc:=ld_ ty_plain_9 rfl) (h:=?_)
        refine dP (hc:=fun _=>Calm.fieldAddr ty_field_62_1 rfl) (h:=?_)
        refine dC (hc:=ld_ ty_plain_3 rfl) (h:=?_)
        refine draw_only rfl ?_
        refine ARun.call (lit_lt rfl) go_82 rfl (cu _) ?_
        rintro _ S1 ⟨rfl,h1⟩
        rw [h1];clear h1 S1
        refine arun_nil ⟨fun _=>less_,?_⟩
        refine draw_only rfl ?_
        refine ARun.call (lit_lt rfl) go_36 rfl (cr _ less_) ?_
        rintro _ S1 ⟨rfl,h1⟩
        rw [h1];clear h1 S1
        refine arun_nil ⟨fun _=>less_,?_⟩
        refine dP (hc:=fun _=>Calm.move rfl) (h:=?_)
        refine dP (hc:=fun _=>Calm.extract rfl rfl) (h:=?_)
        refine dP (hc:=fun _=>Calm.extract rfl rfl) (h:=?_)
        refine dP (hc:=fun _=>Calm.assign rfl) (h:=?_)
        refine dP (hc:=fun _=>Calm.assign rfl) (h:=?_)
        refine draw_nil ?_
        refine athen_n ?_
        refine k_u [(0,_),(1,_),(2,_),(3,_),(4,_),(9,_),(5,_),(6,_)] ?_
        refine AWP.seq (k_a (k_m rfl ?_))
        refine rC (Calm.bin rfl rfl (bin_bool (bin_neq _ _) (bnot_dec_false c0))) ?_
        refine k_m rfl ?_
        first|refine k_q 31 ?_|refine rG 31 (Calm.fieldAddr ty_field_62_6 rfl) ?_
        first|refine k_q 31 ?_|refine rG 31 (Calm.as (congrArg Value.bool c1) (ld_ ty_plain_4 rfl)) ?_
        first|refine k_t rfl rfl ?_|refine k_f rfl rfl ?_
        refine k_m rfl ?_
        first|refine k_q 35 ?_|refine rG 35 (Calm.fieldAddr ty_field_62_2 rfl) ?_
        first|refine k_q 35 ?_|refine rG 35 (ld_ ty_plain_9 rfl) ?_
        first|refine k_q 35 ?_|refine rG 35 (Calm.lenStr (strT_spec ty_str_9) rfl) ?_
        first|refine k_q 35 ?_|refine rG 35 (Calm.bin rfl rfl (bin_bool (bin_neq _ _) (bnot_dec_false (by omega)))) ?_
        first|refine k_t rfl rfl ?_|refine k_f rfl rfl ?_
        refine k_m rfl ?_
        first|refine k_q 41 ?_|refine rG 41 (Calm.fieldAddr ty_field_62_3 rfl) ?_
        first|refine k_q 41 ?_|refine rG 41 (ld_ ty_plain_3 rfl) ?_
        first|refine k_q 41 ?_|refine rG 41 (Calm.bin rfl rfl (bin_bool (bin_lss _ _) (decide_eq_false (by omega)))) ?_
        first|refine k_t rfl rfl ?_|refine k_f rfl rfl ?_
        refine k_m rfl ?_
        first|refine k_q 46 ?_|refine rG 46 (Calm.fieldAddr ty_field_62_3 rfl) ?_
        first|refine k_q 46 ?_|refine rG 46 (ld_ ty_plain_3 rfl) ?_
        first|refine k_q 46 ?_|refine rG 46 (Calm.bin rfl rfl (bin_bool (bin_gtr _ _) (decide_eq_false (by omega)))) ?_
        first|refine k_t rfl rfl ?_|refine k_f rfl rfl ?_
        refine k_m rfl ?_
        first|refine k_q 51 ?_|refine rG 51 (Calm.fieldAddr ty_field_62_5 rfl) ?_
        first|refine k_q 51 ?_|refine rG 51 (ld_ ty_plain_27 rfl) ?_
        first|refine k_q 51 ?_|refine rG 51 (Calm.bin rfl rfl (bin_bool (bin_lss _ _) (decide_eq_true (by omega)))) ?_
        first|refine k_t rfl rfl ?_|refine k_f rfl rfl ?_
        refine k_m rfl ?_
        first|refine k_q 56 ?_|refine rG 56 (Calm.fieldAddr ty_field_62_5 rfl) ?_
        first|refine k_q 56 ?_|refine rG 56 (ld_ ty_plain_27 rfl) ?_
        first|refine k_q 56 ?_|refine rG 56 (Calm.fieldAddr ty_field_29_2 rfl) ?_
        first|refine k_q 56 ?_|refine rG 56 (ld_ ty_plain_27 rfl) ?_
        first|refine k_q 56 ?_|refine rG 56 (Calm.bin rfl rfl b_gtr) ?_
        first|refine k_t rfl rfl ?_|refine k_f rfl rfl ?_
        refine k_n ?_
        refine k_u [(0,_),(1,_),(2,_),(3,_),(4,_),(9,_),(5,_),(6,_),(62,_)] ?_
        refine k_T rfl ?_
        refine k_a (k_e rfl ?_)
        refine k_r ?_
        refine ⟨_,S,⟨_,_,rfl,rfl,rfl⟩,less_,?_⟩
        exact ⟨rfl,rfl⟩
      ·rw [hno (fun h=>c4 h.2.2.2.2.1)]
       refine ACall.enter (rs:=[.tmp 4]) 71 [(0,.agg #[.int .i64 d.size,.slice pe d.ext.length ce,.slice pw d.waits.length cw,.int .i64 d.fuse,.bool d.down,.slice pf nf cf,.int .u64 tick,.int .u64 reads,.int .u64 writes]),(1,.agg #[.string x.name,.int .i64 x.sector,.string x.data,.int .i64 x.pins,.bool x.dirty,.int .u64 x.tick,.bool x.leased])] Tryz.func54 rfl rfl (Nat.le_of_ble_eq_true rfl) rfl ⟨rfl,rfl,trivial⟩ ?_
       refine k_a ?_
       refine k_b9 rfl ?_
       intro b2 f2
       have g2:=f2
       repeat ((with_reducible replace g2:=fresh_set g2);obtain ⟨g2,_⟩:=g2)
       try simp only [k_l1,k_l0,k_za,Nat.reduceAdd]
       refine k_b7 rfl ?_
       intro b3 f3
       have g3:=f3
       repeat ((with_reducible replace g3:=fresh_set g3);obtain ⟨g3,_⟩:=g3)
       try simp only [k_l1,k_l0,k_za,Nat.reduceAdd]
       refine k_e rfl (AWP.seq (k_a ?_))
       refine k_7 ty_agg_62 ty_size_62 rfl ?_
       refine ARun.call (lit_lt rfl) go_55 rfl (ch _) ?_
       rintro _ S1 ⟨rfl,h1⟩
       rw [h1];clear h1 S1
       refine rC (Calm.un rfl (una_not _)) ?_
       refine k_n ?_
       refine k_u [(0,_),(1,_),(2,_),(3,_),(4,_),(9,_)] ?_
       refine k_F rfl ?_
       refine k_k (AWP.seq ?_)
       refine AWP.draw [(0,true),(1,true),(3,true),(4,true),(5,true),(6,true),(2,false),(7,false),(8,true),(9,true),(10,true),(11,true),(12,true)] [] mixed (by kernel_rfl) ?_
       refine dP (hc:=fun _=>Calm.fieldAddr ty_field_29_0 rfl) (h:=?_)
       refine dC (hc:=ldA_ (cs:=[_,_,_,_,_]) ty_agg_25 ty_size_25 rfl) (h:=?_)
       refine dP (hc:=fun _=>Calm.fieldAddr ty_field_62_0 rfl) (h:=?_)
       refine dC (hc:=ld_ ty_plain_9 rfl) (h:=?_)
       refine dP (hc:=fun _=>Calm.fieldAddr ty_field_62_1 rfl) (h:=?_)
       refine dC (hc:=ld_ ty_plain_3 rfl) (h:=?_)
       refine draw_only rfl ?_
       refine ARun.call (lit_lt rfl) go_82 rfl (cu _) ?_
       rintro _ S1 ⟨rfl,h1⟩
       rw [h1];clear h1 S1
       refine arun_nil ⟨fun _=>less_,?_⟩
       refine draw_only rfl ?_
       refine ARun.call (lit_lt rfl) go_36 rfl (cr _ less_) ?_
       rintro _ S1 ⟨rfl,h1⟩
       rw [h1];clear h1 S1
       refine arun_nil ⟨fun _=>less_,?_⟩
       refine dP (hc:=fun _=>Calm.move rfl) (h:=?_)
       refine dP (hc:=fun _=>Calm.extract rfl rfl) (h:=?_)
       refine dP (hc:=fun _=>Calm.extract rfl rfl) (h:=?_)
       refine dP (hc:=fun _=>Calm.assign rfl) (h:=?_)
       refine dP (hc:=fun _=>Calm.assign rfl) (h:=?_)
       refine draw_nil ?_
       refine athen_n ?_
       refine k_u [(0,_),(1,_),(2,_),(3,_),(4,_),(9,_),(5,_),(6,_)] ?_
       refine AWP.seq (k_a (k_m rfl ?_))
       refine rC (Calm.bin rfl rfl (bin_bool (bin_neq _ _) (bnot_dec_false c0))) ?_
       refine k_m rfl ?_
       first|refine k_q 31 ?_|refine rG 31 (Calm.fieldAddr ty_field_62_6 rfl) ?_
       first|refine k_q 31 ?_|refine rG 31 (Calm.as (congrArg Value.bool c1) (ld_ ty_plain_4 rfl)) ?_
       first|refine k_t rfl rfl ?_|refine k_f rfl rfl ?_
       refine k_m rfl ?_
       first|refine k_q 35 ?_|refine rG 35 (Calm.fieldAddr ty_field_62_2 rfl) ?_
       first|refine k_q 35 ?_|refine rG 35 (ld_ ty_plain_9 rfl) ?_
       first|refine k_q 35 ?_|refine rG 35 (Calm.lenStr (strT_spec ty_str_9) rfl) ?_
       first|refine k_q 35 ?_|refine rG 35 (Calm.bin rfl rfl (bin_bool (bin_neq _ _) (bnot_dec_false (by omega)))) ?_
       first|refine k_t rfl rfl ?_|refine k_f rfl rfl ?_
       refine k_m rfl ?_
       first|refine k_q 41 ?_|refine rG 41 (Calm.fieldAddr ty_field_62_3 rfl) ?_
       first|refine k_q 41 ?_|refine rG 41 (ld_ ty_plain_3 rfl) ?_
       first|refine k_q 41 ?_|refine rG 41 (Calm.bin rfl rfl (bin_bool (bin_lss _ _) (decide_eq_false (by omega)))) ?_
       first|refine k_t rfl rfl ?_|refine k_f rfl rfl ?_
       refine k_m rfl ?_
       first|refine k_q 46 ?_|refine rG 46 (Calm.fieldAddr ty_field_62_3 rfl) ?_
       first|refine k_q 46 ?_|refine rG 46 (ld_ ty_plain_3 rfl) ?_
       first|refine k_q 46 ?_|refine rG 46 (Calm.bin rfl rfl (bin_bool (bin_gtr _ _) (decide_eq_true (by omega)))) ?_
       first|refine k_t rfl rfl ?_|refine k_f rfl rfl ?_
       refine k_m rfl ?_
       first|refine k_q 51 ?_|refine rG 51 (Calm.fieldAddr ty_field_62_5 rfl) ?_
       first|refine k_q 51 ?_|refine rG 51 (ld_ ty_plain_27 rfl) ?_
       first|refine k_q 51 ?_|refine rG 51 (Calm.bin rfl rfl b_lss) ?_
       first|refine k_t rfl rfl ?_|refine k_f rfl rfl ?_
       refine k_m rfl ?_
       first|refine k_q 56 ?_|refine rG 56 (Calm.fieldAddr ty_field_62_5 rfl) ?_
       first|refine k_q 56 ?_|refine rG 56 (ld_ ty_plain_27 rfl) ?_
       first|refine k_q 56 ?_|refine rG 56 (Calm.fieldAddr ty_field_29_2 rfl) ?_
       first|refine k_q 56 ?_|refine rG 56 (ld_ ty_plain_27 rfl) ?_
       first|refine k_q 56 ?_|refine rG 56 (Calm.bin rfl rfl b_gtr) ?_
       first|refine k_t rfl rfl ?_|refine k_f rfl rfl ?_
       refine k_n ?_
       refine k_u [(0,_),(1,_),(2,_),(3,_),(4,_),(9,_),(5,_),(6,_),(62,_)] ?_
       refine k_T rfl ?_
       refine k_a (k_e rfl ?_)
       refine k_r ?_
       refine ⟨_,S,⟨_,_,rfl,rfl,rfl⟩,less_,?_⟩
       exact ⟨rfl,rfl⟩
     ·rw [hno (fun h=>c3 h.2.2.2.1)]
      refine ACall.enter (rs:=[.tmp 4]) 71 [(0,.agg #[.int .i64 d.size,.slice pe d.ext.length ce,.slice pw d.waits.length cw,.int .i64 d.fuse,.bool d.down,.slice pf nf cf,.int .u64 tick,.int .u64 reads,.int .u64 writes]),(1,.agg #[.string x.name,.int .i64 x.sector,.string x.data,.int .i64 x.pins,.bool x.dirty,.int .u64 x.tick,.bool x.leased])] Tryz.func54 rfl rfl (Nat.le_of_ble_eq_true rfl) rfl ⟨rfl,rfl,trivial⟩ ?_
      refine k_a ?_
      refine k_b9 rfl ?_
      intro b2 f2
      have g2:=f2
      repeat ((with_reducible replace g2:=fresh_set g2);obtain ⟨g2,_⟩:=g2)
      try simp only [k_l1,k_l0,k_za,Nat.reduceAdd]
      refine k_b7 rfl ?_
      intro b3 f3
      have g3:=f3
      repeat ((with_reducible replace g3:=fresh_set g3);obtain ⟨g3,_⟩:=g3)
      try simp only [k_l1,k_l0,k_za,Nat.reduceAdd]
      refine k_e rfl (AWP.seq (k_a ?_))
      refine k_7 ty_agg_62 ty_size_62 rfl ?_
      refine ARun.call (lit_lt rfl) go_55 rfl (ch _) ?_
      rintro _ S1 ⟨rfl,h1⟩
      rw [h1];clear h1 S1
      refine rC (Calm.un rfl (una_not _)) ?_
      refine k_n ?_
      refine k_u [(0,_),(1,_),(2,_),(3,_),(4,_),(9,_)] ?_
      refine k_F rfl ?_
      refine k_k (AWP.seq ?_)
      refine AWP.draw [(0,true),(1,true),(3,true),(4,true),(5,true),(6,true),(2,false),(7,false),(8,true),(9,true),(10,true),(11,true),(12,true)] [] mixed (by kernel_rfl) ?_
      refine dP (hc:=fun _=>Calm.fieldAddr ty_field_29_0 rfl) (h:=?_)
      refine dC (hc:=ldA_ (cs:=[_,_,_,_,_]) ty_agg_25 ty_size_25 rfl) (h:=?_)
      refine dP (hc:=fun _=>Calm.fieldAddr ty_field_62_0 rfl) (h:=?_)
      refine dC (hc:=ld_ ty_plain_9 rfl) (h:=?_)
      refine dP (hc:=fun _=>Calm.fieldAddr ty_field_62_1 rfl) (h:=?_)
      refine dC (hc:=ld_ ty_plain_3 rfl) (h:=?_)
      refine draw_only rfl ?_
      refine ARun.call (lit_lt rfl) go_82 rfl (cu _) ?_
      rintro _ S1 ⟨rfl,h1⟩
      rw [h1];clear h1 S1
      refine arun_nil ⟨fun _=>less_,?_⟩
      refine draw_only rfl ?_
      refine ARun.call (lit_lt rfl) go_36 rfl (cr _ less_) ?_
      rintro _ S1 ⟨rfl,h1⟩
      rw [h1];clear h1 S1
      refine arun_nil ⟨fun _=>less_,?_⟩
      refine dP (hc:=fun _=>Calm.move rfl) (h:=?_)
      refine dP (hc:=fun _=>Calm.extract rfl rfl) (h:=?_)
      refine dP (hc:=fun _=>Calm.extract rfl rfl) (h:=?_)
      refine dP (hc:=fun _=>Calm.assign rfl) (h:=?_)
      refine dP (hc:=fun _=>Calm.assign rfl) (h:=?_)
      refine draw_nil ?_
      refine athen_n ?_
      refine k_u [(0,_),(1,_),(2,_),(3,_),(4,_),(9,_),(5,_),(6,_)] ?_
      refine AWP.seq (k_a (k_m rfl ?_))
      refine rC (Calm.bin rfl rfl (bin_bool (bin_neq _ _) (bnot_dec_false c0))) ?_
      refine k_m rfl ?_
      first|refine k_q 31 ?_|refine rG 31 (Calm.fieldAddr ty_field_62_6 rfl) ?_
      first|refine k_q 31 ?_|refine rG 31 (Calm.as (congrArg Value.bool c1) (ld_ ty_plain_4 rfl)) ?_
      first|refine k_t rfl rfl ?_|refine k_f rfl rfl ?_
      refine k_m rfl ?_
      first|refine k_q 35 ?_|refine rG 35 (Calm.fieldAddr ty_field_62_2 rfl) ?_
      first|refine k_q 35 ?_|refine rG 35 (ld_ ty_plain_9 rfl) ?_
      first|refine k_q 35 ?_|refine rG 35 (Calm.lenStr (strT_spec ty_str_9) rfl) ?_
      first|refine k_q 35 ?_|refine rG 35 (Calm.bin rfl rfl (bin_bool (bin_neq _ _) (bnot_dec_false (by omega)))) ?_
      first|refine k_t rfl rfl ?_|refine k_f rfl rfl ?_
      refine k_m rfl ?_
      first|refine k_q 41 ?_|refine rG 41 (Calm.fieldAddr ty_field_62_3 rfl) ?_
      first|refine k_q 41 ?_|refine rG 41 (ld_ ty_plain_3 rfl) ?_
      first|refine k_q 41 ?_|refine rG 41 (Calm.bin rfl rfl (bin_bool (bin_lss _ _) (decide_eq_true (by omega)))) ?_
      first|refine k_t rfl rfl ?_|refine k_f rfl rfl ?_
      refine k_m rfl ?_
      first|refine k_q 46 ?_|refine rG 46 (Calm.fieldAddr ty_field_62_3 rfl) ?_
      first|refine k_q 46 ?_|refine rG 46 (ld_ ty_plain_3 rfl) ?_
      first|refine k_q 46 ?_|refine rG 46 (Calm.bin rfl rfl b_gtr) ?_
      first|refine k_t rfl rfl ?_|refine k_f rfl rfl ?_
      refine k_m rfl ?_
      first|refine k_q 51 ?_|refine rG 51 (Calm.fieldAddr ty_field_62_5 rfl) ?_
      first|refine k_q 51 ?_|refine rG 51 (ld_ ty_plain_27 rfl) ?_
      first|refine k_q 51 ?_|refine rG 51 (Calm.bin rfl rfl b_lss) ?_
      first|refine k_t rfl rfl ?_|refine k_f rfl rfl ?_
      refine k_m rfl ?_
      first|refine k_q 56 ?_|refine rG 56 (Calm.fieldAddr ty_field_62_5 rfl) ?_
      first|refine k_q 56 ?_|refine rG 56 (ld_ ty_plain_27 rfl) ?_
      first|refine k_q 56 ?_|refine rG 56 (Calm.fieldAddr ty_field_29_2 rfl) ?_
      first|refine k_q 56 ?_|refine rG 56 (ld_ ty_plain_27 rfl) ?_
      first|refine k_q 56 ?_|refine rG 56 (Calm.bin rfl rfl b_gtr) ?_
      first|refine k_t rfl rfl ?_|refine k_f rfl rfl ?_
      refine k_n ?_
      refine k_u [(0,_),(1,_),(2,_),(3,_),(4,_),(9,_),(5,_),(6,_),(62,_)] ?_
      refine k_T rfl ?_
      refine k_a (k_e rfl ?_)
      refine k_r ?_
      refine ⟨_,S,⟨_,_,rfl,rfl,rfl⟩,less_,?_⟩
      exact ⟨rfl,rfl⟩
    ·rw [hno (fun h=>c2 h.2.2.1)]
     refine ACall.enter (rs:=[.tmp 4]) 71 [(0,.agg #[.int .i64 d.size,.slice pe d.ext.length ce,.slice pw d.waits.length cw,.int .i64 d.fuse,.bool d.down,.slice pf nf cf,.int .u64 tick,.int .u64 reads,.int .u64 writes]),(1,.agg #[.string x.name,.int .i64 x.sector,.string x.data,.int .i64 x.pins,.bool x.dirty,.int .u64 x.tick,.bool x.leased])] Tryz.func54 rfl rfl (Nat.le_of_ble_eq_true rfl) rfl ⟨rfl,rfl,trivial⟩ ?_
     refine k_a ?_
     refine k_b9 rfl ?_
     intro b2 f2
     have g2:=f2
     repeat ((with_reducible replace g2:=fresh_set g2);obtain ⟨g2,_⟩:=g2)
     try simp only [k_l1,k_l0,k_za,Nat.reduceAdd]
     refine k_b7 rfl ?_
     intro b3 f3
     have g3:=f3
     repeat ((with_reducible replace g3:=fresh_set g3);obtain ⟨g3,_⟩:=g3)
     try simp only [k_l1,k_l0,k_za,Nat.reduceAdd]
     refine k_e rfl (AWP.seq (k_a ?_))
     refine k_7 ty_agg_62 ty_size_62 rfl ?_
     refine ARun.call (lit_lt rfl) go_55 rfl (ch _) ?_
     rintro _ S1 ⟨rfl,h1⟩
     rw [h1];clear h1 S1
     refine rC (Calm.un rfl (una_not _)) ?_
     refine k_n ?_
     refine k_u [(0,_),(1,_),(2,_),(3,_),(4,_),(9,_)] ?_
     refine k_F rfl ?_
     refine k_k (AWP.seq ?_)
     refine AWP.draw [(0,true),(1,true),(3,true),(4,true),(5,true),(6,true),(2,false),(7,false),(8,true),(9,true),(10,true),(11,true),(12,true)] [] mixed (by kernel_rfl) ?_
     refine dP (hc:=fun _=>Calm.fieldAddr ty_field_29_0 rfl) (h:=?_)
     refine dC (hc:=ldA_ (cs:=[_,_,_,_,_]) ty_agg_25 ty_size_25 rfl) (h:=?_)
     refine dP (hc:=fun _=>Calm.fieldAddr ty_field_62_0 rfl) (h:=?_)
     refine dC (hc:=ld_ ty_plain_9 rfl) (h:=?_)
     refine dP (hc:=fun _=>Calm.fieldAddr ty_field_62_1 rfl) (h:=?_)
     refine dC (hc:=ld_ ty_plain_3 rfl) (h:=?_)
     refine draw_only rfl ?_
     refine ARun.call (lit_lt rfl) go_82 rfl (cu _) ?_
     rintro _ S1 ⟨rfl,h1⟩
     rw [h1];clear h1 S1
     refine arun_nil ⟨fun _=>less_,?_⟩
     refine draw_only rfl ?_
     refine ARun.call (lit_lt rfl) go_36 rfl (cr _ less_) ?_
     rintro _ S1 ⟨rfl,h1⟩
     rw [h1];clear h1 S1
     refine arun_nil ⟨fun _=>less_,?_⟩
     refine dP (hc:=fun _=>Calm.move rfl) (h:=?_)
     refine dP (hc:=fun _=>Calm.extract rfl rfl) (h:=?_)
     refine dP (hc:=fun _=>Calm.extract rfl rfl) (h:=?_)
     refine dP (hc:=fun _=>Calm.assign rfl) (h:=?_)
     refine dP (hc:=fun _=>Calm.assign rfl) (h:=?_)
     refine draw_nil ?_
     refine athen_n ?_
     refine k_u [(0,_),(1,_),(2,_),(3,_),(4,_),(9,_),(5,_),(6,_)] ?_
     refine AWP.seq (k_a (k_m rfl ?_))
     refine rC (Calm.bin rfl rfl (bin_bool (bin_neq _ _) (bnot_dec_false c0))) ?_
     refine k_m rfl ?_
     first|refine k_q 31 ?_|refine rG 31 (Calm.fieldAddr ty_field_62_6 rfl) ?_
     first|refine k_q 31 ?_|refine rG 31 (Calm.as (congrArg Value.bool c1) (ld_ ty_plain_4 rfl)) ?_
     first|refine k_t rfl rfl ?_|refine k_f rfl rfl ?_
     refine k_m rfl ?_
     first|refine k_q 35 ?_|refine rG 35 (Calm.fieldAddr ty_field_62_2 rfl) ?_
     first|refine k_q 35 ?_|refine rG 35 (ld_ ty_plain_9 rfl) ?_
     first|refine k_q 35 ?_|refine rG 35 (Calm.lenStr (strT_spec ty_str_9) rfl) ?_
     first|refine k_q 35 ?_|refine rG 35 (Calm.bin rfl rfl (bin_bool (bin_neq _ _) (bnot_dec_true (by omega)))) ?_
     first|refine k_t rfl rfl ?_|refine k_f rfl rfl ?_
     refine k_m rfl ?_
     first|refine k_q 41 ?_|refine rG 41 (Calm.fieldAddr ty_field_62_3 rfl) ?_
     first|refine k_q 41 ?_|refine rG 41 (ld_ ty_plain_3 rfl) ?_
     first|refine k_q 41 ?_|refine rG 41 (Calm.bin rfl rfl b_lss) ?_
     first|refine k_t rfl rfl ?_|refine k_f rfl rfl ?_
     refine k_m rfl ?_
     first|refine k_q 46 ?_|refine rG 46 (Calm.fieldAddr ty_field_62_3 rfl) ?_
     first|refine k_q 46 ?_|refine rG 46 (ld_ ty_plain_3 rfl) ?_
     first|refine k_q 46 ?_|refine rG 46 (Calm.bin rfl rfl b_gtr) ?_
     first|refine k_t rfl rfl ?_|refine k_f rfl rfl ?_
     refine k_m rfl ?_
     first|refine k_q 51 ?_|refine rG 51 (Calm.fieldAddr ty_field_62_5 rfl) ?_
     first|refine k_q 51 ?_|refine rG 51 (ld_ ty_plain_27 rfl) ?_
     first|refine k_q 51 ?_|refine rG 51 (Calm.bin rfl rfl b_lss) ?_
     first|refine k_t rfl rfl ?_|refine k_f rfl rfl ?_
     refine k_m rfl ?_
     first|refine k_q 56 ?_|refine rG 56 (Calm.fieldAddr ty_field_62_5 rfl) ?_
     first|refine k_q 56 ?_|refine rG 56 (ld_ ty_plain_27 rfl) ?_
     first|refine k_q 56 ?_|refine rG 56 (Calm.fieldAddr ty_field_29_2 rfl) ?_
     first|refine k_q 56 ?_|refine rG 56 (ld_ ty_plain_27 rfl) ?_
     first|refine k_q 56 ?_|refine rG 56 (Calm.bin rfl rfl b_gtr) ?_
     first|refine k_t rfl rfl ?_|refine k_f rfl rfl ?_
     refine k_n ?_
     refine k_u [(0,_),(1,_),(2,_),(3,_),(4,_),(9,_),(5,_),(6,_),(62,_)] ?_
     refine k_T rfl ?_
     refine k_a (k_e rfl ?_)
     refine k_r ?_
     refine ⟨_,S,⟨_,_,rfl,rfl,rfl⟩,less_,?_⟩
     exact ⟨rfl,rfl⟩
   ·have c1':x.leased=true:=by simpa using c1
    rw [hno (fun h=>c1 h.2.1)]
    refine ACall.enter (rs:=[.tmp 4]) 71 [(0,.agg #[.int .i64 d.size,.slice pe d.ext.length ce,.slice pw d.waits.length cw,.int .i64 d.fuse,.bool d.down,.slice pf nf cf,.int .u64 tick,.int .u64 reads,.int .u64 writes]),(1,.agg #[.string x.name,.int .i64 x.sector,.string x.data,.int .i64 x.pins,.bool x.dirty,.int .u64 x.tick,.bool x.leased])] Tryz.func54 rfl rfl (Nat.le_of_ble_eq_true rfl) rfl ⟨rfl,rfl,trivial⟩ ?_
    refine k_a ?_
    refine k_b9 rfl ?_
    intro b2 f2
    have g2:=f2
    repeat ((with_reducible replace g2:=fresh_set g2);obtain ⟨g2,_⟩:=g2)
    try simp only [k_l1,k_l0,k_za,Nat.reduceAdd]
    refine k_b7 rfl ?_
    intro b3 f3
    have g3:=f3
    repeat ((with_reducible replace g3:=fresh_set g3);obtain ⟨g3,_⟩:=g3)
    try simp only [k_l1,k_l0,k_za,Nat.reduceAdd]
    refine k_e rfl (AWP.seq (k_a ?_))
    refine k_7 ty_agg_62 ty_size_62 rfl ?_
    refine ARun.call (lit_lt rfl) go_55 rfl (ch _) ?_
    rintro _ S1 ⟨rfl,h1⟩
    rw [h1];clear h1 S1
    refine rC (Calm.un rfl (una_not _)) ?_
    refine k_n ?_
    refine k_u [(0,_),(1,_),(2,_),(3,_),(4,_),(9,_)] ?_
    refine k_F rfl ?_
    refine k_k (AWP.seq ?_)
    refine AWP.draw [(0,true),(1,true),(3,true),(4,true),(5,true),(6,true),(2,false),(7,false),(8,true),(9,true),(10,true),(11,true),(12,true)] [] mixed (by kernel_rfl) ?_
    refine dP (hc:=fun _=>Calm.fieldAddr ty_field_29_0 rfl) (h:=?_)
    refine dC (hc:=ldA_ (cs:=[_,_,_,_,_]) ty_agg_25 ty_size_25 rfl) (h:=?_)
    refine dP (hc:=fun _=>Calm.fieldAddr ty_field_62_0 rfl) (h:=?_)
    refine dC (hc:=ld_ ty_plain_9 rfl) (h:=?_)
    refine dP (hc:=fun _=>Calm.fieldAddr ty_field_62_1 rfl) (h:=?_)
    refine dC (hc:=ld_ ty_plain_3 rfl) (h:=?_)
    refine draw_only rfl ?_
    refine ARun.call (lit_lt rfl) go_82 rfl (cu _) ?_
    rintro _ S1 ⟨rfl,h1⟩
    rw [h1];clear h1 S1
    refine arun_nil ⟨fun _=>less_,?_⟩
    refine draw_only rfl ?_
    refine ARun.call (lit_lt rfl) go_36 rfl (cr _ less_) ?_
    rintro _ S1 ⟨rfl,h1⟩
    rw [h1];clear h1 S1
    refine arun_nil ⟨fun _=>less_,?_⟩
    refine dP (hc:=fun _=>Calm.move rfl) (h:=?_)
    refine dP (hc:=fun _=>Calm.extract rfl rfl) (h:=?_)
    refine dP (hc:=fun _=>Calm.extract rfl rfl) (h:=?_)
    refine dP (hc:=fun _=>Calm.assign rfl) (h:=?_)
    refine dP (hc:=fun _=>Calm.assign rfl) (h:=?_)
    refine draw_nil ?_
    refine athen_n ?_
    refine k_u [(0,_),(1,_),(2,_),(3,_),(4,_),(9,_),(5,_),(6,_)] ?_
    refine AWP.seq (k_a (k_m rfl ?_))
    refine rC (Calm.bin rfl rfl (bin_bool (bin_neq _ _) (bnot_dec_false c0))) ?_
    refine k_m rfl ?_
    first|refine k_q 31 ?_|refine rG 31 (Calm.fieldAddr ty_field_62_6 rfl) ?_
    first|refine k_q 31 ?_|refine rG 31 (Calm.as (congrArg Value.bool c1') (ld_ ty_plain_4 rfl)) ?_
    first|refine k_t rfl rfl ?_|refine k_f rfl rfl ?_
    refine k_m rfl ?_
    first|refine k_q 35 ?_|refine rG 35 (Calm.fieldAddr ty_field_62_2 rfl) ?_
    first|refine k_q 35 ?_|refine rG 35 (ld_ ty_plain_9 rfl) ?_
    first|refine k_q 35 ?_|refine rG 35 (Calm.lenStr (strT_spec ty_str_9) rfl) ?_
    first|refine k_q 35 ?_|refine rG 35 (Calm.bin rfl rfl b_neq) ?_
    first|refine k_t rfl rfl ?_|refine k_f rfl rfl ?_
    refine k_m rfl ?_
    first|refine k_q 41 ?_|refine rG 41 (Calm.fieldAddr ty_field_62_3 rfl) ?_
    first|refine k_q 41 ?_|refine rG 41 (ld_ ty_plain_3 rfl) ?_
    first|refine k_q 41 ?_|refine rG 41 (Calm.bin rfl rfl b_lss) ?_
    first|refine k_t rfl rfl ?_|refine k_f rfl rfl ?_
    refine k_m rfl ?_
    first|refine k_q 46 ?_|refine rG 46 (Calm.fieldAddr ty_field_62_3 rfl) ?_
    first|refine k_q 46 ?_|refine rG 46 (ld_ ty_plain_3 rfl) ?_
    first|refine k_q 46 ?_|refine rG 46 (Calm.bin rfl rfl b_gtr) ?_
    first|refine k_t rfl rfl ?_|refine k_f rfl rfl ?_
    refine k_m rfl ?_
    first|refine k_q 51 ?_|refine rG 51 (Calm.fieldAddr ty_field_62_5 rfl) ?_
    first|refine k_q 51 ?_|refine rG 51 (ld_ ty_plain_27 rfl) ?_
    first|refine k_q 51 ?_|refine rG 51 (Calm.bin rfl rfl b_lss) ?_
    first|refine k_t rfl rfl ?_|refine k_f rfl rfl ?_
    refine k_m rfl ?_
    first|refine k_q 56 ?_|refine rG 56 (Calm.fieldAddr ty_field_62_5 rfl) ?_
    first|refine k_q 56 ?_|refine rG 56 (ld_ ty_plain_27 rfl) ?_
    first|refine k_q 56 ?_|refine rG 56 (Calm.fieldAddr ty_field_29_2 rfl) ?_
    first|refine k_q 56 ?_|refine rG 56 (ld_ ty_plain_27 rfl) ?_
    first|refine k_q 56 ?_|refine rG 56 (Calm.bin rfl rfl b_gtr) ?_
    first|refine k_t rfl rfl ?_|refine k_f rfl rfl ?_
    refine k_n ?_
    refine k_u [(0,_),(1,_),(2,_),(3,_),(4,_),(9,_),(5,_),(6,_),(62,_)] ?_
    refine k_T rfl ?_
    refine k_a (k_e rfl ?_)
    refine k_r ?_
    refine ⟨_,S,⟨_,_,rfl,rfl,rfl⟩,less_,?_⟩
    exact ⟨rfl,rfl⟩
  ·rw [hno (fun h=>c0 h.1)]
   refine ACall.enter (rs:=[.tmp 4]) 71 [(0,.agg #[.int .i64 d.size,.slice pe d.ext.length ce,.slice pw d.waits.length cw,.int .i64 d.fuse,.bool d.down,.slice pf nf cf,.int .u64 tick,.int .u64 reads,.int .u64 writes]),(1,.agg #[.string x.name,.int .i64 x.sector,.string x.data,.int .i64 x.pins,.bool x.dirty,.int .u64 x.tick,.bool x.leased])] Tryz.func54 rfl rfl (Nat.le_of_ble_eq_true rfl) rfl ⟨rfl,rfl,trivial⟩ ?_
   refine k_a ?_
   refine k_b9 rfl ?_
   intro b2 f2
   have g2:=f2
   repeat ((with_reducible replace g2:=fresh_set g2);obtain ⟨g2,_⟩:=g2)
   try simp only [k_l1,k_l0,k_za,Nat.reduceAdd]
   refine k_b7 rfl ?_
   intro b3 f3
   have g3:=f3
   repeat ((with_reducible replace g3:=fresh_set g3);obtain ⟨g3,_⟩:=g3)
   try simp only [k_l1,k_l0,k_za,Nat.reduceAdd]
   refine k_e rfl (AWP.seq (k_a ?_))
   refine k_7 ty_agg_62 ty_size_62 rfl ?_
   refine ARun.call (lit_lt rfl) go_55 rfl (ch _) ?_
   rintro _ S1 ⟨rfl,h1⟩
   rw [h1];clear h1 S1
   refine rC (Calm.un rfl (una_not _)) ?_
   refine k_n ?_
   refine k_u [(0,_),(1,_),(2,_),(3,_),(4,_),(9,_)] ?_
   refine k_F rfl ?_
   refine k_k (AWP.seq ?_)
   refine AWP.draw [(0,true),(1,true),(3,true),(4,true),(5,true),(6,true),(2,false),(7,false),(8,true),(9,true),(10,true),(11,true),(12,true)] [] mixed (by kernel_rfl) ?_
   refine dP (hc:=fun _=>Calm.fieldAddr ty_field_29_0 rfl) (h:=?_)
   refine dC (hc:=ldA_ (cs:=[_,_,_,_,_]) ty_agg_25 ty_size_25 rfl) (h:=?_)
   refine dP (hc:=fun _=>Calm.fieldAddr ty_field_62_0 rfl) (h:=?_)
   refine dC (hc:=ld_ ty_plain_9 rfl) (h:=?_)
   refine dP (hc:=fun _=>Calm.fieldAddr ty_field_62_1 rfl) (h:=?_)
   refine dC (hc:=ld_ ty_plain_3 rfl) (h:=?_)
   refine draw_only rfl ?_
   refine ARun.call (lit_lt rfl) go_82 rfl (cu _) ?_
   rintro _ S1 ⟨rfl,h1⟩
   rw [h1];clear h1 S1
   refine arun_nil ⟨fun _=>less_,?_⟩
   refine draw_only rfl ?_
   refine ARun.call (lit_lt rfl) go_36 rfl (cr _ less_) ?_
   rintro _ S1 ⟨rfl,h1⟩
   rw [h1];clear h1 S1
   refine arun_nil ⟨fun _=>less_,?_⟩
   refine dP (hc:=fun _=>Calm.move rfl) (h:=?_)
   refine dP (hc:=fun _=>Calm.extract rfl rfl) (h:=?_)
   refine dP (hc:=fun _=>Calm.extract rfl rfl) (h:=?_)
   refine dP (hc:=fun _=>Calm.assign rfl) (h:=?_)
   refine dP (hc:=fun _=>Calm.assign rfl) (h:=?_)
   refine draw_nil ?_
   refine athen_n ?_
   refine k_u [(0,_),(1,_),(2,_),(3,_),(4,_),(9,_),(5,_),(6,_)] ?_
   refine AWP.seq (k_a (k_m rfl ?_))
   refine rC (Calm.bin rfl rfl (bin_bool (bin_neq _ _) (bnot_dec_true c0))) ?_
   refine k_m rfl ?_
   first|refine k_q 31 ?_|refine rG 31 (Calm.fieldAddr ty_field_62_6 rfl) ?_
   first|refine k_q 31 ?_|refine rG 31 (ld_ ty_plain_4 rfl) ?_
   first|refine k_t rfl rfl ?_|refine k_f rfl rfl ?_
   refine k_m rfl ?_
   first|refine k_q 35 ?_|refine rG 35 (Calm.fieldAddr ty_field_62_2 rfl) ?_
   first|refine k_q 35 ?_|refine rG 35 (ld_ ty_plain_9 rfl) ?_
   first|refine k_q 35 ?_|refine rG 35 (Calm.lenStr (strT_spec ty_str_9) rfl) ?_
   first|refine k_q 35 ?_|refine rG 35 (Calm.bin rfl rfl b_neq) ?_
   first|refine k_t rfl rfl ?_|refine k_f rfl rfl ?_
   refine k_m rfl ?_
   first|refine k_q 41 ?_|refine rG 41 (Calm.fieldAddr ty_field_62_3 rfl) ?_
   first|refine k_q 41 ?_|refine rG 41 (ld_ ty_plain_3 rfl) ?_
   first|refine k_q 41 ?_|refine rG 41 (Calm.bin rfl rfl b_lss) ?_
   first|refine k_t rfl rfl ?_|refine k_f rfl rfl ?_
   refine k_m rfl ?_
   first|refine k_q 46 ?_|refine rG 46 (Calm.fieldAddr ty_field_62_3 rfl) ?_
   first|refine k_q 46 ?_|refine rG 46 (ld_ ty_plain_3 rfl) ?_
   first|refine k_q 46 ?_|refine rG 46 (Calm.bin rfl rfl b_gtr) ?_
   first|refine k_t rfl rfl ?_|refine k_f rfl rfl ?_
   refine k_m rfl ?_
   first|refine k_q 51 ?_|refine rG 51 (Calm.fieldAddr ty_field_62_5 rfl) ?_
   first|refine k_q 51 ?_|refine rG 51 (ld_ ty_plain_27 rfl) ?_
   first|refine k_q 51 ?_|refine rG 51 (Calm.bin rfl rfl b_lss) ?_
   first|refine k_t rfl rfl ?_|refine k_f rfl rfl ?_
   refine k_m rfl ?_
   first|refine k_q 56 ?_|refine rG 56 (Calm.fieldAddr ty_field_62_5 rfl) ?_
   first|refine k_q 56 ?_|refine rG 56 (ld_ ty_plain_27 rfl) ?_
   first|refine k_q 56 ?_|refine rG 56 (Calm.fieldAddr ty_field_29_2 rfl) ?_
   first|refine k_q 56 ?_|refine rG 56 (ld_ ty_plain_27 rfl) ?_
   first|refine k_q 56 ?_|refine rG 56 (Calm.bin rfl rfl b_gtr) ?_
   first|refine k_t rfl rfl ?_|refine k_f rfl rfl ?_
   refine k_n ?_
   refine k_u [(0,_),(1,_),(2,_),(3,_),(4,_),(9,_),(5,_),(6,_),(62,_)] ?_
   refine k_T rfl ?_
   refine k_a (k_e rfl ?_)
   refine k_r ?_
   refine ⟨_,S,⟨_,_,rfl,rfl,rfl⟩,less_,?_⟩
   exact ⟨rfl,rfl⟩
 ·rw [decide_eq_false q1] at ch
  by_cases q2:x=F0
  ·rw [decide_eq_true (show Sound d x tick from .inl ⟨q1,.inl q2⟩)]
   refine ACall.enter (rs:=[.tmp 4]) 71 [(0,.agg #[.int .i64 d.size,.slice pe d.ext.length ce,.slice pw d.waits.length cw,.int .i64 d.fuse,.bool d.down,.slice pf nf cf,.int .u64 tick,.int .u64 reads,.int .u64 writes]),(1,.agg #[.string x.name,.int .i64 x.sector,.string x.data,.int .i64 x.pins,.bool x.dirty,.int .u64 x.tick,.bool x.leased])] Tryz.func54 rfl rfl (Nat.le_of_ble_eq_true rfl) rfl ⟨rfl,rfl,trivial⟩ ?_
   refine k_a ?_
   refine k_b9 rfl ?_
   intro b2 f2
   have g2:=f2
   repeat ((with_reducible replace g2:=fresh_set g2);obtain ⟨g2,_⟩:=g2)
   try simp only [k_l1,k_l0,k_za,Nat.reduceAdd]
   refine k_b7 rfl ?_
   intro b3 f3
   have g3:=f3
   repeat ((with_reducible replace g3:=fresh_set g3);obtain ⟨g3,_⟩:=g3)
   try simp only [k_l1,k_l0,k_za,Nat.reduceAdd]
   refine k_e rfl (AWP.seq (k_a ?_))
   refine k_7 ty_agg_62 ty_size_62 rfl ?_
   refine ARun.call (lit_lt rfl) go_55 rfl (ch _) ?_
   rintro _ S1 ⟨rfl,h1⟩
   rw [h1];clear h1 S1
   refine rC (Calm.un rfl (una_not _)) ?_
   refine k_n ?_
   refine k_u [(0,_),(1,_),(2,_),(3,_),(4,_),(9,_)] ?_
   refine k_T rfl ?_
   refine k_a ?_
   refine k_7 ty_agg_62 ty_size_62 rfl ?_
   refine rC (Calm.build (cs:=[_,_,_,_,_,_,_]) ty_bld_62 rfl rfl) ?_
   refine rC (Calm.bin rfl rfl (bin_bool (bin_eql_frame x F0) (decide_eq_true q2))) ?_
   refine k_m rfl ?_
   first|refine k_q 13 ?_|refine rG 13 (ldA_ (cs:=[_,_,_,_,_,_,_]) ty_agg_62 ty_size_62 rfl) ?_
   first|refine k_q 13 ?_|refine rG 13 (Calm.build (cs:=[_,_,_,_,_,_,_]) ty_bld_62 rfl rfl) ?_
   first|refine k_q 13 ?_|refine rG 13 (Calm.bin rfl rfl (BIN_struct)) ?_
   first|refine k_t rfl rfl ?_|refine k_f rfl rfl ?_
   refine k_e rfl ?_
   refine k_u [(0,_),(1,_),(2,_),(3,_),(4,_),(9,_)] ?_
   refine k_r ?_
   refine ⟨_,S,⟨_,_,rfl,rfl,rfl⟩,less_,?_⟩
   exact ⟨rfl,rfl⟩
  ·have hfin:decide (Sound d x tick)=decide (x=F1):=by unfold Sound;simp [q1,q2]
   rw [hfin]
   refine ACall.enter (rs:=[.tmp 4]) 71 [(0,.agg #[.int .i64 d.size,.slice pe d.ext.length ce,.slice pw d.waits.length cw,.int .i64 d.fuse,.bool d.down,.slice pf nf cf,.int .u64 tick,.int .u64 reads,.int .u64 writes]),(1,.agg #[.string x.name,.int .i64 x.sector,.string x.data,.int .i64 x.pins,.bool x.dirty,.int .u64 x.tick,.bool x.leased])] Tryz.func54 rfl rfl (Nat.le_of_ble_eq_true rfl) rfl ⟨rfl,rfl,trivial⟩ ?_
   refine k_a ?_
   refine k_b9 rfl ?_
   intro b2 f2
   have g2:=f2
   repeat ((with_reducible replace g2:=fresh_set g2);obtain ⟨g2,_⟩:=g2)
   try simp only [k_l1,k_l0,k_za,Nat.reduceAdd]
   refine k_b7 rfl ?_
   intro b3 f3
   have g3:=f3
   repeat ((with_reducible replace g3:=fresh_set g3);obtain ⟨g3,_⟩:=g3)
   try simp only [k_l1,k_l0,k_za,Nat.reduceAdd]
   refine k_e rfl (AWP.seq (k_a ?_))
   refine k_7 ty_agg_62 ty_size_62 rfl ?_
   refine ARun.call (lit_lt rfl) go_55 rfl (ch _) ?_
   rintro _ S1 ⟨rfl,h1⟩
   rw [h1];clear h1 S1
   refine rC (Calm.un rfl (una_not _)) ?_
   refine k_n ?_
   refine k_u [(0,_),(1,_),(2,_),(3,_),(4,_),(9,_)] ?_
   refine k_T rfl ?_
   refine k_a ?_
   refine k_7 ty_agg_62 ty_size_62 rfl ?_
   refine rC (Calm.build (cs:=[_,_,_,_,_,_,_]) ty_bld_62 rfl rfl) ?_
   refine rC (Calm.bin rfl rfl (bin_bool (bin_eql_frame x F0) (decide_eq_false q2))) ?_
   refine k_m rfl ?_
   first|refine k_q 13 ?_|refine rG 13 (ldA_ (cs:=[_,_,_,_,_,_,_]) ty_agg_62 ty_size_62 rfl) ?_
   first|refine k_q 13 ?_|refine rG 13 (Calm.build (cs:=[_,_,_,_,_,_,_]) ty_bld_62 rfl rfl) ?_
   first|refine k_q 13 ?_|refine rG 13 (Calm.bin rfl rfl (bin_eql_frame x F1)) ?_
   first|refine k_t rfl rfl ?_|refine k_f rfl rfl ?_
   refine k_e rfl ?_
   refine k_u [(0,_),(1,_),(2,_),(3,_),(4,_),(9,_)] ?_
   refine k_r ?_
   refine ⟨_,S,⟨_,_,rfl,rfl,rfl⟩,less_,?_⟩
   exact ⟨rfl,rfl⟩
set_option maxHeartbeats 16000000 in
theorem rp_Check (v : Value) (p : Pl) (S : Mem) (hp : PlR S v p) (hz : Dz p.d) :
  ACall Tryz.prog 17 #[v] S fun r S'=>r = .int .i64 (chkP p)∧S'=S:=by
 obtain ⟨pe,ce,pw,cw,pf,cf,rfl,hE,hW,hF⟩:=hp
 have hdk:DkR S (.agg #[.int .i64 p.d.size,.slice pe p.d.ext.length ce,.slice pw p.d.waits.length cw,.int .i64 p.d.fuse,.bool p.d.down]) p.d:=⟨pe,ce,pw,cw,rfl,hE,hW⟩
 have hck:=fun S h=>rd_Check (.agg #[.int .i64 p.d.size,.slice pe p.d.ext.length ce,.slice pw p.d.waits.length cw,.int .i64 p.d.fuse,.bool p.d.down]) p.d S h hz
 obtain ⟨_,_,ef1,ef2,ef3,hF3⟩:=id hF
 cases ef1
 obtain ⟨d,fr,tick,reads,writes⟩:=p
 simp only at *
 by_cases q1:Right d
 ·rw [chkD_yes q1] at hck
  by_cases q2:fr.length<1
  ·rw [chkP_no (fun h=>absurd h.l1 (by simp only;omega))]
   refine ACall.enter (rs:=[.tmp 2]) 73 [(0,.agg #[.int .i64 d.size,.slice pe d.ext.length ce,.slice pw d.waits.length cw,.int .i64 d.fuse,.bool d.down,.slice pf fr.length cf,.int .u64 tick,.int .u64 reads,.int .u64 writes])] Tryz.func17 rfl rfl (Nat.le_of_ble_eq_true rfl) rfl ⟨rfl,trivial⟩ ?_
   refine k_a ?_
   refine k_b9 rfl ?_
   intro b1 f1
   have g1:=f1
   repeat ((with_reducible replace g1:=fresh_set g1);obtain ⟨g1,_⟩:=g1)
   try simp only [k_l1,k_l0,k_za,Nat.reduceAdd]
   refine k_e rfl (AWP.seq (k_a ?_))
   refine rC (Calm.fieldAddr ty_field_29_0 rfl) ?_
   refine k_5 ty_agg_25 ty_size_25 rfl ?_
   refine ARun.call (lit_lt rfl) go_53 rfl (hck _ (hdk.less less_)) ?_
   rintro _ S1 ⟨rfl,h1⟩
   rw [h1];clear h1 S1
   refine rC (Calm.bin rfl rfl b_neq) ?_
   refine k_m rfl ?_
   first|refine k_q 11 ?_|refine rG 11 (Calm.fieldAddr ty_field_29_1 rfl) ?_
   first|refine k_q 11 ?_|refine rG 11 (ld_ ty_plain_26 rfl) ?_
   first|refine k_q 11 ?_|refine rG 11 (Calm.lenSl Tryz.underlying26 rfl) ?_
   first|refine k_q 11 ?_|refine rG 11 (Calm.bin rfl rfl (bin_bool (bin_lss _ _) (decide_eq_true (by omega)))) ?_
   first|refine k_t rfl rfl ?_|refine k_f rfl rfl ?_
   refine k_m rfl ?_
   first|refine k_q 17 ?_|refine rG 17 (Calm.fieldAddr ty_field_29_1 rfl) ?_
   first|refine k_q 17 ?_|refine rG 17 (ld_ ty_plain_26 rfl) ?_
   first|refine k_q 17 ?_|refine rG 17 (Calm.lenSl Tryz.underlying26 rfl) ?_
   first|refine k_q 17 ?_|refine rG 17 (Calm.bin rfl rfl b_gtr) ?_
   first|refine k_t rfl rfl ?_|refine k_f rfl rfl ?_
   refine k_n ?_
   refine k_u [(0,_),(1,_),(2,_),(22,_)] ?_
   refine k_T rfl ?_
   refine k_a (k_e rfl ?_)
   refine k_r ?_
   refine ⟨_,S,⟨_,_,rfl,rfl,rfl⟩,less_,?_⟩
   exact ⟨rfl,rfl⟩
  ·by_cases q3:256<fr.length
   ·rw [chkP_no (fun h=>absurd h.l2 (by simp only;omega))]
    refine ACall.enter (rs:=[.tmp 2]) 73 [(0,.agg #[.int .i64 d.size,.slice pe d.ext.length ce,.slice pw d.waits.length cw,.int .i64 d.fuse,.bool d.down,.slice pf fr.length cf,.int .u64 tick,.int .u64 reads,.int .u64 writes])] Tryz.func17 rfl rfl (Nat.le_of_ble_eq_true rfl) rfl ⟨rfl,trivial⟩ ?_
    refine k_a ?_
    refine k_b9 rfl ?_
    intro b1 f1
    have g1:=f1
    repeat ((with_reducible replace g1:=fresh_set g1);obtain ⟨g1,_⟩:=g1)
    try simp only [k_l1,k_l0,k_za,Nat.reduceAdd]
    refine k_e rfl (AWP.seq (k_a ?_))
    refine rC (Calm.fieldAddr ty_field_29_0 rfl) ?_
    refine k_5 ty_agg_25 ty_size_25 rfl ?_
    refine ARun.call (lit_lt rfl) go_53 rfl (hck _ (hdk.less less_)) ?_
    rintro _ S1 ⟨rfl,h1⟩
    rw [h1];clear h1 S1
    refine rC (Calm.bin rfl rfl b_neq) ?_
    refine k_m rfl ?_
    first|refine k_q 11 ?_|refine rG 11 (Calm.fieldAddr ty_field_29_1 rfl) ?_
    first|refine k_q 11 ?_|refine rG 11 (ld_ ty_plain_26 rfl) ?_
    first|refine k_q 11 ?_|refine rG 11 (Calm.lenSl Tryz.underlying26 rfl) ?_
    first|refine k_q 11 ?_|refine rG 11 (Calm.bin rfl rfl (bin_bool (bin_lss _ _) (decide_eq_false (by omega)))) ?_
    first|refine k_t rfl rfl ?_|refine k_f rfl rfl ?_
    refine k_m rfl ?_
    first|refine k_q 17 ?_|refine rG 17 (Calm.fieldAddr ty_field_29_1 rfl) ?_
    first|refine k_q 17 ?_|refine rG 17 (ld_ ty_plain_26 rfl) ?_
    first|refine k_q 17 ?_|refine rG 17 (Calm.lenSl Tryz.underlying26 rfl) ?_
    first|refine k_q 17 ?_|refine rG 17 (Calm.bin rfl rfl (bin_bool (bin_gtr _ _) (decide_eq_true (by omega)))) ?_
    first|refine k_t rfl rfl ?_|refine k_f rfl rfl ?_
    refine k_n ?_
    refine k_u [(0,_),(1,_),(2,_),(22,_)] ?_
    refine k_T rfl ?_
    refine k_a (k_e rfl ?_)
    refine k_r ?_
    refine ⟨_,S,⟨_,_,rfl,rfl,rfl⟩,less_,?_⟩
    exact ⟨rfl,rfl⟩
   ·skip
    refine ACall.enter (rs:=[.tmp 2]) 73 [(0,.agg #[.int .i64 d.size,.slice pe d.ext.length ce,.slice pw d.waits.length cw,.int .i64 d.fuse,.bool d.down,.slice pf fr.length cf,.int .u64 tick,.int .u64 reads,.int .u64 writes])] Tryz.func17 rfl rfl (Nat.le_of_ble_eq_true rfl) rfl ⟨rfl,trivial⟩ ?_
    refine k_a ?_
    refine k_b9 rfl ?_
    intro b1 f1
    have g1:=f1
    repeat ((with_reducible replace g1:=fresh_set g1);obtain ⟨g1,_⟩:=g1)
    try simp only [k_l1,k_l0,k_za,Nat.reduceAdd]
    refine k_e rfl ?_
    refine named (S:=S) (b:=b1) g1.1 ?_
    intro T1 hT1 kb1
    replace hE:=hE.less hT1
    replace hW:=hW.less hT1
    replace hF:=hF.less hT1
    refine AWP.seq (k_a ?_)
    refine rC (Calm.fieldAddr ty_field_29_0 rfl) ?_
    refine k_5 ty_agg_25 ty_size_25 rfl ?_
    refine ARun.call (lit_lt rfl) go_53 rfl (hck _ (hdk.less (hT1.trans less_))) ?_
    rintro _ S1 ⟨rfl,h1⟩
    rw [h1];clear h1 S1
    refine rC (Calm.bin rfl rfl b_neq) ?_
    refine k_m rfl ?_
    first|refine k_q 11 ?_|refine rG 11 (Calm.fieldAddr ty_field_29_1 rfl) ?_
    first|refine k_q 11 ?_|refine rG 11 (ld_ ty_plain_26 rfl) ?_
    first|refine k_q 11 ?_|refine rG 11 (Calm.lenSl Tryz.underlying26 rfl) ?_
    first|refine k_q 11 ?_|refine rG 11 (Calm.bin rfl rfl (bin_bool (bin_lss _ _) (decide_eq_false (by omega)))) ?_
    first|refine k_t rfl rfl ?_|refine k_f rfl rfl ?_
    refine k_m rfl ?_
    first|refine k_q 17 ?_|refine rG 17 (Calm.fieldAddr ty_field_29_1 rfl) ?_
    first|refine k_q 17 ?_|refine rG 17 (ld_ ty_plain_26 rfl) ?_
    first|refine k_q 17 ?_|refine rG 17 (Calm.lenSl Tryz.underlying26 rfl) ?_
    first|refine k_q 17 ?_|refine rG 17 (Calm.bin rfl rfl (bin_bool (bin_gtr _ _) (decide_eq_false (by omega)))) ?_
    first|refine k_t rfl rfl ?_|refine k_f rfl rfl ?_
    refine k_n ?_
    refine k_u [(0,_),(1,_),(2,_),(22,_)] ?_
    refine k_F rfl ?_
    refine k_k (AWP.seq (k_a ?_))
    refine rC (Calm.fieldAddr ty_field_29_1 rfl) ?_
    refine rC (ld_ ty_plain_26 rfl) ?_
    refine rC (Calm.lenSl Tryz.underlying26 rfl) ?_
    refine k_m rfl (k_n ?_)
    refine k_u [(0,_),(1,_),(2,_),(22,_),(24,_),(25,_),(26,_)] ?_
    refine AWP.block ?_
    refine AWP.loop (X:=Nat) (fun x=>[(1,.pointer (some ⟨b1,0,none⟩)),(24,.slice pf fr.length cf),(25,.int .i64 fr.length),(26,.int .i64 x)]) (fun x=>T1) (fun x=>x≤fr.length ∧ ∀ i (h:i<fr.length),i<x→Sound d fr[i] tick ∧ ∀ y ∈ fr.take i,¬ like fr[i] y) (fun x=>fr.length-x) (0) ⟨rfl,rfl,rfl,rfl,trivial⟩ (Mem.Less.refl _) (⟨Nat.zero_le _,fun i _ h=>absurd h (Nat.not_lt_zero _)⟩) ?_
    rintro i ⟨hi,hall⟩
    (try dsimp only at *)
    refine k_a ?_
    refine rC (Calm.bin rfl rfl b_lss) ?_
    refine k_n (AWP.seq ?_)
    refine AWP.condB rfl (fun hc=>?_) (fun hc=>?_)
    ·have hc:i<fr.length:=by have:=of_decide_eq_true hc;omega
     obtain ⟨b,off,rfl,hk⟩:=hF3.resolve_left (fun e=>by rw [e] at hc;simp at hc)
     have hki:=(hk i hc).less hT1
     have hbad:=fun (h : ¬ (Sound d fr[i] tick ∧ ∀ y ∈ fr.take i,¬ like fr[i] y))=>chkP_no (p:=⟨d,fr,tick,reads,writes⟩) (fun hr=>h (hr.ok i hc))
     have hgood:(Sound d fr[i] tick ∧ ∀ y ∈ fr.take i,¬ like fr[i] y) → ∀ j (h:j<fr.length),j<i+1→Sound d fr[j] tick ∧ ∀ y ∈ fr.take j,¬ like fr[j] y:=fun hg j h hj=>by rcases Nat.lt_or_ge j i with h' | h';exact hall j h h';obtain rfl:j=i:=(by omega);exact hg
     have hst:=sl_takeP hF (k:=i) hi
     have htl:(fr.take i).length=i:=by simp;omega
     generalize fr[i]=x at *
     unfold frF at hki
     have cs:=fun S h1 h2=>rp_frame d pe pw (some ⟨b,off,none⟩) ce cw cf fr.length x tick reads writes S h1 h2 q1 hz
     have cx:=fun S=>rp_holds x S
     unfold frV at cs cx
     by_cases q4:Sound d x tick
     ·rw [decide_eq_true q4] at cs
      refine k_k (AWP.seq ?_)
      refine AWP.block ?_
      refine k_a (k_m rfl ?_)
      refine rC (Calm.indexS Tryz.underlying26 ty_size_62 rfl rfl (by omega) (by omega)) ?_
      refine k_7 ty_agg_62 ty_size_62 rfl ?_
      refine ARun.alloc (lit_lt rfl) ty_zero_62 ?_
      intro b4 f4
      have g4:=f4
      repeat ((with_reducible replace g4:=fresh_set g4);obtain ⟨g4,_⟩:=g4)
      have:=g4.ne kb1;have:=g4.ne' kb1
      try simp only [k_l1,k_l0,k_za,Nat.reduceAdd]
      refine k_s rfl ?_
      first|refine k_A rfl rfl ty_size_62 ?_|refine k_B rfl rfl ty_size_62 ?_
      try simp only [k_ms,k_sz,k_ss,k_za,Nat.reduceAdd]
      refine k_n ?_
      refine k_u [(1,_),(24,_),(25,_),(26,_),(27,_),(4,_),(3,_)] ?_
      refine named (S:=T1) (b:=b4) g4.1 ?_
      intro T4 hT4 kb4
      replace hE:=hE.less hT4
      replace hW:=hW.less hT4
      replace hF:=hF.less hT4
      replace kb1:=hT4.own kb1
      replace hst:=hst.less hT4
      refine AWP.seq (k_a ?_)
      refine k_9 ty_agg_29 ty_size_29 rfl ?_
      refine k_7 ty_agg_62 ty_size_62 rfl ?_
      refine ARun.call (lit_lt rfl) go_54 rfl (cs _ (hE.less less_) (hW.less less_)) ?_
      rintro _ S1 ⟨rfl,h1⟩
      rw [h1];clear h1 S1
      refine rC (Calm.un rfl (una_not _)) ?_
      refine k_n ?_
      refine k_u [(1,_),(24,_),(25,_),(26,_),(27,_),(4,_),(3,_),(34,_)] ?_
      refine k_F rfl ?_
      generalize hls:fr.take i=ls at *
      clear hall
      refine k_k (k_a ?_)
      refine rC (Calm.fieldAddr ty_field_29_1 rfl) ?_
      refine rC (ld_ ty_plain_26 rfl) ?_
      refine k_m rfl ?_
      refine rC ((by first | exact Calm.sliceHead Tryz.underlying26 ty_size_62 rfl (bnd_none _ _) (fun _=>rfl) (bnd_some _ _ rfl (by omega) (by omega)) | exact Calm.sliceNil Tryz.underlying26 ty_size_62 rfl (bnd_none _ _) (by simp) (bnd_zero _ _ rfl) (bnd_none _ _))) ?_
      refine rC (Calm.lenSl Tryz.underlying26 rfl) ?_
      refine k_m rfl (k_n ?_)
      refine k_u [(1,_),(24,_),(25,_),(26,_),(27,_),(4,_),(3,_),(34,_),(38,_),(39,_),(40,_)] ?_
      refine AWP.block ?_
      refine AWP.loop (X:=Nat) (fun z=>[(1,.pointer (some ⟨b1,0,none⟩)),(4,.pointer (some ⟨b4,0,none⟩)),(24,.slice (some ⟨b,off,none⟩) fr.length cf),(25,.int .i64 fr.length),(26,.int .i64 i),(38,.slice (some ⟨b,off,none⟩) i cf),(39,.int .i64 i),(40,.int .i64 z)]) (fun _=>T4) (fun z=>z≤i ∧ ∀ j (h:j<ls.length),j<z → ¬ like x ls[j]) (fun z=>i-z) (0) ⟨rfl,rfl,rfl,rfl,rfl,rfl,rfl,rfl,trivial⟩ (Mem.Less.refl _) (⟨Nat.zero_le _,fun j _ h=>absurd h (Nat.not_lt_zero _)⟩) ?_
      rintro j ⟨hj,hnl⟩
      (try dsimp only at *)
      refine k_a ?_
      refine rC (Calm.bin rfl rfl b_lss) ?_
      refine k_n (AWP.seq ?_)
      refine AWP.condB rfl (fun hcj=>?_) (fun hcj=>?_)
      ·have hcj:j<i:=by have:=of_decide_eq_true hcj;omega
       have hjl:j<ls.length:=by omega
       obtain ⟨_,_,est,_,_,hst3⟩:=id hst
       rw [htl] at est
       cases est
       obtain ⟨_,_,eb,hkj⟩:=hst3.resolve_left (fun e=>by rw [e] at hjl;simp at hjl)
       cases eb
       have hkj:=hkj j hjl
       have hnl' : ¬ like x ls[j] → ∀ a (h:a<ls.length),a<j+1 → ¬ like x ls[a]:=fun hn a h ha=>by rcases Nat.lt_or_ge a j with h' | h';exact hnl a h h';obtain rfl:a=j:=(by omega);exact hn
       have hmem:ls[j] ∈ ls:=List.getElem_mem hjl
       generalize ls[j]=y at *
       unfold frF at hkj
       have cy:=fun S=>rp_holds y S
       unfold frV at cy
       by_cases r1:x.holds
       ·rw [decide_eq_true r1] at cx
        by_cases r2:y.holds
        ·rw [decide_eq_true r2] at cy
         by_cases r3:x.tick=y.tick
         ·refine k_k (AWP.seq ?_)
          refine AWP.block ?_
          refine k_a ?_
          refine rC (Calm.indexS Tryz.underlying26 ty_size_62 rfl rfl (by omega) (by omega)) ?_
          refine k_7 ty_agg_62 ty_size_62 rfl ?_
          refine ARun.alloc (lit_lt rfl) ty_zero_62 ?_
          intro b6 f6
          have g6:=f6
          repeat ((with_reducible replace g6:=fresh_set g6);obtain ⟨g6,_⟩:=g6)
          have:=g6.ne kb1;have:=g6.ne' kb1
          have:=g6.ne kb4;have:=g6.ne' kb4
          try simp only [k_l1,k_l0,k_za,Nat.reduceAdd]
          first|refine k_A rfl rfl ty_size_62 ?_|refine k_B rfl rfl ty_size_62 ?_
          try simp only [k_ms,k_sz,k_ss,k_za,Nat.reduceAdd]
          refine k_n ?_
          refine k_u [(1,_),(4,_),(24,_),(25,_),(26,_),(38,_),(39,_),(40,_),(41,_),(6,_)] ?_
          refine k_a ?_
          refine k_7 ty_agg_62 ty_size_62 rfl ?_
          refine ARun.call (lit_lt rfl) go_55 rfl (cx _) ?_
          rintro _ S1 ⟨rfl,h1⟩
          rw [h1];clear h1 S1
          refine k_m rfl ?_
          first|refine k_q 46 ?_|refine rG 46 (ldA_ (cs:=[_,_,_,_,_,_,_]) ty_agg_62 ty_size_62 rfl) ?_
          refine ARun.callG 2 true 46 rfl (lit_lt rfl) rfl (lit_lt rfl) go_55 rfl (cy _) ?_
          rintro _ S1 ⟨rfl,h1⟩
          rw [h1];clear h1 S1
          first|refine k_t rfl rfl ?_|refine k_f rfl rfl ?_
          refine k_m rfl ?_
          first|refine k_q 50 ?_|refine rG 50 (Calm.fieldAddr ty_field_62_5 rfl) ?_
          first|refine k_q 50 ?_|refine rG 50 (ld_ ty_plain_27 rfl) ?_
          first|refine k_q 50 ?_|refine rG 50 (Calm.fieldAddr ty_field_62_5 rfl) ?_
          first|refine k_q 50 ?_|refine rG 50 (ld_ ty_plain_27 rfl) ?_
          first|refine k_q 50 ?_|refine rG 50 (Calm.bin rfl rfl (bin_bool (bin_eql _ _) (decide_eq_true r3))) ?_
          first|refine k_q 50 ?_|refine rG 50 (Calm.move rfl) ?_
          first|refine k_q 56 ?_|refine rG 56 (Calm.fieldAddr ty_field_62_0 rfl) ?_
          first|refine k_q 56 ?_|refine rG 56 (ld_ ty_plain_9 rfl) ?_
          first|refine k_q 56 ?_|refine rG 56 (Calm.fieldAddr ty_field_62_0 rfl) ?_
          first|refine k_q 56 ?_|refine rG 56 (ld_ ty_plain_9 rfl) ?_
          first|refine k_q 56 ?_|refine rG 56 (Calm.bin rfl rfl (bin_str_eql _ _)) ?_
          first|refine k_q 56 ?_|refine rG 56 (Calm.move rfl) ?_
          first|refine k_q 62 ?_|refine rG 62 (Calm.fieldAddr ty_field_62_1 rfl) ?_
          first|refine k_q 62 ?_|refine rG 62 (ld_ ty_plain_3 rfl) ?_
          first|refine k_q 62 ?_|refine rG 62 (Calm.fieldAddr ty_field_62_1 rfl) ?_
          first|refine k_q 62 ?_|refine rG 62 (ld_ ty_plain_3 rfl) ?_
          first|refine k_q 62 ?_|refine rG 62 (Calm.bin rfl rfl b_eql) ?_
          first|refine k_q 56 ?_|refine rG 56 ((by first | exact Calm.pickT rfl rfl | exact Calm.pickF rfl rfl)) ?_
          first|refine k_q 50 ?_|refine rG 50 ((by first | exact Calm.pickT rfl rfl | exact Calm.pickF rfl rfl)) ?_
          first|refine k_t rfl rfl ?_|refine k_f rfl rfl ?_
          refine k_n ?_
          refine k_u [(1,_),(4,_),(24,_),(25,_),(26,_),(38,_),(39,_),(40,_),(41,_),(6,_),(70,_)] ?_
          refine k_T rfl ?_
          refine k_a (k_e rfl ?_)
          refine AWP.ret ?_
          refine ain_ret ?_
          refine athen_ret ?_
          refine athen_ret ?_
          refine ain_ret ?_
          refine ain_ret ?_
          refine athen_ret ?_
          refine athen_ret ?_
          refine ain_ret ?_
          refine athen_ret ?_
          refine ⟨_,S,⟨_,_,rfl,rfl,rfl⟩,(hT1.trans hT4).trans less_,?_⟩
          exact ⟨by rw [hbad (fun h=>h.2 y hmem ⟨r1,r2,.inl r3⟩)];rfl,rfl⟩
         ·by_cases r4:x.name=y.name
          ·by_cases r5:x.sector=y.sector
           ·refine k_k (AWP.seq ?_)
            refine AWP.block ?_
            refine k_a ?_
            refine rC (Calm.indexS Tryz.underlying26 ty_size_62 rfl rfl (by omega) (by omega)) ?_
            refine k_7 ty_agg_62 ty_size_62 rfl ?_
            refine ARun.alloc (lit_lt rfl) ty_zero_62 ?_
            intro b6 f6
            have g6:=f6
            repeat ((with_reducible replace g6:=fresh_set g6);obtain ⟨g6,_⟩:=g6)
            have:=g6.ne kb1;have:=g6.ne' kb1
            have:=g6.ne kb4;have:=g6.ne' kb4
            try simp only [k_l1,k_l0,k_za,Nat.reduceAdd]
            first|refine k_A rfl rfl ty_size_62 ?_|refine k_B rfl rfl ty_size_62 ?_
            try simp only [k_ms,k_sz,k_ss,k_za,Nat.reduceAdd]
            refine k_n ?_
            refine k_u [(1,_),(4,_),(24,_),(25,_),(26,_),(38,_),(39,_),(40,_),(41,_),(6,_)] ?_
            refine k_a ?_
            refine k_7 ty_agg_62 ty_size_62 rfl ?_
            refine ARun.call (lit_lt rfl) go_55 rfl (cx _) ?_
            rintro _ S1 ⟨rfl,h1⟩
            rw [h1];clear h1 S1
            refine k_m rfl ?_
            first|refine k_q 46 ?_|refine rG 46 (ldA_ (cs:=[_,_,_,_,_,_,_]) ty_agg_62 ty_size_62 rfl) ?_
            refine ARun.callG 2 true 46 rfl (lit_lt rfl) rfl (lit_lt rfl) go_55 rfl (cy _) ?_
            rintro _ S1 ⟨rfl,h1⟩
            rw [h1];clear h1 S1
            first|refine k_t rfl rfl ?_|refine k_f rfl rfl ?_
            refine k_m rfl ?_
            first|refine k_q 50 ?_|refine rG 50 (Calm.fieldAddr ty_field_62_5 rfl) ?_
            first|refine k_q 50 ?_|refine rG 50 (ld_ ty_plain_27 rfl) ?_
            first|refine k_q 50 ?_|refine rG 50 (Calm.fieldAddr ty_field_62_5 rfl) ?_
            first|refine k_q 50 ?_|refine rG 50 (ld_ ty_plain_27 rfl) ?_
            first|refine k_q 50 ?_|refine rG 50 (Calm.bin rfl rfl (bin_bool (bin_eql _ _) (decide_eq_false r3))) ?_
            first|refine k_q 50 ?_|refine rG 50 (Calm.move rfl) ?_
            first|refine k_q 56 ?_|refine rG 56 (Calm.fieldAddr ty_field_62_0 rfl) ?_
            first|refine k_q 56 ?_|refine rG 56 (ld_ ty_plain_9 rfl) ?_
            first|refine k_q 56 ?_|refine rG 56 (Calm.fieldAddr ty_field_62_0 rfl) ?_
            first|refine k_q 56 ?_|refine rG 56 (ld_ ty_plain_9 rfl) ?_
            first|refine k_q 56 ?_|refine rG 56 (Calm.bin rfl rfl (bin_bool (bin_str_eql _ _) (decide_eq_true r4))) ?_
            first|refine k_q 56 ?_|refine rG 56 (Calm.move rfl) ?_
            first|refine k_q 62 ?_|refine rG 62 (Calm.fieldAddr ty_field_62_1 rfl) ?_
            first|refine k_q 62 ?_|refine rG 62 (ld_ ty_plain_3 rfl) ?_
            first|refine k_q 62 ?_|refine rG 62 (Calm.fieldAddr ty_field_62_1 rfl) ?_
            first|refine k_q 62 ?_|refine rG 62 (ld_ ty_plain_3 rfl) ?_
            first|refine k_q 62 ?_|refine rG 62 (Calm.bin rfl rfl (bin_bool (bin_eql _ _) (decide_eq_true r5))) ?_
            first|refine k_q 56 ?_|refine rG 56 ((by first | exact Calm.pickT rfl rfl | exact Calm.pickF rfl rfl)) ?_
            first|refine k_q 50 ?_|refine rG 50 ((by first | exact Calm.pickT rfl rfl | exact Calm.pickF rfl rfl)) ?_
            first|refine k_t rfl rfl ?_|refine k_f rfl rfl ?_
            refine k_n ?_
            refine k_u [(1,_),(4,_),(24,_),(25,_),(26,_),(38,_),(39,_),(40,_),(41,_),(6,_),(70,_)] ?_
            refine k_T rfl ?_
            refine k_a (k_e rfl ?_)
            refine AWP.ret ?_
            refine ain_ret ?_
            refine athen_ret ?_
            refine athen_ret ?_
            refine ain_ret ?_
            refine ain_ret ?_
            refine athen_ret ?_
            refine athen_ret ?_
            refine ain_ret ?_
            refine athen_ret ?_
            refine ⟨_,S,⟨_,_,rfl,rfl,rfl⟩,(hT1.trans hT4).trans less_,?_⟩
            exact ⟨by rw [hbad (fun h=>h.2 y hmem ⟨r1,r2,.inr ⟨r4,r5⟩⟩)];rfl,rfl⟩
           ·refine k_k (AWP.seq ?_)
            refine AWP.block ?_
            refine k_a ?_
            refine rC (Calm.indexS Tryz.underlying26 ty_size_62 rfl rfl (by omega) (by omega)) ?_
            refine k_7 ty_agg_62 ty_size_62 rfl ?_
            refine ARun.alloc (lit_lt rfl) ty_zero_62 ?_
            intro b6 f6
            have g6:=f6
            repeat ((with_reducible replace g6:=fresh_set g6);obtain ⟨g6,_⟩:=g6)
            have:=g6.ne kb1;have:=g6.ne' kb1
            have:=g6.ne kb4;have:=g6.ne' kb4
            try simp only [k_l1,k_l0,k_za,Nat.reduceAdd]
            first|refine k_A rfl rfl ty_size_62 ?_|refine k_B rfl rfl ty_size_62 ?_
            try simp only [k_ms,k_sz,k_ss,k_za,Nat.reduceAdd]
            refine k_n ?_
            refine k_u [(1,_),(4,_),(24,_),(25,_),(26,_),(38,_),(39,_),(40,_),(41,_),(6,_)] ?_
            refine k_a ?_
            refine k_7 ty_agg_62 ty_size_62 rfl ?_
            refine ARun.call (lit_lt rfl) go_55 rfl (cx _) ?_
            rintro _ S1 ⟨rfl,h1⟩
            rw [h1];clear h1 S1
            refine k_m rfl ?_
            first|refine k_q 46 ?_|refine rG 46 (ldA_ (cs:=[_,_,_,_,_,_,_]) ty_agg_62 ty_size_62 rfl) ?_
            refine ARun.callG 2 true 46 rfl (lit_lt rfl) rfl (lit_lt rfl) go_55 rfl (cy _) ?_
            rintro _ S1 ⟨rfl,h1⟩
            rw [h1];clear h1 S1
            first|refine k_t rfl rfl ?_|refine k_f rfl rfl ?_
            refine k_m rfl ?_
            first|refine k_q 50 ?_|refine rG 50 (Calm.fieldAddr ty_field_62_5 rfl) ?_
            first|refine k_q 50 ?_|refine rG 50 (ld_ ty_plain_27 rfl) ?_
            first|refine k_q 50 ?_|refine rG 50 (Calm.fieldAddr ty_field_62_5 rfl) ?_
            first|refine k_q 50 ?_|refine rG 50 (ld_ ty_plain_27 rfl) ?_
            first|refine k_q 50 ?_|refine rG 50 (Calm.bin rfl rfl (bin_bool (bin_eql _ _) (decide_eq_false r3))) ?_
            first|refine k_q 50 ?_|refine rG 50 (Calm.move rfl) ?_
            first|refine k_q 56 ?_|refine rG 56 (Calm.fieldAddr ty_field_62_0 rfl) ?_
            first|refine k_q 56 ?_|refine rG 56 (ld_ ty_plain_9 rfl) ?_
            first|refine k_q 56 ?_|refine rG 56 (Calm.fieldAddr ty_field_62_0 rfl) ?_
            first|refine k_q 56 ?_|refine rG 56 (ld_ ty_plain_9 rfl) ?_
            first|refine k_q 56 ?_|refine rG 56 (Calm.bin rfl rfl (bin_bool (bin_str_eql _ _) (decide_eq_true r4))) ?_
            first|refine k_q 56 ?_|refine rG 56 (Calm.move rfl) ?_
            first|refine k_q 62 ?_|refine rG 62 (Calm.fieldAddr ty_field_62_1 rfl) ?_
            first|refine k_q 62 ?_|refine rG 62 (ld_ ty_plain_3 rfl) ?_
            first|refine k_q 62 ?_|refine rG 62 (Calm.fieldAddr ty_field_62_1 rfl) ?_
            first|refine k_q 62 ?_|refine rG 62 (ld_ ty_plain_3 rfl) ?_
            first|refine k_q 62 ?_|refine rG 62 (Calm.bin rfl rfl (bin_bool (bin_eql _ _) (decide_eq_false r5))) ?_
            first|refine k_q 56 ?_|refine rG 56 ((by first | exact Calm.pickT rfl rfl | exact Calm.pickF rfl rfl)) ?_
            first|refine k_q 50 ?_|refine rG 50 ((by first | exact Calm.pickT rfl rfl | exact Calm.pickF rfl rfl)) ?_
            first|refine k_t rfl rfl ?_|refine k_f rfl rfl ?_
            refine k_n ?_
            refine k_u [(1,_),(4,_),(24,_),(25,_),(26,_),(38,_),(39,_),(40,_),(41,_),(6,_),(70,_)] ?_
            refine k_F rfl ?_
            refine AWP.skip ?_
            refine ain_n ?_
            refine athen_n ?_
            refine AWP.region ?_
            refine rC (Calm.bin rfl rfl b_add_i64) ?_
            refine k_m rfl (k_n ?_)
            refine ⟨j+1,?_,?_,?_,?_⟩
            all_goals (try dsimp only)
            ·exact ⟨rfl,rfl,rfl,rfl,rfl,rfl,rfl,rfl,trivial⟩
            ·exact less_
            ·exact ⟨by omega,hnl' (fun h=>h.2.2.elim r3 (fun h=>r5 h.2))⟩
            ·omega
          ·refine k_k (AWP.seq ?_)
           refine AWP.block ?_
           refine k_a ?_
           refine rC (Calm.indexS Tryz.underlying26 ty_size_62 rfl rfl (by omega) (by omega)) ?_
           refine k_7 ty_agg_62 ty_size_62 rfl ?_
           refine ARun.alloc (lit_lt rfl) ty_zero_62 ?_
           intro b6 f6
           have g6:=f6
           repeat ((with_reducible replace g6:=fresh_set g6);obtain ⟨g6,_⟩:=g6)
           have:=g6.ne kb1;have:=g6.ne' kb1
           have:=g6.ne kb4;have:=g6.ne' kb4
           try simp only [k_l1,k_l0,k_za,Nat.reduceAdd]
           first|refine k_A rfl rfl ty_size_62 ?_|refine k_B rfl rfl ty_size_62 ?_
           try simp only [k_ms,k_sz,k_ss,k_za,Nat.reduceAdd]
           refine k_n ?_
           refine k_u [(1,_),(4,_),(24,_),(25,_),(26,_),(38,_),(39,_),(40,_),(41,_),(6,_)] ?_
           refine k_a ?_
           refine k_7 ty_agg_62 ty_size_62 rfl ?_
           refine ARun.call (lit_lt rfl) go_55 rfl (cx _) ?_
           rintro _ S1 ⟨rfl,h1⟩
           rw [h1];clear h1 S1
           refine k_m rfl ?_
           first|refine k_q 46 ?_|refine rG 46 (ldA_ (cs:=[_,_,_,_,_,_,_]) ty_agg_62 ty_size_62 rfl) ?_
           refine ARun.callG 2 true 46 rfl (lit_lt rfl) rfl (lit_lt rfl) go_55 rfl (cy _) ?_
           rintro _ S1 ⟨rfl,h1⟩
           rw [h1];clear h1 S1
           first|refine k_t rfl rfl ?_|refine k_f rfl rfl ?_
           refine k_m rfl ?_
           first|refine k_q 50 ?_|refine rG 50 (Calm.fieldAddr ty_field_62_5 rfl) ?_
           first|refine k_q 50 ?_|refine rG 50 (ld_ ty_plain_27 rfl) ?_
           first|refine k_q 50 ?_|refine rG 50 (Calm.fieldAddr ty_field_62_5 rfl) ?_
           first|refine k_q 50 ?_|refine rG 50 (ld_ ty_plain_27 rfl) ?_
           first|refine k_q 50 ?_|refine rG 50 (Calm.bin rfl rfl (bin_bool (bin_eql _ _) (decide_eq_false r3))) ?_
           first|refine k_q 50 ?_|refine rG 50 (Calm.move rfl) ?_
           first|refine k_q 56 ?_|refine rG 56 (Calm.fieldAddr ty_field_62_0 rfl) ?_
           first|refine k_q 56 ?_|refine rG 56 (ld_ ty_plain_9 rfl) ?_
           first|refine k_q 56 ?_|refine rG 56 (Calm.fieldAddr ty_field_62_0 rfl) ?_
           first|refine k_q 56 ?_|refine rG 56 (ld_ ty_plain_9 rfl) ?_
           first|refine k_q 56 ?_|refine rG 56 (Calm.bin rfl rfl (bin_bool (bin_str_eql _ _) (decide_eq_false r4))) ?_
           first|refine k_q 56 ?_|refine rG 56 (Calm.move rfl) ?_
           first|refine k_q 62 ?_|refine rG 62 (Calm.fieldAddr ty_field_62_1 rfl) ?_
           first|refine k_q 62 ?_|refine rG 62 (ld_ ty_plain_3 rfl) ?_
           first|refine k_q 62 ?_|refine rG 62 (Calm.fieldAddr ty_field_62_1 rfl) ?_
           first|refine k_q 62 ?_|refine rG 62 (ld_ ty_plain_3 rfl) ?_
           first|refine k_q 62 ?_|refine rG 62 (Calm.bin rfl rfl b_eql) ?_
           first|refine k_q 56 ?_|refine rG 56 ((by first | exact Calm.pickT rfl rfl | exact Calm.pickF rfl rfl)) ?_
           first|refine k_q 50 ?_|refine rG 50 ((by first | exact Calm.pickT rfl rfl | exact Calm.pickF rfl rfl)) ?_
           first|refine k_t rfl rfl ?_|refine k_f rfl rfl ?_
           refine k_n ?_
           refine k_u [(1,_),(4,_),(24,_),(25,_),(26,_),(38,_),(39,_),(40,_),(41,_),(6,_),(70,_)] ?_
           refine k_F rfl ?_
           refine AWP.skip ?_
           refine ain_n ?_
           refine athen_n ?_
           refine AWP.region ?_
           refine rC (Calm.bin rfl rfl b_add_i64) ?_
           refine k_m rfl (k_n ?_)
           refine ⟨j+1,?_,?_,?_,?_⟩
           all_goals (try dsimp only)
           ·exact ⟨rfl,rfl,rfl,rfl,rfl,rfl,rfl,rfl,trivial⟩
           ·exact less_
           ·exact ⟨by omega,hnl' (fun h=>h.2.2.elim r3 (fun h=>r4 h.1))⟩
           ·omega
        ·rw [decide_eq_false r2] at cy
         refine k_k (AWP.seq ?_)
         refine AWP.block ?_
         refine k_a ?_
         refine rC (Calm.indexS Tryz.underlying26 ty_size_62 rfl rfl (by omega) (by omega)) ?_
         refine k_7 ty_agg_62 ty_size_62 rfl ?_
         refine ARun.alloc (lit_lt rfl) ty_zero_62 ?_
         intro b6 f6
         have g6:=f6
         repeat ((with_reducible replace g6:=fresh_set g6);obtain ⟨g6,_⟩:=g6)
         have:=g6.ne kb1;have:=g6.ne' kb1
         have:=g6.ne kb4;have:=g6.ne' kb4
         try simp only [k_l1,k_l0,k_za,Nat.reduceAdd]
         first|refine k_A rfl rfl ty_size_62 ?_|refine k_B rfl rfl ty_size_62 ?_
         try simp only [k_ms,k_sz,k_ss,k_za,Nat.reduceAdd]
         refine k_n ?_
         refine k_u [(1,_),(4,_),(24,_),(25,_),(26,_),(38,_),(39,_),(40,_),(41,_),(6,_)] ?_
         refine k_a ?_
         refine k_7 ty_agg_62 ty_size_62 rfl ?_
         refine ARun.call (lit_lt rfl) go_55 rfl (cx _) ?_
         rintro _ S1 ⟨rfl,h1⟩
         rw [h1];clear h1 S1
         refine k_m rfl ?_
         first|refine k_q 46 ?_|refine rG 46 (ldA_ (cs:=[_,_,_,_,_,_,_]) ty_agg_62 ty_size_62 rfl) ?_
         refine ARun.callG 2 true 46 rfl (lit_lt rfl) rfl (lit_lt rfl) go_55 rfl (cy _) ?_
         rintro _ S1 ⟨rfl,h1⟩
         rw [h1];clear h1 S1
         first|refine k_t rfl rfl ?_|refine k_f rfl rfl ?_
         refine k_m rfl ?_
         first|refine k_q 50 ?_|refine rG 50 (Calm.fieldAddr ty_field_62_5 rfl) ?_
         first|refine k_q 50 ?_|refine rG 50 (ld_ ty_plain_27 rfl) ?_
         first|refine k_q 50 ?_|refine rG 50 (Calm.fieldAddr ty_field_62_5 rfl) ?_
         first|refine k_q 50 ?_|refine rG 50 (ld_ ty_plain_27 rfl) ?_
         first|refine k_q 50 ?_|refine rG 50 (Calm.bin rfl rfl b_eql) ?_
         first|refine k_q 50 ?_|refine rG 50 (Calm.move rfl) ?_
         first|refine k_q 56 ?_|refine rG 56 (Calm.fieldAddr ty_field_62_0 rfl) ?_
         first|refine k_q 56 ?_|refine rG 56 (ld_ ty_plain_9 rfl) ?_
         first|refine k_q 56 ?_|refine rG 56 (Calm.fieldAddr ty_field_62_0 rfl) ?_
         first|refine k_q 56 ?_|refine rG 56 (ld_ ty_plain_9 rfl) ?_
         first|refine k_q 56 ?_|refine rG 56 (Calm.bin rfl rfl (bin_str_eql _ _)) ?_
         first|refine k_q 56 ?_|refine rG 56 (Calm.move rfl) ?_
         first|refine k_q 62 ?_|refine rG 62 (Calm.fieldAddr ty_field_62_1 rfl) ?_
         first|refine k_q 62 ?_|refine rG 62 (ld_ ty_plain_3 rfl) ?_
         first|refine k_q 62 ?_|refine rG 62 (Calm.fieldAddr ty_field_62_1 rfl) ?_
         first|refine k_q 62 ?_|refine rG 62 (ld_ ty_plain_3 rfl) ?_
         first|refine k_q 62 ?_|refine rG 62 (Calm.bin rfl rfl b_eql) ?_
         first|refine k_q 56 ?_|refine rG 56 ((by first | exact Calm.pickT rfl rfl | exact Calm.pickF rfl rfl)) ?_
         first|refine k_q 50 ?_|refine rG 50 ((by first | exact Calm.pickT rfl rfl | exact Calm.pickF rfl rfl)) ?_
         first|refine k_t rfl rfl ?_|refine k_f rfl rfl ?_
         refine k_n ?_
         refine k_u [(1,_),(4,_),(24,_),(25,_),(26,_),(38,_),(39,_),(40,_),(41,_),(6,_),(70,_)] ?_
         refine k_F rfl ?_
         refine AWP.skip ?_
         refine ain_n ?_
         refine athen_n ?_
         refine AWP.region ?_
         refine rC (Calm.bin rfl rfl b_add_i64) ?_
         refine k_m rfl (k_n ?_)
         refine ⟨j+1,?_,?_,?_,?_⟩
         all_goals (try dsimp only)
         ·exact ⟨rfl,rfl,rfl,rfl,rfl,rfl,rfl,rfl,trivial⟩
         ·exact less_
         ·exact ⟨by omega,hnl' (fun h=>r2 h.2.1)⟩
         ·omega
       ·rw [decide_eq_false r1] at cx
        refine k_k (AWP.seq ?_)
        refine AWP.block ?_
        refine k_a ?_
        refine rC (Calm.indexS Tryz.underlying26 ty_size_62 rfl rfl (by omega) (by omega)) ?_
        refine k_7 ty_agg_62 ty_size_62 rfl ?_
        refine ARun.alloc (lit_lt rfl) ty_zero_62 ?_
        intro b6 f6
        have g6:=f6
        repeat ((with_reducible replace g6:=fresh_set g6);obtain ⟨g6,_⟩:=g6)
        have:=g6.ne kb1;have:=g6.ne' kb1
        have:=g6.ne kb4;have:=g6.ne' kb4
        try simp only [k_l1,k_l0,k_za,Nat.reduceAdd]
        first|refine k_A rfl rfl ty_size_62 ?_|refine k_B rfl rfl ty_size_62 ?_
        try simp only [k_ms,k_sz,k_ss,k_za,Nat.reduceAdd]
        refine k_n ?_
        refine k_u [(1,_),(4,_),(24,_),(25,_),(26,_),(38,_),(39,_),(40,_),(41,_),(6,_)] ?_
        refine k_a ?_
        refine k_7 ty_agg_62 ty_size_62 rfl ?_
        refine ARun.call (lit_lt rfl) go_55 rfl (cx _) ?_
        rintro _ S1 ⟨rfl,h1⟩
        rw [h1];clear h1 S1
        refine k_m rfl ?_
        first|refine k_q 46 ?_|refine rG 46 (ldA_ (cs:=[_,_,_,_,_,_,_]) ty_agg_62 ty_size_62 rfl) ?_
        first | refine rS 46 ?_ | refine rU 46 ?_
        first|refine k_t rfl rfl ?_|refine k_f rfl rfl ?_
        refine k_m rfl ?_
        first|refine k_q 50 ?_|refine rG 50 (Calm.fieldAddr ty_field_62_5 rfl) ?_
        first|refine k_q 50 ?_|refine rG 50 (ld_ ty_plain_27 rfl) ?_
        first|refine k_q 50 ?_|refine rG 50 (Calm.fieldAddr ty_field_62_5 rfl) ?_
        first|refine k_q 50 ?_|refine rG 50 (ld_ ty_plain_27 rfl) ?_
        first|refine k_q 50 ?_|refine rG 50 (Calm.bin rfl rfl b_eql) ?_
        first|refine k_q 50 ?_|refine rG 50 (Calm.move rfl) ?_
        first|refine k_q 56 ?_|refine rG 56 (Calm.fieldAddr ty_field_62_0 rfl) ?_
        first|refine k_q 56 ?_|refine rG 56 (ld_ ty_plain_9 rfl) ?_
        first|refine k_q 56 ?_|refine rG 56 (Calm.fieldAddr ty_field_62_0 rfl) ?_
        first|refine k_q 56 ?_|refine rG 56 (ld_ ty_plain_9 rfl) ?_
        first|refine k_q 56 ?_|refine rG 56 (Calm.bin rfl rfl (bin_str_eql _ _)) ?_
        first|refine k_q 56 ?_|refine rG 56 (Calm.move rfl) ?_
        first|refine k_q 62 ?_|refine rG 62 (Calm.fieldAddr ty_field_62_1 rfl) ?_
        first|refine k_q 62 ?_|refine rG 62 (ld_ ty_plain_3 rfl) ?_
        first|refine k_q 62 ?_|refine rG 62 (Calm.fieldAddr ty_field_62_1 rfl) ?_
        first|refine k_q 62 ?_|refine rG 62 (ld_ ty_plain_3 rfl) ?_
        first|refine k_q 62 ?_|refine rG 62 (Calm.bin rfl rfl b_eql) ?_
        first|refine k_q 56 ?_|refine rG 56 ((by first | exact Calm.pickT rfl rfl | exact Calm.pickF rfl rfl)) ?_
        first|refine k_q 50 ?_|refine rG 50 ((by first | exact Calm.pickT rfl rfl | exact Calm.pickF rfl rfl)) ?_
        first|refine k_t rfl rfl ?_|refine k_f rfl rfl ?_
        refine k_n ?_
        refine k_u [(1,_),(4,_),(24,_),(25,_),(26,_),(38,_),(39,_),(40,_),(41,_),(6,_),(70,_)] ?_
        refine k_F rfl ?_
        refine AWP.skip ?_
        refine ain_n ?_
        refine athen_n ?_
        refine AWP.region ?_
        refine rC (Calm.bin rfl rfl b_add_i64) ?_
        refine k_m rfl (k_n ?_)
        refine ⟨j+1,?_,?_,?_,?_⟩
        all_goals (try dsimp only)
        ·exact ⟨rfl,rfl,rfl,rfl,rfl,rfl,rfl,rfl,trivial⟩
        ·exact less_
        ·exact ⟨by omega,hnl' (fun h=>r1 h.1)⟩
        ·omega
      ·have hcj:j=i:=by have:=of_decide_eq_false hcj;omega
       refine AWP.exit ?_
       refine athen_exit ?_
       refine athen_exit ?_
       refine ain_same ?_
       refine ain_n ?_
       refine athen_n ?_
       refine AWP.region ?_
       refine rC (Calm.bin rfl rfl b_add_i64) ?_
       refine k_m rfl (k_n ?_)
       refine ⟨i+1,?_,?_,?_,?_⟩
       all_goals (try dsimp only)
       ·exact ⟨rfl,rfl,rfl,rfl,trivial⟩
       ·exact hT4
       ·exact ⟨hc,hgood ⟨q4,fun y hy=>by obtain ⟨a,ha,rfl⟩:=List.getElem_of_mem hy;exact hnl a ha (by omega)⟩⟩
       ·omega
     ·rw [decide_eq_false q4] at cs
      refine k_k (AWP.seq ?_)
      refine AWP.block ?_
      refine k_a (k_m rfl ?_)
      refine rC (Calm.indexS Tryz.underlying26 ty_size_62 rfl rfl (by omega) (by omega)) ?_
      refine k_7 ty_agg_62 ty_size_62 rfl ?_
      refine ARun.alloc (lit_lt rfl) ty_zero_62 ?_
      intro b4 f4
      have g4:=f4
      repeat ((with_reducible replace g4:=fresh_set g4);obtain ⟨g4,_⟩:=g4)
      have:=g4.ne kb1;have:=g4.ne' kb1
      try simp only [k_l1,k_l0,k_za,Nat.reduceAdd]
      refine k_s rfl ?_
      first|refine k_A rfl rfl ty_size_62 ?_|refine k_B rfl rfl ty_size_62 ?_
      try simp only [k_ms,k_sz,k_ss,k_za,Nat.reduceAdd]
      refine k_n ?_
      refine k_u [(1,_),(24,_),(25,_),(26,_),(27,_),(4,_),(3,_)] ?_
      refine AWP.seq (k_a ?_)
      refine k_9 ty_agg_29 ty_size_29 rfl ?_
      refine k_7 ty_agg_62 ty_size_62 rfl ?_
      refine ARun.call (lit_lt rfl) go_54 rfl (cs _ (hE.less less_) (hW.less less_)) ?_
      rintro _ S1 ⟨rfl,h1⟩
      rw [h1];clear h1 S1
      refine rC (Calm.un rfl (una_not _)) ?_
      refine k_n ?_
      refine k_u [(1,_),(24,_),(25,_),(26,_),(27,_),(4,_),(3,_),(34,_)] ?_
      refine k_T rfl ?_
      refine k_a (k_e rfl ?_)
      refine k_r ?_
      refine ain_ret ?_
      refine athen_ret ?_
      refine athen_ret ?_
      refine ain_ret ?_
      refine athen_ret ?_
      refine ⟨_,S,⟨_,_,rfl,rfl,rfl⟩,hT1.trans less_,?_⟩
      exact ⟨by rw [hbad (fun h=>q4 h.1)];rfl,rfl⟩
    ·have hc:i=fr.length:=by have:=of_decide_eq_false hc;omega
     refine AWP.exit ?_
     refine athen_exit ?_
     refine athen_exit ?_
     refine ain_same ?_
     refine athen_n ?_
     refine k_a (k_e rfl ?_)
     refine AWP.ret ?_
     refine ⟨_,S,⟨_,_,rfl,rfl,rfl⟩,hT1.trans less_,?_⟩
     exact ⟨by rw [chkP_yes ⟨q1,by simp only;omega,by simp only;omega,fun j hj=>hall j hj (by have h':j<fr.length:=hj;omega)⟩];rfl,rfl⟩
 ·rw [chkD_no q1] at hck
  rw [chkP_no (fun h=>q1 h.dr)]
  refine ACall.enter (rs:=[.tmp 2]) 73 [(0,.agg #[.int .i64 d.size,.slice pe d.ext.length ce,.slice pw d.waits.length cw,.int .i64 d.fuse,.bool d.down,.slice pf fr.length cf,.int .u64 tick,.int .u64 reads,.int .u64 writes])] Tryz.func17 rfl rfl (Nat.le_of_ble_eq_true rfl) rfl ⟨rfl,trivial⟩ ?_
  refine k_a ?_
  refine k_b9 rfl ?_
  intro b1 f1
  have g1:=f1
  repeat ((with_reducible replace g1:=fresh_set g1);obtain ⟨g1,_⟩:=g1)
  try simp only [k_l1,k_l0,k_za,Nat.reduceAdd]
  refine k_e rfl (AWP.seq (k_a ?_))
  refine rC (Calm.fieldAddr ty_field_29_0 rfl) ?_
  refine k_5 ty_agg_25 ty_size_25 rfl ?_
  refine ARun.call (lit_lt rfl) go_53 rfl (hck _ (hdk.less less_)) ?_
  rintro _ S1 ⟨rfl,h1⟩
  rw [h1];clear h1 S1
  refine rC (Calm.bin rfl rfl b_neq) ?_
  refine k_m rfl ?_
  first|refine k_q 11 ?_|refine rG 11 (Calm.fieldAddr ty_field_29_1 rfl) ?_
  first|refine k_q 11 ?_|refine rG 11 (ld_ ty_plain_26 rfl) ?_
  first|refine k_q 11 ?_|refine rG 11 (Calm.lenSl Tryz.underlying26 rfl) ?_
  first|refine k_q 11 ?_|refine rG 11 (Calm.bin rfl rfl b_lss) ?_
  first|refine k_t rfl rfl ?_|refine k_f rfl rfl ?_
  refine k_m rfl ?_
  first|refine k_q 17 ?_|refine rG 17 (Calm.fieldAddr ty_field_29_1 rfl) ?_
  first|refine k_q 17 ?_|refine rG 17 (ld_ ty_plain_26 rfl) ?_
  first|refine k_q 17 ?_|refine rG 17 (Calm.lenSl Tryz.underlying26 rfl) ?_
  first|refine k_q 17 ?_|refine rG 17 (Calm.bin rfl rfl b_gtr) ?_
  first|refine k_t rfl rfl ?_|refine k_f rfl rfl ?_
  refine k_n ?_
  refine k_u [(0,_),(1,_),(2,_),(22,_)] ?_
  refine k_T rfl ?_
  refine k_a (k_e rfl ?_)
  refine k_r ?_
  refine ⟨_,S,⟨_,_,rfl,rfl,rfl⟩,less_,?_⟩
  exact ⟨rfl,rfl⟩
end Go.Proofs.YtkeiphkccnfhoaaGreat
namespace Go.Proofs.YtkeiphkccnfhoaaGreat
open Go.RowKit
open Mv Disk
set_option maxRecDepth 4000
/-- A pool of the document's, with frames of its own. -/
def RpO (S : Mem) (x : Pl) (r : Value) (T : Mem) : Prop := ∃ B o pe ce pw cw, S.Less B ∧ OkO B o x.fr.length ∧ Sl 2 extF B (.slice pe x.d.ext.length ce) x.d.ext ∧ Sl 3 wrF B (.slice pw x.d.waits.length cw) x.d.waits ∧
  r = .agg #[.int .i64 x.d.size, .slice pe x.d.ext.length ce, .slice pw x.d.waits.length cw, .int .i64 x.d.fuse, .bool x.d.down, outV o x.fr.length, .int .u64 x.tick, .int .u64 x.reads, .int .u64 x.writes] ∧ T = outN 7 B o frT (x.fr.flatMap frF)
theorem RpO.plR {S T : Mem} {x : Pl} {r : Value} (h : RpO S x r T) (hm : x.fr.length ≤ 9223372036854775807) : S.Less T ∧ PlR T r x := by
 obtain ⟨B,o,pe,ce,pw,cw,hl,ho,hE,hW,rfl,rfl⟩:=h
 have h1:=outN_over (n:=7) (e:=frT) (cs:=x.fr.flatMap frF) ho
 have h2:=sl_outN (e:=frT) fr_len ho rfl hm
 obtain ⟨qf,df,hq⟩:=outV_eq ho
 rw [hq] at h2 ⊢
 exact ⟨hl.trans h1,pe,ce,pw,cw,qf,df,rfl,hE.less h1,hW.less h1,h2⟩
theorem copyF_ok {M : Mem} {o : Option (Nat × Nat)} {n b1 b2 : Nat} {e : TypeId} {cs : List Value} {B1 B1' B2 B1'' B2' : Blk} (fa : Fresh M b1) (fb : Fresh (M.set b1 B1) b2) (ho : OkO ((M.set b1 B1').set b2 B2) o n) :
  OkO M o n∧(outN 7 M o e cs).Less (((outN 7 ((M.set b1 B1').set b2 B2) o e cs).set b1 B1'').set b2 B2'):=by
 obtain ⟨fbm,n21⟩:=fresh_set fb
 have nq:∀ q c,o=some (q,c)→b1≠q∧b2≠q∧Fresh M q:=fun q c e=>by
  obtain ⟨g,h2⟩:=fresh_set (ho.own q c e).1
  obtain ⟨g',h1⟩:=fresh_set g
  exact ⟨Ne.symm h1,Ne.symm h2,g'⟩
 refine ⟨⟨ho.nil,fun q c e=>⟨(nq q c e).2.2,(ho.own q c e).2⟩⟩,?_⟩
 have h1:(outN 7 M o e cs).own b1=none:=own_outN_none fa.1 (fun q c e=>(nq q c e).1)
 have h2:(outN 7 M o e cs).own b2=none:=own_outN_none fbm.1 (fun q c e=>(nq q c e).2.1)
 have hl:(outN 7 M o e cs).Less (outN 7 ((M.set b1 B1').set b2 B2) o e cs):=outN_lessM ((Mem.less_set _ _ _ fa.1).trans (Mem.less_set _ _ _ ((Mem.own_set_other _ _ n21).trans fbm.1)))
 exact less_of (LessB.skip (.inr h2) (LessB.skip (.inr h1) (LessB.of hl)))
set_option maxHeartbeats 4000000 in
theorem rp_Copy (v : Value) (x : Pl) (S : Mem) (hp : PlR S v x) (hz : Dz x.d) (hf : x.fr.length * 72 ≤ 140737488351232) :
  ACall Tryz.prog 5 #[v] S (RpO S x):=by
 obtain ⟨pe,ce,pw,cw,pf,cf,rfl,hE,hW,hF⟩:=hp
 have hd:DkR S (.agg #[.int .i64 x.d.size,.slice pe x.d.ext.length ce,.slice pw x.d.waits.length cw,.int .i64 x.d.fuse,.bool x.d.down]) x.d:=⟨pe,ce,pw,cw,rfl,hE,hW⟩
 have hcopy:=rd_CopyW _ x.d S hd hz
 obtain ⟨r1,hr1⟩ : ∃ r:Blk,r=⟨29,[.int .i64 x.d.size,.slice pe x.d.ext.length ce,.slice pw x.d.waits.length cw,.int .i64 x.d.fuse,.bool x.d.down,.slice pf x.fr.length cf,.int .u64 x.tick,.int .u64 x.reads,.int .u64 x.writes],9⟩:=⟨_,rfl⟩
 obtain ⟨r2,hr2⟩ : ∃ r:Blk,r=⟨29,[.int .i64 0,.slice none 0 0,.slice none 0 0,.int .i64 0,.bool false,.slice none 0 0,.int .u64 0,.int .u64 0,.int .u64 0],9⟩:=⟨_,rfl⟩
 refine ACall.enter (rs:=[.cell 2 29]) 13 [(0,.agg #[.int .i64 x.d.size,.slice pe x.d.ext.length ce,.slice pw x.d.waits.length cw,.int .i64 x.d.fuse,.bool x.d.down,.slice pf x.fr.length cf,.int .u64 x.tick,.int .u64 x.reads,.int .u64 x.writes])] Tryz.func5 rfl rfl (Nat.le_of_ble_eq_true rfl) rfl ⟨rfl,trivial⟩ ?_
 refine k_a ?_
 refine k_b9 rfl ?_
 intro b1 f1
 have g1:=f1
 repeat ((with_reducible replace g1:=fresh_set g1);obtain ⟨g1,_⟩:=g1)
 try simp only [k_l1,k_l0,k_za,Nat.reduceAdd]
 refine ARun.alloc (lit_lt rfl) ty_zero_29 ?_
 intro b2 f2
 have g2:=f2
 repeat ((with_reducible replace g2:=fresh_set g2);obtain ⟨g2,_⟩:=g2)
 try simp only [k_l1,k_l0,k_za,Nat.reduceAdd]
 refine k_n (k_a ?_)
 refine rC (Calm.fieldAddr ty_field_29_0 rfl) ?_
 refine k_5 ty_agg_25 ty_size_25 rfl ?_
 refine ARun.call (lit_lt rfl) go_29 rfl ((hcopy.frame f1).frame f2) ?_
 rintro _ S1 ⟨Sa,⟨M,⟨hSM,hdk⟩,fa,hSa⟩,fb,h1⟩
 rw [h1,hSa];rw [hSa] at fb;clear h1 S1 hSa Sa
 obtain ⟨qe,de,qw,dw,rfl,hE2,hW2⟩:=id hdk
 rw [← hr1,← hr2]
 rw [← hr1] at fb
 obtain ⟨fbm,n21⟩:=fresh_set fb
 refine rC (Calm.fieldAddr ty_field_29_0 rfl) ?_
 refine ARun.store (r:=r1) rfl rfl ty_size_25 ((Mem.own_set_other _ _ (Ne.symm n21)).trans (Mem.own_set_same _ _ _)) (by rw [hr1];show 0+0+5≤9;decide) (by simp [Value.cells,Value.oneCell']) ?_
 try simp only [k_ms,k_sz,k_ss,k_za,Nat.reduceAdd]
 refine k_n ?_
 refine k_u [(0,_),(1,_),(2,_)] ?_
 obtain ⟨r1a,hr1a⟩ : ∃ r:Blk,r=⟨29,[.int .i64 x.d.size,.slice qe x.d.ext.length de,.slice qw x.d.waits.length dw,.int .i64 x.d.fuse,.bool x.d.down,.slice pf x.fr.length cf,.int .u64 x.tick,.int .u64 x.reads,.int .u64 x.writes],9⟩:=⟨_,rfl⟩
 refine AWP.less ((M.set b1 r1a).set b2 r2) (less_eq (by rw [set_back M n21,hr1a,hr1];rfl)) ?_
 have g1:((M.set b1 r1a).set b2 r2).own b1=some ⟨29,[.int .i64 x.d.size,.slice qe x.d.ext.length de,.slice qw x.d.waits.length dw,.int .i64 x.d.fuse,.bool x.d.down,.slice pf x.fr.length cf,.int .u64 x.tick,.int .u64 x.reads,.int .u64 x.writes],9⟩:=by rw [← hr1a];exact (Mem.own_set_other _ _ (Ne.symm n21)).trans (Mem.own_set_same _ _ _)
 have g2:((M.set b1 r1a).set b2 r2).own b2=some ⟨29,[.int .i64 0,.slice none 0 0,.slice none 0 0,.int .i64 0,.bool false,.slice none 0 0,.int .u64 0,.int .u64 0,.int .u64 0],9⟩:=by rw [← hr2];exact Mem.own_set_same _ _ _
 have hMT:S.Less ((M.set b1 r1a).set b2 r2):=hSM.trans ((Mem.less_set _ _ _ fa.1).trans (Mem.less_set _ _ _ ((Mem.own_set_other _ _ n21).trans fbm.1)))
 have hcopy:=fun o cs (h:OkO ((M.set b1 r1a).set b2 r2) o x.fr.length) B1'' B2'=>copyF_ok (e:=frT) (cs:=cs) (B1'':=B1'') (B2':=B2') fa fb h
 generalize hTT:(M.set b1 r1a).set b2 r2=TT at *
 refine k_a ?_
 refine ARun.build0 (lit_lt rfl) ty_sl_26 ?_
 intro b7 f7
 have g7:=f7
 repeat ((with_reducible replace g7:=fresh_set g7);obtain ⟨g7,_⟩:=g7)
 have:=g7.ne g1;have:=g7.ne' g1
 have:=g7.ne g2;have:=g7.ne' g2
 refine rC (Calm.fieldAddr ty_field_29_1 rfl) ?_
 refine rC (ld_ ty_plain_26 rfl) ?_
 refine ARun.appendOK (n:=7) (o:=some (b7,0)) (k:=0) (m:=x.fr.length) (cs:=[]) (lit_lt rfl) ty_sl_26 rfl rfl rfl (okO_own f7 (Nat.le_refl _)) (appN_self (okO_own f7 (Nat.le_refl 0)) rfl) rfl (((hF.less hMT).less less_).src fr_len) (flat_length fr_len x.fr) (fr_one x.fr) (by omega) (by omega) ?_
 intro o ho
 rw [Nat.zero_add] at ho ⊢
 rw [List.nil_append]
 have hl:=outN_over (n:=7) (e:=frT) (cs:=x.fr.flatMap frF) ho
 have g1':=hl.1 _ _ g1
 have g2':=hl.1 _ _ g2
 have hco:=hcopy o (x.fr.flatMap frF) ho
 have hres:=fun B1 B2=>(hco B1 B2).2
 have hoM:=(hco r1a r1a).1
 obtain ⟨qf,df,hqf⟩:=outV_eq ho
 rw [hqf]
 generalize outN 7 TT o frT (x.fr.flatMap frF)=T2 at *
 refine rC (Calm.fieldAddr ty_field_29_1 rfl) ?_
 refine ARun.store1 rfl rfl ty_size_26 rfl g1' (show 5<9 from by decide) rfl ?_
 try simp only [k_ms,k_sz,k_ss,k_za,Nat.reduceAdd]
 refine k_n ?_
 refine k_u [(0,_),(1,_),(2,_)] ?_
 refine k_a ?_
 refine k_9 ty_agg_29 ty_size_29 rfl ?_
 first|refine k_A rfl rfl ty_size_29 ?_|refine k_B rfl rfl ty_size_29 ?_
 try simp only [k_ms,k_sz,k_ss,k_za,Nat.reduceAdd]
 refine k_n ?_
 refine k_u [(0,_),(1,_),(2,_)] ?_
 refine AWP.ret ?_
 refine ⟨_,outN 7 M o frT (x.fr.flatMap frF),⟨_,_,_,rfl,.inr ⟨ty_agg_29,[_,_,_,_,_,_,_,_,_],ty_size_29,rds_,rfl⟩,rfl,rfl⟩,hres _ _,?_⟩
 exact ⟨M,o,qe,de,qw,dw,hSM,hoM,hE2,hW2,by rw [hqf];rfl,rfl⟩
theorem rp_CopyR (v : Value) (x : Pl) (S : Mem) (hp : PlR S v x) (hz : Dz x.d) (hf : x.fr.length * 72 ≤ 140737488351232) :
  ACall Tryz.prog 5 #[v] S fun r T=>S.Less T∧PlR T r x :=
 (rp_Copy v x S hp hz hf).mono fun r T h=>h.plR (by omega)
set_option maxHeartbeats 1000000 in
theorem rp_power (v : Value) (x : Pl) (S : Mem) (hp : PlR S v x) (hz : Dz x.d) :
  ACall Tryz.prog 33 #[v] S fun r S'=>r = .int .i64 (openP x).2∧S'=S:=by
 have hck:=fun M h=>rp_Check v x M h hz
 obtain ⟨pe,ce,pw,cw,pf,cf,rfl,hE,hW,hF⟩:=id hp
 rcases openP_or x with ⟨ho,hR⟩ | ⟨ho,hR,hdn⟩ | ⟨ho,hR,hdn⟩ <;> rw [ho]
 ·rw [chkP_no hR] at hck
  refine ACall.enter (rs:=[.tmp 2]) 9 [(0,.agg #[.int .i64 x.d.size,.slice pe x.d.ext.length ce,.slice pw x.d.waits.length cw,.int .i64 x.d.fuse,.bool x.d.down,.slice pf x.fr.length cf,.int .u64 x.tick,.int .u64 x.reads,.int .u64 x.writes])] Tryz.func33 rfl rfl (Nat.le_of_ble_eq_true rfl) rfl ⟨rfl,trivial⟩ ?_
  refine k_a ?_
  refine k_b9 rfl ?_
  intro b1 f1
  have g1:=f1
  repeat ((with_reducible replace g1:=fresh_set g1);obtain ⟨g1,_⟩:=g1)
  try simp only [k_l1,k_l0,k_za,Nat.reduceAdd]
  refine k_e rfl (AWP.seq (k_a ?_))
  refine k_9 ty_agg_29 ty_size_29 rfl ?_
  refine ARun.call (lit_lt rfl) go_17 rfl (hck _ (hp.less less_)) ?_
  rintro _ S1 ⟨rfl,h1⟩
  rw [h1];clear h1 S1
  refine rC (Calm.bin rfl rfl b_neq) ?_
  refine k_n ?_
  refine k_u [(0,_),(1,_),(2,_),(5,_)] ?_
  refine k_T rfl ?_
  refine k_a (k_e rfl ?_)
  refine k_r ?_
  refine ⟨_,S,⟨_,_,rfl,rfl,rfl⟩,less_,?_⟩
  exact ⟨rfl,rfl⟩
 ·rw [chkP_yes hR] at hck
  refine ACall.enter (rs:=[.tmp 2]) 9 [(0,.agg #[.int .i64 x.d.size,.slice pe x.d.ext.length ce,.slice pw x.d.waits.length cw,.int .i64 x.d.fuse,.bool x.d.down,.slice pf x.fr.length cf,.int .u64 x.tick,.int .u64 x.reads,.int .u64 x.writes])] Tryz.func33 rfl rfl (Nat.le_of_ble_eq_true rfl) rfl ⟨rfl,trivial⟩ ?_
  refine k_a ?_
  refine k_b9 rfl ?_
  intro b1 f1
  have g1:=f1
  repeat ((with_reducible replace g1:=fresh_set g1);obtain ⟨g1,_⟩:=g1)
  try simp only [k_l1,k_l0,k_za,Nat.reduceAdd]
  refine k_e rfl (AWP.seq (k_a ?_))
  refine k_9 ty_agg_29 ty_size_29 rfl ?_
  refine ARun.call (lit_lt rfl) go_17 rfl (hck _ (hp.less less_)) ?_
  rintro _ S1 ⟨rfl,h1⟩
  rw [h1];clear h1 S1
  refine rC (Calm.bin rfl rfl b_neq) ?_
  refine k_n ?_
  refine k_u [(0,_),(1,_),(2,_),(5,_)] ?_
  refine k_F rfl ?_
  refine k_k (AWP.seq (k_a ?_))
  refine rC (Calm.fieldAddr ty_field_29_0 rfl) ?_
  refine rC (Calm.fieldAddr ty_field_25_4 rfl) ?_
  refine rC (Calm.as (congrArg Value.bool hdn) (ld_ ty_plain_4 rfl)) ?_
  refine k_n ?_
  refine k_u [(0,_),(1,_),(2,_),(5,_),(8,_)] ?_
  refine k_T rfl ?_
  refine k_a (k_e rfl ?_)
  refine k_r ?_
  refine ⟨_,S,⟨_,_,rfl,rfl,rfl⟩,less_,?_⟩
  exact ⟨rfl,rfl⟩
 ·rw [chkP_yes hR] at hck
  refine ACall.enter (rs:=[.tmp 2]) 9 [(0,.agg #[.int .i64 x.d.size,.slice pe x.d.ext.length ce,.slice pw x.d.waits.length cw,.int .i64 x.d.fuse,.bool x.d.down,.slice pf x.fr.length cf,.int .u64 x.tick,.int .u64 x.reads,.int .u64 x.writes])] Tryz.func33 rfl rfl (Nat.le_of_ble_eq_true rfl) rfl ⟨rfl,trivial⟩ ?_
  refine k_a ?_
  refine k_b9 rfl ?_
  intro b1 f1
  have g1:=f1
  repeat ((with_reducible replace g1:=fresh_set g1);obtain ⟨g1,_⟩:=g1)
  try simp only [k_l1,k_l0,k_za,Nat.reduceAdd]
  refine k_e rfl (AWP.seq (k_a ?_))
  refine k_9 ty_agg_29 ty_size_29 rfl ?_
  refine ARun.call (lit_lt rfl) go_17 rfl (hck _ (hp.less less_)) ?_
  rintro _ S1 ⟨rfl,h1⟩
  rw [h1];clear h1 S1
  refine rC (Calm.bin rfl rfl b_neq) ?_
  refine k_n ?_
  refine k_u [(0,_),(1,_),(2,_),(5,_)] ?_
  refine k_F rfl ?_
  refine k_k (AWP.seq (k_a ?_))
  refine rC (Calm.fieldAddr ty_field_29_0 rfl) ?_
  refine rC (Calm.fieldAddr ty_field_25_4 rfl) ?_
  refine rC (Calm.as (congrArg Value.bool hdn) (ld_ ty_plain_4 rfl)) ?_
  refine k_n ?_
  refine k_u [(0,_),(1,_),(2,_),(5,_),(8,_)] ?_
  refine k_F rfl ?_
  refine k_k (k_a (k_e rfl ?_))
  refine AWP.ret ?_
  refine ⟨_,S,⟨_,_,rfl,rfl,rfl⟩,less_,?_⟩
  exact ⟨rfl,rfl⟩
def asP (x : Pl) (why : Int) : Pl × Int := if why = 2 then (P0, 2) else (x, why)
set_option maxHeartbeats 1000000 in
theorem rp_as (v : Value) (x : Pl) (why : Int) (S : Mem) (hp : PlR S v x) (hz : Dz x.d) (hf : x.fr.length * 72 ≤ 140737488351232) :
  ACall Tryz.prog 34 #[v,.int .i64 why] S (PlRes (asP x why) S):=by
 have hcopy:=rp_CopyR v x S hp hz hf
 obtain ⟨pe,ce,pw,cw,pf,cf,rfl,hE,hW,hF⟩:=id hp
 unfold asP
 by_cases q:why=2
 ·subst q
  rw [if_pos rfl]
  refine ACall.enter (rs:=[.cell 4 29,.tmp 5]) 13 [(0,.agg #[.int .i64 x.d.size,.slice pe x.d.ext.length ce,.slice pw x.d.waits.length cw,.int .i64 x.d.fuse,.bool x.d.down,.slice pf x.fr.length cf,.int .u64 x.tick,.int .u64 x.reads,.int .u64 x.writes]),(1,.int .i64 2)] Tryz.func34 rfl rfl (Nat.le_of_ble_eq_true rfl) rfl ⟨rfl,rfl,trivial⟩ ?_
  refine k_a ?_
  refine k_b9 rfl ?_
  intro b2 f2
  have g2:=f2
  repeat ((with_reducible replace g2:=fresh_set g2);obtain ⟨g2,_⟩:=g2)
  try simp only [k_l1,k_l0,k_za,Nat.reduceAdd]
  refine ARun.alloc (lit_lt rfl) ty_zero_29 ?_
  intro b4 f4
  have g4:=f4
  repeat ((with_reducible replace g4:=fresh_set g4);obtain ⟨g4,_⟩:=g4)
  try simp only [k_l1,k_l0,k_za,Nat.reduceAdd]
  refine k_e rfl (AWP.seq (k_a (k_m rfl ?_)))
  refine rC (Calm.bin rfl rfl b_eql) ?_
  refine k_n ?_
  refine k_u [(0,_),(1,_),(2,_),(4,_),(5,_),(7,_)] ?_
  refine k_T rfl ?_
  refine k_a ?_
  refine rC (Calm.build (cs:=[_,_,_,_,_,_,_,_,_]) ty_bld_29 rfl rfl) ?_
  refine k_m rfl ?_
  first|refine k_A rfl rfl ty_size_29 ?_|refine k_B rfl rfl ty_size_29 ?_
  try simp only [k_ms,k_sz,k_ss,k_za,Nat.reduceAdd]
  refine k_e rfl ?_
  refine k_u [(0,_),(1,_),(2,_),(4,_),(5,_),(7,_)] ?_
  refine k_r ?_
  refine ⟨_,S,⟨_,_,_,rfl,.inr ⟨ty_agg_29,[_,_,_,_,_,_,_,_,_],ty_size_29,rds_,rfl⟩,⟨_,_,rfl,rfl,rfl⟩,rfl⟩,less_,?_⟩
  exact ⟨_,rfl,Mem.Less.refl _,zero_plR S⟩
 ·rw [if_neg q]
  refine ACall.enter (rs:=[.cell 4 29,.tmp 5]) 13 [(0,.agg #[.int .i64 x.d.size,.slice pe x.d.ext.length ce,.slice pw x.d.waits.length cw,.int .i64 x.d.fuse,.bool x.d.down,.slice pf x.fr.length cf,.int .u64 x.tick,.int .u64 x.reads,.int .u64 x.writes]),(1,.int .i64 why)] Tryz.func34 rfl rfl (Nat.le_of_ble_eq_true rfl) rfl ⟨rfl,rfl,trivial⟩ ?_
  refine k_a ?_
  refine k_b9 rfl ?_
  intro b2 f2
  have g2:=f2
  repeat ((with_reducible replace g2:=fresh_set g2);obtain ⟨g2,_⟩:=g2)
  try simp only [k_l1,k_l0,k_za,Nat.reduceAdd]
  refine ARun.alloc (lit_lt rfl) ty_zero_29 ?_
  intro b4 f4
  have g4:=f4
  repeat ((with_reducible replace g4:=fresh_set g4);obtain ⟨g4,_⟩:=g4)
  try simp only [k_l1,k_l0,k_za,Nat.reduceAdd]
  refine k_e rfl (AWP.seq (k_a (k_m rfl ?_)))
  refine rC (Calm.bin rfl rfl (bin_bool (bin_eql _ _) (decide_eq_false q))) ?_
  refine k_n ?_
  refine k_u [(0,_),(1,_),(2,_),(4,_),(5,_),(7,_)] ?_
  refine k_F rfl ?_
  refine k_k (k_a ?_)
  refine k_9 ty_agg_29 ty_size_29 rfl ?_
  refine ARun.call (lit_lt rfl) go_5 rfl ((hcopy.frame f2).frame f4) ?_
  rintro _ S1 ⟨Sa,⟨M,⟨hSM,hpl⟩,fa,hSa⟩,fb,h1⟩
  rw [h1,hSa];rw [hSa] at fb;clear h1 S1 hSa Sa
  obtain ⟨fbm,n21⟩:=fresh_set fb
  obtain ⟨qe,de,qw,dw,qf,df,rfl,hE2,hW2,hF2⟩:=id hpl
  refine k_m rfl ?_
  first|refine k_A rfl rfl ty_size_29 ?_|refine k_B rfl rfl ty_size_29 ?_
  try simp only [k_ms,k_sz,k_ss,k_za,Nat.reduceAdd]
  refine k_e rfl ?_
  refine k_u [(0,_),(1,_),(2,_),(4,_),(5,_),(7,_)] ?_
  refine AWP.ret ?_
  refine ⟨_,M,⟨_,_,_,rfl,.inr ⟨ty_agg_29,[_,_,_,_,_,_,_,_,_],ty_size_29,rds_,rfl⟩,⟨_,_,rfl,rfl,rfl⟩,rfl⟩,less_,?_⟩
  exact ⟨_,rfl,hSM,hpl⟩
end Go.Proofs.YtkeiphkccnfhoaaGreat
namespace Go.Proofs.YtkeiphkccnfhoaaGreat
open Go.RowKit
open Mv Disk
set_option maxRecDepth 4000
set_option maxHeartbeats 2000000 in
theorem rp_may (v : Value) (x : Pl) (S : Mem) (hp : PlR S v x) (h256 : x.fr.length ≤ 256) :
  ACall Tryz.prog 57 #[v] S fun r S'=>r = .int .i64 (idlesP x:Nat)∧S'=S:=by
 obtain ⟨pe,ce,pw,cw,pf,cf,rfl,hE,hW,hF⟩:=hp
 obtain ⟨_,_,ef1,ef2,ef3,hF3⟩:=id hF
 cases ef1
 unfold idlesP
 refine ACall.enter (rs:=[.tmp 2]) 29 [(0,.agg #[.int .i64 x.d.size,.slice pe x.d.ext.length ce,.slice pw x.d.waits.length cw,.int .i64 x.d.fuse,.bool x.d.down,.slice pf x.fr.length cf,.int .u64 x.tick,.int .u64 x.reads,.int .u64 x.writes])] Tryz.func57 rfl rfl (Nat.le_of_ble_eq_true rfl) rfl ⟨rfl,trivial⟩ ?_
 refine k_a ?_
 refine k_b9 rfl ?_
 intro b1 f1
 have g1:=f1
 repeat ((with_reducible replace g1:=fresh_set g1);obtain ⟨g1,_⟩:=g1)
 try simp only [k_l1,k_l0,k_za,Nat.reduceAdd]
 refine k_e rfl ?_
 refine named (S:=S) (b:=b1) g1.1 ?_
 intro T1 hT1 kb1
 replace hF:=hF.less hT1
 refine k_a (k_e rfl (AWP.seq (k_a ?_)))
 refine rC (Calm.fieldAddr ty_field_29_1 rfl) ?_
 refine rC (ld_ ty_plain_26 rfl) ?_
 refine rC (Calm.lenSl Tryz.underlying26 rfl) ?_
 refine k_m rfl (k_n ?_)
 refine k_u [(0,_),(1,_),(2,_),(3,_),(7,_),(8,_),(9,_)] ?_
 refine AWP.block ?_
 refine AWP.loop (X:=Nat) (fun y=>[(1,.pointer (some ⟨b1,0,none⟩)),(3,.int .i64 ((x.fr.take y).countP (fun z=>decide z.idle):Nat)),(7,.slice pf x.fr.length cf),(8,.int .i64 x.fr.length),(9,.int .i64 y)]) (fun _=>T1) (fun y=>y≤x.fr.length) (fun y=>x.fr.length-y) (0) ⟨rfl,some_int (by simp),rfl,rfl,rfl,trivial⟩ (Mem.Less.refl _) (Nat.zero_le _) ?_
 rintro i hi
 (try dsimp only at *)
 refine k_a ?_
 refine rC (Calm.bin rfl rfl b_lss) ?_
 refine k_n (AWP.seq ?_)
 refine AWP.condB rfl (fun hc=>?_) (fun hc=>?_)
 ·have hc:i<x.fr.length:=by have:=of_decide_eq_true hc;omega
  obtain ⟨bf,off,rfl,hk⟩:=hF3.resolve_left (fun e=>by rw [e] at hc;simp at hc)
  have hki:=(hk i hc).less hT1
  have t1:=count_take (q:=fun z=>decide z.idle) hc
  have u1:=count_le (q:=fun z=>decide z.idle) x.fr (i+1)
  generalize x.fr[i]=y at *
  have ch:=fun S=>rp_holds y S
  unfold frV at ch
  unfold frF at hki
  by_cases q1:y=F0
  ·simp only [show y.idle from .inl q1,decide_true,if_true] at t1
   refine k_k (AWP.seq ?_)
   refine AWP.block ?_
   refine k_a ?_
   refine rC (Calm.indexS Tryz.underlying26 ty_size_62 rfl rfl (by omega) (by omega)) ?_
   refine k_7 ty_agg_62 ty_size_62 rfl ?_
   refine ARun.alloc (lit_lt rfl) ty_zero_62 ?_
   intro b5 f5
   have g5:=f5
   repeat ((with_reducible replace g5:=fresh_set g5);obtain ⟨g5,_⟩:=g5)
   have:=g5.ne kb1;have:=g5.ne' kb1
   try simp only [k_l1,k_l0,k_za,Nat.reduceAdd]
   first|refine k_A rfl rfl ty_size_62 ?_|refine k_B rfl rfl ty_size_62 ?_
   try simp only [k_ms,k_sz,k_ss,k_za,Nat.reduceAdd]
   refine k_n ?_
   refine k_u [(1,_),(3,_),(7,_),(8,_),(9,_),(10,_),(5,_)] ?_
   refine k_a ?_
   refine k_7 ty_agg_62 ty_size_62 rfl ?_
   refine rC (Calm.build (cs:=[_,_,_,_,_,_,_]) ty_bld_62 rfl rfl) ?_
   refine rC (Calm.bin rfl rfl (bin_bool (bin_eql_frame y F0) (decide_eq_true q1))) ?_
   refine k_m rfl ?_
   first|refine k_q 16 ?_|refine rG 16 (ldA_ (cs:=[_,_,_,_,_,_,_]) ty_agg_62 ty_size_62 rfl) ?_
   first | refine rS 16 ?_ | refine rU 16 ?_
   first|refine k_q 16 ?_|refine rG 16 (Calm.move rfl) ?_
   first|refine k_q 19 ?_|refine rG 19 (Calm.fieldAddr ty_field_62_3 rfl) ?_
   first|refine k_q 19 ?_|refine rG 19 (ld_ ty_plain_3 rfl) ?_
   first|refine k_q 19 ?_|refine rG 19 (Calm.bin rfl rfl b_eql) ?_
   first|refine k_q 16 ?_|refine rG 16 ((by first | exact Calm.pickT rfl rfl | exact Calm.pickF rfl rfl)) ?_
   first|refine k_t rfl rfl ?_|refine k_f rfl rfl ?_
   refine k_n ?_
   refine k_u [(1,_),(3,_),(7,_),(8,_),(9,_),(10,_),(5,_),(24,_)] ?_
   refine k_T rfl ?_
   refine AWP.region ?_
   refine k_m rfl ?_
   refine rC (Calm.bin rfl rfl b_add_i64) ?_
   refine k_s rfl ?_
   refine arun_nil ?_
   refine ain_n ?_
   refine athen_n ?_
   refine k_u [(1,_),(3,_),(7,_),(8,_),(9,_),(10,_),(5,_),(24,_)] ?_
   refine AWP.region ?_
   refine rC (Calm.bin rfl rfl b_add_i64) ?_
   refine k_m rfl (k_n ?_)
   refine ⟨i+1,?_,?_,?_,?_⟩
   all_goals (try dsimp only)
   ·exact ⟨rfl,some_int (by omega),rfl,rfl,rfl,trivial⟩
   ·exact less_
   ·exact hc
   ·omega
  ·by_cases q2:y.holds
   ·rw [decide_eq_true q2] at ch
    by_cases q3:y.pins=0
    ·simp only [show y.idle from .inr ⟨q2,q3⟩,decide_true,if_true] at t1
     refine k_k (AWP.seq ?_)
     refine AWP.block ?_
     refine k_a ?_
     refine rC (Calm.indexS Tryz.underlying26 ty_size_62 rfl rfl (by omega) (by omega)) ?_
     refine k_7 ty_agg_62 ty_size_62 rfl ?_
     refine ARun.alloc (lit_lt rfl) ty_zero_62 ?_
     intro b5 f5
     have g5:=f5
     repeat ((with_reducible replace g5:=fresh_set g5);obtain ⟨g5,_⟩:=g5)
     have:=g5.ne kb1;have:=g5.ne' kb1
     try simp only [k_l1,k_l0,k_za,Nat.reduceAdd]
     first|refine k_A rfl rfl ty_size_62 ?_|refine k_B rfl rfl ty_size_62 ?_
     try simp only [k_ms,k_sz,k_ss,k_za,Nat.reduceAdd]
     refine k_n ?_
     refine k_u [(1,_),(3,_),(7,_),(8,_),(9,_),(10,_),(5,_)] ?_
     refine k_a ?_
     refine k_7 ty_agg_62 ty_size_62 rfl ?_
     refine rC (Calm.build (cs:=[_,_,_,_,_,_,_]) ty_bld_62 rfl rfl) ?_
     refine rC (Calm.bin rfl rfl (bin_bool (bin_eql_frame y F0) (decide_eq_false q1))) ?_
     refine k_m rfl ?_
     first|refine k_q 16 ?_|refine rG 16 (ldA_ (cs:=[_,_,_,_,_,_,_]) ty_agg_62 ty_size_62 rfl) ?_
     refine ARun.callG 3 false 16 rfl (lit_lt rfl) rfl (lit_lt rfl) go_55 rfl (ch _) ?_
     rintro _ S1 ⟨rfl,h1⟩
     rw [h1];clear h1 S1
     first|refine k_q 16 ?_|refine rG 16 (Calm.move rfl) ?_
     first|refine k_q 19 ?_|refine rG 19 (Calm.fieldAddr ty_field_62_3 rfl) ?_
     first|refine k_q 19 ?_|refine rG 19 (ld_ ty_plain_3 rfl) ?_
     first|refine k_q 19 ?_|refine rG 19 (Calm.bin rfl rfl (bin_bool (bin_eql _ _) (decide_eq_true q3))) ?_
     first|refine k_q 16 ?_|refine rG 16 ((by first | exact Calm.pickT rfl rfl | exact Calm.pickF rfl rfl)) ?_
     first|refine k_t rfl rfl ?_|refine k_f rfl rfl ?_
     refine k_n ?_
     refine k_u [(1,_),(3,_),(7,_),(8,_),(9,_),(10,_),(5,_),(24,_)] ?_
     refine k_T rfl ?_
     refine AWP.region ?_
     refine k_m rfl ?_
     refine rC (Calm.bin rfl rfl b_add_i64) ?_
     refine k_s rfl ?_
     refine arun_nil ?_
     refine ain_n ?_
     refine athen_n ?_
     refine k_u [(1,_),(3,_),(7,_),(8,_),(9,_),(10,_),(5,_),(24,_)] ?_
     refine AWP.region ?_
     refine rC (Calm.bin rfl rfl b_add_i64) ?_
     refine k_m rfl (k_n ?_)
     refine ⟨i+1,?_,?_,?_,?_⟩
     all_goals (try dsimp only)
     ·exact ⟨rfl,some_int (by omega),rfl,rfl,rfl,trivial⟩
     ·exact less_
     ·exact hc
     ·omega
    ·simp only [show ¬ y.idle from fun h=>h.elim q1 (fun h=>q3 h.2),decide_false,Bool.false_eq_true,if_false,Nat.add_zero] at t1
     refine k_k (AWP.seq ?_)
     refine AWP.block ?_
     refine k_a ?_
     refine rC (Calm.indexS Tryz.underlying26 ty_size_62 rfl rfl (by omega) (by omega)) ?_
     refine k_7 ty_agg_62 ty_size_62 rfl ?_
     refine ARun.alloc (lit_lt rfl) ty_zero_62 ?_
     intro b5 f5
     have g5:=f5
     repeat ((with_reducible replace g5:=fresh_set g5);obtain ⟨g5,_⟩:=g5)
     have:=g5.ne kb1;have:=g5.ne' kb1
     try simp only [k_l1,k_l0,k_za,Nat.reduceAdd]
     first|refine k_A rfl rfl ty_size_62 ?_|refine k_B rfl rfl ty_size_62 ?_
     try simp only [k_ms,k_sz,k_ss,k_za,Nat.reduceAdd]
     refine k_n ?_
     refine k_u [(1,_),(3,_),(7,_),(8,_),(9,_),(10,_),(5,_)] ?_
     refine k_a ?_
     refine k_7 ty_agg_62 ty_size_62 rfl ?_
     refine rC (Calm.build (cs:=[_,_,_,_,_,_,_]) ty_bld_62 rfl rfl) ?_
     refine rC (Calm.bin rfl rfl (bin_bool (bin_eql_frame y F0) (decide_eq_false q1))) ?_
     refine k_m rfl ?_
     first|refine k_q 16 ?_|refine rG 16 (ldA_ (cs:=[_,_,_,_,_,_,_]) ty_agg_62 ty_size_62 rfl) ?_
     refine ARun.callG 3 false 16 rfl (lit_lt rfl) rfl (lit_lt rfl) go_55 rfl (ch _) ?_
     rintro _ S1 ⟨rfl,h1⟩
     rw [h1];clear h1 S1
     first|refine k_q 16 ?_|refine rG 16 (Calm.move rfl) ?_
     first|refine k_q 19 ?_|refine rG 19 (Calm.fieldAddr ty_field_62_3 rfl) ?_
     first|refine k_q 19 ?_|refine rG 19 (ld_ ty_plain_3 rfl) ?_
     first|refine k_q 19 ?_|refine rG 19 (Calm.bin rfl rfl (bin_bool (bin_eql _ _) (decide_eq_false q3))) ?_
     first|refine k_q 16 ?_|refine rG 16 ((by first | exact Calm.pickT rfl rfl | exact Calm.pickF rfl rfl)) ?_
     first|refine k_t rfl rfl ?_|refine k_f rfl rfl ?_
     refine k_n ?_
     refine k_u [(1,_),(3,_),(7,_),(8,_),(9,_),(10,_),(5,_),(24,_)] ?_
     refine k_F rfl ?_
     refine AWP.skip ?_
     refine ain_n ?_
     refine athen_n ?_
     refine AWP.region ?_
     refine rC (Calm.bin rfl rfl b_add_i64) ?_
     refine k_m rfl (k_n ?_)
     refine ⟨i+1,?_,?_,?_,?_⟩
     all_goals (try dsimp only)
     ·exact ⟨rfl,some_int (by omega),rfl,rfl,rfl,trivial⟩
     ·exact less_
     ·exact hc
     ·omega
   ·rw [decide_eq_false q2] at ch
    simp only [show ¬ y.idle from fun h=>h.elim q1 (fun h=>q2 h.1),decide_false,Bool.false_eq_true,if_false,Nat.add_zero] at t1
    refine k_k (AWP.seq ?_)
    refine AWP.block ?_
    refine k_a ?_
    refine rC (Calm.indexS Tryz.underlying26 ty_size_62 rfl rfl (by omega) (by omega)) ?_
    refine k_7 ty_agg_62 ty_size_62 rfl ?_
    refine ARun.alloc (lit_lt rfl) ty_zero_62 ?_
    intro b5 f5
    have g5:=f5
    repeat ((with_reducible replace g5:=fresh_set g5);obtain ⟨g5,_⟩:=g5)
    have:=g5.ne kb1;have:=g5.ne' kb1
    try simp only [k_l1,k_l0,k_za,Nat.reduceAdd]
    first|refine k_A rfl rfl ty_size_62 ?_|refine k_B rfl rfl ty_size_62 ?_
    try simp only [k_ms,k_sz,k_ss,k_za,Nat.reduceAdd]
    refine k_n ?_
    refine k_u [(1,_),(3,_),(7,_),(8,_),(9,_),(10,_),(5,_)] ?_
    refine k_a ?_
    refine k_7 ty_agg_62 ty_size_62 rfl ?_
    refine rC (Calm.build (cs:=[_,_,_,_,_,_,_]) ty_bld_62 rfl rfl) ?_
    refine rC (Calm.bin rfl rfl (bin_bool (bin_eql_frame y F0) (decide_eq_false q1))) ?_
    refine k_m rfl ?_
    first|refine k_q 16 ?_|refine rG 16 (ldA_ (cs:=[_,_,_,_,_,_,_]) ty_agg_62 ty_size_62 rfl) ?_
    refine ARun.callG 3 false 16 rfl (lit_lt rfl) rfl (lit_lt rfl) go_55 rfl (ch _) ?_
    rintro _ S1 ⟨rfl,h1⟩
    rw [h1];clear h1 S1
    first|refine k_q 16 ?_|refine rG 16 (Calm.move rfl) ?_
    first|refine k_q 19 ?_|refine rG 19 (Calm.fieldAddr ty_field_62_3 rfl) ?_
    first|refine k_q 19 ?_|refine rG 19 (ld_ ty_plain_3 rfl) ?_
    first|refine k_q 19 ?_|refine rG 19 (Calm.bin rfl rfl b_eql) ?_
    first|refine k_q 16 ?_|refine rG 16 ((by first | exact Calm.pickT rfl rfl | exact Calm.pickF rfl rfl)) ?_
    first|refine k_t rfl rfl ?_|refine k_f rfl rfl ?_
    refine k_n ?_
    refine k_u [(1,_),(3,_),(7,_),(8,_),(9,_),(10,_),(5,_),(24,_)] ?_
    refine k_F rfl ?_
    refine AWP.skip ?_
    refine ain_n ?_
    refine athen_n ?_
    refine AWP.region ?_
    refine rC (Calm.bin rfl rfl b_add_i64) ?_
    refine k_m rfl (k_n ?_)
    refine ⟨i+1,?_,?_,?_,?_⟩
    all_goals (try dsimp only)
    ·exact ⟨rfl,some_int (by omega),rfl,rfl,rfl,trivial⟩
    ·exact less_
    ·exact hc
    ·omega
 ·have hc:i=x.fr.length:=by have:=of_decide_eq_false hc;omega
  subst hc
  rw [List.take_length]
  refine AWP.exit ?_
  refine athen_exit ?_
  refine athen_exit ?_
  refine ain_same ?_
  refine athen_n ?_
  refine k_a (k_m rfl (k_e rfl ?_))
  refine k_u [(1,_),(3,_),(7,_),(8,_),(9,_),(10,_),(2,_)] ?_
  refine AWP.ret ?_
  refine ⟨_,S,⟨_,_,rfl,rfl,rfl⟩,hT1.trans less_,?_⟩
  exact ⟨rfl,rfl⟩
/-- A pool of the document's at work: its frames in the block b over B. -/
def RpB (B : Mem) (b c : Nat) (x : Pl) (r : Value) (T : Mem) : Prop := ∃ B' pe ce pw cw, B.Less B' ∧ Fresh B' b ∧ x.fr.length ≤ c ∧ Sl 2 extF B' (.slice pe x.d.ext.length ce) x.d.ext ∧ Sl 3 wrF B' (.slice pw x.d.waits.length cw) x.d.waits ∧
  r = .agg #[.int .i64 x.d.size, .slice pe x.d.ext.length ce, .slice pw x.d.waits.length cw, .int .i64 x.d.fuse, .bool x.d.down, .slice (some ⟨b, 0, none⟩) x.fr.length c, .int .u64 x.tick, .int .u64 x.reads, .int .u64 x.writes] ∧ T = B'.set b (frB x.fr c)
set_option maxHeartbeats 4000000 in
theorem rp_write (B : Mem) (b c : Nat) (x : Pl) (i : Nat) (v : Value) (T : Mem) (hb : RpB B b c x v T) (hw : PW x) (hi : i < x.fr.length) :
  ACall Tryz.prog 61 #[v,.int .i64 (i:Nat)] T fun r T'=>∃ w,r = .tuple #[w,.int .i64 (wrP x i).2]∧RpB B b c (wrP x i).1 w T':=by
 obtain ⟨B',pe,ce,pw,cw,hBB,hfb,hlc,hE,hW,rfl,rfl⟩:=hb
 have hi2:=Nat.le_trans (Nat.le_of_lt hi) hw.l2
 have hwr:=rd_Write (.agg #[.int .i64 x.d.size,.slice pe x.d.ext.length ce,.slice pw x.d.waits.length cw,.int .i64 x.d.fuse,.bool x.d.down]) x.d (atF x i).name (atF x i).sector (atF x i).data B' ⟨pe,ce,pw,cw,rfl,hE,hW⟩ (dz_right hw.dr hw.fu)
 rw [opened_ok hw.dr hw.nd] at hwr
 have hB:(B'.set b (frB x.fr c)).own b=some (frB x.fr c):=Mem.own_set_same _ _ _
 have hF:Sl 7 frF (B'.set b (frB x.fr c)) (.slice (some ⟨b,0,none⟩) x.fr.length c) x.fr:=Sl.own hB fr_len List.prefix_rfl rfl hlc (Nat.le_trans hw.l2 (by decide))
 have hki:=sl_at hF i hi
 rw [← atF_eq hi] at hki
 have hat:=atF_eq hi
 have hwr':=hwr.frame (r:=frB x.fr c) hfb
 unfold wrP
 generalize hT:B'.set b (frB x.fr c)=T at *
 generalize atF x i=y at *
 generalize hq:writeD x.d y.name y.sector y.data=q at *
 unfold frF at hki
 refine ACall.enter (rs:=[.cell 4 29,.tmp 5]) 41 [(0,.agg #[.int .i64 x.d.size,.slice pe x.d.ext.length ce,.slice pw x.d.waits.length cw,.int .i64 x.d.fuse,.bool x.d.down,.slice (some ⟨b,0,none⟩) x.fr.length c,.int .u64 x.tick,.int .u64 x.reads,.int .u64 x.writes]),(1,.int .i64 (i:Nat))] Tryz.func61 rfl rfl (Nat.le_of_ble_eq_true rfl) rfl ⟨rfl,rfl,trivial⟩ ?_
 refine k_a ?_
 refine k_b9 rfl ?_
 intro b2 f2
 have g2:=f2
 repeat ((with_reducible replace g2:=fresh_set g2);obtain ⟨g2,_⟩:=g2)
 have:=g2.ne hB;have:=g2.ne' hB
 try simp only [k_l1,k_l0,k_za,Nat.reduceAdd]
 refine ARun.alloc (lit_lt rfl) ty_zero_29 ?_
 intro b4 f4
 have g4:=f4
 repeat ((with_reducible replace g4:=fresh_set g4);obtain ⟨g4,_⟩:=g4)
 have:=g4.ne hB;have:=g4.ne' hB
 try simp only [k_l1,k_l0,k_za,Nat.reduceAdd]
 refine k_e rfl (k_a ?_)
 refine rC (Calm.fieldAddr ty_field_29_1 rfl) ?_
 refine rC (ld_ ty_plain_26 rfl) ?_
 refine k_m rfl ?_
 refine rC (Calm.indexS Tryz.underlying26 ty_size_62 rfl rfl (by omega) (by omega)) ?_
 refine k_7 ty_agg_62 ty_size_62 rfl ?_
 refine ARun.alloc (lit_lt rfl) ty_zero_62 ?_
 intro b6 f6
 have g6:=f6
 repeat ((with_reducible replace g6:=fresh_set g6);obtain ⟨g6,_⟩:=g6)
 have:=g6.ne hB;have:=g6.ne' hB
 try simp only [k_l1,k_l0,k_za,Nat.reduceAdd]
 first|refine k_A rfl rfl ty_size_62 ?_|refine k_B rfl rfl ty_size_62 ?_
 try simp only [k_ms,k_sz,k_ss,k_za,Nat.reduceAdd]
 refine k_n ?_
 refine k_u [(0,_),(1,_),(2,_),(4,_),(5,_),(6,_)] ?_
 refine k_a ?_
 refine rC (Calm.fieldAddr ty_field_29_0 rfl) ?_
 refine k_5 ty_agg_25 ty_size_25 rfl ?_
 refine rC (Calm.fieldAddr ty_field_62_0 rfl) ?_
 refine rC (ld_ ty_plain_9 rfl) ?_
 refine rC (Calm.fieldAddr ty_field_62_1 rfl) ?_
 refine rC (ld_ ty_plain_3 rfl) ?_
 refine rC (Calm.fieldAddr ty_field_62_2 rfl) ?_
 refine rC (ld_ ty_plain_9 rfl) ?_
 refine ARun.call (lit_lt rfl) go_86 rfl (((hwr'.frame f2).frame f4).frame f6) ?_
 rintro _ S1 ⟨S4,⟨S3,⟨S2,⟨M,⟨w,rfl,hBM,hdk⟩,ga,e2⟩,gb,e3⟩,gc,e4⟩,gd,h1⟩
 rw [e2] at gb;rw [e3,e2] at gc;rw [e4,e3,e2] at gd;rw [h1,e4,e3,e2];clear h1 S1 e4 e3 e2 S4 S3 S2
 obtain ⟨qe,de,qw,dw,rfl,hE2,hW2⟩:=id hdk
 have hbb2:b2≠b:=(fresh_set gb).2
 have hb42:b4≠b2:=(fresh_set gc).2
 have hb4b:b4≠b:=(fresh_set (fresh_set gc).1).2
 have hb62:b6≠b2:=(fresh_set (fresh_set gd).1).2
 have hb64:b6≠b4:=(fresh_set gd).2
 have hb6b:b6≠b:=(fresh_set (fresh_set (fresh_set gd).1).1).2
 have hM2:Fresh M b2:=(fresh_set gb).1
 have hM6:Fresh M b6:=(fresh_set (fresh_set (fresh_set gd).1).1).1
 have hM4:Fresh M b4:=(fresh_set (fresh_set gc).1).1
 refine k_m rfl ?_
 refine rC (Calm.extract rfl rfl) ?_
 refine rC (Calm.extract rfl rfl) ?_
 refine ARun.alloc (lit_lt rfl) ty_zero_25 ?_
 intro b7 f7
 have g7:=f7
 repeat ((with_reducible replace g7:=fresh_set g7);obtain ⟨g7,_⟩:=g7)
 try simp only [k_l1,k_l0,k_za,Nat.reduceAdd]
 refine ARun.storeAll rfl rfl ty_size_25 own_ rfl rfl ?_
 try simp only [k_ms,k_sz,k_ss,k_za,Nat.reduceAdd]
 refine k_e rfl ?_
 refine k_u [(0,_),(1,_),(2,_),(4,_),(5,_),(6,_),(7,_),(8,_)] ?_
 refine k_a ?_
 refine k_5 ty_agg_25 ty_size_25 rfl ?_
 refine rC (Calm.fieldAddr ty_field_29_0 rfl) ?_
 refine ARun.store (r:=⟨29,[.int .i64 x.d.size,.slice pe x.d.ext.length ce,.slice pw x.d.waits.length cw,.int .i64 x.d.fuse,.bool x.d.down,.slice (some ⟨b,0,none⟩) x.fr.length c,.int .u64 x.tick,.int .u64 x.reads,.int .u64 x.writes],9⟩) rfl rfl ty_size_25 own_ (show 0+0+5≤9 from by decide) (by simp [Value.cells,Value.oneCell']) ?_
 try simp only [k_ms,k_sz,k_ss,k_za,Nat.reduceAdd]
 refine k_n ?_
 refine k_u [(0,_),(1,_),(2,_),(4,_),(5,_),(6,_),(7,_),(8,_)] ?_
 refine AWP.less (((M.set b (frB x.fr c)).set b2 ⟨29,[.int .i64 q.1.size,.slice qe q.1.ext.length de,.slice qw q.1.waits.length dw,.int .i64 q.1.fuse,.bool q.1.down,.slice (some ⟨b,0,none⟩) x.fr.length c,.int .u64 x.tick,.int .u64 x.reads,.int .u64 x.writes],9⟩).set b4 ⟨29,[.int .i64 0,.slice none 0 0,.slice none 0 0,.int .i64 0,.bool false,.slice none 0 0,.int .u64 0,.int .u64 0,.int .u64 0],9⟩) less_ ?_
 refine k_a ?_
 refine rC (Calm.fieldAddr ty_field_29_4 rfl) ?_
 refine rC (ld_ ty_plain_27 rfl) ?_
 refine rC (Calm.bin rfl rfl b_add_u64) ?_
 refine rC (Calm.fieldAddr ty_field_29_4 rfl) ?_
 refine ARun.store1 rfl rfl ty_size_27 rfl own_ lens_ rfl ?_
 try simp only [k_ms,k_sz,k_ss,k_za,Nat.reduceAdd]
 refine k_n ?_
 refine k_u [(0,_),(1,_),(2,_),(4,_),(5,_),(6,_),(7,_),(8,_)] ?_
 refine AWP.less (((M.set b (frB x.fr c)).set b2 ⟨29,[.int .i64 q.1.size,.slice qe q.1.ext.length de,.slice qw q.1.waits.length dw,.int .i64 q.1.fuse,.bool q.1.down,.slice (some ⟨b,0,none⟩) x.fr.length c,.int .u64 x.tick,.int .u64 x.reads,.int .u64 (up1 x.writes)],9⟩).set b4 ⟨29,[.int .i64 0,.slice none 0 0,.slice none 0 0,.int .i64 0,.bool false,.slice none 0 0,.int .u64 0,.int .u64 0,.int .u64 0],9⟩) less_ ?_
 by_cases e0:q.2=0
 ·refine AWP.seq (k_a (k_m rfl ?_))
  refine rC (Calm.bin rfl rfl b_eql) ?_
  refine k_n ?_
  refine k_u [(0,_),(1,_),(2,_),(4,_),(5,_),(6,_),(7,_),(8,_),(33,_)] ?_
  refine k_T rfl ?_
  refine AWP.region ?_
  refine rC (Calm.fieldAddr ty_field_29_1 rfl) ?_
  refine rC (ld_ ty_plain_26 rfl) ?_
  refine k_m rfl ?_
  refine rC (Calm.indexS Tryz.underlying26 ty_size_62 rfl rfl (by omega) (by omega)) ?_
  refine rC (Calm.fieldAddr ty_field_62_4 rfl) ?_
  refine ARun.storeFr1 (c:=c) (i:=i) (l:=x.fr) (q:=4) (u:={ y with dirty:=false }) rfl rfl rfl rfl (by omega) (by decide) hi (by rw [← hat];rfl) ty_size_4 own_ ?_
  try simp only [k_ms,k_sz,k_ss,k_za,Nat.reduceAdd]
  refine k_n ?_
  refine k_u [(0,_),(1,_),(2,_),(4,_),(5,_),(6,_),(7,_),(8,_),(33,_)] ?_
  refine k_a ?_
  refine k_9 ty_agg_29 ty_size_29 rfl ?_
  refine k_m rfl ?_
  first|refine k_A rfl rfl ty_size_29 ?_|refine k_B rfl rfl ty_size_29 ?_
  try simp only [k_ms,k_sz,k_ss,k_za,Nat.reduceAdd]
  refine k_e rfl ?_
  refine k_u [(0,_),(1,_),(2,_),(4,_),(5,_),(6,_),(7,_),(8,_),(33,_)] ?_
  refine AWP.ret ?_
  refine ⟨_,M.set b (frB (if q.2=0 then x.fr.set i { y with dirty:=false } else x.fr) c),⟨_,_,_,rfl,.inr ⟨ty_agg_29,[_,_,_,_,_,_,_,_,_],ty_size_29,rds_,rfl⟩,⟨_,_,rfl,rfl,rfl⟩,rfl⟩,(by rw [if_pos e0];exact less_),?_⟩
  exact ⟨_,rfl,M,qe,de,qw,dw,hBB.trans hBM,ga,by simp only [if_pos e0,List.length_set];exact hlc,hE2,hW2,by simp only [if_pos e0,List.length_set],rfl⟩
 ·refine AWP.seq (k_a (k_m rfl ?_))
  refine rC (Calm.bin rfl rfl b_eql) ?_
  refine k_n ?_
  refine k_u [(0,_),(1,_),(2,_),(4,_),(5,_),(6,_),(7,_),(8,_),(33,_)] ?_
  refine k_F rfl ?_
  refine k_k (k_a ?_)
  refine k_9 ty_agg_29 ty_size_29 rfl ?_
  refine k_m rfl ?_
  first|refine k_A rfl rfl ty_size_29 ?_|refine k_B rfl rfl ty_size_29 ?_
  try simp only [k_ms,k_sz,k_ss,k_za,Nat.reduceAdd]
  refine k_e rfl ?_
  refine k_u [(0,_),(1,_),(2,_),(4,_),(5,_),(6,_),(7,_),(8,_),(33,_)] ?_
  refine AWP.ret ?_
  refine ⟨_,M.set b (frB (if q.2=0 then x.fr.set i { y with dirty:=false } else x.fr) c),⟨_,_,_,rfl,.inr ⟨ty_agg_29,[_,_,_,_,_,_,_,_,_],ty_size_29,rds_,rfl⟩,⟨_,_,rfl,rfl,rfl⟩,rfl⟩,(by rw [if_neg e0];exact less_),?_⟩
  exact ⟨_,rfl,M,qe,de,qw,dw,hBB.trans hBM,ga,by simp only [if_neg e0];exact hlc,hE2,hW2,by simp only [if_neg e0],rfl⟩
end Go.Proofs.YtkeiphkccnfhoaaGreat
namespace Go.Proofs.YtkeiphkccnfhoaaGreat
open Go.RowKit
open Mv Disk
set_option maxRecDepth 4000
set_option maxHeartbeats 8000000 in
theorem rp_take (B : Mem) (b c : Nat) (x : Pl) (v : Value) (T : Mem) (hb : RpB B b c x v T) (hw : PW x) :
  ACall Tryz.prog 37 #[v] T fun r T'=>∃ w,r = .tuple #[w,.int .i64 ((takeP x).2.1:Nat),.int .i64 (takeP x).2.2]∧RpB B b c (takeP x).1 w T':=by
 have hwr:=fun m hm=>rp_write B b c x m v T hb hw hm
 obtain ⟨B',pe,ce,pw,cw,hBB,hfb,hlc,hE,hW,rfl,rfl⟩:=hb
 have h256:=hw.l2
 have hB:(B'.set b (frB x.fr c)).own b=some (frB x.fr c):=Mem.own_set_same _ _ _
 have hF:Sl 7 frF (B'.set b (frB x.fr c)) (.slice (some ⟨b,0,none⟩) x.fr.length c) x.fr:=Sl.own hB fr_len List.prefix_rfl rfl hlc (Nat.le_trans hw.l2 (by decide))
 have hsame:∀ (x':Pl),x'.d=x.d→x'.fr.length=x.fr.length→x'.tick=x.tick→x'.reads=x.reads→x'.writes=x.writes→RpB B b c x' (.agg #[.int .i64 x.d.size,.slice pe x.d.ext.length ce,.slice pw x.d.waits.length cw,.int .i64 x.d.fuse,.bool x.d.down,.slice (some ⟨b,0,none⟩) x.fr.length c,.int .u64 x.tick,.int .u64 x.reads,.int .u64 x.writes]) (B'.set b (frB x'.fr c)):=fun x' e1 e2 e3 e4 e5 =>
  ⟨B',pe,ce,pw,cw,hBB,hfb,by rw [e2];exact hlc,by rw [e1];exact hE,by rw [e1];exact hW,by rw [e1,e2,e3,e4,e5],rfl⟩
 have hT1:∀ z,Fresh (B'.set b (frB x.fr c)) z→Fresh B' z:=fun z h=>(fresh_set h).1
 generalize hT:B'.set b (frB x.fr c)=T at *
 refine ACall.enter (rs:=[.cell 2 29,.tmp 3,.tmp 4]) 74 [(0,.agg #[.int .i64 x.d.size,.slice pe x.d.ext.length ce,.slice pw x.d.waits.length cw,.int .i64 x.d.fuse,.bool x.d.down,.slice (some ⟨b,0,none⟩) x.fr.length c,.int .u64 x.tick,.int .u64 x.reads,.int .u64 x.writes])] Tryz.func37 rfl rfl (Nat.le_of_ble_eq_true rfl) rfl ⟨rfl,trivial⟩ ?_
 refine k_a ?_
 refine k_b9 rfl ?_
 intro b1 f1
 have g1:=f1
 repeat ((with_reducible replace g1:=fresh_set g1);obtain ⟨g1,_⟩:=g1)
 have:=g1.ne hB;have:=g1.ne' hB
 try simp only [k_l1,k_l0,k_za,Nat.reduceAdd]
 refine ARun.alloc (lit_lt rfl) ty_zero_29 ?_
 intro b2 f2
 have g2:=f2
 repeat ((with_reducible replace g2:=fresh_set g2);obtain ⟨g2,_⟩:=g2)
 have:=g2.ne hB;have:=g2.ne' hB
 try simp only [k_l1,k_l0,k_za,Nat.reduceAdd]
 refine k_s rfl (k_e rfl (k_a (k_e rfl (AWP.seq ?_))))
 refine k_a ?_
 refine rC (Calm.fieldAddr ty_field_29_1 rfl) ?_
 refine rC (ld_ ty_plain_26 rfl) ?_
 refine rC (Calm.lenSl Tryz.underlying26 rfl) ?_
 refine k_m rfl (k_n ?_)
 refine k_u [(0,_),(1,_),(2,_),(3,_),(4,_),(5,_),(11,_),(12,_),(13,_)] ?_
 refine AWP.block ?_
 refine AWP.loop (X:=Nat) (fun y=>[(1,.pointer (some ⟨b1,0,none⟩)),(2,.pointer (some ⟨b2,0,none⟩)),(5,.int .i64 (bestF x.fr y)),(11,.slice (some ⟨b,0,none⟩) x.fr.length c),(12,.int .i64 x.fr.length),(13,.int .i64 y)]) (fun _=>(T.set b1 ⟨29,[.int .i64 x.d.size,.slice pe x.d.ext.length ce,.slice pw x.d.waits.length cw,.int .i64 x.d.fuse,.bool x.d.down,.slice (some ⟨b,0,none⟩) x.fr.length c,.int .u64 x.tick,.int .u64 x.reads,.int .u64 x.writes],9⟩).set b2 ⟨29,[.int .i64 0,.slice none 0 0,.slice none 0 0,.int .i64 0,.bool false,.slice none 0 0,.int .u64 0,.int .u64 0,.int .u64 0],9⟩) (fun y=>y≤x.fr.length ∧ ∀ j (hj:j<x.fr.length),j<y→x.fr[j]≠F0) (fun y=>x.fr.length-y) (0) ⟨rfl,rfl,rfl,rfl,rfl,rfl,trivial⟩ (Mem.Less.refl _) (⟨Nat.zero_le _,fun j _ h=>absurd h (Nat.not_lt_zero _)⟩) ?_
 rintro i ⟨hi,hno⟩
 (try dsimp only at *)
 obtain ⟨hb0,hb1⟩:=bestF_le x.fr i
 refine k_a ?_
 refine rC (Calm.bin rfl rfl b_lss) ?_
 refine k_n (AWP.seq ?_)
 refine AWP.condB rfl (fun hc=>?_) (fun hc=>?_)
 ·have hc:i<x.fr.length:=by have:=of_decide_eq_true hc;omega
  have hki:=sl_at hF i hc
  have hge:=getD_at hc
  by_cases q:x.fr[i]=F0
  ·have htk:takeP x=(x,i,0):=by unfold takeP;rw [findF0_at hc q hno,if_pos hc]
   rw [htk]
   generalize x.fr[i]=y at *
   unfold frF at hki
   refine k_k (AWP.seq ?_)
   refine AWP.block ?_
   refine k_a (k_m rfl ?_)
   refine rC (Calm.indexS Tryz.underlying26 ty_size_62 rfl rfl (by omega) (by omega)) ?_
   refine k_7 ty_agg_62 ty_size_62 rfl ?_
   refine ARun.alloc (lit_lt rfl) ty_zero_62 ?_
   intro b7 f7
   have g7:=f7
   repeat ((with_reducible replace g7:=fresh_set g7);obtain ⟨g7,_⟩:=g7)
   have:=g7.ne hB;have:=g7.ne' hB
   try simp only [k_l1,k_l0,k_za,Nat.reduceAdd]
   refine k_s rfl ?_
   first|refine k_A rfl rfl ty_size_62 ?_|refine k_B rfl rfl ty_size_62 ?_
   try simp only [k_ms,k_sz,k_ss,k_za,Nat.reduceAdd]
   refine k_n ?_
   refine k_u [(1,_),(2,_),(5,_),(11,_),(12,_),(13,_),(14,_),(7,_),(6,_)] ?_
   refine AWP.seq (k_a ?_)
   refine k_7 ty_agg_62 ty_size_62 rfl ?_
   refine rC (Calm.build (cs:=[_,_,_,_,_,_,_]) ty_bld_62 rfl rfl) ?_
   refine rC (Calm.bin rfl rfl (bin_bool (bin_eql_frame y F0) (decide_eq_true q))) ?_
   refine k_n ?_
   refine k_u [(1,_),(2,_),(5,_),(11,_),(12,_),(13,_),(14,_),(7,_),(6,_),(20,_)] ?_
   refine k_T rfl ?_
   refine k_a ?_
   refine k_9 ty_agg_29 ty_size_29 rfl ?_
   refine k_m rfl ?_
   first|refine k_A rfl rfl ty_size_29 ?_|refine k_B rfl rfl ty_size_29 ?_
   try simp only [k_ms,k_sz,k_ss,k_za,Nat.reduceAdd]
   refine k_s rfl (k_e rfl ?_)
   refine k_u [(1,_),(2,_),(5,_),(11,_),(12,_),(13,_),(14,_),(7,_),(6,_),(20,_),(3,_),(4,_)] ?_
   refine k_r ?_
   refine ain_ret ?_
   refine athen_ret ?_
   refine athen_ret ?_
   refine ain_ret ?_
   refine athen_ret ?_
   refine ⟨_,T,⟨_,_,_,rfl,.inr ⟨ty_agg_29,[_,_,_,_,_,_,_,_,_],ty_size_29,rds_,rfl⟩,⟨_,_,rfl,⟨_,_,rfl,rfl,rfl⟩,rfl⟩,rfl⟩,less_,?_⟩
   exact ⟨_,rfl,by have:=hsame x rfl rfl rfl rfl rfl;rw [hT] at this;exact this⟩
  ·have hno':∀ j (hj:j<x.fr.length),j<i+1→x.fr[j]≠F0:=fun j hj h=>by rcases Nat.lt_or_ge j i with h' | h';exact hno j hj h';obtain rfl:j=i:=(by omega);exact q
   by_cases q2:x.fr[i].holds
   ·by_cases q2p:x.fr[i].pins=0
    ·have hid:x.fr[i].idle:=.inr ⟨q2,q2p⟩
     by_cases q3:bestF x.fr i<0
     ·have hbs:bestF x.fr (i+1)=(i:Nat):=by rw [bestF,if_pos ⟨by rw [hge];exact hid,.inl q3⟩]
      have ch:=fun S=>rp_holds x.fr[i] S
      rw [decide_eq_true q2] at ch
      generalize x.fr[i]=y at *
      unfold frV at ch
      unfold frF at hki
      refine k_k (AWP.seq ?_)
      refine AWP.block ?_
      refine k_a (k_m rfl ?_)
      refine rC (Calm.indexS Tryz.underlying26 ty_size_62 rfl rfl (by omega) (by omega)) ?_
      refine k_7 ty_agg_62 ty_size_62 rfl ?_
      refine ARun.alloc (lit_lt rfl) ty_zero_62 ?_
      intro b7 f7
      have g7:=f7
      repeat ((with_reducible replace g7:=fresh_set g7);obtain ⟨g7,_⟩:=g7)
      have:=g7.ne hB;have:=g7.ne' hB
      try simp only [k_l1,k_l0,k_za,Nat.reduceAdd]
      refine k_s rfl ?_
      first|refine k_A rfl rfl ty_size_62 ?_|refine k_B rfl rfl ty_size_62 ?_
      try simp only [k_ms,k_sz,k_ss,k_za,Nat.reduceAdd]
      refine k_n ?_
      refine k_u [(1,_),(2,_),(5,_),(11,_),(12,_),(13,_),(14,_),(7,_),(6,_)] ?_
      refine AWP.seq (k_a ?_)
      refine k_7 ty_agg_62 ty_size_62 rfl ?_
      refine rC (Calm.build (cs:=[_,_,_,_,_,_,_]) ty_bld_62 rfl rfl) ?_
      refine rC (Calm.bin rfl rfl (bin_bool (bin_eql_frame y F0) (decide_eq_false q))) ?_
      refine k_n ?_
      refine k_u [(1,_),(2,_),(5,_),(11,_),(12,_),(13,_),(14,_),(7,_),(6,_),(20,_)] ?_
      refine k_F rfl ?_
      refine k_k (AWP.seq ?_)
      refine AWP.draw [(0,true),(1,false),(2,true),(3,true),(4,true),(5,true),(6,true),(7,true),(8,true),(9,true),(10,true),(11,true),(12,true),(13,true),(14,true),(15,true),(16,true),(17,true),(18,true),(19,true),(20,true),(21,true)] [] mixed (by kernel_rfl) ?_
      refine dC (hc:=ldA_ (cs:=[_,_,_,_,_,_,_]) ty_agg_62 ty_size_62 rfl) (h:=?_)
      refine draw_only rfl ?_
      refine ARun.call (lit_lt rfl) go_55 rfl (ch _) ?_
      rintro _ S1 ⟨rfl,h1⟩
      rw [h1];clear h1 S1
      refine arun_nil ⟨fun _=>less_,?_⟩
      refine dP (hc:=fun _=>Calm.move rfl) (h:=?_)
      first|refine k_d ?_|refine dG (hc:=fun _=>Calm.fieldAddr ty_field_62_3 rfl) (h:=?_)
      first|refine k_d ?_|refine dL (hc:=ld_ ty_plain_3 rfl) (h:=?_)
      first|refine k_d ?_|refine dG (hc:=fun _=>Calm.bin rfl rfl (bin_bool (bin_eql _ _) (decide_eq_true q2p))) (h:=?_)
      refine dP (hc:=fun _=>(by first | exact Calm.pickT rfl rfl | exact Calm.pickF rfl rfl)) (h:=?_)
      refine dP (hc:=fun _=>Calm.move rfl) (h:=?_)
      first|refine k_d ?_|refine dG (hc:=fun _=>Calm.move rfl) (h:=?_)
      first|refine k_d ?_|refine dG (hc:=fun _=>Calm.bin rfl rfl (bin_bool (bin_lss _ _) (decide_eq_true q3))) (h:=?_)
      first|refine k_d ?_|refine dG (hc:=fun _=>Calm.move rfl) (h:=?_)
      first|refine k_d ?_|refine dG (hc:=fun _=>Calm.fieldAddr ty_field_62_5 rfl) (h:=?_)
      first|refine k_d ?_|refine dL (hc:=ld_ ty_plain_27 rfl) (h:=?_)
      first|refine k_d ?_|refine dG (hc:=fun _=>Calm.fieldAddr ty_field_29_1 rfl) (h:=?_)
      first|refine k_d ?_|refine dL (hc:=ld_ ty_plain_26 rfl) (h:=?_)
      first|refine k_d ?_|refine dG (hc:=fun _=>Calm.move rfl) (h:=?_)
      first|refine k_d ?_|refine dG (hc:=fun _=>Calm.indexS Tryz.underlying26 ty_size_62 rfl rfl (by omega) (by omega)) (h:=?_)
      first|refine k_d ?_|refine dG (hc:=fun _=>Calm.fieldAddr ty_field_62_5 rfl) (h:=?_)
      first|refine k_d ?_|refine dL (hc:=ld_ ty_plain_27 rfl) (h:=?_)
      first|refine k_d ?_|refine dG (hc:=fun _=>Calm.bin rfl rfl b_lss) (h:=?_)
      first|refine k_d ?_|refine dG (hc:=fun _=>(by first | exact Calm.pickT rfl rfl | exact Calm.pickF rfl rfl)) (h:=?_)
      refine dP (hc:=fun _=>(by first | exact Calm.pickT rfl rfl | exact Calm.pickF rfl rfl)) (h:=?_)
      refine draw_nil ?_
      refine athen_n ?_
      refine k_u [(1,_),(2,_),(5,_),(11,_),(12,_),(13,_),(14,_),(7,_),(6,_),(20,_),(44,_)] ?_
      refine k_T rfl ?_
      refine AWP.region ?_
      refine k_m rfl (k_s rfl ?_)
      refine arun_nil ?_
      refine ain_n ?_
      refine athen_n ?_
      refine k_u [(1,_),(2,_),(5,_),(11,_),(12,_),(13,_),(14,_),(7,_),(6,_),(20,_),(44,_)] ?_
      refine AWP.region ?_
      refine rC (Calm.bin rfl rfl b_add_i64) ?_
      refine k_m rfl (k_n ?_)
      refine ⟨i+1,?_,?_,?_,?_⟩
      all_goals (try dsimp only)
      ·exact ⟨rfl,rfl,some_int hbs.symm,rfl,rfl,rfl,trivial⟩
      ·exact less_
      ·exact ⟨hc,hno'⟩
      ·omega
     ·obtain ⟨m,hm⟩ : ∃ m:Nat,bestF x.fr i=(m:Int):=⟨_,(Int.toNat_of_nonneg (by omega)).symm⟩
      have hml:m<x.fr.length:=by omega
      obtain ⟨_,_,_,_,_,kb,_⟩:=kn_fr (sl_at hF m hml)
      have hbs:bestF x.fr (i+1)=if x.fr[i].tick<x.fr[m].tick then (i:Int) else (m:Int):=by rw [bestF,hm,hge,Int.toNat_natCast,getD_at hml];by_cases z:x.fr[i].tick<x.fr[m].tick;rw [if_pos z,if_pos ⟨hid,.inr z⟩];rw [if_neg z,if_neg (fun h=>h.2.elim (by omega) z)]
      rw [hm]
      have ch:=fun S=>rp_holds x.fr[i] S
      rw [decide_eq_true q2] at ch
      generalize x.fr[m]=z at *
      generalize x.fr[i]=y at *
      unfold frV at ch
      unfold frF at hki
      refine k_k (AWP.seq ?_)
      refine AWP.block ?_
      refine k_a (k_m rfl ?_)
      refine rC (Calm.indexS Tryz.underlying26 ty_size_62 rfl rfl (by omega) (by omega)) ?_
      refine k_7 ty_agg_62 ty_size_62 rfl ?_
      refine ARun.alloc (lit_lt rfl) ty_zero_62 ?_
      intro b7 f7
      have g7:=f7
      repeat ((with_reducible replace g7:=fresh_set g7);obtain ⟨g7,_⟩:=g7)
      have:=g7.ne hB;have:=g7.ne' hB
      try simp only [k_l1,k_l0,k_za,Nat.reduceAdd]
      refine k_s rfl ?_
      first|refine k_A rfl rfl ty_size_62 ?_|refine k_B rfl rfl ty_size_62 ?_
      try simp only [k_ms,k_sz,k_ss,k_za,Nat.reduceAdd]
      refine k_n ?_
      refine k_u [(1,_),(2,_),(5,_),(11,_),(12,_),(13,_),(14,_),(7,_),(6,_)] ?_
      refine AWP.seq (k_a ?_)
      refine k_7 ty_agg_62 ty_size_62 rfl ?_
      refine rC (Calm.build (cs:=[_,_,_,_,_,_,_]) ty_bld_62 rfl rfl) ?_
      refine rC (Calm.bin rfl rfl (bin_bool (bin_eql_frame y F0) (decide_eq_false q))) ?_
      refine k_n ?_
      refine k_u [(1,_),(2,_),(5,_),(11,_),(12,_),(13,_),(14,_),(7,_),(6,_),(20,_)] ?_
      refine k_F rfl ?_
      refine k_k (AWP.seq ?_)
      refine AWP.draw [(0,true),(1,false),(2,true),(3,true),(4,true),(5,true),(6,true),(7,true),(8,true),(9,true),(10,true),(11,true),(12,true),(13,true),(14,true),(15,true),(16,true),(17,true),(18,true),(19,true),(20,true),(21,true)] [] mixed (by kernel_rfl) ?_
      refine dC (hc:=ldA_ (cs:=[_,_,_,_,_,_,_]) ty_agg_62 ty_size_62 rfl) (h:=?_)
      refine draw_only rfl ?_
      refine ARun.call (lit_lt rfl) go_55 rfl (ch _) ?_
      rintro _ S1 ⟨rfl,h1⟩
      rw [h1];clear h1 S1
      refine arun_nil ⟨fun _=>less_,?_⟩
      refine dP (hc:=fun _=>Calm.move rfl) (h:=?_)
      first|refine k_d ?_|refine dG (hc:=fun _=>Calm.fieldAddr ty_field_62_3 rfl) (h:=?_)
      first|refine k_d ?_|refine dL (hc:=ld_ ty_plain_3 rfl) (h:=?_)
      first|refine k_d ?_|refine dG (hc:=fun _=>Calm.bin rfl rfl (bin_bool (bin_eql _ _) (decide_eq_true q2p))) (h:=?_)
      refine dP (hc:=fun _=>(by first | exact Calm.pickT rfl rfl | exact Calm.pickF rfl rfl)) (h:=?_)
      refine dP (hc:=fun _=>Calm.move rfl) (h:=?_)
      first|refine k_d ?_|refine dG (hc:=fun _=>Calm.move rfl) (h:=?_)
      first|refine k_d ?_|refine dG (hc:=fun _=>Calm.bin rfl rfl (bin_bool (bin_lss _ _) (decide_eq_false (by omega)))) (h:=?_)
      first|refine k_d ?_|refine dG (hc:=fun _=>Calm.move rfl) (h:=?_)
      first|refine k_d ?_|refine dG (hc:=fun _=>Calm.fieldAddr ty_field_62_5 rfl) (h:=?_)
      first|refine k_d ?_|refine dL (hc:=ld_ ty_plain_27 rfl) (h:=?_)
      first|refine k_d ?_|refine dG (hc:=fun _=>Calm.fieldAddr ty_field_29_1 rfl) (h:=?_)
      first|refine k_d ?_|refine dL (hc:=ld_ ty_plain_26 rfl) (h:=?_)
      first|refine k_d ?_|refine dG (hc:=fun _=>Calm.move rfl) (h:=?_)
      first|refine k_d ?_|refine dG (hc:=fun _=>Calm.indexS Tryz.underlying26 ty_size_62 rfl rfl (by omega) (by omega)) (h:=?_)
      first|refine k_d ?_|refine dG (hc:=fun _=>Calm.fieldAddr ty_field_62_5 rfl) (h:=?_)
      first|refine k_d ?_|refine dL (hc:=ld_ ty_plain_27 rfl) (h:=?_)
      first|refine k_d ?_|refine dG (hc:=fun _=>Calm.bin rfl rfl b_lss) (h:=?_)
      first|refine k_d ?_|refine dG (hc:=fun _=>(by first | exact Calm.pickT rfl rfl | exact Calm.pickF rfl rfl)) (h:=?_)
      refine dP (hc:=fun _=>(by first | exact Calm.pickT rfl rfl | exact Calm.pickF rfl rfl)) (h:=?_)
      refine draw_nil ?_
      refine athen_n ?_
      refine k_u [(1,_),(2,_),(5,_),(11,_),(12,_),(13,_),(14,_),(7,_),(6,_),(20,_),(44,_)] ?_
      refine AWP.condB rfl (fun hx=>?_) (fun hx=>?_)
      ·refine AWP.region ?_
       refine k_m rfl (k_s rfl ?_)
       refine arun_nil ?_
       refine ain_n ?_
       refine athen_n ?_
       refine k_u [(1,_),(2,_),(5,_),(11,_),(12,_),(13,_),(14,_),(7,_),(6,_),(20,_),(44,_)] ?_
       refine AWP.region ?_
       refine rC (Calm.bin rfl rfl b_add_i64) ?_
       refine k_m rfl (k_n ?_)
       refine ⟨i+1,?_,?_,?_,?_⟩
       all_goals (try dsimp only)
       ·exact ⟨rfl,rfl,some_int (by rw [hbs,if_pos (of_decide_eq_true hx)]),rfl,rfl,rfl,trivial⟩
       ·exact less_
       ·exact ⟨hc,hno'⟩
       ·omega
      ·refine AWP.skip ?_
       refine ain_n ?_
       refine athen_n ?_
       refine AWP.region ?_
       refine rC (Calm.bin rfl rfl b_add_i64) ?_
       refine k_m rfl (k_n ?_)
       refine ⟨i+1,?_,?_,?_,?_⟩
       all_goals (try dsimp only)
       ·exact ⟨rfl,rfl,some_int (by rw [hbs,if_neg (of_decide_eq_false hx)]),rfl,rfl,rfl,trivial⟩
       ·exact less_
       ·exact ⟨hc,hno'⟩
       ·omega
    ·have hbs:bestF x.fr (i+1)=bestF x.fr i:=by rw [bestF,if_neg (fun h=>by rw [hge] at h;exact h.1.elim q (fun h=>q2p h.2))]
     have ch:=fun S=>rp_holds x.fr[i] S
     rw [decide_eq_true q2] at ch
     generalize x.fr[i]=y at *
     unfold frV at ch
     unfold frF at hki
     refine k_k (AWP.seq ?_)
     refine AWP.block ?_
     refine k_a (k_m rfl ?_)
     refine rC (Calm.indexS Tryz.underlying26 ty_size_62 rfl rfl (by omega) (by omega)) ?_
     refine k_7 ty_agg_62 ty_size_62 rfl ?_
     refine ARun.alloc (lit_lt rfl) ty_zero_62 ?_
     intro b7 f7
     have g7:=f7
     repeat ((with_reducible replace g7:=fresh_set g7);obtain ⟨g7,_⟩:=g7)
     have:=g7.ne hB;have:=g7.ne' hB
     try simp only [k_l1,k_l0,k_za,Nat.reduceAdd]
     refine k_s rfl ?_
     first|refine k_A rfl rfl ty_size_62 ?_|refine k_B rfl rfl ty_size_62 ?_
     try simp only [k_ms,k_sz,k_ss,k_za,Nat.reduceAdd]
     refine k_n ?_
     refine k_u [(1,_),(2,_),(5,_),(11,_),(12,_),(13,_),(14,_),(7,_),(6,_)] ?_
     refine AWP.seq (k_a ?_)
     refine k_7 ty_agg_62 ty_size_62 rfl ?_
     refine rC (Calm.build (cs:=[_,_,_,_,_,_,_]) ty_bld_62 rfl rfl) ?_
     refine rC (Calm.bin rfl rfl (bin_bool (bin_eql_frame y F0) (decide_eq_false q))) ?_
     refine k_n ?_
     refine k_u [(1,_),(2,_),(5,_),(11,_),(12,_),(13,_),(14,_),(7,_),(6,_),(20,_)] ?_
     refine k_F rfl ?_
     refine k_k (AWP.seq ?_)
     refine AWP.draw [(0,true),(1,false),(2,true),(3,true),(4,true),(5,true),(6,true),(7,true),(8,true),(9,true),(10,true),(11,true),(12,true),(13,true),(14,true),(15,true),(16,true),(17,true),(18,true),(19,true),(20,true),(21,true)] [] mixed (by kernel_rfl) ?_
     refine dC (hc:=ldA_ (cs:=[_,_,_,_,_,_,_]) ty_agg_62 ty_size_62 rfl) (h:=?_)
     refine draw_only rfl ?_
     refine ARun.call (lit_lt rfl) go_55 rfl (ch _) ?_
     rintro _ S1 ⟨rfl,h1⟩
     rw [h1];clear h1 S1
     refine arun_nil ⟨fun _=>less_,?_⟩
     refine dP (hc:=fun _=>Calm.move rfl) (h:=?_)
     first|refine k_d ?_|refine dG (hc:=fun _=>Calm.fieldAddr ty_field_62_3 rfl) (h:=?_)
     first|refine k_d ?_|refine dL (hc:=ld_ ty_plain_3 rfl) (h:=?_)
     first|refine k_d ?_|refine dG (hc:=fun _=>Calm.bin rfl rfl (bin_bool (bin_eql _ _) (decide_eq_false q2p))) (h:=?_)
     refine dP (hc:=fun _=>(by first | exact Calm.pickT rfl rfl | exact Calm.pickF rfl rfl)) (h:=?_)
     refine dP (hc:=fun _=>Calm.move rfl) (h:=?_)
     first|refine k_d ?_|refine dG (hc:=fun _=>Calm.move rfl) (h:=?_)
     first|refine k_d ?_|refine dG (hc:=fun _=>Calm.bin rfl rfl b_lss) (h:=?_)
     first|refine k_d ?_|refine dG (hc:=fun _=>Calm.move rfl) (h:=?_)
     first|refine k_d ?_|refine dG (hc:=fun _=>Calm.fieldAddr ty_field_62_5 rfl) (h:=?_)
     first|refine k_d ?_|refine dL (hc:=ld_ ty_plain_27 rfl) (h:=?_)
     first|refine k_d ?_|refine dG (hc:=fun _=>Calm.fieldAddr ty_field_29_1 rfl) (h:=?_)
     first|refine k_d ?_|refine dL (hc:=ld_ ty_plain_26 rfl) (h:=?_)
     first|refine k_d ?_|refine dG (hc:=fun _=>Calm.move rfl) (h:=?_)
     first|refine k_d ?_|refine dG (hc:=fun _=>Calm.indexS Tryz.underlying26 ty_size_62 rfl rfl (by omega) (by omega)) (h:=?_)
     first|refine k_d ?_|refine dG (hc:=fun _=>Calm.fieldAddr ty_field_62_5 rfl) (h:=?_)
     first|refine k_d ?_|refine dL (hc:=ld_ ty_plain_27 rfl) (h:=?_)
     first|refine k_d ?_|refine dG (hc:=fun _=>Calm.bin rfl rfl b_lss) (h:=?_)
     first|refine k_d ?_|refine dG (hc:=fun _=>(by first | exact Calm.pickT rfl rfl | exact Calm.pickF rfl rfl)) (h:=?_)
     refine dP (hc:=fun _=>(by first | exact Calm.pickT rfl rfl | exact Calm.pickF rfl rfl)) (h:=?_)
     refine draw_nil ?_
     refine athen_n ?_
     refine k_u [(1,_),(2,_),(5,_),(11,_),(12,_),(13,_),(14,_),(7,_),(6,_),(20,_),(44,_)] ?_
     refine k_F rfl ?_
     refine AWP.skip ?_
     refine ain_n ?_
     refine athen_n ?_
     refine AWP.region ?_
     refine rC (Calm.bin rfl rfl b_add_i64) ?_
     refine k_m rfl (k_n ?_)
     refine ⟨i+1,?_,?_,?_,?_⟩
     all_goals (try dsimp only)
     ·exact ⟨rfl,rfl,some_int hbs.symm,rfl,rfl,rfl,trivial⟩
     ·exact less_
     ·exact ⟨hc,hno'⟩
     ·omega
   ·have hbs:bestF x.fr (i+1)=bestF x.fr i:=by rw [bestF,if_neg (fun h=>by rw [hge] at h;exact h.1.elim q (fun h=>q2 h.1))]
    have ch:=fun S=>rp_holds x.fr[i] S
    rw [decide_eq_false q2] at ch
    generalize x.fr[i]=y at *
    unfold frV at ch
    unfold frF at hki
    refine k_k (AWP.seq ?_)
    refine AWP.block ?_
    refine k_a (k_m rfl ?_)
    refine rC (Calm.indexS Tryz.underlying26 ty_size_62 rfl rfl (by omega) (by omega)) ?_
    refine k_7 ty_agg_62 ty_size_62 rfl ?_
    refine ARun.alloc (lit_lt rfl) ty_zero_62 ?_
    intro b7 f7
    have g7:=f7
    repeat ((with_reducible replace g7:=fresh_set g7);obtain ⟨g7,_⟩:=g7)
    have:=g7.ne hB;have:=g7.ne' hB
    try simp only [k_l1,k_l0,k_za,Nat.reduceAdd]
    refine k_s rfl ?_
    first|refine k_A rfl rfl ty_size_62 ?_|refine k_B rfl rfl ty_size_62 ?_
    try simp only [k_ms,k_sz,k_ss,k_za,Nat.reduceAdd]
    refine k_n ?_
    refine k_u [(1,_),(2,_),(5,_),(11,_),(12,_),(13,_),(14,_),(7,_),(6,_)] ?_
    refine AWP.seq (k_a ?_)
    refine k_7 ty_agg_62 ty_size_62 rfl ?_
    refine rC (Calm.build (cs:=[_,_,_,_,_,_,_]) ty_bld_62 rfl rfl) ?_
    refine rC (Calm.bin rfl rfl (bin_bool (bin_eql_frame y F0) (decide_eq_false q))) ?_
    refine k_n ?_
    refine k_u [(1,_),(2,_),(5,_),(11,_),(12,_),(13,_),(14,_),(7,_),(6,_),(20,_)] ?_
    refine k_F rfl ?_
    refine k_k (AWP.seq ?_)
    refine AWP.draw [(0,true),(1,false),(2,true),(3,true),(4,true),(5,true),(6,true),(7,true),(8,true),(9,true),(10,true),(11,true),(12,true),(13,true),(14,true),(15,true),(16,true),(17,true),(18,true),(19,true),(20,true),(21,true)] [] mixed (by kernel_rfl) ?_
    refine dC (hc:=ldA_ (cs:=[_,_,_,_,_,_,_]) ty_agg_62 ty_size_62 rfl) (h:=?_)
    refine draw_only rfl ?_
    refine ARun.call (lit_lt rfl) go_55 rfl (ch _) ?_
    rintro _ S1 ⟨rfl,h1⟩
    rw [h1];clear h1 S1
    refine arun_nil ⟨fun _=>less_,?_⟩
    refine dP (hc:=fun _=>Calm.move rfl) (h:=?_)
    first|refine k_d ?_|refine dG (hc:=fun _=>Calm.fieldAddr ty_field_62_3 rfl) (h:=?_)
    first|refine k_d ?_|refine dL (hc:=ld_ ty_plain_3 rfl) (h:=?_)
    first|refine k_d ?_|refine dG (hc:=fun _=>Calm.bin rfl rfl b_eql) (h:=?_)
    refine dP (hc:=fun _=>(by first | exact Calm.pickT rfl rfl | exact Calm.pickF rfl rfl)) (h:=?_)
    refine dP (hc:=fun _=>Calm.move rfl) (h:=?_)
    first|refine k_d ?_|refine dG (hc:=fun _=>Calm.move rfl) (h:=?_)
    first|refine k_d ?_|refine dG (hc:=fun _=>Calm.bin rfl rfl b_lss) (h:=?_)
    first|refine k_d ?_|refine dG (hc:=fun _=>Calm.move rfl) (h:=?_)
    first|refine k_d ?_|refine dG (hc:=fun _=>Calm.fieldAddr ty_field_62_5 rfl) (h:=?_)
    first|refine k_d ?_|refine dL (hc:=ld_ ty_plain_27 rfl) (h:=?_)
    first|refine k_d ?_|refine dG (hc:=fun _=>Calm.fieldAddr ty_field_29_1 rfl) (h:=?_)
    first|refine k_d ?_|refine dL (hc:=ld_ ty_plain_26 rfl) (h:=?_)
    first|refine k_d ?_|refine dG (hc:=fun _=>Calm.move rfl) (h:=?_)
    first|refine k_d ?_|refine dG (hc:=fun _=>Calm.indexS Tryz.underlying26 ty_size_62 rfl rfl (by omega) (by omega)) (h:=?_)
    first|refine k_d ?_|refine dG (hc:=fun _=>Calm.fieldAddr ty_field_62_5 rfl) (h:=?_)
    first|refine k_d ?_|refine dL (hc:=ld_ ty_plain_27 rfl) (h:=?_)
    first|refine k_d ?_|refine dG (hc:=fun _=>Calm.bin rfl rfl b_lss) (h:=?_)
    first|refine k_d ?_|refine dG (hc:=fun _=>(by first | exact Calm.pickT rfl rfl | exact Calm.pickF rfl rfl)) (h:=?_)
    refine dP (hc:=fun _=>(by first | exact Calm.pickT rfl rfl | exact Calm.pickF rfl rfl)) (h:=?_)
    refine draw_nil ?_
    refine athen_n ?_
    refine k_u [(1,_),(2,_),(5,_),(11,_),(12,_),(13,_),(14,_),(7,_),(6,_),(20,_),(44,_)] ?_
    refine k_F rfl ?_
    refine AWP.skip ?_
    refine ain_n ?_
    refine athen_n ?_
    refine AWP.region ?_
    refine rC (Calm.bin rfl rfl b_add_i64) ?_
    refine k_m rfl (k_n ?_)
    refine ⟨i+1,?_,?_,?_,?_⟩
    all_goals (try dsimp only)
    ·exact ⟨rfl,rfl,some_int hbs.symm,rfl,rfl,rfl,trivial⟩
    ·exact less_
    ·exact ⟨hc,hno'⟩
    ·omega
 ·have hc:i=x.fr.length:=by have:=of_decide_eq_false hc;omega
  subst hc
  have hnf:=findF0_no (fun j hj=>hno j hj hj)
  by_cases q3:bestF x.fr x.fr.length<0
  ·have htk:takeP x=(x,0,9):=by unfold takeP;rw [if_neg hnf,if_pos q3]
   rw [htk]
   refine AWP.exit ?_
   refine athen_exit ?_
   refine athen_exit ?_
   refine ain_same ?_
   refine athen_n ?_
   refine AWP.seq (k_a (k_m rfl ?_))
   refine rC (Calm.bin rfl rfl b_lss) ?_
   refine k_n ?_
   refine k_u [(1,_),(2,_),(5,_),(11,_),(12,_),(13,_),(14,_),(48,_)] ?_
   refine k_T rfl ?_
   refine k_a ?_
   refine k_9 ty_agg_29 ty_size_29 rfl ?_
   first|refine k_A rfl rfl ty_size_29 ?_|refine k_B rfl rfl ty_size_29 ?_
   try simp only [k_ms,k_sz,k_ss,k_za,Nat.reduceAdd]
   refine k_s rfl (k_e rfl ?_)
   refine k_u [(1,_),(2,_),(5,_),(11,_),(12,_),(13,_),(14,_),(48,_),(3,_),(4,_)] ?_
   refine k_r ?_
   refine ⟨_,T,⟨_,_,_,rfl,.inr ⟨ty_agg_29,[_,_,_,_,_,_,_,_,_],ty_size_29,rds_,rfl⟩,⟨_,_,rfl,⟨_,_,rfl,rfl,rfl⟩,rfl⟩,rfl⟩,less_,?_⟩
   exact ⟨_,rfl,by have:=hsame x rfl rfl rfl rfl rfl;rw [hT] at this;exact this⟩
  ·obtain ⟨m,hm⟩ : ∃ m:Nat,bestF x.fr x.fr.length=(m:Int):=⟨_,(Int.toNat_of_nonneg (by omega)).symm⟩
   have hml:m<x.fr.length:=by omega
   have hmt:(bestF x.fr x.fr.length).toNat=m:=by rw [hm];rfl
   obtain ⟨_,_,_,_,kb,_,_⟩:=kn_fr (sl_at hF m hml)
   rw [hm]
   by_cases q4:x.fr[m].dirty=true
   ·have hwm:=hwr m hml
    refine AWP.exit ?_
    refine athen_exit ?_
    refine athen_exit ?_
    refine ain_same ?_
    refine athen_n ?_
    refine AWP.seq (k_a (k_m rfl ?_))
    refine rC (Calm.bin rfl rfl b_lss) ?_
    refine k_n ?_
    refine k_u [(1,_),(2,_),(5,_),(11,_),(12,_),(13,_),(14,_),(48,_)] ?_
    refine k_F rfl ?_
    refine k_k (AWP.seq (k_a ?_))
    refine rC (Calm.fieldAddr ty_field_29_1 rfl) ?_
    refine rC (ld_ ty_plain_26 rfl) ?_
    refine k_m rfl ?_
    refine rC (Calm.indexS Tryz.underlying26 ty_size_62 rfl rfl (by omega) (by omega)) ?_
    refine rC (Calm.fieldAddr ty_field_62_4 rfl) ?_
    refine rC (Calm.as (congrArg Value.bool q4) (ld_ ty_plain_4 rfl)) ?_
    refine k_n ?_
    refine k_u [(1,_),(2,_),(5,_),(11,_),(12,_),(13,_),(14,_),(48,_),(55,_)] ?_
    refine k_T rfl ?_
    refine k_a ?_
    refine k_9 ty_agg_29 ty_size_29 rfl ?_
    refine k_m rfl ?_
    refine ARun.call (lit_lt rfl) go_61 rfl ((hwm.frame f1).frame f2) ?_
    rintro _ S1 ⟨S3,⟨S2,⟨w,rfl,M,qe,de,qw,dw,hBM,ga,hlc2,hE2,hW2,rfl,hS2⟩,gb,e3⟩,gc,h1⟩
    rw [hS2] at gb;rw [e3,hS2] at gc;rw [h1,e3,hS2];clear h1 S1 e3 S3 hS2 S2
    have hb1b:b1≠b:=(fresh_set gb).2
    have hb2b:b2≠b:=(fresh_set (fresh_set gc).1).2
    have hb21:b2≠b1:=(fresh_set gc).2
    have hM1:Fresh M b1:=(fresh_set gb).1
    have hM2:Fresh M b2:=(fresh_set (fresh_set gc).1).1
    have hwl:=wrP_len x m
    have htk:takeP x=if (wrP x m).2=0 then (setP (wrP x m).1 m F0,m,0) else ((wrP x m).1,0,(wrP x m).2):=by unfold takeP;rw [if_neg hnf,if_neg q3,hmt,if_pos (by rw [atF_eq hml];exact q4)]
    rw [htk]
    generalize wrP x m=u at *
    have hmu:m<u.1.fr.length:=by omega
    refine k_m rfl ?_
    refine rC (Calm.extract rfl rfl) ?_
    refine rC (Calm.extract rfl rfl) ?_
    refine ARun.alloc (lit_lt rfl) ty_zero_29 ?_
    intro b8 f8
    have g8:=f8
    repeat ((with_reducible replace g8:=fresh_set g8);obtain ⟨g8,_⟩:=g8)
    try simp only [k_l1,k_l0,k_za,Nat.reduceAdd]
    first|refine k_A rfl rfl ty_size_29 ?_|refine k_B rfl rfl ty_size_29 ?_
    try simp only [k_ms,k_sz,k_ss,k_za,Nat.reduceAdd]
    refine k_e rfl ?_
    refine k_u [(1,_),(2,_),(5,_),(11,_),(12,_),(13,_),(14,_),(48,_),(55,_),(8,_),(9,_)] ?_
    by_cases e0:u.2=0
    ·rw [if_pos e0]
     refine AWP.seq (k_a (k_m rfl ?_))
     refine rC (Calm.bin rfl rfl b_neq) ?_
     refine k_n ?_
     refine k_u [(1,_),(2,_),(5,_),(11,_),(12,_),(13,_),(14,_),(48,_),(55,_),(8,_),(9,_),(63,_)] ?_
     refine k_F rfl ?_
     refine k_k ?_
     refine AWP.region ?_
     refine k_9 ty_agg_29 ty_size_29 rfl ?_
     first|refine k_A rfl rfl ty_size_29 ?_|refine k_B rfl rfl ty_size_29 ?_
     try simp only [k_ms,k_sz,k_ss,k_za,Nat.reduceAdd]
     refine k_n ?_
     refine k_u [(1,_),(2,_),(5,_),(11,_),(12,_),(13,_),(14,_),(48,_),(55,_),(8,_),(9,_),(63,_)] ?_
     refine AWP.less (((M.set b (frB u.1.fr c)).set b1 ⟨29,[.int .i64 u.1.d.size,.slice qe u.1.d.ext.length de,.slice qw u.1.d.waits.length dw,.int .i64 u.1.d.fuse,.bool u.1.d.down,.slice (some ⟨b,0,none⟩) u.1.fr.length c,.int .u64 u.1.tick,.int .u64 u.1.reads,.int .u64 u.1.writes],9⟩).set b2 ⟨29,[.int .i64 0,.slice none 0 0,.slice none 0 0,.int .i64 0,.bool false,.slice none 0 0,.int .u64 0,.int .u64 0,.int .u64 0],9⟩) less_ ?_
     refine k_a ?_
     refine rC (Calm.fieldAddr ty_field_29_1 rfl) ?_
     refine rC (ld_ ty_plain_26 rfl) ?_
     refine k_m rfl ?_
     refine rC (Calm.build (cs:=[_,_,_,_,_,_,_]) ty_bld_62 rfl rfl) ?_
     refine rC (Calm.indexS Tryz.underlying26 ty_size_62 rfl rfl (by omega) (by omega)) ?_
     refine ARun.storeFr (c:=c) (i:=m) (l:=u.1.fr) (u:=F0) rfl rfl rfl (by omega) hmu ty_size_62 own_ ?_
     try simp only [k_ms,k_sz,k_ss,k_za,Nat.reduceAdd]
     refine k_n ?_
     refine k_u [(1,_),(2,_),(5,_),(11,_),(12,_),(13,_),(14,_),(48,_),(55,_),(8,_),(9,_),(63,_)] ?_
     refine k_a ?_
     refine k_9 ty_agg_29 ty_size_29 rfl ?_
     refine k_m rfl ?_
     first|refine k_A rfl rfl ty_size_29 ?_|refine k_B rfl rfl ty_size_29 ?_
     try simp only [k_ms,k_sz,k_ss,k_za,Nat.reduceAdd]
     refine k_s rfl (k_e rfl ?_)
     refine k_u [(1,_),(2,_),(5,_),(11,_),(12,_),(13,_),(14,_),(48,_),(55,_),(8,_),(9,_),(63,_),(3,_),(4,_)] ?_
     refine AWP.ret ?_
     refine ⟨_,M.set b (frB (u.1.fr.set m F0) c),⟨_,_,_,rfl,.inr ⟨ty_agg_29,[_,_,_,_,_,_,_,_,_],ty_size_29,rds_,rfl⟩,⟨_,_,rfl,⟨_,_,rfl,rfl,rfl⟩,rfl⟩,rfl⟩,less_,?_⟩
     exact ⟨_,rfl,M,qe,de,qw,dw,hBM,ga,by unfold setP;simp only [List.length_set];exact hlc2,hE2,hW2,by unfold setP;simp only [List.length_set],rfl⟩
    ·rw [if_neg e0]
     refine AWP.seq (k_a (k_m rfl ?_))
     refine rC (Calm.bin rfl rfl b_neq) ?_
     refine k_n ?_
     refine k_u [(1,_),(2,_),(5,_),(11,_),(12,_),(13,_),(14,_),(48,_),(55,_),(8,_),(9,_),(63,_)] ?_
     refine k_T rfl ?_
     refine k_a ?_
     refine k_9 ty_agg_29 ty_size_29 rfl ?_
     refine k_m rfl ?_
     first|refine k_A rfl rfl ty_size_29 ?_|refine k_B rfl rfl ty_size_29 ?_
     try simp only [k_ms,k_sz,k_ss,k_za,Nat.reduceAdd]
     refine k_s rfl (k_e rfl ?_)
     refine k_u [(1,_),(2,_),(5,_),(11,_),(12,_),(13,_),(14,_),(48,_),(55,_),(8,_),(9,_),(63,_),(3,_),(4,_)] ?_
     refine k_r ?_
     refine athen_ret ?_
     refine ⟨_,M.set b (frB u.1.fr c),⟨_,_,_,rfl,.inr ⟨ty_agg_29,[_,_,_,_,_,_,_,_,_],ty_size_29,rds_,rfl⟩,⟨_,_,rfl,⟨_,_,rfl,rfl,rfl⟩,rfl⟩,rfl⟩,less_,?_⟩
     exact ⟨_,rfl,M,qe,de,qw,dw,hBM,ga,hlc2,hE2,hW2,rfl,rfl⟩
   ·have q4':x.fr[m].dirty=false:=by simpa using q4
    have htk:takeP x=(setP x m F0,m,0):=by unfold takeP;rw [if_neg hnf,if_neg q3,hmt,if_neg (by rw [atF_eq hml];exact q4)]
    rw [htk]
    refine AWP.exit ?_
    refine athen_exit ?_
    refine athen_exit ?_
    refine ain_same ?_
    refine athen_n ?_
    refine AWP.seq (k_a (k_m rfl ?_))
    refine rC (Calm.bin rfl rfl b_lss) ?_
    refine k_n ?_
    refine k_u [(1,_),(2,_),(5,_),(11,_),(12,_),(13,_),(14,_),(48,_)] ?_
    refine k_F rfl ?_
    refine k_k (AWP.seq (k_a ?_))
    refine rC (Calm.fieldAddr ty_field_29_1 rfl) ?_
    refine rC (ld_ ty_plain_26 rfl) ?_
    refine k_m rfl ?_
    refine rC (Calm.indexS Tryz.underlying26 ty_size_62 rfl rfl (by omega) (by omega)) ?_
    refine rC (Calm.fieldAddr ty_field_62_4 rfl) ?_
    refine rC (Calm.as (congrArg Value.bool q4') (ld_ ty_plain_4 rfl)) ?_
    refine k_n ?_
    refine k_u [(1,_),(2,_),(5,_),(11,_),(12,_),(13,_),(14,_),(48,_),(55,_)] ?_
    refine k_F rfl ?_
    refine k_k (k_a ?_)
    refine rC (Calm.fieldAddr ty_field_29_1 rfl) ?_
    refine rC (ld_ ty_plain_26 rfl) ?_
    refine k_m rfl ?_
    refine rC (Calm.build (cs:=[_,_,_,_,_,_,_]) ty_bld_62 rfl rfl) ?_
    refine rC (Calm.indexS Tryz.underlying26 ty_size_62 rfl rfl (by omega) (by omega)) ?_
    refine ARun.storeFr (c:=c) (i:=m) (l:=x.fr) (u:=F0) rfl rfl rfl (by omega) hml ty_size_62 own_ ?_
    try simp only [k_ms,k_sz,k_ss,k_za,Nat.reduceAdd]
    refine k_n ?_
    refine k_u [(1,_),(2,_),(5,_),(11,_),(12,_),(13,_),(14,_),(48,_),(55,_)] ?_
    refine k_a ?_
    refine k_9 ty_agg_29 ty_size_29 rfl ?_
    refine k_m rfl ?_
    first|refine k_A rfl rfl ty_size_29 ?_|refine k_B rfl rfl ty_size_29 ?_
    try simp only [k_ms,k_sz,k_ss,k_za,Nat.reduceAdd]
    refine k_s rfl (k_e rfl ?_)
    refine k_u [(1,_),(2,_),(5,_),(11,_),(12,_),(13,_),(14,_),(48,_),(55,_),(3,_),(4,_)] ?_
    refine AWP.ret ?_
    refine ⟨_,B'.set b (frB (x.fr.set m F0) c),⟨_,_,_,rfl,.inr ⟨ty_agg_29,[_,_,_,_,_,_,_,_,_],ty_size_29,rds_,rfl⟩,⟨_,_,rfl,⟨_,_,rfl,rfl,rfl⟩,rfl⟩,rfl⟩,(by have hq1:=hT1 _ f1;have hq2:=hT1 _ (fresh_set f2).1;rw [← hT];exact less_),?_⟩
    exact ⟨_,rfl,hsame (setP x m F0) rfl (by unfold setP;simp) rfl rfl rfl⟩
end Go.Proofs.YtkeiphkccnfhoaaGreat
namespace Go.Proofs.YtkeiphkccnfhoaaGreat
open Go.RowKit
open Mv Disk
set_option maxRecDepth 4000
theorem RpB.plR {S B T : Mem} {b c : Nat} {x : Pl} {r : Value} (h : RpB B b c x r T) (hS : S.Less B) (hm : x.fr.length ≤ 256) : S.Less T ∧ PlR T r x := by
 obtain ⟨B',pe,ce,pw,cw,hl,hf,hlc,hE,hW,rfl,rfl⟩:=h
 have h1:=Mem.less_set B' b (frB x.fr c) hf.1
 exact ⟨(hS.trans hl).trans h1,pe,ce,pw,cw,some ⟨b,0,none⟩,c,rfl,hE.less h1,hW.less h1,Sl.own (Mem.own_set_same _ _ _) fr_len List.prefix_rfl rfl hlc (Nat.le_trans hm (by decide))⟩
/-- Frames of one's own, turned, over what the disk knows. -/
theorem rpB_like {B : Mem} {b c : Nat} {x y : Pl} {qe qw : Option Addr} {de dw : Nat} (hf : Fresh B b) (hlc : x.fr.length ≤ c) (hE : Sl 2 extF B (.slice qe x.d.ext.length de) x.d.ext) (hW : Sl 3 wrF B (.slice qw x.d.waits.length dw) x.d.waits) (hd : y.d = x.d) (hl : y.fr.length = x.fr.length) :
  RpB B b c y (.agg #[.int .i64 x.d.size,.slice qe x.d.ext.length de,.slice qw x.d.waits.length dw,.int .i64 x.d.fuse,.bool x.d.down,.slice (some ⟨b,0,none⟩) x.fr.length c,.int .u64 y.tick,.int .u64 y.reads,.int .u64 y.writes]) (B.set b (frB y.fr c)) :=
 ⟨B,qe,de,qw,dw,Mem.Less.refl _,hf,by rw [hl];exact hlc,by rw [hd];exact hE,by rw [hd];exact hW,by rw [hd,hl],rfl⟩
theorem fr_kn {B : Mem} {b c : Nat} {l : List Fr} {j : Nat} (hj : j < l.length) : (B.set b (frB l c)).Knows ⟨b, 0 + j * 7, none⟩ (frF l[j]) := by
 refine Mem.own_knows (Mem.own_set_same _ _ _) _ _ fun i v hi=>?_
 rw [Nat.zero_add];exact flat_get fr_len l j hj i v hi
theorem atF_kn {B : Mem} {b c : Nat} {x : Pl} {j : Nat} (hj : j < x.fr.length) : (B.set b (frB x.fr c)).Knows ⟨b, 0 + j * 7, none⟩ (frF (atF x j)) := by rw [atF_eq hj]; exact fr_kn hj
set_option maxHeartbeats 8000000 in
theorem rp_Return (v : Value) (x : Pl) (vl : Value) (l : List Int) (S : Mem) (hp : PlR S v x) (hz : Dz x.d) (hf : x.fr.length * 72 ≤ 140737488351232) (hl : Sl 1 i64s S vl l) :
  ACall Tryz.prog 21 #[v,vl] S (PlRes (openedP x (eachP ret1 x x l)) S):=by
 have hpow:=fun M h=>rp_power v x M h hz
 have hasw:=rp_as v x (openP x).2 S hp hz hf
 have hcopy:=rp_Copy v x S hp hz hf
 have hcopyR:=fun M h=>rp_CopyR v x M h hz hf
 obtain ⟨pe,ce,pw,cw,pf,cf,rfl,hE,hW,hF⟩:=id hp
 obtain ⟨pl,cl,rfl,_,_,hl3⟩:=id hl
 unfold openedP
 rcases openP_or x with ⟨ho',hR⟩ | ⟨ho',hR,hdn⟩ | ⟨ho',hR,hdn⟩ <;> rw [ho'] at hpow hasw ⊢
 ·rw [if_neg (show ¬ (2:Int)=0 from by decide)]
  refine ACall.enter (rs:=[.cell 4 29,.tmp 5]) 54 [(0,.agg #[.int .i64 x.d.size,.slice pe x.d.ext.length ce,.slice pw x.d.waits.length cw,.int .i64 x.d.fuse,.bool x.d.down,.slice pf x.fr.length cf,.int .u64 x.tick,.int .u64 x.reads,.int .u64 x.writes]),(1,.slice pl l.length cl)] Tryz.func21 rfl rfl (Nat.le_of_ble_eq_true rfl) rfl ⟨rfl,rfl,trivial⟩ ?_
  refine k_a ?_
  refine k_b9 rfl ?_
  intro b2 f2
  have g2:=f2
  repeat ((with_reducible replace g2:=fresh_set g2);obtain ⟨g2,_⟩:=g2)
  try simp only [k_l1,k_l0,k_za,Nat.reduceAdd]
  refine ARun.alloc (lit_lt rfl) ty_zero_29 ?_
  intro b4 f4
  have g4:=f4
  repeat ((with_reducible replace g4:=fresh_set g4);obtain ⟨g4,_⟩:=g4)
  try simp only [k_l1,k_l0,k_za,Nat.reduceAdd]
  refine k_e rfl (k_a ?_)
  refine k_9 ty_agg_29 ty_size_29 rfl ?_
  refine ARun.call (lit_lt rfl) go_33 rfl (hpow _ (hp.less less_)) ?_
  rintro _ S1 ⟨rfl,h1⟩
  rw [h1];clear h1 S1
  refine k_e rfl ?_
  refine k_u [(0,_),(1,_),(2,_),(4,_),(5,_),(6,_)] ?_
  refine AWP.seq (k_a (k_m rfl ?_))
  refine rC (Calm.bin rfl rfl b_neq) ?_
  refine k_n ?_
  refine k_u [(0,_),(1,_),(2,_),(4,_),(5,_),(6,_),(13,_)] ?_
  refine k_T rfl ?_
  refine k_a ?_
  refine k_9 ty_agg_29 ty_size_29 rfl ?_
  refine k_m rfl ?_
  refine ARun.call (lit_lt rfl) go_34 rfl ((hasw.frame f2).frame f4) ?_
  rintro _ S1 ⟨Sa,⟨M,⟨w,rfl,hSM,hpl⟩,fa,hSa⟩,fb,h1⟩
  rw [h1,hSa];rw [hSa] at fb;clear h1 S1 hSa Sa
  obtain ⟨fbm,n21⟩:=fresh_set fb
  obtain ⟨qe,de,qw,dw,qf,df,rfl,hE2,hW2,hF2⟩:=id hpl
  refine rC (Calm.extract rfl rfl) ?_
  refine rC (Calm.extract rfl rfl) ?_
  first|refine k_A rfl rfl ty_size_29 ?_|refine k_B rfl rfl ty_size_29 ?_
  try simp only [k_ms,k_sz,k_ss,k_za,Nat.reduceAdd]
  refine k_e rfl ?_
  refine k_u [(0,_),(1,_),(2,_),(4,_),(5,_),(6,_),(13,_)] ?_
  refine k_r ?_
  refine ⟨_,M,⟨_,_,_,rfl,.inr ⟨ty_agg_29,[_,_,_,_,_,_,_,_,_],ty_size_29,rds_,rfl⟩,⟨_,_,rfl,rfl,rfl⟩,rfl⟩,less_,?_⟩
  exact ⟨_,rfl,hSM,hpl⟩
 ·rw [if_neg (show ¬ (10:Int)=0 from by decide)]
  refine ACall.enter (rs:=[.cell 4 29,.tmp 5]) 54 [(0,.agg #[.int .i64 x.d.size,.slice pe x.d.ext.length ce,.slice pw x.d.waits.length cw,.int .i64 x.d.fuse,.bool x.d.down,.slice pf x.fr.length cf,.int .u64 x.tick,.int .u64 x.reads,.int .u64 x.writes]),(1,.slice pl l.length cl)] Tryz.func21 rfl rfl (Nat.le_of_ble_eq_true rfl) rfl ⟨rfl,rfl,trivial⟩ ?_
  refine k_a ?_
  refine k_b9 rfl ?_
  intro b2 f2
  have g2:=f2
  repeat ((with_reducible replace g2:=fresh_set g2);obtain ⟨g2,_⟩:=g2)
  try simp only [k_l1,k_l0,k_za,Nat.reduceAdd]
  refine ARun.alloc (lit_lt rfl) ty_zero_29 ?_
  intro b4 f4
  have g4:=f4
  repeat ((with_reducible replace g4:=fresh_set g4);obtain ⟨g4,_⟩:=g4)
  try simp only [k_l1,k_l0,k_za,Nat.reduceAdd]
  refine k_e rfl (k_a ?_)
  refine k_9 ty_agg_29 ty_size_29 rfl ?_
  refine ARun.call (lit_lt rfl) go_33 rfl (hpow _ (hp.less less_)) ?_
  rintro _ S1 ⟨rfl,h1⟩
  rw [h1];clear h1 S1
  refine k_e rfl ?_
  refine k_u [(0,_),(1,_),(2,_),(4,_),(5,_),(6,_)] ?_
  refine AWP.seq (k_a (k_m rfl ?_))
  refine rC (Calm.bin rfl rfl b_neq) ?_
  refine k_n ?_
  refine k_u [(0,_),(1,_),(2,_),(4,_),(5,_),(6,_),(13,_)] ?_
  refine k_T rfl ?_
  refine k_a ?_
  refine k_9 ty_agg_29 ty_size_29 rfl ?_
  refine k_m rfl ?_
  refine ARun.call (lit_lt rfl) go_34 rfl ((hasw.frame f2).frame f4) ?_
  rintro _ S1 ⟨Sa,⟨M,⟨w,rfl,hSM,hpl⟩,fa,hSa⟩,fb,h1⟩
  rw [h1,hSa];rw [hSa] at fb;clear h1 S1 hSa Sa
  obtain ⟨fbm,n21⟩:=fresh_set fb
  obtain ⟨qe,de,qw,dw,qf,df,rfl,hE2,hW2,hF2⟩:=id hpl
  refine rC (Calm.extract rfl rfl) ?_
  refine rC (Calm.extract rfl rfl) ?_
  first|refine k_A rfl rfl ty_size_29 ?_|refine k_B rfl rfl ty_size_29 ?_
  try simp only [k_ms,k_sz,k_ss,k_za,Nat.reduceAdd]
  refine k_e rfl ?_
  refine k_u [(0,_),(1,_),(2,_),(4,_),(5,_),(6,_),(13,_)] ?_
  refine k_r ?_
  refine ⟨_,M,⟨_,_,_,rfl,.inr ⟨ty_agg_29,[_,_,_,_,_,_,_,_,_],ty_size_29,rds_,rfl⟩,⟨_,_,rfl,rfl,rfl⟩,rfl⟩,less_,?_⟩
  exact ⟨_,rfl,hSM,hpl⟩
 ·rw [if_pos rfl]
  have hw:=right_PW hR hz hdn
  have hl1:=hw.l1
  have h256:=hw.l2
  refine ACall.enter (rs:=[.cell 4 29,.tmp 5]) 54 [(0,.agg #[.int .i64 x.d.size,.slice pe x.d.ext.length ce,.slice pw x.d.waits.length cw,.int .i64 x.d.fuse,.bool x.d.down,.slice pf x.fr.length cf,.int .u64 x.tick,.int .u64 x.reads,.int .u64 x.writes]),(1,.slice pl l.length cl)] Tryz.func21 rfl rfl (Nat.le_of_ble_eq_true rfl) rfl ⟨rfl,rfl,trivial⟩ ?_
  refine k_a ?_
  refine k_b9 rfl ?_
  intro b2 f2
  have g2:=f2
  repeat ((with_reducible replace g2:=fresh_set g2);obtain ⟨g2,_⟩:=g2)
  try simp only [k_l1,k_l0,k_za,Nat.reduceAdd]
  refine ARun.alloc (lit_lt rfl) ty_zero_29 ?_
  intro b4 f4
  have g4:=f4
  repeat ((with_reducible replace g4:=fresh_set g4);obtain ⟨g4,_⟩:=g4)
  try simp only [k_l1,k_l0,k_za,Nat.reduceAdd]
  refine k_e rfl (k_a ?_)
  refine k_9 ty_agg_29 ty_size_29 rfl ?_
  refine ARun.call (lit_lt rfl) go_33 rfl (hpow _ (hp.less less_)) ?_
  rintro _ S1 ⟨rfl,h1⟩
  rw [h1];clear h1 S1
  refine k_e rfl ?_
  refine k_u [(0,_),(1,_),(2,_),(4,_),(5,_),(6,_)] ?_
  refine AWP.seq (k_a (k_m rfl ?_))
  refine rC (Calm.bin rfl rfl b_neq) ?_
  refine k_n ?_
  refine k_u [(0,_),(1,_),(2,_),(4,_),(5,_),(6,_),(13,_)] ?_
  refine k_F rfl ?_
  refine k_k (k_a ?_)
  refine k_9 ty_agg_29 ty_size_29 rfl ?_
  refine ARun.call (lit_lt rfl) go_5 rfl ((hcopy.frame f2).frame f4) ?_
  rintro _ S1 ⟨Sa,⟨T0,⟨B,oF,qe,de,qw,dw,hSB,ho,hE2,hW2,rfl,hT0⟩,fa,hSa⟩,fb,h1⟩
  obtain ⟨b,c,rfl⟩:=ho.some (by omega)
  obtain ⟨hbB,hlc⟩:=ho.own b c rfl
  have hT0':T0=B.set b (frB x.fr c):=hT0
  rw [hSa] at fb;rw [hT0'] at fa fb;rw [h1,hSa,hT0'];clear h1 S1 hSa Sa hT0 hT0' T0
  obtain ⟨hAB,nAb⟩:=fresh_set fa
  obtain ⟨hRb,nRA⟩:=fresh_set fb
  obtain ⟨hRB,nRb⟩:=fresh_set hRb
  rw [show outV (some (b,c)) x.fr.length = .slice (some ⟨b,0,none⟩) x.fr.length c from rfl]
  refine ARun.alloc (lit_lt rfl) ty_zero_29 ?_
  intro b7 f7
  have g7:=f7
  repeat ((with_reducible replace g7:=fresh_set g7);obtain ⟨g7,_⟩:=g7)
  try simp only [k_l1,k_l0,k_za,Nat.reduceAdd]
  first|refine k_A rfl rfl ty_size_29 ?_|refine k_B rfl rfl ty_size_29 ?_
  try simp only [k_ms,k_sz,k_ss,k_za,Nat.reduceAdd]
  refine k_n ?_
  refine k_u [(0,_),(1,_),(2,_),(4,_),(5,_),(6,_),(13,_),(7,_)] ?_
  refine AWP.seq (k_a (k_m rfl ?_))
  refine rC (Calm.lenSl Tryz.underlying30 rfl) ?_
  refine k_m rfl (k_n ?_)
  refine AWP.block ?_
  refine AWP.loop (X:=Nat × Pl) (fun z=>[(2,.pointer (some ⟨b2,0,none⟩)),(4,.pointer (some ⟨b4,0,none⟩)),(7,.pointer (some ⟨b7,0,none⟩)),(21,.slice pl l.length cl),(22,.int .i64 l.length),(23,.int .i64 z.1)]) (fun z=>(((B.set b (frB z.2.fr c)).set b2 ⟨29,[.int .i64 x.d.size,.slice pe x.d.ext.length ce,.slice pw x.d.waits.length cw,.int .i64 x.d.fuse,.bool x.d.down,.slice pf x.fr.length cf,.int .u64 x.tick,.int .u64 x.reads,.int .u64 x.writes],9⟩).set b4 ⟨29,[.int .i64 0,.slice none 0 0,.slice none 0 0,.int .i64 0,.bool false,.slice none 0 0,.int .u64 0,.int .u64 0,.int .u64 0],9⟩).set b7 ⟨29,[.int .i64 x.d.size,.slice qe x.d.ext.length de,.slice qw x.d.waits.length dw,.int .i64 x.d.fuse,.bool x.d.down,.slice (some ⟨b,0,none⟩) x.fr.length c,.int .u64 x.tick,.int .u64 x.reads,.int .u64 x.writes],9⟩) (fun z=>z.1≤l.length∧PW z.2∧z.2.d=x.d∧z.2.fr.length=x.fr.length∧z.2.tick=x.tick∧z.2.reads=x.reads∧z.2.writes=x.writes∧eachP ret1 x x l=eachP ret1 x z.2 (l.drop z.1)) (fun z=>l.length-z.1) ((0,x)) ⟨rfl,rfl,rfl,rfl,rfl,rfl,trivial⟩ (Mem.Less.refl _) (⟨Nat.zero_le _,hw,rfl,rfl,rfl,rfl,rfl,by rw [List.drop_zero]⟩) ?_
  rintro ⟨i,y⟩ ⟨hi,hwy,hyd,hyl,hyt,hyr,hyw,heq⟩
  (try dsimp only at *)
  have hyB:=rpB_like (y:=y) hbB hlc hE2 hW2 hyd hyl
  rw [hyt,hyr,hyw] at hyB
  obtain ⟨hST,hpl⟩:=hyB.plR hSB (by rw [hyl];exact h256)
  have hcB:=fun r=>(hcopyR B (hp.less hSB)).frame (r:=r) hRB
  refine k_a ?_
  refine rC (Calm.bin rfl rfl b_lss) ?_
  refine k_n (AWP.seq ?_)
  refine AWP.condB rfl (fun hc=>?_) (fun hc=>?_)
  ·have hc:i<l.length:=by have:=of_decide_eq_true hc;omega
   obtain ⟨lb,off,rfl,hk⟩:=hl3.resolve_left (fun e=>by rw [e] at hc;simp at hc)
   have hki:=(hk i hc).less hSB
   rw [drop_get hc,eachP] at heq
   generalize l[i]=n at *
   unfold i64s at hki
   by_cases q1:n<0
   ·have hg:ret1 y n=(y,1):=by unfold ret1;rw [if_pos (.inl q1)]
    rw [hg,if_neg (show ¬ (1:Int)=0 by decide)] at heq
    rw [heq]
    refine k_k (AWP.seq ?_)
    refine AWP.block ?_
    refine k_a ?_
    refine rC (Calm.indexS Tryz.underlying30 ty_size_3 rfl rfl (by omega) (by omega)) ?_
    refine rC (ld_ ty_plain_3 rfl) ?_
    refine k_e rfl ?_
    refine k_u [(2,_),(4,_),(7,_),(21,_),(22,_),(23,_),(24,_),(9,_)] ?_
    refine AWP.seq (k_a (k_m rfl ?_))
    refine rC (Calm.bin rfl rfl (bin_bool (bin_lss _ _) (decide_eq_true q1))) ?_
    refine k_m rfl ?_
    first|refine k_q 29 ?_|refine rG 29 (Calm.move rfl) ?_
    first|refine k_q 29 ?_|refine rG 29 (Calm.fieldAddr ty_field_29_1 rfl) ?_
    first|refine k_q 29 ?_|refine rG 29 (ld_ ty_plain_26 rfl) ?_
    first|refine k_q 29 ?_|refine rG 29 (Calm.lenSl Tryz.underlying26 rfl) ?_
    first|refine k_q 29 ?_|refine rG 29 (Calm.bin rfl rfl b_geq) ?_
    first|refine k_t rfl rfl ?_|refine k_f rfl rfl ?_
    refine k_n ?_
    refine k_u [(2,_),(4,_),(7,_),(21,_),(22,_),(23,_),(24,_),(9,_),(35,_)] ?_
    refine k_T rfl ?_
    refine k_a ?_
    refine k_9 ty_agg_29 ty_size_29 rfl ?_
    refine ARun.call (lit_lt rfl) go_5 rfl (ACall.less less_ (hcB ⟨29,[.int .i64 0,.slice none 0 0,.slice none 0 0,.int .i64 0,.bool false,.slice none 0 0,.int .u64 0,.int .u64 0,.int .u64 0],9⟩)) ?_
    rintro _ S1 ⟨Mx,⟨hBx,hpx⟩,fx,h1⟩
    rw [h1];clear h1 S1
    obtain ⟨ue,ve,uw,vw,uf,vf,rfl,_,_,_⟩:=id hpx
    first|refine k_A rfl rfl ty_size_29 ?_|refine k_B rfl rfl ty_size_29 ?_
    try simp only [k_ms,k_sz,k_ss,k_za,Nat.reduceAdd]
    refine k_e rfl ?_
    refine k_u [(2,_),(4,_),(7,_),(21,_),(22,_),(23,_),(24,_),(9,_),(35,_),(5,_)] ?_
    refine k_r ?_
    refine ain_ret ?_
    refine athen_ret ?_
    refine athen_ret ?_
    refine ain_ret ?_
    refine athen_ret ?_
    refine ⟨_,Mx,⟨_,_,_,rfl,.inr ⟨ty_agg_29,[_,_,_,_,_,_,_,_,_],ty_size_29,rds_,rfl⟩,⟨_,_,rfl,rfl,rfl⟩,rfl⟩,less_,?_⟩
    exact ⟨_,rfl,hSB.trans hBx,hpx⟩
   ·by_cases q2:(y.fr.length:Int)≤n
    ·have hg:ret1 y n=(y,1):=by unfold ret1;rw [if_pos (.inr q2)]
     rw [hg,if_neg (show ¬ (1:Int)=0 by decide)] at heq
     rw [heq]
     refine k_k (AWP.seq ?_)
     refine AWP.block ?_
     refine k_a ?_
     refine rC (Calm.indexS Tryz.underlying30 ty_size_3 rfl rfl (by omega) (by omega)) ?_
     refine rC (ld_ ty_plain_3 rfl) ?_
     refine k_e rfl ?_
     refine k_u [(2,_),(4,_),(7,_),(21,_),(22,_),(23,_),(24,_),(9,_)] ?_
     refine AWP.seq (k_a (k_m rfl ?_))
     refine rC (Calm.bin rfl rfl (bin_bool (bin_lss _ _) (decide_eq_false q1))) ?_
     refine k_m rfl ?_
     first|refine k_q 29 ?_|refine rG 29 (Calm.move rfl) ?_
     first|refine k_q 29 ?_|refine rG 29 (Calm.fieldAddr ty_field_29_1 rfl) ?_
     first|refine k_q 29 ?_|refine rG 29 (ld_ ty_plain_26 rfl) ?_
     first|refine k_q 29 ?_|refine rG 29 (Calm.lenSl Tryz.underlying26 rfl) ?_
     first|refine k_q 29 ?_|refine rG 29 (Calm.bin rfl rfl (bin_bool (bin_geq _ _) (decide_eq_true (by rw [← hyl];exact q2)))) ?_
     first|refine k_t rfl rfl ?_|refine k_f rfl rfl ?_
     refine k_n ?_
     refine k_u [(2,_),(4,_),(7,_),(21,_),(22,_),(23,_),(24,_),(9,_),(35,_)] ?_
     refine k_T rfl ?_
     refine k_a ?_
     refine k_9 ty_agg_29 ty_size_29 rfl ?_
     refine ARun.call (lit_lt rfl) go_5 rfl (ACall.less less_ (hcB ⟨29,[.int .i64 0,.slice none 0 0,.slice none 0 0,.int .i64 0,.bool false,.slice none 0 0,.int .u64 0,.int .u64 0,.int .u64 0],9⟩)) ?_
     rintro _ S1 ⟨Mx,⟨hBx,hpx⟩,fx,h1⟩
     rw [h1];clear h1 S1
     obtain ⟨ue,ve,uw,vw,uf,vf,rfl,_,_,_⟩:=id hpx
     first|refine k_A rfl rfl ty_size_29 ?_|refine k_B rfl rfl ty_size_29 ?_
     try simp only [k_ms,k_sz,k_ss,k_za,Nat.reduceAdd]
     refine k_e rfl ?_
     refine k_u [(2,_),(4,_),(7,_),(21,_),(22,_),(23,_),(24,_),(9,_),(35,_),(5,_)] ?_
     refine k_r ?_
     refine ain_ret ?_
     refine athen_ret ?_
     refine athen_ret ?_
     refine ain_ret ?_
     refine athen_ret ?_
     refine ⟨_,Mx,⟨_,_,_,rfl,.inr ⟨ty_agg_29,[_,_,_,_,_,_,_,_,_],ty_size_29,rds_,rfl⟩,⟨_,_,rfl,rfl,rfl⟩,rfl⟩,less_,?_⟩
     exact ⟨_,rfl,hSB.trans hBx,hpx⟩
    ·obtain ⟨j,rfl⟩ : ∃ j:Nat,n=(j:Int):=⟨_,(Int.toNat_of_nonneg (by omega)).symm⟩
     have hj:j<y.fr.length:=by omega
     obtain ⟨_,_,_,kp,_,_,kl⟩:=kn_fr (atF_kn (B:=B) (b:=b) (c:=c) hj)
     have hpj:=hwy.pn _ (atF_mem hj)
     have hqw:=ret_PW y (j:Int) hwy
     by_cases q3:(atF y j).leased=false
     ·have hg:ret1 y (j:Int)=(y,11):=by unfold ret1;rw [if_neg (by omega),Int.toNat_natCast,if_pos q3]
      rw [hg,if_neg (show ¬ (11:Int)=0 by decide)] at heq
      rw [heq]
      refine k_k (AWP.seq ?_)
      refine AWP.block ?_
      refine k_a ?_
      refine rC (Calm.indexS Tryz.underlying30 ty_size_3 rfl rfl (by omega) (by omega)) ?_
      refine rC (ld_ ty_plain_3 rfl) ?_
      refine k_e rfl ?_
      refine k_u [(2,_),(4,_),(7,_),(21,_),(22,_),(23,_),(24,_),(9,_)] ?_
      refine AWP.seq (k_a (k_m rfl ?_))
      refine rC (Calm.bin rfl rfl (bin_bool (bin_lss _ _) (decide_eq_false q1))) ?_
      refine k_m rfl ?_
      first|refine k_q 29 ?_|refine rG 29 (Calm.move rfl) ?_
      first|refine k_q 29 ?_|refine rG 29 (Calm.fieldAddr ty_field_29_1 rfl) ?_
      first|refine k_q 29 ?_|refine rG 29 (ld_ ty_plain_26 rfl) ?_
      first|refine k_q 29 ?_|refine rG 29 (Calm.lenSl Tryz.underlying26 rfl) ?_
      first|refine k_q 29 ?_|refine rG 29 (Calm.bin rfl rfl (bin_bool (bin_geq _ _) (decide_eq_false (by rw [← hyl];exact q2)))) ?_
      first|refine k_t rfl rfl ?_|refine k_f rfl rfl ?_
      refine k_n ?_
      refine k_u [(2,_),(4,_),(7,_),(21,_),(22,_),(23,_),(24,_),(9,_),(35,_)] ?_
      refine k_F rfl ?_
      refine k_k (AWP.seq (k_a ?_))
      refine rC (Calm.fieldAddr ty_field_29_1 rfl) ?_
      refine rC (ld_ ty_plain_26 rfl) ?_
      refine k_m rfl ?_
      refine rC (Calm.indexS Tryz.underlying26 ty_size_62 rfl rfl (by omega) (by omega)) ?_
      refine rC (Calm.fieldAddr ty_field_62_6 rfl) ?_
      refine rC (Calm.as (congrArg Value.bool q3) (ld_ ty_plain_4 rfl)) ?_
      refine rC (Calm.un rfl (una_not _)) ?_
      refine k_n ?_
      refine k_u [(2,_),(4,_),(7,_),(21,_),(22,_),(23,_),(24,_),(9,_),(35,_),(44,_)] ?_
      refine k_T rfl ?_
      refine k_a ?_
      refine k_9 ty_agg_29 ty_size_29 rfl ?_
      refine ARun.call (lit_lt rfl) go_5 rfl (ACall.less less_ (hcB ⟨29,[.int .i64 0,.slice none 0 0,.slice none 0 0,.int .i64 0,.bool false,.slice none 0 0,.int .u64 0,.int .u64 0,.int .u64 0],9⟩)) ?_
      rintro _ S1 ⟨Mx,⟨hBx,hpx⟩,fx,h1⟩
      rw [h1];clear h1 S1
      obtain ⟨ue,ve,uw,vw,uf,vf,rfl,_,_,_⟩:=id hpx
      first|refine k_A rfl rfl ty_size_29 ?_|refine k_B rfl rfl ty_size_29 ?_
      try simp only [k_ms,k_sz,k_ss,k_za,Nat.reduceAdd]
      refine k_e rfl ?_
      refine k_u [(2,_),(4,_),(7,_),(21,_),(22,_),(23,_),(24,_),(9,_),(35,_),(44,_),(5,_)] ?_
      refine k_r ?_
      refine ain_ret ?_
      refine athen_ret ?_
      refine athen_ret ?_
      refine ain_ret ?_
      refine athen_ret ?_
      refine ⟨_,Mx,⟨_,_,_,rfl,.inr ⟨ty_agg_29,[_,_,_,_,_,_,_,_,_],ty_size_29,rds_,rfl⟩,⟨_,_,rfl,rfl,rfl⟩,rfl⟩,less_,?_⟩
      exact ⟨_,rfl,hSB.trans hBx,hpx⟩
     ·have hg:ret1 y (j:Int)=(setP y j (F0),0):=by unfold ret1;rw [if_neg (by omega),Int.toNat_natCast,if_neg q3]
      rw [hg,if_pos rfl] at heq
      rw [hg] at hqw
      refine k_k (AWP.seq ?_)
      refine AWP.block ?_
      refine k_a ?_
      refine rC (Calm.indexS Tryz.underlying30 ty_size_3 rfl rfl (by omega) (by omega)) ?_
      refine rC (ld_ ty_plain_3 rfl) ?_
      refine k_e rfl ?_
      refine k_u [(2,_),(4,_),(7,_),(21,_),(22,_),(23,_),(24,_),(9,_)] ?_
      refine AWP.seq (k_a (k_m rfl ?_))
      refine rC (Calm.bin rfl rfl (bin_bool (bin_lss _ _) (decide_eq_false q1))) ?_
      refine k_m rfl ?_
      first|refine k_q 29 ?_|refine rG 29 (Calm.move rfl) ?_
      first|refine k_q 29 ?_|refine rG 29 (Calm.fieldAddr ty_field_29_1 rfl) ?_
      first|refine k_q 29 ?_|refine rG 29 (ld_ ty_plain_26 rfl) ?_
      first|refine k_q 29 ?_|refine rG 29 (Calm.lenSl Tryz.underlying26 rfl) ?_
      first|refine k_q 29 ?_|refine rG 29 (Calm.bin rfl rfl (bin_bool (bin_geq _ _) (decide_eq_false (by rw [← hyl];exact q2)))) ?_
      first|refine k_t rfl rfl ?_|refine k_f rfl rfl ?_
      refine k_n ?_
      refine k_u [(2,_),(4,_),(7,_),(21,_),(22,_),(23,_),(24,_),(9,_),(35,_)] ?_
      refine k_F rfl ?_
      refine k_k (AWP.seq (k_a ?_))
      refine rC (Calm.fieldAddr ty_field_29_1 rfl) ?_
      refine rC (ld_ ty_plain_26 rfl) ?_
      refine k_m rfl ?_
      refine rC (Calm.indexS Tryz.underlying26 ty_size_62 rfl rfl (by omega) (by omega)) ?_
      refine rC (Calm.fieldAddr ty_field_62_6 rfl) ?_
      refine rC (Calm.as (congrArg Value.bool (show (atF y j).leased=true by simpa using q3)) (ld_ ty_plain_4 rfl)) ?_
      refine rC (Calm.un rfl (una_not _)) ?_
      refine k_n ?_
      refine k_u [(2,_),(4,_),(7,_),(21,_),(22,_),(23,_),(24,_),(9,_),(35,_),(44,_)] ?_
      refine k_F rfl ?_
      refine k_k ?_
      refine AWP.region ?_
      refine rC (Calm.fieldAddr ty_field_29_1 rfl) ?_
      refine rC (ld_ ty_plain_26 rfl) ?_
      refine k_m rfl ?_
      refine rC (Calm.build (cs:=[_,_,_,_,_,_,_]) ty_bld_62 rfl rfl) ?_
      refine rC (Calm.indexS Tryz.underlying26 ty_size_62 rfl rfl (by omega) (by omega)) ?_
      refine ARun.storeFr (c:=c) (i:=j) (l:=y.fr) (u:=F0) rfl rfl rfl (by omega) hj ty_size_62 own_ ?_
      try simp only [k_ms,k_sz,k_ss,k_za,Nat.reduceAdd]
      refine arun_nil ?_
      refine ain_n ?_
      refine athen_n ?_
      refine k_u [(2,_),(4,_),(7,_),(21,_),(22,_),(23,_),(24,_),(9,_),(35,_),(44,_)] ?_
      refine AWP.region ?_
      refine rC (Calm.bin rfl rfl b_add_i64) ?_
      refine k_m rfl (k_n ?_)
      refine ⟨(i+1,setP y j (F0)),?_,?_,?_,?_⟩
      all_goals (try dsimp only)
      ·exact ⟨rfl,rfl,rfl,rfl,rfl,rfl,trivial⟩
      ·exact (by show ((((B.set b (frB (y.fr.set j (F0)) c)).set b2 ⟨29,[.int .i64 x.d.size,.slice pe x.d.ext.length ce,.slice pw x.d.waits.length cw,.int .i64 x.d.fuse,.bool x.d.down,.slice pf x.fr.length cf,.int .u64 x.tick,.int .u64 x.reads,.int .u64 x.writes],9⟩).set b4 ⟨29,[.int .i64 0,.slice none 0 0,.slice none 0 0,.int .i64 0,.bool false,.slice none 0 0,.int .u64 0,.int .u64 0,.int .u64 0],9⟩).set b7 ⟨29,[.int .i64 x.d.size,.slice qe x.d.ext.length de,.slice qw x.d.waits.length dw,.int .i64 x.d.fuse,.bool x.d.down,.slice (some ⟨b,0,none⟩) x.fr.length c,.int .u64 x.tick,.int .u64 x.reads,.int .u64 x.writes],9⟩).Less _;exact less_)
      ·exact ⟨hc,hqw rfl,hyd,by rw [← hyl];exact List.length_set ..,hyt,hyr,hyw,heq⟩
      ·(show l.length-(i+1)<l.length-i;omega)
  ·have hc:i=l.length:=by have:=of_decide_eq_false hc;omega
   rw [hc,List.drop_length,eachP] at heq
   rw [heq]
   refine AWP.exit ?_
   refine athen_exit ?_
   refine athen_exit ?_
   refine ain_same ?_
   refine athen_n ?_
   refine k_a ?_
   refine k_9 ty_agg_29 ty_size_29 rfl ?_
   first|refine k_A rfl rfl ty_size_29 ?_|refine k_B rfl rfl ty_size_29 ?_
   try simp only [k_ms,k_sz,k_ss,k_za,Nat.reduceAdd]
   refine k_e rfl ?_
   refine k_u [(2,_),(4,_),(7,_),(21,_),(22,_),(23,_),(24,_),(5,_)] ?_
   refine AWP.ret ?_
   refine ⟨_,B.set b (frB y.fr c),⟨_,_,_,rfl,.inr ⟨ty_agg_29,[_,_,_,_,_,_,_,_,_],ty_size_29,rds_,rfl⟩,⟨_,_,rfl,rfl,rfl⟩,rfl⟩,less_,?_⟩
   exact ⟨_,rfl,hST,hpl⟩
end Go.Proofs.YtkeiphkccnfhoaaGreat
namespace Go.Proofs.YtkeiphkccnfhoaaGreat
open Go.RowKit
open Mv Disk
set_option maxRecDepth 4000
set_option maxHeartbeats 2000000 in
theorem rp_SameNumbers (v v' : Value) (l : List Int) (S : Mem) (hl : Sl 1 i64s S v l) (hl' : Sl 1 i64s S v' l) :
  ACall Tryz.prog 28 #[v,v'] S fun r S'=>r = .bool true∧S'=S:=by
 obtain ⟨a,ca,rfl,_,_,h3⟩:=hl
 obtain ⟨a',ca',rfl,_,_,h3'⟩:=hl'
 refine ACall.enter (rs:=[.tmp 4]) 26 [(0,.slice a l.length ca),(1,.slice a' l.length ca')] Tryz.func28 rfl rfl (Nat.le_of_ble_eq_true rfl) rfl ⟨rfl,rfl,trivial⟩ ?_
 refine k_a (k_e rfl (AWP.seq (k_a (k_m rfl ?_))))
 refine rC (Calm.lenSl Tryz.underlying30 rfl) ?_
 refine k_m rfl ?_
 refine rC (Calm.lenSl Tryz.underlying30 rfl) ?_
 refine rC (Calm.bin rfl rfl (bin_bool (bin_neq _ _) (bnot_dec_false rfl))) ?_
 refine k_n ?_
 refine k_u [(0,_),(1,_),(4,_),(10,_)] ?_
 refine k_F rfl ?_
 refine k_k (AWP.seq (k_a (k_m rfl ?_)))
 refine rC (Calm.lenSl Tryz.underlying30 rfl) ?_
 refine k_m rfl (k_n ?_)
 refine k_u [(0,_),(1,_),(4,_),(10,_),(12,_),(13,_)] ?_
 refine AWP.block ?_
 refine AWP.loop (X:=Nat) (fun y=>[(0,.slice a l.length ca),(1,.slice a' l.length ca'),(12,.int .i64 l.length),(13,.int .i64 y)]) (fun _=>S) (fun y=>y≤l.length) (fun y=>l.length-y) (0) ⟨rfl,rfl,rfl,rfl,trivial⟩ (Mem.Less.refl _) (Nat.zero_le _) ?_
 rintro i hi
 (try dsimp only at *)
 refine k_a ?_
 refine rC (Calm.bin rfl rfl b_lss) ?_
 refine k_n (AWP.seq ?_)
 refine AWP.condB rfl (fun hc=>?_) (fun hc=>?_)
 ·have hc:i<l.length:=by have:=of_decide_eq_true hc;omega
  obtain ⟨b,off,rfl,hk⟩:=h3.resolve_left (fun e=>by rw [e] at hc;simp at hc)
  obtain ⟨b',off',rfl,hk'⟩:=h3'.resolve_left (fun e=>by rw [e] at hc;simp at hc)
  have hki:=hk i hc
  have hki':=hk' i hc
  generalize l[i]=n at *
  unfold i64s at hki hki'
  refine k_k (AWP.seq ?_)
  refine AWP.block ?_
  refine k_a (k_m rfl (k_e rfl ?_))
  refine k_u [(0,_),(1,_),(12,_),(13,_),(14,_),(5,_)] ?_
  refine AWP.seq ?_
  refine AWP.draw [(0,true),(1,true),(2,true),(3,true),(4,true),(5,true),(6,true),(7,true),(8,true)] [] mixed (by kernel_rfl) ?_
  refine dP (hc:=fun _=>Calm.move rfl) (h:=?_)
  refine dP (hc:=fun _=>Calm.move rfl) (h:=?_)
  refine dP (hc:=fun _=>Calm.indexS Tryz.underlying30 ty_size_3 rfl rfl (by omega) (by omega)) (h:=?_)
  refine dC (hc:=ld_ ty_plain_3 rfl) (h:=?_)
  refine dP (hc:=fun _=>Calm.move rfl) (h:=?_)
  refine dP (hc:=fun _=>Calm.move rfl) (h:=?_)
  refine dP (hc:=fun _=>Calm.indexS Tryz.underlying30 ty_size_3 rfl rfl (by omega) (by omega)) (h:=?_)
  refine dC (hc:=ld_ ty_plain_3 rfl) (h:=?_)
  refine dP (hc:=fun _=>Calm.bin rfl rfl (bin_bool (bin_neq _ _) (bnot_dec_false rfl))) (h:=?_)
  refine draw_nil ?_
  refine athen_n ?_
  refine k_u [(0,_),(1,_),(12,_),(13,_),(14,_),(5,_),(24,_)] ?_
  refine k_F rfl ?_
  refine AWP.skip ?_
  refine ain_n ?_
  refine athen_n ?_
  refine AWP.region ?_
  refine rC (Calm.bin rfl rfl b_add_i64) ?_
  refine k_m rfl (k_n ?_)
  refine ⟨i+1,?_,?_,?_,?_⟩
  all_goals (try dsimp only)
  ·exact ⟨rfl,rfl,rfl,rfl,trivial⟩
  ·exact Mem.Less.refl _
  ·exact hc
  ·omega
 ·refine AWP.exit ?_
  refine athen_exit ?_
  refine athen_exit ?_
  refine ain_same ?_
  refine athen_n ?_
  refine k_a (k_e rfl ?_)
  refine AWP.ret ?_
  refine ⟨_,S,⟨_,_,rfl,rfl,rfl⟩,less_,?_⟩
  exact ⟨rfl,rfl⟩
/-- In a right pool frames that are leased hold nothing, and are not pinned; those that are pinned hold. -/
theorem held_eq {d : D} {x : Fr} {t : Int} (h : Sound d x t) : heldB x = decide x.holds ∧ pinnedB x = decide (0 < x.pins) ∧ leasedB x = x.leased := by
 rcases h with ⟨hh,rfl | rfl⟩ | ⟨hh,_,hl,_⟩
 ·exact ⟨rfl,rfl,rfl⟩
 ·exact ⟨rfl,rfl,rfl⟩
 ·refine ⟨?_,?_,rfl⟩
  ·unfold heldB;rw [hl];simp [hh]
  ·unfold pinnedB;rw [hl];simp
set_option maxHeartbeats 8000000 in
theorem rp_Counts (v : Value) (p : Pl) (S : Mem) (hp : PlR S v p) (hz : Dz p.d) :
  ACall Tryz.prog 27 #[v] S fun r S'=>r = .tuple #[.int .i64 (countsP p).1,.int .i64 (countsP p).2.1,.int .i64 (countsP p).2.2.1,.int .i64 (countsP p).2.2.2]∧S'=S:=by
 have hck:=fun S h=>rp_Check v p S h hz
 obtain ⟨pe,ce,pw,cw,pf,cf,rfl,hE,hW,hF⟩:=id hp
 unfold countsP
 obtain ⟨_,_,ef1,ef2,ef3,hF3⟩:=id hF
 cases ef1
 obtain ⟨d,fr,tick,reads,writes⟩:=p
 simp only at *
 rcases chkP_or ⟨d,fr,tick,reads,writes⟩ with ⟨q,hR⟩ | q
 ·rw [q] at hck
  rw [if_pos q]
  have h256:=hR.l2
  have hok:=hR.ok
  simp only at h256 hok
  refine ACall.enter (rs:=[.tmp 2,.tmp 3,.tmp 4,.tmp 5]) 38 [(0,.agg #[.int .i64 d.size,.slice pe d.ext.length ce,.slice pw d.waits.length cw,.int .i64 d.fuse,.bool d.down,.slice pf fr.length cf,.int .u64 tick,.int .u64 reads,.int .u64 writes])] Tryz.func27 rfl rfl (Nat.le_of_ble_eq_true rfl) rfl ⟨rfl,trivial⟩ ?_
  refine k_a ?_
  refine k_b9 rfl ?_
  intro b1 f1
  have g1:=f1
  repeat ((with_reducible replace g1:=fresh_set g1);obtain ⟨g1,_⟩:=g1)
  try simp only [k_l1,k_l0,k_za,Nat.reduceAdd]
  refine k_s rfl (k_s rfl (k_s rfl (k_e rfl ?_)))
  refine named (S:=S) (b:=b1) g1.1 ?_
  intro T1 hT1 kb1
  replace hp:=hp.less hT1
  replace hF:=hF.less hT1
  refine AWP.seq (k_a ?_)
  refine k_9 ty_agg_29 ty_size_29 rfl ?_
  refine ARun.call (lit_lt rfl) go_17 rfl (hck _ hp) ?_
  rintro _ S1 ⟨rfl,h1⟩
  rw [h1];clear h1 S1
  refine rC (Calm.bin rfl rfl b_neq) ?_
  refine k_n ?_
  refine k_u [(0,_),(1,_),(2,_),(3,_),(4,_),(5,_),(13,_)] ?_
  refine k_F rfl ?_
  refine k_k (k_a (k_s rfl (k_s rfl (k_e rfl ?_))))
  refine AWP.seq (k_a ?_)
  refine rC (Calm.fieldAddr ty_field_29_1 rfl) ?_
  refine rC (ld_ ty_plain_26 rfl) ?_
  refine rC (Calm.lenSl Tryz.underlying26 rfl) ?_
  refine k_m rfl (k_n ?_)
  refine k_u [(0,_),(1,_),(2,_),(3,_),(4,_),(5,_),(13,_),(6,_),(7,_),(8,_),(15,_),(16,_),(17,_)] ?_
  refine AWP.block ?_
  refine AWP.loop (X:=Nat) (fun x=>[(1,.pointer (some ⟨b1,0,none⟩)),(6,.int .i64 ((fr.take x).countP heldB:Nat)),(7,.int .i64 ((fr.take x).countP pinnedB:Nat)),(8,.int .i64 ((fr.take x).countP leasedB:Nat)),(15,.slice pf fr.length cf),(16,.int .i64 fr.length),(17,.int .i64 x)]) (fun x=>T1) (fun x=>x≤fr.length) (fun x=>fr.length-x) (0) ⟨rfl,some_int (by simp),some_int (by simp),some_int (by simp),rfl,rfl,rfl,trivial⟩ (Mem.Less.refl _) (Nat.zero_le _) ?_
  rintro i hi
  (try dsimp only at *)
  refine k_a ?_
  refine rC (Calm.bin rfl rfl b_lss) ?_
  refine k_n (AWP.seq ?_)
  refine AWP.condB rfl (fun hc=>?_) (fun hc=>?_)
  ·have hc:i<fr.length:=by have:=of_decide_eq_true hc;omega
   obtain ⟨b,off,rfl,hk⟩:=hF3.resolve_left (fun e=>by rw [e] at hc;simp at hc)
   have hki:=(hk i hc).less hT1
   have t1:=count_take (q:=heldB) hc
   have t2:=count_take (q:=pinnedB) hc
   have t3:=count_take (q:=leasedB) hc
   have u1:=count_le (q:=heldB) fr (i+1)
   have u2:=count_le (q:=pinnedB) fr (i+1)
   have u3:=count_le (q:=leasedB) fr (i+1)
   obtain ⟨w1,w2,w3⟩:=held_eq (hok i hc).1
   clear hok
   generalize fr[i]=x at *
   rw [w1] at t1
   rw [w2] at t2
   rw [w3] at t3
   have ch:=fun S=>rp_holds x S
   unfold frV at ch
   unfold frF at hki
   by_cases a1:x.holds
   ·rw [decide_eq_true a1] at ch
    rw [decide_eq_true a1] at t1
    by_cases a2:0<x.pins
    ·rw [decide_eq_true a2] at t2
     by_cases a3:x.leased=true
     ·rw [a3] at t3
      simp only [if_true,Bool.false_eq_true,if_false,Nat.add_zero] at t1 t2 t3
      refine k_k (AWP.seq ?_)
      refine AWP.block ?_
      refine k_a ?_
      refine rC (Calm.indexS Tryz.underlying26 ty_size_62 rfl rfl (by omega) (by omega)) ?_
      refine k_7 ty_agg_62 ty_size_62 rfl ?_
      refine ARun.alloc (lit_lt rfl) ty_zero_62 ?_
      intro b10 f10
      have g10:=f10
      repeat ((with_reducible replace g10:=fresh_set g10);obtain ⟨g10,_⟩:=g10)
      have:=g10.ne kb1;have:=g10.ne' kb1
      try simp only [k_l1,k_l0,k_za,Nat.reduceAdd]
      first|refine k_A rfl rfl ty_size_62 ?_|refine k_B rfl rfl ty_size_62 ?_
      try simp only [k_ms,k_sz,k_ss,k_za,Nat.reduceAdd]
      refine k_n ?_
      refine k_u [(1,_),(6,_),(7,_),(8,_),(15,_),(16,_),(17,_),(18,_),(10,_)] ?_
      refine AWP.seq (k_a ?_)
      refine k_7 ty_agg_62 ty_size_62 rfl ?_
      refine ARun.call (lit_lt rfl) go_55 rfl (ch _) ?_
      rintro _ S1 ⟨rfl,h1⟩
      rw [h1];clear h1 S1
      refine k_n ?_
      refine k_u [(1,_),(6,_),(7,_),(8,_),(15,_),(16,_),(17,_),(18,_),(10,_),(22,_)] ?_
      refine k_T rfl ?_
      refine AWP.region ?_
      refine k_m rfl ?_
      refine rC (Calm.bin rfl rfl b_add_i64) ?_
      refine k_e rfl ?_
      refine k_u [(1,_),(6,_),(7,_),(8,_),(15,_),(16,_),(17,_),(18,_),(10,_),(22,_)] ?_
      refine AWP.seq (k_a ?_)
      refine rC (Calm.fieldAddr ty_field_62_3 rfl) ?_
      refine rC (ld_ ty_plain_3 rfl) ?_
      refine rC (Calm.bin rfl rfl (bin_bool (bin_gtr _ _) (decide_eq_true (by omega)))) ?_
      refine k_n ?_
      refine k_u [(1,_),(6,_),(7,_),(8,_),(15,_),(16,_),(17,_),(18,_),(10,_),(22,_),(27,_)] ?_
      refine k_T rfl ?_
      refine AWP.region ?_
      refine k_m rfl ?_
      refine rC (Calm.bin rfl rfl b_add_i64) ?_
      refine k_e rfl ?_
      refine k_u [(1,_),(6,_),(7,_),(8,_),(15,_),(16,_),(17,_),(18,_),(10,_),(22,_),(27,_)] ?_
      refine k_a ?_
      refine rC (Calm.fieldAddr ty_field_62_6 rfl) ?_
      refine rC (Calm.as (congrArg Value.bool a3) (ld_ ty_plain_4 rfl)) ?_
      refine k_n ?_
      refine k_u [(1,_),(6,_),(7,_),(8,_),(15,_),(16,_),(17,_),(18,_),(10,_),(22,_),(27,_),(31,_)] ?_
      refine k_T rfl ?_
      refine AWP.region ?_
      refine k_m rfl ?_
      refine rC (Calm.bin rfl rfl b_add_i64) ?_
      refine k_s rfl ?_
      refine arun_nil ?_
      refine ain_n ?_
      refine athen_n ?_
      refine k_u [(1,_),(6,_),(7,_),(8,_),(15,_),(16,_),(17,_),(18,_),(10,_),(22,_),(27,_),(31,_)] ?_
      refine AWP.region ?_
      refine rC (Calm.bin rfl rfl b_add_i64) ?_
      refine k_m rfl (k_n ?_)
      refine ⟨i+1,?_,?_,?_,?_⟩
      all_goals (try dsimp only)
      ·exact ⟨rfl,some_int (by omega),some_int (by omega),some_int (by omega),rfl,rfl,rfl,trivial⟩
      ·exact less_
      ·exact hc
      ·omega
     ·have a3:x.leased=false:=by simpa using a3
      rw [a3] at t3
      simp only [if_true,Bool.false_eq_true,if_false,Nat.add_zero] at t1 t2 t3
      refine k_k (AWP.seq ?_)
      refine AWP.block ?_
      refine k_a ?_
      refine rC (Calm.indexS Tryz.underlying26 ty_size_62 rfl rfl (by omega) (by omega)) ?_
      refine k_7 ty_agg_62 ty_size_62 rfl ?_
      refine ARun.alloc (lit_lt rfl) ty_zero_62 ?_
      intro b10 f10
      have g10:=f10
      repeat ((with_reducible replace g10:=fresh_set g10);obtain ⟨g10,_⟩:=g10)
      have:=g10.ne kb1;have:=g10.ne' kb1
      try simp only [k_l1,k_l0,k_za,Nat.reduceAdd]
      first|refine k_A rfl rfl ty_size_62 ?_|refine k_B rfl rfl ty_size_62 ?_
      try simp only [k_ms,k_sz,k_ss,k_za,Nat.reduceAdd]
      refine k_n ?_
      refine k_u [(1,_),(6,_),(7,_),(8,_),(15,_),(16,_),(17,_),(18,_),(10,_)] ?_
      refine AWP.seq (k_a ?_)
      refine k_7 ty_agg_62 ty_size_62 rfl ?_
      refine ARun.call (lit_lt rfl) go_55 rfl (ch _) ?_
      rintro _ S1 ⟨rfl,h1⟩
      rw [h1];clear h1 S1
      refine k_n ?_
      refine k_u [(1,_),(6,_),(7,_),(8,_),(15,_),(16,_),(17,_),(18,_),(10,_),(22,_)] ?_
      refine k_T rfl ?_
      refine AWP.region ?_
      refine k_m rfl ?_
      refine rC (Calm.bin rfl rfl b_add_i64) ?_
      refine k_e rfl ?_
      refine k_u [(1,_),(6,_),(7,_),(8,_),(15,_),(16,_),(17,_),(18,_),(10,_),(22,_)] ?_
      refine AWP.seq (k_a ?_)
      refine rC (Calm.fieldAddr ty_field_62_3 rfl) ?_
      refine rC (ld_ ty_plain_3 rfl) ?_
      refine rC (Calm.bin rfl rfl (bin_bool (bin_gtr _ _) (decide_eq_true (by omega)))) ?_
      refine k_n ?_
      refine k_u [(1,_),(6,_),(7,_),(8,_),(15,_),(16,_),(17,_),(18,_),(10,_),(22,_),(27,_)] ?_
      refine k_T rfl ?_
      refine AWP.region ?_
      refine k_m rfl ?_
      refine rC (Calm.bin rfl rfl b_add_i64) ?_
      refine k_e rfl ?_
      refine k_u [(1,_),(6,_),(7,_),(8,_),(15,_),(16,_),(17,_),(18,_),(10,_),(22,_),(27,_)] ?_
      refine k_a ?_
      refine rC (Calm.fieldAddr ty_field_62_6 rfl) ?_
      refine rC (Calm.as (congrArg Value.bool a3) (ld_ ty_plain_4 rfl)) ?_
      refine k_n ?_
      refine k_u [(1,_),(6,_),(7,_),(8,_),(15,_),(16,_),(17,_),(18,_),(10,_),(22,_),(27,_),(31,_)] ?_
      refine k_F rfl ?_
      refine AWP.skip ?_
      refine ain_n ?_
      refine athen_n ?_
      refine AWP.region ?_
      refine rC (Calm.bin rfl rfl b_add_i64) ?_
      refine k_m rfl (k_n ?_)
      refine ⟨i+1,?_,?_,?_,?_⟩
      all_goals (try dsimp only)
      ·exact ⟨rfl,some_int (by omega),some_int (by omega),some_int (by omega),rfl,rfl,rfl,trivial⟩
      ·exact less_
      ·exact hc
      ·omega
    ·rw [decide_eq_false a2] at t2
     by_cases a3:x.leased=true
     ·rw [a3] at t3
      simp only [if_true,Bool.false_eq_true,if_false,Nat.add_zero] at t1 t2 t3
      refine k_k (AWP.seq ?_)
      refine AWP.block ?_
      refine k_a ?_
      refine rC (Calm.indexS Tryz.underlying26 ty_size_62 rfl rfl (by omega) (by omega)) ?_
      refine k_7 ty_agg_62 ty_size_62 rfl ?_
      refine ARun.alloc (lit_lt rfl) ty_zero_62 ?_
      intro b10 f10
      have g10:=f10
      repeat ((with_reducible replace g10:=fresh_set g10);obtain ⟨g10,_⟩:=g10)
      have:=g10.ne kb1;have:=g10.ne' kb1
      try simp only [k_l1,k_l0,k_za,Nat.reduceAdd]
      first|refine k_A rfl rfl ty_size_62 ?_|refine k_B rfl rfl ty_size_62 ?_
      try simp only [k_ms,k_sz,k_ss,k_za,Nat.reduceAdd]
      refine k_n ?_
      refine k_u [(1,_),(6,_),(7,_),(8,_),(15,_),(16,_),(17,_),(18,_),(10,_)] ?_
      refine AWP.seq (k_a ?_)
      refine k_7 ty_agg_62 ty_size_62 rfl ?_
      refine ARun.call (lit_lt rfl) go_55 rfl (ch _) ?_
      rintro _ S1 ⟨rfl,h1⟩
      rw [h1];clear h1 S1
      refine k_n ?_
      refine k_u [(1,_),(6,_),(7,_),(8,_),(15,_),(16,_),(17,_),(18,_),(10,_),(22,_)] ?_
      refine k_T rfl ?_
      refine AWP.region ?_
      refine k_m rfl ?_
      refine rC (Calm.bin rfl rfl b_add_i64) ?_
      refine k_e rfl ?_
      refine k_u [(1,_),(6,_),(7,_),(8,_),(15,_),(16,_),(17,_),(18,_),(10,_),(22,_)] ?_
      refine AWP.seq (k_a ?_)
      refine rC (Calm.fieldAddr ty_field_62_3 rfl) ?_
      refine rC (ld_ ty_plain_3 rfl) ?_
      refine rC (Calm.bin rfl rfl (bin_bool (bin_gtr _ _) (decide_eq_false (by omega)))) ?_
      refine k_n ?_
      refine k_u [(1,_),(6,_),(7,_),(8,_),(15,_),(16,_),(17,_),(18,_),(10,_),(22,_),(27,_)] ?_
      refine k_F rfl ?_
      refine k_k (k_a ?_)
      refine rC (Calm.fieldAddr ty_field_62_6 rfl) ?_
      refine rC (Calm.as (congrArg Value.bool a3) (ld_ ty_plain_4 rfl)) ?_
      refine k_n ?_
      refine k_u [(1,_),(6,_),(7,_),(8,_),(15,_),(16,_),(17,_),(18,_),(10,_),(22,_),(27,_),(31,_)] ?_
      refine k_T rfl ?_
      refine AWP.region ?_
      refine k_m rfl ?_
      refine rC (Calm.bin rfl rfl b_add_i64) ?_
      refine k_s rfl ?_
      refine arun_nil ?_
      refine ain_n ?_
      refine athen_n ?_
      refine k_u [(1,_),(6,_),(7,_),(8,_),(15,_),(16,_),(17,_),(18,_),(10,_),(22,_),(27,_),(31,_)] ?_
      refine AWP.region ?_
      refine rC (Calm.bin rfl rfl b_add_i64) ?_
      refine k_m rfl (k_n ?_)
      refine ⟨i+1,?_,?_,?_,?_⟩
      all_goals (try dsimp only)
      ·exact ⟨rfl,some_int (by omega),some_int (by omega),some_int (by omega),rfl,rfl,rfl,trivial⟩
      ·exact less_
      ·exact hc
      ·omega
     ·have a3:x.leased=false:=by simpa using a3
      rw [a3] at t3
      simp only [if_true,Bool.false_eq_true,if_false,Nat.add_zero] at t1 t2 t3
      refine k_k (AWP.seq ?_)
      refine AWP.block ?_
      refine k_a ?_
      refine rC (Calm.indexS Tryz.underlying26 ty_size_62 rfl rfl (by omega) (by omega)) ?_
      refine k_7 ty_agg_62 ty_size_62 rfl ?_
      refine ARun.alloc (lit_lt rfl) ty_zero_62 ?_
      intro b10 f10
      have g10:=f10
      repeat ((with_reducible replace g10:=fresh_set g10);obtain ⟨g10,_⟩:=g10)
      have:=g10.ne kb1;have:=g10.ne' kb1
      try simp only [k_l1,k_l0,k_za,Nat.reduceAdd]
      first|refine k_A rfl rfl ty_size_62 ?_|refine k_B rfl rfl ty_size_62 ?_
      try simp only [k_ms,k_sz,k_ss,k_za,Nat.reduceAdd]
      refine k_n ?_
      refine k_u [(1,_),(6,_),(7,_),(8,_),(15,_),(16,_),(17,_),(18,_),(10,_)] ?_
      refine AWP.seq (k_a ?_)
      refine k_7 ty_agg_62 ty_size_62 rfl ?_
      refine ARun.call (lit_lt rfl) go_55 rfl (ch _) ?_
      rintro _ S1 ⟨rfl,h1⟩
      rw [h1];clear h1 S1
      refine k_n ?_
      refine k_u [(1,_),(6,_),(7,_),(8,_),(15,_),(16,_),(17,_),(18,_),(10,_),(22,_)] ?_
      refine k_T rfl ?_
      refine AWP.region ?_
      refine k_m rfl ?_
      refine rC (Calm.bin rfl rfl b_add_i64) ?_
      refine k_e rfl ?_
      refine k_u [(1,_),(6,_),(7,_),(8,_),(15,_),(16,_),(17,_),(18,_),(10,_),(22,_)] ?_
      refine AWP.seq (k_a ?_)
      refine rC (Calm.fieldAddr ty_field_62_3 rfl) ?_
      refine rC (ld_ ty_plain_3 rfl) ?_
      refine rC (Calm.bin rfl rfl (bin_bool (bin_gtr _ _) (decide_eq_false (by omega)))) ?_
      refine k_n ?_
      refine k_u [(1,_),(6,_),(7,_),(8,_),(15,_),(16,_),(17,_),(18,_),(10,_),(22,_),(27,_)] ?_
      refine k_F rfl ?_
      refine k_k (k_a ?_)
      refine rC (Calm.fieldAddr ty_field_62_6 rfl) ?_
      refine rC (Calm.as (congrArg Value.bool a3) (ld_ ty_plain_4 rfl)) ?_
      refine k_n ?_
      refine k_u [(1,_),(6,_),(7,_),(8,_),(15,_),(16,_),(17,_),(18,_),(10,_),(22,_),(27,_),(31,_)] ?_
      refine k_F rfl ?_
      refine AWP.skip ?_
      refine ain_n ?_
      refine athen_n ?_
      refine AWP.region ?_
      refine rC (Calm.bin rfl rfl b_add_i64) ?_
      refine k_m rfl (k_n ?_)
      refine ⟨i+1,?_,?_,?_,?_⟩
      all_goals (try dsimp only)
      ·exact ⟨rfl,some_int (by omega),some_int (by omega),some_int (by omega),rfl,rfl,rfl,trivial⟩
      ·exact less_
      ·exact hc
      ·omega
   ·rw [decide_eq_false a1] at ch
    rw [decide_eq_false a1] at t1
    by_cases a2:0<x.pins
    ·rw [decide_eq_true a2] at t2
     by_cases a3:x.leased=true
     ·rw [a3] at t3
      simp only [if_true,Bool.false_eq_true,if_false,Nat.add_zero] at t1 t2 t3
      refine k_k (AWP.seq ?_)
      refine AWP.block ?_
      refine k_a ?_
      refine rC (Calm.indexS Tryz.underlying26 ty_size_62 rfl rfl (by omega) (by omega)) ?_
      refine k_7 ty_agg_62 ty_size_62 rfl ?_
      refine ARun.alloc (lit_lt rfl) ty_zero_62 ?_
      intro b10 f10
      have g10:=f10
      repeat ((with_reducible replace g10:=fresh_set g10);obtain ⟨g10,_⟩:=g10)
      have:=g10.ne kb1;have:=g10.ne' kb1
      try simp only [k_l1,k_l0,k_za,Nat.reduceAdd]
      first|refine k_A rfl rfl ty_size_62 ?_|refine k_B rfl rfl ty_size_62 ?_
      try simp only [k_ms,k_sz,k_ss,k_za,Nat.reduceAdd]
      refine k_n ?_
      refine k_u [(1,_),(6,_),(7,_),(8,_),(15,_),(16,_),(17,_),(18,_),(10,_)] ?_
      refine AWP.seq (k_a ?_)
      refine k_7 ty_agg_62 ty_size_62 rfl ?_
      refine ARun.call (lit_lt rfl) go_55 rfl (ch _) ?_
      rintro _ S1 ⟨rfl,h1⟩
      rw [h1];clear h1 S1
      refine k_n ?_
      refine k_u [(1,_),(6,_),(7,_),(8,_),(15,_),(16,_),(17,_),(18,_),(10,_),(22,_)] ?_
      refine k_F rfl ?_
      refine k_k (AWP.seq (k_a ?_))
      refine rC (Calm.fieldAddr ty_field_62_3 rfl) ?_
      refine rC (ld_ ty_plain_3 rfl) ?_
      refine rC (Calm.bin rfl rfl (bin_bool (bin_gtr _ _) (decide_eq_true (by omega)))) ?_
      refine k_n ?_
      refine k_u [(1,_),(6,_),(7,_),(8,_),(15,_),(16,_),(17,_),(18,_),(10,_),(22,_),(27,_)] ?_
      refine k_T rfl ?_
      refine AWP.region ?_
      refine k_m rfl ?_
      refine rC (Calm.bin rfl rfl b_add_i64) ?_
      refine k_e rfl ?_
      refine k_u [(1,_),(6,_),(7,_),(8,_),(15,_),(16,_),(17,_),(18,_),(10,_),(22,_),(27,_)] ?_
      refine k_a ?_
      refine rC (Calm.fieldAddr ty_field_62_6 rfl) ?_
      refine rC (Calm.as (congrArg Value.bool a3) (ld_ ty_plain_4 rfl)) ?_
      refine k_n ?_
      refine k_u [(1,_),(6,_),(7,_),(8,_),(15,_),(16,_),(17,_),(18,_),(10,_),(22,_),(27,_),(31,_)] ?_
      refine k_T rfl ?_
      refine AWP.region ?_
      refine k_m rfl ?_
      refine rC (Calm.bin rfl rfl b_add_i64) ?_
      refine k_s rfl ?_
      refine arun_nil ?_
      refine ain_n ?_
      refine athen_n ?_
      refine k_u [(1,_),(6,_),(7,_),(8,_),(15,_),(16,_),(17,_),(18,_),(10,_),(22,_),(27,_),(31,_)] ?_
      refine AWP.region ?_
      refine rC (Calm.bin rfl rfl b_add_i64) ?_
      refine k_m rfl (k_n ?_)
      refine ⟨i+1,?_,?_,?_,?_⟩
      all_goals (try dsimp only)
      ·exact ⟨rfl,some_int (by omega),some_int (by omega),some_int (by omega),rfl,rfl,rfl,trivial⟩
      ·exact less_
      ·exact hc
      ·omega
     ·have a3:x.leased=false:=by simpa using a3
      rw [a3] at t3
      simp only [if_true,Bool.false_eq_true,if_false,Nat.add_zero] at t1 t2 t3
      refine k_k (AWP.seq ?_)
      refine AWP.block ?_
      refine k_a ?_
      refine rC (Calm.indexS Tryz.underlying26 ty_size_62 rfl rfl (by omega) (by omega)) ?_
      refine k_7 ty_agg_62 ty_size_62 rfl ?_
      refine ARun.alloc (lit_lt rfl) ty_zero_62 ?_
      intro b10 f10
      have g10:=f10
      repeat ((with_reducible replace g10:=fresh_set g10);obtain ⟨g10,_⟩:=g10)
      have:=g10.ne kb1;have:=g10.ne' kb1
      try simp only [k_l1,k_l0,k_za,Nat.reduceAdd]
      first|refine k_A rfl rfl ty_size_62 ?_|refine k_B rfl rfl ty_size_62 ?_
      try simp only [k_ms,k_sz,k_ss,k_za,Nat.reduceAdd]
      refine k_n ?_
      refine k_u [(1,_),(6,_),(7,_),(8,_),(15,_),(16,_),(17,_),(18,_),(10,_)] ?_
      refine AWP.seq (k_a ?_)
      refine k_7 ty_agg_62 ty_size_62 rfl ?_
      refine ARun.call (lit_lt rfl) go_55 rfl (ch _) ?_
      rintro _ S1 ⟨rfl,h1⟩
      rw [h1];clear h1 S1
      refine k_n ?_
      refine k_u [(1,_),(6,_),(7,_),(8,_),(15,_),(16,_),(17,_),(18,_),(10,_),(22,_)] ?_
      refine k_F rfl ?_
      refine k_k (AWP.seq (k_a ?_))
      refine rC (Calm.fieldAddr ty_field_62_3 rfl) ?_
      refine rC (ld_ ty_plain_3 rfl) ?_
      refine rC (Calm.bin rfl rfl (bin_bool (bin_gtr _ _) (decide_eq_true (by omega)))) ?_
      refine k_n ?_
      refine k_u [(1,_),(6,_),(7,_),(8,_),(15,_),(16,_),(17,_),(18,_),(10,_),(22,_),(27,_)] ?_
      refine k_T rfl ?_
      refine AWP.region ?_
      refine k_m rfl ?_
      refine rC (Calm.bin rfl rfl b_add_i64) ?_
      refine k_e rfl ?_
      refine k_u [(1,_),(6,_),(7,_),(8,_),(15,_),(16,_),(17,_),(18,_),(10,_),(22,_),(27,_)] ?_
      refine k_a ?_
      refine rC (Calm.fieldAddr ty_field_62_6 rfl) ?_
      refine rC (Calm.as (congrArg Value.bool a3) (ld_ ty_plain_4 rfl)) ?_
      refine k_n ?_
      refine k_u [(1,_),(6,_),(7,_),(8,_),(15,_),(16,_),(17,_),(18,_),(10,_),(22,_),(27,_),(31,_)] ?_
      refine k_F rfl ?_
      refine AWP.skip ?_
      refine ain_n ?_
      refine athen_n ?_
      refine AWP.region ?_
      refine rC (Calm.bin rfl rfl b_add_i64) ?_
      refine k_m rfl (k_n ?_)
      refine ⟨i+1,?_,?_,?_,?_⟩
      all_goals (try dsimp only)
      ·exact ⟨rfl,some_int (by omega),some_int (by omega),some_int (by omega),rfl,rfl,rfl,trivial⟩
      ·exact less_
      ·exact hc
      ·omega
    ·rw [decide_eq_false a2] at t2
     by_cases a3:x.leased=true
     ·rw [a3] at t3
      simp only [if_true,Bool.false_eq_true,if_false,Nat.add_zero] at t1 t2 t3
      refine k_k (AWP.seq ?_)
      refine AWP.block ?_
      refine k_a ?_
      refine rC (Calm.indexS Tryz.underlying26 ty_size_62 rfl rfl (by omega) (by omega)) ?_
      refine k_7 ty_agg_62 ty_size_62 rfl ?_
      refine ARun.alloc (lit_lt rfl) ty_zero_62 ?_
      intro b10 f10
      have g10:=f10
      repeat ((with_reducible replace g10:=fresh_set g10);obtain ⟨g10,_⟩:=g10)
      have:=g10.ne kb1;have:=g10.ne' kb1
      try simp only [k_l1,k_l0,k_za,Nat.reduceAdd]
      first|refine k_A rfl rfl ty_size_62 ?_|refine k_B rfl rfl ty_size_62 ?_
      try simp only [k_ms,k_sz,k_ss,k_za,Nat.reduceAdd]
      refine k_n ?_
      refine k_u [(1,_),(6,_),(7,_),(8,_),(15,_),(16,_),(17,_),(18,_),(10,_)] ?_
      refine AWP.seq (k_a ?_)
      refine k_7 ty_agg_62 ty_size_62 rfl ?_
      refine ARun.call (lit_lt rfl) go_55 rfl (ch _) ?_
      rintro _ S1 ⟨rfl,h1⟩
      rw [h1];clear h1 S1
      refine k_n ?_
      refine k_u [(1,_),(6,_),(7,_),(8,_),(15,_),(16,_),(17,_),(18,_),(10,_),(22,_)] ?_
      refine k_F rfl ?_
      refine k_k (AWP.seq (k_a ?_))
      refine rC (Calm.fieldAddr ty_field_62_3 rfl) ?_
      refine rC (ld_ ty_plain_3 rfl) ?_
      refine rC (Calm.bin rfl rfl (bin_bool (bin_gtr _ _) (decide_eq_false (by omega)))) ?_
      refine k_n ?_
      refine k_u [(1,_),(6,_),(7,_),(8,_),(15,_),(16,_),(17,_),(18,_),(10,_),(22,_),(27,_)] ?_
      refine k_F rfl ?_
      refine k_k (k_a ?_)
      refine rC (Calm.fieldAddr ty_field_62_6 rfl) ?_
      refine rC (Calm.as (congrArg Value.bool a3) (ld_ ty_plain_4 rfl)) ?_
      refine k_n ?_
      refine k_u [(1,_),(6,_),(7,_),(8,_),(15,_),(16,_),(17,_),(18,_),(10,_),(22,_),(27,_),(31,_)] ?_
      refine k_T rfl ?_
      refine AWP.region ?_
      refine k_m rfl ?_
      refine rC (Calm.bin rfl rfl b_add_i64) ?_
      refine k_s rfl ?_
      refine arun_nil ?_
      refine ain_n ?_
      refine athen_n ?_
      refine k_u [(1,_),(6,_),(7,_),(8,_),(15,_),(16,_),(17,_),(18,_),(10,_),(22,_),(27,_),(31,_)] ?_
      refine AWP.region ?_
      refine rC (Calm.bin rfl rfl b_add_i64) ?_
      refine k_m rfl (k_n ?_)
      refine ⟨i+1,?_,?_,?_,?_⟩
      all_goals (try dsimp only)
      ·exact ⟨rfl,some_int (by omega),some_int (by omega),some_int (by omega),rfl,rfl,rfl,trivial⟩
      ·exact less_
      ·exact hc
      ·omega
     ·have a3:x.leased=false:=by simpa using a3
      rw [a3] at t3
      simp only [if_true,Bool.false_eq_true,if_false,Nat.add_zero] at t1 t2 t3
      refine k_k (AWP.seq ?_)
      refine AWP.block ?_
      refine k_a ?_
      refine rC (Calm.indexS Tryz.underlying26 ty_size_62 rfl rfl (by omega) (by omega)) ?_
      refine k_7 ty_agg_62 ty_size_62 rfl ?_
      refine ARun.alloc (lit_lt rfl) ty_zero_62 ?_
      intro b10 f10
      have g10:=f10
      repeat ((with_reducible replace g10:=fresh_set g10);obtain ⟨g10,_⟩:=g10)
      have:=g10.ne kb1;have:=g10.ne' kb1
      try simp only [k_l1,k_l0,k_za,Nat.reduceAdd]
      first|refine k_A rfl rfl ty_size_62 ?_|refine k_B rfl rfl ty_size_62 ?_
      try simp only [k_ms,k_sz,k_ss,k_za,Nat.reduceAdd]
      refine k_n ?_
      refine k_u [(1,_),(6,_),(7,_),(8,_),(15,_),(16,_),(17,_),(18,_),(10,_)] ?_
      refine AWP.seq (k_a ?_)
      refine k_7 ty_agg_62 ty_size_62 rfl ?_
      refine ARun.call (lit_lt rfl) go_55 rfl (ch _) ?_
      rintro _ S1 ⟨rfl,h1⟩
      rw [h1];clear h1 S1
      refine k_n ?_
      refine k_u [(1,_),(6,_),(7,_),(8,_),(15,_),(16,_),(17,_),(18,_),(10,_),(22,_)] ?_
      refine k_F rfl ?_
      refine k_k (AWP.seq (k_a ?_))
      refine rC (Calm.fieldAddr ty_field_62_3 rfl) ?_
      refine rC (ld_ ty_plain_3 rfl) ?_
      refine rC (Calm.bin rfl rfl (bin_bool (bin_gtr _ _) (decide_eq_false (by omega)))) ?_
      refine k_n ?_
      refine k_u [(1,_),(6,_),(7,_),(8,_),(15,_),(16,_),(17,_),(18,_),(10,_),(22,_),(27,_)] ?_
      refine k_F rfl ?_
      refine k_k (k_a ?_)
      refine rC (Calm.fieldAddr ty_field_62_6 rfl) ?_
      refine rC (Calm.as (congrArg Value.bool a3) (ld_ ty_plain_4 rfl)) ?_
      refine k_n ?_
      refine k_u [(1,_),(6,_),(7,_),(8,_),(15,_),(16,_),(17,_),(18,_),(10,_),(22,_),(27,_),(31,_)] ?_
      refine k_F rfl ?_
      refine AWP.skip ?_
      refine ain_n ?_
      refine athen_n ?_
      refine AWP.region ?_
      refine rC (Calm.bin rfl rfl b_add_i64) ?_
      refine k_m rfl (k_n ?_)
      refine ⟨i+1,?_,?_,?_,?_⟩
      all_goals (try dsimp only)
      ·exact ⟨rfl,some_int (by omega),some_int (by omega),some_int (by omega),rfl,rfl,rfl,trivial⟩
      ·exact less_
      ·exact hc
      ·omega
  ·have hc:i=fr.length:=by have:=of_decide_eq_false hc;omega
   subst hc
   rw [List.take_length]
   refine AWP.exit ?_
   refine athen_exit ?_
   refine athen_exit ?_
   refine ain_same ?_
   refine athen_n ?_
   refine k_a (k_m rfl (k_m rfl (k_m rfl (k_s rfl ?_))))
   refine k_s rfl (k_s rfl (k_e rfl ?_))
   refine k_u [(1,_),(6,_),(7,_),(8,_),(15,_),(16,_),(17,_),(18,_),(2,_),(3,_),(4,_),(5,_)] ?_
   refine AWP.ret ?_
   refine ⟨_,S,⟨_,_,rfl,⟨_,_,rfl,⟨_,_,rfl,⟨_,_,rfl,rfl,rfl⟩,rfl⟩,rfl⟩,rfl⟩,hT1.trans less_,?_⟩
   exact ⟨rfl,rfl⟩
 ·rw [q] at hck
  rw [if_neg (by rw [q];decide)]
  refine ACall.enter (rs:=[.tmp 2,.tmp 3,.tmp 4,.tmp 5]) 38 [(0,.agg #[.int .i64 d.size,.slice pe d.ext.length ce,.slice pw d.waits.length cw,.int .i64 d.fuse,.bool d.down,.slice pf fr.length cf,.int .u64 tick,.int .u64 reads,.int .u64 writes])] Tryz.func27 rfl rfl (Nat.le_of_ble_eq_true rfl) rfl ⟨rfl,trivial⟩ ?_
  refine k_a ?_
  refine k_b9 rfl ?_
  intro b1 f1
  have g1:=f1
  repeat ((with_reducible replace g1:=fresh_set g1);obtain ⟨g1,_⟩:=g1)
  try simp only [k_l1,k_l0,k_za,Nat.reduceAdd]
  refine k_s rfl (k_s rfl (k_s rfl (k_e rfl (AWP.seq ?_))))
  refine k_a ?_
  refine k_9 ty_agg_29 ty_size_29 rfl ?_
  refine ARun.call (lit_lt rfl) go_17 rfl (hck _ (hp.less less_)) ?_
  rintro _ S1 ⟨rfl,h1⟩
  rw [h1];clear h1 S1
  refine rC (Calm.bin rfl rfl b_neq) ?_
  refine k_n ?_
  refine k_u [(0,_),(1,_),(2,_),(3,_),(4,_),(5,_),(13,_)] ?_
  refine k_T rfl ?_
  refine k_a (k_s rfl (k_s rfl (k_s rfl (k_e rfl ?_))))
  refine k_r ?_
  refine ⟨_,S,⟨_,_,rfl,⟨_,_,rfl,⟨_,_,rfl,⟨_,_,rfl,rfl,rfl⟩,rfl⟩,rfl⟩,rfl⟩,less_,?_⟩
  exact ⟨rfl,rfl⟩
set_option maxHeartbeats 8000000 in
theorem rp_Drop (v : Value) (x : Pl) (s : ByteArray) (S : Mem) (hp : PlR S v x) (hz : Dz x.d) (hf : x.fr.length * 72 ≤ 140737488351232) :
  ACall Tryz.prog 23 #[v,.string s] S (PlRes (openedP x (dropP x s)) S):=by
 have hpow:=fun M h=>rp_power v x M h hz
 have hasw:=rp_as v x (openP x).2 S hp hz hf
 have hcopy:=rp_Copy v x S hp hz hf
 have hcopyR:=fun M h=>rp_CopyR v x M h hz hf
 obtain ⟨pe,ce,pw,cw,pf,cf,rfl,hE,hW,hF⟩:=id hp
 unfold openedP
 rcases openP_or x with ⟨ho',hR⟩ | ⟨ho',hR,hdn⟩ | ⟨ho',hR,hdn⟩ <;> rw [ho'] at hpow hasw ⊢
 ·rw [if_neg (show ¬ (2:Int)=0 from by decide)]
  refine ACall.enter (rs:=[.cell 4 29,.tmp 5]) 49 [(0,.agg #[.int .i64 x.d.size,.slice pe x.d.ext.length ce,.slice pw x.d.waits.length cw,.int .i64 x.d.fuse,.bool x.d.down,.slice pf x.fr.length cf,.int .u64 x.tick,.int .u64 x.reads,.int .u64 x.writes]),(1,.string s)] Tryz.func23 rfl rfl (Nat.le_of_ble_eq_true rfl) rfl ⟨rfl,rfl,trivial⟩ ?_
  refine k_a ?_
  refine k_b9 rfl ?_
  intro b2 f2
  have g2:=f2
  repeat ((with_reducible replace g2:=fresh_set g2);obtain ⟨g2,_⟩:=g2)
  try simp only [k_l1,k_l0,k_za,Nat.reduceAdd]
  refine ARun.alloc (lit_lt rfl) ty_zero_29 ?_
  intro b4 f4
  have g4:=f4
  repeat ((with_reducible replace g4:=fresh_set g4);obtain ⟨g4,_⟩:=g4)
  try simp only [k_l1,k_l0,k_za,Nat.reduceAdd]
  refine k_e rfl (k_a ?_)
  refine k_9 ty_agg_29 ty_size_29 rfl ?_
  refine ARun.call (lit_lt rfl) go_33 rfl (hpow _ (hp.less less_)) ?_
  rintro _ S1 ⟨rfl,h1⟩
  rw [h1];clear h1 S1
  refine k_e rfl ?_
  refine k_u [(0,_),(1,_),(2,_),(4,_),(5,_),(6,_)] ?_
  refine AWP.seq (k_a (k_m rfl ?_))
  refine rC (Calm.bin rfl rfl b_neq) ?_
  refine k_n ?_
  refine k_u [(0,_),(1,_),(2,_),(4,_),(5,_),(6,_),(13,_)] ?_
  refine k_T rfl ?_
  refine k_a ?_
  refine k_9 ty_agg_29 ty_size_29 rfl ?_
  refine k_m rfl ?_
  refine ARun.call (lit_lt rfl) go_34 rfl ((hasw.frame f2).frame f4) ?_
  rintro _ S1 ⟨Sa,⟨M,⟨w,rfl,hSM,hpl⟩,fa,hSa⟩,fb,h1⟩
  rw [h1,hSa];rw [hSa] at fb;clear h1 S1 hSa Sa
  obtain ⟨fbm,n21⟩:=fresh_set fb
  obtain ⟨qe,de,qw,dw,qf,df,rfl,hE2,hW2,hF2⟩:=id hpl
  refine rC (Calm.extract rfl rfl) ?_
  refine rC (Calm.extract rfl rfl) ?_
  first|refine k_A rfl rfl ty_size_29 ?_|refine k_B rfl rfl ty_size_29 ?_
  try simp only [k_ms,k_sz,k_ss,k_za,Nat.reduceAdd]
  refine k_e rfl ?_
  refine k_u [(0,_),(1,_),(2,_),(4,_),(5,_),(6,_),(13,_)] ?_
  refine k_r ?_
  refine ⟨_,M,⟨_,_,_,rfl,.inr ⟨ty_agg_29,[_,_,_,_,_,_,_,_,_],ty_size_29,rds_,rfl⟩,⟨_,_,rfl,rfl,rfl⟩,rfl⟩,less_,?_⟩
  exact ⟨_,rfl,hSM,hpl⟩
 ·rw [if_neg (show ¬ (10:Int)=0 from by decide)]
  refine ACall.enter (rs:=[.cell 4 29,.tmp 5]) 49 [(0,.agg #[.int .i64 x.d.size,.slice pe x.d.ext.length ce,.slice pw x.d.waits.length cw,.int .i64 x.d.fuse,.bool x.d.down,.slice pf x.fr.length cf,.int .u64 x.tick,.int .u64 x.reads,.int .u64 x.writes]),(1,.string s)] Tryz.func23 rfl rfl (Nat.le_of_ble_eq_true rfl) rfl ⟨rfl,rfl,trivial⟩ ?_
  refine k_a ?_
  refine k_b9 rfl ?_
  intro b2 f2
  have g2:=f2
  repeat ((with_reducible replace g2:=fresh_set g2);obtain ⟨g2,_⟩:=g2)
  try simp only [k_l1,k_l0,k_za,Nat.reduceAdd]
  refine ARun.alloc (lit_lt rfl) ty_zero_29 ?_
  intro b4 f4
  have g4:=f4
  repeat ((with_reducible replace g4:=fresh_set g4);obtain ⟨g4,_⟩:=g4)
  try simp only [k_l1,k_l0,k_za,Nat.reduceAdd]
  refine k_e rfl (k_a ?_)
  refine k_9 ty_agg_29 ty_size_29 rfl ?_
  refine ARun.call (lit_lt rfl) go_33 rfl (hpow _ (hp.less less_)) ?_
  rintro _ S1 ⟨rfl,h1⟩
  rw [h1];clear h1 S1
  refine k_e rfl ?_
  refine k_u [(0,_),(1,_),(2,_),(4,_),(5,_),(6,_)] ?_
  refine AWP.seq (k_a (k_m rfl ?_))
  refine rC (Calm.bin rfl rfl b_neq) ?_
  refine k_n ?_
  refine k_u [(0,_),(1,_),(2,_),(4,_),(5,_),(6,_),(13,_)] ?_
  refine k_T rfl ?_
  refine k_a ?_
  refine k_9 ty_agg_29 ty_size_29 rfl ?_
  refine k_m rfl ?_
  refine ARun.call (lit_lt rfl) go_34 rfl ((hasw.frame f2).frame f4) ?_
  rintro _ S1 ⟨Sa,⟨M,⟨w,rfl,hSM,hpl⟩,fa,hSa⟩,fb,h1⟩
  rw [h1,hSa];rw [hSa] at fb;clear h1 S1 hSa Sa
  obtain ⟨fbm,n21⟩:=fresh_set fb
  obtain ⟨qe,de,qw,dw,qf,df,rfl,hE2,hW2,hF2⟩:=id hpl
  refine rC (Calm.extract rfl rfl) ?_
  refine rC (Calm.extract rfl rfl) ?_
  first|refine k_A rfl rfl ty_size_29 ?_|refine k_B rfl rfl ty_size_29 ?_
  try simp only [k_ms,k_sz,k_ss,k_za,Nat.reduceAdd]
  refine k_e rfl ?_
  refine k_u [(0,_),(1,_),(2,_),(4,_),(5,_),(6,_),(13,_)] ?_
  refine k_r ?_
  refine ⟨_,M,⟨_,_,_,rfl,.inr ⟨ty_agg_29,[_,_,_,_,_,_,_,_,_],ty_size_29,rds_,rfl⟩,⟨_,_,rfl,rfl,rfl⟩,rfl⟩,less_,?_⟩
  exact ⟨_,rfl,hSM,hpl⟩
 ·rw [if_pos rfl]
  have hw:=right_PW hR hz hdn
  have hl1:=hw.l1
  have h256:=hw.l2
  refine ACall.enter (rs:=[.cell 4 29,.tmp 5]) 49 [(0,.agg #[.int .i64 x.d.size,.slice pe x.d.ext.length ce,.slice pw x.d.waits.length cw,.int .i64 x.d.fuse,.bool x.d.down,.slice pf x.fr.length cf,.int .u64 x.tick,.int .u64 x.reads,.int .u64 x.writes]),(1,.string s)] Tryz.func23 rfl rfl (Nat.le_of_ble_eq_true rfl) rfl ⟨rfl,rfl,trivial⟩ ?_
  refine k_a ?_
  refine k_b9 rfl ?_
  intro b2 f2
  have g2:=f2
  repeat ((with_reducible replace g2:=fresh_set g2);obtain ⟨g2,_⟩:=g2)
  try simp only [k_l1,k_l0,k_za,Nat.reduceAdd]
  refine ARun.alloc (lit_lt rfl) ty_zero_29 ?_
  intro b4 f4
  have g4:=f4
  repeat ((with_reducible replace g4:=fresh_set g4);obtain ⟨g4,_⟩:=g4)
  try simp only [k_l1,k_l0,k_za,Nat.reduceAdd]
  refine k_e rfl (k_a ?_)
  refine k_9 ty_agg_29 ty_size_29 rfl ?_
  refine ARun.call (lit_lt rfl) go_33 rfl (hpow _ (hp.less less_)) ?_
  rintro _ S1 ⟨rfl,h1⟩
  rw [h1];clear h1 S1
  refine k_e rfl ?_
  refine k_u [(0,_),(1,_),(2,_),(4,_),(5,_),(6,_)] ?_
  refine AWP.seq (k_a (k_m rfl ?_))
  refine rC (Calm.bin rfl rfl b_neq) ?_
  refine k_n ?_
  refine k_u [(0,_),(1,_),(2,_),(4,_),(5,_),(6,_),(13,_)] ?_
  refine k_F rfl ?_
  refine k_k (k_a ?_)
  refine k_9 ty_agg_29 ty_size_29 rfl ?_
  refine ARun.call (lit_lt rfl) go_5 rfl ((hcopy.frame f2).frame f4) ?_
  rintro _ S1 ⟨Sa,⟨T0,⟨B,oF,qe,de,qw,dw,hSB,ho,hE2,hW2,rfl,hT0⟩,fa,hSa⟩,fb,h1⟩
  obtain ⟨b,c,rfl⟩:=ho.some (by omega)
  obtain ⟨hbB,hlc⟩:=ho.own b c rfl
  have hT0':T0=B.set b (frB x.fr c):=hT0
  rw [hSa] at fb;rw [hT0'] at fa fb;rw [h1,hSa,hT0'];clear h1 S1 hSa Sa hT0 hT0' T0
  obtain ⟨hAB,nAb⟩:=fresh_set fa
  obtain ⟨hRb,nRA⟩:=fresh_set fb
  obtain ⟨hRB,nRb⟩:=fresh_set hRb
  rw [show outV (some (b,c)) x.fr.length = .slice (some ⟨b,0,none⟩) x.fr.length c from rfl]
  refine ARun.alloc (lit_lt rfl) ty_zero_29 ?_
  intro b7 f7
  have g7:=f7
  repeat ((with_reducible replace g7:=fresh_set g7);obtain ⟨g7,_⟩:=g7)
  try simp only [k_l1,k_l0,k_za,Nat.reduceAdd]
  first|refine k_A rfl rfl ty_size_29 ?_|refine k_B rfl rfl ty_size_29 ?_
  try simp only [k_ms,k_sz,k_ss,k_za,Nat.reduceAdd]
  refine k_n ?_
  refine k_u [(0,_),(1,_),(2,_),(4,_),(5,_),(6,_),(13,_),(7,_)] ?_
  refine AWP.seq (k_a ?_)
  refine rC (Calm.fieldAddr ty_field_29_1 rfl) ?_
  refine rC (ld_ ty_plain_26 rfl) ?_
  refine rC (Calm.lenSl Tryz.underlying26 rfl) ?_
  refine k_m rfl (k_n ?_)
  refine k_u [(0,_),(1,_),(2,_),(4,_),(5,_),(6,_),(13,_),(7,_),(22,_),(23,_),(24,_)] ?_
  refine AWP.block ?_
  refine AWP.loop (X:=Nat) (fun z=>[(1,.string s),(2,.pointer (some ⟨b2,0,none⟩)),(4,.pointer (some ⟨b4,0,none⟩)),(7,.pointer (some ⟨b7,0,none⟩)),(22,.slice (some ⟨b,0,none⟩) x.fr.length c),(23,.int .i64 x.fr.length),(24,.int .i64 z)]) (fun z=>(((B.set b (frB (drF s x.fr z) c)).set b2 ⟨29,[.int .i64 x.d.size,.slice pe x.d.ext.length ce,.slice pw x.d.waits.length cw,.int .i64 x.d.fuse,.bool x.d.down,.slice pf x.fr.length cf,.int .u64 x.tick,.int .u64 x.reads,.int .u64 x.writes],9⟩).set b4 ⟨29,[.int .i64 0,.slice none 0 0,.slice none 0 0,.int .i64 0,.bool false,.slice none 0 0,.int .u64 0,.int .u64 0,.int .u64 0],9⟩).set b7 ⟨29,[.int .i64 x.d.size,.slice qe x.d.ext.length de,.slice qw x.d.waits.length dw,.int .i64 x.d.fuse,.bool x.d.down,.slice (some ⟨b,0,none⟩) x.fr.length c,.int .u64 x.tick,.int .u64 x.reads,.int .u64 x.writes],9⟩) (fun z=>z≤x.fr.length ∧ ∀ j (hj:j<x.fr.length),j<z→(ofN s x.fr[j] && decide (0<x.fr[j].pins))=false) (fun z=>x.fr.length-z) (0) ⟨rfl,rfl,rfl,rfl,rfl,rfl,rfl,trivial⟩ (Mem.Less.refl _) (⟨Nat.zero_le _,fun j _ h=>absurd h (Nat.not_lt_zero _)⟩) ?_
  rintro i ⟨hi,hno⟩
  (try dsimp only at *)
  have hcB:=fun r=>(hcopyR B (hp.less hSB)).frame (r:=r) hRB
  refine k_a ?_
  refine rC (Calm.bin rfl rfl b_lss) ?_
  refine k_n (AWP.seq ?_)
  refine AWP.condB rfl (fun hc=>?_) (fun hc=>?_)
  ·have hc:i<x.fr.length:=by have:=of_decide_eq_true hc;omega
   have hcd:i<(drF s x.fr i).length:=by rw [drF_len];exact hc
   have hki:=fr_kn (B:=B) (b:=b) (c:=c) hcd
   rw [drF_at s x.fr hc] at hki
   have hsucc:=drF_succ s x.fr hc
   have hno':(ofN s x.fr[i] && decide (0<x.fr[i].pins))=false → ∀ j (hj:j<x.fr.length),j<i+1→(ofN s x.fr[j] && decide (0<x.fr[j].pins))=false:=fun hn j h hj=>by rcases Nat.lt_or_ge j i with h' | h';exact hno j h h';obtain rfl:j=i:=(by omega);exact hn
   have hyes:(ofN s x.fr[i] && decide (0<x.fr[i].pins))=true→dropP x s=(x,11):=fun h=>by unfold dropP;rw [if_pos (List.any_eq_true.2 ⟨_,List.getElem_mem hc,h⟩)]
   have ch:=fun S=>rp_holds x.fr[i] S
   unfold clrF at hsucc
   have hid:(drF s x.fr i).set i x.fr[i]=drF s x.fr i:=by rw [← drF_at s x.fr hc hcd];exact List.set_getElem_self hcd
   generalize x.fr[i]=y at *
   unfold frV at ch
   unfold frF at hki
   by_cases q1:y.holds
   ·rw [decide_eq_true q1] at ch
    by_cases q2:y.name=s
    ·have hof:ofN s y=true:=decide_eq_true ⟨q1,q2⟩
     rw [hof,Bool.true_and] at hno' hyes
     rw [hof,if_pos rfl] at hsucc
     by_cases q3:0<y.pins
     ·rw [hyes (decide_eq_true q3)]
      refine k_k (AWP.seq ?_)
      refine AWP.block ?_
      refine k_a (k_m rfl ?_)
      refine rC (Calm.indexS Tryz.underlying26 ty_size_62 rfl rfl (by omega) (by omega)) ?_
      refine k_7 ty_agg_62 ty_size_62 rfl ?_
      refine ARun.alloc (lit_lt rfl) ty_zero_62 ?_
      intro b9 f9
      have g9:=f9
      repeat ((with_reducible replace g9:=fresh_set g9);obtain ⟨g9,_⟩:=g9)
      try simp only [k_l1,k_l0,k_za,Nat.reduceAdd]
      refine k_s rfl ?_
      first|refine k_A rfl rfl ty_size_62 ?_|refine k_B rfl rfl ty_size_62 ?_
      try simp only [k_ms,k_sz,k_ss,k_za,Nat.reduceAdd]
      refine k_n ?_
      refine k_u [(1,_),(2,_),(4,_),(7,_),(22,_),(23,_),(24,_),(25,_),(9,_),(8,_)] ?_
      refine k_a ?_
      refine k_7 ty_agg_62 ty_size_62 rfl ?_
      refine ARun.call (lit_lt rfl) go_55 rfl (ch _) ?_
      rintro _ S1 ⟨rfl,h1⟩
      rw [h1];clear h1 S1
      refine k_m rfl ?_
      first|refine k_q 31 ?_|refine rG 31 (Calm.fieldAddr ty_field_62_0 rfl) ?_
      first|refine k_q 31 ?_|refine rG 31 (ld_ ty_plain_9 rfl) ?_
      first|refine k_q 31 ?_|refine rG 31 (Calm.move rfl) ?_
      first|refine k_q 31 ?_|refine rG 31 (Calm.bin rfl rfl (bin_bool (bin_str_eql _ _) (decide_eq_true q2))) ?_
      first|refine k_t rfl rfl ?_|refine k_f rfl rfl ?_
      refine k_n ?_
      refine k_u [(1,_),(2,_),(4,_),(7,_),(22,_),(23,_),(24,_),(25,_),(9,_),(8,_),(36,_)] ?_
      refine k_T rfl ?_
      refine AWP.seq (k_a ?_)
      refine rC (Calm.fieldAddr ty_field_62_3 rfl) ?_
      refine rC (ld_ ty_plain_3 rfl) ?_
      refine rC (Calm.bin rfl rfl (bin_bool (bin_gtr _ _) (decide_eq_true q3))) ?_
      refine k_n ?_
      refine k_u [(1,_),(2,_),(4,_),(7,_),(22,_),(23,_),(24,_),(25,_),(9,_),(8,_),(36,_),(39,_)] ?_
      refine k_T rfl ?_
      refine k_a ?_
      refine k_9 ty_agg_29 ty_size_29 rfl ?_
      refine ARun.call (lit_lt rfl) go_5 rfl (ACall.less less_ (hcB ⟨29,[.int .i64 0,.slice none 0 0,.slice none 0 0,.int .i64 0,.bool false,.slice none 0 0,.int .u64 0,.int .u64 0,.int .u64 0],9⟩)) ?_
      rintro _ S1 ⟨Mx,⟨hBx,hpx⟩,fx,h1⟩
      rw [h1];clear h1 S1
      obtain ⟨ue,ve,uw,vw,uf,vf,rfl,_,_,_⟩:=id hpx
      first|refine k_A rfl rfl ty_size_29 ?_|refine k_B rfl rfl ty_size_29 ?_
      try simp only [k_ms,k_sz,k_ss,k_za,Nat.reduceAdd]
      refine k_e rfl ?_
      refine k_u [(1,_),(2,_),(4,_),(7,_),(22,_),(23,_),(24,_),(25,_),(9,_),(8,_),(36,_),(39,_),(5,_)] ?_
      refine k_r ?_
      refine ain_ret ?_
      refine athen_ret ?_
      refine athen_ret ?_
      refine ain_ret ?_
      refine athen_ret ?_
      refine ⟨_,Mx,⟨_,_,_,rfl,.inr ⟨ty_agg_29,[_,_,_,_,_,_,_,_,_],ty_size_29,rds_,rfl⟩,⟨_,_,rfl,rfl,rfl⟩,rfl⟩,less_,?_⟩
      exact ⟨_,rfl,hSB.trans hBx,hpx⟩
     ·refine k_k (AWP.seq ?_)
      refine AWP.block ?_
      refine k_a (k_m rfl ?_)
      refine rC (Calm.indexS Tryz.underlying26 ty_size_62 rfl rfl (by omega) (by omega)) ?_
      refine k_7 ty_agg_62 ty_size_62 rfl ?_
      refine ARun.alloc (lit_lt rfl) ty_zero_62 ?_
      intro b9 f9
      have g9:=f9
      repeat ((with_reducible replace g9:=fresh_set g9);obtain ⟨g9,_⟩:=g9)
      try simp only [k_l1,k_l0,k_za,Nat.reduceAdd]
      refine k_s rfl ?_
      first|refine k_A rfl rfl ty_size_62 ?_|refine k_B rfl rfl ty_size_62 ?_
      try simp only [k_ms,k_sz,k_ss,k_za,Nat.reduceAdd]
      refine k_n ?_
      refine k_u [(1,_),(2,_),(4,_),(7,_),(22,_),(23,_),(24,_),(25,_),(9,_),(8,_)] ?_
      refine k_a ?_
      refine k_7 ty_agg_62 ty_size_62 rfl ?_
      refine ARun.call (lit_lt rfl) go_55 rfl (ch _) ?_
      rintro _ S1 ⟨rfl,h1⟩
      rw [h1];clear h1 S1
      refine k_m rfl ?_
      first|refine k_q 31 ?_|refine rG 31 (Calm.fieldAddr ty_field_62_0 rfl) ?_
      first|refine k_q 31 ?_|refine rG 31 (ld_ ty_plain_9 rfl) ?_
      first|refine k_q 31 ?_|refine rG 31 (Calm.move rfl) ?_
      first|refine k_q 31 ?_|refine rG 31 (Calm.bin rfl rfl (bin_bool (bin_str_eql _ _) (decide_eq_true q2))) ?_
      first|refine k_t rfl rfl ?_|refine k_f rfl rfl ?_
      refine k_n ?_
      refine k_u [(1,_),(2,_),(4,_),(7,_),(22,_),(23,_),(24,_),(25,_),(9,_),(8,_),(36,_)] ?_
      refine k_T rfl ?_
      refine AWP.seq (k_a ?_)
      refine rC (Calm.fieldAddr ty_field_62_3 rfl) ?_
      refine rC (ld_ ty_plain_3 rfl) ?_
      refine rC (Calm.bin rfl rfl (bin_bool (bin_gtr _ _) (decide_eq_false q3))) ?_
      refine k_n ?_
      refine k_u [(1,_),(2,_),(4,_),(7,_),(22,_),(23,_),(24,_),(25,_),(9,_),(8,_),(36,_),(39,_)] ?_
      refine k_F rfl ?_
      refine k_k ?_
      refine AWP.region ?_
      refine rC (Calm.fieldAddr ty_field_29_1 rfl) ?_
      refine rC (ld_ ty_plain_26 rfl) ?_
      refine k_m rfl ?_
      refine rC (Calm.build (cs:=[_,_,_,_,_,_,_]) ty_bld_62 rfl rfl) ?_
      refine rC (Calm.indexS Tryz.underlying26 ty_size_62 rfl rfl (by omega) (by omega)) ?_
      refine ARun.storeFr (c:=c) (i:=i) (l:=drF s x.fr i) (u:=F0) rfl rfl rfl (by omega) hcd ty_size_62 own_ ?_
      try simp only [k_ms,k_sz,k_ss,k_za,Nat.reduceAdd]
      refine arun_nil ?_
      refine ain_n ?_
      refine athen_n ?_
      refine k_u [(1,_),(2,_),(4,_),(7,_),(22,_),(23,_),(24,_),(25,_),(9,_),(8,_),(36,_),(39,_)] ?_
      refine AWP.region ?_
      refine rC (Calm.bin rfl rfl b_add_i64) ?_
      refine k_m rfl (k_n ?_)
      refine ⟨i+1,?_,?_,?_,?_⟩
      all_goals (try dsimp only)
      ·exact ⟨rfl,rfl,rfl,rfl,rfl,rfl,rfl,trivial⟩
      ·exact (by rw [hsucc];exact less_)
      ·exact ⟨hc,hno' (decide_eq_false q3)⟩
      ·omega
    ·have hof:ofN s y=false:=decide_eq_false fun h=>q2 h.2
     rw [hof,Bool.false_and] at hno'
     rw [hof,if_neg (by simp),hid] at hsucc
     refine k_k (AWP.seq ?_)
     refine AWP.block ?_
     refine k_a (k_m rfl ?_)
     refine rC (Calm.indexS Tryz.underlying26 ty_size_62 rfl rfl (by omega) (by omega)) ?_
     refine k_7 ty_agg_62 ty_size_62 rfl ?_
     refine ARun.alloc (lit_lt rfl) ty_zero_62 ?_
     intro b9 f9
     have g9:=f9
     repeat ((with_reducible replace g9:=fresh_set g9);obtain ⟨g9,_⟩:=g9)
     try simp only [k_l1,k_l0,k_za,Nat.reduceAdd]
     refine k_s rfl ?_
     first|refine k_A rfl rfl ty_size_62 ?_|refine k_B rfl rfl ty_size_62 ?_
     try simp only [k_ms,k_sz,k_ss,k_za,Nat.reduceAdd]
     refine k_n ?_
     refine k_u [(1,_),(2,_),(4,_),(7,_),(22,_),(23,_),(24,_),(25,_),(9,_),(8,_)] ?_
     refine k_a ?_
     refine k_7 ty_agg_62 ty_size_62 rfl ?_
     refine ARun.call (lit_lt rfl) go_55 rfl (ch _) ?_
     rintro _ S1 ⟨rfl,h1⟩
     rw [h1];clear h1 S1
     refine k_m rfl ?_
     first|refine k_q 31 ?_|refine rG 31 (Calm.fieldAddr ty_field_62_0 rfl) ?_
     first|refine k_q 31 ?_|refine rG 31 (ld_ ty_plain_9 rfl) ?_
     first|refine k_q 31 ?_|refine rG 31 (Calm.move rfl) ?_
     first|refine k_q 31 ?_|refine rG 31 (Calm.bin rfl rfl (bin_bool (bin_str_eql _ _) (decide_eq_false q2))) ?_
     first|refine k_t rfl rfl ?_|refine k_f rfl rfl ?_
     refine k_n ?_
     refine k_u [(1,_),(2,_),(4,_),(7,_),(22,_),(23,_),(24,_),(25,_),(9,_),(8,_),(36,_)] ?_
     refine k_F rfl ?_
     refine AWP.skip ?_
     refine ain_n ?_
     refine athen_n ?_
     refine AWP.region ?_
     refine rC (Calm.bin rfl rfl b_add_i64) ?_
     refine k_m rfl (k_n ?_)
     refine ⟨i+1,?_,?_,?_,?_⟩
     all_goals (try dsimp only)
     ·exact ⟨rfl,rfl,rfl,rfl,rfl,rfl,rfl,trivial⟩
     ·exact (by rw [hsucc];exact less_)
     ·exact ⟨hc,hno' rfl⟩
     ·omega
   ·rw [decide_eq_false q1] at ch
    have hof:ofN s y=false:=decide_eq_false fun h=>q1 h.1
    rw [hof,Bool.false_and] at hno'
    rw [hof,if_neg (by simp),hid] at hsucc
    refine k_k (AWP.seq ?_)
    refine AWP.block ?_
    refine k_a (k_m rfl ?_)
    refine rC (Calm.indexS Tryz.underlying26 ty_size_62 rfl rfl (by omega) (by omega)) ?_
    refine k_7 ty_agg_62 ty_size_62 rfl ?_
    refine ARun.alloc (lit_lt rfl) ty_zero_62 ?_
    intro b9 f9
    have g9:=f9
    repeat ((with_reducible replace g9:=fresh_set g9);obtain ⟨g9,_⟩:=g9)
    try simp only [k_l1,k_l0,k_za,Nat.reduceAdd]
    refine k_s rfl ?_
    first|refine k_A rfl rfl ty_size_62 ?_|refine k_B rfl rfl ty_size_62 ?_
    try simp only [k_ms,k_sz,k_ss,k_za,Nat.reduceAdd]
    refine k_n ?_
    refine k_u [(1,_),(2,_),(4,_),(7,_),(22,_),(23,_),(24,_),(25,_),(9,_),(8,_)] ?_
    refine k_a ?_
    refine k_7 ty_agg_62 ty_size_62 rfl ?_
    refine ARun.call (lit_lt rfl) go_55 rfl (ch _) ?_
    rintro _ S1 ⟨rfl,h1⟩
    rw [h1];clear h1 S1
    refine k_m rfl ?_
    first|refine k_q 31 ?_|refine rG 31 (Calm.fieldAddr ty_field_62_0 rfl) ?_
    first|refine k_q 31 ?_|refine rG 31 (ld_ ty_plain_9 rfl) ?_
    first|refine k_q 31 ?_|refine rG 31 (Calm.move rfl) ?_
    first|refine k_q 31 ?_|refine rG 31 (Calm.bin rfl rfl (bin_str_eql _ _)) ?_
    first|refine k_t rfl rfl ?_|refine k_f rfl rfl ?_
    refine k_n ?_
    refine k_u [(1,_),(2,_),(4,_),(7,_),(22,_),(23,_),(24,_),(25,_),(9,_),(8,_),(36,_)] ?_
    refine k_F rfl ?_
    refine AWP.skip ?_
    refine ain_n ?_
    refine athen_n ?_
    refine AWP.region ?_
    refine rC (Calm.bin rfl rfl b_add_i64) ?_
    refine k_m rfl (k_n ?_)
    refine ⟨i+1,?_,?_,?_,?_⟩
    all_goals (try dsimp only)
    ·exact ⟨rfl,rfl,rfl,rfl,rfl,rfl,rfl,trivial⟩
    ·exact (by rw [hsucc];exact less_)
    ·exact ⟨hc,hno' rfl⟩
    ·omega
  ·have hc:i=x.fr.length:=by have:=of_decide_eq_false hc;omega
   subst hc
   have hdr:dropP x s=({ x with fr:=drF s x.fr x.fr.length },0):=by unfold dropP;rw [if_neg (fun h=>by obtain ⟨y,hy,hq⟩:=List.any_eq_true.1 h;obtain ⟨j,hj,rfl⟩:=List.getElem_of_mem hy;rw [hno j hj hj] at hq;cases hq),drF_all];rfl
   have hyB:=rpB_like (y:={ x with fr:=drF s x.fr x.fr.length }) hbB hlc hE2 hW2 rfl (drF_len s x.fr _)
   obtain ⟨hST,hpl⟩:=hyB.plR hSB (by simp only [drF_len];exact h256)
   rw [hdr]
   refine AWP.exit ?_
   refine athen_exit ?_
   refine athen_exit ?_
   refine ain_same ?_
   refine athen_n ?_
   refine k_a ?_
   refine k_9 ty_agg_29 ty_size_29 rfl ?_
   first|refine k_A rfl rfl ty_size_29 ?_|refine k_B rfl rfl ty_size_29 ?_
   try simp only [k_ms,k_sz,k_ss,k_za,Nat.reduceAdd]
   refine k_e rfl ?_
   refine k_u [(1,_),(2,_),(4,_),(7,_),(22,_),(23,_),(24,_),(25,_),(5,_)] ?_
   refine AWP.ret ?_
   refine ⟨_,B.set b (frB (drF s x.fr x.fr.length) c),⟨_,_,_,rfl,.inr ⟨ty_agg_29,[_,_,_,_,_,_,_,_,_],ty_size_29,rds_,rfl⟩,⟨_,_,rfl,rfl,rfl⟩,rfl⟩,less_,?_⟩
   exact ⟨_,rfl,hST,hpl⟩
end Go.Proofs.YtkeiphkccnfhoaaGreat
