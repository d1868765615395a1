/-
  Texts that belong together: Pool11, DR1, DR2, DR3, DR4, Draw, DR5, DR6, DR9, DR7, DR11, DR12, DR13, DR14, DR8, DiskLv0, DkP1, Pool12.
-/
import Derived.Test.YtkeiphkccnfhoaaGreatBPq3
set_option linter.unusedVariables false
set_option linter.unusedSimpArgs false
set_option linter.unusedSectionVars false
namespace Go.Proofs.YtkeiphkccnfhoaaGreat
open Go.RowKit
open Mv Disk
set_option maxRecDepth 4000
set_option maxHeartbeats 2000000 in
theorem pl_UnpinA (a p b c : Nat) (x : Pl) (i : Int) (k : Int) (S : Mem) (oE oW : Option (Nat × Nat)) (hok : OkA S a p b c x oE oW) (hw : PW x) :
  ACall Tryz.prog 39 #[.pointer (some ⟨a,0,none⟩),.int .i64 i] (arM (devM S p x.d oE oW) a p b c x k) (ArR S a p b c (unpin1 x i)):=by
 have h256:=hw.l2
 have hA:=ar_own (M:=devM S p x.d oE oW) (a:=a) (p:=p) (b:=b) (c:=c) (x:=x) (k:=k)
 have hB:=ar_fr (M:=devM S p x.d oE oW) (p:=p) (c:=c) (x:=x) (k:=k) hok.ab
 have hsF:=fun fr' h=>ar_setF (M:=devM S p x.d oE oW) (p:=p) (c:=c) (x:=x) (k:=k) hok.ab fr' h
 have hkn:=fun j (hj:j<x.fr.length)=>ar_kn (M:=devM S p x.d oE oW) (p:=p) (x:=x) (k:=k) hok.ab hok.l hw.l2 hj
 have hpn:=fun j (hj:j<x.fr.length)=>hw.pn _ (atF_mem hj)
 generalize hT:arM (devM S p x.d oE oW) a p b c x k=T at *
 unfold arB at hA
 unfold unpin1
 by_cases q1:i<0
 ·rw [if_pos (.inl q1)]
  refine ACall.enter (rs:=[.tmp 4]) 38 [(0,.pointer (some ⟨a,0,none⟩)),(1,.int .i64 i)] Tryz.func39 rfl rfl (Nat.le_of_ble_eq_true rfl) rfl ⟨rfl,rfl,trivial⟩ ?_
  refine k_a (k_e rfl (AWP.seq ?_))
  refine AWP.block ?_
  refine k_a (k_m rfl ?_)
  refine rC (Calm.bin rfl rfl (bin_bool (bin_lss _ _) (decide_eq_true q1))) ?_
  refine k_m rfl ?_
  first|refine k_q 8 ?_|refine rG 8 (Calm.move rfl) ?_
  first|refine k_q 8 ?_|refine rG 8 (Calm.move rfl) ?_
  first|refine k_q 8 ?_|refine rG 8 (Calm.nilCheck rfl) ?_
  first|refine k_q 8 ?_|refine rG 8 (Calm.fieldAddr ty_field_93_1 rfl) ?_
  first|refine k_q 8 ?_|refine rG 8 (ld_ ty_plain_26 rfl) ?_
  first|refine k_q 8 ?_|refine rG 8 (Calm.lenSl Tryz.underlying26 rfl) ?_
  first|refine k_q 8 ?_|refine rG 8 (Calm.bin rfl rfl b_geq) ?_
  first|refine k_t rfl rfl ?_|refine k_f rfl rfl ?_
  refine k_e rfl ?_
  refine k_u [(0,_),(1,_),(4,_),(5,_)] ?_
  refine k_T rfl ?_
  refine k_a (k_e rfl ?_)
  refine AWP.ret ?_
  refine ain_ret ?_
  refine athen_ret ?_
  refine ⟨_,T,⟨_,_,rfl,rfl,rfl⟩,less_,?_⟩
  exact ⟨rfl,k,oE,oW,hok,hT.symm⟩
 ·by_cases q2:(x.fr.length:Int)≤i
  ·rw [if_pos (.inr q2)]
   refine ACall.enter (rs:=[.tmp 4]) 38 [(0,.pointer (some ⟨a,0,none⟩)),(1,.int .i64 i)] Tryz.func39 rfl rfl (Nat.le_of_ble_eq_true rfl) rfl ⟨rfl,rfl,trivial⟩ ?_
   refine k_a (k_e rfl (AWP.seq ?_))
   refine AWP.block ?_
   refine k_a (k_m rfl ?_)
   refine rC (Calm.bin rfl rfl (bin_bool (bin_lss _ _) (decide_eq_false q1))) ?_
   refine k_m rfl ?_
   first|refine k_q 8 ?_|refine rG 8 (Calm.move rfl) ?_
   first|refine k_q 8 ?_|refine rG 8 (Calm.move rfl) ?_
   first|refine k_q 8 ?_|refine rG 8 (Calm.nilCheck rfl) ?_
   first|refine k_q 8 ?_|refine rG 8 (Calm.fieldAddr ty_field_93_1 rfl) ?_
   first|refine k_q 8 ?_|refine rG 8 (ld_ ty_plain_26 rfl) ?_
   first|refine k_q 8 ?_|refine rG 8 (Calm.lenSl Tryz.underlying26 rfl) ?_
   first|refine k_q 8 ?_|refine rG 8 (Calm.bin rfl rfl b_geq) ?_
   first|refine k_t rfl rfl ?_|refine k_f rfl rfl ?_
   refine k_e rfl ?_
   refine k_u [(0,_),(1,_),(4,_),(5,_)] ?_
   refine k_T rfl ?_
   refine k_a (k_e rfl ?_)
   refine AWP.ret ?_
   refine ain_ret ?_
   refine athen_ret ?_
   refine ⟨_,T,⟨_,_,rfl,rfl,rfl⟩,less_,?_⟩
   exact ⟨rfl,k,oE,oW,hok,hT.symm⟩
  ·rw [if_neg (fun h=>h.elim q1 q2)]
   obtain ⟨j,rfl⟩ : ∃ j:Nat,i=(j:Int):=⟨_,(Int.toNat_of_nonneg (by omega)).symm⟩
   rw [Int.toNat_natCast]
   have hj:j<x.fr.length:=by omega
   obtain ⟨_,_,_,kp,_,_,_⟩:=kn_fr (hkn j hj)
   have hpj:=hpn j hj
   by_cases q3:(atF x j).pins=0
   ·rw [if_pos q3]
    refine ACall.enter (rs:=[.tmp 4]) 38 [(0,.pointer (some ⟨a,0,none⟩)),(1,.int .i64 (j:Nat))] Tryz.func39 rfl rfl (Nat.le_of_ble_eq_true rfl) rfl ⟨rfl,rfl,trivial⟩ ?_
    refine k_a (k_e rfl (AWP.seq ?_))
    refine AWP.block ?_
    refine k_a (k_m rfl ?_)
    refine rC (Calm.bin rfl rfl (bin_bool (bin_lss _ _) (decide_eq_false q1))) ?_
    refine k_m rfl ?_
    first|refine k_q 8 ?_|refine rG 8 (Calm.move rfl) ?_
    first|refine k_q 8 ?_|refine rG 8 (Calm.move rfl) ?_
    first|refine k_q 8 ?_|refine rG 8 (Calm.nilCheck rfl) ?_
    first|refine k_q 8 ?_|refine rG 8 (Calm.fieldAddr ty_field_93_1 rfl) ?_
    first|refine k_q 8 ?_|refine rG 8 (ld_ ty_plain_26 rfl) ?_
    first|refine k_q 8 ?_|refine rG 8 (Calm.lenSl Tryz.underlying26 rfl) ?_
    first|refine k_q 8 ?_|refine rG 8 (Calm.bin rfl rfl b_geq) ?_
    first|refine k_t rfl rfl ?_|refine k_f rfl rfl ?_
    refine k_e rfl ?_
    refine k_u [(0,_),(1,_),(4,_),(5,_)] ?_
    refine k_F rfl ?_
    refine k_a (k_m rfl ?_)
    refine rC (Calm.nilCheck rfl) ?_
    refine rC (Calm.fieldAddr ty_field_93_1 rfl) ?_
    refine rC (ld_ ty_plain_26 rfl) ?_
    refine k_m rfl ?_
    refine rC (Calm.indexS Tryz.underlying26 ty_size_62 rfl rfl (by omega) (by omega)) ?_
    refine rC (Calm.fieldAddr ty_field_62_3 rfl) ?_
    refine rC (ld_ ty_plain_3 rfl) ?_
    refine rC (Calm.bin rfl rfl (bin_bool (bin_eql _ _) (decide_eq_true q3))) ?_
    refine k_e rfl ?_
    refine k_u [(0,_),(1,_),(4,_),(5,_),(17,_)] ?_
    refine k_T rfl ?_
    refine k_a (k_e rfl ?_)
    refine AWP.ret ?_
    refine ain_ret ?_
    refine athen_ret ?_
    refine ⟨_,T,⟨_,_,rfl,rfl,rfl⟩,less_,?_⟩
    exact ⟨rfl,k,oE,oW,hok,hT.symm⟩
   ·rw [if_neg q3]
    refine ACall.enter (rs:=[.tmp 4]) 38 [(0,.pointer (some ⟨a,0,none⟩)),(1,.int .i64 (j:Nat))] Tryz.func39 rfl rfl (Nat.le_of_ble_eq_true rfl) rfl ⟨rfl,rfl,trivial⟩ ?_
    refine k_a (k_e rfl (AWP.seq ?_))
    refine AWP.block ?_
    refine k_a (k_m rfl ?_)
    refine rC (Calm.bin rfl rfl (bin_bool (bin_lss _ _) (decide_eq_false q1))) ?_
    refine k_m rfl ?_
    first|refine k_q 8 ?_|refine rG 8 (Calm.move rfl) ?_
    first|refine k_q 8 ?_|refine rG 8 (Calm.move rfl) ?_
    first|refine k_q 8 ?_|refine rG 8 (Calm.nilCheck rfl) ?_
    first|refine k_q 8 ?_|refine rG 8 (Calm.fieldAddr ty_field_93_1 rfl) ?_
    first|refine k_q 8 ?_|refine rG 8 (ld_ ty_plain_26 rfl) ?_
    first|refine k_q 8 ?_|refine rG 8 (Calm.lenSl Tryz.underlying26 rfl) ?_
    first|refine k_q 8 ?_|refine rG 8 (Calm.bin rfl rfl b_geq) ?_
    first|refine k_t rfl rfl ?_|refine k_f rfl rfl ?_
    refine k_e rfl ?_
    refine k_u [(0,_),(1,_),(4,_),(5,_)] ?_
    refine k_F rfl ?_
    refine k_a (k_m rfl ?_)
    refine rC (Calm.nilCheck rfl) ?_
    refine rC (Calm.fieldAddr ty_field_93_1 rfl) ?_
    refine rC (ld_ ty_plain_26 rfl) ?_
    refine k_m rfl ?_
    refine rC (Calm.indexS Tryz.underlying26 ty_size_62 rfl rfl (by omega) (by omega)) ?_
    refine rC (Calm.fieldAddr ty_field_62_3 rfl) ?_
    refine rC (ld_ ty_plain_3 rfl) ?_
    refine rC (Calm.bin rfl rfl (bin_bool (bin_eql _ _) (decide_eq_false q3))) ?_
    refine k_e rfl ?_
    refine k_u [(0,_),(1,_),(4,_),(5,_),(17,_)] ?_
    refine k_F rfl ?_
    refine AWP.skip ?_
    refine ain_n ?_
    refine athen_n ?_
    refine k_a (k_m rfl ?_)
    refine rC (Calm.nilCheck rfl) ?_
    refine rC (Calm.fieldAddr ty_field_93_1 rfl) ?_
    refine rC (ld_ ty_plain_26 rfl) ?_
    refine k_m rfl ?_
    refine rC (Calm.indexS Tryz.underlying26 ty_size_62 rfl rfl (by omega) (by omega)) ?_
    refine rC (Calm.fieldAddr ty_field_62_3 rfl) ?_
    refine rC (ld_ ty_plain_3 rfl) ?_
    refine rC (Calm.bin rfl rfl b_sub_i64) ?_
    refine rC (Calm.indexS Tryz.underlying26 ty_size_62 rfl rfl (by omega) (by omega)) ?_
    refine rC (Calm.fieldAddr ty_field_62_3 rfl) ?_
    refine ARun.storeFr1 (c:=c) (i:=j) (l:=x.fr) (q:=3) (u:={ atF x j with pins:=(atF x j).pins-1 }) rfl rfl rfl rfl (by omega) (by decide) hj (by rw [atF_eq hj];rfl) ty_size_3 hB ?_
    try simp only [k_ms,k_sz,k_ss,k_za,Nat.reduceAdd]
    refine k_n ?_
    refine k_u [(0,_),(1,_),(4,_),(5,_),(17,_)] ?_
    refine k_a (k_e rfl ?_)
    refine AWP.ret ?_
    refine ⟨_,arM (devM S p x.d oE oW) a p b c (setP x j { atF x j with pins:=(atF x j).pins-1 }) k,⟨_,_,rfl,rfl,rfl⟩,(by rw [hsF _ (by simp)];exact Mem.Less.refl _),?_⟩
    exact ⟨rfl,k,oE,oW,hok.like rfl (by unfold setP;simp),rfl⟩
set_option maxHeartbeats 2000000 in
theorem pl_ReturnA (a p b c : Nat) (x : Pl) (i : Int) (k : Int) (S : Mem) (oE oW : Option (Nat × Nat)) (hok : OkA S a p b c x oE oW) (hw : PW x) :
  ACall Tryz.prog 58 #[.pointer (some ⟨a,0,none⟩),.int .i64 i] (arM (devM S p x.d oE oW) a p b c x k) (ArR S a p b c (ret1 x i)):=by
 have h256:=hw.l2
 have hA:=ar_own (M:=devM S p x.d oE oW) (a:=a) (p:=p) (b:=b) (c:=c) (x:=x) (k:=k)
 have hB:=ar_fr (M:=devM S p x.d oE oW) (p:=p) (c:=c) (x:=x) (k:=k) hok.ab
 have hsF:=fun fr' h=>ar_setF (M:=devM S p x.d oE oW) (p:=p) (c:=c) (x:=x) (k:=k) hok.ab fr' h
 have hkn:=fun j (hj:j<x.fr.length)=>ar_kn (M:=devM S p x.d oE oW) (p:=p) (x:=x) (k:=k) hok.ab hok.l hw.l2 hj
 generalize hT:arM (devM S p x.d oE oW) a p b c x k=T at *
 unfold arB at hA
 unfold ret1
 by_cases q1:i<0
 ·rw [if_pos (.inl q1)]
  refine ACall.enter (rs:=[.tmp 4]) 34 [(0,.pointer (some ⟨a,0,none⟩)),(1,.int .i64 i)] Tryz.func58 rfl rfl (Nat.le_of_ble_eq_true rfl) rfl ⟨rfl,rfl,trivial⟩ ?_
  refine k_a (k_e rfl (AWP.seq ?_))
  refine AWP.block ?_
  refine k_a (k_m rfl ?_)
  refine rC (Calm.bin rfl rfl (bin_bool (bin_lss _ _) (decide_eq_true q1))) ?_
  refine k_m rfl ?_
  first|refine k_q 8 ?_|refine rG 8 (Calm.move rfl) ?_
  first|refine k_q 8 ?_|refine rG 8 (Calm.move rfl) ?_
  first|refine k_q 8 ?_|refine rG 8 (Calm.nilCheck rfl) ?_
  first|refine k_q 8 ?_|refine rG 8 (Calm.fieldAddr ty_field_93_1 rfl) ?_
  first|refine k_q 8 ?_|refine rG 8 (ld_ ty_plain_26 rfl) ?_
  first|refine k_q 8 ?_|refine rG 8 (Calm.lenSl Tryz.underlying26 rfl) ?_
  first|refine k_q 8 ?_|refine rG 8 (Calm.bin rfl rfl b_geq) ?_
  first|refine k_t rfl rfl ?_|refine k_f rfl rfl ?_
  refine k_e rfl ?_
  refine k_u [(0,_),(1,_),(4,_),(5,_)] ?_
  refine k_T rfl ?_
  refine k_a (k_e rfl ?_)
  refine AWP.ret ?_
  refine ain_ret ?_
  refine athen_ret ?_
  refine ⟨_,T,⟨_,_,rfl,rfl,rfl⟩,less_,?_⟩
  exact ⟨rfl,k,oE,oW,hok,hT.symm⟩
 ·by_cases q2:(x.fr.length:Int)≤i
  ·rw [if_pos (.inr q2)]
   refine ACall.enter (rs:=[.tmp 4]) 34 [(0,.pointer (some ⟨a,0,none⟩)),(1,.int .i64 i)] Tryz.func58 rfl rfl (Nat.le_of_ble_eq_true rfl) rfl ⟨rfl,rfl,trivial⟩ ?_
   refine k_a (k_e rfl (AWP.seq ?_))
   refine AWP.block ?_
   refine k_a (k_m rfl ?_)
   refine rC (Calm.bin rfl rfl (bin_bool (bin_lss _ _) (decide_eq_false q1))) ?_
   refine k_m rfl ?_
   first|refine k_q 8 ?_|refine rG 8 (Calm.move rfl) ?_
   first|refine k_q 8 ?_|refine rG 8 (Calm.move rfl) ?_
   first|refine k_q 8 ?_|refine rG 8 (Calm.nilCheck rfl) ?_
   first|refine k_q 8 ?_|refine rG 8 (Calm.fieldAddr ty_field_93_1 rfl) ?_
   first|refine k_q 8 ?_|refine rG 8 (ld_ ty_plain_26 rfl) ?_
   first|refine k_q 8 ?_|refine rG 8 (Calm.lenSl Tryz.underlying26 rfl) ?_
   first|refine k_q 8 ?_|refine rG 8 (Calm.bin rfl rfl b_geq) ?_
   first|refine k_t rfl rfl ?_|refine k_f rfl rfl ?_
   refine k_e rfl ?_
   refine k_u [(0,_),(1,_),(4,_),(5,_)] ?_
   refine k_T rfl ?_
   refine k_a (k_e rfl ?_)
   refine AWP.ret ?_
   refine ain_ret ?_
   refine athen_ret ?_
   refine ⟨_,T,⟨_,_,rfl,rfl,rfl⟩,less_,?_⟩
   exact ⟨rfl,k,oE,oW,hok,hT.symm⟩
  ·rw [if_neg (fun h=>h.elim q1 q2)]
   obtain ⟨j,rfl⟩ : ∃ j:Nat,i=(j:Int):=⟨_,(Int.toNat_of_nonneg (by omega)).symm⟩
   rw [Int.toNat_natCast]
   have hj:j<x.fr.length:=by omega
   obtain ⟨_,_,_,_,_,_,kp⟩:=kn_fr (hkn j hj)
   by_cases q3:(atF x j).leased=false
   ·rw [if_pos q3]
    refine ACall.enter (rs:=[.tmp 4]) 34 [(0,.pointer (some ⟨a,0,none⟩)),(1,.int .i64 (j:Nat))] Tryz.func58 rfl rfl (Nat.le_of_ble_eq_true rfl) rfl ⟨rfl,rfl,trivial⟩ ?_
    refine k_a (k_e rfl (AWP.seq ?_))
    refine AWP.block ?_
    refine k_a (k_m rfl ?_)
    refine rC (Calm.bin rfl rfl (bin_bool (bin_lss _ _) (decide_eq_false q1))) ?_
    refine k_m rfl ?_
    first|refine k_q 8 ?_|refine rG 8 (Calm.move rfl) ?_
    first|refine k_q 8 ?_|refine rG 8 (Calm.move rfl) ?_
    first|refine k_q 8 ?_|refine rG 8 (Calm.nilCheck rfl) ?_
    first|refine k_q 8 ?_|refine rG 8 (Calm.fieldAddr ty_field_93_1 rfl) ?_
    first|refine k_q 8 ?_|refine rG 8 (ld_ ty_plain_26 rfl) ?_
    first|refine k_q 8 ?_|refine rG 8 (Calm.lenSl Tryz.underlying26 rfl) ?_
    first|refine k_q 8 ?_|refine rG 8 (Calm.bin rfl rfl b_geq) ?_
    first|refine k_t rfl rfl ?_|refine k_f rfl rfl ?_
    refine k_e rfl ?_
    refine k_u [(0,_),(1,_),(4,_),(5,_)] ?_
    refine k_F rfl ?_
    refine k_a (k_m rfl ?_)
    refine rC (Calm.nilCheck rfl) ?_
    refine rC (Calm.fieldAddr ty_field_93_1 rfl) ?_
    refine rC (ld_ ty_plain_26 rfl) ?_
    refine k_m rfl ?_
    refine rC (Calm.indexS Tryz.underlying26 ty_size_62 rfl rfl (by omega) (by omega)) ?_
    refine rC (Calm.fieldAddr ty_field_62_6 rfl) ?_
    refine rC (Calm.as (congrArg Value.bool q3) (ld_ ty_plain_4 rfl)) ?_
    refine rC (Calm.un rfl (una_not _)) ?_
    refine k_e rfl ?_
    refine k_u [(0,_),(1,_),(4,_),(5,_),(17,_)] ?_
    refine k_T rfl ?_
    refine k_a (k_e rfl ?_)
    refine AWP.ret ?_
    refine ain_ret ?_
    refine athen_ret ?_
    refine ⟨_,T,⟨_,_,rfl,rfl,rfl⟩,less_,?_⟩
    exact ⟨rfl,k,oE,oW,hok,hT.symm⟩
   ·rw [if_neg q3]
    have q3':(atF x j).leased=true:=by simpa using q3
    refine ACall.enter (rs:=[.tmp 4]) 34 [(0,.pointer (some ⟨a,0,none⟩)),(1,.int .i64 (j:Nat))] Tryz.func58 rfl rfl (Nat.le_of_ble_eq_true rfl) rfl ⟨rfl,rfl,trivial⟩ ?_
    refine k_a (k_e rfl (AWP.seq ?_))
    refine AWP.block ?_
    refine k_a (k_m rfl ?_)
    refine rC (Calm.bin rfl rfl (bin_bool (bin_lss _ _) (decide_eq_false q1))) ?_
    refine k_m rfl ?_
    first|refine k_q 8 ?_|refine rG 8 (Calm.move rfl) ?_
    first|refine k_q 8 ?_|refine rG 8 (Calm.move rfl) ?_
    first|refine k_q 8 ?_|refine rG 8 (Calm.nilCheck rfl) ?_
    first|refine k_q 8 ?_|refine rG 8 (Calm.fieldAddr ty_field_93_1 rfl) ?_
    first|refine k_q 8 ?_|refine rG 8 (ld_ ty_plain_26 rfl) ?_
    first|refine k_q 8 ?_|refine rG 8 (Calm.lenSl Tryz.underlying26 rfl) ?_
    first|refine k_q 8 ?_|refine rG 8 (Calm.bin rfl rfl b_geq) ?_
    first|refine k_t rfl rfl ?_|refine k_f rfl rfl ?_
    refine k_e rfl ?_
    refine k_u [(0,_),(1,_),(4,_),(5,_)] ?_
    refine k_F rfl ?_
    refine k_a (k_m rfl ?_)
    refine rC (Calm.nilCheck rfl) ?_
    refine rC (Calm.fieldAddr ty_field_93_1 rfl) ?_
    refine rC (ld_ ty_plain_26 rfl) ?_
    refine k_m rfl ?_
    refine rC (Calm.indexS Tryz.underlying26 ty_size_62 rfl rfl (by omega) (by omega)) ?_
    refine rC (Calm.fieldAddr ty_field_62_6 rfl) ?_
    refine rC (Calm.as (congrArg Value.bool q3') (ld_ ty_plain_4 rfl)) ?_
    refine rC (Calm.un rfl (una_not _)) ?_
    refine k_e rfl ?_
    refine k_u [(0,_),(1,_),(4,_),(5,_),(17,_)] ?_
    refine k_F rfl ?_
    refine AWP.skip ?_
    refine ain_n ?_
    refine athen_n ?_
    refine k_a (k_m rfl ?_)
    refine rC (Calm.nilCheck rfl) ?_
    refine rC (Calm.fieldAddr ty_field_93_1 rfl) ?_
    refine rC (ld_ ty_plain_26 rfl) ?_
    refine k_m rfl ?_
    refine rC (Calm.build (cs:=[_,_,_,_,_,_,_]) ty_bld_62 rfl rfl) ?_
    refine rC (Calm.indexS Tryz.underlying26 ty_size_62 rfl rfl (by omega) (by omega)) ?_
    refine ARun.storeFr (c:=c) (i:=j) (l:=x.fr) (u:=F0) rfl rfl rfl (by omega) hj ty_size_62 hB ?_
    try simp only [k_ms,k_sz,k_ss,k_za,Nat.reduceAdd]
    refine k_n ?_
    refine k_u [(0,_),(1,_),(4,_),(5,_),(17,_)] ?_
    refine k_a (k_e rfl ?_)
    refine AWP.ret ?_
    refine ⟨_,arM (devM S p x.d oE oW) a p b c (setP x j F0) k,⟨_,_,rfl,rfl,rfl⟩,(by rw [hsF _ (by simp)];exact Mem.Less.refl _),?_⟩
    exact ⟨rfl,k,oE,oW,hok.like rfl (by unfold setP;simp),rfl⟩
set_option maxHeartbeats 2000000 in
theorem pl_pinned (a p b c : Nat) (x : Pl) (i g n : Int) (k : Int) (T : Mem) (hA : T.own a = some (arB p b c x k)) (hF : Sl 7 frF T (.slice (some ⟨b, 0, none⟩) x.fr.length c) x.fr) (h256 : x.fr.length ≤ 256) (hn : 0 ≤ n) :
  ACall Tryz.prog 40 #[.pointer (some ⟨a,0,none⟩),.int .i64 i,.int .i64 g,.int .i64 n] T fun r S'=>r = .int .i64 (pinnedP x i g n)∧S'=T:=by
 unfold arB at hA
 unfold pinnedP
 by_cases q1:i<0
 ·rw [if_pos (.inl q1)]
  refine ACall.enter (rs:=[.tmp 8]) 45 [(0,.pointer (some ⟨a,0,none⟩)),(1,.int .i64 i),(2,.int .i64 g),(3,.int .i64 n)] Tryz.func40 rfl rfl (Nat.le_of_ble_eq_true rfl) rfl ⟨rfl,rfl,rfl,rfl,trivial⟩ ?_
  refine k_a (k_e rfl (AWP.seq ?_))
  refine AWP.block ?_
  refine k_a (k_m rfl ?_)
  refine rC (Calm.bin rfl rfl (bin_bool (bin_lss _ _) (decide_eq_true q1))) ?_
  refine k_m rfl ?_
  first|refine k_q 12 ?_|refine rG 12 (Calm.move rfl) ?_
  first|refine k_q 12 ?_|refine rG 12 (Calm.move rfl) ?_
  first|refine k_q 12 ?_|refine rG 12 (Calm.nilCheck rfl) ?_
  first|refine k_q 12 ?_|refine rG 12 (Calm.fieldAddr ty_field_93_1 rfl) ?_
  first|refine k_q 12 ?_|refine rG 12 (ld_ ty_plain_26 rfl) ?_
  first|refine k_q 12 ?_|refine rG 12 (Calm.lenSl Tryz.underlying26 rfl) ?_
  first|refine k_q 12 ?_|refine rG 12 (Calm.bin rfl rfl b_geq) ?_
  first|refine k_t rfl rfl ?_|refine k_f rfl rfl ?_
  refine k_m rfl ?_
  first|refine k_q 21 ?_|refine rG 21 (Calm.move rfl) ?_
  first|refine k_q 21 ?_|refine rG 21 (Calm.bin rfl rfl b_lss) ?_
  first|refine k_t rfl rfl ?_|refine k_f rfl rfl ?_
  refine k_m rfl ?_
  first|refine k_q 25 ?_|refine rG 25 (Calm.move rfl) ?_
  first|refine k_q 25 ?_|refine rG 25 (Calm.bin rfl rfl b_gtr) ?_
  first|refine k_t rfl rfl ?_|refine k_f rfl rfl ?_
  refine k_m rfl ?_
  first|refine k_q 29 ?_|refine rG 29 (Calm.move rfl) ?_
  first|refine k_q 29 ?_|refine rG 29 (Calm.move rfl) ?_
  first|refine k_q 29 ?_|refine rG 29 (Calm.bin rfl rfl b_sub_i64) ?_
  first|refine k_q 29 ?_|refine rG 29 (Calm.bin rfl rfl b_gtr) ?_
  first|refine k_t rfl rfl ?_|refine k_f rfl rfl ?_
  refine k_e rfl ?_
  refine k_u [(0,_),(1,_),(2,_),(3,_),(8,_),(9,_)] ?_
  refine k_T rfl ?_
  refine k_a (k_e rfl ?_)
  refine AWP.ret ?_
  refine ain_ret ?_
  refine athen_ret ?_
  refine ⟨_,T,⟨_,_,rfl,rfl,rfl⟩,less_,?_⟩
  exact ⟨rfl,rfl⟩
 ·by_cases q2:(x.fr.length:Int)≤i
  ·rw [if_pos (.inr (.inl q2))]
   refine ACall.enter (rs:=[.tmp 8]) 45 [(0,.pointer (some ⟨a,0,none⟩)),(1,.int .i64 i),(2,.int .i64 g),(3,.int .i64 n)] Tryz.func40 rfl rfl (Nat.le_of_ble_eq_true rfl) rfl ⟨rfl,rfl,rfl,rfl,trivial⟩ ?_
   refine k_a (k_e rfl (AWP.seq ?_))
   refine AWP.block ?_
   refine k_a (k_m rfl ?_)
   refine rC (Calm.bin rfl rfl (bin_bool (bin_lss _ _) (decide_eq_false q1))) ?_
   refine k_m rfl ?_
   first|refine k_q 12 ?_|refine rG 12 (Calm.move rfl) ?_
   first|refine k_q 12 ?_|refine rG 12 (Calm.move rfl) ?_
   first|refine k_q 12 ?_|refine rG 12 (Calm.nilCheck rfl) ?_
   first|refine k_q 12 ?_|refine rG 12 (Calm.fieldAddr ty_field_93_1 rfl) ?_
   first|refine k_q 12 ?_|refine rG 12 (ld_ ty_plain_26 rfl) ?_
   first|refine k_q 12 ?_|refine rG 12 (Calm.lenSl Tryz.underlying26 rfl) ?_
   first|refine k_q 12 ?_|refine rG 12 (Calm.bin rfl rfl (bin_bool (bin_geq _ _) (decide_eq_true q2))) ?_
   first|refine k_t rfl rfl ?_|refine k_f rfl rfl ?_
   refine k_m rfl ?_
   first|refine k_q 21 ?_|refine rG 21 (Calm.move rfl) ?_
   first|refine k_q 21 ?_|refine rG 21 (Calm.bin rfl rfl b_lss) ?_
   first|refine k_t rfl rfl ?_|refine k_f rfl rfl ?_
   refine k_m rfl ?_
   first|refine k_q 25 ?_|refine rG 25 (Calm.move rfl) ?_
   first|refine k_q 25 ?_|refine rG 25 (Calm.bin rfl rfl b_gtr) ?_
   first|refine k_t rfl rfl ?_|refine k_f rfl rfl ?_
   refine k_m rfl ?_
   first|refine k_q 29 ?_|refine rG 29 (Calm.move rfl) ?_
   first|refine k_q 29 ?_|refine rG 29 (Calm.move rfl) ?_
   first|refine k_q 29 ?_|refine rG 29 (Calm.bin rfl rfl b_sub_i64) ?_
   first|refine k_q 29 ?_|refine rG 29 (Calm.bin rfl rfl b_gtr) ?_
   first|refine k_t rfl rfl ?_|refine k_f rfl rfl ?_
   refine k_e rfl ?_
   refine k_u [(0,_),(1,_),(2,_),(3,_),(8,_),(9,_)] ?_
   refine k_T rfl ?_
   refine k_a (k_e rfl ?_)
   refine AWP.ret ?_
   refine ain_ret ?_
   refine athen_ret ?_
   refine ⟨_,T,⟨_,_,rfl,rfl,rfl⟩,less_,?_⟩
   exact ⟨rfl,rfl⟩
  ·by_cases q3:g<0
   ·rw [if_pos (.inr (.inr (.inl q3)))]
    refine ACall.enter (rs:=[.tmp 8]) 45 [(0,.pointer (some ⟨a,0,none⟩)),(1,.int .i64 i),(2,.int .i64 g),(3,.int .i64 n)] Tryz.func40 rfl rfl (Nat.le_of_ble_eq_true rfl) rfl ⟨rfl,rfl,rfl,rfl,trivial⟩ ?_
    refine k_a (k_e rfl (AWP.seq ?_))
    refine AWP.block ?_
    refine k_a (k_m rfl ?_)
    refine rC (Calm.bin rfl rfl (bin_bool (bin_lss _ _) (decide_eq_false q1))) ?_
    refine k_m rfl ?_
    first|refine k_q 12 ?_|refine rG 12 (Calm.move rfl) ?_
    first|refine k_q 12 ?_|refine rG 12 (Calm.move rfl) ?_
    first|refine k_q 12 ?_|refine rG 12 (Calm.nilCheck rfl) ?_
    first|refine k_q 12 ?_|refine rG 12 (Calm.fieldAddr ty_field_93_1 rfl) ?_
    first|refine k_q 12 ?_|refine rG 12 (ld_ ty_plain_26 rfl) ?_
    first|refine k_q 12 ?_|refine rG 12 (Calm.lenSl Tryz.underlying26 rfl) ?_
    first|refine k_q 12 ?_|refine rG 12 (Calm.bin rfl rfl (bin_bool (bin_geq _ _) (decide_eq_false q2))) ?_
    first|refine k_t rfl rfl ?_|refine k_f rfl rfl ?_
    refine k_m rfl ?_
    first|refine k_q 21 ?_|refine rG 21 (Calm.move rfl) ?_
    first|refine k_q 21 ?_|refine rG 21 (Calm.bin rfl rfl (bin_bool (bin_lss _ _) (decide_eq_true q3))) ?_
    first|refine k_t rfl rfl ?_|refine k_f rfl rfl ?_
    refine k_m rfl ?_
    first|refine k_q 25 ?_|refine rG 25 (Calm.move rfl) ?_
    first|refine k_q 25 ?_|refine rG 25 (Calm.bin rfl rfl b_gtr) ?_
    first|refine k_t rfl rfl ?_|refine k_f rfl rfl ?_
    refine k_m rfl ?_
    first|refine k_q 29 ?_|refine rG 29 (Calm.move rfl) ?_
    first|refine k_q 29 ?_|refine rG 29 (Calm.move rfl) ?_
    first|refine k_q 29 ?_|refine rG 29 (Calm.bin rfl rfl b_sub_i64) ?_
    first|refine k_q 29 ?_|refine rG 29 (Calm.bin rfl rfl b_gtr) ?_
    first|refine k_t rfl rfl ?_|refine k_f rfl rfl ?_
    refine k_e rfl ?_
    refine k_u [(0,_),(1,_),(2,_),(3,_),(8,_),(9,_)] ?_
    refine k_T rfl ?_
    refine k_a (k_e rfl ?_)
    refine AWP.ret ?_
    refine ain_ret ?_
    refine athen_ret ?_
    refine ⟨_,T,⟨_,_,rfl,rfl,rfl⟩,less_,?_⟩
    exact ⟨rfl,rfl⟩
   ·by_cases q4:64<g
    ·rw [if_pos (.inr (.inr (.inr (.inl q4))))]
     refine ACall.enter (rs:=[.tmp 8]) 45 [(0,.pointer (some ⟨a,0,none⟩)),(1,.int .i64 i),(2,.int .i64 g),(3,.int .i64 n)] Tryz.func40 rfl rfl (Nat.le_of_ble_eq_true rfl) rfl ⟨rfl,rfl,rfl,rfl,trivial⟩ ?_
     refine k_a (k_e rfl (AWP.seq ?_))
     refine AWP.block ?_
     refine k_a (k_m rfl ?_)
     refine rC (Calm.bin rfl rfl (bin_bool (bin_lss _ _) (decide_eq_false q1))) ?_
     refine k_m rfl ?_
     first|refine k_q 12 ?_|refine rG 12 (Calm.move rfl) ?_
     first|refine k_q 12 ?_|refine rG 12 (Calm.move rfl) ?_
     first|refine k_q 12 ?_|refine rG 12 (Calm.nilCheck rfl) ?_
     first|refine k_q 12 ?_|refine rG 12 (Calm.fieldAddr ty_field_93_1 rfl) ?_
     first|refine k_q 12 ?_|refine rG 12 (ld_ ty_plain_26 rfl) ?_
     first|refine k_q 12 ?_|refine rG 12 (Calm.lenSl Tryz.underlying26 rfl) ?_
     first|refine k_q 12 ?_|refine rG 12 (Calm.bin rfl rfl (bin_bool (bin_geq _ _) (decide_eq_false q2))) ?_
     first|refine k_t rfl rfl ?_|refine k_f rfl rfl ?_
     refine k_m rfl ?_
     first|refine k_q 21 ?_|refine rG 21 (Calm.move rfl) ?_
     first|refine k_q 21 ?_|refine rG 21 (Calm.bin rfl rfl (bin_bool (bin_lss _ _) (decide_eq_false q3))) ?_
     first|refine k_t rfl rfl ?_|refine k_f rfl rfl ?_
     refine k_m rfl ?_
     first|refine k_q 25 ?_|refine rG 25 (Calm.move rfl) ?_
     first|refine k_q 25 ?_|refine rG 25 (Calm.bin rfl rfl (bin_bool (bin_gtr _ _) (decide_eq_true q4))) ?_
     first|refine k_t rfl rfl ?_|refine k_f rfl rfl ?_
     refine k_m rfl ?_
     first|refine k_q 29 ?_|refine rG 29 (Calm.move rfl) ?_
     first|refine k_q 29 ?_|refine rG 29 (Calm.move rfl) ?_
     first|refine k_q 29 ?_|refine rG 29 (Calm.bin rfl rfl b_sub_i64) ?_
     first|refine k_q 29 ?_|refine rG 29 (Calm.bin rfl rfl b_gtr) ?_
     first|refine k_t rfl rfl ?_|refine k_f rfl rfl ?_
     refine k_e rfl ?_
     refine k_u [(0,_),(1,_),(2,_),(3,_),(8,_),(9,_)] ?_
     refine k_T rfl ?_
     refine k_a (k_e rfl ?_)
     refine AWP.ret ?_
     refine ain_ret ?_
     refine athen_ret ?_
     refine ⟨_,T,⟨_,_,rfl,rfl,rfl⟩,less_,?_⟩
     exact ⟨rfl,rfl⟩
    ·by_cases q5:64-g<n
     ·rw [if_pos (.inr (.inr (.inr (.inr q5))))]
      refine ACall.enter (rs:=[.tmp 8]) 45 [(0,.pointer (some ⟨a,0,none⟩)),(1,.int .i64 i),(2,.int .i64 g),(3,.int .i64 n)] Tryz.func40 rfl rfl (Nat.le_of_ble_eq_true rfl) rfl ⟨rfl,rfl,rfl,rfl,trivial⟩ ?_
      refine k_a (k_e rfl (AWP.seq ?_))
      refine AWP.block ?_
      refine k_a (k_m rfl ?_)
      refine rC (Calm.bin rfl rfl (bin_bool (bin_lss _ _) (decide_eq_false q1))) ?_
      refine k_m rfl ?_
      first|refine k_q 12 ?_|refine rG 12 (Calm.move rfl) ?_
      first|refine k_q 12 ?_|refine rG 12 (Calm.move rfl) ?_
      first|refine k_q 12 ?_|refine rG 12 (Calm.nilCheck rfl) ?_
      first|refine k_q 12 ?_|refine rG 12 (Calm.fieldAddr ty_field_93_1 rfl) ?_
      first|refine k_q 12 ?_|refine rG 12 (ld_ ty_plain_26 rfl) ?_
      first|refine k_q 12 ?_|refine rG 12 (Calm.lenSl Tryz.underlying26 rfl) ?_
      first|refine k_q 12 ?_|refine rG 12 (Calm.bin rfl rfl (bin_bool (bin_geq _ _) (decide_eq_false q2))) ?_
      first|refine k_t rfl rfl ?_|refine k_f rfl rfl ?_
      refine k_m rfl ?_
      first|refine k_q 21 ?_|refine rG 21 (Calm.move rfl) ?_
      first|refine k_q 21 ?_|refine rG 21 (Calm.bin rfl rfl (bin_bool (bin_lss _ _) (decide_eq_false q3))) ?_
      first|refine k_t rfl rfl ?_|refine k_f rfl rfl ?_
      refine k_m rfl ?_
      first|refine k_q 25 ?_|refine rG 25 (Calm.move rfl) ?_
      first|refine k_q 25 ?_|refine rG 25 (Calm.bin rfl rfl (bin_bool (bin_gtr _ _) (decide_eq_false q4))) ?_
      first|refine k_t rfl rfl ?_|refine k_f rfl rfl ?_
      refine k_m rfl ?_
      first|refine k_q 29 ?_|refine rG 29 (Calm.move rfl) ?_
      first|refine k_q 29 ?_|refine rG 29 (Calm.move rfl) ?_
      first|refine k_q 29 ?_|refine rG 29 (Calm.bin rfl rfl b_sub_i64) ?_
      first|refine k_q 29 ?_|refine rG 29 (Calm.bin rfl rfl (bin_bool (bin_gtr _ _) (decide_eq_true q5))) ?_
      first|refine k_t rfl rfl ?_|refine k_f rfl rfl ?_
      refine k_e rfl ?_
      refine k_u [(0,_),(1,_),(2,_),(3,_),(8,_),(9,_)] ?_
      refine k_T rfl ?_
      refine k_a (k_e rfl ?_)
      refine AWP.ret ?_
      refine ain_ret ?_
      refine athen_ret ?_
      refine ⟨_,T,⟨_,_,rfl,rfl,rfl⟩,less_,?_⟩
      exact ⟨rfl,rfl⟩
     ·rw [if_neg (fun h=>h.elim q1 (fun h=>h.elim q2 (fun h=>h.elim q3 (fun h=>h.elim q4 q5))))]
      obtain ⟨j,rfl⟩ : ∃ j:Nat,i=(j:Int):=⟨_,(Int.toNat_of_nonneg (by omega)).symm⟩
      rw [Int.toNat_natCast]
      have hj:j<x.fr.length:=by omega
      have hk:=sl_at hF j hj
      rw [← atF_eq hj] at hk
      obtain ⟨_,_,_,kp,_,_,_⟩:=kn_fr hk
      by_cases q6:(atF x j).pins=0
      ·rw [if_pos q6]
       refine ACall.enter (rs:=[.tmp 8]) 45 [(0,.pointer (some ⟨a,0,none⟩)),(1,.int .i64 (j:Nat)),(2,.int .i64 g),(3,.int .i64 n)] Tryz.func40 rfl rfl (Nat.le_of_ble_eq_true rfl) rfl ⟨rfl,rfl,rfl,rfl,trivial⟩ ?_
       refine k_a (k_e rfl (AWP.seq ?_))
       refine AWP.block ?_
       refine k_a (k_m rfl ?_)
       refine rC (Calm.bin rfl rfl (bin_bool (bin_lss _ _) (decide_eq_false q1))) ?_
       refine k_m rfl ?_
       first|refine k_q 12 ?_|refine rG 12 (Calm.move rfl) ?_
       first|refine k_q 12 ?_|refine rG 12 (Calm.move rfl) ?_
       first|refine k_q 12 ?_|refine rG 12 (Calm.nilCheck rfl) ?_
       first|refine k_q 12 ?_|refine rG 12 (Calm.fieldAddr ty_field_93_1 rfl) ?_
       first|refine k_q 12 ?_|refine rG 12 (ld_ ty_plain_26 rfl) ?_
       first|refine k_q 12 ?_|refine rG 12 (Calm.lenSl Tryz.underlying26 rfl) ?_
       first|refine k_q 12 ?_|refine rG 12 (Calm.bin rfl rfl (bin_bool (bin_geq _ _) (decide_eq_false q2))) ?_
       first|refine k_t rfl rfl ?_|refine k_f rfl rfl ?_
       refine k_m rfl ?_
       first|refine k_q 21 ?_|refine rG 21 (Calm.move rfl) ?_
       first|refine k_q 21 ?_|refine rG 21 (Calm.bin rfl rfl (bin_bool (bin_lss _ _) (decide_eq_false q3))) ?_
       first|refine k_t rfl rfl ?_|refine k_f rfl rfl ?_
       refine k_m rfl ?_
       first|refine k_q 25 ?_|refine rG 25 (Calm.move rfl) ?_
       first|refine k_q 25 ?_|refine rG 25 (Calm.bin rfl rfl (bin_bool (bin_gtr _ _) (decide_eq_false q4))) ?_
       first|refine k_t rfl rfl ?_|refine k_f rfl rfl ?_
       refine k_m rfl ?_
       first|refine k_q 29 ?_|refine rG 29 (Calm.move rfl) ?_
       first|refine k_q 29 ?_|refine rG 29 (Calm.move rfl) ?_
       first|refine k_q 29 ?_|refine rG 29 (Calm.bin rfl rfl b_sub_i64) ?_
       first|refine k_q 29 ?_|refine rG 29 (Calm.bin rfl rfl (bin_bool (bin_gtr _ _) (decide_eq_false q5))) ?_
       first|refine k_t rfl rfl ?_|refine k_f rfl rfl ?_
       refine k_e rfl ?_
       refine k_u [(0,_),(1,_),(2,_),(3,_),(8,_),(9,_)] ?_
       refine k_F rfl ?_
       refine k_a (k_m rfl ?_)
       refine rC (Calm.nilCheck rfl) ?_
       refine rC (Calm.fieldAddr ty_field_93_1 rfl) ?_
       refine rC (ld_ ty_plain_26 rfl) ?_
       refine k_m rfl ?_
       refine rC (Calm.indexS Tryz.underlying26 ty_size_62 rfl rfl (by omega) (by omega)) ?_
       refine rC (Calm.fieldAddr ty_field_62_3 rfl) ?_
       refine rC (ld_ ty_plain_3 rfl) ?_
       refine rC (Calm.bin rfl rfl (bin_bool (bin_eql _ _) (decide_eq_true q6))) ?_
       refine k_e rfl ?_
       refine k_u [(0,_),(1,_),(2,_),(3,_),(8,_),(9,_),(35,_)] ?_
       refine k_T rfl ?_
       refine k_a (k_e rfl ?_)
       refine AWP.ret ?_
       refine ain_ret ?_
       refine athen_ret ?_
       refine ⟨_,T,⟨_,_,rfl,rfl,rfl⟩,less_,?_⟩
       exact ⟨rfl,rfl⟩
      ·rw [if_neg q6]
       refine ACall.enter (rs:=[.tmp 8]) 45 [(0,.pointer (some ⟨a,0,none⟩)),(1,.int .i64 (j:Nat)),(2,.int .i64 g),(3,.int .i64 n)] Tryz.func40 rfl rfl (Nat.le_of_ble_eq_true rfl) rfl ⟨rfl,rfl,rfl,rfl,trivial⟩ ?_
       refine k_a (k_e rfl (AWP.seq ?_))
       refine AWP.block ?_
       refine k_a (k_m rfl ?_)
       refine rC (Calm.bin rfl rfl (bin_bool (bin_lss _ _) (decide_eq_false q1))) ?_
       refine k_m rfl ?_
       first|refine k_q 12 ?_|refine rG 12 (Calm.move rfl) ?_
       first|refine k_q 12 ?_|refine rG 12 (Calm.move rfl) ?_
       first|refine k_q 12 ?_|refine rG 12 (Calm.nilCheck rfl) ?_
       first|refine k_q 12 ?_|refine rG 12 (Calm.fieldAddr ty_field_93_1 rfl) ?_
       first|refine k_q 12 ?_|refine rG 12 (ld_ ty_plain_26 rfl) ?_
       first|refine k_q 12 ?_|refine rG 12 (Calm.lenSl Tryz.underlying26 rfl) ?_
       first|refine k_q 12 ?_|refine rG 12 (Calm.bin rfl rfl (bin_bool (bin_geq _ _) (decide_eq_false q2))) ?_
       first|refine k_t rfl rfl ?_|refine k_f rfl rfl ?_
       refine k_m rfl ?_
       first|refine k_q 21 ?_|refine rG 21 (Calm.move rfl) ?_
       first|refine k_q 21 ?_|refine rG 21 (Calm.bin rfl rfl (bin_bool (bin_lss _ _) (decide_eq_false q3))) ?_
       first|refine k_t rfl rfl ?_|refine k_f rfl rfl ?_
       refine k_m rfl ?_
       first|refine k_q 25 ?_|refine rG 25 (Calm.move rfl) ?_
       first|refine k_q 25 ?_|refine rG 25 (Calm.bin rfl rfl (bin_bool (bin_gtr _ _) (decide_eq_false q4))) ?_
       first|refine k_t rfl rfl ?_|refine k_f rfl rfl ?_
       refine k_m rfl ?_
       first|refine k_q 29 ?_|refine rG 29 (Calm.move rfl) ?_
       first|refine k_q 29 ?_|refine rG 29 (Calm.move rfl) ?_
       first|refine k_q 29 ?_|refine rG 29 (Calm.bin rfl rfl b_sub_i64) ?_
       first|refine k_q 29 ?_|refine rG 29 (Calm.bin rfl rfl (bin_bool (bin_gtr _ _) (decide_eq_false q5))) ?_
       first|refine k_t rfl rfl ?_|refine k_f rfl rfl ?_
       refine k_e rfl ?_
       refine k_u [(0,_),(1,_),(2,_),(3,_),(8,_),(9,_)] ?_
       refine k_F rfl ?_
       refine k_a (k_m rfl ?_)
       refine rC (Calm.nilCheck rfl) ?_
       refine rC (Calm.fieldAddr ty_field_93_1 rfl) ?_
       refine rC (ld_ ty_plain_26 rfl) ?_
       refine k_m rfl ?_
       refine rC (Calm.indexS Tryz.underlying26 ty_size_62 rfl rfl (by omega) (by omega)) ?_
       refine rC (Calm.fieldAddr ty_field_62_3 rfl) ?_
       refine rC (ld_ ty_plain_3 rfl) ?_
       refine rC (Calm.bin rfl rfl (bin_bool (bin_eql _ _) (decide_eq_false q6))) ?_
       refine k_e rfl ?_
       refine k_u [(0,_),(1,_),(2,_),(3,_),(8,_),(9,_),(35,_)] ?_
       refine k_F rfl ?_
       refine AWP.skip ?_
       refine ain_n ?_
       refine athen_n ?_
       refine k_a (k_e rfl ?_)
       refine AWP.ret ?_
       refine ⟨_,T,⟨_,_,rfl,rfl,rfl⟩,less_,?_⟩
       exact ⟨rfl,rfl⟩
theorem pl_LookA (a p b c : Nat) (x : Pl) (j : Nat) (k : Int) (T : Mem) (hA : T.own a = some (arB p b c x k)) (hF : Sl 7 frF T (.slice (some ⟨b, 0, none⟩) x.fr.length c) x.fr) (hj : j < x.fr.length) :
  ACall Tryz.prog 41 #[.pointer (some ⟨a,0,none⟩),.int .i64 (j:Nat)] T fun r S'=>r = .string (atF x j).data∧S'=T:=by
 have hk:=sl_at hF j hj
 rw [← atF_eq hj] at hk
 obtain ⟨_,_,kp,_,_,_,_⟩:=kn_fr hk
 unfold arB at hA
 refine ACall.enter (rs:=[.tmp 4]) 13 [(0,.pointer (some ⟨a,0,none⟩)),(1,.int .i64 (j:Nat))] Tryz.func41 rfl rfl (Nat.le_of_ble_eq_true rfl) rfl ⟨rfl,rfl,trivial⟩ ?_
 refine k_a (k_e rfl (k_a (k_m rfl ?_)))
 refine rC (Calm.nilCheck rfl) ?_
 refine rC (Calm.fieldAddr ty_field_93_1 rfl) ?_
 refine rC (ld_ ty_plain_26 rfl) ?_
 refine k_m rfl ?_
 refine rC (Calm.indexS Tryz.underlying26 ty_size_62 rfl rfl (by omega) (by omega)) ?_
 refine rC (Calm.fieldAddr ty_field_62_2 rfl) ?_
 refine rC (ld_ ty_plain_9 rfl) ?_
 refine k_e rfl ?_
 refine k_u [(0,_),(1,_),(4,_)] ?_
 refine AWP.ret ?_
 refine ⟨_,T,⟨_,_,rfl,rfl,rfl⟩,less_,?_⟩
 exact ⟨rfl,rfl⟩
end Go.Proofs.YtkeiphkccnfhoaaGreat
namespace Go.Proofs.YtkeiphkccnfhoaaGreat
open Go.RowKit
open Mv Disk
set_option maxRecDepth 4000
theorem rd_Named (s : ByteArray) (S : Mem) : ACall Tryz.prog 80 #[.string s] S fun r S' => r = .bool (decide (nm s)) ∧ S' = S := by
 by_cases h0:s.size=0
 ·have e:s=ByteArray.empty:=(size0 s).2 h0
  refine ACall.enter (rs:=[.tmp 2]) 10 [(0,.string s)] Tryz.func80 rfl rfl (Nat.le_of_ble_eq_true rfl) rfl ⟨rfl,trivial⟩ ?_
  refine k_a (k_e rfl (k_a (k_m rfl ?_)))
  refine rC (Calm.bin rfl rfl (bin_bool (bin_str_neq _ _) (bnot_dec_false e))) ?_
  refine k_m rfl ?_
  first|refine k_q 5 ?_|refine rG 5 (Calm.move rfl) ?_
  first|refine k_q 5 ?_|refine rG 5 (Calm.lenStr (strT_spec ty_str_9) rfl) ?_
  first|refine k_q 5 ?_|refine rG 5 (Calm.bin rfl rfl b_leq) ?_
  first|refine k_t rfl rfl ?_|refine k_f rfl rfl ?_
  refine k_e rfl ?_
  refine k_u [(0,_),(2,_)] ?_
  refine AWP.ret ?_
  refine ⟨_,S,⟨_,_,rfl,rfl,rfl⟩,less_,?_⟩
  exact ⟨congrArg Value.bool (decide_eq_false (fun h=>h.1 h0)).symm,rfl⟩
 ·have e : ¬ s=ByteArray.empty:=fun h=>h0 ((size0 s).1 h)
  refine ACall.enter (rs:=[.tmp 2]) 10 [(0,.string s)] Tryz.func80 rfl rfl (Nat.le_of_ble_eq_true rfl) rfl ⟨rfl,trivial⟩ ?_
  refine k_a (k_e rfl (k_a (k_m rfl ?_)))
  refine rC (Calm.bin rfl rfl (bin_bool (bin_str_neq _ _) (bnot_dec_true e))) ?_
  refine k_m rfl ?_
  first|refine k_q 5 ?_|refine rG 5 (Calm.move rfl) ?_
  first|refine k_q 5 ?_|refine rG 5 (Calm.lenStr (strT_spec ty_str_9) rfl) ?_
  first|refine k_q 5 ?_|refine rG 5 (Calm.bin rfl rfl b_leq) ?_
  first|refine k_t rfl rfl ?_|refine k_f rfl rfl ?_
  refine k_e rfl ?_
  refine k_u [(0,_),(2,_)] ?_
  refine AWP.ret ?_
  refine ⟨_,S,⟨_,_,rfl,rfl,rfl⟩,less_,?_⟩
  exact ⟨congrArg Value.bool (decide_eq_decide.2 (by unfold nm;omega)),rfl⟩
theorem rd_Find (v : Value) (l : List Ext) (s : ByteArray) (S : Mem) (hl : Sl 2 extF S v l) (ha : Asc l) :
  ACall Tryz.prog 71 #[v,.string s] S fun r S'=>r = .int .i64 (fnd l s)∧S'=S:=by
 obtain ⟨a,cap,rfl,h1,h2,h3⟩:=id hl
 refine ACall.enter (rs:=[.tmp 4]) 20 [(0,.slice a l.length cap),(1,.string s)] Tryz.func71 rfl rfl (Nat.le_of_ble_eq_true rfl) rfl ⟨rfl,rfl,trivial⟩ ?_
 refine k_a (k_e rfl (AWP.seq (k_a (k_m rfl ?_))))
 refine rC (Calm.lenSl Tryz.underlying22 rfl) ?_
 refine k_m rfl (k_n ?_)
 refine AWP.block ?_
 refine AWP.loop (X:=Nat) (fun x=>[(1,.string s),(7,.slice a l.length cap),(8,.int .i64 l.length),(9,.int .i64 x)]) (fun x=>S) (fun x=>x≤l.length ∧ ∀ j (h:j<l.length),j<x→l[j].1≠s) (fun x=>l.length-x) (0) ⟨rfl,rfl,rfl,rfl,trivial⟩ (Mem.Less.refl _) (⟨Nat.zero_le _,fun j _ h=>absurd h (Nat.not_lt_zero _)⟩) ?_
 rintro i ⟨hi,hall⟩
 (try dsimp only at *)
 refine k_a ?_
 refine rC (Calm.bin rfl rfl b_lss) ?_
 refine k_n (AWP.seq ?_)
 refine AWP.condB rfl (fun hc=>?_) (fun hc=>?_)
 ·have hc:i<l.length:=by have:=of_decide_eq_true hc;omega
  obtain ⟨b,off,rfl,hk⟩:=h3.resolve_left (fun e=>by subst e;simp at hc)
  have hki:=hk i hc
  unfold extF at hki
  refine k_k (AWP.seq ?_)
  refine AWP.block ?_
  refine k_a (k_m rfl ?_)
  refine rC (Calm.indexS Tryz.underlying22 ty_size_101 rfl rfl (by omega) (by omega)) ?_
  refine rC (ldA_ (cs:=[_,_]) ty_agg_101 ty_size_101 rfl) ?_
  refine ARun.alloc (lit_lt rfl) ty_zero_101 ?_
  intro b6 f6
  have g6:=f6
  repeat ((with_reducible replace g6:=fresh_set g6);obtain ⟨g6,_⟩:=g6)
  try simp only [k_l1,k_l0,k_za,Nat.reduceAdd]
  refine k_s rfl ?_
  first|refine k_A rfl rfl ty_size_101 ?_|refine k_B rfl rfl ty_size_101 ?_
  try simp only [k_ms,k_sz,k_ss,k_za,Nat.reduceAdd]
  refine k_n ?_
  refine k_u [(1,_),(7,_),(8,_),(9,_),(10,_),(6,_),(5,_)] ?_
  refine k_a ?_
  refine rC (Calm.fieldAddr ty_field_101_0 rfl) ?_
  refine rC (ld_ ty_plain_9 rfl) ?_
  refine k_m rfl ?_
  refine rC (Calm.bin rfl rfl (bin_str_eql _ _)) ?_
  refine k_n ?_
  refine k_u [(1,_),(7,_),(8,_),(9,_),(10,_),(6,_),(5,_),(17,_)] ?_
  refine AWP.condB rfl (fun hb=>?_) (fun hb=>?_)
  ·refine k_a (k_m rfl (k_e rfl ?_))
   refine k_u [(1,_),(7,_),(8,_),(9,_),(10,_),(6,_),(5,_),(17,_),(4,_)] ?_
   refine AWP.ret ?_
   refine ain_ret ?_
   refine athen_ret ?_
   refine athen_ret ?_
   refine ain_ret ?_
   refine athen_ret ?_
   refine ⟨_,S,⟨_,_,rfl,rfl,rfl⟩,less_,?_⟩
   exact ⟨by rw [fnd_at ha hc (of_decide_eq_true hb)];rfl,rfl⟩
  ·refine AWP.skip ?_
   refine ain_n ?_
   refine athen_n ?_
   refine AWP.region ?_
   refine rC (Calm.bin rfl rfl b_add_i64) ?_
   refine k_m rfl (k_n ?_)
   refine ⟨i+1,?_,?_,?_,?_⟩
   all_goals (try dsimp only)
   ·exact ⟨rfl,rfl,rfl,rfl,trivial⟩
   ·exact less_
   ·exact ⟨hc,fun j h hj=>by rcases Nat.lt_or_ge j i with h' | h';exact hall j h h';obtain rfl:j=i:=(by omega);exact of_decide_eq_false hb⟩
   ·omega
 ·have hc:i=l.length:=by have:=of_decide_eq_false hc;omega
  refine AWP.exit ?_
  refine athen_exit ?_
  refine athen_exit ?_
  refine ain_same ?_
  refine athen_n ?_
  refine k_a (k_e rfl ?_)
  refine AWP.ret ?_
  refine ⟨_,S,⟨_,_,rfl,rfl,rfl⟩,less_,?_⟩
  exact ⟨by rw [fnd_none (fun j h=>hall j h (by omega))];rfl,rfl⟩
theorem rd_used (v : Value) (l : List Ext) (S : Mem) (hl : Sl 2 extF S v l) (hu : used l ≤ 9223372036854775807) (hz : ∀ x ∈ l, x.2.size ≤ 9223372036854775807) :
  ACall Tryz.prog 81 #[v] S fun r S'=>r = .int .i64 (used l:Nat)∧S'=S:=by
 obtain ⟨a,cap,rfl,h1,h2,h3⟩:=id hl
 refine ACall.enter (rs:=[.tmp 2]) 20 [(0,.slice a l.length cap)] Tryz.func81 rfl rfl (Nat.le_of_ble_eq_true rfl) rfl ⟨rfl,trivial⟩ ?_
 refine k_a (k_e rfl (k_a (k_e rfl (AWP.seq ?_))))
 refine k_a (k_m rfl ?_)
 refine rC (Calm.lenSl Tryz.underlying22 rfl) ?_
 refine k_m rfl (k_n ?_)
 refine AWP.block ?_
 refine AWP.loop (X:=Nat) (fun x=>[(3,.int .i64 (used (l.take x):Nat)),(6,.slice a l.length cap),(7,.int .i64 l.length),(8,.int .i64 x)]) (fun x=>S) (fun x=>x≤l.length) (fun x=>l.length-x) (0) ⟨some_int (by simp [used]),rfl,rfl,rfl,trivial⟩ (Mem.Less.refl _) (Nat.zero_le _) ?_
 rintro i hi
 (try dsimp only at *)
 refine k_a ?_
 refine rC (Calm.bin rfl rfl b_lss) ?_
 refine k_n (AWP.seq ?_)
 refine AWP.condB rfl (fun hc=>?_) (fun hc=>?_)
 ·have hc:i<l.length:=by have:=of_decide_eq_true hc;omega
  obtain ⟨b,off,rfl,hk⟩:=h3.resolve_left (fun e=>by subst e;simp at hc)
  have hki:=hk i hc
  have hut:=used_take hc
  have hul:=used_take_le l (i+1)
  have hsx:=hz _ (List.getElem_mem hc)
  generalize l[i]=x at *
  unfold extF at hki
  unfold sec at hut
  refine k_k (AWP.seq ?_)
  refine AWP.block ?_
  refine k_a ?_
  refine rC (Calm.indexS Tryz.underlying22 ty_size_101 rfl rfl (by omega) (by omega)) ?_
  refine rC (ldA_ (cs:=[_,_]) ty_agg_101 ty_size_101 rfl) ?_
  refine ARun.alloc (lit_lt rfl) ty_zero_101 ?_
  intro b5 f5
  have g5:=f5
  repeat ((with_reducible replace g5:=fresh_set g5);obtain ⟨g5,_⟩:=g5)
  try simp only [k_l1,k_l0,k_za,Nat.reduceAdd]
  first|refine k_A rfl rfl ty_size_101 ?_|refine k_B rfl rfl ty_size_101 ?_
  try simp only [k_ms,k_sz,k_ss,k_za,Nat.reduceAdd]
  refine k_n ?_
  refine k_u [(3,_),(6,_),(7,_),(8,_),(9,_),(5,_)] ?_
  refine AWP.region ?_
  refine k_m rfl ?_
  refine rC (Calm.fieldAddr ty_field_101_1 rfl) ?_
  refine rC (ld_ ty_plain_9 rfl) ?_
  refine rC (Calm.lenStr (strT_spec ty_str_9) rfl) ?_
  refine rC (Calm.bin rfl rfl b_quo_i64) ?_
  refine rC (Calm.bin rfl rfl b_add_i64) ?_
  refine k_s rfl ?_
  refine arun_nil ?_
  refine ain_n ?_
  refine athen_n ?_
  refine k_u [(3,_),(6,_),(7,_),(8,_),(9,_),(5,_)] ?_
  refine AWP.region ?_
  refine rC (Calm.bin rfl rfl b_add_i64) ?_
  refine k_m rfl (k_n ?_)
  refine ⟨i+1,?_,?_,?_,?_⟩
  all_goals (try dsimp only)
  ·exact ⟨some_int (by omega),rfl,rfl,rfl,trivial⟩
  ·exact less_
  ·exact hc
  ·omega
 ·have hc:i=l.length:=by have:=of_decide_eq_false hc;omega
  subst hc
  rw [List.take_length]
  refine AWP.exit ?_
  refine athen_exit ?_
  refine athen_exit ?_
  refine ain_same ?_
  refine athen_n ?_
  refine k_a (k_m rfl (k_e rfl ?_))
  refine k_u [(3,_),(6,_),(7,_),(8,_),(9,_),(2,_)] ?_
  refine AWP.ret ?_
  refine ⟨_,S,⟨_,_,rfl,rfl,rfl⟩,less_,?_⟩
  exact ⟨rfl,rfl⟩
end Go.Proofs.YtkeiphkccnfhoaaGreat
namespace Go.Proofs.YtkeiphkccnfhoaaGreat
open Go.RowKit
open Mv Disk
set_option maxRecDepth 4000
theorem copy_ok {S : Mem} {d : D} {oE oW : Option (Nat × Nat)} {b1 b2 : Nat} {B1 B2 B1' B1'' B2' : Blk} (f1 : Fresh S b1) (f2 : Fresh (S.set b1 B1) b2) (hE : OkO ((S.set b1 B1).set b2 B2) oE d.ext.length)
  (hW:OkO ((outN 2 ((S.set b1 B1).set b2 B2) oE extT (d.ext.flatMap extF)).set b1 B1') oW d.waits.length) :
  OkD S d oE oW∧(dkM S d oE oW).Less (((outN 3 ((outN 2 ((S.set b1 B1).set b2 B2) oE extT (d.ext.flatMap extF)).set b1 B1') oW wrT (d.waits.flatMap wrF)).set b1 B1'').set b2 B2'):=by
 obtain ⟨f2',n21⟩:=fresh_set f2
 have hW':=hW.unset
 have s1:S.own b1=none:=f1.1
 have s2:S.own b2=none:=f2'.1
 have nE:∀ q c,oE=some (q,c)→b1≠q∧b2≠q∧Fresh S q:=fun q c e=>by
  obtain ⟨g,hne⟩:=fresh_set (hE.own q c e).1
  obtain ⟨g',hne'⟩:=fresh_set g
  exact ⟨Ne.symm hne',Ne.symm hne,g'⟩
 have nW:∀ q c,oW=some (q,c)→b1≠q∧b2≠q∧Fresh S q ∧ ∀ q' c',oE=some (q',c')→q≠q':=fun q c e=>by
  obtain ⟨g,hne⟩:=fresh_set (hW.own q c e).1
  obtain ⟨g',hne'⟩:=fresh_outN g
  obtain ⟨g2,hne2⟩:=fresh_set g'
  obtain ⟨g3,hne3⟩:=fresh_set g2
  exact ⟨Ne.symm hne,Ne.symm hne2,g3,hne'⟩
 refine ⟨⟨⟨hE.nil,fun q c e=>⟨(nE q c e).2.2,(hE.own q c e).2⟩⟩,⟨hW.nil,fun q c e=>⟨?_,(hW.own q c e).2⟩⟩⟩,?_⟩
 ·obtain ⟨_,_,g,hq⟩:=nW q c e
  cases oE with
  | none=>exact g
  | some z=>exact fresh_more g (hq _ _ rfl)
 ·unfold dkM
  refine ⟨fun k r hk=>?_,by cases oE <;> cases oW <;> rfl⟩
  have hk1:k≠b1:=by
   rintro rfl
   cases oE with
   | none =>
    cases oW with
    | none=>simp only [outN] at hk;rw [s1] at hk;cases hk
    | some z=>simp only [outN] at hk;rw [Mem.own_set_other _ _ (nW _ _ rfl).1,s1] at hk;cases hk
   | some y =>
    cases oW with
    | none=>simp only [outN] at hk;rw [Mem.own_set_other _ _ (nE _ _ rfl).1,s1] at hk;cases hk
    | some z=>simp only [outN] at hk;rw [Mem.own_set_other _ _ (nW _ _ rfl).1,Mem.own_set_other _ _ (nE _ _ rfl).1,s1] at hk;cases hk
  have hk2:k≠b2:=by
   rintro rfl
   cases oE with
   | none =>
    cases oW with
    | none=>simp only [outN] at hk;rw [s2] at hk;cases hk
    | some z=>simp only [outN] at hk;rw [Mem.own_set_other _ _ (nW _ _ rfl).2.1,s2] at hk;cases hk
   | some y =>
    cases oW with
    | none=>simp only [outN] at hk;rw [Mem.own_set_other _ _ (nE _ _ rfl).2.1,s2] at hk;cases hk
    | some z=>simp only [outN] at hk;rw [Mem.own_set_other _ _ (nW _ _ rfl).2.1,Mem.own_set_other _ _ (nE _ _ rfl).2.1,s2] at hk;cases hk
  rw [Mem.own_set_other _ _ hk2,Mem.own_set_other _ _ hk1]
  cases oE with
  | none =>
   cases oW with
   | none =>
    simp only [outN] at hk ⊢
    rw [Mem.own_set_other _ _ hk1,Mem.own_set_other _ _ hk2,Mem.own_set_other _ _ hk1];exact hk
   | some z =>
    simp only [outN] at hk ⊢
    by_cases e:k=z.1
    ·subst e;rw [Mem.own_set_same] at hk ⊢;exact hk
    ·rw [Mem.own_set_other _ _ e] at hk ⊢;rw [Mem.own_set_other _ _ hk1,Mem.own_set_other _ _ hk2,Mem.own_set_other _ _ hk1];exact hk
  | some y =>
   have hset:((((S.set b1 B1).set b2 B2).set y.1 ⟨extT,d.ext.flatMap extF,y.2*2⟩).set b1 B1').own k=(S.set y.1 ⟨extT,d.ext.flatMap extF,y.2*2⟩).own k:=by
    rw [Mem.own_set_other _ _ hk1]
    by_cases e:k=y.1
    ·subst e;rw [Mem.own_set_same,Mem.own_set_same]
    ·rw [Mem.own_set_other _ _ e,Mem.own_set_other _ _ e,Mem.own_set_other _ _ hk2,Mem.own_set_other _ _ hk1]
   cases oW with
   | none=>simp only [outN] at hk ⊢;rw [hset];exact hk
   | some z =>
    simp only [outN] at hk ⊢
    by_cases e:k=z.1
    ·subst e;rw [Mem.own_set_same] at hk ⊢;exact hk
    ·rw [Mem.own_set_other _ _ e] at hk ⊢;rw [hset];exact hk
/-- A disk that is another's copy, its slices its own. -/
def CopyR (d : D) (S : Mem) (r : Value) (S' : Mem) : Prop := ∃ oE oW, OkD S d oE oW ∧ r = dkV d oE oW ∧ S' = dkM S d oE oW
set_option maxHeartbeats 1000000 in
theorem rd_Copy (v : Value) (d : D) (S : Mem) (hd : DkR S v d) (hz1 : d.ext.length ≤ 4398046511104) (hz2 : d.waits.length ≤ 3518437208883) :
  ACall Tryz.prog 29 #[v] S (CopyR d S):=by
 obtain ⟨pe,ce,pw,cw,rfl,hE,hW⟩:=hd
 refine ACall.enter (rs:=[.cell 2 25]) 14 [(0,.agg #[.int .i64 d.size,.slice pe d.ext.length ce,.slice pw d.waits.length cw,.int .i64 d.fuse,.bool d.down])] Tryz.func29 rfl rfl (Nat.le_of_ble_eq_true rfl) rfl ⟨rfl,trivial⟩ ?_
 refine k_a ?_
 refine k_b5 rfl ?_
 intro b1 f1
 have g1:=f1
 repeat ((with_reducible replace g1:=fresh_set g1);obtain ⟨g1,_⟩:=g1)
 try simp only [k_l1,k_l0,k_za,Nat.reduceAdd]
 refine ARun.alloc (lit_lt rfl) ty_zero_25 ?_
 intro b2 f2
 have g2:=f2
 repeat ((with_reducible replace g2:=fresh_set g2);obtain ⟨g2,_⟩:=g2)
 try simp only [k_l1,k_l0,k_za,Nat.reduceAdd]
 refine k_n (k_a ?_)
 refine ARun.build0 (lit_lt rfl) ty_sl_22 ?_
 intro b3 f3
 have g3:=f3
 repeat ((with_reducible replace g3:=fresh_set g3);obtain ⟨g3,_⟩:=g3)
 refine rC (Calm.fieldAddr ty_field_25_1 rfl) ?_
 refine rC (ld_ ty_plain_22 rfl) ?_
 refine ARun.appendOK (n:=2) (o:=some (b3,0)) (k:=0) (m:=d.ext.length) (cs:=[]) (lit_lt rfl) ty_sl_22 rfl rfl rfl (okO_own f3 (Nat.le_refl _)) (appN_self (okO_own f3 (Nat.le_refl 0)) rfl) rfl ((hE.less less_).src ext_len) (flat_length ext_len d.ext) (ext_one d.ext) (by omega) (by omega) ?_
 intro oE hoE
 rw [Nat.zero_add] at hoE ⊢
 have n12:b1≠b2:=Ne.symm (fresh_set f2).2
 obtain ⟨M,hM⟩ : ∃ M,outN 2 ((S.set b1 ⟨25,[.int .i64 d.size,.slice pe d.ext.length ce,.slice pw d.waits.length cw,.int .i64 d.fuse,.bool d.down],5⟩).set b2 ⟨25,[.int .i64 0,.slice none 0 0,.slice none 0 0,.int .i64 0,.bool false],5⟩) oE extT (d.ext.flatMap extF)=M:=⟨_,rfl⟩
 have kM1:M.own b1=some ⟨25,[.int .i64 d.size,.slice pe d.ext.length ce,.slice pw d.waits.length cw,.int .i64 d.fuse,.bool d.down],5⟩:=by rw [← hM];exact (outN_over hoE).1 _ _ ((Mem.own_set_other _ _ n12).trans (Mem.own_set_same _ _ _))
 have kM2:M.own b2=some ⟨25,[.int .i64 0,.slice none 0 0,.slice none 0 0,.int .i64 0,.bool false],5⟩:=by rw [← hM];exact (outN_over hoE).1 _ _ (Mem.own_set_same _ _ _)
 have hSM:S.Less M:=by rw [← hM];exact ((Mem.less_set _ _ _ f1.1).trans (Mem.less_set _ _ _ f2.1)).trans (outN_over hoE)
 obtain ⟨qe,de,hqe⟩:=outV_eq hoE
 rw [List.nil_append,hM,hqe]
 refine rC (Calm.fieldAddr ty_field_25_1 rfl) ?_
 refine ARun.store1 rfl rfl ty_size_22 rfl own_ lens_ rfl ?_
 try simp only [k_ms,k_sz,k_ss,k_za,Nat.reduceAdd]
 refine k_n ?_
 refine k_u [(0,_),(1,_),(2,_)] ?_
 have hSM1:∀ r,S.Less (M.set b1 r):=fun r=>less_of (LessB.skip (.inr f1.1) (LessB.of hSM))
 refine k_a ?_
 refine ARun.build0 (lit_lt rfl) ty_sl_23 ?_
 intro b8 f8
 have g8:=f8
 repeat ((with_reducible replace g8:=fresh_set g8);obtain ⟨g8,_⟩:=g8)
 refine rC (Calm.fieldAddr ty_field_25_2 rfl) ?_
 refine rC (ld_ ty_plain_23 rfl) ?_
 refine ARun.appendOK (n:=3) (o:=some (b8,0)) (k:=0) (m:=d.waits.length) (cs:=[]) (lit_lt rfl) ty_sl_23 rfl rfl rfl (okO_own f8 (Nat.le_refl _)) (appN_self (okO_own f8 (Nat.le_refl 0)) rfl) rfl (((hW.less (hSM1 _)).less less_).src wr_len) (flat_length wr_len d.waits) (wr_one d.waits) (by omega) (by omega) ?_
 intro oW hoW
 rw [Nat.zero_add] at hoW ⊢
 obtain ⟨M2,hM2⟩ : ∃ M2,outN 3 (M.set b1 ⟨25,[.int .i64 d.size,.slice qe d.ext.length de,.slice pw d.waits.length cw,.int .i64 d.fuse,.bool d.down],5⟩) oW wrT (d.waits.flatMap wrF)=M2:=⟨_,rfl⟩
 have k21:M2.own b1=some ⟨25,[.int .i64 d.size,.slice qe d.ext.length de,.slice pw d.waits.length cw,.int .i64 d.fuse,.bool d.down],5⟩:=by rw [← hM2];exact (outN_over hoW).1 _ _ (Mem.own_set_same _ _ _)
 have k22:M2.own b2=some ⟨25,[.int .i64 0,.slice none 0 0,.slice none 0 0,.int .i64 0,.bool false],5⟩:=by rw [← hM2];exact (outN_over hoW).1 _ _ ((Mem.own_set_other _ _ (Ne.symm n12)).trans kM2)
 obtain ⟨qw,dw,hqw⟩:=outV_eq hoW
 rw [List.nil_append,hM2,hqw]
 rw [← hM] at hoW hM2
 have hcopy:=fun B1'' B2'=>copy_ok (B1'':=B1'') (B2':=B2') f1 f2 hoE hoW
 rw [hM2] at hcopy
 refine rC (Calm.fieldAddr ty_field_25_2 rfl) ?_
 refine ARun.store1 rfl rfl ty_size_23 rfl own_ lens_ rfl ?_
 try simp only [k_ms,k_sz,k_ss,k_za,Nat.reduceAdd]
 refine k_n ?_
 refine k_u [(0,_),(1,_),(2,_)] ?_
 refine k_a ?_
 refine k_5 ty_agg_25 ty_size_25 rfl ?_
 first|refine k_A rfl rfl ty_size_25 ?_|refine k_B rfl rfl ty_size_25 ?_
 try simp only [k_ms,k_sz,k_ss,k_za,Nat.reduceAdd]
 refine k_n ?_
 refine k_u [(0,_),(1,_),(2,_)] ?_
 refine AWP.ret ?_
 refine ⟨_,dkM S d oE oW,⟨_,_,_,rfl,.inr ⟨ty_agg_25,[_,_,_,_,_],ty_size_25,rds_,rfl⟩,rfl,rfl⟩,(hcopy _ _).2,?_⟩
 exact ⟨oE,oW,(hcopy ⟨25,[.int .i64 0,.slice none 0 0,.slice none 0 0,.int .i64 0,.bool false],5⟩ ⟨25,[.int .i64 0,.slice none 0 0,.slice none 0 0,.int .i64 0,.bool false],5⟩).1,by unfold dkV;rw [hqe,hqw];rfl,rfl⟩
end Go.Proofs.YtkeiphkccnfhoaaGreat
namespace Go.Proofs.YtkeiphkccnfhoaaGreat
open Go.RowKit
open Mv Disk
set_option maxRecDepth 4000
theorem sl_take {α : Type} {n : Nat} {f : α → List Value} {S : Mem} {a : Option Addr} {cap : Nat} {l : List α} (h : Sl n f S (.slice a l.length cap) l) {k : Nat} (hk : k ≤ l.length) : Sl n f S (.slice a k cap) (l.take k) := by
 obtain ⟨a',cap',e,h1,h2,h3⟩:=h
 cases e
 have hl:(l.take k).length=k:=by simp;omega
 refine ⟨a,cap,by rw [hl],by omega,by omega,?_⟩
 rcases h3 with rfl | ⟨b,off,e,hh⟩
 ·exact .inl (by simp)
 ·exact .inr ⟨b,off,e,fun j hj=>by
   rw [List.getElem_take]
   exact hh j (by omega)⟩
set_option maxHeartbeats 4000000 in
theorem rd_Check (v : Value) (d : D) (S : Mem) (hd : DkR S v d) (hz : Dz d) :
  ACall Tryz.prog 53 #[v] S fun r S'=>r = .int .i64 (chkD d)∧S'=S:=by
 obtain ⟨pe,ce,pw,cw,rfl,hE,hW⟩:=hd
 obtain ⟨size,ext,waits,fuse,down⟩:=d
 have hez:=fun x hx=>(hz.ez x hx).2
 have hs0:=hz.s0;have hs1:=hz.s1;have hf0:=hz.f0;have hf1:=hz.f1
 simp only at hE hW hez hs0 hs1 hf0 hf1 ⊢
 obtain ⟨_,_,ee1,ee2,ee3,hE3⟩:=id hE
 obtain ⟨_,_,ew1,ew2,ew3,hW3⟩:=id hW
 cases ee1;cases ew1
 refine ACall.enter (rs:=[.tmp 2]) 122 [(0,.agg #[.int .i64 size,.slice pe ext.length ce,.slice pw waits.length cw,.int .i64 fuse,.bool down])] Tryz.func53 rfl rfl (Nat.le_of_ble_eq_true rfl) rfl ⟨rfl,trivial⟩ ?_
 refine k_a ?_
 refine k_b5 rfl ?_
 intro b1 f1
 have g1:=f1
 repeat ((with_reducible replace g1:=fresh_set g1);obtain ⟨g1,_⟩:=g1)
 try simp only [k_l1,k_l0,k_za,Nat.reduceAdd]
 refine k_e rfl ?_
 refine named (S:=S) (b:=b1) g1.1 ?_
 intro T1 hT1 kb1
 replace hE:=hE.less hT1
 replace hW:=hW.less hT1
 by_cases q1:size<0
 ·refine AWP.seq (k_a ?_)
  refine rC (Calm.fieldAddr ty_field_25_0 rfl) ?_
  refine rC (ld_ ty_plain_3 rfl) ?_
  refine rC (Calm.bin rfl rfl b_lss) ?_
  refine k_m rfl ?_
  first|refine k_q 11 ?_|refine rG 11 (Calm.fieldAddr ty_field_25_0 rfl) ?_
  first|refine k_q 11 ?_|refine rG 11 (ld_ ty_plain_3 rfl) ?_
  first|refine k_q 11 ?_|refine rG 11 (Calm.bin rfl rfl b_gtr) ?_
  first|refine k_t rfl rfl ?_|refine k_f rfl rfl ?_
  refine k_m rfl ?_
  first|refine k_q 16 ?_|refine rG 16 (Calm.fieldAddr ty_field_25_1 rfl) ?_
  first|refine k_q 16 ?_|refine rG 16 (ld_ ty_plain_22 rfl) ?_
  first|refine k_q 16 ?_|refine rG 16 (Calm.lenSl Tryz.underlying22 rfl) ?_
  first|refine k_q 16 ?_|refine rG 16 (Calm.bin rfl rfl b_gtr) ?_
  first|refine k_t rfl rfl ?_|refine k_f rfl rfl ?_
  refine k_m rfl ?_
  first|refine k_q 22 ?_|refine rG 22 (Calm.fieldAddr ty_field_25_2 rfl) ?_
  first|refine k_q 22 ?_|refine rG 22 (ld_ ty_plain_23 rfl) ?_
  first|refine k_q 22 ?_|refine rG 22 (Calm.lenSl Tryz.underlying23 rfl) ?_
  first|refine k_q 22 ?_|refine rG 22 (Calm.bin rfl rfl b_gtr) ?_
  first|refine k_t rfl rfl ?_|refine k_f rfl rfl ?_
  refine k_m rfl ?_
  first|refine k_q 28 ?_|refine rG 28 (Calm.fieldAddr ty_field_25_3 rfl) ?_
  first|refine k_q 28 ?_|refine rG 28 (ld_ ty_plain_3 rfl) ?_
  first|refine k_q 28 ?_|refine rG 28 (Calm.bin rfl rfl b_lss) ?_
  first|refine k_t rfl rfl ?_|refine k_f rfl rfl ?_
  refine k_n ?_
  refine k_u [(0,_),(1,_),(2,_),(32,_)] ?_
  refine k_T rfl ?_
  refine k_a (k_e rfl ?_)
  refine k_r ?_
  refine ⟨_,S,⟨_,_,rfl,rfl,rfl⟩,hT1.trans less_,?_⟩
  exact ⟨by rw [chkD_no (fun h=>absurd h.s0 (by simp only;omega))];rfl,rfl⟩
 ·by_cases q2:16384<size
  ·refine AWP.seq (k_a ?_)
   refine rC (Calm.fieldAddr ty_field_25_0 rfl) ?_
   refine rC (ld_ ty_plain_3 rfl) ?_
   refine rC (Calm.bin rfl rfl b_lss) ?_
   refine k_m rfl ?_
   first|refine k_q 11 ?_|refine rG 11 (Calm.fieldAddr ty_field_25_0 rfl) ?_
   first|refine k_q 11 ?_|refine rG 11 (ld_ ty_plain_3 rfl) ?_
   first|refine k_q 11 ?_|refine rG 11 (Calm.bin rfl rfl b_gtr) ?_
   first|refine k_t rfl rfl ?_|refine k_f rfl rfl ?_
   refine k_m rfl ?_
   first|refine k_q 16 ?_|refine rG 16 (Calm.fieldAddr ty_field_25_1 rfl) ?_
   first|refine k_q 16 ?_|refine rG 16 (ld_ ty_plain_22 rfl) ?_
   first|refine k_q 16 ?_|refine rG 16 (Calm.lenSl Tryz.underlying22 rfl) ?_
   first|refine k_q 16 ?_|refine rG 16 (Calm.bin rfl rfl b_gtr) ?_
   first|refine k_t rfl rfl ?_|refine k_f rfl rfl ?_
   refine k_m rfl ?_
   first|refine k_q 22 ?_|refine rG 22 (Calm.fieldAddr ty_field_25_2 rfl) ?_
   first|refine k_q 22 ?_|refine rG 22 (ld_ ty_plain_23 rfl) ?_
   first|refine k_q 22 ?_|refine rG 22 (Calm.lenSl Tryz.underlying23 rfl) ?_
   first|refine k_q 22 ?_|refine rG 22 (Calm.bin rfl rfl b_gtr) ?_
   first|refine k_t rfl rfl ?_|refine k_f rfl rfl ?_
   refine k_m rfl ?_
   first|refine k_q 28 ?_|refine rG 28 (Calm.fieldAddr ty_field_25_3 rfl) ?_
   first|refine k_q 28 ?_|refine rG 28 (ld_ ty_plain_3 rfl) ?_
   first|refine k_q 28 ?_|refine rG 28 (Calm.bin rfl rfl b_lss) ?_
   first|refine k_t rfl rfl ?_|refine k_f rfl rfl ?_
   refine k_n ?_
   refine k_u [(0,_),(1,_),(2,_),(32,_)] ?_
   refine k_T rfl ?_
   refine k_a (k_e rfl ?_)
   refine k_r ?_
   refine ⟨_,S,⟨_,_,rfl,rfl,rfl⟩,hT1.trans less_,?_⟩
   exact ⟨by rw [chkD_no (fun h=>absurd h.s1 (by simp only;omega))];rfl,rfl⟩
  ·by_cases q20:16384<ext.length
   ·refine AWP.seq (k_a ?_)
    refine rC (Calm.fieldAddr ty_field_25_0 rfl) ?_
    refine rC (ld_ ty_plain_3 rfl) ?_
    refine rC (Calm.bin rfl rfl b_lss) ?_
    refine k_m rfl ?_
    first|refine k_q 11 ?_|refine rG 11 (Calm.fieldAddr ty_field_25_0 rfl) ?_
    first|refine k_q 11 ?_|refine rG 11 (ld_ ty_plain_3 rfl) ?_
    first|refine k_q 11 ?_|refine rG 11 (Calm.bin rfl rfl b_gtr) ?_
    first|refine k_t rfl rfl ?_|refine k_f rfl rfl ?_
    refine k_m rfl ?_
    first|refine k_q 16 ?_|refine rG 16 (Calm.fieldAddr ty_field_25_1 rfl) ?_
    first|refine k_q 16 ?_|refine rG 16 (ld_ ty_plain_22 rfl) ?_
    first|refine k_q 16 ?_|refine rG 16 (Calm.lenSl Tryz.underlying22 rfl) ?_
    first|refine k_q 16 ?_|refine rG 16 (Calm.bin rfl rfl b_gtr) ?_
    first|refine k_t rfl rfl ?_|refine k_f rfl rfl ?_
    refine k_m rfl ?_
    first|refine k_q 22 ?_|refine rG 22 (Calm.fieldAddr ty_field_25_2 rfl) ?_
    first|refine k_q 22 ?_|refine rG 22 (ld_ ty_plain_23 rfl) ?_
    first|refine k_q 22 ?_|refine rG 22 (Calm.lenSl Tryz.underlying23 rfl) ?_
    first|refine k_q 22 ?_|refine rG 22 (Calm.bin rfl rfl b_gtr) ?_
    first|refine k_t rfl rfl ?_|refine k_f rfl rfl ?_
    refine k_m rfl ?_
    first|refine k_q 28 ?_|refine rG 28 (Calm.fieldAddr ty_field_25_3 rfl) ?_
    first|refine k_q 28 ?_|refine rG 28 (ld_ ty_plain_3 rfl) ?_
    first|refine k_q 28 ?_|refine rG 28 (Calm.bin rfl rfl b_lss) ?_
    first|refine k_t rfl rfl ?_|refine k_f rfl rfl ?_
    refine k_n ?_
    refine k_u [(0,_),(1,_),(2,_),(32,_)] ?_
    refine k_T rfl ?_
    refine k_a (k_e rfl ?_)
    refine k_r ?_
    refine ⟨_,S,⟨_,_,rfl,rfl,rfl⟩,hT1.trans less_,?_⟩
    exact ⟨by rw [chkD_no (fun h=>by have h1:=used_ge h.ex.ok;have h2:=h.ex.us;simp only at h1 h2;omega)];rfl,rfl⟩
   ·by_cases q3:16384<waits.length
    ·refine AWP.seq (k_a ?_)
     refine rC (Calm.fieldAddr ty_field_25_0 rfl) ?_
     refine rC (ld_ ty_plain_3 rfl) ?_
     refine rC (Calm.bin rfl rfl b_lss) ?_
     refine k_m rfl ?_
     first|refine k_q 11 ?_|refine rG 11 (Calm.fieldAddr ty_field_25_0 rfl) ?_
     first|refine k_q 11 ?_|refine rG 11 (ld_ ty_plain_3 rfl) ?_
     first|refine k_q 11 ?_|refine rG 11 (Calm.bin rfl rfl b_gtr) ?_
     first|refine k_t rfl rfl ?_|refine k_f rfl rfl ?_
     refine k_m rfl ?_
     first|refine k_q 16 ?_|refine rG 16 (Calm.fieldAddr ty_field_25_1 rfl) ?_
     first|refine k_q 16 ?_|refine rG 16 (ld_ ty_plain_22 rfl) ?_
     first|refine k_q 16 ?_|refine rG 16 (Calm.lenSl Tryz.underlying22 rfl) ?_
     first|refine k_q 16 ?_|refine rG 16 (Calm.bin rfl rfl b_gtr) ?_
     first|refine k_t rfl rfl ?_|refine k_f rfl rfl ?_
     refine k_m rfl ?_
     first|refine k_q 22 ?_|refine rG 22 (Calm.fieldAddr ty_field_25_2 rfl) ?_
     first|refine k_q 22 ?_|refine rG 22 (ld_ ty_plain_23 rfl) ?_
     first|refine k_q 22 ?_|refine rG 22 (Calm.lenSl Tryz.underlying23 rfl) ?_
     first|refine k_q 22 ?_|refine rG 22 (Calm.bin rfl rfl b_gtr) ?_
     first|refine k_t rfl rfl ?_|refine k_f rfl rfl ?_
     refine k_m rfl ?_
     first|refine k_q 28 ?_|refine rG 28 (Calm.fieldAddr ty_field_25_3 rfl) ?_
     first|refine k_q 28 ?_|refine rG 28 (ld_ ty_plain_3 rfl) ?_
     first|refine k_q 28 ?_|refine rG 28 (Calm.bin rfl rfl b_lss) ?_
     first|refine k_t rfl rfl ?_|refine k_f rfl rfl ?_
     refine k_n ?_
     refine k_u [(0,_),(1,_),(2,_),(32,_)] ?_
     refine k_T rfl ?_
     refine k_a (k_e rfl ?_)
     refine k_r ?_
     refine ⟨_,S,⟨_,_,rfl,rfl,rfl⟩,hT1.trans less_,?_⟩
     exact ⟨by rw [chkD_no (fun h=>absurd h.wl (by simp only;omega))];rfl,rfl⟩
    ·by_cases q4:fuse < -1
     ·refine AWP.seq (k_a ?_)
      refine rC (Calm.fieldAddr ty_field_25_0 rfl) ?_
      refine rC (ld_ ty_plain_3 rfl) ?_
      refine rC (Calm.bin rfl rfl b_lss) ?_
      refine k_m rfl ?_
      first|refine k_q 11 ?_|refine rG 11 (Calm.fieldAddr ty_field_25_0 rfl) ?_
      first|refine k_q 11 ?_|refine rG 11 (ld_ ty_plain_3 rfl) ?_
      first|refine k_q 11 ?_|refine rG 11 (Calm.bin rfl rfl b_gtr) ?_
      first|refine k_t rfl rfl ?_|refine k_f rfl rfl ?_
      refine k_m rfl ?_
      first|refine k_q 16 ?_|refine rG 16 (Calm.fieldAddr ty_field_25_1 rfl) ?_
      first|refine k_q 16 ?_|refine rG 16 (ld_ ty_plain_22 rfl) ?_
      first|refine k_q 16 ?_|refine rG 16 (Calm.lenSl Tryz.underlying22 rfl) ?_
      first|refine k_q 16 ?_|refine rG 16 (Calm.bin rfl rfl b_gtr) ?_
      first|refine k_t rfl rfl ?_|refine k_f rfl rfl ?_
      refine k_m rfl ?_
      first|refine k_q 22 ?_|refine rG 22 (Calm.fieldAddr ty_field_25_2 rfl) ?_
      first|refine k_q 22 ?_|refine rG 22 (ld_ ty_plain_23 rfl) ?_
      first|refine k_q 22 ?_|refine rG 22 (Calm.lenSl Tryz.underlying23 rfl) ?_
      first|refine k_q 22 ?_|refine rG 22 (Calm.bin rfl rfl b_gtr) ?_
      first|refine k_t rfl rfl ?_|refine k_f rfl rfl ?_
      refine k_m rfl ?_
      first|refine k_q 28 ?_|refine rG 28 (Calm.fieldAddr ty_field_25_3 rfl) ?_
      first|refine k_q 28 ?_|refine rG 28 (ld_ ty_plain_3 rfl) ?_
      first|refine k_q 28 ?_|refine rG 28 (Calm.bin rfl rfl b_lss) ?_
      first|refine k_t rfl rfl ?_|refine k_f rfl rfl ?_
      refine k_n ?_
      refine k_u [(0,_),(1,_),(2,_),(32,_)] ?_
      refine k_T rfl ?_
      refine k_a (k_e rfl ?_)
      refine k_r ?_
      refine ⟨_,S,⟨_,_,rfl,rfl,rfl⟩,hT1.trans less_,?_⟩
      exact ⟨by rw [chkD_no (fun h=>absurd h.fu (by simp only;omega))];rfl,rfl⟩
     ·refine AWP.seq (k_a ?_)
      refine rC (Calm.fieldAddr ty_field_25_0 rfl) ?_
      refine rC (ld_ ty_plain_3 rfl) ?_
      refine rC (Calm.bin rfl rfl b_lss) ?_
      refine k_m rfl ?_
      first|refine k_q 11 ?_|refine rG 11 (Calm.fieldAddr ty_field_25_0 rfl) ?_
      first|refine k_q 11 ?_|refine rG 11 (ld_ ty_plain_3 rfl) ?_
      first|refine k_q 11 ?_|refine rG 11 (Calm.bin rfl rfl b_gtr) ?_
      first|refine k_t rfl rfl ?_|refine k_f rfl rfl ?_
      refine k_m rfl ?_
      first|refine k_q 16 ?_|refine rG 16 (Calm.fieldAddr ty_field_25_1 rfl) ?_
      first|refine k_q 16 ?_|refine rG 16 (ld_ ty_plain_22 rfl) ?_
      first|refine k_q 16 ?_|refine rG 16 (Calm.lenSl Tryz.underlying22 rfl) ?_
      first|refine k_q 16 ?_|refine rG 16 (Calm.bin rfl rfl b_gtr) ?_
      first|refine k_t rfl rfl ?_|refine k_f rfl rfl ?_
      refine k_m rfl ?_
      first|refine k_q 22 ?_|refine rG 22 (Calm.fieldAddr ty_field_25_2 rfl) ?_
      first|refine k_q 22 ?_|refine rG 22 (ld_ ty_plain_23 rfl) ?_
      first|refine k_q 22 ?_|refine rG 22 (Calm.lenSl Tryz.underlying23 rfl) ?_
      first|refine k_q 22 ?_|refine rG 22 (Calm.bin rfl rfl b_gtr) ?_
      first|refine k_t rfl rfl ?_|refine k_f rfl rfl ?_
      refine k_m rfl ?_
      first|refine k_q 28 ?_|refine rG 28 (Calm.fieldAddr ty_field_25_3 rfl) ?_
      first|refine k_q 28 ?_|refine rG 28 (ld_ ty_plain_3 rfl) ?_
      first|refine k_q 28 ?_|refine rG 28 (Calm.bin rfl rfl b_lss) ?_
      first|refine k_t rfl rfl ?_|refine k_f rfl rfl ?_
      refine k_n ?_
      refine k_u [(0,_),(1,_),(2,_),(32,_)] ?_
      refine k_F rfl ?_
      refine k_k (AWP.seq (k_a ?_))
      refine rC (Calm.fieldAddr ty_field_25_1 rfl) ?_
      refine rC (ld_ ty_plain_22 rfl) ?_
      refine rC (Calm.lenSl Tryz.underlying22 rfl) ?_
      refine k_m rfl (k_n ?_)
      refine k_u [(0,_),(1,_),(2,_),(32,_),(34,_),(35,_),(36,_)] ?_
      refine AWP.block ?_
      refine AWP.loop (X:=Nat) (fun x=>[(1,.pointer (some ⟨b1,0,none⟩)),(34,.slice pe ext.length ce),(35,.int .i64 ext.length),(36,.int .i64 x)]) (fun x=>T1) (fun x=>x≤ext.length∧Upto ext size x) (fun x=>ext.length-x) (0) ⟨rfl,rfl,rfl,rfl,trivial⟩ (Mem.Less.refl _) (⟨Nat.zero_le _,upto_zero ext (by omega)⟩) ?_
      rintro i ⟨hi,hup⟩
      (try dsimp only at *)
      refine k_a ?_
      refine rC (Calm.bin rfl rfl b_lss) ?_
      refine k_n (AWP.seq ?_)
      refine AWP.condB rfl (fun hc=>?_) (fun hc=>?_)
      ·have hc:i<ext.length:=by have:=of_decide_eq_true hc;omega
       obtain ⟨b,off,rfl,hk⟩:=hE3.resolve_left (fun e=>by subst e;simp at hc)
       have hki:=(hk i hc).less hT1
       have hzi:=hez _ (List.getElem_mem hc)
       have hus:=hup.us
       have hra:Right ⟨size,ext,waits,fuse,down⟩→eok ext[i]∧lt (lastN ext i) ext[i].1=true∧(used (ext.take i):Int)+sec ext[i]≤size:=fun h=>right_at h.ex hc
       have hut:used (ext.take (i+1))=used (ext.take i)+sec ext[i]:=by rw [take_get hc,used_append];simp [used]
       have hln:=lastN_succ hc
       have hsu:=upto_succ hup hc
       have hslt:=sl_take hE (k:=i+1) hc
       unfold extF at hki
       by_cases q5:nm ext[i].1
       ·rcases Nat.eq_zero_or_pos i with q0 | q0
        ·have q6:lt (lastN ext i) ext[i].1=true:=by subst q0;exact lt_empty q5.1
         by_cases q7:ext[i].2.size=0
         ·refine k_k (AWP.seq ?_)
          refine AWP.block ?_
          refine k_a (k_m rfl ?_)
          refine rC (Calm.indexS Tryz.underlying22 ty_size_101 rfl rfl (by omega) (by omega)) ?_
          refine rC (ldA_ (cs:=[_,_]) ty_agg_101 ty_size_101 rfl) ?_
          refine ARun.alloc (lit_lt rfl) ty_zero_101 ?_
          intro b4 f4
          have g4:=f4
          repeat ((with_reducible replace g4:=fresh_set g4);obtain ⟨g4,_⟩:=g4)
          have:=g4.ne kb1;have:=g4.ne' kb1
          try simp only [k_l1,k_l0,k_za,Nat.reduceAdd]
          refine k_s rfl ?_
          first|refine k_A rfl rfl ty_size_101 ?_|refine k_B rfl rfl ty_size_101 ?_
          try simp only [k_ms,k_sz,k_ss,k_za,Nat.reduceAdd]
          refine k_n ?_
          refine k_u [(1,_),(34,_),(35,_),(36,_),(37,_),(4,_),(3,_)] ?_
          refine AWP.seq (AWP.seq ?_)
          refine AWP.draw [(0,true),(1,true),(2,false),(3,true),(4,true),(5,true),(6,true),(7,true),(8,true),(9,true),(10,true),(11,true),(12,true),(13,true),(14,true),(15,true),(16,true),(17,true),(18,true),(19,true),(20,true),(21,true),(22,true),(23,true),(24,true),(25,true),(26,true),(27,true),(28,true),(29,true),(30,true),(31,true)] [] mixed (by kernel_rfl) ?_
          refine dP (hc:=fun _=>Calm.fieldAddr ty_field_101_0 rfl) (h:=?_)
          refine dC (hc:=ld_ ty_plain_9 rfl) (h:=?_)
          refine draw_only rfl ?_
          refine ARun.call (lit_lt rfl) go_80 rfl (rd_Named _ _) ?_
          rintro _ S1 ⟨rfl,h1⟩
          rw [h1,decide_eq_true q5];clear h1 S1
          refine arun_nil ⟨fun _=>less_,?_⟩
          refine dP (hc:=fun _=>Calm.un rfl (una_not _)) (h:=?_)
          refine dP (hc:=fun _=>Calm.move rfl) (h:=?_)
          first|refine k_d ?_|refine dG (hc:=fun _=>Calm.move rfl) (h:=?_)
          first|refine k_d ?_|refine dG (hc:=fun _=>Calm.bin rfl rfl b_gtr) (h:=?_)
          first|refine k_d ?_|refine dG (hc:=fun _=>Calm.move rfl) (h:=?_)
          first|refine k_d ?_|refine dG (hc:=fun _=>Calm.fieldAddr ty_field_25_1 rfl) (h:=?_)
          first|refine k_d ?_|refine dL (hc:=ld_ ty_plain_22 rfl) (h:=?_)
          first|refine k_d ?_|refine dG (hc:=fun _=>Calm.move rfl) (h:=?_)
          first|refine k_d ?_|refine dG (hc:=fun _=>Calm.bin rfl rfl b_sub_i64) (h:=?_)
          first|refine k_d ?_|refine dG (hc:=fun _=>Calm.indexS Tryz.underlying22 ty_size_101 rfl rfl (by omega) (by omega)) (h:=?_)
          first|refine k_d ?_|refine dG (hc:=fun _=>Calm.fieldAddr ty_field_101_0 rfl) (h:=?_)
          first|refine k_d ?_|refine dL (hc:=ld_ ty_plain_9 rfl) (h:=?_)
          first|refine k_d ?_|refine dG (hc:=fun _=>Calm.fieldAddr ty_field_101_0 rfl) (h:=?_)
          first|refine k_d ?_|refine dL (hc:=ld_ ty_plain_9 rfl) (h:=?_)
          first|refine k_d ?_|refine dG (hc:=fun _=>Calm.bin rfl rfl (bin_str_geq _ _)) (h:=?_)
          first|refine k_d ?_|refine dG (hc:=fun _=>(by first | exact Calm.pickT rfl rfl | exact Calm.pickF rfl rfl)) (h:=?_)
          refine dP (hc:=fun _=>(by first | exact Calm.pickT rfl rfl | exact Calm.pickF rfl rfl)) (h:=?_)
          refine dP (hc:=fun _=>Calm.move rfl) (h:=?_)
          first|refine k_d ?_|refine dG (hc:=fun _=>Calm.fieldAddr ty_field_101_1 rfl) (h:=?_)
          first|refine k_d ?_|refine dL (hc:=ld_ ty_plain_9 rfl) (h:=?_)
          first|refine k_d ?_|refine dG (hc:=fun _=>Calm.bin rfl rfl (bin_bool (bin_str_eql _ _) (decide_eq_true ((size0 _).2 q7)))) (h:=?_)
          refine dP (hc:=fun _=>(by first | exact Calm.pickT rfl rfl | exact Calm.pickF rfl rfl)) (h:=?_)
          refine dP (hc:=fun _=>Calm.move rfl) (h:=?_)
          first|refine k_d ?_|refine dG (hc:=fun _=>Calm.fieldAddr ty_field_101_1 rfl) (h:=?_)
          first|refine k_d ?_|refine dL (hc:=ld_ ty_plain_9 rfl) (h:=?_)
          first|refine k_d ?_|refine dL (hc:=Calm.lenStr (strT_spec ty_str_9) rfl) (h:=?_)
          first|refine k_d ?_|refine dG (hc:=fun _=>Calm.bin rfl rfl b_rem) (h:=?_)
          first|refine k_d ?_|refine dG (hc:=fun _=>Calm.bin rfl rfl b_neq) (h:=?_)
          refine dP (hc:=fun _=>(by first | exact Calm.pickT rfl rfl | exact Calm.pickF rfl rfl)) (h:=?_)
          refine draw_nil ?_
          refine athen_n ?_
          refine k_u [(1,_),(34,_),(35,_),(36,_),(37,_),(4,_),(3,_),(72,_)] ?_
          refine k_T rfl ?_
          refine k_a (k_e rfl ?_)
          refine k_r ?_
          refine ain_ret ?_
          refine athen_ret ?_
          refine athen_ret ?_
          refine ain_ret ?_
          refine athen_ret ?_
          refine ⟨_,S,⟨_,_,rfl,rfl,rfl⟩,hT1.trans less_,?_⟩
          exact ⟨by rw [chkD_no (fun h=>(hra h).1.2.1 q7)];rfl,rfl⟩
         ·by_cases q8:ext[i].2.size % 64=0
          ·refine k_k (AWP.seq ?_)
           refine AWP.block ?_
           refine k_a (k_m rfl ?_)
           refine rC (Calm.indexS Tryz.underlying22 ty_size_101 rfl rfl (by omega) (by omega)) ?_
           refine rC (ldA_ (cs:=[_,_]) ty_agg_101 ty_size_101 rfl) ?_
           refine ARun.alloc (lit_lt rfl) ty_zero_101 ?_
           intro b4 f4
           have g4:=f4
           repeat ((with_reducible replace g4:=fresh_set g4);obtain ⟨g4,_⟩:=g4)
           have:=g4.ne kb1;have:=g4.ne' kb1
           try simp only [k_l1,k_l0,k_za,Nat.reduceAdd]
           refine k_s rfl ?_
           first|refine k_A rfl rfl ty_size_101 ?_|refine k_B rfl rfl ty_size_101 ?_
           try simp only [k_ms,k_sz,k_ss,k_za,Nat.reduceAdd]
           refine k_n ?_
           refine k_u [(1,_),(34,_),(35,_),(36,_),(37,_),(4,_),(3,_)] ?_
           refine AWP.seq (AWP.seq ?_)
           refine AWP.draw [(0,true),(1,true),(2,false),(3,true),(4,true),(5,true),(6,true),(7,true),(8,true),(9,true),(10,true),(11,true),(12,true),(13,true),(14,true),(15,true),(16,true),(17,true),(18,true),(19,true),(20,true),(21,true),(22,true),(23,true),(24,true),(25,true),(26,true),(27,true),(28,true),(29,true),(30,true),(31,true)] [] mixed (by kernel_rfl) ?_
           refine dP (hc:=fun _=>Calm.fieldAddr ty_field_101_0 rfl) (h:=?_)
           refine dC (hc:=ld_ ty_plain_9 rfl) (h:=?_)
           refine draw_only rfl ?_
           refine ARun.call (lit_lt rfl) go_80 rfl (rd_Named _ _) ?_
           rintro _ S1 ⟨rfl,h1⟩
           rw [h1,decide_eq_true q5];clear h1 S1
           refine arun_nil ⟨fun _=>less_,?_⟩
           refine dP (hc:=fun _=>Calm.un rfl (una_not _)) (h:=?_)
           refine dP (hc:=fun _=>Calm.move rfl) (h:=?_)
           first|refine k_d ?_|refine dG (hc:=fun _=>Calm.move rfl) (h:=?_)
           first|refine k_d ?_|refine dG (hc:=fun _=>Calm.bin rfl rfl b_gtr) (h:=?_)
           first|refine k_d ?_|refine dG (hc:=fun _=>Calm.move rfl) (h:=?_)
           first|refine k_d ?_|refine dG (hc:=fun _=>Calm.fieldAddr ty_field_25_1 rfl) (h:=?_)
           first|refine k_d ?_|refine dL (hc:=ld_ ty_plain_22 rfl) (h:=?_)
           first|refine k_d ?_|refine dG (hc:=fun _=>Calm.move rfl) (h:=?_)
           first|refine k_d ?_|refine dG (hc:=fun _=>Calm.bin rfl rfl b_sub_i64) (h:=?_)
           first|refine k_d ?_|refine dG (hc:=fun _=>Calm.indexS Tryz.underlying22 ty_size_101 rfl rfl (by omega) (by omega)) (h:=?_)
           first|refine k_d ?_|refine dG (hc:=fun _=>Calm.fieldAddr ty_field_101_0 rfl) (h:=?_)
           first|refine k_d ?_|refine dL (hc:=ld_ ty_plain_9 rfl) (h:=?_)
           first|refine k_d ?_|refine dG (hc:=fun _=>Calm.fieldAddr ty_field_101_0 rfl) (h:=?_)
           first|refine k_d ?_|refine dL (hc:=ld_ ty_plain_9 rfl) (h:=?_)
           first|refine k_d ?_|refine dG (hc:=fun _=>Calm.bin rfl rfl (bin_str_geq _ _)) (h:=?_)
           first|refine k_d ?_|refine dG (hc:=fun _=>(by first | exact Calm.pickT rfl rfl | exact Calm.pickF rfl rfl)) (h:=?_)
           refine dP (hc:=fun _=>(by first | exact Calm.pickT rfl rfl | exact Calm.pickF rfl rfl)) (h:=?_)
           refine dP (hc:=fun _=>Calm.move rfl) (h:=?_)
           first|refine k_d ?_|refine dG (hc:=fun _=>Calm.fieldAddr ty_field_101_1 rfl) (h:=?_)
           first|refine k_d ?_|refine dL (hc:=ld_ ty_plain_9 rfl) (h:=?_)
           first|refine k_d ?_|refine dG (hc:=fun _=>Calm.bin rfl rfl (bin_bool (bin_str_eql _ _) (decide_eq_false (fun e=>q7 ((size0 _).1 e))))) (h:=?_)
           refine dP (hc:=fun _=>(by first | exact Calm.pickT rfl rfl | exact Calm.pickF rfl rfl)) (h:=?_)
           refine dP (hc:=fun _=>Calm.move rfl) (h:=?_)
           first|refine k_d ?_|refine dG (hc:=fun _=>Calm.fieldAddr ty_field_101_1 rfl) (h:=?_)
           first|refine k_d ?_|refine dL (hc:=ld_ ty_plain_9 rfl) (h:=?_)
           first|refine k_d ?_|refine dL (hc:=Calm.lenStr (strT_spec ty_str_9) rfl) (h:=?_)
           first|refine k_d ?_|refine dG (hc:=fun _=>Calm.bin rfl rfl b_rem) (h:=?_)
           first|refine k_d ?_|refine dG (hc:=fun _=>Calm.bin rfl rfl b_neq) (h:=?_)
           refine dP (hc:=fun _=>(by first | exact Calm.pickT rfl rfl | exact Calm.pickF rfl rfl)) (h:=?_)
           refine draw_nil ?_
           refine athen_n ?_
           refine k_u [(1,_),(34,_),(35,_),(36,_),(37,_),(4,_),(3,_),(72,_)] ?_
           refine k_F rfl ?_
           have hsx:sec ext[i]≤140737488351232:=by unfold sec;omega
           refine k_k (AWP.seq ?_)
           refine AWP.draw [(0,true),(1,true),(2,true),(3,true),(4,true),(6,true),(7,true),(5,false),(8,true)] [] mixed (by kernel_rfl) ?_
           refine dP (hc:=fun _=>Calm.fieldAddr ty_field_25_1 rfl) (h:=?_)
           refine dC (hc:=ld_ ty_plain_22 rfl) (h:=?_)
           refine dP (hc:=fun _=>Calm.move rfl) (h:=?_)
           refine dP (hc:=fun _=>Calm.bin rfl rfl b_add_i64) (h:=?_)
           refine dP (hc:=fun _=>(by first | exact Calm.sliceHead Tryz.underlying22 ty_size_101 rfl (bnd_none _ _) (fun _=>rfl) (bnd_some _ _ rfl (by omega) (by omega)) | exact Calm.sliceNil Tryz.underlying22 ty_size_101 rfl (bnd_none _ _) (by simp) (bnd_zero _ _ rfl) (bnd_none _ _))) (h:=?_)
           refine dP (hc:=fun _=>Calm.fieldAddr ty_field_25_0 rfl) (h:=?_)
           refine dC (hc:=ld_ ty_plain_3 rfl) (h:=?_)
           refine draw_only rfl ?_
           refine ARun.call (lit_lt rfl) go_81 rfl (rd_used _ (ext.take (i+1)) _ (hslt.less less_) (by omega) (fun x hx=>by have:=hez x (List.mem_of_mem_take hx);omega)) ?_
           rintro _ S1 ⟨rfl,h1⟩
           rw [h1];clear h1 S1
           refine arun_nil ⟨fun _=>less_,?_⟩
           refine dP (hc:=fun _=>Calm.bin rfl rfl b_gtr) (h:=?_)
           refine draw_nil ?_
           refine athen_n ?_
           refine k_u [(1,_),(34,_),(35,_),(36,_),(37,_),(4,_),(3,_),(72,_),(81,_)] ?_
           refine AWP.condB rfl (fun q9=>?_) (fun q9=>?_)
           ·refine k_a (k_e rfl ?_)
            refine AWP.ret ?_
            refine ain_ret ?_
            refine athen_ret ?_
            refine athen_ret ?_
            refine ain_ret ?_
            refine athen_ret ?_
            refine ⟨_,S,⟨_,_,rfl,rfl,rfl⟩,hT1.trans less_,?_⟩
            exact ⟨by rw [chkD_no (fun h=>absurd (hra h).2.2 (by have:=of_decide_eq_true q9;omega))];rfl,rfl⟩
           ·have q9:=of_decide_eq_false q9
            refine AWP.skip ?_
            refine ain_n ?_
            refine athen_n ?_
            refine AWP.region ?_
            refine rC (Calm.bin rfl rfl b_add_i64) ?_
            refine k_m rfl (k_n ?_)
            refine ⟨i+1,?_,?_,?_,?_⟩
            all_goals (try dsimp only)
            ·exact ⟨rfl,rfl,rfl,rfl,trivial⟩
            ·exact less_
            ·exact ⟨hc,hsu ⟨q5,q7,q8⟩ q6 (by omega)⟩
            ·omega
          ·refine k_k (AWP.seq ?_)
           refine AWP.block ?_
           refine k_a (k_m rfl ?_)
           refine rC (Calm.indexS Tryz.underlying22 ty_size_101 rfl rfl (by omega) (by omega)) ?_
           refine rC (ldA_ (cs:=[_,_]) ty_agg_101 ty_size_101 rfl) ?_
           refine ARun.alloc (lit_lt rfl) ty_zero_101 ?_
           intro b4 f4
           have g4:=f4
           repeat ((with_reducible replace g4:=fresh_set g4);obtain ⟨g4,_⟩:=g4)
           have:=g4.ne kb1;have:=g4.ne' kb1
           try simp only [k_l1,k_l0,k_za,Nat.reduceAdd]
           refine k_s rfl ?_
           first|refine k_A rfl rfl ty_size_101 ?_|refine k_B rfl rfl ty_size_101 ?_
           try simp only [k_ms,k_sz,k_ss,k_za,Nat.reduceAdd]
           refine k_n ?_
           refine k_u [(1,_),(34,_),(35,_),(36,_),(37,_),(4,_),(3,_)] ?_
           refine AWP.seq (AWP.seq ?_)
           refine AWP.draw [(0,true),(1,true),(2,false),(3,true),(4,true),(5,true),(6,true),(7,true),(8,true),(9,true),(10,true),(11,true),(12,true),(13,true),(14,true),(15,true),(16,true),(17,true),(18,true),(19,true),(20,true),(21,true),(22,true),(23,true),(24,true),(25,true),(26,true),(27,true),(28,true),(29,true),(30,true),(31,true)] [] mixed (by kernel_rfl) ?_
           refine dP (hc:=fun _=>Calm.fieldAddr ty_field_101_0 rfl) (h:=?_)
           refine dC (hc:=ld_ ty_plain_9 rfl) (h:=?_)
           refine draw_only rfl ?_
           refine ARun.call (lit_lt rfl) go_80 rfl (rd_Named _ _) ?_
           rintro _ S1 ⟨rfl,h1⟩
           rw [h1,decide_eq_true q5];clear h1 S1
           refine arun_nil ⟨fun _=>less_,?_⟩
           refine dP (hc:=fun _=>Calm.un rfl (una_not _)) (h:=?_)
           refine dP (hc:=fun _=>Calm.move rfl) (h:=?_)
           first|refine k_d ?_|refine dG (hc:=fun _=>Calm.move rfl) (h:=?_)
           first|refine k_d ?_|refine dG (hc:=fun _=>Calm.bin rfl rfl b_gtr) (h:=?_)
           first|refine k_d ?_|refine dG (hc:=fun _=>Calm.move rfl) (h:=?_)
           first|refine k_d ?_|refine dG (hc:=fun _=>Calm.fieldAddr ty_field_25_1 rfl) (h:=?_)
           first|refine k_d ?_|refine dL (hc:=ld_ ty_plain_22 rfl) (h:=?_)
           first|refine k_d ?_|refine dG (hc:=fun _=>Calm.move rfl) (h:=?_)
           first|refine k_d ?_|refine dG (hc:=fun _=>Calm.bin rfl rfl b_sub_i64) (h:=?_)
           first|refine k_d ?_|refine dG (hc:=fun _=>Calm.indexS Tryz.underlying22 ty_size_101 rfl rfl (by omega) (by omega)) (h:=?_)
           first|refine k_d ?_|refine dG (hc:=fun _=>Calm.fieldAddr ty_field_101_0 rfl) (h:=?_)
           first|refine k_d ?_|refine dL (hc:=ld_ ty_plain_9 rfl) (h:=?_)
           first|refine k_d ?_|refine dG (hc:=fun _=>Calm.fieldAddr ty_field_101_0 rfl) (h:=?_)
           first|refine k_d ?_|refine dL (hc:=ld_ ty_plain_9 rfl) (h:=?_)
           first|refine k_d ?_|refine dG (hc:=fun _=>Calm.bin rfl rfl (bin_str_geq _ _)) (h:=?_)
           first|refine k_d ?_|refine dG (hc:=fun _=>(by first | exact Calm.pickT rfl rfl | exact Calm.pickF rfl rfl)) (h:=?_)
           refine dP (hc:=fun _=>(by first | exact Calm.pickT rfl rfl | exact Calm.pickF rfl rfl)) (h:=?_)
           refine dP (hc:=fun _=>Calm.move rfl) (h:=?_)
           first|refine k_d ?_|refine dG (hc:=fun _=>Calm.fieldAddr ty_field_101_1 rfl) (h:=?_)
           first|refine k_d ?_|refine dL (hc:=ld_ ty_plain_9 rfl) (h:=?_)
           first|refine k_d ?_|refine dG (hc:=fun _=>Calm.bin rfl rfl (bin_bool (bin_str_eql _ _) (decide_eq_false (fun e=>q7 ((size0 _).1 e))))) (h:=?_)
           refine dP (hc:=fun _=>(by first | exact Calm.pickT rfl rfl | exact Calm.pickF rfl rfl)) (h:=?_)
           refine dP (hc:=fun _=>Calm.move rfl) (h:=?_)
           first|refine k_d ?_|refine dG (hc:=fun _=>Calm.fieldAddr ty_field_101_1 rfl) (h:=?_)
           first|refine k_d ?_|refine dL (hc:=ld_ ty_plain_9 rfl) (h:=?_)
           first|refine k_d ?_|refine dL (hc:=Calm.lenStr (strT_spec ty_str_9) rfl) (h:=?_)
           first|refine k_d ?_|refine dG (hc:=fun _=>Calm.bin rfl rfl b_rem) (h:=?_)
           first|refine k_d ?_|refine dG (hc:=fun _=>Calm.bin rfl rfl b_neq) (h:=?_)
           refine dP (hc:=fun _=>(by first | exact Calm.pickT rfl rfl | exact Calm.pickF rfl rfl)) (h:=?_)
           refine draw_nil ?_
           refine athen_n ?_
           refine k_u [(1,_),(34,_),(35,_),(36,_),(37,_),(4,_),(3,_),(72,_)] ?_
           refine k_T rfl ?_
           refine k_a (k_e rfl ?_)
           refine k_r ?_
           refine ain_ret ?_
           refine athen_ret ?_
           refine athen_ret ?_
           refine ain_ret ?_
           refine athen_ret ?_
           refine ⟨_,S,⟨_,_,rfl,rfl,rfl⟩,hT1.trans less_,?_⟩
           exact ⟨by rw [chkD_no (fun h=>q8 (hra h).1.2.2)];rfl,rfl⟩
        ·obtain ⟨i',rfl⟩ : ∃ i',i=i'+1:=⟨i-1,by omega⟩
         have hki':=(hk i' (by omega)).less hT1
         unfold extF at hki'
         have hki0:T1.Knows ⟨b,off+i'*2,none⟩ [.string (ext[i']'(by omega)).1]:=kn_at hki' 0 rfl
         have hl':lastN ext (i'+1)=(ext[i']'(by omega)).1:=lastN_succ (by omega)
         by_cases q6:lt (lastN ext (i'+1)) ext[i'+1].1=true
         ·by_cases q7:ext[i'+1].2.size=0
          ·refine k_k (AWP.seq ?_)
           refine AWP.block ?_
           refine k_a (k_m rfl ?_)
           refine rC (Calm.indexS Tryz.underlying22 ty_size_101 rfl rfl (by omega) (by omega)) ?_
           refine rC (ldA_ (cs:=[_,_]) ty_agg_101 ty_size_101 rfl) ?_
           refine ARun.alloc (lit_lt rfl) ty_zero_101 ?_
           intro b4 f4
           have g4:=f4
           repeat ((with_reducible replace g4:=fresh_set g4);obtain ⟨g4,_⟩:=g4)
           have:=g4.ne kb1;have:=g4.ne' kb1
           try simp only [k_l1,k_l0,k_za,Nat.reduceAdd]
           refine k_s rfl ?_
           first|refine k_A rfl rfl ty_size_101 ?_|refine k_B rfl rfl ty_size_101 ?_
           try simp only [k_ms,k_sz,k_ss,k_za,Nat.reduceAdd]
           refine k_n ?_
           refine k_u [(1,_),(34,_),(35,_),(36,_),(37,_),(4,_),(3,_)] ?_
           refine AWP.seq (AWP.seq ?_)
           refine AWP.draw [(0,true),(1,true),(2,false),(3,true),(4,true),(5,true),(6,true),(7,true),(8,true),(9,true),(10,true),(11,true),(12,true),(13,true),(14,true),(15,true),(16,true),(17,true),(18,true),(19,true),(20,true),(21,true),(22,true),(23,true),(24,true),(25,true),(26,true),(27,true),(28,true),(29,true),(30,true),(31,true)] [] mixed (by kernel_rfl) ?_
           refine dP (hc:=fun _=>Calm.fieldAddr ty_field_101_0 rfl) (h:=?_)
           refine dC (hc:=ld_ ty_plain_9 rfl) (h:=?_)
           refine draw_only rfl ?_
           refine ARun.call (lit_lt rfl) go_80 rfl (rd_Named _ _) ?_
           rintro _ S1 ⟨rfl,h1⟩
           rw [h1,decide_eq_true q5];clear h1 S1
           refine arun_nil ⟨fun _=>less_,?_⟩
           refine dP (hc:=fun _=>Calm.un rfl (una_not _)) (h:=?_)
           refine dP (hc:=fun _=>Calm.move rfl) (h:=?_)
           first|refine k_d ?_|refine dG (hc:=fun _=>Calm.move rfl) (h:=?_)
           first|refine k_d ?_|refine dG (hc:=fun _=>Calm.bin rfl rfl b_gtr) (h:=?_)
           first|refine k_d ?_|refine dG (hc:=fun _=>Calm.move rfl) (h:=?_)
           first|refine k_d ?_|refine dG (hc:=fun _=>Calm.fieldAddr ty_field_25_1 rfl) (h:=?_)
           first|refine k_d ?_|refine dL (hc:=ld_ ty_plain_22 rfl) (h:=?_)
           first|refine k_d ?_|refine dG (hc:=fun _=>Calm.move rfl) (h:=?_)
           first|refine k_d ?_|refine dG (hc:=fun _=>Calm.bin rfl rfl (bin_subW (c:=(i':Int)) (by rw [IntWalk.i64_in _ (by omega)];omega))) (h:=?_)
           first|refine k_d ?_|refine dG (hc:=fun _=>Calm.indexS Tryz.underlying22 ty_size_101 rfl rfl (by omega) (by omega)) (h:=?_)
           first|refine k_d ?_|refine dG (hc:=fun _=>Calm.fieldAddr ty_field_101_0 rfl) (h:=?_)
           first|refine k_d ?_|refine dL (hc:=Calm.loadK ty_plain_9 rfl (hki0.less less_)) (h:=?_)
           first|refine k_d ?_|refine dG (hc:=fun _=>Calm.fieldAddr ty_field_101_0 rfl) (h:=?_)
           first|refine k_d ?_|refine dL (hc:=ld_ ty_plain_9 rfl) (h:=?_)
           first|refine k_d ?_|refine dG (hc:=fun _=>Calm.bin rfl rfl (bin_bool (bin_str_geq _ _) (by rw [lt_def,← hl',q6];first | done | rfl))) (h:=?_)
           first|refine k_d ?_|refine dG (hc:=fun _=>(by first | exact Calm.pickT rfl rfl | exact Calm.pickF rfl rfl)) (h:=?_)
           refine dP (hc:=fun _=>(by first | exact Calm.pickT rfl rfl | exact Calm.pickF rfl rfl)) (h:=?_)
           refine dP (hc:=fun _=>Calm.move rfl) (h:=?_)
           first|refine k_d ?_|refine dG (hc:=fun _=>Calm.fieldAddr ty_field_101_1 rfl) (h:=?_)
           first|refine k_d ?_|refine dL (hc:=ld_ ty_plain_9 rfl) (h:=?_)
           first|refine k_d ?_|refine dG (hc:=fun _=>Calm.bin rfl rfl (bin_bool (bin_str_eql _ _) (decide_eq_true ((size0 _).2 q7)))) (h:=?_)
           refine dP (hc:=fun _=>(by first | exact Calm.pickT rfl rfl | exact Calm.pickF rfl rfl)) (h:=?_)
           refine dP (hc:=fun _=>Calm.move rfl) (h:=?_)
           first|refine k_d ?_|refine dG (hc:=fun _=>Calm.fieldAddr ty_field_101_1 rfl) (h:=?_)
           first|refine k_d ?_|refine dL (hc:=ld_ ty_plain_9 rfl) (h:=?_)
           first|refine k_d ?_|refine dL (hc:=Calm.lenStr (strT_spec ty_str_9) rfl) (h:=?_)
           first|refine k_d ?_|refine dG (hc:=fun _=>Calm.bin rfl rfl b_rem) (h:=?_)
           first|refine k_d ?_|refine dG (hc:=fun _=>Calm.bin rfl rfl b_neq) (h:=?_)
           refine dP (hc:=fun _=>(by first | exact Calm.pickT rfl rfl | exact Calm.pickF rfl rfl)) (h:=?_)
           refine draw_nil ?_
           refine athen_n ?_
           refine k_u [(1,_),(34,_),(35,_),(36,_),(37,_),(4,_),(3,_),(72,_)] ?_
           refine k_T rfl ?_
           refine k_a (k_e rfl ?_)
           refine k_r ?_
           refine ain_ret ?_
           refine athen_ret ?_
           refine athen_ret ?_
           refine ain_ret ?_
           refine athen_ret ?_
           refine ⟨_,S,⟨_,_,rfl,rfl,rfl⟩,hT1.trans less_,?_⟩
           exact ⟨by rw [chkD_no (fun h=>(hra h).1.2.1 q7)];rfl,rfl⟩
          ·by_cases q8:ext[i'+1].2.size % 64=0
           ·refine k_k (AWP.seq ?_)
            refine AWP.block ?_
            refine k_a (k_m rfl ?_)
            refine rC (Calm.indexS Tryz.underlying22 ty_size_101 rfl rfl (by omega) (by omega)) ?_
            refine rC (ldA_ (cs:=[_,_]) ty_agg_101 ty_size_101 rfl) ?_
            refine ARun.alloc (lit_lt rfl) ty_zero_101 ?_
            intro b4 f4
            have g4:=f4
            repeat ((with_reducible replace g4:=fresh_set g4);obtain ⟨g4,_⟩:=g4)
            have:=g4.ne kb1;have:=g4.ne' kb1
            try simp only [k_l1,k_l0,k_za,Nat.reduceAdd]
            refine k_s rfl ?_
            first|refine k_A rfl rfl ty_size_101 ?_|refine k_B rfl rfl ty_size_101 ?_
            try simp only [k_ms,k_sz,k_ss,k_za,Nat.reduceAdd]
            refine k_n ?_
            refine k_u [(1,_),(34,_),(35,_),(36,_),(37,_),(4,_),(3,_)] ?_
            refine AWP.seq (AWP.seq ?_)
            refine AWP.draw [(0,true),(1,true),(2,false),(3,true),(4,true),(5,true),(6,true),(7,true),(8,true),(9,true),(10,true),(11,true),(12,true),(13,true),(14,true),(15,true),(16,true),(17,true),(18,true),(19,true),(20,true),(21,true),(22,true),(23,true),(24,true),(25,true),(26,true),(27,true),(28,true),(29,true),(30,true),(31,true)] [] mixed (by kernel_rfl) ?_
            refine dP (hc:=fun _=>Calm.fieldAddr ty_field_101_0 rfl) (h:=?_)
            refine dC (hc:=ld_ ty_plain_9 rfl) (h:=?_)
            refine draw_only rfl ?_
            refine ARun.call (lit_lt rfl) go_80 rfl (rd_Named _ _) ?_
            rintro _ S1 ⟨rfl,h1⟩
            rw [h1,decide_eq_true q5];clear h1 S1
            refine arun_nil ⟨fun _=>less_,?_⟩
            refine dP (hc:=fun _=>Calm.un rfl (una_not _)) (h:=?_)
            refine dP (hc:=fun _=>Calm.move rfl) (h:=?_)
            first|refine k_d ?_|refine dG (hc:=fun _=>Calm.move rfl) (h:=?_)
            first|refine k_d ?_|refine dG (hc:=fun _=>Calm.bin rfl rfl b_gtr) (h:=?_)
            first|refine k_d ?_|refine dG (hc:=fun _=>Calm.move rfl) (h:=?_)
            first|refine k_d ?_|refine dG (hc:=fun _=>Calm.fieldAddr ty_field_25_1 rfl) (h:=?_)
            first|refine k_d ?_|refine dL (hc:=ld_ ty_plain_22 rfl) (h:=?_)
            first|refine k_d ?_|refine dG (hc:=fun _=>Calm.move rfl) (h:=?_)
            first|refine k_d ?_|refine dG (hc:=fun _=>Calm.bin rfl rfl (bin_subW (c:=(i':Int)) (by rw [IntWalk.i64_in _ (by omega)];omega))) (h:=?_)
            first|refine k_d ?_|refine dG (hc:=fun _=>Calm.indexS Tryz.underlying22 ty_size_101 rfl rfl (by omega) (by omega)) (h:=?_)
            first|refine k_d ?_|refine dG (hc:=fun _=>Calm.fieldAddr ty_field_101_0 rfl) (h:=?_)
            first|refine k_d ?_|refine dL (hc:=Calm.loadK ty_plain_9 rfl (hki0.less less_)) (h:=?_)
            first|refine k_d ?_|refine dG (hc:=fun _=>Calm.fieldAddr ty_field_101_0 rfl) (h:=?_)
            first|refine k_d ?_|refine dL (hc:=ld_ ty_plain_9 rfl) (h:=?_)
            first|refine k_d ?_|refine dG (hc:=fun _=>Calm.bin rfl rfl (bin_bool (bin_str_geq _ _) (by rw [lt_def,← hl',q6];first | done | rfl))) (h:=?_)
            first|refine k_d ?_|refine dG (hc:=fun _=>(by first | exact Calm.pickT rfl rfl | exact Calm.pickF rfl rfl)) (h:=?_)
            refine dP (hc:=fun _=>(by first | exact Calm.pickT rfl rfl | exact Calm.pickF rfl rfl)) (h:=?_)
            refine dP (hc:=fun _=>Calm.move rfl) (h:=?_)
            first|refine k_d ?_|refine dG (hc:=fun _=>Calm.fieldAddr ty_field_101_1 rfl) (h:=?_)
            first|refine k_d ?_|refine dL (hc:=ld_ ty_plain_9 rfl) (h:=?_)
            first|refine k_d ?_|refine dG (hc:=fun _=>Calm.bin rfl rfl (bin_bool (bin_str_eql _ _) (decide_eq_false (fun e=>q7 ((size0 _).1 e))))) (h:=?_)
            refine dP (hc:=fun _=>(by first | exact Calm.pickT rfl rfl | exact Calm.pickF rfl rfl)) (h:=?_)
            refine dP (hc:=fun _=>Calm.move rfl) (h:=?_)
            first|refine k_d ?_|refine dG (hc:=fun _=>Calm.fieldAddr ty_field_101_1 rfl) (h:=?_)
            first|refine k_d ?_|refine dL (hc:=ld_ ty_plain_9 rfl) (h:=?_)
            first|refine k_d ?_|refine dL (hc:=Calm.lenStr (strT_spec ty_str_9) rfl) (h:=?_)
            first|refine k_d ?_|refine dG (hc:=fun _=>Calm.bin rfl rfl b_rem) (h:=?_)
            first|refine k_d ?_|refine dG (hc:=fun _=>Calm.bin rfl rfl b_neq) (h:=?_)
            refine dP (hc:=fun _=>(by first | exact Calm.pickT rfl rfl | exact Calm.pickF rfl rfl)) (h:=?_)
            refine draw_nil ?_
            refine athen_n ?_
            refine k_u [(1,_),(34,_),(35,_),(36,_),(37,_),(4,_),(3,_),(72,_)] ?_
            refine k_F rfl ?_
            have hsx:sec ext[i'+1]≤140737488351232:=by unfold sec;omega
            refine k_k (AWP.seq ?_)
            refine AWP.draw [(0,true),(1,true),(2,true),(3,true),(4,true),(6,true),(7,true),(5,false),(8,true)] [] mixed (by kernel_rfl) ?_
            refine dP (hc:=fun _=>Calm.fieldAddr ty_field_25_1 rfl) (h:=?_)
            refine dC (hc:=ld_ ty_plain_22 rfl) (h:=?_)
            refine dP (hc:=fun _=>Calm.move rfl) (h:=?_)
            refine dP (hc:=fun _=>Calm.bin rfl rfl b_add_i64) (h:=?_)
            refine dP (hc:=fun _=>(by first | exact Calm.sliceHead Tryz.underlying22 ty_size_101 rfl (bnd_none _ _) (fun _=>rfl) (bnd_some _ _ rfl (by omega) (by omega)) | exact Calm.sliceNil Tryz.underlying22 ty_size_101 rfl (bnd_none _ _) (by simp) (bnd_zero _ _ rfl) (bnd_none _ _))) (h:=?_)
            refine dP (hc:=fun _=>Calm.fieldAddr ty_field_25_0 rfl) (h:=?_)
            refine dC (hc:=ld_ ty_plain_3 rfl) (h:=?_)
            refine draw_only rfl ?_
            refine ARun.call (lit_lt rfl) go_81 rfl (rd_used _ (ext.take (i'+1+1)) _ (hslt.less less_) (by omega) (fun x hx=>by have:=hez x (List.mem_of_mem_take hx);omega)) ?_
            rintro _ S1 ⟨rfl,h1⟩
            rw [h1];clear h1 S1
            refine arun_nil ⟨fun _=>less_,?_⟩
            refine dP (hc:=fun _=>Calm.bin rfl rfl b_gtr) (h:=?_)
            refine draw_nil ?_
            refine athen_n ?_
            refine k_u [(1,_),(34,_),(35,_),(36,_),(37,_),(4,_),(3,_),(72,_),(81,_)] ?_
            refine AWP.condB rfl (fun q9=>?_) (fun q9=>?_)
            ·refine k_a (k_e rfl ?_)
             refine AWP.ret ?_
             refine ain_ret ?_
             refine athen_ret ?_
             refine athen_ret ?_
             refine ain_ret ?_
             refine athen_ret ?_
             refine ⟨_,S,⟨_,_,rfl,rfl,rfl⟩,hT1.trans less_,?_⟩
             exact ⟨by rw [chkD_no (fun h=>absurd (hra h).2.2 (by have:=of_decide_eq_true q9;omega))];rfl,rfl⟩
            ·have q9:=of_decide_eq_false q9
             refine AWP.skip ?_
             refine ain_n ?_
             refine athen_n ?_
             refine AWP.region ?_
             refine rC (Calm.bin rfl rfl b_add_i64) ?_
             refine k_m rfl (k_n ?_)
             refine ⟨i'+1+1,?_,?_,?_,?_⟩
             all_goals (try dsimp only)
             ·exact ⟨rfl,rfl,rfl,rfl,trivial⟩
             ·exact less_
             ·exact ⟨hc,hsu ⟨q5,q7,q8⟩ q6 (by omega)⟩
             ·omega
           ·refine k_k (AWP.seq ?_)
            refine AWP.block ?_
            refine k_a (k_m rfl ?_)
            refine rC (Calm.indexS Tryz.underlying22 ty_size_101 rfl rfl (by omega) (by omega)) ?_
            refine rC (ldA_ (cs:=[_,_]) ty_agg_101 ty_size_101 rfl) ?_
            refine ARun.alloc (lit_lt rfl) ty_zero_101 ?_
            intro b4 f4
            have g4:=f4
            repeat ((with_reducible replace g4:=fresh_set g4);obtain ⟨g4,_⟩:=g4)
            have:=g4.ne kb1;have:=g4.ne' kb1
            try simp only [k_l1,k_l0,k_za,Nat.reduceAdd]
            refine k_s rfl ?_
            first|refine k_A rfl rfl ty_size_101 ?_|refine k_B rfl rfl ty_size_101 ?_
            try simp only [k_ms,k_sz,k_ss,k_za,Nat.reduceAdd]
            refine k_n ?_
            refine k_u [(1,_),(34,_),(35,_),(36,_),(37,_),(4,_),(3,_)] ?_
            refine AWP.seq (AWP.seq ?_)
            refine AWP.draw [(0,true),(1,true),(2,false),(3,true),(4,true),(5,true),(6,true),(7,true),(8,true),(9,true),(10,true),(11,true),(12,true),(13,true),(14,true),(15,true),(16,true),(17,true),(18,true),(19,true),(20,true),(21,true),(22,true),(23,true),(24,true),(25,true),(26,true),(27,true),(28,true),(29,true),(30,true),(31,true)] [] mixed (by kernel_rfl) ?_
            refine dP (hc:=fun _=>Calm.fieldAddr ty_field_101_0 rfl) (h:=?_)
            refine dC (hc:=ld_ ty_plain_9 rfl) (h:=?_)
            refine draw_only rfl ?_
            refine ARun.call (lit_lt rfl) go_80 rfl (rd_Named _ _) ?_
            rintro _ S1 ⟨rfl,h1⟩
            rw [h1,decide_eq_true q5];clear h1 S1
            refine arun_nil ⟨fun _=>less_,?_⟩
            refine dP (hc:=fun _=>Calm.un rfl (una_not _)) (h:=?_)
            refine dP (hc:=fun _=>Calm.move rfl) (h:=?_)
            first|refine k_d ?_|refine dG (hc:=fun _=>Calm.move rfl) (h:=?_)
            first|refine k_d ?_|refine dG (hc:=fun _=>Calm.bin rfl rfl b_gtr) (h:=?_)
            first|refine k_d ?_|refine dG (hc:=fun _=>Calm.move rfl) (h:=?_)
            first|refine k_d ?_|refine dG (hc:=fun _=>Calm.fieldAddr ty_field_25_1 rfl) (h:=?_)
            first|refine k_d ?_|refine dL (hc:=ld_ ty_plain_22 rfl) (h:=?_)
            first|refine k_d ?_|refine dG (hc:=fun _=>Calm.move rfl) (h:=?_)
            first|refine k_d ?_|refine dG (hc:=fun _=>Calm.bin rfl rfl (bin_subW (c:=(i':Int)) (by rw [IntWalk.i64_in _ (by omega)];omega))) (h:=?_)
            first|refine k_d ?_|refine dG (hc:=fun _=>Calm.indexS Tryz.underlying22 ty_size_101 rfl rfl (by omega) (by omega)) (h:=?_)
            first|refine k_d ?_|refine dG (hc:=fun _=>Calm.fieldAddr ty_field_101_0 rfl) (h:=?_)
            first|refine k_d ?_|refine dL (hc:=Calm.loadK ty_plain_9 rfl (hki0.less less_)) (h:=?_)
            first|refine k_d ?_|refine dG (hc:=fun _=>Calm.fieldAddr ty_field_101_0 rfl) (h:=?_)
            first|refine k_d ?_|refine dL (hc:=ld_ ty_plain_9 rfl) (h:=?_)
            first|refine k_d ?_|refine dG (hc:=fun _=>Calm.bin rfl rfl (bin_bool (bin_str_geq _ _) (by rw [lt_def,← hl',q6];first | done | rfl))) (h:=?_)
            first|refine k_d ?_|refine dG (hc:=fun _=>(by first | exact Calm.pickT rfl rfl | exact Calm.pickF rfl rfl)) (h:=?_)
            refine dP (hc:=fun _=>(by first | exact Calm.pickT rfl rfl | exact Calm.pickF rfl rfl)) (h:=?_)
            refine dP (hc:=fun _=>Calm.move rfl) (h:=?_)
            first|refine k_d ?_|refine dG (hc:=fun _=>Calm.fieldAddr ty_field_101_1 rfl) (h:=?_)
            first|refine k_d ?_|refine dL (hc:=ld_ ty_plain_9 rfl) (h:=?_)
            first|refine k_d ?_|refine dG (hc:=fun _=>Calm.bin rfl rfl (bin_bool (bin_str_eql _ _) (decide_eq_false (fun e=>q7 ((size0 _).1 e))))) (h:=?_)
            refine dP (hc:=fun _=>(by first | exact Calm.pickT rfl rfl | exact Calm.pickF rfl rfl)) (h:=?_)
            refine dP (hc:=fun _=>Calm.move rfl) (h:=?_)
            first|refine k_d ?_|refine dG (hc:=fun _=>Calm.fieldAddr ty_field_101_1 rfl) (h:=?_)
            first|refine k_d ?_|refine dL (hc:=ld_ ty_plain_9 rfl) (h:=?_)
            first|refine k_d ?_|refine dL (hc:=Calm.lenStr (strT_spec ty_str_9) rfl) (h:=?_)
            first|refine k_d ?_|refine dG (hc:=fun _=>Calm.bin rfl rfl b_rem) (h:=?_)
            first|refine k_d ?_|refine dG (hc:=fun _=>Calm.bin rfl rfl b_neq) (h:=?_)
            refine dP (hc:=fun _=>(by first | exact Calm.pickT rfl rfl | exact Calm.pickF rfl rfl)) (h:=?_)
            refine draw_nil ?_
            refine athen_n ?_
            refine k_u [(1,_),(34,_),(35,_),(36,_),(37,_),(4,_),(3,_),(72,_)] ?_
            refine k_T rfl ?_
            refine k_a (k_e rfl ?_)
            refine k_r ?_
            refine ain_ret ?_
            refine athen_ret ?_
            refine athen_ret ?_
            refine ain_ret ?_
            refine athen_ret ?_
            refine ⟨_,S,⟨_,_,rfl,rfl,rfl⟩,hT1.trans less_,?_⟩
            exact ⟨by rw [chkD_no (fun h=>q8 (hra h).1.2.2)];rfl,rfl⟩
         ·refine k_k (AWP.seq ?_)
          refine AWP.block ?_
          refine k_a (k_m rfl ?_)
          refine rC (Calm.indexS Tryz.underlying22 ty_size_101 rfl rfl (by omega) (by omega)) ?_
          refine rC (ldA_ (cs:=[_,_]) ty_agg_101 ty_size_101 rfl) ?_
          refine ARun.alloc (lit_lt rfl) ty_zero_101 ?_
          intro b4 f4
          have g4:=f4
          repeat ((with_reducible replace g4:=fresh_set g4);obtain ⟨g4,_⟩:=g4)
          have:=g4.ne kb1;have:=g4.ne' kb1
          try simp only [k_l1,k_l0,k_za,Nat.reduceAdd]
          refine k_s rfl ?_
          first|refine k_A rfl rfl ty_size_101 ?_|refine k_B rfl rfl ty_size_101 ?_
          try simp only [k_ms,k_sz,k_ss,k_za,Nat.reduceAdd]
          refine k_n ?_
          refine k_u [(1,_),(34,_),(35,_),(36,_),(37,_),(4,_),(3,_)] ?_
          refine AWP.seq (AWP.seq ?_)
          refine AWP.draw [(0,true),(1,true),(2,false),(3,true),(4,true),(5,true),(6,true),(7,true),(8,true),(9,true),(10,true),(11,true),(12,true),(13,true),(14,true),(15,true),(16,true),(17,true),(18,true),(19,true),(20,true),(21,true),(22,true),(23,true),(24,true),(25,true),(26,true),(27,true),(28,true),(29,true),(30,true),(31,true)] [] mixed (by kernel_rfl) ?_
          refine dP (hc:=fun _=>Calm.fieldAddr ty_field_101_0 rfl) (h:=?_)
          refine dC (hc:=ld_ ty_plain_9 rfl) (h:=?_)
          refine draw_only rfl ?_
          refine ARun.call (lit_lt rfl) go_80 rfl (rd_Named _ _) ?_
          rintro _ S1 ⟨rfl,h1⟩
          rw [h1,decide_eq_true q5];clear h1 S1
          refine arun_nil ⟨fun _=>less_,?_⟩
          refine dP (hc:=fun _=>Calm.un rfl (una_not _)) (h:=?_)
          refine dP (hc:=fun _=>Calm.move rfl) (h:=?_)
          first|refine k_d ?_|refine dG (hc:=fun _=>Calm.move rfl) (h:=?_)
          first|refine k_d ?_|refine dG (hc:=fun _=>Calm.bin rfl rfl b_gtr) (h:=?_)
          first|refine k_d ?_|refine dG (hc:=fun _=>Calm.move rfl) (h:=?_)
          first|refine k_d ?_|refine dG (hc:=fun _=>Calm.fieldAddr ty_field_25_1 rfl) (h:=?_)
          first|refine k_d ?_|refine dL (hc:=ld_ ty_plain_22 rfl) (h:=?_)
          first|refine k_d ?_|refine dG (hc:=fun _=>Calm.move rfl) (h:=?_)
          first|refine k_d ?_|refine dG (hc:=fun _=>Calm.bin rfl rfl (bin_subW (c:=(i':Int)) (by rw [IntWalk.i64_in _ (by omega)];omega))) (h:=?_)
          first|refine k_d ?_|refine dG (hc:=fun _=>Calm.indexS Tryz.underlying22 ty_size_101 rfl rfl (by omega) (by omega)) (h:=?_)
          first|refine k_d ?_|refine dG (hc:=fun _=>Calm.fieldAddr ty_field_101_0 rfl) (h:=?_)
          first|refine k_d ?_|refine dL (hc:=Calm.loadK ty_plain_9 rfl (hki0.less less_)) (h:=?_)
          first|refine k_d ?_|refine dG (hc:=fun _=>Calm.fieldAddr ty_field_101_0 rfl) (h:=?_)
          first|refine k_d ?_|refine dL (hc:=ld_ ty_plain_9 rfl) (h:=?_)
          first|refine k_d ?_|refine dG (hc:=fun _=>Calm.bin rfl rfl (bin_bool (bin_str_geq _ _) (by rw [lt_def,← hl',Bool.eq_false_iff.2 q6];first | done | rfl))) (h:=?_)
          first|refine k_d ?_|refine dG (hc:=fun _=>(by first | exact Calm.pickT rfl rfl | exact Calm.pickF rfl rfl)) (h:=?_)
          refine dP (hc:=fun _=>(by first | exact Calm.pickT rfl rfl | exact Calm.pickF rfl rfl)) (h:=?_)
          refine dP (hc:=fun _=>Calm.move rfl) (h:=?_)
          first|refine k_d ?_|refine dG (hc:=fun _=>Calm.fieldAddr ty_field_101_1 rfl) (h:=?_)
          first|refine k_d ?_|refine dL (hc:=ld_ ty_plain_9 rfl) (h:=?_)
          first|refine k_d ?_|refine dG (hc:=fun _=>Calm.bin rfl rfl (bin_str_eql _ _)) (h:=?_)
          refine dP (hc:=fun _=>(by first | exact Calm.pickT rfl rfl | exact Calm.pickF rfl rfl)) (h:=?_)
          refine dP (hc:=fun _=>Calm.move rfl) (h:=?_)
          first|refine k_d ?_|refine dG (hc:=fun _=>Calm.fieldAddr ty_field_101_1 rfl) (h:=?_)
          first|refine k_d ?_|refine dL (hc:=ld_ ty_plain_9 rfl) (h:=?_)
          first|refine k_d ?_|refine dL (hc:=Calm.lenStr (strT_spec ty_str_9) rfl) (h:=?_)
          first|refine k_d ?_|refine dG (hc:=fun _=>Calm.bin rfl rfl b_rem) (h:=?_)
          first|refine k_d ?_|refine dG (hc:=fun _=>Calm.bin rfl rfl b_neq) (h:=?_)
          refine dP (hc:=fun _=>(by first | exact Calm.pickT rfl rfl | exact Calm.pickF rfl rfl)) (h:=?_)
          refine draw_nil ?_
          refine athen_n ?_
          refine k_u [(1,_),(34,_),(35,_),(36,_),(37,_),(4,_),(3,_),(72,_)] ?_
          refine k_T rfl ?_
          refine k_a (k_e rfl ?_)
          refine k_r ?_
          refine ain_ret ?_
          refine athen_ret ?_
          refine athen_ret ?_
          refine ain_ret ?_
          refine athen_ret ?_
          refine ⟨_,S,⟨_,_,rfl,rfl,rfl⟩,hT1.trans less_,?_⟩
          exact ⟨by rw [chkD_no (fun h=>q6 (hra h).2.1)];rfl,rfl⟩
       ·refine k_k (AWP.seq ?_)
        refine AWP.block ?_
        refine k_a (k_m rfl ?_)
        refine rC (Calm.indexS Tryz.underlying22 ty_size_101 rfl rfl (by omega) (by omega)) ?_
        refine rC (ldA_ (cs:=[_,_]) ty_agg_101 ty_size_101 rfl) ?_
        refine ARun.alloc (lit_lt rfl) ty_zero_101 ?_
        intro b4 f4
        have g4:=f4
        repeat ((with_reducible replace g4:=fresh_set g4);obtain ⟨g4,_⟩:=g4)
        have:=g4.ne kb1;have:=g4.ne' kb1
        try simp only [k_l1,k_l0,k_za,Nat.reduceAdd]
        refine k_s rfl ?_
        first|refine k_A rfl rfl ty_size_101 ?_|refine k_B rfl rfl ty_size_101 ?_
        try simp only [k_ms,k_sz,k_ss,k_za,Nat.reduceAdd]
        refine k_n ?_
        refine k_u [(1,_),(34,_),(35,_),(36,_),(37,_),(4,_),(3,_)] ?_
        refine AWP.seq (AWP.seq ?_)
        refine AWP.draw [(0,true),(1,true),(2,false),(3,true),(4,true),(5,true),(6,true),(7,true),(8,true),(9,true),(10,true),(11,true),(12,true),(13,true),(14,true),(15,true),(16,true),(17,true),(18,true),(19,true),(20,true),(21,true),(22,true),(23,true),(24,true),(25,true),(26,true),(27,true),(28,true),(29,true),(30,true),(31,true)] [] mixed (by kernel_rfl) ?_
        refine dP (hc:=fun _=>Calm.fieldAddr ty_field_101_0 rfl) (h:=?_)
        refine dC (hc:=ld_ ty_plain_9 rfl) (h:=?_)
        refine draw_only rfl ?_
        refine ARun.call (lit_lt rfl) go_80 rfl (rd_Named _ _) ?_
        rintro _ S1 ⟨rfl,h1⟩
        rw [h1,decide_eq_false q5];clear h1 S1
        refine arun_nil ⟨fun _=>less_,?_⟩
        refine dP (hc:=fun _=>Calm.un rfl (una_not _)) (h:=?_)
        refine dP (hc:=fun _=>Calm.move rfl) (h:=?_)
        first|refine k_d ?_|refine dG (hc:=fun _=>Calm.move rfl) (h:=?_)
        first|refine k_d ?_|refine dG (hc:=fun _=>Calm.bin rfl rfl b_gtr) (h:=?_)
        first|refine k_d ?_|refine dG (hc:=fun _=>Calm.move rfl) (h:=?_)
        first|refine k_d ?_|refine dG (hc:=fun _=>Calm.fieldAddr ty_field_25_1 rfl) (h:=?_)
        first|refine k_d ?_|refine dL (hc:=ld_ ty_plain_22 rfl) (h:=?_)
        first|refine k_d ?_|refine dG (hc:=fun _=>Calm.move rfl) (h:=?_)
        first|refine k_d ?_|refine dG (hc:=fun _=>Calm.bin rfl rfl b_sub_i64) (h:=?_)
        first|refine k_d ?_|refine dG (hc:=fun _=>Calm.indexS Tryz.underlying22 ty_size_101 rfl rfl (by omega) (by omega)) (h:=?_)
        first|refine k_d ?_|refine dG (hc:=fun _=>Calm.fieldAddr ty_field_101_0 rfl) (h:=?_)
        first|refine k_d ?_|refine dL (hc:=ld_ ty_plain_9 rfl) (h:=?_)
        first|refine k_d ?_|refine dG (hc:=fun _=>Calm.fieldAddr ty_field_101_0 rfl) (h:=?_)
        first|refine k_d ?_|refine dL (hc:=ld_ ty_plain_9 rfl) (h:=?_)
        first|refine k_d ?_|refine dG (hc:=fun _=>Calm.bin rfl rfl (bin_str_geq _ _)) (h:=?_)
        first|refine k_d ?_|refine dG (hc:=fun _=>(by first | exact Calm.pickT rfl rfl | exact Calm.pickF rfl rfl)) (h:=?_)
        refine dP (hc:=fun _=>(by first | exact Calm.pickT rfl rfl | exact Calm.pickF rfl rfl)) (h:=?_)
        refine dP (hc:=fun _=>Calm.move rfl) (h:=?_)
        first|refine k_d ?_|refine dG (hc:=fun _=>Calm.fieldAddr ty_field_101_1 rfl) (h:=?_)
        first|refine k_d ?_|refine dL (hc:=ld_ ty_plain_9 rfl) (h:=?_)
        first|refine k_d ?_|refine dG (hc:=fun _=>Calm.bin rfl rfl (bin_str_eql _ _)) (h:=?_)
        refine dP (hc:=fun _=>(by first | exact Calm.pickT rfl rfl | exact Calm.pickF rfl rfl)) (h:=?_)
        refine dP (hc:=fun _=>Calm.move rfl) (h:=?_)
        first|refine k_d ?_|refine dG (hc:=fun _=>Calm.fieldAddr ty_field_101_1 rfl) (h:=?_)
        first|refine k_d ?_|refine dL (hc:=ld_ ty_plain_9 rfl) (h:=?_)
        first|refine k_d ?_|refine dL (hc:=Calm.lenStr (strT_spec ty_str_9) rfl) (h:=?_)
        first|refine k_d ?_|refine dG (hc:=fun _=>Calm.bin rfl rfl b_rem) (h:=?_)
        first|refine k_d ?_|refine dG (hc:=fun _=>Calm.bin rfl rfl b_neq) (h:=?_)
        refine dP (hc:=fun _=>(by first | exact Calm.pickT rfl rfl | exact Calm.pickF rfl rfl)) (h:=?_)
        refine draw_nil ?_
        refine athen_n ?_
        refine k_u [(1,_),(34,_),(35,_),(36,_),(37,_),(4,_),(3,_),(72,_)] ?_
        refine k_T rfl ?_
        refine k_a (k_e rfl ?_)
        refine k_r ?_
        refine ain_ret ?_
        refine athen_ret ?_
        refine athen_ret ?_
        refine ain_ret ?_
        refine athen_ret ?_
        refine ⟨_,S,⟨_,_,rfl,rfl,rfl⟩,hT1.trans less_,?_⟩
        exact ⟨by rw [chkD_no (fun h=>q5 (hra h).1.1)];rfl,rfl⟩
      ·have hc:i=ext.length:=by have:=of_decide_eq_false hc;omega
       subst hc
       have q5:=upto_all hup
       have hul:=used_ge q5.ok
       have hus:=q5.us
       refine AWP.exit ?_
       refine athen_exit ?_
       refine athen_exit ?_
       refine ain_same ?_
       refine athen_n ?_
       refine AWP.seq (k_a ?_)
       refine rC (Calm.fieldAddr ty_field_25_2 rfl) ?_
       refine rC (ld_ ty_plain_23 rfl) ?_
       refine rC (Calm.lenSl Tryz.underlying23 rfl) ?_
       refine k_m rfl (k_n ?_)
       refine k_u [(1,_),(34,_),(35,_),(36,_),(37,_),(84,_),(85,_),(86,_)] ?_
       refine AWP.block ?_
       refine AWP.loop (X:=Nat) (fun x=>[(1,.pointer (some ⟨b1,0,none⟩)),(84,.slice pw waits.length cw),(85,.int .i64 waits.length),(86,.int .i64 x)]) (fun x=>T1) (fun x=>x≤waits.length ∧ ∀ j (h:j<waits.length),j<x→wok ext waits[j]) (fun x=>waits.length-x) (0) ⟨rfl,rfl,rfl,rfl,trivial⟩ (Mem.Less.refl _) (⟨Nat.zero_le _,fun j _ h=>absurd h (Nat.not_lt_zero _)⟩) ?_
       rintro i ⟨hi,hall⟩
       (try dsimp only at *)
       refine k_a ?_
       refine rC (Calm.bin rfl rfl b_lss) ?_
       refine k_n (AWP.seq ?_)
       refine AWP.condB rfl (fun hc=>?_) (fun hc=>?_)
       ·have hc:i<waits.length:=by have:=of_decide_eq_true hc;omega
        obtain ⟨b,off,rfl,hk⟩:=hW3.resolve_left (fun e=>by subst e;simp at hc)
        have hki:=(hk i hc).less hT1
        have hwz:=hz.wz _ (List.getElem_mem hc)
        have hwn : ¬ wok ext waits[i] → ¬ Right ⟨size,ext,waits,fuse,down⟩:=fun h h'=>h (h'.wr _ (List.getElem_mem hc))
        have hall':wok ext waits[i] → ∀ j (h:j<waits.length),j<i+1→wok ext waits[j]:=fun hw j h hj=>by rcases Nat.lt_or_ge j i with h' | h';exact hall j h h';obtain rfl:j=i:=(by omega);exact hw
        have hhp:=has_pos q5.asc waits[i].1
        have hwh:=wok_has (l:=ext) (w:=waits[i])
        have hwp:=fun (p:Nat) (hp:p<ext.length) (e:ext[p].1=(waits[i]'hc).1)=>wok_pos q5.asc hp e
        generalize waits[i]=w at *
        unfold wrF at hki
        refine k_k (AWP.seq ?_)
        refine AWP.block ?_
        refine k_a ?_
        refine rC (Calm.indexS Tryz.underlying23 ty_size_104 rfl rfl (by omega) (by omega)) ?_
        refine rC (ldA_ (cs:=[_,_,_]) ty_agg_104 ty_size_104 rfl) ?_
        refine ARun.alloc (lit_lt rfl) ty_zero_104 ?_
        intro b6 f6
        have g6:=f6
        repeat ((with_reducible replace g6:=fresh_set g6);obtain ⟨g6,_⟩:=g6)
        have:=g6.ne kb1;have:=g6.ne' kb1
        try simp only [k_l1,k_l0,k_za,Nat.reduceAdd]
        first|refine k_A rfl rfl ty_size_104 ?_|refine k_B rfl rfl ty_size_104 ?_
        try simp only [k_ms,k_sz,k_ss,k_za,Nat.reduceAdd]
        refine k_n ?_
        refine k_u [(1,_),(84,_),(85,_),(86,_),(87,_),(6,_)] ?_
        refine k_a ?_
        refine rC (Calm.fieldAddr ty_field_25_1 rfl) ?_
        refine rC (ld_ ty_plain_22 rfl) ?_
        refine rC (Calm.fieldAddr ty_field_104_0 rfl) ?_
        refine rC (ld_ ty_plain_9 rfl) ?_
        refine ARun.call (lit_lt rfl) go_71 rfl (rd_Find _ ext w.1 _ (hE.less less_) q5.asc) ?_
        rintro _ S1 ⟨rfl,h1⟩
        rw [h1];clear h1 S1
        refine k_e rfl ?_
        refine k_u [(1,_),(84,_),(85,_),(86,_),(87,_),(6,_),(7,_)] ?_
        by_cases q6:has ext w.1=true
        ·obtain ⟨hp,hpe⟩:=hhp.1 q6
         obtain ⟨be,oe,hpe2,hke⟩:=hE3.resolve_left (fun e=>by subst e;simp at hp)
         subst hpe2
         have hkp:=(hke _ hp).less hT1
         have hsz:=hez _ (List.getElem_mem hp)
         replace hwp:=hwp _ hp hpe
         have hfn:fnd ext w.1=(pos ext w.1:Nat):=by unfold fnd;rw [if_pos q6]
         rw [hfn]
         generalize hpp:pos ext w.1=p at *
         generalize hxx:ext[p]=x at *
         unfold extF at hkp
         have hsx:sec x≤140737488351232:=by unfold sec;omega
         have hsd:sec x=x.2.size / 64:=rfl
         by_cases q7:w.2.1<0
         ·refine AWP.seq ?_
          refine AWP.draw [(0,true),(1,true),(2,true),(3,true),(4,true),(5,true),(6,true),(7,true),(8,true),(9,true),(10,true),(11,true),(12,true),(13,true),(14,true),(15,true),(16,true),(17,true),(18,true),(19,true),(20,true),(21,true),(22,true),(23,true),(24,true),(25,true)] [] mixed (by kernel_rfl) ?_
          refine dP (hc:=fun _=>Calm.move rfl) (h:=?_)
          refine dP (hc:=fun _=>Calm.bin rfl rfl b_lss) (h:=?_)
          refine dP (hc:=fun _=>Calm.move rfl) (h:=?_)
          first|refine k_d ?_|refine dG (hc:=fun _=>Calm.fieldAddr ty_field_104_1 rfl) (h:=?_)
          first|refine k_d ?_|refine dL (hc:=ld_ ty_plain_3 rfl) (h:=?_)
          first|refine k_d ?_|refine dG (hc:=fun _=>Calm.bin rfl rfl b_lss) (h:=?_)
          refine dP (hc:=fun _=>(by first | exact Calm.pickT rfl rfl | exact Calm.pickF rfl rfl)) (h:=?_)
          refine dP (hc:=fun _=>Calm.move rfl) (h:=?_)
          first|refine k_d ?_|refine dG (hc:=fun _=>Calm.fieldAddr ty_field_104_1 rfl) (h:=?_)
          first|refine k_d ?_|refine dL (hc:=ld_ ty_plain_3 rfl) (h:=?_)
          first|refine k_d ?_|refine dG (hc:=fun _=>Calm.fieldAddr ty_field_25_1 rfl) (h:=?_)
          first|refine k_d ?_|refine dL (hc:=ld_ ty_plain_22 rfl) (h:=?_)
          first|refine k_d ?_|refine dG (hc:=fun _=>Calm.move rfl) (h:=?_)
          first|refine k_d ?_|refine dG (hc:=fun _=>Calm.indexS Tryz.underlying22 ty_size_101 rfl rfl (by omega) (by omega)) (h:=?_)
          first|refine k_d ?_|refine dG (hc:=fun _=>Calm.fieldAddr ty_field_101_1 rfl) (h:=?_)
          first|refine k_d ?_|refine dL (hc:=ld_ ty_plain_9 rfl) (h:=?_)
          first|refine k_d ?_|refine dL (hc:=Calm.lenStr (strT_spec ty_str_9) rfl) (h:=?_)
          first|refine k_d ?_|refine dG (hc:=fun _=>Calm.bin rfl rfl b_quo_i64) (h:=?_)
          first|refine k_d ?_|refine dG (hc:=fun _=>Calm.bin rfl rfl b_geq) (h:=?_)
          refine dP (hc:=fun _=>(by first | exact Calm.pickT rfl rfl | exact Calm.pickF rfl rfl)) (h:=?_)
          refine dP (hc:=fun _=>Calm.move rfl) (h:=?_)
          first|refine k_d ?_|refine dG (hc:=fun _=>Calm.fieldAddr ty_field_104_2 rfl) (h:=?_)
          first|refine k_d ?_|refine dL (hc:=ld_ ty_plain_9 rfl) (h:=?_)
          first|refine k_d ?_|refine dL (hc:=Calm.lenStr (strT_spec ty_str_9) rfl) (h:=?_)
          first|refine k_d ?_|refine dG (hc:=fun _=>Calm.bin rfl rfl b_neq) (h:=?_)
          refine dP (hc:=fun _=>(by first | exact Calm.pickT rfl rfl | exact Calm.pickF rfl rfl)) (h:=?_)
          refine draw_nil ?_
          refine athen_n ?_
          refine k_u [(1,_),(84,_),(85,_),(86,_),(87,_),(6,_),(7,_),(120,_)] ?_
          refine k_T rfl ?_
          refine k_a (k_e rfl ?_)
          refine AWP.ret ?_
          refine ain_ret ?_
          refine athen_ret ?_
          refine athen_ret ?_
          refine ain_ret ?_
          refine athen_ret ?_
          refine ⟨_,S,⟨_,_,rfl,rfl,rfl⟩,hT1.trans less_,?_⟩
          exact ⟨by rw [chkD_no (hwn (fun h=>absurd (hwp.1 h).1 (by omega)))];rfl,rfl⟩
         ·by_cases q8:(sec x:Int)≤w.2.1
          ·refine AWP.seq ?_
           refine AWP.draw [(0,true),(1,true),(2,true),(3,true),(4,true),(5,true),(6,true),(7,true),(8,true),(9,true),(10,true),(11,true),(12,true),(13,true),(14,true),(15,true),(16,true),(17,true),(18,true),(19,true),(20,true),(21,true),(22,true),(23,true),(24,true),(25,true)] [] mixed (by kernel_rfl) ?_
           refine dP (hc:=fun _=>Calm.move rfl) (h:=?_)
           refine dP (hc:=fun _=>Calm.bin rfl rfl b_lss) (h:=?_)
           refine dP (hc:=fun _=>Calm.move rfl) (h:=?_)
           first|refine k_d ?_|refine dG (hc:=fun _=>Calm.fieldAddr ty_field_104_1 rfl) (h:=?_)
           first|refine k_d ?_|refine dL (hc:=ld_ ty_plain_3 rfl) (h:=?_)
           first|refine k_d ?_|refine dG (hc:=fun _=>Calm.bin rfl rfl b_lss) (h:=?_)
           refine dP (hc:=fun _=>(by first | exact Calm.pickT rfl rfl | exact Calm.pickF rfl rfl)) (h:=?_)
           refine dP (hc:=fun _=>Calm.move rfl) (h:=?_)
           first|refine k_d ?_|refine dG (hc:=fun _=>Calm.fieldAddr ty_field_104_1 rfl) (h:=?_)
           first|refine k_d ?_|refine dL (hc:=ld_ ty_plain_3 rfl) (h:=?_)
           first|refine k_d ?_|refine dG (hc:=fun _=>Calm.fieldAddr ty_field_25_1 rfl) (h:=?_)
           first|refine k_d ?_|refine dL (hc:=ld_ ty_plain_22 rfl) (h:=?_)
           first|refine k_d ?_|refine dG (hc:=fun _=>Calm.move rfl) (h:=?_)
           first|refine k_d ?_|refine dG (hc:=fun _=>Calm.indexS Tryz.underlying22 ty_size_101 rfl rfl (by omega) (by omega)) (h:=?_)
           first|refine k_d ?_|refine dG (hc:=fun _=>Calm.fieldAddr ty_field_101_1 rfl) (h:=?_)
           first|refine k_d ?_|refine dL (hc:=Calm.loadK ty_plain_9 rfl ((kn_at hkp 1 rfl).less less_)) (h:=?_)
           first|refine k_d ?_|refine dL (hc:=Calm.lenStr (strT_spec ty_str_9) rfl) (h:=?_)
           first|refine k_d ?_|refine dG (hc:=fun _=>Calm.bin rfl rfl b_quo_i64) (h:=?_)
           first|refine k_d ?_|refine dG (hc:=fun _=>Calm.bin rfl rfl b_geq) (h:=?_)
           refine dP (hc:=fun _=>(by first | exact Calm.pickT rfl rfl | exact Calm.pickF rfl rfl)) (h:=?_)
           refine dP (hc:=fun _=>Calm.move rfl) (h:=?_)
           first|refine k_d ?_|refine dG (hc:=fun _=>Calm.fieldAddr ty_field_104_2 rfl) (h:=?_)
           first|refine k_d ?_|refine dL (hc:=ld_ ty_plain_9 rfl) (h:=?_)
           first|refine k_d ?_|refine dL (hc:=Calm.lenStr (strT_spec ty_str_9) rfl) (h:=?_)
           first|refine k_d ?_|refine dG (hc:=fun _=>Calm.bin rfl rfl b_neq) (h:=?_)
           refine dP (hc:=fun _=>(by first | exact Calm.pickT rfl rfl | exact Calm.pickF rfl rfl)) (h:=?_)
           refine draw_nil ?_
           refine athen_n ?_
           refine k_u [(1,_),(84,_),(85,_),(86,_),(87,_),(6,_),(7,_),(120,_)] ?_
           refine k_T rfl ?_
           refine k_a (k_e rfl ?_)
           refine AWP.ret ?_
           refine ain_ret ?_
           refine athen_ret ?_
           refine athen_ret ?_
           refine ain_ret ?_
           refine athen_ret ?_
           refine ⟨_,S,⟨_,_,rfl,rfl,rfl⟩,hT1.trans less_,?_⟩
           exact ⟨by rw [chkD_no (hwn (fun h=>absurd (hwp.1 h).2.1 (by omega)))];rfl,rfl⟩
          ·by_cases q9:w.2.2.size=64
           ·refine AWP.seq ?_
            refine AWP.draw [(0,true),(1,true),(2,true),(3,true),(4,true),(5,true),(6,true),(7,true),(8,true),(9,true),(10,true),(11,true),(12,true),(13,true),(14,true),(15,true),(16,true),(17,true),(18,true),(19,true),(20,true),(21,true),(22,true),(23,true),(24,true),(25,true)] [] mixed (by kernel_rfl) ?_
            refine dP (hc:=fun _=>Calm.move rfl) (h:=?_)
            refine dP (hc:=fun _=>Calm.bin rfl rfl b_lss) (h:=?_)
            refine dP (hc:=fun _=>Calm.move rfl) (h:=?_)
            first|refine k_d ?_|refine dG (hc:=fun _=>Calm.fieldAddr ty_field_104_1 rfl) (h:=?_)
            first|refine k_d ?_|refine dL (hc:=ld_ ty_plain_3 rfl) (h:=?_)
            first|refine k_d ?_|refine dG (hc:=fun _=>Calm.bin rfl rfl b_lss) (h:=?_)
            refine dP (hc:=fun _=>(by first | exact Calm.pickT rfl rfl | exact Calm.pickF rfl rfl)) (h:=?_)
            refine dP (hc:=fun _=>Calm.move rfl) (h:=?_)
            first|refine k_d ?_|refine dG (hc:=fun _=>Calm.fieldAddr ty_field_104_1 rfl) (h:=?_)
            first|refine k_d ?_|refine dL (hc:=ld_ ty_plain_3 rfl) (h:=?_)
            first|refine k_d ?_|refine dG (hc:=fun _=>Calm.fieldAddr ty_field_25_1 rfl) (h:=?_)
            first|refine k_d ?_|refine dL (hc:=ld_ ty_plain_22 rfl) (h:=?_)
            first|refine k_d ?_|refine dG (hc:=fun _=>Calm.move rfl) (h:=?_)
            first|refine k_d ?_|refine dG (hc:=fun _=>Calm.indexS Tryz.underlying22 ty_size_101 rfl rfl (by omega) (by omega)) (h:=?_)
            first|refine k_d ?_|refine dG (hc:=fun _=>Calm.fieldAddr ty_field_101_1 rfl) (h:=?_)
            first|refine k_d ?_|refine dL (hc:=Calm.loadK ty_plain_9 rfl ((kn_at hkp 1 rfl).less less_)) (h:=?_)
            first|refine k_d ?_|refine dL (hc:=Calm.lenStr (strT_spec ty_str_9) rfl) (h:=?_)
            first|refine k_d ?_|refine dG (hc:=fun _=>Calm.bin rfl rfl b_quo_i64) (h:=?_)
            first|refine k_d ?_|refine dG (hc:=fun _=>Calm.bin rfl rfl b_geq) (h:=?_)
            refine dP (hc:=fun _=>(by first | exact Calm.pickT rfl rfl | exact Calm.pickF rfl rfl)) (h:=?_)
            refine dP (hc:=fun _=>Calm.move rfl) (h:=?_)
            first|refine k_d ?_|refine dG (hc:=fun _=>Calm.fieldAddr ty_field_104_2 rfl) (h:=?_)
            first|refine k_d ?_|refine dL (hc:=ld_ ty_plain_9 rfl) (h:=?_)
            first|refine k_d ?_|refine dL (hc:=Calm.lenStr (strT_spec ty_str_9) rfl) (h:=?_)
            first|refine k_d ?_|refine dG (hc:=fun _=>Calm.bin rfl rfl b_neq) (h:=?_)
            refine dP (hc:=fun _=>(by first | exact Calm.pickT rfl rfl | exact Calm.pickF rfl rfl)) (h:=?_)
            refine draw_nil ?_
            refine athen_n ?_
            refine k_u [(1,_),(84,_),(85,_),(86,_),(87,_),(6,_),(7,_),(120,_)] ?_
            refine k_F rfl ?_
            refine AWP.skip ?_
            refine ain_n ?_
            refine athen_n ?_
            refine AWP.region ?_
            refine rC (Calm.bin rfl rfl b_add_i64) ?_
            refine k_m rfl (k_n ?_)
            refine ⟨i+1,?_,?_,?_,?_⟩
            all_goals (try dsimp only)
            ·exact ⟨rfl,rfl,rfl,rfl,trivial⟩
            ·exact less_
            ·exact ⟨hc,hall' (hwp.2 ⟨by omega,by omega,q9⟩)⟩
            ·omega
           ·refine AWP.seq ?_
            refine AWP.draw [(0,true),(1,true),(2,true),(3,true),(4,true),(5,true),(6,true),(7,true),(8,true),(9,true),(10,true),(11,true),(12,true),(13,true),(14,true),(15,true),(16,true),(17,true),(18,true),(19,true),(20,true),(21,true),(22,true),(23,true),(24,true),(25,true)] [] mixed (by kernel_rfl) ?_
            refine dP (hc:=fun _=>Calm.move rfl) (h:=?_)
            refine dP (hc:=fun _=>Calm.bin rfl rfl b_lss) (h:=?_)
            refine dP (hc:=fun _=>Calm.move rfl) (h:=?_)
            first|refine k_d ?_|refine dG (hc:=fun _=>Calm.fieldAddr ty_field_104_1 rfl) (h:=?_)
            first|refine k_d ?_|refine dL (hc:=ld_ ty_plain_3 rfl) (h:=?_)
            first|refine k_d ?_|refine dG (hc:=fun _=>Calm.bin rfl rfl b_lss) (h:=?_)
            refine dP (hc:=fun _=>(by first | exact Calm.pickT rfl rfl | exact Calm.pickF rfl rfl)) (h:=?_)
            refine dP (hc:=fun _=>Calm.move rfl) (h:=?_)
            first|refine k_d ?_|refine dG (hc:=fun _=>Calm.fieldAddr ty_field_104_1 rfl) (h:=?_)
            first|refine k_d ?_|refine dL (hc:=ld_ ty_plain_3 rfl) (h:=?_)
            first|refine k_d ?_|refine dG (hc:=fun _=>Calm.fieldAddr ty_field_25_1 rfl) (h:=?_)
            first|refine k_d ?_|refine dL (hc:=ld_ ty_plain_22 rfl) (h:=?_)
            first|refine k_d ?_|refine dG (hc:=fun _=>Calm.move rfl) (h:=?_)
            first|refine k_d ?_|refine dG (hc:=fun _=>Calm.indexS Tryz.underlying22 ty_size_101 rfl rfl (by omega) (by omega)) (h:=?_)
            first|refine k_d ?_|refine dG (hc:=fun _=>Calm.fieldAddr ty_field_101_1 rfl) (h:=?_)
            first|refine k_d ?_|refine dL (hc:=Calm.loadK ty_plain_9 rfl ((kn_at hkp 1 rfl).less less_)) (h:=?_)
            first|refine k_d ?_|refine dL (hc:=Calm.lenStr (strT_spec ty_str_9) rfl) (h:=?_)
            first|refine k_d ?_|refine dG (hc:=fun _=>Calm.bin rfl rfl b_quo_i64) (h:=?_)
            first|refine k_d ?_|refine dG (hc:=fun _=>Calm.bin rfl rfl b_geq) (h:=?_)
            refine dP (hc:=fun _=>(by first | exact Calm.pickT rfl rfl | exact Calm.pickF rfl rfl)) (h:=?_)
            refine dP (hc:=fun _=>Calm.move rfl) (h:=?_)
            first|refine k_d ?_|refine dG (hc:=fun _=>Calm.fieldAddr ty_field_104_2 rfl) (h:=?_)
            first|refine k_d ?_|refine dL (hc:=ld_ ty_plain_9 rfl) (h:=?_)
            first|refine k_d ?_|refine dL (hc:=Calm.lenStr (strT_spec ty_str_9) rfl) (h:=?_)
            first|refine k_d ?_|refine dG (hc:=fun _=>Calm.bin rfl rfl b_neq) (h:=?_)
            refine dP (hc:=fun _=>(by first | exact Calm.pickT rfl rfl | exact Calm.pickF rfl rfl)) (h:=?_)
            refine draw_nil ?_
            refine athen_n ?_
            refine k_u [(1,_),(84,_),(85,_),(86,_),(87,_),(6,_),(7,_),(120,_)] ?_
            refine k_T rfl ?_
            refine k_a (k_e rfl ?_)
            refine AWP.ret ?_
            refine ain_ret ?_
            refine athen_ret ?_
            refine athen_ret ?_
            refine ain_ret ?_
            refine athen_ret ?_
            refine ⟨_,S,⟨_,_,rfl,rfl,rfl⟩,hT1.trans less_,?_⟩
            exact ⟨by rw [chkD_no (hwn (fun h=>q9 (hwp.1 h).2.2))];rfl,rfl⟩
        ·have hfn:fnd ext w.1 = -1:=by unfold fnd;rw [if_neg q6]
         rw [hfn]
         refine AWP.seq ?_
         refine AWP.draw [(0,true),(1,true),(2,true),(3,true),(4,true),(5,true),(6,true),(7,true),(8,true),(9,true),(10,true),(11,true),(12,true),(13,true),(14,true),(15,true),(16,true),(17,true),(18,true),(19,true),(20,true),(21,true),(22,true),(23,true),(24,true),(25,true)] [] mixed (by kernel_rfl) ?_
         refine dP (hc:=fun _=>Calm.move rfl) (h:=?_)
         refine dP (hc:=fun _=>Calm.bin rfl rfl b_lss) (h:=?_)
         refine dP (hc:=fun _=>Calm.move rfl) (h:=?_)
         first|refine k_d ?_|refine dG (hc:=fun _=>Calm.fieldAddr ty_field_104_1 rfl) (h:=?_)
         first|refine k_d ?_|refine dL (hc:=ld_ ty_plain_3 rfl) (h:=?_)
         first|refine k_d ?_|refine dG (hc:=fun _=>Calm.bin rfl rfl b_lss) (h:=?_)
         refine dP (hc:=fun _=>(by first | exact Calm.pickT rfl rfl | exact Calm.pickF rfl rfl)) (h:=?_)
         refine dP (hc:=fun _=>Calm.move rfl) (h:=?_)
         first|refine k_d ?_|refine dG (hc:=fun _=>Calm.fieldAddr ty_field_104_1 rfl) (h:=?_)
         first|refine k_d ?_|refine dL (hc:=ld_ ty_plain_3 rfl) (h:=?_)
         first|refine k_d ?_|refine dG (hc:=fun _=>Calm.fieldAddr ty_field_25_1 rfl) (h:=?_)
         first|refine k_d ?_|refine dL (hc:=ld_ ty_plain_22 rfl) (h:=?_)
         first|refine k_d ?_|refine dG (hc:=fun _=>Calm.move rfl) (h:=?_)
         first|refine k_d ?_|refine dG (hc:=fun _=>Calm.indexS Tryz.underlying22 ty_size_101 rfl rfl (by omega) (by omega)) (h:=?_)
         first|refine k_d ?_|refine dG (hc:=fun _=>Calm.fieldAddr ty_field_101_1 rfl) (h:=?_)
         first|refine k_d ?_|refine dL (hc:=ld_ ty_plain_9 rfl) (h:=?_)
         first|refine k_d ?_|refine dL (hc:=Calm.lenStr (strT_spec ty_str_9) rfl) (h:=?_)
         first|refine k_d ?_|refine dG (hc:=fun _=>Calm.bin rfl rfl b_quo_i64) (h:=?_)
         first|refine k_d ?_|refine dG (hc:=fun _=>Calm.bin rfl rfl b_geq) (h:=?_)
         refine dP (hc:=fun _=>(by first | exact Calm.pickT rfl rfl | exact Calm.pickF rfl rfl)) (h:=?_)
         refine dP (hc:=fun _=>Calm.move rfl) (h:=?_)
         first|refine k_d ?_|refine dG (hc:=fun _=>Calm.fieldAddr ty_field_104_2 rfl) (h:=?_)
         first|refine k_d ?_|refine dL (hc:=ld_ ty_plain_9 rfl) (h:=?_)
         first|refine k_d ?_|refine dL (hc:=Calm.lenStr (strT_spec ty_str_9) rfl) (h:=?_)
         first|refine k_d ?_|refine dG (hc:=fun _=>Calm.bin rfl rfl b_neq) (h:=?_)
         refine dP (hc:=fun _=>(by first | exact Calm.pickT rfl rfl | exact Calm.pickF rfl rfl)) (h:=?_)
         refine draw_nil ?_
         refine athen_n ?_
         refine k_u [(1,_),(84,_),(85,_),(86,_),(87,_),(6,_),(7,_),(120,_)] ?_
         refine k_T rfl ?_
         refine k_a (k_e rfl ?_)
         refine AWP.ret ?_
         refine ain_ret ?_
         refine athen_ret ?_
         refine athen_ret ?_
         refine ain_ret ?_
         refine athen_ret ?_
         refine ⟨_,S,⟨_,_,rfl,rfl,rfl⟩,hT1.trans less_,?_⟩
         exact ⟨by rw [chkD_no (hwn (fun h=>q6 (hwh h)))];rfl,rfl⟩
       ·have hc:i=waits.length:=by have:=of_decide_eq_false hc;omega
        refine AWP.exit ?_
        refine athen_exit ?_
        refine athen_exit ?_
        refine ain_same ?_
        refine athen_n ?_
        refine k_a (k_e rfl ?_)
        refine AWP.ret ?_
        refine ⟨_,S,⟨_,_,rfl,rfl,rfl⟩,hT1.trans less_,?_⟩
        exact ⟨by rw [chkD_yes ⟨by simp only;omega,by simp only;omega,by simp only;omega,by simp only;omega,q5,fun w hw=>by obtain ⟨j,hj,rfl⟩:=List.getElem_of_mem hw;exact hall j hj (by have h':j<waits.length:=hj;omega)⟩];rfl,rfl⟩
end Go.Proofs.YtkeiphkccnfhoaaGreat
namespace Go.Proofs.YtkeiphkccnfhoaaGreat
open Go.RowKit
open Mv Disk
set_option maxRecDepth 4000
/-- A disk is handed back, in memory that has grown. -/
def DkOut (d : D) (S : Mem) (r : Value) (S' : Mem) : Prop := S.Less S' ∧ DkR S' r d
theorem rd_CopyW (v : Value) (d : D) (S : Mem) (hd : DkR S v d) (hz : Dz d) : ACall Tryz.prog 29 #[v] S (DkOut d S) :=
 (rd_Copy v d S hd hz.el hz.wl).mono fun r S' ⟨oE,oW,hok,hr,hS⟩=>by
  subst hr hS
  exact ⟨hok.less,hok.dk (Nat.le_trans hz.el (by decide)) (Nat.le_trans hz.wl (by decide))⟩
theorem rd_power (v : Value) (d : D) (S : Mem) (hd : DkR S v d) (hz : Dz d) :
  ACall Tryz.prog 87 #[v] S fun r S'=>r = .int .i64 (openD d).2∧S'=S:=by
 have hcheck:=fun M h=>rd_Check v d M h hz
 obtain ⟨pe,ce,pw,cw,rfl,hE,hW⟩:=id hd
 unfold openD
 rcases chkD_or d with ⟨hk,hR⟩ | ⟨hk,hR⟩
 ·rw [if_pos hk]
  refine ACall.enter (rs:=[.tmp 2]) 8 [(0,.agg #[.int .i64 d.size,.slice pe d.ext.length ce,.slice pw d.waits.length cw,.int .i64 d.fuse,.bool d.down])] Tryz.func87 rfl rfl (Nat.le_of_ble_eq_true rfl) rfl ⟨rfl,trivial⟩ ?_
  refine k_a ?_
  refine k_b5 rfl ?_
  intro b1 f1
  have g1:=f1
  repeat ((with_reducible replace g1:=fresh_set g1);obtain ⟨g1,_⟩:=g1)
  try simp only [k_l1,k_l0,k_za,Nat.reduceAdd]
  refine k_e rfl (AWP.seq (k_a ?_))
  refine k_5 ty_agg_25 ty_size_25 rfl ?_
  refine ARun.call (lit_lt rfl) go_53 rfl (hcheck _ (hd.less less_)) ?_
  rintro _ S1 ⟨rfl,h1⟩
  rw [h1,hk];clear h1 S1
  refine rC (Calm.bin rfl rfl b_neq) ?_
  refine k_n ?_
  refine k_u [(0,_),(1,_),(2,_),(5,_)] ?_
  refine k_F rfl ?_
  refine k_k (AWP.seq (k_a ?_))
  refine rC (Calm.fieldAddr ty_field_25_4 rfl) ?_
  refine rC (ld_ ty_plain_4 rfl) ?_
  refine k_n ?_
  refine k_u [(0,_),(1,_),(2,_),(5,_),(7,_)] ?_
  refine AWP.condB rfl (fun hb=>?_) (fun hb=>?_)
  ·refine k_a (k_e rfl ?_)
   refine k_r ?_
   refine ⟨_,S,⟨_,_,rfl,rfl,rfl⟩,less_,?_⟩
   exact ⟨by rw [if_pos hb];rfl,rfl⟩
  ·refine k_k (k_a (k_e rfl ?_))
   refine AWP.ret ?_
   refine ⟨_,S,⟨_,_,rfl,rfl,rfl⟩,less_,?_⟩
   exact ⟨by rw [if_neg (Bool.eq_false_iff.1 hb)];rfl,rfl⟩
 ·rw [if_neg (by rw [hk];decide)]
  refine ACall.enter (rs:=[.tmp 2]) 8 [(0,.agg #[.int .i64 d.size,.slice pe d.ext.length ce,.slice pw d.waits.length cw,.int .i64 d.fuse,.bool d.down])] Tryz.func87 rfl rfl (Nat.le_of_ble_eq_true rfl) rfl ⟨rfl,trivial⟩ ?_
  refine k_a ?_
  refine k_b5 rfl ?_
  intro b1 f1
  have g1:=f1
  repeat ((with_reducible replace g1:=fresh_set g1);obtain ⟨g1,_⟩:=g1)
  try simp only [k_l1,k_l0,k_za,Nat.reduceAdd]
  refine k_e rfl (AWP.seq (k_a ?_))
  refine k_5 ty_agg_25 ty_size_25 rfl ?_
  refine ARun.call (lit_lt rfl) go_53 rfl (hcheck _ (hd.less less_)) ?_
  rintro _ S1 ⟨rfl,h1⟩
  rw [h1,hk];clear h1 S1
  refine rC (Calm.bin rfl rfl b_neq) ?_
  refine k_n ?_
  refine k_u [(0,_),(1,_),(2,_),(5,_)] ?_
  refine k_T rfl ?_
  refine k_a (k_e rfl ?_)
  refine k_r ?_
  refine ⟨_,S,⟨_,_,rfl,rfl,rfl⟩,less_,?_⟩
  exact ⟨rfl,rfl⟩
noncomputable def asD (d : D) (why : Int) : D × Int := if why = 2 ∧ chkD d ≠ 0 then (D0, 2) else (d, why)
theorem asD_ok {d : D} (h : Right d) (why : Int) : asD d why = (d, why) := by unfold asD; rw [if_neg (fun q => q.2 (chkD_yes h))]
theorem asD_no {d : D} (h : ¬ Right d) : asD d 2 = (D0, 2) := by unfold asD; rw [if_pos ⟨rfl, by rw [chkD_no h]; decide⟩]
set_option maxHeartbeats 1000000 in
theorem rd_as (v : Value) (d : D) (why : Int) (S : Mem) (hd : DkR S v d) (hz : Dz d) :
  ACall Tryz.prog 88 #[v,.int .i64 why] S (DkRes (asD d why) S):=by
 have hcheck:=fun M h=>rd_Check v d M h hz
 have hcopy:=rd_CopyW v d S hd hz
 obtain ⟨pe,ce,pw,cw,rfl,hE,hW⟩:=id hd
 unfold asD
 by_cases q:why=2
 ·subst q
  rcases chkD_or d with ⟨hk,hR⟩ | ⟨hk,hR⟩
  ·rw [if_neg (fun q=>q.2 hk)]
   refine ACall.enter (rs:=[.cell 4 25,.tmp 5]) 18 [(0,.agg #[.int .i64 d.size,.slice pe d.ext.length ce,.slice pw d.waits.length cw,.int .i64 d.fuse,.bool d.down]),(1,.int .i64 2)] Tryz.func88 rfl rfl (Nat.le_of_ble_eq_true rfl) rfl ⟨rfl,rfl,trivial⟩ ?_
   refine k_a ?_
   refine k_b5 rfl ?_
   intro b2 f2
   have g2:=f2
   repeat ((with_reducible replace g2:=fresh_set g2);obtain ⟨g2,_⟩:=g2)
   try simp only [k_l1,k_l0,k_za,Nat.reduceAdd]
   refine ARun.alloc (lit_lt rfl) ty_zero_25 ?_
   intro b4 f4
   have g4:=f4
   repeat ((with_reducible replace g4:=fresh_set g4);obtain ⟨g4,_⟩:=g4)
   try simp only [k_l1,k_l0,k_za,Nat.reduceAdd]
   refine k_e rfl (AWP.seq (k_a (k_m rfl ?_)))
   refine rC (Calm.bin rfl rfl b_eql) ?_
   refine k_m rfl ?_
   first|refine k_q 8 ?_|refine rG 8 (ldA_ (cs:=[_,_,_,_,_]) ty_agg_25 ty_size_25 rfl) ?_
   refine ARun.callG 2 true 8 rfl (lit_lt rfl) rfl (lit_lt rfl) go_53 rfl (hcheck _ (hd.less less_)) ?_
   rintro _ S1 ⟨rfl,h1⟩
   rw [h1,hk];clear h1 S1
   first|refine k_q 8 ?_|refine rG 8 (Calm.bin rfl rfl b_neq) ?_
   first|refine k_t rfl rfl ?_|refine k_f rfl rfl ?_
   refine k_n ?_
   refine k_u [(0,_),(1,_),(2,_),(4,_),(5,_),(12,_)] ?_
   refine k_F rfl ?_
   refine k_k (k_a ?_)
   refine k_5 ty_agg_25 ty_size_25 rfl ?_
   refine ARun.call (lit_lt rfl) go_29 rfl ((hcopy.frame f2).frame f4) ?_
   rintro _ S1 ⟨Sa,⟨M,⟨hSM,hdk⟩,fa,hSa⟩,fb,h1⟩
   rw [h1,hSa];rw [hSa] at fb;clear h1 S1 hSa Sa
   obtain ⟨fbm,_⟩:=fresh_set fb
   obtain ⟨qe,de,qw,dw,rfl,_⟩:=id hdk
   refine k_m rfl ?_
   first|refine k_A rfl rfl ty_size_25 ?_|refine k_B rfl rfl ty_size_25 ?_
   try simp only [k_ms,k_sz,k_ss,k_za,Nat.reduceAdd]
   refine k_e rfl ?_
   refine k_u [(0,_),(1,_),(2,_),(4,_),(5,_),(12,_)] ?_
   refine AWP.ret ?_
   refine ⟨_,M,⟨_,_,_,rfl,.inr ⟨ty_agg_25,[_,_,_,_,_],ty_size_25,rds_,rfl⟩,⟨_,_,rfl,rfl,rfl⟩,rfl⟩,less_,?_⟩
   exact ⟨_,rfl,hSM,hdk⟩
  ·rw [if_pos ⟨rfl,by rw [hk];decide⟩]
   refine ACall.enter (rs:=[.cell 4 25,.tmp 5]) 18 [(0,.agg #[.int .i64 d.size,.slice pe d.ext.length ce,.slice pw d.waits.length cw,.int .i64 d.fuse,.bool d.down]),(1,.int .i64 2)] Tryz.func88 rfl rfl (Nat.le_of_ble_eq_true rfl) rfl ⟨rfl,rfl,trivial⟩ ?_
   refine k_a ?_
   refine k_b5 rfl ?_
   intro b2 f2
   have g2:=f2
   repeat ((with_reducible replace g2:=fresh_set g2);obtain ⟨g2,_⟩:=g2)
   try simp only [k_l1,k_l0,k_za,Nat.reduceAdd]
   refine ARun.alloc (lit_lt rfl) ty_zero_25 ?_
   intro b4 f4
   have g4:=f4
   repeat ((with_reducible replace g4:=fresh_set g4);obtain ⟨g4,_⟩:=g4)
   try simp only [k_l1,k_l0,k_za,Nat.reduceAdd]
   refine k_e rfl (AWP.seq (k_a (k_m rfl ?_)))
   refine rC (Calm.bin rfl rfl b_eql) ?_
   refine k_m rfl ?_
   first|refine k_q 8 ?_|refine rG 8 (ldA_ (cs:=[_,_,_,_,_]) ty_agg_25 ty_size_25 rfl) ?_
   refine ARun.callG 2 true 8 rfl (lit_lt rfl) rfl (lit_lt rfl) go_53 rfl (hcheck _ (hd.less less_)) ?_
   rintro _ S1 ⟨rfl,h1⟩
   rw [h1,hk];clear h1 S1
   first|refine k_q 8 ?_|refine rG 8 (Calm.bin rfl rfl b_neq) ?_
   first|refine k_t rfl rfl ?_|refine k_f rfl rfl ?_
   refine k_n ?_
   refine k_u [(0,_),(1,_),(2,_),(4,_),(5,_),(12,_)] ?_
   refine k_T rfl ?_
   refine k_a ?_
   refine rC (Calm.build (cs:=[_,_,_,_,_]) ty_bld_25 rfl rfl) ?_
   refine k_m rfl ?_
   first|refine k_A rfl rfl ty_size_25 ?_|refine k_B rfl rfl ty_size_25 ?_
   try simp only [k_ms,k_sz,k_ss,k_za,Nat.reduceAdd]
   refine k_e rfl ?_
   refine k_u [(0,_),(1,_),(2,_),(4,_),(5,_),(12,_)] ?_
   refine k_r ?_
   refine ⟨_,S,⟨_,_,_,rfl,.inr ⟨ty_agg_25,[_,_,_,_,_],ty_size_25,rds_,rfl⟩,⟨_,_,rfl,rfl,rfl⟩,rfl⟩,less_,?_⟩
   exact ⟨_,rfl,Mem.Less.refl _,dkR_zero S⟩
 ·rw [if_neg (fun h=>q h.1)]
  refine ACall.enter (rs:=[.cell 4 25,.tmp 5]) 18 [(0,.agg #[.int .i64 d.size,.slice pe d.ext.length ce,.slice pw d.waits.length cw,.int .i64 d.fuse,.bool d.down]),(1,.int .i64 why)] Tryz.func88 rfl rfl (Nat.le_of_ble_eq_true rfl) rfl ⟨rfl,rfl,trivial⟩ ?_
  refine k_a ?_
  refine k_b5 rfl ?_
  intro b2 f2
  have g2:=f2
  repeat ((with_reducible replace g2:=fresh_set g2);obtain ⟨g2,_⟩:=g2)
  try simp only [k_l1,k_l0,k_za,Nat.reduceAdd]
  refine ARun.alloc (lit_lt rfl) ty_zero_25 ?_
  intro b4 f4
  have g4:=f4
  repeat ((with_reducible replace g4:=fresh_set g4);obtain ⟨g4,_⟩:=g4)
  try simp only [k_l1,k_l0,k_za,Nat.reduceAdd]
  refine k_e rfl (AWP.seq (k_a (k_m rfl ?_)))
  refine rC (Calm.bin rfl rfl b_eql) ?_
  refine k_m rfl ?_
  first|refine k_q 8 ?_|refine rG 8 (ldA_ (cs:=[_,_,_,_,_]) ty_agg_25 ty_size_25 rfl) ?_
  first | refine rS 8 ?_ | refine rU 8 ?_
  first|refine k_q 8 ?_|refine rG 8 (Calm.bin rfl rfl b_neq) ?_
  first|refine k_t rfl rfl ?_|refine k_f rfl rfl ?_
  refine k_n ?_
  refine k_u [(0,_),(1,_),(2,_),(4,_),(5,_),(12,_)] ?_
  refine k_F rfl ?_
  refine k_k (k_a ?_)
  refine k_5 ty_agg_25 ty_size_25 rfl ?_
  refine ARun.call (lit_lt rfl) go_29 rfl ((hcopy.frame f2).frame f4) ?_
  rintro _ S1 ⟨Sa,⟨M,⟨hSM,hdk⟩,fa,hSa⟩,fb,h1⟩
  rw [h1,hSa];rw [hSa] at fb;clear h1 S1 hSa Sa
  obtain ⟨fbm,_⟩:=fresh_set fb
  obtain ⟨qe,de,qw,dw,rfl,_⟩:=id hdk
  refine k_m rfl ?_
  first|refine k_A rfl rfl ty_size_25 ?_|refine k_B rfl rfl ty_size_25 ?_
  try simp only [k_ms,k_sz,k_ss,k_za,Nat.reduceAdd]
  refine k_e rfl ?_
  refine k_u [(0,_),(1,_),(2,_),(4,_),(5,_),(12,_)] ?_
  refine AWP.ret ?_
  refine ⟨_,M,⟨_,_,_,rfl,.inr ⟨ty_agg_25,[_,_,_,_,_],ty_size_25,rds_,rfl⟩,⟨_,_,rfl,rfl,rfl⟩,rfl⟩,less_,?_⟩
  exact ⟨_,rfl,hSM,hdk⟩
end Go.Proofs.YtkeiphkccnfhoaaGreat
namespace Go.Proofs.YtkeiphkccnfhoaaGreat
open Go.RowKit
namespace Mv
section
variable {P : Program} {N : Nat} {l : List Oper} {W : List Nat} {S0 : Mem} {K : Env → Mem → Prop}
/-- From here on, whatever comes up. -/
def DG (P : Program) (N : Nat) (l : List Oper) (W : List Nat) (S0 : Mem) (K : Env → Mem → Prop) (n : Nat) (listed : Array Bool) (E : Env) (S : Mem) : Prop :=
  ∀ w0 a w, Closed l.toArray listed → Good N E a → View S w → Step S0 w0 S w → wpAnyG P l.toArray (Q0 N K S0 w0) (fun i => W.contains i) (View S0) n listed a w
theorem DG.nil {listed : Array Bool} {E : Env} {S : Mem} (hr : Region.ready .any l.toArray listed = []) (h : K E S) : DG P N l W S0 K 0 listed E S :=
 fun w0 a w _ g hv hs=>⟨hr,E,S,h,g,hs⟩
/-- Each of those that may come up. -/
theorem DG.fork {n : Nat} {listed : Array Bool} {E : Env} {S : Mem} (is : List Nat) (hr : (Region.ready .any l.toArray listed == is) = true) (hne : is ≠ [])
  (h:∀ i ∈ is,∃ o,l[i]?=some o∧AOp P N l.toArray o (fun E' S'=>(W.contains i=false→S0.Less S')∧DG P N l W S0 K n (listed.setIfInBounds i true) E' S') E S):DG P N l W S0 K (n+1) listed E S:=fun w0 a w hcl g hv hs=>by
 have hr:=beq_iff_eq.1 hr
 refine ⟨fun h0=>absurd (hr.symm.trans h0) hne,fun j hj=>?_⟩
 have hj':=hj
 rw [hr] at hj
 obtain ⟨o,ho,hop⟩:=h j hj
 have h1:=hop a w g hv
 unfold wpOp
 have ho':l.toArray[j]?=some o:=by simpa using ho
 simp only [ho']
 have next:∀ a1 w1,Post N (fun E' S'=>(W.contains j=false→S0.Less S')∧DG P N l W S0 K n (listed.setIfInBounds j true) E' S') S w a1 w1→(W.contains j=false→View S0 w→View S0 w1)∧wpAnyG P l.toArray (Q0 N K S0 w0) (fun i=>W.contains i) (View S0) n (listed.setIfInBounds j true) a1 w1:=fun a1 w1 ⟨E1,S1,⟨k1,k2⟩,g1,s1⟩ =>
  ⟨fun hw _=>s1.view.less (k1 hw),k2 w0 a1 w1 (closed_put hcl hj') g1 s1.view (hs.trans s1)⟩
 split
 ·rename_i hw;rw [if_pos hw] at h1
  exact .inl (upon_noQ (Oper.wp_mono next h1))
 ·rename_i hw;rw [if_neg hw] at h1
  exact next _ _ h1
theorem DG.fork1 {n : Nat} {listed : Array Bool} {E : Env} {S : Mem} (i : Nat) (hr : (Region.ready .any l.toArray listed == [i]) = true)
  (h:∃ o,l[i]?=some o∧AOp P N l.toArray o (fun E' S'=>(W.contains i=false→S0.Less S')∧DG P N l W S0 K n (listed.setIfInBounds i true) E' S') E S):DG P N l W S0 K (n+1) listed E S :=
 DG.fork [i] hr (by simp) fun j hj=>by
  have e:j=i:=by simpa using hj
  rw [e];exact h
theorem DG.fork2 {n : Nat} {listed : Array Bool} {E : Env} {S : Mem} (i j : Nat) (hr : (Region.ready .any l.toArray listed == [i, j]) = true)
  (h:∃ o,l[i]?=some o∧AOp P N l.toArray o (fun E' S'=>(W.contains i=false→S0.Less S')∧DG P N l W S0 K n (listed.setIfInBounds i true) E' S') E S)
  (k:∃ o,l[j]?=some o∧AOp P N l.toArray o (fun E' S'=>(W.contains j=false→S0.Less S')∧DG P N l W S0 K n (listed.setIfInBounds j true) E' S') E S):DG P N l W S0 K (n+1) listed E S :=
 DG.fork [i,j] hr (by simp) fun q hq=>by
  rcases List.mem_cons.1 hq with rfl | hq
  ·exact h
  ·obtain rfl:q=j:=by simpa using hq
   exact k
/-- One that only looks is taken first. -/
theorem DG.first {n : Nat} {listed : Array Bool} {E : Env} {S : Mem} (i : Nat) (hsel : Region.noSelect l.toArray = true) (hc1 : mayFirst l W listed i = true)
  (h:∃ o d v,l[i]?=some o∧o.dst=some d∧d<N∧(pureOp o=true∨S0.Less S)∧ACalmG P N l.toArray o E (if pureOp o then noMem else S0) v∧DG P N l W S0 K n (listed.setIfInBounds i true) ((d,v) :: E) S):DG P N l W S0 K (n+1) listed E S:=fun w0 a w hcl g hv hs=>by
 obtain ⟨o,d,v,ho,hd,hn,hless,hcalm,hrest⟩:=h
 simp only [mayFirst,Bool.and_eq_true,Bool.or_eq_true] at hc1
 obtain ⟨⟨hr,hf⟩,hp⟩:=hc1
 have ho':l.toArray[i]?=some o:=by simpa using ho
 have hri:i ∈ Region.ready .any l.toArray listed:=by simpa using hr
 let D:World→Prop:=fun w'=>if pureOp o=true then True else View S0 w'
 have hDw:D w:=by
  simp only [D]
  split
  ·trivial
  ·rename_i hx
   exact hv.less (hless.resolve_left hx)
 have hmem:∀ w',D w'→View (if pureOp o then noMem else S0) w':=fun w' h=>by
  simp only [D] at h
  split
  ·exact view_noMem _
  ·rename_i hx;rw [if_neg hx] at h;exact h
 refine wpAnyG_first (D:=D) (v:=v) ho' (Region.noSelect_spec hsel) (fun c a w h=>h) ?_ n listed a w hcl (Region.free_spec ho' hf) hri ?_ hDw ?_
 ·intro j w1 w2 listed' hcl' hun hj hD1 hpres
  simp only [D] at hD1 ⊢
  split
  ·trivial
  ·rename_i hx
   rw [if_neg hx] at hD1
   refine hpres ?_ hD1
   rcases hp with hp | hp
   ·rw [ho] at hp;exact absurd (by simpa using hp) hx
   ·cases hwc:W.contains j with
    | false=>rfl
    | true =>
     have h1:=List.all_eq_true.1 hp j (by simpa using hwc)
     obtain ⟨hju,oj,hoj,hall⟩:=mem_ready.1 hj
     have h2:=waitsFor_spec h1 listed' hcl' fun o2 ho2 e he hb=>by
      obtain rfl:oj=o2:=Option.some.inj (hoj.symm.trans ho2)
      exact hall e he hb
     rcases Nat.lt_or_ge i listed'.size with hlt | hge
     ·simp [hlt] at hun h2;rw [hun] at h2;cases h2
     ·simp [Array.getElem?_eq_none hge] at h2
 ·by_cases hw:Region.wanted o (yielded l.toArray a.tmps)=true
  ·refine .inl ⟨hw,fun w' hD'=>?_⟩
   rcases hcalm a w' g (hmem w' hD') with h1 | h1
   ·exact h1.2
   ·rw [hw] at h1;cases h1.1
  ·rcases hcalm a w g (hmem w hDw) with h1 | h1
   ·exact absurd h1.1 hw
   ·exact .inr h1
 ·rw [hd]
  exact hrest w0 _ w (closed_put hcl hri) (g.put hn v) hv hs
theorem DG.pure {n : Nat} {listed : Array Bool} {E : Env} {S : Mem} {o : Oper} {d : Nat} {v : Value} (i : Nat) (hsel : Region.noSelect l.toArray = true) (hc1 : mayFirst l W listed i = true) (ho : l[i]? = some o) (hp : pureOp o = true) (hg : o.guard = none) (hd : o.dst = some d) (hn : d < N)
  (hc:∀ S',ACalm P N o E S' v) (h:DG P N l W S0 K n (listed.setIfInBounds i true) ((d,v) :: E) S):DG P N l W S0 K (n+1) listed E S :=
 DG.first i hsel hc1 ⟨o,d,v,ho,hd,hn,.inl hp,fun a w g hv=>.inl ⟨by simp [Region.wanted,hg],hc _ a w g hv⟩,h⟩
theorem DG.look {n : Nat} {listed : Array Bool} {E : Env} {S : Mem} {o : Oper} {d : Nat} {v : Value} (i : Nat) (hsel : Region.noSelect l.toArray = true) (hc1 : mayFirst l W listed i = true) (ho : l[i]? = some o) (hp : pureOp o = false) (hg : o.guard = none) (hd : o.dst = some d) (hn : d < N) (hl : S0.Less S)
  (hc:ACalm P N o E S0 v) (h:DG P N l W S0 K n (listed.setIfInBounds i true) ((d,v) :: E) S):DG P N l W S0 K (n+1) listed E S :=
 DG.first i hsel hc1 ⟨o,d,v,ho,hd,hn,.inr hl,fun a w g hv=>.inl ⟨by simp [Region.wanted,hg],by rw [hp] at hv;exact hc a w g hv⟩,h⟩
theorem DG.only {n : Nat} {listed : Array Bool} {E : Env} {S : Mem} {o : Oper} (i : Nat) (hr : (Region.ready .any l.toArray listed == [i]) = true) (ho : l[i]? = some o)
  (h:ARun P N l.toArray [o] (fun E' S'=>(W.contains i=false→S0.Less S')∧DG P N l W S0 K n (listed.setIfInBounds i true) E' S') E S):DG P N l W S0 K (n+1) listed E S:=DG.fork1 i hr ⟨o,ho,h⟩
theorem DG.two {n : Nat} {listed : Array Bool} {E : Env} {S : Mem} {o o' : Oper} (i j : Nat) (hr : (Region.ready .any l.toArray listed == [i, j]) = true) (ho : l[i]? = some o)
  (h:ARun P N l.toArray [o] (fun E' S'=>(W.contains i=false→S0.Less S')∧DG P N l W S0 K n (listed.setIfInBounds i true) E' S') E S) (ho':l[j]?=some o')
  (h':ARun P N l.toArray [o'] (fun E' S'=>(W.contains j=false→S0.Less S')∧DG P N l W S0 K n (listed.setIfInBounds j true) E' S') E S):DG P N l W S0 K (n+1) listed E S:=DG.fork2 i j hr ⟨o,ho,h⟩ ⟨o',ho',h'⟩
theorem DG.end_ {listed : Array Bool} {E : Env} {S : Mem} (hr : (Region.ready .any l.toArray listed).isEmpty = true) (h : K E S) : DG P N l W S0 K 0 listed E S := DG.nil (by simpa using hr) h
theorem AWP.drawG {id : Nat} {Q : Exit → Env → Mem → Prop} {E : Env} {S : Mem} (W : List Nat) (hm : P.follows .mixedOrders = true)
  (h:DG P N l W S (Q .normal) l.length (Array.replicate l.length false) E S):AWP P N (.region id l.toArray true) Q E S:=fun a w g hv=>by
 refine wp_mono (Q:=Q0 N (Q .normal) S w) ?_ (fun e a' w' x=>by cases e <;> first | exact x | exact x.elim)
 refine wp_region_any hm ?_
 refine wpAny_of_G (W:=fun i=>W.contains i) (C:=View S) _ _ _ _ ?_
 have hst:Step S w S { w with drawn:=w.drawn+1 }:=Step.drawn hv _
 have:=h w a _ (closed_start _ _) g hst.view hst
 simpa using this
end
end Mv
end Go.Proofs.YtkeiphkccnfhoaaGreat
namespace Go.Proofs.YtkeiphkccnfhoaaGreat
open Go.RowKit
open Mv Disk
set_option maxRecDepth 4000
section
variable {P : Program} {N : Nat} {E : Env} {S : Mem} {dst : Option Nat} {ty : TypeId} {pos : String} {aft : Array Edge} {gd : Option (Nat × Bool)}
end
theorem Mem.set_comm' (S : Mem) {b c : Nat} (r r' : Blk) (h : b ≠ c) : (S.set b r).set c r' = (S.set c r').set b r := by
 unfold Mem.set
 congr 1
 funext k
 by_cases e:k=c
 ·subst e;simp [Ne.symm h]
 ·simp [e]
theorem Mv.AppN.lessL {n : Nat} {M S S' : Mem} {o : Option (Nat × Nat)} {e : TypeId} {cs : List Value} (h : AppN n M S o e cs) (hl : S'.Less S) : AppN n M S' o e cs :=
 ⟨fun ho=>⟨(h.nil ho).1,hl.trans (h.nil ho).2⟩,fun b c ho=>⟨(h.own b c ho).1,hl.trans (h.own b c ho).2⟩⟩
theorem outN_lessM {n : Nat} {S S' : Mem} {o : Option (Nat × Nat)} {e : TypeId} {cs : List Value} (h : S.Less S') : (outN n S o e cs).Less (outN n S' o e cs) := by
 cases o with
 | none=>exact h
 | some z=>exact Less.set h _ _
end Go.Proofs.YtkeiphkccnfhoaaGreat
namespace Go.Proofs.YtkeiphkccnfhoaaGreat
open Go.RowKit
open Mv Disk
set_option maxRecDepth 4000
theorem outN_box {n : Nat} {S : Mem} {o : Option (Nat × Nat)} {e : TypeId} {cs : List Value} {b : Nat} {r r' : Blk} (h : ∀ q c, o = some (q, c) → b ≠ q) : (outN n (S.set b r) o e cs).set b r' = outN n (S.set b r') o e cs := by
 cases o with
 | none=>exact Mem.set_set _ _ _ _
 | some z =>
  obtain ⟨q,c⟩:=z
  show ((S.set b r).set q _).set b r'=(S.set b r').set q _
  rw [Mem.set_comm' (S.set b r) _ _ (Ne.symm (h q c rfl)),Mem.set_set]
theorem own_outN_none {n : Nat} {S : Mem} {o : Option (Nat × Nat)} {e : TypeId} {cs : List Value} {b : Nat} (hs : S.own b = none) (h : ∀ q c, o = some (q, c) → b ≠ q) : (outN n S o e cs).own b = none := by
 cases o with
 | none=>exact hs
 | some z=>obtain ⟨q,c⟩:=z;exact (Mem.own_set_other _ _ (h q c rfl)).trans hs
theorem Mv.OkO.lessL {S T : Mem} {o : Option (Nat × Nat)} {n : Nat} (h : OkO T o n) (hl : S.Less T) : OkO S o n :=
 ⟨h.nil,fun q c e=>⟨⟨(by
  have h1:=(h.own q c e).1.1
  cases hs:S.own q with
  | none=>rfl
  | some r=>rw [hl.1 q r hs] at h1;cases h1),fun a v ha=>(h.own q c e).1.2 a v (by rw [← hl.2];exact ha)⟩,(h.own q c e).2⟩⟩
def boxD (d : D) (a b : Value) : Blk := ⟨25, [.int .i64 d.size, a, b, .int .i64 d.fuse, .bool d.down], 5⟩
end Go.Proofs.YtkeiphkccnfhoaaGreat
namespace Go.Proofs.YtkeiphkccnfhoaaGreat
open Go.RowKit
open Mv Disk
set_option maxRecDepth 4000

theorem set_back (M : Mem) {b c : Nat} {r z r' : Blk} (h : c ≠ b) : ((M.set b r).set c z).set b r' = (M.set b r').set c z := by
 rw [Mem.set_comm' (M.set b r) z r' h,Mem.set_set]
end Go.Proofs.YtkeiphkccnfhoaaGreat
namespace Go.Proofs.YtkeiphkccnfhoaaGreat
open Go.RowKit
open Mv Disk
set_option maxRecDepth 4000
/-- Why there is no such sector. -/
noncomputable def placeO (d : D) (s : ByteArray) (k : Int) : Int := if (openD d).2 ≠ 0 then (openD d).2 else (placeD d s k).2
set_option maxHeartbeats 1000000 in
theorem rd_place (v : Value) (d : D) (s : ByteArray) (k : Int) (S : Mem) (hd : DkR S v d) (hz : Dz d) :
  ACall Tryz.prog 70 #[v,.string s,.int .i64 k] S fun r S'=>r = .int .i64 (placeO d s k)∧S'=S:=by
 have hpow:=fun M h=>rd_power v d M h hz
 obtain ⟨pe,ce,pw,cw,rfl,hE,hW⟩:=id hd
 unfold placeO
 rcases openD_or d with ⟨ho,hR⟩ | ⟨ho,hR,hdn⟩ | ⟨ho,hR,hdn⟩ <;> (simp only [ho] at hpow ⊢)
 ·skip
  refine ACall.enter (rs:=[.tmp 6]) 34 [(0,.agg #[.int .i64 d.size,.slice pe d.ext.length ce,.slice pw d.waits.length cw,.int .i64 d.fuse,.bool d.down]),(1,.string s),(2,.int .i64 k)] Tryz.func70 rfl rfl (Nat.le_of_ble_eq_true rfl) rfl ⟨rfl,rfl,rfl,trivial⟩ ?_
  refine k_a ?_
  refine k_b5 rfl ?_
  intro b3 f3
  have g3:=f3
  repeat ((with_reducible replace g3:=fresh_set g3);obtain ⟨g3,_⟩:=g3)
  try simp only [k_l1,k_l0,k_za,Nat.reduceAdd]
  refine k_e rfl (k_a ?_)
  refine k_5 ty_agg_25 ty_size_25 rfl ?_
  refine ARun.call (lit_lt rfl) go_87 rfl (hpow _ (hd.less less_)) ?_
  rintro _ S1 ⟨rfl,h1⟩
  rw [h1];clear h1 S1
  refine k_e rfl ?_
  refine k_u [(0,_),(1,_),(2,_),(3,_),(6,_),(7,_)] ?_
  refine AWP.seq (k_a (k_m rfl ?_))
  refine rC (Calm.bin rfl rfl b_neq) ?_
  refine k_n ?_
  refine k_u [(0,_),(1,_),(2,_),(3,_),(6,_),(7,_),(12,_)] ?_
  refine k_T rfl ?_
  refine k_a (k_m rfl (k_e rfl ?_))
  refine k_u [(0,_),(1,_),(2,_),(3,_),(6,_),(7,_),(12,_)] ?_
  refine k_r ?_
  refine ⟨_,S,⟨_,_,rfl,rfl,rfl⟩,less_,?_⟩
  exact ⟨rfl,rfl⟩
 ·skip
  refine ACall.enter (rs:=[.tmp 6]) 34 [(0,.agg #[.int .i64 d.size,.slice pe d.ext.length ce,.slice pw d.waits.length cw,.int .i64 d.fuse,.bool d.down]),(1,.string s),(2,.int .i64 k)] Tryz.func70 rfl rfl (Nat.le_of_ble_eq_true rfl) rfl ⟨rfl,rfl,rfl,trivial⟩ ?_
  refine k_a ?_
  refine k_b5 rfl ?_
  intro b3 f3
  have g3:=f3
  repeat ((with_reducible replace g3:=fresh_set g3);obtain ⟨g3,_⟩:=g3)
  try simp only [k_l1,k_l0,k_za,Nat.reduceAdd]
  refine k_e rfl (k_a ?_)
  refine k_5 ty_agg_25 ty_size_25 rfl ?_
  refine ARun.call (lit_lt rfl) go_87 rfl (hpow _ (hd.less less_)) ?_
  rintro _ S1 ⟨rfl,h1⟩
  rw [h1];clear h1 S1
  refine k_e rfl ?_
  refine k_u [(0,_),(1,_),(2,_),(3,_),(6,_),(7,_)] ?_
  refine AWP.seq (k_a (k_m rfl ?_))
  refine rC (Calm.bin rfl rfl b_neq) ?_
  refine k_n ?_
  refine k_u [(0,_),(1,_),(2,_),(3,_),(6,_),(7,_),(12,_)] ?_
  refine k_T rfl ?_
  refine k_a (k_m rfl (k_e rfl ?_))
  refine k_u [(0,_),(1,_),(2,_),(3,_),(6,_),(7,_),(12,_)] ?_
  refine k_r ?_
  refine ⟨_,S,⟨_,_,rfl,rfl,rfl⟩,less_,?_⟩
  exact ⟨rfl,rfl⟩
 ·rw [if_neg (by simp)]
  unfold placeD
  by_cases q:has d.ext s=true
  ·have hf:fnd d.ext s=(pos d.ext s:Nat):=by unfold fnd;rw [if_pos q]
   obtain ⟨hlt,he⟩:=(has_pos hR.ex.asc s).1 q
   rw [if_pos q,exOf_eq hlt]
   obtain ⟨_,_,ee1,ee2,ee3,hE3⟩:=id hE
   cases ee1
   obtain ⟨b,off,rfl,hk⟩:=hE3.resolve_left (fun e=>by rw [e] at hlt;simp at hlt)
   have hki:=hk _ hlt
   have hsx:=right_sec hR (List.getElem_mem hlt)
   generalize pos d.ext s=p at *
   generalize d.ext[p]=x at *
   unfold extF at hki
   have hki1:=kn_at hki 1 rfl
   have hsd:sec x=x.2.size / 64:=rfl
   by_cases q1:k<0
   ·rw [if_pos (.inl q1)]
    refine ACall.enter (rs:=[.tmp 6]) 34 [(0,.agg #[.int .i64 d.size,.slice (some ⟨b,off,none⟩) d.ext.length ce,.slice pw d.waits.length cw,.int .i64 d.fuse,.bool d.down]),(1,.string s),(2,.int .i64 k)] Tryz.func70 rfl rfl (Nat.le_of_ble_eq_true rfl) rfl ⟨rfl,rfl,rfl,trivial⟩ ?_
    refine k_a ?_
    refine k_b5 rfl ?_
    intro b3 f3
    have g3:=f3
    repeat ((with_reducible replace g3:=fresh_set g3);obtain ⟨g3,_⟩:=g3)
    try simp only [k_l1,k_l0,k_za,Nat.reduceAdd]
    refine k_e rfl (k_a ?_)
    refine k_5 ty_agg_25 ty_size_25 rfl ?_
    refine ARun.call (lit_lt rfl) go_87 rfl (hpow _ (hd.less less_)) ?_
    rintro _ S1 ⟨rfl,h1⟩
    rw [h1];clear h1 S1
    refine k_e rfl ?_
    refine k_u [(0,_),(1,_),(2,_),(3,_),(6,_),(7,_)] ?_
    refine AWP.seq (k_a (k_m rfl ?_))
    refine rC (Calm.bin rfl rfl b_neq) ?_
    refine k_n ?_
    refine k_u [(0,_),(1,_),(2,_),(3,_),(6,_),(7,_),(12,_)] ?_
    refine k_F rfl ?_
    refine k_k (k_a ?_)
    refine rC (Calm.fieldAddr ty_field_25_1 rfl) ?_
    refine rC (ld_ ty_plain_22 rfl) ?_
    refine k_m rfl ?_
    refine ARun.call (lit_lt rfl) go_71 rfl (rd_Find _ d.ext s _ (hE.less less_) hR.ex.asc) ?_
    rintro _ S1 ⟨rfl,h1⟩
    rw [h1,hf];clear h1 S1
    refine k_e rfl ?_
    refine k_u [(0,_),(1,_),(2,_),(3,_),(6,_),(7,_),(12,_),(8,_)] ?_
    refine AWP.seq (k_a (k_m rfl ?_))
    refine rC (Calm.bin rfl rfl b_lss) ?_
    refine k_n ?_
    refine k_u [(0,_),(1,_),(2,_),(3,_),(6,_),(7,_),(12,_),(8,_),(19,_)] ?_
    refine k_F rfl ?_
    refine k_k (AWP.seq (k_a (k_m rfl ?_)))
    refine rC (Calm.bin rfl rfl b_lss) ?_
    refine k_m rfl ?_
    first|refine k_q 22 ?_|refine rG 22 (Calm.move rfl) ?_
    first|refine k_q 22 ?_|refine rG 22 (Calm.fieldAddr ty_field_25_1 rfl) ?_
    first|refine k_q 22 ?_|refine rG 22 (ld_ ty_plain_22 rfl) ?_
    first|refine k_q 22 ?_|refine rG 22 (Calm.move rfl) ?_
    first|refine k_q 22 ?_|refine rG 22 (Calm.indexS Tryz.underlying22 ty_size_101 rfl rfl (by omega) (by omega)) ?_
    first|refine k_q 22 ?_|refine rG 22 (Calm.fieldAddr ty_field_101_1 rfl) ?_
    first|refine k_q 22 ?_|refine rG 22 (ld_ ty_plain_9 rfl) ?_
    first|refine k_q 22 ?_|refine rG 22 (Calm.lenStr (strT_spec ty_str_9) rfl) ?_
    first|refine k_q 22 ?_|refine rG 22 (Calm.bin rfl rfl b_quo_i64) ?_
    first|refine k_q 22 ?_|refine rG 22 (Calm.bin rfl rfl b_geq) ?_
    first|refine k_t rfl rfl ?_|refine k_f rfl rfl ?_
    refine k_n ?_
    refine k_u [(0,_),(1,_),(2,_),(3,_),(6,_),(7,_),(12,_),(8,_),(19,_),(33,_)] ?_
    refine k_T rfl ?_
    refine k_a (k_e rfl ?_)
    refine k_r ?_
    refine ⟨_,S,⟨_,_,rfl,rfl,rfl⟩,less_,?_⟩
    exact ⟨rfl,rfl⟩
   ·by_cases q2:(sec x:Int)≤k
    ·rw [if_pos (.inr q2)]
     refine ACall.enter (rs:=[.tmp 6]) 34 [(0,.agg #[.int .i64 d.size,.slice (some ⟨b,off,none⟩) d.ext.length ce,.slice pw d.waits.length cw,.int .i64 d.fuse,.bool d.down]),(1,.string s),(2,.int .i64 k)] Tryz.func70 rfl rfl (Nat.le_of_ble_eq_true rfl) rfl ⟨rfl,rfl,rfl,trivial⟩ ?_
     refine k_a ?_
     refine k_b5 rfl ?_
     intro b3 f3
     have g3:=f3
     repeat ((with_reducible replace g3:=fresh_set g3);obtain ⟨g3,_⟩:=g3)
     try simp only [k_l1,k_l0,k_za,Nat.reduceAdd]
     refine k_e rfl (k_a ?_)
     refine k_5 ty_agg_25 ty_size_25 rfl ?_
     refine ARun.call (lit_lt rfl) go_87 rfl (hpow _ (hd.less less_)) ?_
     rintro _ S1 ⟨rfl,h1⟩
     rw [h1];clear h1 S1
     refine k_e rfl ?_
     refine k_u [(0,_),(1,_),(2,_),(3,_),(6,_),(7,_)] ?_
     refine AWP.seq (k_a (k_m rfl ?_))
     refine rC (Calm.bin rfl rfl b_neq) ?_
     refine k_n ?_
     refine k_u [(0,_),(1,_),(2,_),(3,_),(6,_),(7,_),(12,_)] ?_
     refine k_F rfl ?_
     refine k_k (k_a ?_)
     refine rC (Calm.fieldAddr ty_field_25_1 rfl) ?_
     refine rC (ld_ ty_plain_22 rfl) ?_
     refine k_m rfl ?_
     refine ARun.call (lit_lt rfl) go_71 rfl (rd_Find _ d.ext s _ (hE.less less_) hR.ex.asc) ?_
     rintro _ S1 ⟨rfl,h1⟩
     rw [h1,hf];clear h1 S1
     refine k_e rfl ?_
     refine k_u [(0,_),(1,_),(2,_),(3,_),(6,_),(7,_),(12,_),(8,_)] ?_
     refine AWP.seq (k_a (k_m rfl ?_))
     refine rC (Calm.bin rfl rfl b_lss) ?_
     refine k_n ?_
     refine k_u [(0,_),(1,_),(2,_),(3,_),(6,_),(7,_),(12,_),(8,_),(19,_)] ?_
     refine k_F rfl ?_
     refine k_k (AWP.seq (k_a (k_m rfl ?_)))
     refine rC (Calm.bin rfl rfl b_lss) ?_
     refine k_m rfl ?_
     first|refine k_q 22 ?_|refine rG 22 (Calm.move rfl) ?_
     first|refine k_q 22 ?_|refine rG 22 (Calm.fieldAddr ty_field_25_1 rfl) ?_
     first|refine k_q 22 ?_|refine rG 22 (ld_ ty_plain_22 rfl) ?_
     first|refine k_q 22 ?_|refine rG 22 (Calm.move rfl) ?_
     first|refine k_q 22 ?_|refine rG 22 (Calm.indexS Tryz.underlying22 ty_size_101 rfl rfl (by omega) (by omega)) ?_
     first|refine k_q 22 ?_|refine rG 22 (Calm.fieldAddr ty_field_101_1 rfl) ?_
     first|refine k_q 22 ?_|refine rG 22 (Calm.loadK ty_plain_9 rfl (hki1.less less_)) ?_
     first|refine k_q 22 ?_|refine rG 22 (Calm.lenStr (strT_spec ty_str_9) rfl) ?_
     first|refine k_q 22 ?_|refine rG 22 (Calm.bin rfl rfl b_quo_i64) ?_
     first|refine k_q 22 ?_|refine rG 22 (Calm.bin rfl rfl b_geq) ?_
     first|refine k_t rfl rfl ?_|refine k_f rfl rfl ?_
     refine k_n ?_
     refine k_u [(0,_),(1,_),(2,_),(3,_),(6,_),(7,_),(12,_),(8,_),(19,_),(33,_)] ?_
     refine k_T rfl ?_
     refine k_a (k_e rfl ?_)
     refine k_r ?_
     refine ⟨_,S,⟨_,_,rfl,rfl,rfl⟩,less_,?_⟩
     exact ⟨rfl,rfl⟩
    ·rw [if_neg (by omega)]
     refine ACall.enter (rs:=[.tmp 6]) 34 [(0,.agg #[.int .i64 d.size,.slice (some ⟨b,off,none⟩) d.ext.length ce,.slice pw d.waits.length cw,.int .i64 d.fuse,.bool d.down]),(1,.string s),(2,.int .i64 k)] Tryz.func70 rfl rfl (Nat.le_of_ble_eq_true rfl) rfl ⟨rfl,rfl,rfl,trivial⟩ ?_
     refine k_a ?_
     refine k_b5 rfl ?_
     intro b3 f3
     have g3:=f3
     repeat ((with_reducible replace g3:=fresh_set g3);obtain ⟨g3,_⟩:=g3)
     try simp only [k_l1,k_l0,k_za,Nat.reduceAdd]
     refine k_e rfl (k_a ?_)
     refine k_5 ty_agg_25 ty_size_25 rfl ?_
     refine ARun.call (lit_lt rfl) go_87 rfl (hpow _ (hd.less less_)) ?_
     rintro _ S1 ⟨rfl,h1⟩
     rw [h1];clear h1 S1
     refine k_e rfl ?_
     refine k_u [(0,_),(1,_),(2,_),(3,_),(6,_),(7,_)] ?_
     refine AWP.seq (k_a (k_m rfl ?_))
     refine rC (Calm.bin rfl rfl b_neq) ?_
     refine k_n ?_
     refine k_u [(0,_),(1,_),(2,_),(3,_),(6,_),(7,_),(12,_)] ?_
     refine k_F rfl ?_
     refine k_k (k_a ?_)
     refine rC (Calm.fieldAddr ty_field_25_1 rfl) ?_
     refine rC (ld_ ty_plain_22 rfl) ?_
     refine k_m rfl ?_
     refine ARun.call (lit_lt rfl) go_71 rfl (rd_Find _ d.ext s _ (hE.less less_) hR.ex.asc) ?_
     rintro _ S1 ⟨rfl,h1⟩
     rw [h1,hf];clear h1 S1
     refine k_e rfl ?_
     refine k_u [(0,_),(1,_),(2,_),(3,_),(6,_),(7,_),(12,_),(8,_)] ?_
     refine AWP.seq (k_a (k_m rfl ?_))
     refine rC (Calm.bin rfl rfl b_lss) ?_
     refine k_n ?_
     refine k_u [(0,_),(1,_),(2,_),(3,_),(6,_),(7,_),(12,_),(8,_),(19,_)] ?_
     refine k_F rfl ?_
     refine k_k (AWP.seq (k_a (k_m rfl ?_)))
     refine rC (Calm.bin rfl rfl b_lss) ?_
     refine k_m rfl ?_
     first|refine k_q 22 ?_|refine rG 22 (Calm.move rfl) ?_
     first|refine k_q 22 ?_|refine rG 22 (Calm.fieldAddr ty_field_25_1 rfl) ?_
     first|refine k_q 22 ?_|refine rG 22 (ld_ ty_plain_22 rfl) ?_
     first|refine k_q 22 ?_|refine rG 22 (Calm.move rfl) ?_
     first|refine k_q 22 ?_|refine rG 22 (Calm.indexS Tryz.underlying22 ty_size_101 rfl rfl (by omega) (by omega)) ?_
     first|refine k_q 22 ?_|refine rG 22 (Calm.fieldAddr ty_field_101_1 rfl) ?_
     first|refine k_q 22 ?_|refine rG 22 (Calm.loadK ty_plain_9 rfl (hki1.less less_)) ?_
     first|refine k_q 22 ?_|refine rG 22 (Calm.lenStr (strT_spec ty_str_9) rfl) ?_
     first|refine k_q 22 ?_|refine rG 22 (Calm.bin rfl rfl b_quo_i64) ?_
     first|refine k_q 22 ?_|refine rG 22 (Calm.bin rfl rfl b_geq) ?_
     first|refine k_t rfl rfl ?_|refine k_f rfl rfl ?_
     refine k_n ?_
     refine k_u [(0,_),(1,_),(2,_),(3,_),(6,_),(7,_),(12,_),(8,_),(19,_),(33,_)] ?_
     refine k_F rfl ?_
     refine k_k (k_a (k_e rfl ?_))
     refine AWP.ret ?_
     refine ⟨_,S,⟨_,_,rfl,rfl,rfl⟩,less_,?_⟩
     exact ⟨rfl,rfl⟩
  ·have hf:fnd d.ext s = -1:=by unfold fnd;rw [if_neg q]
   rw [if_neg q]
   refine ACall.enter (rs:=[.tmp 6]) 34 [(0,.agg #[.int .i64 d.size,.slice pe d.ext.length ce,.slice pw d.waits.length cw,.int .i64 d.fuse,.bool d.down]),(1,.string s),(2,.int .i64 k)] Tryz.func70 rfl rfl (Nat.le_of_ble_eq_true rfl) rfl ⟨rfl,rfl,rfl,trivial⟩ ?_
   refine k_a ?_
   refine k_b5 rfl ?_
   intro b3 f3
   have g3:=f3
   repeat ((with_reducible replace g3:=fresh_set g3);obtain ⟨g3,_⟩:=g3)
   try simp only [k_l1,k_l0,k_za,Nat.reduceAdd]
   refine k_e rfl (k_a ?_)
   refine k_5 ty_agg_25 ty_size_25 rfl ?_
   refine ARun.call (lit_lt rfl) go_87 rfl (hpow _ (hd.less less_)) ?_
   rintro _ S1 ⟨rfl,h1⟩
   rw [h1];clear h1 S1
   refine k_e rfl ?_
   refine k_u [(0,_),(1,_),(2,_),(3,_),(6,_),(7,_)] ?_
   refine AWP.seq (k_a (k_m rfl ?_))
   refine rC (Calm.bin rfl rfl b_neq) ?_
   refine k_n ?_
   refine k_u [(0,_),(1,_),(2,_),(3,_),(6,_),(7,_),(12,_)] ?_
   refine k_F rfl ?_
   refine k_k (k_a ?_)
   refine rC (Calm.fieldAddr ty_field_25_1 rfl) ?_
   refine rC (ld_ ty_plain_22 rfl) ?_
   refine k_m rfl ?_
   refine ARun.call (lit_lt rfl) go_71 rfl (rd_Find _ d.ext s _ (hE.less less_) hR.ex.asc) ?_
   rintro _ S1 ⟨rfl,h1⟩
   rw [h1,hf];clear h1 S1
   refine k_e rfl ?_
   refine k_u [(0,_),(1,_),(2,_),(3,_),(6,_),(7,_),(12,_),(8,_)] ?_
   refine AWP.seq (k_a (k_m rfl ?_))
   refine rC (Calm.bin rfl rfl b_lss) ?_
   refine k_n ?_
   refine k_u [(0,_),(1,_),(2,_),(3,_),(6,_),(7,_),(12,_),(8,_),(19,_)] ?_
   refine k_T rfl ?_
   refine k_a (k_e rfl ?_)
   refine k_r ?_
   refine ⟨_,S,⟨_,_,rfl,rfl,rfl⟩,less_,?_⟩
   exact ⟨rfl,rfl⟩
end Go.Proofs.YtkeiphkccnfhoaaGreat
namespace Go.Proofs.YtkeiphkccnfhoaaGreat
open Go.RowKit
open Mv Disk
set_option maxRecDepth 4000

theorem place_as (d : D) (s : ByteArray) (k : Int) (h : placeO d s k ≠ 0) (f : D × Int) (hf : (placeD d s k).2 ≠ 0 → f = (d, (placeD d s k).2)) : opened d f = asD d (placeO d s k) := by
 unfold opened placeO at *
 rcases openD_or d with ⟨ho,hR⟩ | ⟨ho,hR,hdn⟩ | ⟨ho,hR,hdn⟩ <;> rw [ho] at h ⊢
 ·rw [if_neg (by simp),if_pos (by simp),asD_no hR]
 ·rw [if_neg (by simp),if_pos (by simp),asD_ok hR]
 ·rw [if_neg (by simp)] at h
  rw [if_pos rfl,if_neg (by simp),asD_ok hR,hf h]
theorem place_ok0 {d : D} {s : ByteArray} {k : Int} (h : placeO d s k = 0) : Right d ∧ openD d = (d, 0) ∧ (placeD d s k).2 = 0 := by
 unfold placeO at h
 rcases openD_or d with ⟨ho,hR⟩ | ⟨ho,hR,hdn⟩ | ⟨ho,hR,hdn⟩ <;> rw [ho] at h
 ·simp at h
 ·simp at h
 ·exact ⟨hR,ho,by simpa using h⟩
set_option maxHeartbeats 2000000 in
theorem rd_Write (v : Value) (d : D) (s : ByteArray) (k : Int) (data : ByteArray) (S : Mem) (hd : DkR S v d) (hz : Dz d) :
  ACall Tryz.prog 86 #[v,.string s,.int .i64 k,.string data] S (DkRes (opened d (writeD d s k data)) S):=by
 have hpl:=fun M h=>rd_place v d s k M h hz
 have hasw:=rd_as v d (placeO d s k) S hd hz
 have hcopy:=rd_Copy v d S hd hz.el hz.wl
 obtain ⟨pe,ce,pw,cw,rfl,hE,hW⟩:=id hd
 by_cases q0:placeO d s k≠0
 ·rw [place_as d s k q0 _ (fun h=>by unfold writeD;rw [if_pos h])]
  generalize placeO d s k=er at *
  refine ACall.enter (rs:=[.cell 8 25,.tmp 9]) 57 [(0,.agg #[.int .i64 d.size,.slice pe d.ext.length ce,.slice pw d.waits.length cw,.int .i64 d.fuse,.bool d.down]),(1,.string s),(2,.int .i64 k),(3,.string data)] Tryz.func86 rfl rfl (Nat.le_of_ble_eq_true rfl) rfl ⟨rfl,rfl,rfl,rfl,trivial⟩ ?_
  refine k_a ?_
  refine k_b5 rfl ?_
  intro b4 f4
  have g4:=f4
  repeat ((with_reducible replace g4:=fresh_set g4);obtain ⟨g4,_⟩:=g4)
  try simp only [k_l1,k_l0,k_za,Nat.reduceAdd]
  refine ARun.alloc (lit_lt rfl) ty_zero_25 ?_
  intro b8 f8
  have g8:=f8
  repeat ((with_reducible replace g8:=fresh_set g8);obtain ⟨g8,_⟩:=g8)
  try simp only [k_l1,k_l0,k_za,Nat.reduceAdd]
  refine k_e rfl (k_a ?_)
  refine k_5 ty_agg_25 ty_size_25 rfl ?_
  refine k_m rfl (k_m rfl ?_)
  refine ARun.call (lit_lt rfl) go_70 rfl (hpl _ (hd.less less_)) ?_
  rintro _ S1 ⟨rfl,h1⟩
  rw [h1];clear h1 S1
  refine k_e rfl ?_
  refine k_u [(0,_),(1,_),(2,_),(3,_),(4,_),(8,_),(9,_),(10,_)] ?_
  refine AWP.seq (k_a (k_m rfl ?_))
  refine rC (Calm.bin rfl rfl (bin_bool (bin_neq _ _) (bnot_dec_true q0))) ?_
  refine k_n ?_
  refine k_u [(0,_),(1,_),(2,_),(3,_),(4,_),(8,_),(9,_),(10,_),(16,_)] ?_
  refine k_T rfl ?_
  refine k_a ?_
  refine k_5 ty_agg_25 ty_size_25 rfl ?_
  refine k_m rfl ?_
  refine ARun.call (lit_lt rfl) go_88 rfl (((hasw).frame f4).frame f8) ?_
  rintro _ S1 ⟨Sa,⟨M,⟨v',rfl,hSM,hdk⟩,fa,hSa⟩,fb,h1⟩
  rw [h1,hSa];rw [hSa] at fb;clear h1 S1 hSa Sa
  obtain ⟨fbm,nba⟩:=fresh_set fb
  obtain ⟨qe,de,qw,dw,rfl,hE2,hW2⟩:=id hdk
  refine rC (Calm.extract rfl rfl) ?_
  refine rC (Calm.extract rfl rfl) ?_
  first|refine k_A rfl rfl ty_size_25 ?_|refine k_B rfl rfl ty_size_25 ?_
  try simp only [k_ms,k_sz,k_ss,k_za,Nat.reduceAdd]
  refine k_e rfl ?_
  refine k_u [(0,_),(1,_),(2,_),(3,_),(4,_),(8,_),(9,_),(10,_),(16,_)] ?_
  refine k_r ?_
  refine ⟨_,M,⟨_,_,_,rfl,.inr ⟨ty_agg_25,[_,_,_,_,_],ty_size_25,rds_,rfl⟩,⟨_,_,rfl,rfl,rfl⟩,rfl⟩,less_,?_⟩
  exact ⟨_,rfl,hSM,hdk⟩
 ·have q0:placeO d s k=0:=by simpa using q0
  obtain ⟨hR,hop,hp0⟩:=place_ok0 q0
  simp only [q0] at hpl
  unfold opened writeD
  rw [hop,if_pos rfl,if_neg (by simpa using hp0)]
  have hlens:=right_lens hR;have hrl:=right_len hR;have hwl:=hR.wl
  by_cases q1:data.size≠64
  ·rw [if_pos q1]
   refine ACall.enter (rs:=[.cell 8 25,.tmp 9]) 57 [(0,.agg #[.int .i64 d.size,.slice pe d.ext.length ce,.slice pw d.waits.length cw,.int .i64 d.fuse,.bool d.down]),(1,.string s),(2,.int .i64 k),(3,.string data)] Tryz.func86 rfl rfl (Nat.le_of_ble_eq_true rfl) rfl ⟨rfl,rfl,rfl,rfl,trivial⟩ ?_
   refine k_a ?_
   refine k_b5 rfl ?_
   intro b4 f4
   have g4:=f4
   repeat ((with_reducible replace g4:=fresh_set g4);obtain ⟨g4,_⟩:=g4)
   try simp only [k_l1,k_l0,k_za,Nat.reduceAdd]
   refine ARun.alloc (lit_lt rfl) ty_zero_25 ?_
   intro b8 f8
   have g8:=f8
   repeat ((with_reducible replace g8:=fresh_set g8);obtain ⟨g8,_⟩:=g8)
   try simp only [k_l1,k_l0,k_za,Nat.reduceAdd]
   refine k_e rfl (k_a ?_)
   refine k_5 ty_agg_25 ty_size_25 rfl ?_
   refine k_m rfl (k_m rfl ?_)
   refine ARun.call (lit_lt rfl) go_70 rfl (hpl _ (hd.less less_)) ?_
   rintro _ S1 ⟨rfl,h1⟩
   rw [h1];clear h1 S1
   refine k_e rfl ?_
   refine k_u [(0,_),(1,_),(2,_),(3,_),(4,_),(8,_),(9,_),(10,_)] ?_
   refine AWP.seq (k_a (k_m rfl ?_))
   refine rC (Calm.bin rfl rfl b_neq) ?_
   refine k_n ?_
   refine k_u [(0,_),(1,_),(2,_),(3,_),(4,_),(8,_),(9,_),(10,_),(16,_)] ?_
   refine k_F rfl ?_
   refine k_k (AWP.seq (k_a (k_m rfl ?_)))
   refine rC (Calm.lenStr (strT_spec ty_str_9) rfl) ?_
   refine rC (Calm.bin rfl rfl (bin_bool (bin_neq _ _) (bnot_dec_true (by omega)))) ?_
   refine k_n ?_
   refine k_u [(0,_),(1,_),(2,_),(3,_),(4,_),(8,_),(9,_),(10,_),(16,_),(24,_)] ?_
   refine k_T rfl ?_
   refine k_a ?_
   refine k_5 ty_agg_25 ty_size_25 rfl ?_
   refine ARun.call (lit_lt rfl) go_29 rfl (((hcopy).frame f4).frame f8) ?_
   rintro _ S1 ⟨Sa,⟨M,⟨oE,oW,hok,rfl,hM⟩,fa,hSa⟩,fb,h1⟩
   rw [h1,hSa];rw [hSa] at fb;clear h1 S1 hSa Sa
   obtain ⟨fbm,nba⟩:=fresh_set fb
   have hSM:S.Less M:=by rw [hM];exact hok.less
   have hdk:DkR M (dkV d oE oW) d:=by rw [hM];exact hok.dk hlens.1 hlens.2
   unfold dkV at hdk ⊢
   obtain ⟨qe,de,hqe⟩:=outV_eq hok.e
   obtain ⟨qw,dw,hqw⟩:=outV_eq hok.w
   rw [hqe,hqw] at hdk ⊢
   first|refine k_A rfl rfl ty_size_25 ?_|refine k_B rfl rfl ty_size_25 ?_
   try simp only [k_ms,k_sz,k_ss,k_za,Nat.reduceAdd]
   refine k_e rfl ?_
   refine k_u [(0,_),(1,_),(2,_),(3,_),(4,_),(8,_),(9,_),(10,_),(16,_),(24,_)] ?_
   refine k_r ?_
   refine ⟨_,M,⟨_,_,_,rfl,.inr ⟨ty_agg_25,[_,_,_,_,_],ty_size_25,rds_,rfl⟩,⟨_,_,rfl,rfl,rfl⟩,rfl⟩,less_,?_⟩
   exact ⟨_,rfl,hSM,hdk⟩
  ·rw [if_neg q1]
   by_cases q2:d.waits.length=16384
   ·rw [if_pos q2]
    refine ACall.enter (rs:=[.cell 8 25,.tmp 9]) 57 [(0,.agg #[.int .i64 d.size,.slice pe d.ext.length ce,.slice pw d.waits.length cw,.int .i64 d.fuse,.bool d.down]),(1,.string s),(2,.int .i64 k),(3,.string data)] Tryz.func86 rfl rfl (Nat.le_of_ble_eq_true rfl) rfl ⟨rfl,rfl,rfl,rfl,trivial⟩ ?_
    refine k_a ?_
    refine k_b5 rfl ?_
    intro b4 f4
    have g4:=f4
    repeat ((with_reducible replace g4:=fresh_set g4);obtain ⟨g4,_⟩:=g4)
    try simp only [k_l1,k_l0,k_za,Nat.reduceAdd]
    refine ARun.alloc (lit_lt rfl) ty_zero_25 ?_
    intro b8 f8
    have g8:=f8
    repeat ((with_reducible replace g8:=fresh_set g8);obtain ⟨g8,_⟩:=g8)
    try simp only [k_l1,k_l0,k_za,Nat.reduceAdd]
    refine k_e rfl (k_a ?_)
    refine k_5 ty_agg_25 ty_size_25 rfl ?_
    refine k_m rfl (k_m rfl ?_)
    refine ARun.call (lit_lt rfl) go_70 rfl (hpl _ (hd.less less_)) ?_
    rintro _ S1 ⟨rfl,h1⟩
    rw [h1];clear h1 S1
    refine k_e rfl ?_
    refine k_u [(0,_),(1,_),(2,_),(3,_),(4,_),(8,_),(9,_),(10,_)] ?_
    refine AWP.seq (k_a (k_m rfl ?_))
    refine rC (Calm.bin rfl rfl b_neq) ?_
    refine k_n ?_
    refine k_u [(0,_),(1,_),(2,_),(3,_),(4,_),(8,_),(9,_),(10,_),(16,_)] ?_
    refine k_F rfl ?_
    refine k_k (AWP.seq (k_a (k_m rfl ?_)))
    refine rC (Calm.lenStr (strT_spec ty_str_9) rfl) ?_
    refine rC (Calm.bin rfl rfl (bin_bool (bin_neq _ _) (bnot_dec_false (by omega)))) ?_
    refine k_n ?_
    refine k_u [(0,_),(1,_),(2,_),(3,_),(4,_),(8,_),(9,_),(10,_),(16,_),(24,_)] ?_
    refine k_F rfl ?_
    refine k_k (AWP.seq (k_a ?_))
    refine rC (Calm.fieldAddr ty_field_25_2 rfl) ?_
    refine rC (ld_ ty_plain_23 rfl) ?_
    refine rC (Calm.lenSl Tryz.underlying23 rfl) ?_
    refine rC (Calm.bin rfl rfl b_geq) ?_
    refine k_n ?_
    refine k_u [(0,_),(1,_),(2,_),(3,_),(4,_),(8,_),(9,_),(10,_),(16,_),(24,_),(30,_)] ?_
    refine k_T rfl ?_
    refine k_a ?_
    refine k_5 ty_agg_25 ty_size_25 rfl ?_
    refine ARun.call (lit_lt rfl) go_29 rfl (((hcopy).frame f4).frame f8) ?_
    rintro _ S1 ⟨Sa,⟨M,⟨oE,oW,hok,rfl,hM⟩,fa,hSa⟩,fb,h1⟩
    rw [h1,hSa];rw [hSa] at fb;clear h1 S1 hSa Sa
    obtain ⟨fbm,nba⟩:=fresh_set fb
    have hSM:S.Less M:=by rw [hM];exact hok.less
    have hdk:DkR M (dkV d oE oW) d:=by rw [hM];exact hok.dk hlens.1 hlens.2
    unfold dkV at hdk ⊢
    obtain ⟨qe,de,hqe⟩:=outV_eq hok.e
    obtain ⟨qw,dw,hqw⟩:=outV_eq hok.w
    rw [hqe,hqw] at hdk ⊢
    first|refine k_A rfl rfl ty_size_25 ?_|refine k_B rfl rfl ty_size_25 ?_
    try simp only [k_ms,k_sz,k_ss,k_za,Nat.reduceAdd]
    refine k_e rfl ?_
    refine k_u [(0,_),(1,_),(2,_),(3,_),(4,_),(8,_),(9,_),(10,_),(16,_),(24,_),(30,_)] ?_
    refine k_r ?_
    refine ⟨_,M,⟨_,_,_,rfl,.inr ⟨ty_agg_25,[_,_,_,_,_],ty_size_25,rds_,rfl⟩,⟨_,_,rfl,rfl,rfl⟩,rfl⟩,less_,?_⟩
    exact ⟨_,rfl,hSM,hdk⟩
   ·rw [if_neg q2]
    unfold fuseD
    refine ACall.enter (rs:=[.cell 8 25,.tmp 9]) 57 [(0,.agg #[.int .i64 d.size,.slice pe d.ext.length ce,.slice pw d.waits.length cw,.int .i64 d.fuse,.bool d.down]),(1,.string s),(2,.int .i64 k),(3,.string data)] Tryz.func86 rfl rfl (Nat.le_of_ble_eq_true rfl) rfl ⟨rfl,rfl,rfl,rfl,trivial⟩ ?_
    refine k_a ?_
    refine k_b5 rfl ?_
    intro b4 f4
    have g4:=f4
    repeat ((with_reducible replace g4:=fresh_set g4);obtain ⟨g4,_⟩:=g4)
    try simp only [k_l1,k_l0,k_za,Nat.reduceAdd]
    refine ARun.alloc (lit_lt rfl) ty_zero_25 ?_
    intro b8 f8
    have g8:=f8
    repeat ((with_reducible replace g8:=fresh_set g8);obtain ⟨g8,_⟩:=g8)
    try simp only [k_l1,k_l0,k_za,Nat.reduceAdd]
    refine k_e rfl (k_a ?_)
    refine k_5 ty_agg_25 ty_size_25 rfl ?_
    refine k_m rfl (k_m rfl ?_)
    refine ARun.call (lit_lt rfl) go_70 rfl (hpl _ (hd.less less_)) ?_
    rintro _ S1 ⟨rfl,h1⟩
    rw [h1];clear h1 S1
    refine k_e rfl ?_
    refine k_u [(0,_),(1,_),(2,_),(3,_),(4,_),(8,_),(9,_),(10,_)] ?_
    refine AWP.seq (k_a (k_m rfl ?_))
    refine rC (Calm.bin rfl rfl b_neq) ?_
    refine k_n ?_
    refine k_u [(0,_),(1,_),(2,_),(3,_),(4,_),(8,_),(9,_),(10,_),(16,_)] ?_
    refine k_F rfl ?_
    refine k_k (AWP.seq (k_a (k_m rfl ?_)))
    refine rC (Calm.lenStr (strT_spec ty_str_9) rfl) ?_
    refine rC (Calm.bin rfl rfl (bin_bool (bin_neq _ _) (bnot_dec_false (by omega)))) ?_
    refine k_n ?_
    refine k_u [(0,_),(1,_),(2,_),(3,_),(4,_),(8,_),(9,_),(10,_),(16,_),(24,_)] ?_
    refine k_F rfl ?_
    refine k_k (AWP.seq (k_a ?_))
    refine rC (Calm.fieldAddr ty_field_25_2 rfl) ?_
    refine rC (ld_ ty_plain_23 rfl) ?_
    refine rC (Calm.lenSl Tryz.underlying23 rfl) ?_
    refine rC (Calm.bin rfl rfl b_geq) ?_
    refine k_n ?_
    refine k_u [(0,_),(1,_),(2,_),(3,_),(4,_),(8,_),(9,_),(10,_),(16,_),(24,_),(30,_)] ?_
    refine k_F rfl ?_
    refine k_k (k_a ?_)
    refine k_5 ty_agg_25 ty_size_25 rfl ?_
    refine ARun.call (lit_lt rfl) go_29 rfl (((hcopy).frame f4).frame f8) ?_
    rintro _ S1 ⟨Sa,⟨M,⟨oE,oW,hok,rfl,hM⟩,fa,hSa⟩,fb,h1⟩
    rw [h1,hSa];rw [hSa] at fb;clear h1 S1 hSa Sa
    obtain ⟨fbm,nba⟩:=fresh_set fb
    have hSM:S.Less M:=by rw [hM];exact hok.less
    have hdk:DkR M (dkV d oE oW) d:=by rw [hM];exact hok.dk hlens.1 hlens.2
    unfold dkV at hdk ⊢
    obtain ⟨qe,de,hqe⟩:=outV_eq hok.e
    obtain ⟨qw,dw,hqw⟩:=outV_eq hok.w
    rw [hqe,hqw] at hdk ⊢
    first|refine k_A rfl rfl ty_size_25 ?_|refine k_B rfl rfl ty_size_25 ?_
    try simp only [k_ms,k_sz,k_ss,k_za,Nat.reduceAdd]
    refine k_n ?_
    refine k_u [(0,_),(1,_),(2,_),(3,_),(4,_),(8,_),(9,_),(10,_),(16,_),(24,_),(30,_)] ?_
    rw [set_back M nba]
    have neE:=fun q c (h:oE=some (q,c))=>(hok.e.own q c h)
    have hne8:∀ q c,oE=some (q,c)→q≠b8∧q≠b4:=by rw [hM] at fa fbm;exact fun q c h=>⟨(fresh_outN (fresh_outN fbm).1).2 q c h |>.symm,(fresh_outN (fresh_outN fa).1).2 q c h |>.symm⟩
    have hnw8:∀ q c,oW=some (q,c)→q≠b8∧q≠b4:=by rw [hM] at fa fbm;exact fun q c h=>⟨(fresh_outN fbm).2 q c h |>.symm,(fresh_outN fa).2 q c h |>.symm⟩
    have hfold:(M.set b4 (boxD d (.slice qe d.ext.length de) (.slice qw d.waits.length dw))).set b8 (boxD D0 (.slice none 0 0) (.slice none 0 0))=outN 3 (((outN 2 S oE extT (d.ext.flatMap extF)).set b4 (boxD d (.slice qe d.ext.length de) (.slice qw d.waits.length dw))).set b8 (boxD D0 (.slice none 0 0) (.slice none 0 0))) oW wrT (d.waits.flatMap wrF):=by rw [outN_set (fun q c h=>(hnw8 q c h).1),outN_set (fun q c h=>(hnw8 q c h).2),hM];rfl
    have hokW:OkO (((outN 2 S oE extT (d.ext.flatMap extF)).set b4 (boxD d (.slice qe d.ext.length de) (.slice qw d.waits.length dw))).set b8 (boxD D0 (.slice none 0 0) (.slice none 0 0))) oW d.waits.length:=(hok.w.set (fun q c h=>Ne.symm (hnw8 q c h).2)).set (fun q c h=>Ne.symm (hnw8 q c h).1)
    have happ:AppN 3 ((M.set b4 (boxD d (.slice qe d.ext.length de) (.slice qw d.waits.length dw))).set b8 (boxD D0 (.slice none 0 0) (.slice none 0 0))) (((outN 2 S oE extT (d.ext.flatMap extF)).set b4 (boxD d (.slice qe d.ext.length de) (.slice qw d.waits.length dw))).set b8 (boxD D0 (.slice none 0 0) (.slice none 0 0))) oW wrT (d.waits.flatMap wrF):=by rw [hfold];exact appN_self hokW (flat_length wr_len _)
    unfold boxD at happ hokW
    refine k_a ?_
    refine rC (Calm.fieldAddr ty_field_25_2 rfl) ?_
    refine rC (ld_ ty_plain_23 rfl) ?_
    refine k_m rfl (k_m rfl (k_m rfl ?_))
    refine rC (Calm.build (cs:=[_,_,_]) ty_bld_104 rfl rfl) ?_
    refine ARun.build1 (lit_lt rfl) ty_sl_23 rfl (by decide) (by decide) rfl rfl ?_
    intro b41 f41
    have g41:=f41
    repeat ((with_reducible replace g41:=fresh_set g41);obtain ⟨g41,_⟩:=g41)
    refine ARun.appendOK (n:=3) (o:=oW) (k:=d.waits.length) (m:=1) (cs:=d.waits.flatMap wrF) (news:=[.string s,.int .i64 k,.string data]) (lit_lt rfl) ty_sl_23 rfl (congrArg some hqw.symm) (flat_length wr_len _) hokW (happ.temp f41) rfl (src_own (Mem.own_set_same _ _ _) List.prefix_rfl) rfl (wr_one [(s,k,data)]) (by omega) (by omega) ?_
    intro o2 ho2
    have h28:∀ q c,o2=some (q,c)→b8≠q∧b4≠q:=fun q c h=>by obtain ⟨h1,h2⟩:=fresh_set (ho2.own q c h).1;exact ⟨Ne.symm h2,Ne.symm (fresh_set h1).2⟩
    have ho2':OkO (outN 2 S oE extT (d.ext.flatMap extF)) o2 (d.waits.length+1):=ho2.unset.unset
    obtain ⟨M3,hM3⟩ : ∃ M3,outN 3 (((outN 2 S oE extT (d.ext.flatMap extF)).set b4 (boxD d (.slice qe d.ext.length de) (.slice qw d.waits.length dw))).set b8 (boxD D0 (.slice none 0 0) (.slice none 0 0))) o2 wrT (d.waits.flatMap wrF ++ [.string s,.int .i64 k,.string data])=M3:=⟨_,rfl⟩
    have k34:M3.own b4=some (boxD d (.slice qe d.ext.length de) (.slice qw d.waits.length dw)):=by rw [← hM3];exact own_outN' ((Mem.own_set_other _ _ (Ne.symm nba)).trans (Mem.own_set_same _ _ _)) (fun q c e=>Ne.symm (h28 q c e).2)
    have k38:M3.own b8=some (boxD D0 (.slice none 0 0) (.slice none 0 0)):=by rw [← hM3];exact own_outN' (Mem.own_set_same _ _ _) (fun q c e=>Ne.symm (h28 q c e).1)
    have hok2:OkD S (addW d (s,k,data)) oE o2:=⟨hok.e,by rw [add_len];exact ho2'⟩
    have hdk2:DkR (dkM S (addW d (s,k,data)) oE o2) (dkV (addW d (s,k,data)) oE o2) (addW d (s,k,data)):=hok2.dk hlens.1 (by rw [add_len];omega)
    have hS2:=hok2.less
    have hM2eq:dkM S (addW d (s,k,data)) oE o2=outN 3 (outN 2 S oE extT (d.ext.flatMap extF)) o2 wrT (d.waits.flatMap wrF ++ [.string s,.int .i64 k,.string data]):=by unfold dkM;rw [add_flat];rfl
    have hle:(dkM S (addW d (s,k,data)) oE o2).Less M3:=by
     rw [hM2eq,← hM3]
     refine outN_lessM ?_
     exact less_of (LessB.skip (.inr (own_outN_none g8.1 (fun q c h=>Ne.symm (hne8 q c h).1))) (LessB.skip (.inr (own_outN_none g4.1 (fun q c h=>Ne.symm (hne8 q c h).2))) (LessB.refl _ _)))
    have n4:(dkM S (addW d (s,k,data)) oE o2).own b4=none:=by rw [hM2eq];exact own_outN_none (own_outN_none g4.1 (fun q c h=>Ne.symm (hne8 q c h).2)) (fun q c h=>(h28 q c h).2)
    have n8:(dkM S (addW d (s,k,data)) oE o2).own b8=none:=by rw [hM2eq];exact own_outN_none (own_outN_none g8.1 (fun q c h=>Ne.symm (hne8 q c h).1)) (fun q c h=>(h28 q c h).1)
    have hlf:∀ r r',(dkM S (addW d (s,k,data)) oE o2).Less ((M3.set b4 r).set b8 r'):=fun r r'=>less_of (LessB.skip (.inr n8) (LessB.skip (.inr n4) (LessB.of hle)))
    obtain ⟨q2,d2,hq2⟩:=outV_eq ho2
    unfold dkV at hdk2
    have hq2':outV o2 (addW d (s,k,data)).waits.length = .slice q2 (addW d (s,k,data)).waits.length d2:=by rw [add_len];exact hq2
    rw [hq2',show outV oE (addW d (s,k,data)).ext.length=_ from hqe] at hdk2
    obtain ⟨_,_,_,_,hx,hsE,hsW⟩:=id hdk2
    cases hx
    have hval:∀ (f:Int) (b:Bool),(Value.agg #[.int .i64 d.size,.slice qe d.ext.length de,.slice q2 (d.waits.length+1) d2,.int .i64 f,.bool b]) = .agg #[.int .i64 d.size,.slice qe d.ext.length de,.slice q2 (addW d (s,k,data)).waits.length d2,.int .i64 f,.bool b]:=fun f b=>by rw [add_len]
    unfold boxD at hM3 k34 k38
    rw [show _=M3 from hM3,hq2]
    refine rC (Calm.fieldAddr ty_field_25_2 rfl) ?_
    refine ARun.store1 rfl rfl ty_size_23 rfl own_ lens_ rfl ?_
    try simp only [k_ms,k_sz,k_ss,k_za,Nat.reduceAdd]
    refine k_n ?_
    refine k_u [(0,_),(1,_),(2,_),(3,_),(4,_),(8,_),(9,_),(10,_),(16,_),(24,_),(30,_)] ?_
    refine AWP.seq (k_a ?_)
    refine rC (Calm.fieldAddr ty_field_25_3 rfl) ?_
    refine rC (ld_ ty_plain_3 rfl) ?_
    refine rC (Calm.bin rfl rfl b_eql) ?_
    refine k_n ?_
    refine k_u [(0,_),(1,_),(2,_),(3,_),(4,_),(8,_),(9,_),(10,_),(16,_),(24,_),(30,_),(46,_)] ?_
    refine AWP.condB rfl (fun hb=>?_) (fun hb=>?_)
    ·have hb:=of_decide_eq_true hb
     rw [if_pos (show (addW d (s,k,data)).fuse=0 from hb)]
     refine k_a ?_
     refine rC (Calm.fieldAddr ty_field_25_4 rfl) ?_
     refine ARun.store1 rfl rfl ty_size_4 rfl own_ lens_ rfl ?_
     try simp only [k_ms,k_sz,k_ss,k_za,Nat.reduceAdd]
     refine k_n ?_
     refine k_u [(0,_),(1,_),(2,_),(3,_),(4,_),(8,_),(9,_),(10,_),(16,_),(24,_),(30,_),(46,_)] ?_
     refine k_a ?_
     refine k_5 ty_agg_25 ty_size_25 rfl ?_
     first|refine k_A rfl rfl ty_size_25 ?_|refine k_B rfl rfl ty_size_25 ?_
     try simp only [k_ms,k_sz,k_ss,k_za,Nat.reduceAdd]
     refine k_e rfl ?_
     refine k_u [(0,_),(1,_),(2,_),(3,_),(4,_),(8,_),(9,_),(10,_),(16,_),(24,_),(30,_),(46,_)] ?_
     refine k_r ?_
     refine ⟨_,dkM S (addW d (s,k,data)) oE o2,⟨_,_,_,rfl,.inr ⟨ty_agg_25,[_,_,_,_,_],ty_size_25,rds_,rfl⟩,⟨_,_,rfl,rfl,rfl⟩,rfl⟩,hlf _ _,?_⟩
     exact ⟨_,rfl,hS2,⟨_,_,_,_,hval _ _,hsE,hsW⟩⟩
    ·have hb:=of_decide_eq_false hb
     rw [if_neg (show ¬ (addW d (s,k,data)).fuse=0 from hb)]
     refine k_k (AWP.seq (k_a ?_))
     refine rC (Calm.fieldAddr ty_field_25_3 rfl) ?_
     refine rC (ld_ ty_plain_3 rfl) ?_
     refine rC (Calm.bin rfl rfl b_gtr) ?_
     refine k_n ?_
     refine k_u [(0,_),(1,_),(2,_),(3,_),(4,_),(8,_),(9,_),(10,_),(16,_),(24,_),(30,_),(46,_),(51,_)] ?_
     refine AWP.condB rfl (fun hc=>?_) (fun hc=>?_)
     ·have hc:=of_decide_eq_true hc
      have hf1:=hz.f1
      rw [if_pos (show 0<(addW d (s,k,data)).fuse from hc)]
      refine AWP.region ?_
      refine rC (Calm.fieldAddr ty_field_25_3 rfl) ?_
      refine rC (ld_ ty_plain_3 rfl) ?_
      refine rC (Calm.bin rfl rfl b_sub_i64) ?_
      refine rC (Calm.fieldAddr ty_field_25_3 rfl) ?_
      refine ARun.store1 rfl rfl ty_size_3 rfl own_ lens_ rfl ?_
      try simp only [k_ms,k_sz,k_ss,k_za,Nat.reduceAdd]
      refine k_n ?_
      refine k_u [(0,_),(1,_),(2,_),(3,_),(4,_),(8,_),(9,_),(10,_),(16,_),(24,_),(30,_),(46,_),(51,_)] ?_
      refine k_a ?_
      refine k_5 ty_agg_25 ty_size_25 rfl ?_
      first|refine k_A rfl rfl ty_size_25 ?_|refine k_B rfl rfl ty_size_25 ?_
      try simp only [k_ms,k_sz,k_ss,k_za,Nat.reduceAdd]
      refine k_e rfl ?_
      refine k_u [(0,_),(1,_),(2,_),(3,_),(4,_),(8,_),(9,_),(10,_),(16,_),(24,_),(30,_),(46,_),(51,_)] ?_
      refine AWP.ret ?_
      refine ⟨_,dkM S (addW d (s,k,data)) oE o2,⟨_,_,_,rfl,.inr ⟨ty_agg_25,[_,_,_,_,_],ty_size_25,rds_,rfl⟩,⟨_,_,rfl,rfl,rfl⟩,rfl⟩,hlf _ _,?_⟩
      exact ⟨_,rfl,hS2,⟨_,_,_,_,hval _ _,hsE,hsW⟩⟩
     ·have hc:=of_decide_eq_false hc
      rw [if_neg (show ¬ 0<(addW d (s,k,data)).fuse from hc)]
      refine k_k (k_a ?_)
      refine k_5 ty_agg_25 ty_size_25 rfl ?_
      first|refine k_A rfl rfl ty_size_25 ?_|refine k_B rfl rfl ty_size_25 ?_
      try simp only [k_ms,k_sz,k_ss,k_za,Nat.reduceAdd]
      refine k_e rfl ?_
      refine k_u [(0,_),(1,_),(2,_),(3,_),(4,_),(8,_),(9,_),(10,_),(16,_),(24,_),(30,_),(46,_),(51,_)] ?_
      refine AWP.ret ?_
      refine ⟨_,dkM S (addW d (s,k,data)) oE o2,⟨_,_,_,rfl,.inr ⟨ty_agg_25,[_,_,_,_,_],ty_size_25,rds_,rfl⟩,⟨_,_,rfl,rfl,rfl⟩,rfl⟩,hlf _ _,?_⟩
      exact ⟨_,rfl,hS2,⟨_,_,_,_,hval _ _,hsE,hsW⟩⟩
end Go.Proofs.YtkeiphkccnfhoaaGreat
namespace Go.Proofs.YtkeiphkccnfhoaaGreat
open Go.RowKit
open Mv Disk
set_option maxRecDepth 4000
theorem okD_as {S : Mem} {d d' : D} {oE oW : Option (Nat × Nat)} (h : OkD S d oE oW) (hl : d'.ext.length = d.ext.length) (hw : d'.waits.length = d.waits.length) : OkD S d' oE oW :=
 ⟨by rw [hl];exact h.e,⟨fun e=>by rw [hw];exact h.w.nil e,fun q c e=>by
  obtain ⟨h1,h2⟩:=h.w.own q c e
  rw [hw]
  refine ⟨?_,h2⟩
  obtain ⟨g,hn⟩:=fresh_outN h1
  cases oE with
  | none=>exact g
  | some z=>exact fresh_more g (hn _ _ rfl)⟩⟩
theorem dk_ownE {S : Mem} {d : D} {b c : Nat} {oW : Option (Nat × Nat)} (h : OkD S d (some (b, c)) oW) : (dkM S d (some (b, c)) oW).own b = some ⟨extT, d.ext.flatMap extF, c * 2⟩ :=
 own_outN' (Mem.own_set_same _ _ _) (fun q c' e=>by obtain ⟨g,hn⟩:=fresh_outN (h.w.own q c' e).1;exact hn _ _ rfl)
theorem dk_setE {S : Mem} {d d' : D} {b c : Nat} {oW : Option (Nat × Nat)} (h : OkD S d (some (b, c)) oW) (hw : d'.waits = d.waits) : (dkM S d (some (b, c)) oW).set b ⟨extT, d'.ext.flatMap extF, c * 2⟩ = dkM S d' (some (b, c)) oW := by
 have hne:∀ q c',oW=some (q,c')→b≠q:=fun q c' e=>by obtain ⟨g,hn⟩:=fresh_outN (h.w.own q c' e).1;exact Ne.symm (hn _ _ rfl)
 unfold dkM
 rw [hw]
 exact outN_box hne
/-- With a write done, at place p. -/
def putD (d : D) (w : Wr) (p : Nat) (x : Ext) : D := { d with ext := d.ext.set p (w.1, putS x.2 w) }
theorem cat_put {x : ByteArray} {w : Wr} : (x.extract 0 (64 * w.2.1.toNat) ++ w.2.2) ++ x.extract (64 * w.2.1.toNat + 64) x.size = putS x w := by
 apply str_ext
 rw [data_append,data_append,data_extract,data_extract]
 unfold putS
 rw [bs_data,List.drop_zero,List.take_of_length_le (Nat.le_of_eq (size_data x))]
set_option maxHeartbeats 2000000 in
theorem rd_done (d : D) (w : Wr) (S : Mem) (oE oW : Option (Nat × Nat)) (hok : OkD S d oE oW) (hel : d.ext.length ≤ 16384) (hwl : d.waits.length ≤ 16384) (ha : Asc d.ext) (p : Nat) (x : Ext) (hp : p < d.ext.length) (hx : d.ext[p] = x) (he : x.1 = w.1) (h0 : 0 ≤ w.2.1) (h1 : 64 * w.2.1.toNat + 64 ≤ x.2.size) (h2 : w.2.2.size = 64) (hz : x.2.size ≤ 140737488351232) :
  ACall Tryz.prog 89 #[dkV d oE oW,.agg #[.string w.1,.int .i64 w.2.1,.string w.2.2]] (dkM S d oE oW) fun r S'=>r=dkV (putD d w p x) oE oW∧S'=dkM S (putD d w p x) oE oW:=by
 obtain ⟨⟨bE,cE⟩,rfl⟩ : ∃ z,oE=some z:=by
  cases oE with
  | some z=>exact ⟨z,rfl⟩
  | none=>have:=hok.e.nil rfl;omega
 have hown:=dk_ownE hok
 have hset:=fun d' h=>dk_setE (d':=d') hok h
 have hdk:=hok.dk (by omega) (by omega)
 have hok':OkD S (putD d w p x) (some (bE,cE)) oW:=okD_as hok (by unfold putD;simp) rfl
 have hset:=hset (putD d w p x) rfl
 obtain ⟨qw,dw,hqw⟩:=outV_eq hok.w
 have hf:fnd d.ext w.1=(p:Int):=fnd_at ha hp (by rw [hx];exact he)
 have hv:dkV (putD d w p x) (some (bE,cE)) oW = .agg #[.int .i64 d.size,.slice (some ⟨bE,0,none⟩) d.ext.length cE,.slice qw d.waits.length dw,.int .i64 d.fuse,.bool d.down]:=by
  unfold dkV putD;simp only [List.length_set];rw [hqw];rfl
 rw [hv,← hset]
 unfold dkV at hdk ⊢
 rw [hqw] at hdk ⊢
 obtain ⟨_,_,_,_,hxx,hE,hW⟩:=id hdk
 cases hxx
 generalize dkM S d (some (bE,cE)) oW=T at *
 obtain ⟨m,hm⟩ : ∃ m:Nat,w.2.1=(m:Int):=⟨w.2.1.toNat,by omega⟩
 have hcat:=cat_put (x:=x.2) (w:=w)
 rw [hm,Int.toNat_natCast] at h1 hcat
 have hm1:IntKind.i64.wrap (64*(m:Int))=((64*m:Nat):Int):=by rw [IntWalk.i64_in _ (by omega)];omega
 have hm2:IntKind.i64.wrap ((m:Int)+1)=((m+1:Nat):Int):=by rw [IntWalk.i64_in _ (by omega)];omega
 have hm3:IntKind.i64.wrap (64*((m+1:Nat):Int))=((64*m+64:Nat):Int):=by rw [IntWalk.i64_in _ (by omega)];omega
 have hki:T.Knows ⟨bE,0+p*2,none⟩ [.string x.1,.string x.2]:=by
  obtain ⟨_,_,e,_,_,h3⟩:=id hE
  cases e
  obtain ⟨b,off,e,hk⟩:=h3.resolve_left (fun e=>by rw [e] at hp;simp at hp)
  cases e
  have:=hk p hp
  rw [hx] at this;exact this
 have hki1:=kn_at hki 1 rfl
 have hfl:=flat_length ext_len d.ext
 have hset2:(d.ext.flatMap extF).set (p*2+1) (.string (putS x.2 w))=(putD d w p x).ext.flatMap extF:=flat_set ext_len d.ext p (w.1,putS x.2 w) hp 1 _ (by omega) (by rw [hx];unfold extF;rw [he];rfl)
 rw [hm]
 refine ACall.enter (rs:=[.cell 4 25]) 39 [(0,.agg #[.int .i64 d.size,.slice (some ⟨bE,0,none⟩) d.ext.length cE,.slice qw d.waits.length dw,.int .i64 d.fuse,.bool d.down]),(1,.agg #[.string w.1,.int .i64 (m:Int),.string w.2.2])] Tryz.func89 rfl rfl (Nat.le_of_ble_eq_true rfl) rfl ⟨rfl,rfl,trivial⟩ ?_
 refine k_a ?_
 refine k_b5 rfl ?_
 intro b2 f2
 have g2:=f2
 repeat ((with_reducible replace g2:=fresh_set g2);obtain ⟨g2,_⟩:=g2)
 try simp only [k_l1,k_l0,k_za,Nat.reduceAdd]
 refine ARun.boxA (cs:=[_,_,_]) (lit_lt rfl) rfl ?_
 intro b3 f3
 have g3:=f3
 repeat ((with_reducible replace g3:=fresh_set g3);obtain ⟨g3,_⟩:=g3)
 try simp only [k_l1,k_l0,k_za,Nat.reduceAdd]
 refine ARun.alloc (lit_lt rfl) ty_zero_25 ?_
 intro b4 f4
 have g4:=f4
 repeat ((with_reducible replace g4:=fresh_set g4);obtain ⟨g4,_⟩:=g4)
 try simp only [k_l1,k_l0,k_za,Nat.reduceAdd]
 refine k_n ?_
 have n2:=f2.ne hown
 have n3:=g3.ne hown
 have n4:=g4.ne hown
 refine k_a ?_
 refine rC (Calm.fieldAddr ty_field_25_1 rfl) ?_
 refine rC (ld_ ty_plain_22 rfl) ?_
 refine rC (Calm.fieldAddr ty_field_104_0 rfl) ?_
 refine rC (ld_ ty_plain_9 rfl) ?_
 refine ARun.call (lit_lt rfl) go_71 rfl (rd_Find _ d.ext w.1 _ (hE.less less_) ha) ?_
 rintro _ S1 ⟨rfl,h1⟩
 rw [h1,hf];clear h1 S1
 refine k_e rfl ?_
 refine k_u [(0,_),(1,_),(2,_),(3,_),(4,_),(5,_)] ?_
 refine k_a ?_
 refine rC (Calm.fieldAddr ty_field_25_1 rfl) ?_
 refine rC (ld_ ty_plain_22 rfl) ?_
 refine k_m rfl ?_
 refine rC (Calm.indexS Tryz.underlying22 ty_size_101 rfl rfl (by omega) (by omega)) ?_
 refine rC (Calm.fieldAddr ty_field_101_1 rfl) ?_
 refine rC (Calm.loadK ty_plain_9 rfl (hki1.less less_)) ?_
 refine k_e rfl ?_
 refine k_u [(0,_),(1,_),(2,_),(3,_),(4,_),(5,_),(6,_)] ?_
 refine AWP.seq ?_
 refine AWP.draw [(0,true),(1,true),(2,true),(3,true),(4,true),(5,true),(6,true),(7,true),(8,true),(9,true),(10,true),(11,true),(12,true),(13,true),(14,true),(15,true),(16,true),(17,true),(18,true),(19,true),(20,false)] [20] mixed (by kernel_rfl) ?_
 refine dP (hc:=fun _=>Calm.fieldAddr ty_field_25_1 rfl) (h:=?_)
 refine dC (hc:=ld_ ty_plain_22 rfl) (h:=?_)
 refine dP (hc:=fun _=>Calm.move rfl) (h:=?_)
 refine dP (hc:=fun _=>Calm.move rfl) (h:=?_)
 refine dP (hc:=fun _=>Calm.fieldAddr ty_field_104_1 rfl) (h:=?_)
 refine dC (hc:=ld_ ty_plain_3 rfl) (h:=?_)
 refine dP (hc:=fun _=>Calm.bin rfl rfl (bin_mulW hm1)) (h:=?_)
 refine draw_pure rfl rfl rfl rfl (lit_lt rfl) (fun _=>Calm.sliceStr (l:=0) (h:=64*m) (by kernel_rfl) rfl ⟨_,_,rfl,Int.natCast_nonneg _,Int.ofNat_le.2 (by omega),rfl⟩ rfl) ?_
 refine dP (hc:=fun _=>Calm.fieldAddr ty_field_104_2 rfl) (h:=?_)
 refine dC (hc:=ld_ ty_plain_9 rfl) (h:=?_)
 refine dP (hc:=fun _=>Calm.bin rfl rfl (bin_str_add (by rw [ByteArray.size_extract];omega))) (h:=?_)
 refine dP (hc:=fun _=>Calm.move rfl) (h:=?_)
 refine dP (hc:=fun _=>Calm.fieldAddr ty_field_104_1 rfl) (h:=?_)
 refine dC (hc:=ld_ ty_plain_3 rfl) (h:=?_)
 refine dP (hc:=fun _=>Calm.bin rfl rfl (bin_addW hm2)) (h:=?_)
 refine dP (hc:=fun _=>Calm.bin rfl rfl (bin_mulW hm3)) (h:=?_)
 refine draw_pure rfl rfl rfl rfl (lit_lt rfl) (fun _=>Calm.sliceStr (l:=64*m+64) (h:=x.2.size) (by kernel_rfl) rfl rfl ⟨_,_,rfl,Int.natCast_nonneg _,Int.ofNat_le.2 h1,rfl⟩) ?_
 refine dP (hc:=fun _=>Calm.as (congrArg Value.string hcat) (Calm.bin rfl rfl (bin_str_add (by rw [ByteArray.size_append,ByteArray.size_extract,ByteArray.size_extract];omega)))) (h:=?_)
 refine dP (hc:=fun _=>Calm.indexS Tryz.underlying22 ty_size_101 rfl rfl (by omega) (by omega)) (h:=?_)
 refine dP (hc:=fun _=>Calm.fieldAddr ty_field_101_1 rfl) (h:=?_)
 refine draw_only rfl ?_
 refine ARun.store1 rfl rfl ty_size_9 rfl own_ (by show 0+(p:Int).toNat*2+1<_;rw [hfl];omega) rfl ?_
 try simp only [k_ms,k_sz,k_ss,k_za,Nat.reduceAdd]
 refine arun_nil ⟨fun h=>absurd h (by decide),?_⟩
 refine draw_nil ?_
 refine athen_n ?_
 refine k_u [(0,_),(1,_),(2,_),(3,_),(4,_),(5,_),(6,_)] ?_
 rw [Int.toNat_natCast,hset2]
 refine k_a ?_
 refine k_5 ty_agg_25 ty_size_25 rfl ?_
 first|refine k_A rfl rfl ty_size_25 ?_|refine k_B rfl rfl ty_size_25 ?_
 try simp only [k_ms,k_sz,k_ss,k_za,Nat.reduceAdd]
 refine k_n ?_
 refine k_u [(0,_),(1,_),(2,_),(3,_),(4,_),(5,_),(6,_)] ?_
 refine AWP.ret ?_
 refine ⟨_,T.set bE ⟨extT,(putD d w p x).ext.flatMap extF,cE*2⟩,⟨_,_,_,rfl,.inr ⟨ty_agg_25,[_,_,_,_,_],ty_size_25,rds_,rfl⟩,rfl,rfl⟩,less_,?_⟩
 exact ⟨rfl,rfl⟩
end Go.Proofs.YtkeiphkccnfhoaaGreat
namespace Go.Proofs.YtkeiphkccnfhoaaGreat
open Go.RowKit
open Mv Disk
set_option maxRecDepth 4000

def mixK (kp : Nat → Bool) (d : D) (n : Nat) : D := { d with ext := d.ext.map (doneN kp d.waits n) }
theorem mix0 (kp : Nat → Bool) (d : D) : mixK kp d 0 = d := by unfold mixK; rw [doneN_zero]
theorem mix_skip {kp : Nat → Bool} {d : D} {n : Nat} (hn : n < d.waits.length) (hk : kp n = false) : mixK kp d (n + 1) = mixK kp d n := by unfold mixK; rw [doneN_skip hn hk]
theorem mix_facts {d : D} (kp : Nat → Bool) {n : Nat} (hR : Right d) (hn : n < d.waits.length) : ∃ p x, ∃ hp : p < (mixK kp d n).ext.length, (mixK kp d n).ext[p] = x ∧ x.1 = d.waits[n].1 ∧ 0 ≤ d.waits[n].2.1 ∧ 64 * d.waits[n].2.1.toNat + 64 ≤ x.2.size ∧ d.waits[n].2.2.size = 64 ∧ x.2.size ≤ 1048576 ∧ (kp n = true → putD (mixK kp d n) d.waits[n] p x = mixK kp d (n + 1)) := by
 obtain ⟨y,hy,e,h0,h1,h2⟩:=hR.wr _ (List.getElem_mem hn)
 obtain ⟨hlt,he⟩:=(has_pos hR.ex.asc d.waits[n].1).1 (has_iff.2 ⟨y,hy,e⟩)
 have hxy:d.ext[pos d.ext d.waits[n].1]=y:=asc_inj hR.ex.asc (List.getElem_mem hlt) hy (by rw [he,e])
 have hsy:=right_sec hR hy
 have hsz:=acc_size (kp:=kp) (right_fit hR hy) n (by omega)
 refine ⟨pos d.ext d.waits[n].1,doneN kp d.waits n y,by unfold mixK;rw [List.length_map];exact hlt,?_,e,h0,?_,h2,?_,fun hk=>?_⟩
 ·unfold mixK;simp only [List.getElem_map];rw [hxy]
 ·show _≤((accW kp y d.waits n).getD y.2).size
  omega
 ·show ((accW kp y d.waits n).getD y.2).size≤_
  omega
 ·unfold putD mixK
  simp only
  rw [doneN_step hn hk hR.ex.asc hlt he,hxy]
theorem fresh_mix {S : Mem} {d d' : D} {oE oW : Option (Nat × Nat)} {b : Nat} (h : Fresh (dkM S d oE oW) b) : Fresh (dkM S d' oE oW) b := by
 obtain ⟨g,h1⟩:=fresh_outN h
 obtain ⟨g',h2⟩:=fresh_outN g
 exact fresh_outN_mk (fresh_outN_mk g' (fun q c e=>Ne.symm (h2 q c e))) (fun q c e=>Ne.symm (h1 q c e))
theorem mix_asc {d : D} (hR : Right d) (kp : Nat → Bool) (n : Nat) : Asc (mixK kp d n).ext := asc_map (f := doneN kp d.waits n) (fun _ => rfl) hR.ex.asc
set_option maxHeartbeats 2000000 in
theorem rd_Sync (v : Value) (d : D) (S : Mem) (hd : DkR S v d) (hz : Dz d) :
  ACall Tryz.prog 62 #[v] S (DkRes (opened d (syncD d)) S):=by
 have hpow:=fun M h=>rd_power v d M h hz
 have hasw:=fun why=>rd_as v d why S hd hz
 have hcopy:=rd_Copy v d S hd hz.el hz.wl
 obtain ⟨pe,ce,pw,cw,rfl,hE,hW⟩:=id hd
 unfold opened
 rcases openD_or d with ⟨ho,hR⟩ | ⟨ho,hR,hdn⟩ | ⟨ho,hR,hdn⟩ <;> (simp only [ho] at hpow ⊢)
 ·have hasw:=hasw 2;rw [asD_no hR] at hasw;rw [if_neg (by decide)]
  refine ACall.enter (rs:=[.cell 2 25,.tmp 3]) 31 [(0,.agg #[.int .i64 d.size,.slice pe d.ext.length ce,.slice pw d.waits.length cw,.int .i64 d.fuse,.bool d.down])] Tryz.func62 rfl rfl (Nat.le_of_ble_eq_true rfl) rfl ⟨rfl,trivial⟩ ?_
  refine k_a ?_
  refine k_b5 rfl ?_
  intro b1 f1
  have g1:=f1
  repeat ((with_reducible replace g1:=fresh_set g1);obtain ⟨g1,_⟩:=g1)
  try simp only [k_l1,k_l0,k_za,Nat.reduceAdd]
  refine ARun.alloc (lit_lt rfl) ty_zero_25 ?_
  intro b2 f2
  have g2:=f2
  repeat ((with_reducible replace g2:=fresh_set g2);obtain ⟨g2,_⟩:=g2)
  try simp only [k_l1,k_l0,k_za,Nat.reduceAdd]
  refine k_e rfl (k_a ?_)
  refine k_5 ty_agg_25 ty_size_25 rfl ?_
  refine ARun.call (lit_lt rfl) go_87 rfl (hpow _ (hd.less less_)) ?_
  rintro _ S1 ⟨rfl,h1⟩
  rw [h1];clear h1 S1
  refine k_e rfl ?_
  refine k_u [(0,_),(1,_),(2,_),(3,_),(4,_)] ?_
  refine AWP.seq (k_a (k_m rfl ?_))
  refine rC (Calm.bin rfl rfl b_neq) ?_
  refine k_n ?_
  refine k_u [(0,_),(1,_),(2,_),(3,_),(4,_),(10,_)] ?_
  refine k_T rfl ?_
  refine k_a ?_
  refine k_5 ty_agg_25 ty_size_25 rfl ?_
  refine k_m rfl ?_
  refine ARun.call (lit_lt rfl) go_88 rfl (((hasw).frame f1).frame f2) ?_
  rintro _ S1 ⟨Sa,⟨M,⟨v',rfl,hSM,hdk⟩,fa,hSa⟩,fb,h1⟩
  rw [h1,hSa];rw [hSa] at fb;clear h1 S1 hSa Sa
  obtain ⟨fbm,nba⟩:=fresh_set fb
  obtain ⟨qe,de,qw,dw,rfl,hE2,hW2⟩:=id hdk
  refine rC (Calm.extract rfl rfl) ?_
  refine rC (Calm.extract rfl rfl) ?_
  first|refine k_A rfl rfl ty_size_25 ?_|refine k_B rfl rfl ty_size_25 ?_
  try simp only [k_ms,k_sz,k_ss,k_za,Nat.reduceAdd]
  refine k_e rfl ?_
  refine k_u [(0,_),(1,_),(2,_),(3,_),(4,_),(10,_)] ?_
  refine k_r ?_
  refine ⟨_,M,⟨_,_,_,rfl,.inr ⟨ty_agg_25,[_,_,_,_,_],ty_size_25,rds_,rfl⟩,⟨_,_,rfl,rfl,rfl⟩,rfl⟩,less_,?_⟩
  exact ⟨_,rfl,hSM,hdk⟩
 ·have hasw:=hasw 10;rw [asD_ok hR] at hasw;rw [if_neg (by decide)]
  refine ACall.enter (rs:=[.cell 2 25,.tmp 3]) 31 [(0,.agg #[.int .i64 d.size,.slice pe d.ext.length ce,.slice pw d.waits.length cw,.int .i64 d.fuse,.bool d.down])] Tryz.func62 rfl rfl (Nat.le_of_ble_eq_true rfl) rfl ⟨rfl,trivial⟩ ?_
  refine k_a ?_
  refine k_b5 rfl ?_
  intro b1 f1
  have g1:=f1
  repeat ((with_reducible replace g1:=fresh_set g1);obtain ⟨g1,_⟩:=g1)
  try simp only [k_l1,k_l0,k_za,Nat.reduceAdd]
  refine ARun.alloc (lit_lt rfl) ty_zero_25 ?_
  intro b2 f2
  have g2:=f2
  repeat ((with_reducible replace g2:=fresh_set g2);obtain ⟨g2,_⟩:=g2)
  try simp only [k_l1,k_l0,k_za,Nat.reduceAdd]
  refine k_e rfl (k_a ?_)
  refine k_5 ty_agg_25 ty_size_25 rfl ?_
  refine ARun.call (lit_lt rfl) go_87 rfl (hpow _ (hd.less less_)) ?_
  rintro _ S1 ⟨rfl,h1⟩
  rw [h1];clear h1 S1
  refine k_e rfl ?_
  refine k_u [(0,_),(1,_),(2,_),(3,_),(4,_)] ?_
  refine AWP.seq (k_a (k_m rfl ?_))
  refine rC (Calm.bin rfl rfl b_neq) ?_
  refine k_n ?_
  refine k_u [(0,_),(1,_),(2,_),(3,_),(4,_),(10,_)] ?_
  refine k_T rfl ?_
  refine k_a ?_
  refine k_5 ty_agg_25 ty_size_25 rfl ?_
  refine k_m rfl ?_
  refine ARun.call (lit_lt rfl) go_88 rfl (((hasw).frame f1).frame f2) ?_
  rintro _ S1 ⟨Sa,⟨M,⟨v',rfl,hSM,hdk⟩,fa,hSa⟩,fb,h1⟩
  rw [h1,hSa];rw [hSa] at fb;clear h1 S1 hSa Sa
  obtain ⟨fbm,nba⟩:=fresh_set fb
  obtain ⟨qe,de,qw,dw,rfl,hE2,hW2⟩:=id hdk
  refine rC (Calm.extract rfl rfl) ?_
  refine rC (Calm.extract rfl rfl) ?_
  first|refine k_A rfl rfl ty_size_25 ?_|refine k_B rfl rfl ty_size_25 ?_
  try simp only [k_ms,k_sz,k_ss,k_za,Nat.reduceAdd]
  refine k_e rfl ?_
  refine k_u [(0,_),(1,_),(2,_),(3,_),(4,_),(10,_)] ?_
  refine k_r ?_
  refine ⟨_,M,⟨_,_,_,rfl,.inr ⟨ty_agg_25,[_,_,_,_,_],ty_size_25,rds_,rfl⟩,⟨_,_,rfl,rfl,rfl⟩,rfl⟩,less_,?_⟩
  exact ⟨_,rfl,hSM,hdk⟩
 ·rw [if_pos trivial]
  have hrl:=right_len hR;have hwl:=hR.wl
  refine ACall.enter (rs:=[.cell 2 25,.tmp 3]) 31 [(0,.agg #[.int .i64 d.size,.slice pe d.ext.length ce,.slice pw d.waits.length cw,.int .i64 d.fuse,.bool d.down])] Tryz.func62 rfl rfl (Nat.le_of_ble_eq_true rfl) rfl ⟨rfl,trivial⟩ ?_
  refine k_a ?_
  refine k_b5 rfl ?_
  intro b1 f1
  have g1:=f1
  repeat ((with_reducible replace g1:=fresh_set g1);obtain ⟨g1,_⟩:=g1)
  try simp only [k_l1,k_l0,k_za,Nat.reduceAdd]
  refine ARun.alloc (lit_lt rfl) ty_zero_25 ?_
  intro b2 f2
  have g2:=f2
  repeat ((with_reducible replace g2:=fresh_set g2);obtain ⟨g2,_⟩:=g2)
  try simp only [k_l1,k_l0,k_za,Nat.reduceAdd]
  refine k_e rfl (k_a ?_)
  refine k_5 ty_agg_25 ty_size_25 rfl ?_
  refine ARun.call (lit_lt rfl) go_87 rfl (hpow _ (hd.less less_)) ?_
  rintro _ S1 ⟨rfl,h1⟩
  rw [h1];clear h1 S1
  refine k_e rfl ?_
  refine k_u [(0,_),(1,_),(2,_),(3,_),(4,_)] ?_
  refine AWP.seq (k_a (k_m rfl ?_))
  refine rC (Calm.bin rfl rfl b_neq) ?_
  refine k_n ?_
  refine k_u [(0,_),(1,_),(2,_),(3,_),(4,_),(10,_)] ?_
  refine k_F rfl ?_
  refine k_k (k_a ?_)
  refine k_5 ty_agg_25 ty_size_25 rfl ?_
  refine ARun.call (lit_lt rfl) go_29 rfl (((hcopy).frame f1).frame f2) ?_
  rintro _ S1 ⟨Sa,⟨M,⟨oE,oW,hok,rfl,hM⟩,fa,hSa⟩,fb,h1⟩
  rw [h1,hSa];rw [hSa] at fb;clear h1 S1 hSa Sa
  obtain ⟨fbm,nba⟩:=fresh_set fb
  unfold dkV
  obtain ⟨qe,de,hqe⟩:=outV_eq hok.e
  obtain ⟨qw,dw,hqw⟩:=outV_eq hok.w
  rw [hqe,hqw]
  first|refine k_A rfl rfl ty_size_25 ?_|refine k_B rfl rfl ty_size_25 ?_
  try simp only [k_ms,k_sz,k_ss,k_za,Nat.reduceAdd]
  refine k_n ?_
  refine k_u [(0,_),(1,_),(2,_),(3,_),(4,_),(10,_)] ?_
  rw [set_back M nba]
  have hvi:∀ i,dkV (mixK allK d i) oE oW = .agg #[.int .i64 d.size,.slice qe d.ext.length de,.slice qw d.waits.length dw,.int .i64 d.fuse,.bool d.down]:=fun i=>by unfold dkV mixK;simp only [List.length_map];rw [hqe,hqw]
  have hoki:∀ i,OkD S (mixK allK d i) oE oW:=fun i=>okD_as hok (by unfold mixK;simp) rfl
  have hdki:∀ i,DkR (dkM S (mixK allK d i) oE oW) (.agg #[.int .i64 d.size,.slice qe d.ext.length de,.slice qw d.waits.length dw,.int .i64 d.fuse,.bool d.down]) (mixK allK d i):=fun i=>by rw [← hvi i];exact (hoki i).dk (by unfold mixK;simp;omega) (by show d.waits.length≤_;omega)
  have fBi:∀ i,Fresh (dkM S (mixK allK d i) oE oW) b1:=fun i=>by rw [hM] at fa;exact fresh_mix fa
  have hM0:M=dkM S (mixK allK d 0) oE oW:=by rw [mix0];exact hM
  refine AWP.seq (k_a ?_)
  refine rC (Calm.fieldAddr ty_field_25_2 rfl) ?_
  refine rC (ld_ ty_plain_23 rfl) ?_
  refine rC (Calm.lenSl Tryz.underlying23 rfl) ?_
  refine k_m rfl (k_n ?_)
  refine k_u [(0,_),(1,_),(2,_),(3,_),(4,_),(10,_),(19,_),(20,_),(21,_)] ?_
  refine AWP.block ?_
  refine AWP.loop (X:=Nat) (fun x=>[(1,.pointer (some ⟨b1,0,none⟩)),(2,.pointer (some ⟨b2,0,none⟩)),(19,.slice qw d.waits.length dw),(20,.int .i64 d.waits.length),(21,.int .i64 x)]) (fun x=>((dkM S (mixK allK d x) oE oW).set b1 (boxD d (.slice qe d.ext.length de) (.slice qw d.waits.length dw))).set b2 (boxD D0 (.slice none 0 0) (.slice none 0 0))) (fun x=>x≤d.waits.length) (fun x=>d.waits.length-x) (0) ⟨rfl,rfl,rfl,rfl,rfl,trivial⟩ ((by rw [← hM0];exact Mem.Less.refl _)) (Nat.zero_le _) ?_
  rintro i hi
  (try dsimp only at *)
  have fb1:=fBi i
  have fb2:Fresh ((dkM S (mixK allK d i) oE oW).set b1 (boxD d (.slice qe d.ext.length de) (.slice qw d.waits.length dw))) b2:=fresh_more (by rw [hM] at fbm;exact fresh_mix fbm) nba
  obtain ⟨_,_,_,_,hxx,hEi,hWi⟩:=id (hdki i)
  rw [show (mixK allK d i).ext.length=d.ext.length from List.length_map _] at hxx hEi
  cases hxx
  have hWi':Sl 3 wrF (dkM S (mixK allK d i) oE oW) (.slice qw d.waits.length dw) d.waits:=hWi
  obtain ⟨_,_,ee,_,_,hW3⟩:=id hWi'
  cases ee
  obtain ⟨fb2m,nb2⟩:=fresh_set fb2
  unfold boxD at fb2 ⊢
  refine k_a ?_
  refine rC (Calm.bin rfl rfl b_lss) ?_
  refine k_n (AWP.seq ?_)
  refine AWP.condB rfl (fun hc=>?_) (fun hc=>?_)
  ·have hc:i<d.waits.length:=by have:=of_decide_eq_true hc;omega
   obtain ⟨bw,ow,hqq,hkw⟩:=hW3.resolve_left (fun e=>by rw [e] at hc;simp at hc)
   have hkwi:=hkw i hc
   obtain ⟨p,x,hp,hx,hx1,h0,h1,h2,h3,hput⟩:=mix_facts allK hR hc
   have hdone:=rd_done (mixK allK d i) d.waits[i] S oE oW (hoki i) (by unfold mixK;simp;omega) (by show d.waits.length≤_;omega) (mix_asc hR allK i) p x hp hx hx1 h0 h1 h2 (by omega)
   rw [hvi i] at hdone
   have hvp:dkV (putD (mixK allK d i) d.waits[i] p x) oE oW = .agg #[.int .i64 d.size,.slice qe d.ext.length de,.slice qw d.waits.length dw,.int .i64 d.fuse,.bool d.down]:=by rw [← hvi i];unfold dkV putD;simp only [List.length_set]
   rw [hvp] at hdone
   have hsk:=mix_skip (kp:=allK) hc
   clear hx1 h0 h1 h2 h3 hvp
   subst hqq
   generalize d.waits[i]=w at *
   unfold wrF at hkwi
   have hput:=hput (rfl)
   rw [hput] at hdone
   refine k_k (AWP.seq ?_)
   refine AWP.block ?_
   refine k_a ?_
   refine rC (Calm.indexS Tryz.underlying23 ty_size_104 rfl rfl (by omega) (by omega)) ?_
   refine rC (ldA_ (cs:=[_,_,_]) ty_agg_104 ty_size_104 rfl) ?_
   refine ARun.alloc (lit_lt rfl) ty_zero_104 ?_
   intro b6 f6
   have g6:=f6
   repeat ((with_reducible replace g6:=fresh_set g6);obtain ⟨g6,_⟩:=g6)
   try simp only [k_l1,k_l0,k_za,Nat.reduceAdd]
   first|refine k_A rfl rfl ty_size_104 ?_|refine k_B rfl rfl ty_size_104 ?_
   try simp only [k_ms,k_sz,k_ss,k_za,Nat.reduceAdd]
   refine k_n ?_
   refine k_u [(1,_),(2,_),(19,_),(20,_),(21,_),(22,_),(6,_)] ?_
   refine AWP.region ?_
   refine k_5 ty_agg_25 ty_size_25 rfl ?_
   refine rC (ldA_ (cs:=[_,_,_]) ty_agg_104 ty_size_104 rfl) ?_
   refine ARun.call (lit_lt rfl) go_89 rfl ((((hdone).frame fb1).frame fb2).frame f6) ?_
   rintro _ S1 ⟨Sa,⟨Sb,⟨M2,⟨rfl,hM2⟩,ga,hSb⟩,gb,hSa⟩,gc,h1⟩
   rw [h1,hSa,hSb];rw [hSa,hSb] at gc;rw [hSb] at gb;clear h1 S1 hSa Sa hSb Sb
   obtain ⟨gbm,nba⟩:=fresh_set gb
   obtain ⟨gc1,ncb⟩:=fresh_set gc
   obtain ⟨gcm,nca⟩:=fresh_set gc1
   rw [hM2] at ga gb gc gbm gc1 gcm ⊢
   first|refine k_A rfl rfl ty_size_25 ?_|refine k_B rfl rfl ty_size_25 ?_
   try simp only [k_ms,k_sz,k_ss,k_za,Nat.reduceAdd]
   refine arun_nil ?_
   refine ain_n ?_
   refine athen_n ?_
   refine k_u [(1,_),(2,_),(19,_),(20,_),(21,_),(22,_),(6,_)] ?_
   refine AWP.region ?_
   refine rC (Calm.bin rfl rfl b_add_i64) ?_
   refine k_m rfl (k_n ?_)
   refine ⟨i+1,?_,?_,?_,?_⟩
   all_goals (try dsimp only)
   ·exact ⟨rfl,rfl,rfl,rfl,rfl,trivial⟩
   ·exact less_
   ·exact hc
   ·omega
  ·have hc:i=d.waits.length:=by have:=of_decide_eq_false hc;omega
   subst hc
   have hs:Sl 2 extF (dkM S (mixK allK d d.waits.length) oE oW) (.slice qe (d.ext.map (doneX allK d.waits)).length de) (d.ext.map (doneX allK d.waits)):=by rw [List.length_map];exact hEi
   have hval:∀ (f:Int) (b:Bool),(Value.agg #[.int .i64 d.size,.slice qe d.ext.length de,.slice none 0 0,.int .i64 f,.bool b]) = .agg #[.int .i64 d.size,.slice qe (d.ext.map (doneX allK d.waits)).length de,.slice none 0 0,.int .i64 f,.bool b]:=fun f b=>by rw [List.length_map]
   refine AWP.exit ?_
   refine athen_exit ?_
   refine athen_exit ?_
   refine ain_same ?_
   refine athen_n ?_
   refine k_a ?_
   refine rC (Calm.fieldAddr ty_field_25_2 rfl) ?_
   refine ARun.store1 rfl rfl ty_size_23 rfl own_ lens_ rfl ?_
   try simp only [k_ms,k_sz,k_ss,k_za,Nat.reduceAdd]
   refine k_n ?_
   refine k_u [(1,_),(2,_),(19,_),(20,_),(21,_),(22,_)] ?_
   refine k_a ?_
   refine k_5 ty_agg_25 ty_size_25 rfl ?_
   first|refine k_A rfl rfl ty_size_25 ?_|refine k_B rfl rfl ty_size_25 ?_
   try simp only [k_ms,k_sz,k_ss,k_za,Nat.reduceAdd]
   refine k_e rfl ?_
   refine k_u [(1,_),(2,_),(19,_),(20,_),(21,_),(22,_),(3,_)] ?_
   refine AWP.ret ?_
   refine ⟨_,dkM S (mixK allK d d.waits.length) oE oW,⟨_,_,_,rfl,.inr ⟨ty_agg_25,[_,_,_,_,_],ty_size_25,rds_,rfl⟩,⟨_,_,rfl,rfl,rfl⟩,rfl⟩,less_,?_⟩
   exact ⟨_,rfl,(hoki _).less,⟨_,_,_,_,hval _ _,hs,Sl.nil _ _ _⟩⟩
end Go.Proofs.YtkeiphkccnfhoaaGreat
namespace Go.Proofs.YtkeiphkccnfhoaaGreat
open Go.RowKit
open Mv Disk
set_option maxRecDepth 20000
theorem neq_ext (a b : ByteArray) (w : World) : (binOp .neq 101 (.agg #[.string a, .string b]) (.agg #[.string a, .string b])).run Tryz.prog w = .ok (.bool false) w := by
 go_simp
theorem neq_wr (a : ByteArray) (n : Int) (b : ByteArray) (w : World) : (binOp .neq 104 (.agg #[.string a, .int .i64 n, .string b]) (.agg #[.string a, .int .i64 n, .string b])).run Tryz.prog w = .ok (.bool false) w := by
 go_simp
theorem bin_neq_ext {x y : Operand} (a b : ByteArray) : Bin Tryz.prog .neq 101 x y (.agg #[.string a, .string b]) (.agg #[.string a, .string b]) (.bool false) := fun w => by
 rw [Sem.run_bind,run_eqGuard_agg w .neq 101 x y _ _ (by kernel_rfl)]
 exact neq_ext a b w
theorem bin_neq_wr {x y : Operand} (a : ByteArray) (n : Int) (b : ByteArray) : Bin Tryz.prog .neq 104 x y (.agg #[.string a, .int .i64 n, .string b]) (.agg #[.string a, .int .i64 n, .string b]) (.bool false) := fun w => by
 rw [Sem.run_bind,run_eqGuard_agg w .neq 104 x y _ _ (by kernel_rfl)]
 exact neq_wr a n b w
set_option maxHeartbeats 2000000 in
theorem rd_Same (v v' : Value) (d : D) (S : Mem) (hd : DkR S v d) (hd' : DkR S v' d) :
  ACall Tryz.prog 47 #[v,v'] S fun r S'=>r = .bool true∧S'=S:=by
 obtain ⟨pe,ce,pw,cw,rfl,hE,hW⟩:=hd
 obtain ⟨pe',ce',pw',cw',rfl,hE',hW'⟩:=hd'
 obtain ⟨_,_,ee1,ee2,ee3,hE3⟩:=id hE
 obtain ⟨_,_,ew1,ew2,ew3,hW3⟩:=id hW
 cases ee1;cases ew1
 obtain ⟨_,_,ee1,_,_,hE3'⟩:=id hE'
 obtain ⟨_,_,ew1,_,_,hW3'⟩:=id hW'
 cases ee1;cases ew1
 refine ACall.enter (rs:=[.tmp 4]) 80 [(0,.agg #[.int .i64 d.size,.slice pe d.ext.length ce,.slice pw d.waits.length cw,.int .i64 d.fuse,.bool d.down]),(1,.agg #[.int .i64 d.size,.slice pe' d.ext.length ce',.slice pw' d.waits.length cw',.int .i64 d.fuse,.bool d.down])] Tryz.func47 rfl rfl (Nat.le_of_ble_eq_true rfl) rfl ⟨rfl,rfl,trivial⟩ ?_
 refine k_a ?_
 refine k_b5 rfl ?_
 intro b2 f2
 have g2:=f2
 repeat ((with_reducible replace g2:=fresh_set g2);obtain ⟨g2,_⟩:=g2)
 try simp only [k_l1,k_l0,k_za,Nat.reduceAdd]
 refine k_b5 rfl ?_
 intro b3 f3
 have g3:=f3
 repeat ((with_reducible replace g3:=fresh_set g3);obtain ⟨g3,_⟩:=g3)
 try simp only [k_l1,k_l0,k_za,Nat.reduceAdd]
 refine k_e rfl ?_
 refine named2 (S:=S) (b:=b2) (b':=b3) f2.1 f3.1 ?_
 intro T3 hT3 kb2 kb3
 refine AWP.seq (k_a ?_)
 refine rC (Calm.fieldAddr ty_field_25_0 rfl) ?_
 refine rC (ld_ ty_plain_3 rfl) ?_
 refine rC (Calm.fieldAddr ty_field_25_0 rfl) ?_
 refine rC (ld_ ty_plain_3 rfl) ?_
 refine rC (Calm.bin rfl rfl (bin_bool (bin_neq _ _) (bnot_dec_false rfl))) ?_
 refine k_m rfl ?_
 first|refine k_q 12 ?_|refine rG 12 (Calm.fieldAddr ty_field_25_3 rfl) ?_
 first|refine k_q 12 ?_|refine rG 12 (ld_ ty_plain_3 rfl) ?_
 first|refine k_q 12 ?_|refine rG 12 (Calm.fieldAddr ty_field_25_3 rfl) ?_
 first|refine k_q 12 ?_|refine rG 12 (ld_ ty_plain_3 rfl) ?_
 first|refine k_q 12 ?_|refine rG 12 (Calm.bin rfl rfl (bin_bool (bin_neq _ _) (bnot_dec_false rfl))) ?_
 first|refine k_t rfl rfl ?_|refine k_f rfl rfl ?_
 refine k_m rfl ?_
 first|refine k_q 19 ?_|refine rG 19 (Calm.fieldAddr ty_field_25_4 rfl) ?_
 first|refine k_q 19 ?_|refine rG 19 (ld_ ty_plain_4 rfl) ?_
 first|refine k_q 19 ?_|refine rG 19 (Calm.fieldAddr ty_field_25_4 rfl) ?_
 first|refine k_q 19 ?_|refine rG 19 (ld_ ty_plain_4 rfl) ?_
 first|refine k_q 19 ?_|refine rG 19 (Calm.bin rfl rfl (bin_bool (bin_bool_neq _ _ Tryz.underlying4) (by simp:(!(d.down == d.down))=false))) ?_
 first|refine k_t rfl rfl ?_|refine k_f rfl rfl ?_
 refine k_m rfl ?_
 first|refine k_q 26 ?_|refine rG 26 (Calm.fieldAddr ty_field_25_1 rfl) ?_
 first|refine k_q 26 ?_|refine rG 26 (ld_ ty_plain_22 rfl) ?_
 first|refine k_q 26 ?_|refine rG 26 (Calm.lenSl Tryz.underlying22 rfl) ?_
 first|refine k_q 26 ?_|refine rG 26 (Calm.fieldAddr ty_field_25_1 rfl) ?_
 first|refine k_q 26 ?_|refine rG 26 (ld_ ty_plain_22 rfl) ?_
 first|refine k_q 26 ?_|refine rG 26 (Calm.lenSl Tryz.underlying22 rfl) ?_
 first|refine k_q 26 ?_|refine rG 26 (Calm.bin rfl rfl (bin_bool (bin_neq _ _) (bnot_dec_false rfl))) ?_
 first|refine k_t rfl rfl ?_|refine k_f rfl rfl ?_
 refine k_m rfl ?_
 first|refine k_q 35 ?_|refine rG 35 (Calm.fieldAddr ty_field_25_2 rfl) ?_
 first|refine k_q 35 ?_|refine rG 35 (ld_ ty_plain_23 rfl) ?_
 first|refine k_q 35 ?_|refine rG 35 (Calm.lenSl Tryz.underlying23 rfl) ?_
 first|refine k_q 35 ?_|refine rG 35 (Calm.fieldAddr ty_field_25_2 rfl) ?_
 first|refine k_q 35 ?_|refine rG 35 (ld_ ty_plain_23 rfl) ?_
 first|refine k_q 35 ?_|refine rG 35 (Calm.lenSl Tryz.underlying23 rfl) ?_
 first|refine k_q 35 ?_|refine rG 35 (Calm.bin rfl rfl (bin_bool (bin_neq _ _) (bnot_dec_false rfl))) ?_
 first|refine k_t rfl rfl ?_|refine k_f rfl rfl ?_
 refine k_n ?_
 refine k_u [(0,_),(1,_),(2,_),(3,_),(4,_),(43,_)] ?_
 refine k_F rfl ?_
 refine k_k (AWP.seq (k_a ?_))
 refine rC (Calm.fieldAddr ty_field_25_1 rfl) ?_
 refine rC (ld_ ty_plain_22 rfl) ?_
 refine rC (Calm.lenSl Tryz.underlying22 rfl) ?_
 refine k_m rfl (k_n ?_)
 refine k_u [(0,_),(1,_),(2,_),(3,_),(4,_),(43,_),(46,_),(47,_)] ?_
 refine AWP.block ?_
 refine AWP.loop (X:=Nat) (fun x=>[(2,.pointer (some ⟨b2,0,none⟩)),(3,.pointer (some ⟨b3,0,none⟩)),(46,.int .i64 d.ext.length),(47,.int .i64 x)]) (fun x=>T3) (fun x=>x≤d.ext.length) (fun x=>d.ext.length-x) (0) ⟨rfl,rfl,rfl,rfl,trivial⟩ (Mem.Less.refl _) (Nat.zero_le _) ?_
 rintro i hi
 (try dsimp only at *)
 refine k_a ?_
 refine rC (Calm.bin rfl rfl b_lss) ?_
 refine k_n (AWP.seq ?_)
 refine AWP.condB rfl (fun hc=>?_) (fun hc=>?_)
 ·have hc:i<d.ext.length:=by have:=of_decide_eq_true hc;omega
  obtain ⟨b,off,rfl,hk⟩:=hE3.resolve_left (fun e=>by rw [e] at hc;simp at hc)
  obtain ⟨b',off',rfl,hk'⟩:=hE3'.resolve_left (fun e=>by rw [e] at hc;simp at hc)
  have hki:=(hk i hc).less hT3
  have hki':=(hk' i hc).less hT3
  generalize d.ext[i]=x at *
  unfold extF at hki hki'
  refine k_k (AWP.seq ?_)
  refine AWP.block ?_
  refine k_a (k_m rfl (k_e rfl ?_))
  refine k_u [(2,_),(3,_),(46,_),(47,_),(48,_),(5,_)] ?_
  refine AWP.seq ?_
  refine AWP.draw [(0,true),(1,true),(2,true),(3,true),(4,true),(5,true),(6,true),(7,true),(8,true),(9,true),(10,true)] [] mixed (by kernel_rfl) ?_
  refine dP (hc:=fun _=>Calm.fieldAddr ty_field_25_1 rfl) (h:=?_)
  refine dC (hc:=ld_ ty_plain_22 rfl) (h:=?_)
  refine dP (hc:=fun _=>Calm.move rfl) (h:=?_)
  refine dP (hc:=fun _=>Calm.indexS Tryz.underlying22 ty_size_101 rfl rfl (by omega) (by omega)) (h:=?_)
  refine dC (hc:=ldA_ (cs:=[_,_]) ty_agg_101 ty_size_101 rfl) (h:=?_)
  refine dP (hc:=fun _=>Calm.fieldAddr ty_field_25_1 rfl) (h:=?_)
  refine dC (hc:=ld_ ty_plain_22 rfl) (h:=?_)
  refine dP (hc:=fun _=>Calm.move rfl) (h:=?_)
  refine dP (hc:=fun _=>Calm.indexS Tryz.underlying22 ty_size_101 rfl rfl (by omega) (by omega)) (h:=?_)
  refine dC (hc:=ldA_ (cs:=[_,_]) ty_agg_101 ty_size_101 rfl) (h:=?_)
  refine dP (hc:=fun _=>Calm.bin rfl rfl (bin_neq_ext _ _)) (h:=?_)
  refine draw_nil ?_
  refine athen_n ?_
  refine k_u [(2,_),(3,_),(46,_),(47,_),(48,_),(5,_),(60,_)] ?_
  refine k_F rfl ?_
  refine AWP.skip ?_
  refine ain_n ?_
  refine athen_n ?_
  refine AWP.region ?_
  refine rC (Calm.bin rfl rfl b_add_i64) ?_
  refine k_m rfl (k_n ?_)
  refine ⟨i+1,?_,?_,?_,?_⟩
  all_goals (try dsimp only)
  ·exact ⟨rfl,rfl,rfl,rfl,trivial⟩
  ·exact less_
  ·exact hc
  ·omega
 ·have hc:i=d.ext.length:=by have:=of_decide_eq_false hc;omega
  subst hc
  refine AWP.exit ?_
  refine athen_exit ?_
  refine athen_exit ?_
  refine ain_same ?_
  refine athen_n ?_
  refine AWP.seq (k_a ?_)
  refine rC (Calm.fieldAddr ty_field_25_2 rfl) ?_
  refine rC (ld_ ty_plain_23 rfl) ?_
  refine rC (Calm.lenSl Tryz.underlying23 rfl) ?_
  refine k_m rfl (k_n ?_)
  refine k_u [(2,_),(3,_),(46,_),(47,_),(48,_),(64,_),(65,_)] ?_
  refine AWP.block ?_
  refine AWP.loop (X:=Nat) (fun x=>[(2,.pointer (some ⟨b2,0,none⟩)),(3,.pointer (some ⟨b3,0,none⟩)),(64,.int .i64 d.waits.length),(65,.int .i64 x)]) (fun x=>T3) (fun x=>x≤d.waits.length) (fun x=>d.waits.length-x) (0) ⟨rfl,rfl,rfl,rfl,trivial⟩ (Mem.Less.refl _) (Nat.zero_le _) ?_
  rintro i hi
  (try dsimp only at *)
  refine k_a ?_
  refine rC (Calm.bin rfl rfl b_lss) ?_
  refine k_n (AWP.seq ?_)
  refine AWP.condB rfl (fun hc=>?_) (fun hc=>?_)
  ·have hc:i<d.waits.length:=by have:=of_decide_eq_true hc;omega
   obtain ⟨b,off,rfl,hk⟩:=hW3.resolve_left (fun e=>by rw [e] at hc;simp at hc)
   obtain ⟨b',off',rfl,hk'⟩:=hW3'.resolve_left (fun e=>by rw [e] at hc;simp at hc)
   have hki:=(hk i hc).less hT3
   have hki':=(hk' i hc).less hT3
   generalize d.waits[i]=x at *
   unfold wrF at hki hki'
   refine k_k (AWP.seq ?_)
   refine AWP.block ?_
   refine k_a (k_m rfl (k_e rfl ?_))
   refine k_u [(2,_),(3,_),(64,_),(65,_),(66,_),(6,_)] ?_
   refine AWP.seq ?_
   refine AWP.draw [(0,true),(1,true),(2,true),(3,true),(4,true),(5,true),(6,true),(7,true),(8,true),(9,true),(10,true)] [] mixed (by kernel_rfl) ?_
   refine dP (hc:=fun _=>Calm.fieldAddr ty_field_25_2 rfl) (h:=?_)
   refine dC (hc:=ld_ ty_plain_23 rfl) (h:=?_)
   refine dP (hc:=fun _=>Calm.move rfl) (h:=?_)
   refine dP (hc:=fun _=>Calm.indexS Tryz.underlying23 ty_size_104 rfl rfl (by omega) (by omega)) (h:=?_)
   refine dC (hc:=ldA_ (cs:=[_,_,_]) ty_agg_104 ty_size_104 rfl) (h:=?_)
   refine dP (hc:=fun _=>Calm.fieldAddr ty_field_25_2 rfl) (h:=?_)
   refine dC (hc:=ld_ ty_plain_23 rfl) (h:=?_)
   refine dP (hc:=fun _=>Calm.move rfl) (h:=?_)
   refine dP (hc:=fun _=>Calm.indexS Tryz.underlying23 ty_size_104 rfl rfl (by omega) (by omega)) (h:=?_)
   refine dC (hc:=ldA_ (cs:=[_,_,_]) ty_agg_104 ty_size_104 rfl) (h:=?_)
   refine dP (hc:=fun _=>Calm.bin rfl rfl (bin_neq_wr _ _ _)) (h:=?_)
   refine draw_nil ?_
   refine athen_n ?_
   refine k_u [(2,_),(3,_),(64,_),(65,_),(66,_),(6,_),(78,_)] ?_
   refine k_F rfl ?_
   refine AWP.skip ?_
   refine ain_n ?_
   refine athen_n ?_
   refine AWP.region ?_
   refine rC (Calm.bin rfl rfl b_add_i64) ?_
   refine k_m rfl (k_n ?_)
   refine ⟨i+1,?_,?_,?_,?_⟩
   all_goals (try dsimp only)
   ·exact ⟨rfl,rfl,rfl,rfl,trivial⟩
   ·exact less_
   ·exact hc
   ·omega
  ·refine AWP.exit ?_
   refine athen_exit ?_
   refine athen_exit ?_
   refine ain_same ?_
   refine athen_n ?_
   refine k_a (k_e rfl ?_)
   refine AWP.ret ?_
   refine ⟨_,S,⟨_,_,rfl,rfl,rfl⟩,hT3.trans less_,?_⟩
   exact ⟨rfl,rfl⟩
end Go.Proofs.YtkeiphkccnfhoaaGreat
namespace Go.Proofs.YtkeiphkccnfhoaaGreat
open Go.RowKit
open Mv Disk
set_option maxRecDepth 4000
theorem readO_see (d : D) (s : ByteArray) (k : Int) : readO d s k = if placeO d s k ≠ 0 then (ByteArray.empty, placeO d s k) else (seen d s k, 0) := by
 unfold readO placeO
 by_cases q:(openD d).2=0
 ·have h1 : ¬ ((openD d).2≠0):=by simpa using q
  simp only [if_neg h1];exact readD_see d s k
 ·rw [if_pos q,if_pos q,if_pos q]
set_option maxHeartbeats 2000000 in
theorem rd_Read (v : Value) (d : D) (s : ByteArray) (k : Int) (S : Mem) (hd : DkR S v d) (hz : Dz d) :
  ACall Tryz.prog 36 #[v,.string s,.int .i64 k] S fun r S'=>r = .tuple #[.string (readO d s k).1,.int .i64 (readO d s k).2]∧S'=S:=by
 have hpl:=fun M h=>rd_place v d s k M h hz
 obtain ⟨pe,ce,pw,cw,rfl,hE,hW⟩:=id hd
 rw [readO_see]
 by_cases q0:placeO d s k≠0
 ·rw [if_pos q0]
  generalize placeO d s k=er at *
  refine ACall.enter (rs:=[.tmp 6,.tmp 7]) 55 [(0,.agg #[.int .i64 d.size,.slice pe d.ext.length ce,.slice pw d.waits.length cw,.int .i64 d.fuse,.bool d.down]),(1,.string s),(2,.int .i64 k)] Tryz.func36 rfl rfl (Nat.le_of_ble_eq_true rfl) rfl ⟨rfl,rfl,rfl,trivial⟩ ?_
  refine k_a ?_
  refine k_b5 rfl ?_
  intro b3 f3
  have g3:=f3
  repeat ((with_reducible replace g3:=fresh_set g3);obtain ⟨g3,_⟩:=g3)
  try simp only [k_l1,k_l0,k_za,Nat.reduceAdd]
  refine k_s rfl (k_e rfl (k_a ?_))
  refine k_5 ty_agg_25 ty_size_25 rfl ?_
  refine k_m rfl (k_m rfl ?_)
  refine ARun.call (lit_lt rfl) go_70 rfl (hpl _ (hd.less less_)) ?_
  rintro _ S1 ⟨rfl,h1⟩
  rw [h1];clear h1 S1
  refine k_e rfl ?_
  refine k_u [(0,_),(1,_),(2,_),(3,_),(6,_),(7,_),(8,_)] ?_
  refine AWP.seq (k_a (k_m rfl ?_))
  refine rC (Calm.bin rfl rfl (bin_bool (bin_neq _ _) (bnot_dec_true q0))) ?_
  refine k_n ?_
  refine k_u [(0,_),(1,_),(2,_),(3,_),(6,_),(7,_),(8,_),(17,_)] ?_
  refine k_T rfl ?_
  refine k_a (k_m rfl (k_s rfl (k_e rfl ?_)))
  refine k_u [(0,_),(1,_),(2,_),(3,_),(6,_),(7,_),(8,_),(17,_)] ?_
  refine k_r ?_
  refine ⟨_,S,⟨_,_,rfl,⟨_,_,rfl,rfl,rfl⟩,rfl⟩,less_,?_⟩
  exact ⟨rfl,rfl⟩
 ·rw [if_neg q0]
  have q0:placeO d s k=0:=by simpa using q0
  have hop:(openD d).2=0:=by
   rcases openD_or d with ⟨ho,hR⟩ | ⟨ho,hR,hdn⟩ | ⟨ho,hR,hdn⟩
   ·unfold placeO at q0;rw [ho] at q0;simp at q0
   ·unfold placeO at q0;rw [ho] at q0;simp at q0
   ·rw [ho]
  have hR:Right d:=by
   rcases openD_or d with ⟨ho,hR⟩ | ⟨ho,hR,hdn⟩ | ⟨ho,hR,hdn⟩
   ·rw [ho] at hop;simp at hop
   ·exact hR
   ·exact hR
  have hp0:(placeD d s k).2=0:=by unfold placeO at q0;rw [if_neg (by simpa using hop)] at q0;exact q0
  obtain ⟨q,hk0,hk1⟩:=place0 hp0
  simp only [q0] at hpl
  have hf:fnd d.ext s=(pos d.ext s:Nat):=by unfold fnd;rw [if_pos q]
  obtain ⟨hlt,he⟩:=(has_pos hR.ex.asc s).1 q
  unfold seen
  rw [exOf_eq hlt] at hk1 ⊢
  obtain ⟨_,_,ee1,ee2,ee3,hE3⟩:=id hE
  obtain ⟨_,_,ew1,ew2,ew3,hW3⟩:=id hW
  cases ee1;cases ew1
  obtain ⟨b,off,rfl,hk⟩:=hE3.resolve_left (fun e=>by rw [e] at hlt;simp at hlt)
  have hki:=hk _ hlt
  have hsx:=right_sec hR (List.getElem_mem hlt)
  generalize pos d.ext s=p at *
  generalize d.ext[p]=x at *
  unfold extF at hki
  have hki1:=kn_at hki 1 rfl
  obtain ⟨m,rfl⟩ : ∃ m:Nat,k=m:=⟨k.toNat,by omega⟩
  rw [Int.toNat_natCast]
  obtain ⟨hm1,hm2,hm3,hm4⟩:=wr_facts hsx hk1
  generalize hB:x.2.extract (64*m) (64*m+64)=base
  have hB':x.2.extract (64*m) (64*(m+1))=base:=by rw [← hB,Nat.mul_succ]
  refine ACall.enter (rs:=[.tmp 6,.tmp 7]) 55 [(0,.agg #[.int .i64 d.size,.slice (some ⟨b,off,none⟩) d.ext.length ce,.slice pw d.waits.length cw,.int .i64 d.fuse,.bool d.down]),(1,.string s),(2,.int .i64 (m:Int))] Tryz.func36 rfl rfl (Nat.le_of_ble_eq_true rfl) rfl ⟨rfl,rfl,rfl,trivial⟩ ?_
  refine k_a ?_
  refine k_b5 rfl ?_
  intro b3 f3
  have g3:=f3
  repeat ((with_reducible replace g3:=fresh_set g3);obtain ⟨g3,_⟩:=g3)
  try simp only [k_l1,k_l0,k_za,Nat.reduceAdd]
  refine k_s rfl (k_e rfl (k_a ?_))
  refine k_5 ty_agg_25 ty_size_25 rfl ?_
  refine k_m rfl (k_m rfl ?_)
  refine ARun.call (lit_lt rfl) go_70 rfl (hpl _ (hd.less less_)) ?_
  rintro _ S1 ⟨rfl,h1⟩
  rw [h1];clear h1 S1
  refine k_e rfl ?_
  refine k_u [(0,_),(1,_),(2,_),(3,_),(6,_),(7,_),(8,_)] ?_
  refine AWP.seq (k_a (k_m rfl ?_))
  refine rC (Calm.bin rfl rfl b_neq) ?_
  refine k_n ?_
  refine k_u [(0,_),(1,_),(2,_),(3,_),(6,_),(7,_),(8,_),(17,_)] ?_
  refine k_F rfl ?_
  refine k_k (AWP.seq ?_)
  refine AWP.draw [(0,true),(1,true),(2,true),(3,true),(4,true),(9,true),(10,true),(11,true),(12,true),(13,true),(5,false),(6,true),(7,true),(8,true),(14,true),(15,true)] [] mixed (by kernel_rfl) ?_
  refine dP (hc:=fun _=>Calm.fieldAddr ty_field_25_1 rfl) (h:=?_)
  refine dC (hc:=ld_ ty_plain_22 rfl) (h:=?_)
  refine dP (hc:=fun _=>Calm.fieldAddr ty_field_25_1 rfl) (h:=?_)
  refine dC (hc:=ld_ ty_plain_22 rfl) (h:=?_)
  refine dP (hc:=fun _=>Calm.move rfl) (h:=?_)
  refine dP (hc:=fun _=>Calm.move rfl) (h:=?_)
  refine dP (hc:=fun _=>Calm.bin rfl rfl (bin_mulW hm1)) (h:=?_)
  refine dP (hc:=fun _=>Calm.move rfl) (h:=?_)
  refine dP (hc:=fun _=>Calm.bin rfl rfl (bin_addW hm2)) (h:=?_)
  refine dP (hc:=fun _=>Calm.bin rfl rfl (bin_mulW hm3)) (h:=?_)
  refine draw_only rfl ?_
  refine ARun.call (lit_lt rfl) go_71 rfl (rd_Find _ d.ext s _ (hE.less less_) hR.ex.asc) ?_
  rintro _ S1 ⟨rfl,h1⟩
  rw [h1,hf];clear h1 S1
  refine arun_nil ⟨fun _=>less_,?_⟩
  refine dP (hc:=fun _=>Calm.indexS Tryz.underlying22 ty_size_101 rfl rfl (by omega) (by omega)) (h:=?_)
  refine dP (hc:=fun _=>Calm.fieldAddr ty_field_101_1 rfl) (h:=?_)
  refine dC (hc:=Calm.loadK ty_plain_9 rfl (hki1.less less_)) (h:=?_)
  refine draw_pure rfl rfl rfl rfl (lit_lt rfl) (fun _=>Calm.sliceStr (l:=64*m) (h:=64*(m+1)) (by kernel_rfl) rfl ⟨_,_,rfl,Int.natCast_nonneg _,Int.ofNat_le.2 hm4,rfl⟩ ⟨_,_,rfl,Int.natCast_nonneg _,Int.ofNat_le.2 (Nat.mul_le_mul_left 64 (Nat.le_succ m)),rfl⟩) ?_
  rw [hB']
  refine dP (hc:=fun _=>Calm.assign rfl) (h:=?_)
  refine draw_nil ?_
  refine athen_n ?_
  refine k_u [(0,_),(1,_),(2,_),(3,_),(6,_),(7,_),(8,_),(17,_),(9,_)] ?_
  refine AWP.seq (k_a ?_)
  refine rC (Calm.fieldAddr ty_field_25_2 rfl) ?_
  refine rC (ld_ ty_plain_23 rfl) ?_
  refine rC (Calm.lenSl Tryz.underlying23 rfl) ?_
  refine k_m rfl (k_n ?_)
  refine k_u [(0,_),(1,_),(2,_),(3,_),(6,_),(7,_),(8,_),(17,_),(9,_),(35,_),(36,_),(37,_)] ?_
  refine AWP.block ?_
  refine AWP.loop (X:=Nat) (fun x=>[(1,.string s),(2,.int .i64 (m:Int)),(9,.string (seeW allK d.waits s (m:Int) base x)),(35,.slice pw d.waits.length cw),(36,.int .i64 d.waits.length),(37,.int .i64 x)]) (fun x=>S) (fun x=>x≤d.waits.length) (fun x=>d.waits.length-x) (0) ⟨rfl,rfl,rfl,rfl,rfl,rfl,trivial⟩ (less_) (Nat.zero_le _) ?_
  rintro i hi
  (try dsimp only at *)
  refine k_a ?_
  refine rC (Calm.bin rfl rfl b_lss) ?_
  refine k_n (AWP.seq ?_)
  refine AWP.condB rfl (fun hc=>?_) (fun hc=>?_)
  ·have hc:i<d.waits.length:=by have:=of_decide_eq_true hc;omega
   obtain ⟨bw,ow,rfl,hkw⟩:=hW3.resolve_left (fun e=>by rw [e] at hc;simp at hc)
   have hkwi:=hkw i hc
   have hst:=seeW_succ allK d.waits s (m:Int) base hc
   generalize d.waits[i]=w at *
   unfold wrF at hkwi
   by_cases q1:w.1=s
   ·refine k_k (AWP.seq ?_)
    refine AWP.block ?_
    refine k_a ?_
    refine rC (Calm.indexS Tryz.underlying23 ty_size_104 rfl rfl (by omega) (by omega)) ?_
    refine rC (ldA_ (cs:=[_,_,_]) ty_agg_104 ty_size_104 rfl) ?_
    refine ARun.alloc (lit_lt rfl) ty_zero_104 ?_
    intro b11 f11
    have g11:=f11
    repeat ((with_reducible replace g11:=fresh_set g11);obtain ⟨g11,_⟩:=g11)
    try simp only [k_l1,k_l0,k_za,Nat.reduceAdd]
    first|refine k_A rfl rfl ty_size_104 ?_|refine k_B rfl rfl ty_size_104 ?_
    try simp only [k_ms,k_sz,k_ss,k_za,Nat.reduceAdd]
    refine k_n ?_
    refine k_u [(1,_),(2,_),(9,_),(35,_),(36,_),(37,_),(38,_),(11,_)] ?_
    refine k_a ?_
    refine rC (Calm.fieldAddr ty_field_104_0 rfl) ?_
    refine rC (ld_ ty_plain_9 rfl) ?_
    refine k_m rfl ?_
    refine rC (Calm.bin rfl rfl (bin_bool (bin_str_eql _ _) (decide_eq_true q1))) ?_
    refine k_m rfl ?_
    first|refine k_q 45 ?_|refine rG 45 (Calm.fieldAddr ty_field_104_1 rfl) ?_
    first|refine k_q 45 ?_|refine rG 45 (ld_ ty_plain_3 rfl) ?_
    first|refine k_q 45 ?_|refine rG 45 (Calm.move rfl) ?_
    first|refine k_q 45 ?_|refine rG 45 (Calm.bin rfl rfl b_eql) ?_
    first|refine k_t rfl rfl ?_|refine k_f rfl rfl ?_
    refine k_n ?_
    refine k_u [(1,_),(2,_),(9,_),(35,_),(36,_),(37,_),(38,_),(11,_),(50,_)] ?_
    refine AWP.condB rfl (fun q2=>?_) (fun q2=>?_)
    ·have q2:=of_decide_eq_true q2
     refine AWP.region ?_
     refine rC (Calm.fieldAddr ty_field_104_2 rfl) ?_
     refine rC (ld_ ty_plain_9 rfl) ?_
     refine k_s rfl ?_
     refine arun_nil ?_
     refine ain_n ?_
     refine athen_n ?_
     refine k_u [(1,_),(2,_),(9,_),(35,_),(36,_),(37,_),(38,_),(11,_),(50,_)] ?_
     refine AWP.region ?_
     refine rC (Calm.bin rfl rfl b_add_i64) ?_
     refine k_m rfl (k_n ?_)
     refine ⟨i+1,?_,?_,?_,?_⟩
     all_goals (try dsimp only)
     ·exact ⟨rfl,rfl,some_str (by rw [hst,if_pos ⟨q1,q2,rfl⟩]),rfl,rfl,rfl,trivial⟩
     ·exact less_
     ·exact hc
     ·omega
    ·have q2:=of_decide_eq_false q2
     refine AWP.skip ?_
     refine ain_n ?_
     refine athen_n ?_
     refine AWP.region ?_
     refine rC (Calm.bin rfl rfl b_add_i64) ?_
     refine k_m rfl (k_n ?_)
     refine ⟨i+1,?_,?_,?_,?_⟩
     all_goals (try dsimp only)
     ·exact ⟨rfl,rfl,some_str (by rw [hst,if_neg (fun z=>q2 z.2.1)]),rfl,rfl,rfl,trivial⟩
     ·exact less_
     ·exact hc
     ·omega
   ·refine k_k (AWP.seq ?_)
    refine AWP.block ?_
    refine k_a ?_
    refine rC (Calm.indexS Tryz.underlying23 ty_size_104 rfl rfl (by omega) (by omega)) ?_
    refine rC (ldA_ (cs:=[_,_,_]) ty_agg_104 ty_size_104 rfl) ?_
    refine ARun.alloc (lit_lt rfl) ty_zero_104 ?_
    intro b11 f11
    have g11:=f11
    repeat ((with_reducible replace g11:=fresh_set g11);obtain ⟨g11,_⟩:=g11)
    try simp only [k_l1,k_l0,k_za,Nat.reduceAdd]
    first|refine k_A rfl rfl ty_size_104 ?_|refine k_B rfl rfl ty_size_104 ?_
    try simp only [k_ms,k_sz,k_ss,k_za,Nat.reduceAdd]
    refine k_n ?_
    refine k_u [(1,_),(2,_),(9,_),(35,_),(36,_),(37,_),(38,_),(11,_)] ?_
    refine k_a ?_
    refine rC (Calm.fieldAddr ty_field_104_0 rfl) ?_
    refine rC (ld_ ty_plain_9 rfl) ?_
    refine k_m rfl ?_
    refine rC (Calm.bin rfl rfl (bin_bool (bin_str_eql _ _) (decide_eq_false q1))) ?_
    refine k_m rfl ?_
    first|refine k_q 45 ?_|refine rG 45 (Calm.fieldAddr ty_field_104_1 rfl) ?_
    first|refine k_q 45 ?_|refine rG 45 (ld_ ty_plain_3 rfl) ?_
    first|refine k_q 45 ?_|refine rG 45 (Calm.move rfl) ?_
    first|refine k_q 45 ?_|refine rG 45 (Calm.bin rfl rfl b_eql) ?_
    first|refine k_t rfl rfl ?_|refine k_f rfl rfl ?_
    refine k_n ?_
    refine k_u [(1,_),(2,_),(9,_),(35,_),(36,_),(37,_),(38,_),(11,_),(50,_)] ?_
    refine k_F rfl ?_
    refine AWP.skip ?_
    refine ain_n ?_
    refine athen_n ?_
    refine AWP.region ?_
    refine rC (Calm.bin rfl rfl b_add_i64) ?_
    refine k_m rfl (k_n ?_)
    refine ⟨i+1,?_,?_,?_,?_⟩
    all_goals (try dsimp only)
    ·exact ⟨rfl,rfl,some_str (by rw [hst,if_neg (fun z=>q1 z.1)]),rfl,rfl,rfl,trivial⟩
    ·exact less_
    ·exact hc
    ·omega
  ·have hc:i=d.waits.length:=by have:=of_decide_eq_false hc;omega
   subst hc
   refine AWP.exit ?_
   refine athen_exit ?_
   refine athen_exit ?_
   refine ain_same ?_
   refine athen_n ?_
   refine k_a (k_m rfl (k_s rfl (k_e rfl ?_)))
   refine k_u [(1,_),(2,_),(9,_),(35,_),(36,_),(37,_),(38,_),(6,_),(7,_)] ?_
   refine AWP.ret ?_
   refine ⟨_,S,⟨_,_,rfl,⟨_,_,rfl,rfl,rfl⟩,rfl⟩,less_,?_⟩
   exact ⟨rfl,rfl⟩
end Go.Proofs.YtkeiphkccnfhoaaGreat
namespace Go.Proofs.YtkeiphkccnfhoaaGreat
open Go.RowKit
open Mv Disk
set_option maxRecDepth 4000
def nA : ByteArray := ⟨#[97]⟩
def oneS : ByteArray := bs (List.replicate 63 0) ++ ⟨#[49]⟩
theorem one_size : oneS.size = 64 := by unfold oneS; rw [ByteArray.size_append, size_bs, List.length_replicate]; rfl
def L0 : D := ⟨4, [], [], -1, false⟩
/-- One extent of two sectors. -/
def L1 (s x : ByteArray) (w : List Wr) : D := ⟨4, [(s, x)], w, -1, false⟩
theorem right_L0 : Right L0 := ⟨by decide, by decide, by decide, by decide, ⟨fun x h => (by cases h), List.Pairwise.nil, by decide⟩, fun w h => (by cases h)⟩
theorem sec2 {s x : ByteArray} (hx : x.size = 128) : sec (s, x) = 2 := by unfold sec; simp only; rw [hx]
theorem right_L1 {s x : ByteArray} {w : List Wr} (hs : nm s) (hx : x.size = 128) (hw : ∀ y ∈ w, y.1 = s ∧ 0 ≤ y.2.1 ∧ y.2.1 < 2 ∧ y.2.2.size = 64) (hl : w.length ≤ 16384) : Right (L1 s x w) := by
 refine ⟨by show (0:Int)≤4;decide,by show (4:Int)≤16384;decide,hl,by show (-1:Int) ≤ -1;decide,⟨fun y hy=>?_,List.pairwise_singleton _ _,?_⟩,fun y hy=>?_⟩
 ·obtain rfl:y=(s,x):=by unfold L1 at hy;simpa using hy
  exact ⟨hs,by simp only;omega,by simp only;omega⟩
 ·show ((used [(s,x)] : Nat):Int)≤4
  simp only [used,sec2 hx];omega
 ·obtain ⟨h1,h2,h3,h4⟩:=hw y hy
  exact ⟨(s,x),by unfold L1;simp,h1.symm,h2,by rw [sec2 hx];exact h3,h4⟩
theorem open_ok {d : D} (h : Right d) (hd : d.down = false) : openD d = (d, 0) := by
 rcases openD_or d with ⟨ho,hR⟩ | ⟨ho,hR,hdn⟩ | ⟨ho,hR,hdn⟩
 ·exact absurd h hR
 ·rw [hd] at hdn;cases hdn
 ·exact ho
theorem opened_ok {d : D} (h : Right d) (hd : d.down = false) (f : D × Int) : opened d f = f := by unfold opened; rw [open_ok h hd, if_pos rfl]
theorem pos_one (s x : ByteArray) : pos [(s, x)] s = 0 := pos_no (lt_irrefl _)
theorem has_one (s x : ByteArray) : has [(s, x)] s = true := by simp [has]
theorem exOf_one (s x : ByteArray) : exOf [(s, x)] s = (s, x) := by unfold exOf; rw [pos_one]; rfl
theorem place_one {s x : ByteArray} {w : List Wr} (hx : x.size = 128) {k : Int} (h0 : 0 ≤ k) (h1 : k < 2) : placeD (L1 s x w) s k = (0, 0) := by
 unfold placeD L1
 simp only [has_one,exOf_one,sec2 hx,pos_one,if_true]
 rw [if_neg (by omega)]
theorem nmA : nm nA := ⟨by decide, by decide⟩
theorem l0 : makeD 4 = (L0, 0) := by unfold makeD; rw [if_neg (by omega)]; rfl
theorem zeros2 : (zeros 2).size = 128 := zeros_size 2
theorem l1 : opened L0 (newD L0 nA 2) = (L1 nA (zeros 2) [], 0) := by
 rw [opened_ok right_L0 rfl]
 unfold newD
 rw [if_neg (by rintro (h | h);exact h nmA;omega),if_neg (by simp [L0,has]),if_neg (by simp [L0,used])]
 rfl
def W1 : List Wr := [(nA, 0, oneS)]
theorem right_1 (x : ByteArray) (hx : x.size = 128) : Right (L1 nA x []) := right_L1 nmA hx (fun y h => by cases h) (by decide)
theorem write_one {s x : ByteArray} {w : List Wr} (hx : x.size = 128) {k : Int} (h0 : 0 ≤ k) (h1 : k < 2) {y : ByteArray} (hy : y.size = 64) (hw : w.length < 16384) : writeD (L1 s x w) s k y = (L1 s x (w ++ [(s, k, y)]), 0) := by
 unfold writeD
 rw [place_one hx h0 h1,if_neg (by simp),if_neg (by omega),if_neg (by unfold L1;simp only;omega)]
 unfold fuseD addW L1
 rw [if_neg (by show ¬ (-1:Int)=0;decide),if_neg (by show ¬ (0:Int) < -1;decide)]
theorem l2 : opened (L1 nA (zeros 2) []) (writeD (L1 nA (zeros 2) []) nA 0 oneS) = (L1 nA (zeros 2) W1, 0) := by
 rw [opened_ok (right_1 _ zeros2) rfl,write_one zeros2 (by decide) (by decide) one_size (by decide)];rfl
/-- Bounds of what comes in, of a disk that is right. -/
theorem dz_right {d : D} (h : Right d) (hf : d.fuse ≤ 9223372036854775807) : Dz d := by
 have hl:=right_len h
 refine ⟨by have:=h.s0;omega,by have:=h.s1;omega,by have:=h.fu;omega,hf,by omega,by have:=h.wl;omega,fun x hx=>?_,fun w hw=>?_⟩
 ·have h1:=right_sec h hx
  have h2:=(h.ex.ok x hx).1.2
  omega
 ·obtain ⟨x,hx,e,h0,h1,h2⟩:=h.wr w hw
  have h3:=right_sec h hx
  have h4:=(h.ex.ok x hx).1.2
  rw [e] at h4
  omega
end Go.Proofs.YtkeiphkccnfhoaaGreat
namespace Go.Proofs.YtkeiphkccnfhoaaGreat
open Go.RowKit
open Mv Disk
theorem right_fuse {d : D} (hR : Right d) {f : Int} (hf : -1 ≤ f) (b : Bool) : Right { d with fuse := f, down := b } := ⟨hR.s0, hR.s1, hR.wl, hf, hR.ex, hR.wr⟩
theorem right_add {d : D} {s data : ByteArray} {k : Int} (hR : Right d) (hp : (placeD d s k).2 = 0) (hs : data.size = 64) (hl : d.waits.length < 16384) : Right (addW d (s, k, data)) := by
 obtain ⟨hh,h0,h1⟩:=place0 hp
 obtain ⟨hm,hn⟩:=exOf_has hR.ex.asc hh
 refine ⟨hR.s0,hR.s1,by rw [add_len];omega,hR.fu,hR.ex,fun w hw=>?_⟩
 unfold addW at hw
 rcases List.mem_append.1 hw with h | h
 ·exact hR.wr w h
 ·obtain rfl:w=(s,k,data):=by simpa using h
  exact ⟨_,hm,hn,h0,h1,hs⟩
/-- A write that has no error. -/
theorem write_ok {d : D} {s data : ByteArray} {k : Int} (hf1 : d.fuse ≤ 9223372036854775807) (h : (opened d (writeD d s k data)).2 = 0) :
  Right d∧d.down=false∧(placeD d s k).2=0∧data.size=64∧d.waits.length<16384 ∧ ∃ f:Int,-1≤f∧f≤9223372036854775807∧opened d (writeD d s k data)=({ addW d (s,k,data) with fuse:=f },0):=by
 unfold opened at h ⊢
 rcases openD_or d with ⟨ho,hR⟩ | ⟨ho,hR,hdn⟩ | ⟨ho,hR,hdn⟩ <;> rw [ho] at h ⊢
 ·simp at h
 ·simp at h
 ·rw [if_pos rfl] at h ⊢
  unfold writeD at h ⊢
  by_cases q0:(placeD d s k).2≠0
  ·rw [if_pos q0] at h;exact absurd h q0
  ·rw [if_neg q0] at h ⊢
   by_cases q1:data.size≠64
   ·rw [if_pos q1] at h;simp at h
   ·rw [if_neg q1] at h ⊢
    by_cases q2:d.waits.length=16384
    ·rw [if_pos q2] at h;simp at h
    ·rw [if_neg q2] at h ⊢
     have hwl:=hR.wl
     have hfu:=hR.fu
     refine ⟨hR,hdn,by simpa using q0,by simpa using q1,by omega,?_⟩
     unfold fuseD at h ⊢
     by_cases q3:(addW d (s,k,data)).fuse=0
     ·rw [if_pos q3] at h;simp at h
     ·rw [if_neg q3] at h ⊢
      by_cases q4:0<(addW d (s,k,data)).fuse
      ·rw [if_pos q4];exact ⟨_,by have:0<d.fuse:=q4;show -1≤d.fuse-1;omega,by show d.fuse-1≤_;omega,rfl⟩
      ·rw [if_neg q4];exact ⟨d.fuse,hfu,hf1,rfl⟩
/-! ### Moved -/
end Go.Proofs.YtkeiphkccnfhoaaGreat
namespace Go.Proofs.YtkeiphkccnfhoaaGreat
open Go.RowKit
open Mv Disk
set_option maxRecDepth 4000
theorem set_PW {x : Pl} (h : PW x) (i : Nat) {y : Fr} (h0 : 0 ≤ y.pins) (h1 : y.pins ≤ 256) : PW (setP x i y) :=
 ⟨h.dr,h.fu,h.nd,by unfold setP;simp only [List.length_set];exact h.l1,by unfold setP;simp only [List.length_set];exact h.l2,fun z hz=>by
  unfold setP at hz
  rcases List.mem_or_eq_of_mem_set hz with hz | hz
  ·exact h.pn z hz
  ·subst hz;exact ⟨h0,h1⟩⟩
theorem wr_PW {x : Pl} (h : PW x) {i : Nat} (hi : i < x.fr.length) (h0 : (wrP x i).2 = 0) : PW (wrP x i).1 := by
 have ho:=opened_ok h.dr h.nd (writeD x.d (atF x i).name (atF x i).sector (atF x i).data)
 have hq:(opened x.d (writeD x.d (atF x i).name (atF x i).sector (atF x i).data)).2=0:=by rw [ho];exact h0
 obtain ⟨hR,hd,hp,hs,hl,f,hf0,hf1,he⟩:=write_ok h.fu hq
 rw [ho] at he
 have hpn:=h.pn _ (atF_mem hi)
 have hlen:=wrP_len x i
 unfold wrP at hlen ⊢
 rw [he] at hlen ⊢
 refine ⟨right_fuse (right_add hR hp hs hl) hf0 _,hf1,hd,by rw [hlen];exact h.l1,by rw [hlen];exact h.l2,fun z hz=>?_⟩
 simp only [if_true] at hz
 rcases List.mem_or_eq_of_mem_set hz with hz | hz
 ·exact h.pn z hz
 ·subst hz;exact hpn
theorem take_PW {x : Pl} (h : PW x) (h0 : (takeP x).2.2 = 0) : PW (takeP x).1 := by
 have hb:=bestF_le x.fr x.fr.length
 have hl:=h.l1
 revert h0
 unfold takeP
 repeat' split
 ·intro _;exact h
 ·intro h;simp at h
 ·rename_i e;intro _;exact set_PW (wr_PW h (by omega) e) _ (by decide) (by decide)
 ·intro h;rename_i e;exact absurd h e
 ·intro _;exact set_PW h _ (by decide) (by decide)
set_option maxHeartbeats 2000000 in
theorem pl_FillA (a p b c : Nat) (x : Pl) (j : Nat) (g : Int) (t : ByteArray) (k : Int) (S : Mem) (oE oW : Option (Nat × Nat)) (hok : OkA S a p b c x oE oW) (hw : PW x) (hj : j < x.fr.length) (h64 : (atF x j).data.size = 64) (hg : 0 ≤ g) (hgt : g + t.size ≤ 64) :
  ACall Tryz.prog 42 #[.pointer (some ⟨a,0,none⟩),.int .i64 (j:Nat),.int .i64 g,.string t] (arM (devM S p x.d oE oW) a p b c x k) fun r S'=>r = .tuple #[]∧ArS S a p b c (setP x j { atF x j with data:=fillS (atF x j).data g t,dirty:=true }) S':=by
 have h256:=hw.l2
 have hA:=ar_own (M:=devM S p x.d oE oW) (a:=a) (p:=p) (b:=b) (c:=c) (x:=x) (k:=k)
 have hB:=ar_fr (M:=devM S p x.d oE oW) (p:=p) (c:=c) (x:=x) (k:=k) hok.ab
 obtain ⟨_,_,kd,_,_,_,_⟩:=kn_fr (ar_kn (M:=devM S p x.d oE oW) (p:=p) (k:=k) hok.ab hok.l hw.l2 hj)
 obtain ⟨n,rfl⟩ : ∃ n:Nat,g=(n:Int):=⟨_,(Int.toNat_of_nonneg hg).symm⟩
 have hfin:fillS (atF x j).data (n:Int) t=(atF x j).data.extract 0 n ++ t ++ (atF x j).data.extract (n+t.size) (atF x j).data.size:=by unfold fillS;rw [Int.toNat_natCast]
 rw [hfin]
 have hsF:=fun fr' h=>ar_setF (M:=devM S p x.d oE oW) (p:=p) (c:=c) (x:=x) (k:=k) hok.ab fr' h
 have hat:=atF_eq hj
 have hD:(atF x j).data.extract 0 ((n:Int)).toNat ++ t ++ (atF x j).data.extract ((n:Int)+(t.size:Int)).toNat (atF x j).data.size=(atF x j).data.extract 0 n ++ t ++ (atF x j).data.extract (n+t.size) (atF x j).data.size:=by
  rw [show ((n:Int)+(t.size:Int)).toNat=n+t.size from by omega];rfl
 generalize hDD:(atF x j).data.extract 0 n ++ t ++ (atF x j).data.extract (n+t.size) (atF x j).data.size=dd at *
 generalize hT:arM (devM S p x.d oE oW) a p b c x k=T at *
 unfold arB at hA
 refine ACall.enter (rs:=[]) 39 [(0,.pointer (some ⟨a,0,none⟩)),(1,.int .i64 (j:Nat)),(2,.int .i64 (n:Nat)),(3,.string t)] Tryz.func42 rfl rfl (Nat.le_of_ble_eq_true rfl) rfl ⟨rfl,rfl,rfl,rfl,trivial⟩ ?_
 refine k_a (k_m rfl ?_)
 refine rC (Calm.nilCheck rfl) ?_
 refine rC (Calm.fieldAddr ty_field_93_1 rfl) ?_
 refine rC (ld_ ty_plain_26 rfl) ?_
 refine k_m rfl ?_
 refine rC (Calm.indexS Tryz.underlying26 ty_size_62 rfl rfl (by omega) (by omega)) ?_
 refine k_e rfl ?_
 refine k_u [(0,_),(1,_),(2,_),(3,_),(8,_)] ?_
 refine AWP.draw [(0,true),(1,true),(2,true),(3,true),(4,true),(5,true),(6,true),(7,true),(8,true),(9,true),(10,true),(11,true),(12,true),(13,true),(14,true),(15,true),(16,true),(17,true),(18,true),(19,true),(20,true),(21,true),(22,false),(23,true),(24,true),(25,false)] [22,25] mixed (by kernel_rfl) ?_
 refine dP (hc:=fun _=>Calm.move rfl) (h:=?_)
 refine dP (hc:=fun _=>Calm.move rfl) (h:=?_)
 refine dP (hc:=fun _=>Calm.move rfl) (h:=?_)
 refine dP (hc:=fun _=>Calm.nilCheck rfl) (h:=?_)
 refine dP (hc:=fun _=>Calm.fieldAddr ty_field_62_2 rfl) (h:=?_)
 refine dC (hc:=ld_ ty_plain_9 rfl) (h:=?_)
 refine dP (hc:=fun _=>Calm.move rfl) (h:=?_)
 refine dP (hc:=fun _=>Calm.sliceStr (strT_spec ty_str_9) rfl (bnd_some _ _ rfl (by omega) (by omega)) (bnd_none _ _)) (h:=?_)
 refine dP (hc:=fun _=>Calm.move rfl) (h:=?_)
 refine dP (hc:=fun _=>Calm.bin rfl rfl (bin_str_add (by rw [ByteArray.size_extract];omega))) (h:=?_)
 refine dP (hc:=fun _=>Calm.move rfl) (h:=?_)
 refine dP (hc:=fun _=>Calm.nilCheck rfl) (h:=?_)
 refine dP (hc:=fun _=>Calm.fieldAddr ty_field_62_2 rfl) (h:=?_)
 refine dC (hc:=ld_ ty_plain_9 rfl) (h:=?_)
 refine dP (hc:=fun _=>Calm.move rfl) (h:=?_)
 refine dP (hc:=fun _=>Calm.move rfl) (h:=?_)
 refine dC (hc:=Calm.lenStr (strT_spec ty_str_9) rfl) (h:=?_)
 refine dP (hc:=fun _=>Calm.bin rfl rfl b_add_i64) (h:=?_)
 refine dP (hc:=fun _=>Calm.sliceStr (strT_spec ty_str_9) rfl (bnd_none _ _) (bnd_some _ _ rfl (by omega) (by omega))) (h:=?_)
 refine dP (hc:=fun _=>Calm.as (congrArg Value.string hD) (Calm.bin rfl rfl (bin_str_add (by rw [size_append,ByteArray.size_extract,ByteArray.size_extract];omega)))) (h:=?_)
 refine dP (hc:=fun _=>Calm.nilCheck rfl) (h:=?_)
 refine dP (hc:=fun _=>Calm.fieldAddr ty_field_62_2 rfl) (h:=?_)
 refine draw_only rfl ?_
 refine ARun.storeFr1 (c:=c) (i:=j) (l:=x.fr) (q:=2) (u:={ atF x j with data:=dd }) rfl rfl rfl rfl (by omega) (by decide) hj (by rw [hat];rfl) ty_size_9 hB ?_
 try simp only [k_ms,k_sz,k_ss,k_za,Nat.reduceAdd]
 refine arun_nil ⟨fun h=>absurd h (by decide),?_⟩
 refine dP (hc:=fun _=>Calm.nilCheck rfl) (h:=?_)
 refine dP (hc:=fun _=>Calm.fieldAddr ty_field_62_4 rfl) (h:=?_)
 refine draw_only rfl ?_
 refine ARun.storeFr1 (c:=c) (i:=j) (l:=x.fr.set j { atF x j with data:=dd }) (q:=4) (u:={ atF x j with data:=dd,dirty:=true }) rfl rfl rfl rfl (by omega) (by decide) (by simp;exact hj) (by rw [List.getElem_set_self];rfl) ty_size_4 (Mem.own_set_same _ _ _) ?_
 try simp only [k_ms,k_sz,k_ss,k_za,Nat.reduceAdd]
 refine arun_nil ⟨fun h=>absurd h (by decide),?_⟩
 refine draw_nil ?_
 refine ⟨_,arM (devM S p x.d oE oW) a p b c (setP x j { atF x j with data:=dd,dirty:=true }) k,rfl,(by rw [List.set_set,hsF _ (by simp)];exact Mem.Less.refl _),?_⟩
 exact ⟨rfl,k,oE,oW,hok.like rfl (by unfold setP;simp),rfl⟩
end Go.Proofs.YtkeiphkccnfhoaaGreat
