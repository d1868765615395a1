/-
  Texts that belong together: VBitsAdd, SBW, SB1, SB2, SB3, SBR1, SBR2, SelMath, SelF, Sel1, Sel2, Sel3, Sel6, Sel10, Sel11, Sel12, Fd4, Fd5, Fd6, Fd7, Fd8, FindMath2, Fd9.
-/
import Derived.Test.YtgidjbpgkeemiaaGreatBFj5
import Derived.Test.YtgidjbpgkeemiaaGreatBitsWrite
import Derived.Test.YtgidjbpgkeemiaaGreatBitsCheck
import Derived.Test.YtgidjbpgkeemiaaGreatSBLib
import Derived.Test.YtgidjbpgkeemiaaGreatBitsGet
import Derived.Test.YtgidjbpgkeemiaaGreatBitsMath
set_option linter.unusedVariables false
set_option linter.unusedSimpArgs false
set_option linter.unusedSectionVars false
namespace Go.Proofs.YtgidjbpgkeemiaaGreat
open Go.RowKit
open Bits Mv
set_option maxRecDepth 20000
namespace Bits
theorem add_partI (L : List Bool) (v r k : Nat) (hv : v ≤ 18446744073709551615) (hk : L.length % 8 + k ≤ 8) (hr : k ≤ r) :
  bits .or .u64 (IntKind.u64.wrap (((num (rest L):Nat):Int)*2 ^ ((k:Int)).toNat)) (bits .and .u64 ((v:Int) / 2 ^ ((r:Int)-(k:Int)).toNat) (IntKind.u64.wrap (IntKind.u64.wrap (1*2 ^ ((k:Int)).toNat)-1)))=((num (rest L ++ numB (v / 2 ^ (r-k)) k):Nat):Int) ∧
   num (rest L ++ numB (v / 2 ^ (r-k)) k)<256:=by
 obtain ⟨A,B,h1,h2,h3,h4,h5⟩:=add_part L v (r-k) k hv hk
 rw [show ((r:Int)-(k:Int)).toNat=r-k from by omega,Int.toNat_natCast,Int.one_mul,h1,h2,h3]
 exact ⟨rfl,by omega⟩
def wrM (S : Mem) (p : Nat) (o : Option (Nat × Nat)) (L : List Bool) : Mem :=
  (outM S o 5 (bytesV L)).set p ⟨84, [outV o (L.length / 8), .int .u64 (num (rest L) : Nat), .int .i64 (L.length % 8 : Nat)], 3⟩
theorem wrM_eight (S : Mem) (p b c : Nat) (M C : List Bool) (h : M.length % 8 + C.length = 8) : wrM S p (some (b, c)) (M ++ C) =
  (S.set b ⟨5,bytesV M ++ [.int .u8 (num (rest M ++ C):Nat)],c⟩).set p ⟨84,[.slice (some ⟨b,0,none⟩) (M.length / 8+1) c,.int .u64 0,.int .i64 0],3⟩:=by
 unfold wrM outM outV
 have e:(M ++ C).length / 8=M.length / 8+1:=by rw [List.length_append];omega
 have e9:(((M ++ C).length % 8:Nat):Int)=0:=by rw [List.length_append];omega
 simp only [bytesV_eight M C h,(rest_eight M C h).2,e,e9]
 rfl
theorem wrM_few (S : Mem) (p : Nat) (o : Option (Nat × Nat)) (M C : List Bool) (h : M.length % 8 + C.length < 8) : wrM S p o (M ++ C) =
  (outM S o 5 (bytesV M)).set p ⟨84,[outV o (M.length / 8),.int .u64 (num (rest M ++ C):Nat),.int .i64 ((M.length % 8:Nat)+(C.length:Nat))],3⟩:=by
 unfold wrM
 have e:(M ++ C).length / 8=M.length / 8:=by rw [List.length_append];omega
 have e9:(((M ++ C).length % 8:Nat):Int)=(M.length % 8:Nat)+(C.length:Nat):=by rw [List.length_append];omega
 rw [bytesV_few M C h,(rest_few M C h).2,e,e9]
structure OkW (S : Mem) (p : Nat) (o : Option (Nat × Nat)) (L : List Bool) : Prop where
  fp : Fresh S p
  nil : o = none → L.length < 8
  own : ∀ b c, o = some (b, c) → Fresh S b ∧ b ≠ p ∧ L.length / 8 ≤ c
end Bits
set_option maxHeartbeats 1000000 in
theorem bitsV_Add (p v width : Nat) (L : List Bool) (o : Option (Nat × Nat)) (S : Mem) (h3 : width ≤ 64) (h5 : v ≤ 18446744073709551615) (hlen : L.length ≤ 1048576 + 64) (hok : OkW S p o L) :
  ACall Tryz.prog 38 #[.pointer (some ⟨p,0,none⟩),.int .u64 v,.int .i64 width] (wrM S p o L) fun r S'=>r = .tuple #[] ∧ ∃ o',OkW S p o' (L ++ numB v width)∧S'=wrM S p o' (L ++ numB v width):=by
 refine ACall.enter (rs:=[]) 74 [(0,.pointer (some ⟨p,0,none⟩)),(1,.int .u64 v),(2,.int .i64 width)] Tryz.func38 rfl rfl (Nat.le_of_ble_eq_true rfl) rfl ⟨rfl,rfl,rfl,trivial⟩ ?_
 refine AWP.block ?_
 refine AWP.loop (X:=Nat × List Bool × Option (Nat × Nat)) (fun x=>[(0,.pointer (some ⟨p,0,none⟩)),(1,.int .u64 v),(2,.int .i64 x.1)]) (fun x=>wrM S p x.2.2 x.2.1) (fun x=>x.1≤width∧x.2.1 ++ numB v x.1=L ++ numB v width∧OkW S p x.2.2 x.2.1) (fun x=>x.1) ((width,L,o)) ⟨rfl,rfl,rfl,trivial⟩ less_ (⟨Nat.le_refl _,rfl,hok⟩) ?_
 rintro ⟨r,M,ov⟩ ⟨hr,hM,hok⟩
 (try dsimp only at *)
 have hMl:M.length≤1048576+128:=by have:=congrArg List.length hM;simp [numB_length] at this;omega
 obtain ⟨k,hk⟩ : ∃ k:Nat,(k:Int)=min (r:Int) (8-(M.length % 8:Nat)):=⟨(min (r:Int) (8-(M.length % 8:Nat))).toNat,by omega⟩
 have hk1:k≤r∧M.length % 8+k≤8∧(r=k∨M.length % 8+k=8):=by omega
 obtain ⟨hkr,hk8,hke⟩:=hk1
 obtain ⟨hR,hRb⟩:=add_partI M v r k h5 hk8 hkr
 have hfp:=hok.fp
 unfold wrM
 refine AWP.seq (k_a (k_m rfl ?_))
 refine rC (Calm.bin rfl rfl b_gtr) ?_
 refine k_n ?_
 refine k_u [(0,_),(1,_),(2,_),(9,_)] ?_
 refine AWP.condB rfl (fun hc=>?_) (fun hc=>?_)
 ·have hr0:0<r:=by simpa using hc
  refine k_k ?_
  refine AWP.block ?_
  refine k_a (k_m rfl (k_m rfl ?_))
  refine rC (Calm.nilCheck rfl) ?_
  refine rC (Calm.fieldAddr ty_field_84_2 rfl) ?_
  refine rC (ld_ ty_plain_3 rfl) ?_
  refine rC (Calm.bin rfl rfl b_sub_i64) ?_
  refine rC (Calm.minE hk rfl rfl) ?_
  refine k_e rfl ?_
  refine k_u [(0,_),(1,_),(2,_),(9,_),(6,_)] ?_
  refine AWP.seq ?_
  refine AWP.draw [(0,true),(1,true),(2,true),(3,true),(4,true),(5,true),(6,true),(7,true),(8,true),(9,true)] [] mixed (by kernel_rfl) ?_
  refine dP (hc:=fun _=>Calm.move rfl) (h:=?_)
  refine dP (hc:=fun _=>Calm.move rfl) (h:=?_)
  refine dP (hc:=fun _=>Calm.move rfl) (h:=?_)
  refine dP (hc:=fun _=>Calm.bin rfl rfl b_sub_i64) (h:=?_)
  refine dP (hc:=fun _=>Calm.bin rfl rfl b_shr) (h:=?_)
  refine dP (hc:=fun _=>Calm.move rfl) (h:=?_)
  refine dP (hc:=fun _=>Calm.bin rfl rfl b_shl) (h:=?_)
  refine dP (hc:=fun _=>Calm.bin rfl rfl b_sub_u64) (h:=?_)
  refine dP (hc:=fun _=>Calm.bin rfl rfl (bin_and _ _)) (h:=?_)
  refine dP (hc:=fun _=>Calm.assign rfl) (h:=?_)
  refine draw_nil ?_
  refine athen_n ?_
  refine k_u [(0,_),(1,_),(2,_),(9,_),(6,_),(7,_)] ?_
  refine AWP.seq ?_
  refine AWP.draw [(0,true),(1,true),(2,true),(3,true),(4,true),(5,true),(6,true),(7,true),(8,true),(9,true),(10,true),(11,true),(12,true),(13,true),(14,true),(15,true),(16,true),(17,true),(18,false),(19,true),(20,true),(21,false)] [18,21] mixed (by kernel_rfl) ?_
  refine dP (hc:=fun _=>Calm.move rfl) (h:=?_)
  refine dP (hc:=fun _=>Calm.move rfl) (h:=?_)
  refine dP (hc:=fun _=>Calm.move rfl) (h:=?_)
  refine dP (hc:=fun _=>Calm.nilCheck rfl) (h:=?_)
  refine dP (hc:=fun _=>Calm.fieldAddr ty_field_84_1 rfl) (h:=?_)
  refine dC (hc:=ld_ ty_plain_82 rfl) (h:=?_)
  refine dP (hc:=fun _=>Calm.move rfl) (h:=?_)
  refine dP (hc:=fun _=>Calm.bin rfl rfl b_shl) (h:=?_)
  refine dP (hc:=fun _=>Calm.move rfl) (h:=?_)
  refine dP (hc:=fun _=>Calm.bin rfl rfl (bin_or _ _)) (h:=?_)
  refine dP (hc:=fun _=>Calm.move rfl) (h:=?_)
  refine dP (hc:=fun _=>Calm.nilCheck rfl) (h:=?_)
  refine dP (hc:=fun _=>Calm.fieldAddr ty_field_84_2 rfl) (h:=?_)
  refine dC (hc:=ld_ ty_plain_3 rfl) (h:=?_)
  refine dP (hc:=fun _=>Calm.move rfl) (h:=?_)
  refine dP (hc:=fun _=>Calm.bin rfl rfl b_add_i64) (h:=?_)
  refine dP (hc:=fun _=>Calm.nilCheck rfl) (h:=?_)
  refine dP (hc:=fun _=>Calm.fieldAddr ty_field_84_1 rfl) (h:=?_)
  refine draw_only rfl ?_
  refine ARun.store1 rfl rfl ty_size_82 rfl own_ lens_ rfl ?_
  try simp only [k_ms,k_sz,k_ss,k_za,Nat.reduceAdd]
  refine arun_nil ⟨fun h=>absurd h (by decide),?_⟩
  refine dP (hc:=fun _=>Calm.nilCheck rfl) (h:=?_)
  refine dP (hc:=fun _=>Calm.fieldAddr ty_field_84_2 rfl) (h:=?_)
  refine draw_only rfl ?_
  refine ARun.store1 rfl rfl ty_size_3 rfl own_ lens_ rfl ?_
  try simp only [k_ms,k_sz,k_ss,k_za,Nat.reduceAdd]
  refine arun_nil ⟨fun h=>absurd h (by decide),?_⟩
  refine draw_nil ?_
  refine athen_n ?_
  refine k_u [(0,_),(1,_),(2,_),(9,_),(6,_),(7,_)] ?_
  rw [hR]
  refine k_a (k_m rfl (k_m rfl ?_))
  refine rC (Calm.bin rfl rfl b_sub_i64) ?_
  refine k_e rfl ?_
  refine k_u [(0,_),(1,_),(2,_),(9,_),(6,_),(7,_)] ?_
  refine k_a (k_m rfl ?_)
  refine rC (Calm.nilCheck rfl) ?_
  refine rC (Calm.fieldAddr ty_field_84_2 rfl) ?_
  refine rC (ld_ ty_plain_3 rfl) ?_
  refine rC (Calm.bin rfl rfl b_eql) ?_
  refine k_n ?_
  refine k_u [(0,_),(1,_),(2,_),(9,_),(6,_),(7,_),(53,_)] ?_
  refine AWP.condB rfl (fun hc8=>?_) (fun hc8=>?_)
  ·have he8:M.length % 8+k=8:=by have:=of_decide_eq_true hc8;omega
   rcases ov with _ | ⟨b,c⟩
   ·simp only [outM,outV]
    have hM8:=hok.nil rfl
    have hb0:bytesV M = []:=List.eq_nil_of_length_eq_zero (by rw [bytesV_length];omega)
    refine AWP.draw [(0,true),(1,true),(2,true),(3,true),(4,true),(5,true),(6,true),(7,true),(8,true),(9,true),(10,true),(11,true),(12,false),(13,false),(14,true),(15,true),(16,false),(17,true),(18,true),(19,false),(20,true),(21,true),(22,false)] [13,16,19,22] mixed (by kernel_rfl) ?_
    refine dP (hc:=fun _=>Calm.move rfl) (h:=?_)
    refine dP (hc:=fun _=>Calm.move rfl) (h:=?_)
    refine dP (hc:=fun _=>Calm.move rfl) (h:=?_)
    refine dP (hc:=fun _=>Calm.move rfl) (h:=?_)
    refine dP (hc:=fun _=>Calm.nilCheck rfl) (h:=?_)
    refine dP (hc:=fun _=>Calm.fieldAddr ty_field_84_0 rfl) (h:=?_)
    refine dC (hc:=ld_ ty_plain_41 rfl) (h:=?_)
    refine dP (hc:=fun _=>Calm.move rfl) (h:=?_)
    refine dP (hc:=fun _=>Calm.nilCheck rfl) (h:=?_)
    refine dP (hc:=fun _=>Calm.fieldAddr ty_field_84_1 rfl) (h:=?_)
    refine dC (hc:=ld_ ty_plain_82 rfl) (h:=?_)
    refine dC (hc:=Calm.conv rfl (by first | exact conv_intW Tryz.underlying82 Tryz.underlying5 (IntWalk.u8_in _ (by omega)) | exact conv_int Tryz.underlying82 Tryz.underlying5)) (h:=?_)
    refine draw_only rfl ?_
    refine ARun.build1s (lit_lt rfl) ty_sl_41 rfl rfl ?_
    intro b66 f66
    have g66:=f66
    repeat ((with_reducible replace g66:=fresh_set g66);obtain ⟨g66,_⟩:=g66)
    refine arun_nil ⟨fun _=>less_,?_⟩
    refine draw_only rfl ?_
    refine ARun.appendNil1 (lit_lt rfl) ty_sl_41 rfl rfl (news:=[_]) (rds_cons ((rd_set_same _ _ _ _).trans rfl) (rds_nil _ _)) rfl (by omega) (by omega) (by omega) ?_
    intro bn cn fbn hcn
    have gbn:=fbn
    repeat ((with_reducible replace gbn:=fresh_set gbn);obtain ⟨gbn,_⟩:=gbn)
    refine arun_nil ⟨fun h=>absurd h (by decide),?_⟩
    refine dP (hc:=fun _=>Calm.nilCheck rfl) (h:=?_)
    refine dP (hc:=fun _=>Calm.fieldAddr ty_field_84_0 rfl) (h:=?_)
    refine draw_only rfl ?_
    refine ARun.store1 rfl rfl ty_size_41 rfl own_ lens_ rfl ?_
    try simp only [k_ms,k_sz,k_ss,k_za,Nat.reduceAdd]
    refine arun_nil ⟨fun h=>absurd h (by decide),?_⟩
    refine dP (hc:=fun _=>Calm.nilCheck rfl) (h:=?_)
    refine dP (hc:=fun _=>Calm.fieldAddr ty_field_84_1 rfl) (h:=?_)
    refine draw_only rfl ?_
    refine ARun.store1 rfl rfl ty_size_82 rfl own_ lens_ rfl ?_
    try simp only [k_ms,k_sz,k_ss,k_za,Nat.reduceAdd]
    refine arun_nil ⟨fun h=>absurd h (by decide),?_⟩
    refine dP (hc:=fun _=>Calm.nilCheck rfl) (h:=?_)
    refine dP (hc:=fun _=>Calm.fieldAddr ty_field_84_2 rfl) (h:=?_)
    refine draw_only rfl ?_
    refine ARun.store1 rfl rfl ty_size_3 rfl own_ lens_ rfl ?_
    try simp only [k_ms,k_sz,k_ss,k_za,Nat.reduceAdd]
    refine arun_nil ⟨fun h=>absurd h (by decide),?_⟩
    refine draw_nil ?_
    refine ain_n ?_
    refine athen_n ?_
    refine ⟨(r-k,M ++ numB (v / 2 ^ (r-k)) k,some (bn,cn)),?_,?_,?_,?_⟩
    all_goals (try dsimp only)
    ·exact ⟨rfl,rfl,some_int (by omega),trivial⟩
    ·show (wrM S p (some (bn,cn)) (M ++ numB (v / 2 ^ (r-k)) k)).Less _;rw [wrM_eight _ _ _ _ _ _ (by rw [numB_length];exact he8),hb0,List.nil_append,show M.length / 8=0 from by omega];exact less_
    ·exact ⟨by omega,by rw [List.append_assoc,← numB_split,show k+(r-k)=r from by omega];exact hM,hok.fp,(fun h=>by cases h),fun b2 c2 h2=>by cases h2;exact ⟨gbn,by assumption,by rw [List.length_append,numB_length];omega⟩⟩
    ·omega
   ·simp only [outM,outV]
    obtain ⟨ho1,ho2,ho3⟩:=hok.own b c rfl
    refine AWP.draw [(0,true),(1,true),(2,true),(3,true),(4,true),(5,true),(6,true),(7,true),(8,true),(9,true),(10,true),(11,true),(12,false),(13,false),(14,true),(15,true),(16,false),(17,true),(18,true),(19,false),(20,true),(21,true),(22,false)] [13,16,19,22] mixed (by kernel_rfl) ?_
    refine dP (hc:=fun _=>Calm.move rfl) (h:=?_)
    refine dP (hc:=fun _=>Calm.move rfl) (h:=?_)
    refine dP (hc:=fun _=>Calm.move rfl) (h:=?_)
    refine dP (hc:=fun _=>Calm.move rfl) (h:=?_)
    refine dP (hc:=fun _=>Calm.nilCheck rfl) (h:=?_)
    refine dP (hc:=fun _=>Calm.fieldAddr ty_field_84_0 rfl) (h:=?_)
    refine dC (hc:=ld_ ty_plain_41 rfl) (h:=?_)
    refine dP (hc:=fun _=>Calm.move rfl) (h:=?_)
    refine dP (hc:=fun _=>Calm.nilCheck rfl) (h:=?_)
    refine dP (hc:=fun _=>Calm.fieldAddr ty_field_84_1 rfl) (h:=?_)
    refine dC (hc:=ld_ ty_plain_82 rfl) (h:=?_)
    refine dC (hc:=Calm.conv rfl (by first | exact conv_intW Tryz.underlying82 Tryz.underlying5 (IntWalk.u8_in _ (by omega)) | exact conv_int Tryz.underlying82 Tryz.underlying5)) (h:=?_)
    refine draw_only rfl ?_
    refine ARun.build1s (lit_lt rfl) ty_sl_41 rfl rfl ?_
    intro b66 f66
    have g66:=f66
    repeat ((with_reducible replace g66:=fresh_set g66);obtain ⟨g66,_⟩:=g66)
    refine arun_nil ⟨fun _=>less_,?_⟩
    refine draw_only rfl ?_
    refine ARun.append1 (lit_lt rfl) ty_sl_41 rfl own_ (bytesV_length M) rfl (news:=[_]) rds_ rfl (by simp [Value.oneCell']) (by omega) (by omega) del_ ?_
    intro bn cn fbn hcn
    have gbn:=fbn
    repeat ((with_reducible replace gbn:=fresh_set gbn);obtain ⟨gbn,_⟩:=gbn)
    refine arun_nil ⟨fun h=>absurd h (by decide),?_⟩
    refine dP (hc:=fun _=>Calm.nilCheck rfl) (h:=?_)
    refine dP (hc:=fun _=>Calm.fieldAddr ty_field_84_0 rfl) (h:=?_)
    refine draw_only rfl ?_
    refine ARun.store1 rfl rfl ty_size_41 rfl own_ lens_ rfl ?_
    try simp only [k_ms,k_sz,k_ss,k_za,Nat.reduceAdd]
    refine arun_nil ⟨fun h=>absurd h (by decide),?_⟩
    refine dP (hc:=fun _=>Calm.nilCheck rfl) (h:=?_)
    refine dP (hc:=fun _=>Calm.fieldAddr ty_field_84_1 rfl) (h:=?_)
    refine draw_only rfl ?_
    refine ARun.store1 rfl rfl ty_size_82 rfl own_ lens_ rfl ?_
    try simp only [k_ms,k_sz,k_ss,k_za,Nat.reduceAdd]
    refine arun_nil ⟨fun h=>absurd h (by decide),?_⟩
    refine dP (hc:=fun _=>Calm.nilCheck rfl) (h:=?_)
    refine dP (hc:=fun _=>Calm.fieldAddr ty_field_84_2 rfl) (h:=?_)
    refine draw_only rfl ?_
    refine ARun.store1 rfl rfl ty_size_3 rfl own_ lens_ rfl ?_
    try simp only [k_ms,k_sz,k_ss,k_za,Nat.reduceAdd]
    refine arun_nil ⟨fun h=>absurd h (by decide),?_⟩
    refine draw_nil ?_
    refine ain_n ?_
    refine athen_n ?_
    refine ⟨(r-k,M ++ numB (v / 2 ^ (r-k)) k,some (bn,cn)),?_,?_,?_,?_⟩
    all_goals (try dsimp only)
    ·exact ⟨rfl,rfl,some_int (by omega),trivial⟩
    ·show (wrM S p (some (bn,cn)) (M ++ numB (v / 2 ^ (r-k)) k)).Less _;rw [wrM_eight _ _ _ _ _ _ (by rw [numB_length];exact he8)];exact less_
    ·exact ⟨by omega,by rw [List.append_assoc,← numB_split,show k+(r-k)=r from by omega];exact hM,hok.fp,(fun h=>by cases h),fun b2 c2 h2=>by cases h2;exact ⟨gbn,by assumption,by rw [List.length_append,numB_length];omega⟩⟩
    ·omega
  ·have he8 : ¬ M.length % 8+k=8:=by have:=of_decide_eq_false hc8;omega
   refine AWP.skip ?_
   refine ain_n ?_
   refine athen_n ?_
   refine ⟨(r-k,M ++ numB (v / 2 ^ (r-k)) k,ov),?_,?_,?_,?_⟩
   all_goals (try dsimp only)
   ·exact ⟨rfl,rfl,some_int (by omega),trivial⟩
   ·show (wrM S p ov (M ++ numB (v / 2 ^ (r-k)) k)).Less _;rw [wrM_few _ _ _ _ _ (by rw [numB_length];omega),numB_length];exact less_
   ·exact ⟨by omega,by rw [List.append_assoc,← numB_split,show k+(r-k)=r from by omega];exact hM,hok.fp,fun h=>by have:=hok.nil h;rw [List.length_append,numB_length];omega,fun b2 c2 h2=>by obtain ⟨q1,q2,q3⟩:=hok.own b2 c2 h2;exact ⟨q1,q2,by rw [List.length_append,numB_length];omega⟩⟩
   ·omega
 ·have hr0:r=0:=by have:=of_decide_eq_false hc;omega
  subst hr0
  refine AWP.exit ?_
  refine athen_exit ?_
  refine athen_exit ?_
  refine ain_same ?_
  refine ⟨_,_,rfl,less_,?_⟩
  exact ⟨rfl,ov,by rw [numB_zero,List.append_nil] at hM;rw [← hM];exact hok,by rw [numB_zero,List.append_nil] at hM;rw [← hM]⟩
end Go.Proofs.YtgidjbpgkeemiaaGreat
namespace Go.Proofs.YtgidjbpgkeemiaaGreat
open Go.RowKit
open Bits Mv
set_option maxRecDepth 20000
namespace Bits
theorem fresh_wrM {S : Mem} {p : Nat} {o : Option (Nat × Nat)} {L : List Bool} {b : Nat} (h : Fresh (wrM S p o L) b) : Fresh S b ∧ b ≠ p ∧ ∀ q c, o = some (q, c) → b ≠ q := by
 unfold wrM at h
 obtain ⟨h1,h2⟩:=fresh_set h
 cases o with
 | none=>exact ⟨h1,h2,fun q c e=>by cases e⟩
 | some qc =>
  obtain ⟨q,c⟩:=qc
  obtain ⟨h3,h4⟩:=fresh_set h1
  exact ⟨h3,h2,fun q' c' e=>by cases e;exact h4⟩
theorem OkW.set {S : Mem} {p b : Nat} {o : Option (Nat × Nat)} {L : List Bool} {r : Blk} (h : OkW S p o L) (hp : b ≠ p) (ho : ∀ q c, o = some (q, c) → b ≠ q) : OkW (S.set b r) p o L := by
 have fs:∀ q,Fresh S q→q≠b→Fresh (S.set b r) q:=fun q hq hne=>⟨by rw [Mem.own_set_other _ _ hne];exact hq.1,hq.2⟩
 exact ⟨fs p h.fp (Ne.symm hp),h.nil,fun q c e=>⟨fs q (h.own q c e).1 (Ne.symm (ho q c e)),(h.own q c e).2⟩⟩
theorem own_wrM (S : Mem) (p : Nat) (o : Option (Nat × Nat)) (L : List Bool) (b : Nat) (r : Blk) (hp : b ≠ p) (ho : ∀ q c, o = some (q, c) → b ≠ q) (h : S.own b = some r) : (wrM S p o L).own b = some r := by
 unfold wrM
 rw [Mem.own_set_other _ _ hp]
 cases o with
 | none=>exact h
 | some qc =>
  obtain ⟨q,c⟩:=qc
  exact (Mem.own_set_other _ _ (ho q c rfl)).trans h
def lastB (L : List Bool) : UInt8 := UInt8.ofNat (num (rest L) * 2 ^ (8 - L.length % 8))
theorem lastI (L : List Bool) : IntKind.u8.wrap (IntKind.u64.wrap (((num (rest L) : Nat) : Int) * 2 ^ ((8 : Int) - (L.length % 8 : Nat)).toNat)) = nb (lastB L) := by
 obtain ⟨R,h1,h2,h3⟩:=last_byte L
 rw [show ((8:Int)-(L.length % 8:Nat)).toNat=8-L.length % 8 from by omega,h1,h2,h3];rfl
theorem pack_one (L : List Bool) (h : L.length < 8) (hn : L.length % 8 ≠ 0) : pack L = [lastB L] := by
 rw [pack_last L hn]
 have:whole L = []:=by unfold whole;rw [show L.length / 8=0 from by omega];rfl
 rw [this];rfl
theorem rds_own' {S : Mem} {b : Nat} {r : Blk} {cs : List Value} (h : S.own b = some r) (e : r.cells = cs) : S.rds ⟨b, 0, none⟩ cs := by rw [← e]; exact rds_own h
end Bits
theorem bitsV_AddI (p : Nat) (v width : Int) (L : List Bool) (o : Option (Nat × Nat)) (S : Mem) (h0 : 0 ≤ width) (h3 : width ≤ 64) (h4 : 0 ≤ v) (h5 : v ≤ 18446744073709551615) (hlen : L.length ≤ 1048576 + 64) (hok : OkW S p o L) :
  ACall Tryz.prog 38 #[.pointer (some ⟨p,0,none⟩),.int .u64 v,.int .i64 width] (wrM S p o L) fun r S'=>r = .tuple #[] ∧ ∃ o',OkW S p o' (L ++ numB v.toNat width.toNat)∧S'=wrM S p o' (L ++ numB v.toNat width.toNat):=by
 have:=bitsV_Add p v.toNat width.toNat L o S (by omega) (by omega) hlen hok
 rwa [Int.toNat_of_nonneg h4,Int.toNat_of_nonneg h0] at this
set_option maxHeartbeats 400000 in
theorem bitsV_Len (p : Nat) (L : List Bool) (o : Option (Nat × Nat)) (S : Mem) (hlen : L.length ≤ 2000000) (hok : OkW S p o L) :
  ACall Tryz.prog 59 #[.pointer (some ⟨p,0,none⟩)] (wrM S p o L) fun r S'=>r = .int .i64 (L.length:Nat)∧S'=wrM S p o L:=by
 refine ACall.enter (rs:=[.tmp 2]) 14 [(0,.pointer (some ⟨p,0,none⟩))] Tryz.func59 rfl rfl (Nat.le_of_ble_eq_true rfl) rfl ⟨rfl,trivial⟩ ?_
 rcases o with _ | ⟨b,c⟩
 ·unfold wrM outM outV
  refine k_a (k_e rfl (AWP.seq ?_))
  refine AWP.draw [(0,true),(1,true),(2,true),(3,true),(4,true),(5,true),(6,true),(7,true),(8,true),(9,true),(10,true),(11,true)] [] mixed (by kernel_rfl) ?_
  refine dP (hc:=fun _=>Calm.move rfl) (h:=?_)
  refine dP (hc:=fun _=>Calm.nilCheck rfl) (h:=?_)
  refine dP (hc:=fun _=>Calm.fieldAddr ty_field_84_0 rfl) (h:=?_)
  refine dC (hc:=ld_ ty_plain_41 rfl) (h:=?_)
  refine dC (hc:=Calm.lenSl Tryz.underlying41 rfl) (h:=?_)
  refine dP (hc:=fun _=>Calm.bin rfl rfl b_mul_i64) (h:=?_)
  refine dP (hc:=fun _=>Calm.move rfl) (h:=?_)
  refine dP (hc:=fun _=>Calm.nilCheck rfl) (h:=?_)
  refine dP (hc:=fun _=>Calm.fieldAddr ty_field_84_2 rfl) (h:=?_)
  refine dC (hc:=ld_ ty_plain_3 rfl) (h:=?_)
  refine dP (hc:=fun _=>Calm.bin rfl rfl b_add_i64) (h:=?_)
  refine dP (hc:=fun _=>Calm.assign rfl) (h:=?_)
  refine draw_nil ?_
  refine athen_n ?_
  refine k_u [(0,_),(2,_)] ?_
  refine AWP.ret ?_
  refine ⟨_,_,⟨_,_,rfl,rfl,rfl⟩,less_,?_⟩
  exact ⟨val_int (by have:=hok.nil rfl;omega),rfl⟩
 ·unfold wrM outM outV
  refine k_a (k_e rfl (AWP.seq ?_))
  refine AWP.draw [(0,true),(1,true),(2,true),(3,true),(4,true),(5,true),(6,true),(7,true),(8,true),(9,true),(10,true),(11,true)] [] mixed (by kernel_rfl) ?_
  refine dP (hc:=fun _=>Calm.move rfl) (h:=?_)
  refine dP (hc:=fun _=>Calm.nilCheck rfl) (h:=?_)
  refine dP (hc:=fun _=>Calm.fieldAddr ty_field_84_0 rfl) (h:=?_)
  refine dC (hc:=ld_ ty_plain_41 rfl) (h:=?_)
  refine dC (hc:=Calm.lenSl Tryz.underlying41 rfl) (h:=?_)
  refine dP (hc:=fun _=>Calm.bin rfl rfl b_mul_i64) (h:=?_)
  refine dP (hc:=fun _=>Calm.move rfl) (h:=?_)
  refine dP (hc:=fun _=>Calm.nilCheck rfl) (h:=?_)
  refine dP (hc:=fun _=>Calm.fieldAddr ty_field_84_2 rfl) (h:=?_)
  refine dC (hc:=ld_ ty_plain_3 rfl) (h:=?_)
  refine dP (hc:=fun _=>Calm.bin rfl rfl b_add_i64) (h:=?_)
  refine dP (hc:=fun _=>Calm.assign rfl) (h:=?_)
  refine draw_nil ?_
  refine athen_n ?_
  refine k_u [(0,_),(2,_)] ?_
  refine AWP.ret ?_
  refine ⟨_,_,⟨_,_,rfl,rfl,rfl⟩,less_,?_⟩
  exact ⟨val_int (by omega),rfl⟩
set_option maxHeartbeats 1000000 in
theorem bitsV_Bits (p : Nat) (L : List Bool) (o : Option (Nat × Nat)) (S : Mem) (hlen : L.length ≤ 1048576) (hok : OkW S p o L) :
  ACall Tryz.prog 40 #[.pointer (some ⟨p,0,none⟩)] (wrM S p o L) fun r S'=>r = .agg #[.string (bs (pack L)),.int .i64 (L.length:Nat)]∧S'=S:=by
 refine ACall.enter (rs:=[.cell 2 29]) 37 [(0,.pointer (some ⟨p,0,none⟩))] Tryz.func40 rfl rfl (Nat.le_of_ble_eq_true rfl) rfl ⟨rfl,trivial⟩ ?_
 have hfp:=hok.fp
 have hLen:=bitsV_Len p L o S (by omega) hok
 have hq8:L.length / 8≤200000:=by omega
 have hlb:=lastI L
 refine k_a ?_
 refine ARun.alloc (lit_lt rfl) ty_zero_29 ?_
 intro b2 f2
 have g2:=f2
 repeat ((with_reducible replace g2:=fresh_set g2);obtain ⟨g2,_⟩:=g2)
 try simp only [k_l1,k_l0,k_za,Nat.reduceAdd]
 refine k_n ?_
 obtain ⟨q1,q2,q3⟩:=fresh_wrM g2
 have q2':=Ne.symm q2
 rcases o with _ | ⟨b,c⟩
 ·have hM8:=hok.nil rfl
  simp only [wrM,outM,outV] at hLen ⊢
  refine k_a (k_m rfl ?_)
  refine rC (Calm.nilCheck rfl) ?_
  refine rC (Calm.fieldAddr ty_field_84_0 rfl) ?_
  refine rC (ld_ ty_plain_41 rfl) ?_
  refine k_e rfl ?_
  refine k_u [(0,_),(2,_),(3,_)] ?_
  refine AWP.seq (k_a (k_m rfl ?_))
  refine rC (Calm.nilCheck rfl) ?_
  refine rC (Calm.fieldAddr ty_field_84_2 rfl) ?_
  refine rC (ld_ ty_plain_3 rfl) ?_
  refine rC (Calm.bin rfl rfl b_gtr) ?_
  refine k_n ?_
  refine k_u [(0,_),(2,_),(3,_),(12,_)] ?_
  refine AWP.condB rfl (fun hc=>?_) (fun hc=>?_)
  ·have hn:L.length % 8≠0:=by have:=of_decide_eq_true hc;omega
   refine AWP.draw [(0,true),(1,true),(2,true),(3,true),(4,true),(5,true),(6,true),(7,true),(8,true),(9,true),(10,true),(11,true),(12,true),(13,true),(14,true),(15,true),(16,true),(17,false),(18,false),(19,true)] [18] mixed (by kernel_rfl) ?_
   refine dP (hc:=fun _=>Calm.move rfl) (h:=?_)
   refine dP (hc:=fun _=>Calm.move rfl) (h:=?_)
   refine dC (hc:=Calm.lenSl Tryz.underlying41 rfl) (h:=?_)
   refine dP (hc:=fun _=>Calm.move rfl) (h:=?_)
   refine dC (hc:=Calm.lenSl Tryz.underlying41 rfl) (h:=?_)
   refine dP (hc:=fun _=>(by first | exact Calm.sliceHead Tryz.underlying41 ty_size_5 rfl (bnd_some _ _ rfl (by omega) (by omega)) (fun _=>rfl) (bnd_some _ _ rfl (by omega) (by omega)) | exact Calm.sliceNil Tryz.underlying41 ty_size_5 rfl (bnd_zero _ _ rfl) (by simp) (bnd_zero _ _ rfl) (bnd_none _ _))) (h:=?_)
   refine dP (hc:=fun _=>Calm.move rfl) (h:=?_)
   refine dP (hc:=fun _=>Calm.nilCheck rfl) (h:=?_)
   refine dP (hc:=fun _=>Calm.fieldAddr ty_field_84_1 rfl) (h:=?_)
   refine dC (hc:=ld_ ty_plain_82 rfl) (h:=?_)
   refine dP (hc:=fun _=>Calm.move rfl) (h:=?_)
   refine dP (hc:=fun _=>Calm.nilCheck rfl) (h:=?_)
   refine dP (hc:=fun _=>Calm.fieldAddr ty_field_84_2 rfl) (h:=?_)
   refine dC (hc:=ld_ ty_plain_3 rfl) (h:=?_)
   refine dP (hc:=fun _=>Calm.bin rfl rfl b_sub_i64) (h:=?_)
   refine dP (hc:=fun _=>Calm.bin rfl rfl b_shl) (h:=?_)
   refine dC (hc:=Calm.conv rfl (conv_intW Tryz.underlying82 Tryz.underlying5 hlb)) (h:=?_)
   refine draw_only rfl ?_
   refine ARun.build1s (lit_lt rfl) ty_sl_41 rfl rfl ?_
   intro b30 f30
   have g30:=f30
   repeat ((with_reducible replace g30:=fresh_set g30);obtain ⟨g30,_⟩:=g30)
   refine arun_nil ⟨fun _=>less_,?_⟩
   refine draw_only rfl ?_
   refine ARun.appendNil1 (lit_lt rfl) ty_sl_41 rfl rfl (news:=[_]) rds_ rfl (by omega) (by omega) (by omega) ?_
   intro bn cn fbn hcn
   have gbn:=fbn
   repeat ((with_reducible replace gbn:=fresh_set gbn);obtain ⟨gbn,_⟩:=gbn)
   refine arun_nil ⟨fun h=>absurd h (by decide),?_⟩
   refine dP (hc:=fun _=>Calm.assign rfl) (h:=?_)
   refine draw_nil ?_
   refine athen_n ?_
   refine k_u [(0,_),(2,_),(3,_),(12,_)] ?_
   have hbs:pack L = [lastB L]:=pack_one L hM8 hn
   refine AWP.seq ?_
   refine AWP.draw [(0,true),(1,true),(2,true),(3,false),(4,true),(5,false)] [5] mixed (by kernel_rfl) ?_
   refine dP (hc:=fun _=>Calm.move rfl) (h:=?_)
   refine dC (hc:=Calm.toStr ty_bytes_41 ty_str_9 rfl (l:=[lastB L]) rfl rds_) (h:=?_)
   refine dP (hc:=fun _=>Calm.move rfl) (h:=?_)
   refine draw_only rfl ?_
   refine ARun.call (lit_lt rfl) go_59 rfl (ACall.pure_more less_ hLen) ?_
   rintro _ _ ⟨rfl,rfl⟩
   refine arun_nil ⟨fun _=>less_,?_⟩
   refine dP (hc:=fun _=>Calm.build (cs:=[_,_]) ty_bld_29 rfl rfl) (h:=?_)
   refine draw_only rfl ?_
   first|refine k_A rfl rfl ty_size_29 ?_|refine k_B rfl rfl ty_size_29 ?_
   try simp only [k_ms,k_sz,k_ss,k_za,Nat.reduceAdd]
   refine arun_nil ⟨fun h=>absurd h (by decide),?_⟩
   refine draw_nil ?_
   refine athen_n ?_
   refine k_u [(0,_),(2,_),(3,_),(12,_)] ?_
   refine AWP.ret ?_
   refine ⟨_,S,⟨_,_,_,rfl,.inr ⟨ty_agg_29,[_,_],ty_size_29,rds_,rfl⟩,rfl,rfl⟩,less_,?_⟩
   exact ⟨by rw [hbs];rfl,rfl⟩
  ·have hn:L = []:=List.eq_nil_of_length_eq_zero (by have:=of_decide_eq_false hc;omega)
   refine k_k (AWP.seq ?_)
   refine AWP.draw [(0,true),(1,true),(2,true),(3,false),(4,true),(5,false)] [5] mixed (by kernel_rfl) ?_
   refine dP (hc:=fun _=>Calm.move rfl) (h:=?_)
   refine dC (hc:=(by first | exact Calm.toStr ty_bytes_41 ty_str_9 rfl lens_ rds_ | exact Calm.toStrNil ty_bytes_41 ty_str_9 rfl)) (h:=?_)
   refine dP (hc:=fun _=>Calm.move rfl) (h:=?_)
   refine draw_only rfl ?_
   refine ARun.call (lit_lt rfl) go_59 rfl (ACall.pure_more less_ hLen) ?_
   rintro _ _ ⟨rfl,rfl⟩
   refine arun_nil ⟨fun _=>less_,?_⟩
   refine dP (hc:=fun _=>Calm.build (cs:=[_,_]) ty_bld_29 rfl rfl) (h:=?_)
   refine draw_only rfl ?_
   first|refine k_A rfl rfl ty_size_29 ?_|refine k_B rfl rfl ty_size_29 ?_
   try simp only [k_ms,k_sz,k_ss,k_za,Nat.reduceAdd]
   refine arun_nil ⟨fun h=>absurd h (by decide),?_⟩
   refine draw_nil ?_
   refine athen_n ?_
   refine k_u [(0,_),(2,_),(3,_),(12,_)] ?_
   refine AWP.ret ?_
   refine ⟨_,S,⟨_,_,_,rfl,.inr ⟨ty_agg_29,[_,_],ty_size_29,rds_,rfl⟩,rfl,rfl⟩,less_,?_⟩
   exact ⟨by rw [hn];rfl,rfl⟩
 ·simp only [wrM,outM,outV] at hLen ⊢
  obtain ⟨ho1,ho2,ho3⟩:=hok.own b c rfl
  have hb2:=q3 b c rfl
  refine k_a (k_m rfl ?_)
  refine rC (Calm.nilCheck rfl) ?_
  refine rC (Calm.fieldAddr ty_field_84_0 rfl) ?_
  refine rC (ld_ ty_plain_41 rfl) ?_
  refine k_e rfl ?_
  refine k_u [(0,_),(2,_),(3,_)] ?_
  refine AWP.seq (k_a (k_m rfl ?_))
  refine rC (Calm.nilCheck rfl) ?_
  refine rC (Calm.fieldAddr ty_field_84_2 rfl) ?_
  refine rC (ld_ ty_plain_3 rfl) ?_
  refine rC (Calm.bin rfl rfl b_gtr) ?_
  refine k_n ?_
  refine k_u [(0,_),(2,_),(3,_),(12,_)] ?_
  refine AWP.condB rfl (fun hc=>?_) (fun hc=>?_)
  ·have hn:L.length % 8≠0:=by have:=of_decide_eq_true hc;omega
   refine AWP.draw [(0,true),(1,true),(2,true),(3,true),(4,true),(5,true),(6,true),(7,true),(8,true),(9,true),(10,true),(11,true),(12,true),(13,true),(14,true),(15,true),(16,true),(17,false),(18,false),(19,true)] [18] mixed (by kernel_rfl) ?_
   refine dP (hc:=fun _=>Calm.move rfl) (h:=?_)
   refine dP (hc:=fun _=>Calm.move rfl) (h:=?_)
   refine dC (hc:=Calm.lenSl Tryz.underlying41 rfl) (h:=?_)
   refine dP (hc:=fun _=>Calm.move rfl) (h:=?_)
   refine dC (hc:=Calm.lenSl Tryz.underlying41 rfl) (h:=?_)
   refine dP (hc:=fun _=>(by first | exact Calm.sliceHead Tryz.underlying41 ty_size_5 rfl (bnd_some _ _ rfl (by omega) (by omega)) (fun _=>rfl) (bnd_some _ _ rfl (by omega) (by omega)) | exact Calm.sliceNil Tryz.underlying41 ty_size_5 rfl (bnd_zero _ _ rfl) (by simp) (bnd_zero _ _ rfl) (bnd_none _ _))) (h:=?_)
   refine dP (hc:=fun _=>Calm.move rfl) (h:=?_)
   refine dP (hc:=fun _=>Calm.nilCheck rfl) (h:=?_)
   refine dP (hc:=fun _=>Calm.fieldAddr ty_field_84_1 rfl) (h:=?_)
   refine dC (hc:=ld_ ty_plain_82 rfl) (h:=?_)
   refine dP (hc:=fun _=>Calm.move rfl) (h:=?_)
   refine dP (hc:=fun _=>Calm.nilCheck rfl) (h:=?_)
   refine dP (hc:=fun _=>Calm.fieldAddr ty_field_84_2 rfl) (h:=?_)
   refine dC (hc:=ld_ ty_plain_3 rfl) (h:=?_)
   refine dP (hc:=fun _=>Calm.bin rfl rfl b_sub_i64) (h:=?_)
   refine dP (hc:=fun _=>Calm.bin rfl rfl b_shl) (h:=?_)
   refine dC (hc:=Calm.conv rfl (conv_intW Tryz.underlying82 Tryz.underlying5 hlb)) (h:=?_)
   refine draw_only rfl ?_
   refine ARun.build1s (lit_lt rfl) ty_sl_41 rfl rfl ?_
   intro b30 f30
   have g30:=f30
   repeat ((with_reducible replace g30:=fresh_set g30);obtain ⟨g30,_⟩:=g30)
   refine arun_nil ⟨fun _=>less_,?_⟩
   refine draw_only rfl ?_
   refine ARun.appendCopy1 (lit_lt rfl) ty_sl_41 rfl (xs:=bytesV L) (rds_own' own_ rfl) (bytesV_length L) rfl (news:=[_]) rds_ rfl (by omega) (by omega) (by omega) ?_
   intro bn cn fbn hcn
   have gbn:=fbn
   repeat ((with_reducible replace gbn:=fresh_set gbn);obtain ⟨gbn,_⟩:=gbn)
   refine arun_nil ⟨fun h=>absurd h (by decide),?_⟩
   refine dP (hc:=fun _=>Calm.assign rfl) (h:=?_)
   refine draw_nil ?_
   refine athen_n ?_
   refine k_u [(0,_),(2,_),(3,_),(12,_)] ?_
   have hbs:cellsB (pack L)=bytesV L ++ [.int .u8 (nb (lastB L))]:=by rw [pack_last L hn];simp [cellsB,bytesV,lastB]
   refine AWP.seq ?_
   refine AWP.draw [(0,true),(1,true),(2,true),(3,false),(4,true),(5,false)] [5] mixed (by kernel_rfl) ?_
   refine dP (hc:=fun _=>Calm.move rfl) (h:=?_)
   refine dC (hc:=Calm.toStr ty_bytes_41 ty_str_9 rfl (l:=pack L) (by rw [pack_length];omega) (by rw [hbs];exact rds_own' own_ rfl)) (h:=?_)
   refine dP (hc:=fun _=>Calm.move rfl) (h:=?_)
   refine draw_only rfl ?_
   refine ARun.call (lit_lt rfl) go_59 rfl (ACall.pure_more less_ hLen) ?_
   rintro _ _ ⟨rfl,rfl⟩
   refine arun_nil ⟨fun _=>less_,?_⟩
   refine dP (hc:=fun _=>Calm.build (cs:=[_,_]) ty_bld_29 rfl rfl) (h:=?_)
   refine draw_only rfl ?_
   first|refine k_A rfl rfl ty_size_29 ?_|refine k_B rfl rfl ty_size_29 ?_
   try simp only [k_ms,k_sz,k_ss,k_za,Nat.reduceAdd]
   refine arun_nil ⟨fun h=>absurd h (by decide),?_⟩
   refine draw_nil ?_
   refine athen_n ?_
   refine k_u [(0,_),(2,_),(3,_),(12,_)] ?_
   refine AWP.ret ?_
   refine ⟨_,S,⟨_,_,_,rfl,.inr ⟨ty_agg_29,[_,_],ty_size_29,rds_,rfl⟩,rfl,rfl⟩,less_,?_⟩
   exact ⟨rfl,rfl⟩
  ·have hn:L.length % 8=0:=by have:=of_decide_eq_false hc;omega
   have hbs:cellsB (pack L)=bytesV L:=by unfold bytesV;rw [pack_whole L hn];rfl
   refine k_k (AWP.seq ?_)
   refine AWP.draw [(0,true),(1,true),(2,true),(3,false),(4,true),(5,false)] [5] mixed (by kernel_rfl) ?_
   refine dP (hc:=fun _=>Calm.move rfl) (h:=?_)
   refine dC (hc:=Calm.toStr ty_bytes_41 ty_str_9 rfl (l:=pack L) (by rw [pack_length];omega) (by rw [hbs];exact rds_own' own_ rfl)) (h:=?_)
   refine dP (hc:=fun _=>Calm.move rfl) (h:=?_)
   refine draw_only rfl ?_
   refine ARun.call (lit_lt rfl) go_59 rfl (ACall.pure_more less_ hLen) ?_
   rintro _ _ ⟨rfl,rfl⟩
   refine arun_nil ⟨fun _=>less_,?_⟩
   refine dP (hc:=fun _=>Calm.build (cs:=[_,_]) ty_bld_29 rfl rfl) (h:=?_)
   refine draw_only rfl ?_
   first|refine k_A rfl rfl ty_size_29 ?_|refine k_B rfl rfl ty_size_29 ?_
   try simp only [k_ms,k_sz,k_ss,k_za,Nat.reduceAdd]
   refine arun_nil ⟨fun h=>absurd h (by decide),?_⟩
   refine draw_nil ?_
   refine athen_n ?_
   refine k_u [(0,_),(2,_),(3,_),(12,_)] ?_
   refine AWP.ret ?_
   refine ⟨_,S,⟨_,_,_,rfl,.inr ⟨ty_agg_29,[_,_],ty_size_29,rds_,rfl⟩,rfl,rfl⟩,less_,?_⟩
   exact ⟨rfl,rfl⟩
end Go.Proofs.YtgidjbpgkeemiaaGreat
namespace Go.Proofs.YtgidjbpgkeemiaaGreat
open Go.RowKit
open Bits Mv
set_option maxRecDepth 20000
namespace Bits
/-- A Bitstr. -/
def bv (s : ByteArray) (N : Int) : Value := .agg #[.string s, .int .i64 N]
def two (a : Value) (e : Int) : Value := .tuple #[a, .int .i64 e]
theorem chk_right {B : List UInt8} {N : Int} (h : chk B N = 0) : right B N := by
 unfold chk at h
 split at h
 ·assumption
 ·cases h
theorem chk_two {B : List UInt8} {N : Int} (h : ¬ chk B N = 0) : chk B N = 2 := by
 unfold chk at h ⊢
 split at h
 ·exact absurd rfl h
 ·rename_i hn;rw [if_neg hn]
theorem tab_ones (l : List UInt8) (hl : ∀ j : Fin 256, nb (at8 l j.val) = (Lib.onesCount j.val : Int)) (x : Int) (h0 : 0 ≤ x) (h1 : x ≤ 255) : nb (at8 l x.toNat) = (Lib.onesCount x.toNat : Int) := hl ⟨x.toNat, by omega⟩
theorem bnot_t {p : Prop} [Decidable p] (h : (!decide p) = true) : ¬ p := by simpa using h
theorem bnot_f {p : Prop} [Decidable p] (h : (!decide p) = false) : p := by simpa using h
theorem wrM_nil (S : Mem) (p : Nat) : wrM S p none [] = S.set p ⟨84, [.slice none 0 0, .int .u64 0, .int .i64 0], 3⟩ := rfl
theorem okW_nil {S : Mem} {p : Nat} (h : Fresh S p) : OkW S p none [] := ⟨h, fun _ => by simp, fun b c e => by cases e⟩
theorem own_wrM_ok {S : Mem} {p b : Nat} {o : Option (Nat × Nat)} {L : List Bool} {r : Blk} (hk : OkW S p o L) (h : S.own b = some r) : (wrM S p o L).own b = some r :=
 own_wrM S p o L b r (hk.fp.ne h) (fun q c e=>(hk.own q c e).1.ne h) h
theorem chk_no {B : List UInt8} {N : Int} (h : ¬ right B N) : chk B N = 2 := if_neg h
theorem chk_yes {B : List UInt8} {N : Int} (h : right B N) : chk B N = 0 := if_pos h
theorem right_iff (B : List UInt8) (N : Int) (h0 : 0 ≤ N) (h1 : N ≤ 1048576) (h2 : B.length = (N.toNat + 7) / 8) : right B N ↔ (N % 8 = 0 ∨ IntKind.u8.wrap (nb (at8 B (N.toNat / 8)) * 2 ^ (N % 8).toNat) = 0) := by
 unfold right
 rw [right_last B N.toNat h2]
 have e:(N % 8).toNat=N.toNat % 8:=by omega
 have hz:=shl_zero (at8 B (N.toNat / 8)) (N.toNat % 8) (by omega)
 rw [IntKind.wrap_u8,e,hz]
 constructor
 ·rintro ⟨_,_,h | h⟩
  ·exact .inl (by omega)
  ·exact .inr h
 ·rintro (h | h)
  ·exact ⟨h0,h1,.inl (by omega)⟩
  ·exact ⟨h0,h1,.inr h⟩
end Bits
set_option maxRecDepth 100000 in
theorem bits_Ones8 (x : Int) (S : Mem) (h0 : 0 ≤ x) (h1 : x ≤ 255) : ACall Tryz.prog 85 #[.int .u8 x] S fun r S' => r = .int .i64 (Lib.onesCount x.toNat) ∧ S' = S := by
 refine ACall.enter (rs:=[.tmp 2]) 6 [(0,.int .u8 x)] Tryz.func85 rfl rfl (Nat.le_of_ble_eq_true rfl) rfl ⟨rfl,trivial⟩ ?_
 refine k_a (k_e rfl (k_a (k_m rfl ?_)))
 refine rC (Calm.indexStr (strT_spec ty_str_9) rfl rfl (by omega) (by simp [ByteArray.size];omega)) ?_
 refine rC (Calm.conv rfl (by first | exact conv_intW Tryz.underlying5 Tryz.underlying3 (IntWalk.i64_in _ (by omega)) | exact conv_intW Tryz.underlying5 Tryz.underlying3 (wrap_nb_i64 _) | exact conv_int Tryz.underlying5 Tryz.underlying3)) ?_
 refine k_e rfl ?_
 refine k_u [(0,_),(2,_)] ?_
 refine AWP.ret ?_
 refine ⟨_,_,⟨_,_,rfl,rfl,rfl⟩,less_,?_⟩
 exact ⟨val_int (tab_ones _ (by decide +kernel) x h0 h1),rfl⟩
set_option maxHeartbeats 1000000 in
theorem bitsV_Check (s : ByteArray) (N : Int) (S : Mem) (hs : s.size ≤ 9223372036854775807) :
  ACall Tryz.prog 57 #[.agg #[.string s,.int .i64 N]] S fun r S'=>r = .int .i64 (chk s.data.toList N)∧S'=S:=by
 by_cases h1:N<0
 ·rw [chk_no (fun h=>by have:=h.1;omega)]
  refine ACall.enter (rs:=[.tmp 2]) 40 [(0,.agg #[.string s,.int .i64 N])] Tryz.func57 rfl rfl (Nat.le_of_ble_eq_true rfl) rfl ⟨rfl,trivial⟩ ?_
  refine k_a ?_
  refine ARun.boxA (cs:=[_,_]) (lit_lt rfl) rfl ?_
  intro b1 f1
  have g1:=f1
  repeat ((with_reducible replace g1:=fresh_set g1);obtain ⟨g1,_⟩:=g1)
  try simp only [k_l1,k_l0,k_za,Nat.reduceAdd]
  refine k_e rfl (AWP.seq (k_a ?_))
  refine rC (Calm.fieldAddr ty_field_29_1 rfl) ?_
  refine rC (ld_ ty_plain_3 rfl) ?_
  refine rC (Calm.bin rfl rfl b_lss) ?_
  refine k_m rfl ?_
  first|refine k_q 7 ?_|refine rG 7 (Calm.fieldAddr ty_field_29_1 rfl) ?_
  first|refine k_q 7 ?_|refine rG 7 (ld_ ty_plain_3 rfl) ?_
  first|refine k_q 7 ?_|refine rG 7 (Calm.bin rfl rfl b_gtr) ?_
  first|refine k_t rfl rfl ?_|refine k_f rfl rfl ?_
  refine k_m rfl ?_
  first|refine k_q 12 ?_|refine rG 12 (Calm.fieldAddr ty_field_29_0 rfl) ?_
  first|refine k_q 12 ?_|refine rG 12 (ld_ ty_plain_9 rfl) ?_
  first|refine k_q 12 ?_|refine rG 12 (Calm.lenStr (strT_spec ty_str_9) rfl) ?_
  first|refine k_q 12 ?_|refine rG 12 (Calm.fieldAddr ty_field_29_1 rfl) ?_
  first|refine k_q 12 ?_|refine rG 12 (ld_ ty_plain_3 rfl) ?_
  first|refine k_q 12 ?_|refine rG 12 (Calm.bin rfl rfl b_add_i64) ?_
  first|refine k_q 12 ?_|refine rG 12 (Calm.bin rfl rfl b_sub_i64) ?_
  first|refine k_q 12 ?_|refine rG 12 (Calm.bin rfl rfl b_quo_i64) ?_
  first|refine k_q 12 ?_|refine rG 12 (Calm.bin rfl rfl b_neq) ?_
  first|refine k_t rfl rfl ?_|refine k_f rfl rfl ?_
  refine k_n ?_
  refine k_u [(0,_),(1,_),(2,_),(22,_)] ?_
  refine k_T rfl ?_
  refine k_a (k_e rfl ?_)
  refine k_r ?_
  refine ⟨_,S,⟨_,_,rfl,rfl,rfl⟩,less_,?_⟩
  exact ⟨rfl,rfl⟩
 by_cases h2:1048576<N
 ·rw [chk_no (fun h=>by have:=h.2.1;omega)]
  refine ACall.enter (rs:=[.tmp 2]) 40 [(0,.agg #[.string s,.int .i64 N])] Tryz.func57 rfl rfl (Nat.le_of_ble_eq_true rfl) rfl ⟨rfl,trivial⟩ ?_
  refine k_a ?_
  refine ARun.boxA (cs:=[_,_]) (lit_lt rfl) rfl ?_
  intro b1 f1
  have g1:=f1
  repeat ((with_reducible replace g1:=fresh_set g1);obtain ⟨g1,_⟩:=g1)
  try simp only [k_l1,k_l0,k_za,Nat.reduceAdd]
  refine k_e rfl (AWP.seq (k_a ?_))
  refine rC (Calm.fieldAddr ty_field_29_1 rfl) ?_
  refine rC (ld_ ty_plain_3 rfl) ?_
  refine rC (Calm.bin rfl rfl b_lss) ?_
  refine k_m rfl ?_
  first|refine k_q 7 ?_|refine rG 7 (Calm.fieldAddr ty_field_29_1 rfl) ?_
  first|refine k_q 7 ?_|refine rG 7 (ld_ ty_plain_3 rfl) ?_
  first|refine k_q 7 ?_|refine rG 7 (Calm.bin rfl rfl b_gtr) ?_
  first|refine k_t rfl rfl ?_|refine k_f rfl rfl ?_
  refine k_m rfl ?_
  first|refine k_q 12 ?_|refine rG 12 (Calm.fieldAddr ty_field_29_0 rfl) ?_
  first|refine k_q 12 ?_|refine rG 12 (ld_ ty_plain_9 rfl) ?_
  first|refine k_q 12 ?_|refine rG 12 (Calm.lenStr (strT_spec ty_str_9) rfl) ?_
  first|refine k_q 12 ?_|refine rG 12 (Calm.fieldAddr ty_field_29_1 rfl) ?_
  first|refine k_q 12 ?_|refine rG 12 (ld_ ty_plain_3 rfl) ?_
  first|refine k_q 12 ?_|refine rG 12 (Calm.bin rfl rfl b_add_i64) ?_
  first|refine k_q 12 ?_|refine rG 12 (Calm.bin rfl rfl b_sub_i64) ?_
  first|refine k_q 12 ?_|refine rG 12 (Calm.bin rfl rfl b_quo_i64) ?_
  first|refine k_q 12 ?_|refine rG 12 (Calm.bin rfl rfl b_neq) ?_
  first|refine k_t rfl rfl ?_|refine k_f rfl rfl ?_
  refine k_n ?_
  refine k_u [(0,_),(1,_),(2,_),(22,_)] ?_
  refine k_T rfl ?_
  refine k_a (k_e rfl ?_)
  refine k_r ?_
  refine ⟨_,S,⟨_,_,rfl,rfl,rfl⟩,less_,?_⟩
  exact ⟨rfl,rfl⟩
 have hsz:s.size=s.data.toList.length:=(Array.length_toList (xs:=s.data)).symm
 by_cases h3:(s.size:Int)=(N+7) / 8
 ·have hR:=Bits.right_iff s.data.toList N (by omega) (by omega) (by omega)
  by_cases h4:N % 8=0
  ·rw [chk_yes (hR.2 (.inl h4))]
   refine ACall.enter (rs:=[.tmp 2]) 40 [(0,.agg #[.string s,.int .i64 N])] Tryz.func57 rfl rfl (Nat.le_of_ble_eq_true rfl) rfl ⟨rfl,trivial⟩ ?_
   refine k_a ?_
   refine ARun.boxA (cs:=[_,_]) (lit_lt rfl) rfl ?_
   intro b1 f1
   have g1:=f1
   repeat ((with_reducible replace g1:=fresh_set g1);obtain ⟨g1,_⟩:=g1)
   try simp only [k_l1,k_l0,k_za,Nat.reduceAdd]
   refine k_e rfl (AWP.seq (k_a ?_))
   refine rC (Calm.fieldAddr ty_field_29_1 rfl) ?_
   refine rC (ld_ ty_plain_3 rfl) ?_
   refine rC (Calm.bin rfl rfl b_lss) ?_
   refine k_m rfl ?_
   first|refine k_q 7 ?_|refine rG 7 (Calm.fieldAddr ty_field_29_1 rfl) ?_
   first|refine k_q 7 ?_|refine rG 7 (ld_ ty_plain_3 rfl) ?_
   first|refine k_q 7 ?_|refine rG 7 (Calm.bin rfl rfl b_gtr) ?_
   first|refine k_t rfl rfl ?_|refine k_f rfl rfl ?_
   refine k_m rfl ?_
   first|refine k_q 12 ?_|refine rG 12 (Calm.fieldAddr ty_field_29_0 rfl) ?_
   first|refine k_q 12 ?_|refine rG 12 (ld_ ty_plain_9 rfl) ?_
   first|refine k_q 12 ?_|refine rG 12 (Calm.lenStr (strT_spec ty_str_9) rfl) ?_
   first|refine k_q 12 ?_|refine rG 12 (Calm.fieldAddr ty_field_29_1 rfl) ?_
   first|refine k_q 12 ?_|refine rG 12 (ld_ ty_plain_3 rfl) ?_
   first|refine k_q 12 ?_|refine rG 12 (Calm.bin rfl rfl b_add_i64) ?_
   first|refine k_q 12 ?_|refine rG 12 (Calm.bin rfl rfl b_sub_i64) ?_
   first|refine k_q 12 ?_|refine rG 12 (Calm.bin rfl rfl b_quo_i64) ?_
   first|refine k_q 12 ?_|refine rG 12 (Calm.bin rfl rfl b_neq) ?_
   first|refine k_t rfl rfl ?_|refine k_f rfl rfl ?_
   refine k_n ?_
   refine k_u [(0,_),(1,_),(2,_),(22,_)] ?_
   refine k_F rfl ?_
   refine k_k (AWP.seq (k_a ?_))
   refine rC (Calm.fieldAddr ty_field_29_1 rfl) ?_
   refine rC (ld_ ty_plain_3 rfl) ?_
   refine rC (Calm.bin rfl rfl b_rem) ?_
   refine k_e rfl ?_
   refine k_u [(0,_),(1,_),(2,_),(22,_),(3,_)] ?_
   refine k_a (k_m rfl ?_)
   refine rC (Calm.bin rfl rfl b_gtr) ?_
   refine k_m rfl ?_
   first|refine k_q 28 ?_|refine rG 28 (Calm.fieldAddr ty_field_29_0 rfl) ?_
   first|refine k_q 28 ?_|refine rG 28 (ld_ ty_plain_9 rfl) ?_
   first|refine k_q 28 ?_|refine rG 28 (Calm.fieldAddr ty_field_29_0 rfl) ?_
   first|refine k_q 28 ?_|refine rG 28 (ld_ ty_plain_9 rfl) ?_
   first|refine k_q 28 ?_|refine rG 28 (Calm.lenStr (strT_spec ty_str_9) rfl) ?_
   first|refine k_q 28 ?_|refine rG 28 (Calm.bin rfl rfl b_sub_i64) ?_
   first|refine k_q 28 ?_|refine rG 28 ((by first | exact Calm.indexStrN (strT_spec ty_str_9) rfl rfl (by omega) | exact Calm.indexStr (strT_spec ty_str_9) rfl rfl (by omega) (by omega))) ?_
   first|refine k_q 28 ?_|refine rG 28 (Calm.move rfl) ?_
   first|refine k_q 28 ?_|refine rG 28 (Calm.bin rfl rfl b_shl) ?_
   first|refine k_q 28 ?_|refine rG 28 (Calm.bin rfl rfl b_neq) ?_
   first|refine k_t rfl rfl ?_|refine k_f rfl rfl ?_
   refine k_n ?_
   refine k_u [(0,_),(1,_),(2,_),(22,_),(3,_),(39,_)] ?_
   refine k_F rfl ?_
   refine k_k (k_a (k_e rfl ?_))
   refine AWP.ret ?_
   refine ⟨_,S,⟨_,_,rfl,rfl,rfl⟩,less_,?_⟩
   exact ⟨rfl,rfl⟩
  ·have e1:((s.size:Int)-1).toNat=N.toNat / 8:=by omega
   refine ACall.enter (rs:=[.tmp 2]) 40 [(0,.agg #[.string s,.int .i64 N])] Tryz.func57 rfl rfl (Nat.le_of_ble_eq_true rfl) rfl ⟨rfl,trivial⟩ ?_
   refine k_a ?_
   refine ARun.boxA (cs:=[_,_]) (lit_lt rfl) rfl ?_
   intro b1 f1
   have g1:=f1
   repeat ((with_reducible replace g1:=fresh_set g1);obtain ⟨g1,_⟩:=g1)
   try simp only [k_l1,k_l0,k_za,Nat.reduceAdd]
   refine k_e rfl (AWP.seq (k_a ?_))
   refine rC (Calm.fieldAddr ty_field_29_1 rfl) ?_
   refine rC (ld_ ty_plain_3 rfl) ?_
   refine rC (Calm.bin rfl rfl b_lss) ?_
   refine k_m rfl ?_
   first|refine k_q 7 ?_|refine rG 7 (Calm.fieldAddr ty_field_29_1 rfl) ?_
   first|refine k_q 7 ?_|refine rG 7 (ld_ ty_plain_3 rfl) ?_
   first|refine k_q 7 ?_|refine rG 7 (Calm.bin rfl rfl b_gtr) ?_
   first|refine k_t rfl rfl ?_|refine k_f rfl rfl ?_
   refine k_m rfl ?_
   first|refine k_q 12 ?_|refine rG 12 (Calm.fieldAddr ty_field_29_0 rfl) ?_
   first|refine k_q 12 ?_|refine rG 12 (ld_ ty_plain_9 rfl) ?_
   first|refine k_q 12 ?_|refine rG 12 (Calm.lenStr (strT_spec ty_str_9) rfl) ?_
   first|refine k_q 12 ?_|refine rG 12 (Calm.fieldAddr ty_field_29_1 rfl) ?_
   first|refine k_q 12 ?_|refine rG 12 (ld_ ty_plain_3 rfl) ?_
   first|refine k_q 12 ?_|refine rG 12 (Calm.bin rfl rfl b_add_i64) ?_
   first|refine k_q 12 ?_|refine rG 12 (Calm.bin rfl rfl b_sub_i64) ?_
   first|refine k_q 12 ?_|refine rG 12 (Calm.bin rfl rfl b_quo_i64) ?_
   first|refine k_q 12 ?_|refine rG 12 (Calm.bin rfl rfl b_neq) ?_
   first|refine k_t rfl rfl ?_|refine k_f rfl rfl ?_
   refine k_n ?_
   refine k_u [(0,_),(1,_),(2,_),(22,_)] ?_
   refine k_F rfl ?_
   rw [← e1] at hR
   refine k_k (AWP.seq (k_a ?_))
   refine rC (Calm.fieldAddr ty_field_29_1 rfl) ?_
   refine rC (ld_ ty_plain_3 rfl) ?_
   refine rC (Calm.bin rfl rfl b_rem) ?_
   refine k_e rfl ?_
   refine k_u [(0,_),(1,_),(2,_),(22,_),(3,_)] ?_
   refine k_a (k_m rfl ?_)
   refine rC (Calm.bin rfl rfl b_gtr) ?_
   refine k_m rfl ?_
   first|refine k_q 28 ?_|refine rG 28 (Calm.fieldAddr ty_field_29_0 rfl) ?_
   first|refine k_q 28 ?_|refine rG 28 (ld_ ty_plain_9 rfl) ?_
   first|refine k_q 28 ?_|refine rG 28 (Calm.fieldAddr ty_field_29_0 rfl) ?_
   first|refine k_q 28 ?_|refine rG 28 (ld_ ty_plain_9 rfl) ?_
   first|refine k_q 28 ?_|refine rG 28 (Calm.lenStr (strT_spec ty_str_9) rfl) ?_
   first|refine k_q 28 ?_|refine rG 28 (Calm.bin rfl rfl b_sub_i64) ?_
   first|refine k_q 28 ?_|refine rG 28 ((by first | exact Calm.indexStrN (strT_spec ty_str_9) rfl rfl (by omega) | exact Calm.indexStr (strT_spec ty_str_9) rfl rfl (by omega) (by omega))) ?_
   first|refine k_q 28 ?_|refine rG 28 (Calm.move rfl) ?_
   first|refine k_q 28 ?_|refine rG 28 (Calm.bin rfl rfl b_shl) ?_
   first|refine k_q 28 ?_|refine rG 28 (Calm.bin rfl rfl b_neq) ?_
   first|refine k_t rfl rfl ?_|refine k_f rfl rfl ?_
   refine k_n ?_
   refine k_u [(0,_),(1,_),(2,_),(22,_),(3,_),(39,_)] ?_
   refine AWP.condB rfl (fun hc=>?_) (fun hc=>?_)
   ·refine k_a (k_e rfl ?_)
    refine k_r ?_
    refine ⟨_,S,⟨_,_,rfl,rfl,rfl⟩,less_,?_⟩
    exact ⟨by rw [chk_no (fun h=>by rcases hR.1 h with h | h;exact h4 h;exact bnot_t hc h)];rfl,rfl⟩
   ·refine k_k (k_a (k_e rfl ?_))
    refine AWP.ret ?_
    refine ⟨_,S,⟨_,_,rfl,rfl,rfl⟩,less_,?_⟩
    exact ⟨by rw [chk_yes (hR.2 (.inr (bnot_f hc)))];rfl,rfl⟩
 ·rw [chk_no (fun h=>h3 (by have:=h.2.2.1;omega))]
  refine ACall.enter (rs:=[.tmp 2]) 40 [(0,.agg #[.string s,.int .i64 N])] Tryz.func57 rfl rfl (Nat.le_of_ble_eq_true rfl) rfl ⟨rfl,trivial⟩ ?_
  refine k_a ?_
  refine ARun.boxA (cs:=[_,_]) (lit_lt rfl) rfl ?_
  intro b1 f1
  have g1:=f1
  repeat ((with_reducible replace g1:=fresh_set g1);obtain ⟨g1,_⟩:=g1)
  try simp only [k_l1,k_l0,k_za,Nat.reduceAdd]
  refine k_e rfl (AWP.seq (k_a ?_))
  refine rC (Calm.fieldAddr ty_field_29_1 rfl) ?_
  refine rC (ld_ ty_plain_3 rfl) ?_
  refine rC (Calm.bin rfl rfl b_lss) ?_
  refine k_m rfl ?_
  first|refine k_q 7 ?_|refine rG 7 (Calm.fieldAddr ty_field_29_1 rfl) ?_
  first|refine k_q 7 ?_|refine rG 7 (ld_ ty_plain_3 rfl) ?_
  first|refine k_q 7 ?_|refine rG 7 (Calm.bin rfl rfl b_gtr) ?_
  first|refine k_t rfl rfl ?_|refine k_f rfl rfl ?_
  refine k_m rfl ?_
  first|refine k_q 12 ?_|refine rG 12 (Calm.fieldAddr ty_field_29_0 rfl) ?_
  first|refine k_q 12 ?_|refine rG 12 (ld_ ty_plain_9 rfl) ?_
  first|refine k_q 12 ?_|refine rG 12 (Calm.lenStr (strT_spec ty_str_9) rfl) ?_
  first|refine k_q 12 ?_|refine rG 12 (Calm.fieldAddr ty_field_29_1 rfl) ?_
  first|refine k_q 12 ?_|refine rG 12 (ld_ ty_plain_3 rfl) ?_
  first|refine k_q 12 ?_|refine rG 12 (Calm.bin rfl rfl b_add_i64) ?_
  first|refine k_q 12 ?_|refine rG 12 (Calm.bin rfl rfl b_sub_i64) ?_
  first|refine k_q 12 ?_|refine rG 12 (Calm.bin rfl rfl b_quo_i64) ?_
  first|refine k_q 12 ?_|refine rG 12 (Calm.bin rfl rfl b_neq) ?_
  first|refine k_t rfl rfl ?_|refine k_f rfl rfl ?_
  refine k_n ?_
  refine k_u [(0,_),(1,_),(2,_),(22,_)] ?_
  refine k_T rfl ?_
  refine k_a (k_e rfl ?_)
  refine k_r ?_
  refine ⟨_,S,⟨_,_,rfl,rfl,rfl⟩,less_,?_⟩
  exact ⟨rfl,rfl⟩
end Go.Proofs.YtgidjbpgkeemiaaGreat
namespace Go.Proofs.YtgidjbpgkeemiaaGreat
open Go.RowKit
open Bits Mv
set_option maxRecDepth 20000
namespace Bits
theorem size_list (s : ByteArray) : s.size = s.data.toList.length := (Array.length_toList (xs := s.data)).symm
end Bits
end Go.Proofs.YtgidjbpgkeemiaaGreat
namespace Go.Proofs.YtgidjbpgkeemiaaGreat
open Go.RowKit
open Bits Mv
set_option maxRecDepth 20000
namespace Bits
/-! ### A bit that is turned -/
theorem tb (x i : Nat) : (x / 2 ^ i % 2 == 1) = x.testBit i := by
 rw [Nat.testBit_eq_decide_div_mod_eq,Bool.eq_iff_iff];simp
/-! ### Ones -/
theorem ones_byte (c : UInt8) : (Lib.onesCount c.toNat) = (numB c.toNat 8).count true := by
 have:∀ j:Fin 256,Lib.onesCount j.val=(numB j.val 8).count true:=by decide +kernel
 exact this ⟨c.toNat,c.toNat_lt⟩
theorem upto_eight (B : List UInt8) (k : Nat) : upto B (8 * (k + 1)) = upto B (8 * k) ++ numB (at8 B k).toNat 8 := by
 rw [← slc_upto,← slc_upto,show 8*(k+1)=8*k+8 from by omega,slc_add,Nat.zero_add,slc_byte B (8*k) 8 (by omega)]
 rw [show 8*k / 8=k from by omega,show 8-8*k % 8-8=0 from by omega,Nat.pow_zero,Nat.div_one]
end Bits
end Go.Proofs.YtgidjbpgkeemiaaGreat
namespace Go.Proofs.YtgidjbpgkeemiaaGreat
open Go.RowKit
open Bits Mv
set_option maxRecDepth 20000
namespace Bits
def bl (L : List Bool) : List Value := L.map fun b => .bool b
end Bits
end Go.Proofs.YtgidjbpgkeemiaaGreat
namespace Go.Proofs.YtgidjbpgkeemiaaGreat
open Go.RowKit
open Bits Mv
set_option maxRecDepth 20000
namespace Bits
/-- A slice of bools that is known. -/
def IsBl (S : Mem) (a : Option Addr) (n : Nat) (L : List Bool) : Prop :=
  L.length = n ∧ n ≤ 1048640 ∧ (n = 0 ∨ ∃ b off, a = some ⟨b, off, none⟩ ∧ ∀ i, i < n → S.Knows ⟨b, off + i, none⟩ [.bool (L.getD i false)])
theorem IsBl.less {S S' : Mem} {a : Option Addr} {n : Nat} {L : List Bool} (h : IsBl S' a n L) (hl : S'.Less S) : IsBl S a n L :=
 ⟨h.1,h.2.1,h.2.2.imp id fun ⟨b,off,e,hr⟩=>⟨b,off,e,fun i hi=>(hr i hi).less hl⟩⟩
end Bits
end Go.Proofs.YtgidjbpgkeemiaaGreat
namespace Go.Proofs.YtgidjbpgkeemiaaGreat
open Bits
namespace Sel
/-- How many of the first n bits are 1. -/
def cnt (B : List UInt8) (n : Nat) : Nat := (upto B n).count true
theorem upto_snoc (B : List UInt8) (n : Nat) : upto B (n + 1) = upto B n ++ [isBit B n] := by simp [upto, List.range_succ]
theorem cnt_succ (B : List UInt8) (n : Nat) : cnt B (n + 1) = cnt B n + (if isBit B n = true then 1 else 0) := by
 unfold cnt;rw [upto_snoc,List.count_append];cases isBit B n <;> simp
theorem cnt_le (B : List UInt8) (n : Nat) : cnt B n ≤ n := by
 have:=List.count_le_length (a:=true) (l:=upto B n)
 rw [upto_length] at this;exact this
theorem cnt_mono (B : List UInt8) {a b : Nat} (h : a ≤ b) : cnt B a ≤ cnt B b := by
 induction b with
 | zero =>
  have:a=0:=by omega
  subst this;exact Nat.le_refl _
 | succ b ih =>
  by_cases e:a=b+1
  ·rw [e];exact Nat.le_refl _
  ·have:=ih (by omega);rw [cnt_succ];omega
theorem cnt_step (B : List UInt8) {a b : Nat} (h : a ≤ b) : cnt B b ≤ cnt B a + (b - a) := by
 induction b with
 | zero =>
  have:a=0:=by omega
  subst this;simp
 | succ b ih =>
  by_cases e:a=b+1
  ·rw [← e];omega
  ·have:=ih (by omega);rw [cnt_succ];split <;> omega
/-- Rows of counts: ahead of each 32nd place. -/
def rows (B : List UInt8) (N : Nat) : List Int := (List.range (N / 32 + 1)).map fun j => (cnt B (32 * j) : Int)
theorem rows_length (B : List UInt8) (N : Nat) : (rows B N).length = N / 32 + 1 := by simp [rows]
theorem rows_get (B : List UInt8) (N j : Nat) (h : j < (rows B N).length) : (rows B N)[j] = (cnt B (32 * j) : Int) := by simp [rows]
def pre (B : List UInt8) (j : Nat) : List Int := (List.range j).map fun j => (cnt B (32 * j) : Int)
theorem pre_succ (B : List UInt8) (j : Nat) : pre B (j + 1) = pre B j ++ [(cnt B (32 * j) : Int)] := by simp [pre, List.range_succ]
theorem pre_length (B : List UInt8) (j : Nat) : (pre B j).length = j := by simp [pre]
theorem pre_all (B : List UInt8) (N : Nat) : pre B (N / 32 + 1) = rows B N := rfl
theorem slc_part (B : List UInt8) (k r : Nat) (hr : r ≤ 8) : slc B (8 * k) r = numB ((at8 B k).toNat / 2 ^ (8 - r)) r := by
 have:=slc_byte B (8*k) r (by omega)
 rw [this]
 have e1:8*k / 8=k:=by omega
 have e2:8-8*k % 8-r=8-r:=by omega
 rw [e1,e2]
theorem upto_add (B : List UInt8) (a b : Nat) : upto B (a + b) = upto B a ++ slc B a b := by
 have:=slc_add B 0 a b
 rw [slc_upto,slc_upto,Nat.zero_add] at this;exact this
theorem cnt_part (B : List UInt8) (k r : Nat) (hr : r ≤ 8) : cnt B (8 * k + r) = cnt B (8 * k) + (numB ((at8 B k).toNat / 2 ^ (8 - r)) r).count true := by
 unfold cnt;rw [upto_add,List.count_append,slc_part B k r hr]
theorem numB_pad (v r : Nat) (hr : r ≤ 8) (hv : v < 2 ^ r) : (numB v 8).count true = (numB v r).count true := by
 obtain ⟨q,hq⟩ : ∃ q,8=q+r:=⟨8-r,by omega⟩
 rw [hq,numB_split,List.count_append]
 have:v / 2 ^ r=0:=Nat.div_eq_of_lt hv
 rw [this]
 have hz:(numB 0 q).count true=0:=by
  rw [List.count_eq_zero];intro h;obtain ⟨j,_,hj⟩:=List.mem_map.1 h;simp at hj
 omega
end Sel
end Go.Proofs.YtgidjbpgkeemiaaGreat
namespace Go.Proofs.YtgidjbpgkeemiaaGreat
open Go.RowKit
open Mv Num
set_option maxRecDepth 4000
def intB (l : List Int) (c : Nat) : Blk := ⟨3, l.map (fun x => Value.int .i64 x), c⟩
theorem sl_intB {S : Mem} {q : Nat} {l : List Int} {c len : Nat} (h : S.own q = some (intB l c)) (hl : l.length = len) (hc : len ≤ c) (hm : len ≤ 9223372036854775807) : Sl 1 i64s S (.slice (some ⟨q, 0, none⟩) len c) l :=
 Sl.own1 (g:=fun x:Int=>Value.int .i64 x) h List.prefix_rfl hl hc hm
set_option maxHeartbeats 1000000 in
theorem losV_EqualI (a b : List Int) (va vb : Value) (S : Mem) (ha : Sl 1 i64s S va a) (hb : Sl 1 i64s S vb b) :
  ACall Tryz.prog 47 #[va,vb] S fun r S'=>r = .bool (decide (a=b))∧S'=S:=by
 obtain ⟨pa,ca,rfl,ha1,ha2,ha3⟩:=ha
 obtain ⟨pb,cb,rfl,hb1,hb2,hb3⟩:=hb
 by_cases hlen:a.length=b.length
 ·have hlen0:=hlen
  refine ACall.enter (rs:=[.tmp 4]) 26 [(0,.slice pa a.length ca),(1,.slice pb b.length cb)] Tryz.func47 rfl rfl (Nat.le_of_ble_eq_true rfl) rfl ⟨rfl,rfl,trivial⟩ ?_
  refine k_a (k_e rfl (AWP.seq (k_a (k_m rfl ?_))))
  refine rC (Calm.lenSl Tryz.underlying26 rfl) ?_
  refine k_m rfl ?_
  refine rC (Calm.lenSl Tryz.underlying26 rfl) ?_
  refine rC (Calm.bin rfl rfl b_neq) ?_
  refine k_n ?_
  refine k_u [(0,_),(1,_),(4,_),(10,_)] ?_
  refine k_F rfl ?_
  refine k_k (AWP.seq (k_a (k_m rfl ?_)))
  refine rC (Calm.lenSl Tryz.underlying26 rfl) ?_
  refine k_m rfl (k_n ?_)
  refine k_u [(0,_),(1,_),(4,_),(10,_),(12,_),(13,_)] ?_
  refine AWP.block ?_
  refine AWP.loop (X:=Nat) (fun x=>[(0,.slice pa a.length ca),(1,.slice pb b.length cb),(12,.int .i64 a.length),(13,.int .i64 x)]) (fun x=>S) (fun x=>x≤a.length ∧ ∀ j (hj:j<a.length) (hj2:j<b.length),j<x→a[j]=b[j]) (fun x=>a.length-x) (0) ⟨rfl,rfl,rfl,rfl,trivial⟩ (Mem.Less.refl _) (⟨Nat.zero_le _,fun _ _ _ h=>absurd h (Nat.not_lt_zero _)⟩) ?_
  rintro i ⟨hi1,hq⟩
  (try dsimp only at *)
  refine k_a ?_
  refine rC (Calm.bin rfl rfl b_lss) ?_
  refine k_n (AWP.seq ?_)
  refine AWP.condB rfl (fun hl=>?_) (fun hl=>?_)
  ·have hl:i<a.length:=by have:=of_decide_eq_true hl;omega
   have hlb:i<b.length:=by omega
   obtain ⟨b0,off,rfl,hkn⟩:=ha3.resolve_left (by intro h;rw [h] at hl;exact absurd hl (Nat.not_lt_zero _))
   obtain ⟨b1,off1,rfl,hkn1⟩:=hb3.resolve_left (by intro h;rw [h] at hlb;exact absurd hlb (Nat.not_lt_zero _))
   have hkk:=hkn i hl
   have hkk1:=hkn1 i hlb
   by_cases c1:a[i]=b[i]
   ·refine k_k (AWP.seq ?_)
    refine AWP.block ?_
    refine k_a (k_m rfl (k_e rfl ?_))
    refine k_u [(0,_),(1,_),(12,_),(13,_),(14,_),(5,_)] ?_
    refine AWP.seq ?_
    refine AWP.draw [(0,true),(1,true),(2,true),(3,true),(4,true),(5,true),(6,true),(7,true),(8,true)] [] mixed (by kernel_rfl) ?_
    refine dP (hc:=fun _=>Calm.move rfl) (h:=?_)
    refine dP (hc:=fun _=>Calm.move rfl) (h:=?_)
    refine dP (hc:=fun _=>Calm.indexS Tryz.underlying26 ty_size_3 rfl rfl (by omega) (by omega)) (h:=?_)
    refine dC (hc:=ld_ ty_plain_3 rfl) (h:=?_)
    refine dP (hc:=fun _=>Calm.move rfl) (h:=?_)
    refine dP (hc:=fun _=>Calm.move rfl) (h:=?_)
    refine dP (hc:=fun _=>Calm.indexS Tryz.underlying26 ty_size_3 rfl rfl (by omega) (by omega)) (h:=?_)
    refine dC (hc:=ld_ ty_plain_3 rfl) (h:=?_)
    refine dP (hc:=fun _=>Calm.bin rfl rfl b_neq) (h:=?_)
    refine draw_nil ?_
    refine athen_n ?_
    refine k_u [(0,_),(1,_),(12,_),(13,_),(14,_),(5,_),(24,_)] ?_
    refine k_F rfl ?_
    refine AWP.skip ?_
    refine ain_n ?_
    refine athen_n ?_
    refine AWP.region ?_
    refine rC (Calm.bin rfl rfl b_add_i64) ?_
    refine k_m rfl (k_n ?_)
    refine ⟨i+1,?_,?_,?_,?_⟩
    all_goals (try dsimp only)
    ·exact ⟨rfl,rfl,rfl,rfl,trivial⟩
    ·exact Mem.Less.refl _
    ·exact ⟨hl,fun j hj hj2 hji=>by rcases Nat.lt_or_ge j i with h | h;exact hq j hj hj2 h;obtain rfl:j=i:=(by omega);exact c1⟩
    ·omega
   ·refine k_k (AWP.seq ?_)
    refine AWP.block ?_
    refine k_a (k_m rfl (k_e rfl ?_))
    refine k_u [(0,_),(1,_),(12,_),(13,_),(14,_),(5,_)] ?_
    refine AWP.seq ?_
    refine AWP.draw [(0,true),(1,true),(2,true),(3,true),(4,true),(5,true),(6,true),(7,true),(8,true)] [] mixed (by kernel_rfl) ?_
    refine dP (hc:=fun _=>Calm.move rfl) (h:=?_)
    refine dP (hc:=fun _=>Calm.move rfl) (h:=?_)
    refine dP (hc:=fun _=>Calm.indexS Tryz.underlying26 ty_size_3 rfl rfl (by omega) (by omega)) (h:=?_)
    refine dC (hc:=ld_ ty_plain_3 rfl) (h:=?_)
    refine dP (hc:=fun _=>Calm.move rfl) (h:=?_)
    refine dP (hc:=fun _=>Calm.move rfl) (h:=?_)
    refine dP (hc:=fun _=>Calm.indexS Tryz.underlying26 ty_size_3 rfl rfl (by omega) (by omega)) (h:=?_)
    refine dC (hc:=ld_ ty_plain_3 rfl) (h:=?_)
    refine dP (hc:=fun _=>Calm.bin rfl rfl b_neq) (h:=?_)
    refine draw_nil ?_
    refine athen_n ?_
    refine k_u [(0,_),(1,_),(12,_),(13,_),(14,_),(5,_),(24,_)] ?_
    refine k_T rfl ?_
    refine k_a (k_e rfl ?_)
    refine AWP.ret ?_
    refine ain_ret ?_
    refine athen_ret ?_
    refine athen_ret ?_
    refine ain_ret ?_
    refine athen_ret ?_
    refine ⟨_,S,⟨_,_,rfl,rfl,rfl⟩,less_,?_⟩
    exact ⟨by rw [decide_eq_false (fun e=>c1 (by subst e;rfl))];rfl,rfl⟩
  ·have hl:i=a.length:=by have:=of_decide_eq_false hl;omega
   refine AWP.exit ?_
   refine athen_exit ?_
   refine athen_exit ?_
   refine ain_same ?_
   refine athen_n ?_
   refine k_a (k_e rfl ?_)
   refine AWP.ret ?_
   refine ⟨_,S,⟨_,_,rfl,rfl,rfl⟩,less_,?_⟩
   exact ⟨by rw [decide_eq_true (List.ext_getElem hlen fun j h1 h2=>hq j h1 h2 (by omega))];rfl,rfl⟩
 ·have hlen0:=hlen
  refine ACall.enter (rs:=[.tmp 4]) 26 [(0,.slice pa a.length ca),(1,.slice pb b.length cb)] Tryz.func47 rfl rfl (Nat.le_of_ble_eq_true rfl) rfl ⟨rfl,rfl,trivial⟩ ?_
  refine k_a (k_e rfl (AWP.seq (k_a (k_m rfl ?_))))
  refine rC (Calm.lenSl Tryz.underlying26 rfl) ?_
  refine k_m rfl ?_
  refine rC (Calm.lenSl Tryz.underlying26 rfl) ?_
  refine rC (Calm.bin rfl rfl b_neq) ?_
  refine k_n ?_
  refine k_u [(0,_),(1,_),(4,_),(10,_)] ?_
  refine k_T rfl ?_
  refine k_a (k_e rfl ?_)
  refine k_r ?_
  refine ⟨_,S,⟨_,_,rfl,rfl,rfl⟩,less_,?_⟩
  exact ⟨by rw [decide_eq_false (fun e=>hlen (by rw [e]))];rfl,rfl⟩
end Go.Proofs.YtgidjbpgkeemiaaGreat
namespace Go.Proofs.YtgidjbpgkeemiaaGreat
open Go.RowKit
open Mv Bits Sel
set_option maxRecDepth 20000
theorem ones_part (c : UInt8) (r : Nat) (hr : r ≤ 8) : Lib.onesCount (c.toNat / 2 ^ (8 - r)) = (numB (c.toNat / 2 ^ (8 - r)) r).count true := by
 have hc:=c.toNat_lt
 have hv:c.toNat / 2 ^ (8-r)<2 ^ r:=by
  rw [Nat.div_lt_iff_lt_mul (Nat.pow_pos (by decide)),← Nat.pow_add,show r+(8-r)=8 from by omega];omega
 have hv8:c.toNat / 2 ^ (8-r)<256:=Nat.lt_of_le_of_lt (Nat.div_le_self _ _) (by omega)
 rw [← numB_pad _ r hr hv]
 have:=ones_byte (UInt8.ofNat (c.toNat / 2 ^ (8-r)))
 rwa [UInt8.toNat_ofNat_of_lt' hv8] at this
theorem cnt_eight (B : List UInt8) (k : Nat) : cnt B (8 * (k + 1)) = cnt B (8 * k) + Lib.onesCount (at8 B k).toNat := by
 unfold cnt;rw [upto_eight,List.count_append,ones_byte]
theorem nb_shift (B : List UInt8) (b : Nat) : 0 ≤ nb (at8 B ((b : Int) / 8).toNat) / 2 ^ (8 - (b : Int) % 8).toNat ∧ nb (at8 B ((b : Int) / 8).toNat) / 2 ^ (8 - (b : Int) % 8).toNat ≤ 255 ∧ (nb (at8 B ((b : Int) / 8).toNat) / 2 ^ (8 - (b : Int) % 8).toNat).toNat = (at8 B (b / 8)).toNat / 2 ^ (8 - b % 8) := by
 have e1:((b:Int) / 8).toNat=b / 8:=by omega
 have e2:(8-(b:Int) % 8).toNat=8-b % 8:=by omega
 rw [e1,e2]
 have e3:nb (at8 B (b / 8)) / 2 ^ (8-b % 8)=(((at8 B (b / 8)).toNat / 2 ^ (8-b % 8):Nat):Int):=by rw [nb_byte];simp
 have h1:(at8 B (b / 8)).toNat / 2 ^ (8-b % 8)≤(at8 B (b / 8)).toNat:=Nat.div_le_self _ _
 have h2:=(at8 B (b / 8)).toNat_lt
 rw [e3]
 exact ⟨Int.natCast_nonneg _,by omega,Int.toNat_natCast _⟩
set_option maxHeartbeats 1000000 in
theorem selV_ones (s : ByteArray) (a b : Nat) (S : Mem) (hs : s.size ≤ 281474976710656) (ha : a % 8 = 0) (hab : a ≤ b) (hb : b ≤ 8 * s.size) :
  ACall Tryz.prog 61 #[.string s,.int .i64 a,.int .i64 b] S fun r S'=>r = .int .i64 (cnt s.data.toList b-cnt s.data.toList a:Nat)∧S'=S:=by
 have hcb:=Sel.cnt_le s.data.toList b
 have hca:=cnt_mono s.data.toList hab
 refine ACall.enter (rs:=[.tmp 6]) 39 [(0,.string s),(1,.int .i64 (a:Int)),(2,.int .i64 (b:Int))] Tryz.func61 rfl rfl (Nat.le_of_ble_eq_true rfl) rfl ⟨rfl,rfl,rfl,trivial⟩ ?_
 refine k_a (k_e rfl (k_a (k_e rfl (AWP.seq ?_))))
 refine k_a (k_m rfl ?_)
 refine rC (Calm.bin rfl rfl b_quo_i64) ?_
 refine k_e rfl ?_
 refine k_u [(0,_),(1,_),(2,_),(6,_),(7,_),(8,_)] ?_
 refine AWP.block ?_
 refine AWP.loop (X:=Nat) (fun x=>[(0,.string s),(2,.int .i64 b),(7,.int .i64 (cnt s.data.toList (8*x)-cnt s.data.toList a:Nat)),(8,.int .i64 x)]) (fun x=>S) (fun x=>a / 8≤x∧x≤b / 8) (fun x=>b / 8-x) (a / 8) ⟨rfl,rfl,some_int (by rw [show 8*(a / 8)=a from by omega];omega),some_int (by omega),trivial⟩ (Mem.Less.refl _) (⟨Nat.le_refl _,by omega⟩) ?_
 rintro k ⟨hk0,hk1⟩
 (try dsimp only at *)
 have hm1:=cnt_mono s.data.toList (a:=a) (b:=8*k) (by omega)
 have hm2:=Sel.cnt_le s.data.toList (8*k)
 by_cases hl:k<b / 8
 ·refine AWP.seq (k_a (k_m rfl (k_m rfl ?_)))
  refine rC (Calm.bin rfl rfl b_quo_i64) ?_
  refine rC (Calm.bin rfl rfl b_lss) ?_
  refine k_n ?_
  refine k_u [(0,_),(2,_),(7,_),(8,_),(15,_)] ?_
  refine k_T rfl ?_
  have h8:=cnt_eight s.data.toList k
  have hm3:=Sel.cnt_le s.data.toList (8*(k+1))
  refine k_k (AWP.seq ?_)
  refine AWP.block ?_
  refine AWP.region ?_
  refine k_m rfl (k_m rfl (k_m rfl ?_))
  refine rC ((by first | exact Calm.indexStrN (strT_spec ty_str_9) rfl rfl (by omega) | exact Calm.indexStr (strT_spec ty_str_9) rfl rfl (by omega) (by omega))) ?_
  refine ARun.call (lit_lt rfl) go_85 rfl (bits_Ones8 _ _ (nb_nonneg _) (nb_le _)) ?_
  rintro _ S1 ⟨rfl,h1⟩
  rw [h1];clear h1 S1
  have e3:(nb (at8 s.data.toList k)).toNat=(at8 s.data.toList k).toNat:=by unfold nb;omega
  rw [e3]
  refine rC (Calm.bin rfl rfl b_add_i64) ?_
  refine k_s rfl ?_
  refine arun_nil ?_
  refine ain_n ?_
  refine athen_n ?_
  refine k_u [(0,_),(2,_),(7,_),(8,_),(15,_)] ?_
  refine AWP.region ?_
  refine k_m rfl ?_
  refine rC (Calm.bin rfl rfl b_add_i64) ?_
  refine k_e rfl ?_
  refine ⟨k+1,?_,?_,?_,?_⟩
  all_goals (try dsimp only)
  ·exact ⟨rfl,rfl,some_int (by omega),some_int (by omega),trivial⟩
  ·exact Mem.Less.refl _
  ·exact ⟨by omega,hl⟩
  ·omega
 ·refine AWP.seq (k_a (k_m rfl (k_m rfl ?_)))
  refine rC (Calm.bin rfl rfl b_quo_i64) ?_
  refine rC (Calm.bin rfl rfl b_lss) ?_
  refine k_n ?_
  refine k_u [(0,_),(2,_),(7,_),(8,_),(15,_)] ?_
  refine k_F rfl ?_
  obtain rfl:k=b / 8:=by omega
  by_cases hr:0<b % 8
  ·refine AWP.exit ?_
   refine athen_exit ?_
   refine athen_exit ?_
   refine ain_same ?_
   refine athen_n ?_
   refine AWP.seq (k_a (k_m rfl ?_))
   refine rC (Calm.bin rfl rfl b_rem) ?_
   refine k_e rfl ?_
   refine k_u [(0,_),(2,_),(7,_),(8,_),(15,_),(9,_)] ?_
   refine k_a (k_m rfl ?_)
   refine rC (Calm.bin rfl rfl b_gtr) ?_
   refine k_n ?_
   refine k_u [(0,_),(2,_),(7,_),(8,_),(15,_),(9,_),(27,_)] ?_
   refine k_T rfl ?_
   have hp:=cnt_part s.data.toList (b / 8) (b % 8) (by omega)
   rw [show 8*(b / 8)+b % 8=b from by omega,← ones_part _ _ (by omega)] at hp
   obtain ⟨hx0,hx1,hx2⟩:=nb_shift s.data.toList b
   refine AWP.region ?_
   refine k_m rfl (k_m rfl (k_m rfl ?_))
   refine rC (Calm.bin rfl rfl b_quo_i64) ?_
   refine rC ((by first | exact Calm.indexStrN (strT_spec ty_str_9) rfl rfl (by omega) | exact Calm.indexStr (strT_spec ty_str_9) rfl rfl (by omega) (by omega))) ?_
   refine k_m rfl ?_
   refine rC (Calm.bin rfl rfl b_sub_i64) ?_
   refine rC (Calm.bin rfl rfl b_shr) ?_
   refine ARun.call (lit_lt rfl) go_85 rfl (bits_Ones8 _ _ hx0 hx1) ?_
   rintro _ S1 ⟨rfl,h1⟩
   rw [h1];clear h1 S1
   rw [hx2]
   refine rC (Calm.bin rfl rfl b_add_i64) ?_
   refine k_e rfl ?_
   refine k_u [(0,_),(2,_),(7,_),(8,_),(15,_),(9,_),(27,_)] ?_
   rw [show ((cnt s.data.toList (8*(b / 8))-cnt s.data.toList a:Nat):Int)+(Lib.onesCount ((at8 s.data.toList (b / 8)).toNat / 2 ^ (8-b % 8)):Int)=(cnt s.data.toList b-cnt s.data.toList a:Nat) from by omega]
   refine k_a (k_m rfl (k_e rfl ?_))
   refine k_u [(0,_),(2,_),(7,_),(8,_),(15,_),(9,_),(27,_),(6,_)] ?_
   refine AWP.ret ?_
   refine ⟨_,S,⟨_,_,rfl,rfl,rfl⟩,less_,?_⟩
   exact ⟨rfl,rfl⟩
  ·refine AWP.exit ?_
   refine athen_exit ?_
   refine athen_exit ?_
   refine ain_same ?_
   refine athen_n ?_
   refine AWP.seq (k_a (k_m rfl ?_))
   refine rC (Calm.bin rfl rfl b_rem) ?_
   refine k_e rfl ?_
   refine k_u [(0,_),(2,_),(7,_),(8,_),(15,_),(9,_)] ?_
   refine k_a (k_m rfl ?_)
   refine rC (Calm.bin rfl rfl b_gtr) ?_
   refine k_n ?_
   refine k_u [(0,_),(2,_),(7,_),(8,_),(15,_),(9,_),(27,_)] ?_
   refine k_F rfl ?_
   rw [show 8*(b / 8)=b from by omega]
   refine k_k (k_a (k_m rfl (k_e rfl ?_)))
   refine k_u [(0,_),(2,_),(7,_),(8,_),(15,_),(9,_),(27,_),(6,_)] ?_
   refine AWP.ret ?_
   refine ⟨_,S,⟨_,_,rfl,rfl,rfl⟩,less_,?_⟩
   exact ⟨rfl,rfl⟩
end Go.Proofs.YtgidjbpgkeemiaaGreat
namespace Go.Proofs.YtgidjbpgkeemiaaGreat
open Go.RowKit
open Mv Bits Sel
set_option maxRecDepth 20000
theorem selV_onesI (s : ByteArray) (x y : Int) (a b : Nat) (S : Mem) (hx : x = a) (hy : y = b) (hs : s.size ≤ 281474976710656) (ha : a % 8 = 0) (hab : a ≤ b) (hb : b ≤ 8 * s.size) :
  ACall Tryz.prog 61 #[.string s,.int .i64 x,.int .i64 y] S fun r S'=>r = .int .i64 (cnt s.data.toList b-cnt s.data.toList a:Nat)∧S'=S:=by
 subst hx hy;exact selV_ones s a b S hs ha hab hb
/-- Rows of counts in a block of their own. -/
def RowsR (s : ByteArray) (N : Nat) (S : Mem) (r : Value) (S' : Mem) : Prop := ∃ b c, Fresh S b ∧ (rows s.data.toList N).length ≤ c ∧ r = .slice (some ⟨b, 0, none⟩) (rows s.data.toList N).length c ∧ S' = S.set b (intB (rows s.data.toList N) c)
set_option maxHeartbeats 1000000 in
theorem selV_counts (s : ByteArray) (N : Nat) (S : Mem) (hs : s.size ≤ 281474976710656) (hN : N ≤ 1048576) (hb : N ≤ 8 * s.size) :
  ACall Tryz.prog 58 #[.agg #[.string s,.int .i64 N]] S (RowsR s N S):=by
 refine ACall.enter (rs:=[.tmp 2]) 29 [(0,.agg #[.string s,.int .i64 (N:Int)])] Tryz.func58 rfl rfl (Nat.le_of_ble_eq_true rfl) rfl ⟨rfl,trivial⟩ ?_
 refine k_a ?_
 refine ARun.boxA (cs:=[_,_]) (lit_lt rfl) rfl ?_
 intro b1 f1
 have g1:=f1
 repeat ((with_reducible replace g1:=fresh_set g1);obtain ⟨g1,_⟩:=g1)
 try simp only [k_l1,k_l0,k_za,Nat.reduceAdd]
 refine k_e rfl (k_a ?_)
 refine ARun.build1s (lit_lt rfl) ty_sl_26 rfl rfl ?_
 intro b5 f5
 have g5:=f5
 repeat ((with_reducible replace g5:=fresh_set g5);obtain ⟨g5,_⟩:=g5)
 refine k_e rfl ?_
 refine k_u [(0,_),(1,_),(2,_),(3,_)] ?_
 refine AWP.seq (k_a (k_e rfl ?_))
 refine AWP.block ?_
 refine AWP.loop (X:=Nat × Nat × Nat) (fun x=>[(1,.pointer (some ⟨b1,0,none⟩)),(3,.slice (some ⟨x.2.1,0,none⟩) (x.1+1) x.2.2),(4,.int .i64 (32*(x.1+1):Nat))]) (fun x=>(S.set b1 ⟨29,[.string s,.int .i64 N],2⟩).set x.2.1 ⟨3,(pre s.data.toList (x.1+1)).map fun x=>Value.int .i64 x,x.2.2⟩) (fun x=>32*x.1≤N∧OkO (S.set b1 ⟨29,[.string s,.int .i64 N],2⟩) (some (x.2.1,x.2.2)) (x.1+1)) (fun x=>N-32*x.1) ((0,b5,1)) ⟨rfl,rfl,rfl,trivial⟩ less_ (⟨by omega,okO_own f5 (Nat.le_refl _)⟩) ?_
 rintro ⟨j,b,c⟩ ⟨hj,ho⟩
 (try dsimp only at *)
 obtain ⟨fb,hbc⟩:=ho.own b c rfl
 obtain ⟨gb,nb1⟩:=fresh_set fb
 have nb2:=Ne.symm nb1
 have hpl:((pre s.data.toList (j+1)).map fun x=>Value.int .i64 x).length=j+1:=by rw [List.length_map,pre_length]
 by_cases hl:32*(j+1)≤N
 ·refine AWP.seq (k_a (k_m rfl ?_))
  refine rC (Calm.fieldAddr ty_field_29_1 rfl) ?_
  refine rC (ld_ ty_plain_3 rfl) ?_
  refine rC (Calm.bin rfl rfl b_leq) ?_
  refine k_n ?_
  refine k_u [(1,_),(3,_),(4,_),(9,_)] ?_
  refine k_T rfl ?_
  have hc1:=Sel.cnt_le s.data.toList (32*j)
  have hc2:=Sel.cnt_le s.data.toList (32*(j+1))
  have hc3:=cnt_mono s.data.toList (a:=32*j) (b:=32*(j+1)) (by omega)
  have k1:=kn_int (S:=(S.set b1 ⟨29,[.string s,.int .i64 N],2⟩).set b ⟨3,(pre s.data.toList (j+1)).map fun x=>Value.int .i64 x,c⟩) (b:=b) (Mem.own_set_same _ _ _) j (x:=(cnt s.data.toList (32*j):Int)) (by simp [pre])
  have k2:Mem.Knows ((S.set b1 ⟨29,[.string s,.int .i64 N],2⟩).set b ⟨3,(pre s.data.toList (j+1)).map fun x=>Value.int .i64 x,c⟩) ⟨b,0+(((j+1:Nat):Int)-1).toNat*1,none⟩ [.int .i64 (cnt s.data.toList (32*j):Int)]:=by rw [show (((j+1:Nat):Int)-1).toNat=j from by omega];exact k1
  refine k_k (AWP.seq ?_)
  refine AWP.block ?_
  refine AWP.draw [(0,true),(1,true),(2,true),(3,true),(4,true),(5,true),(6,true),(7,true),(8,true),(9,true),(10,true),(11,true),(12,false),(13,true),(14,false),(15,false),(16,true)] [15] mixed (by kernel_rfl) ?_
  refine dP (hc:=fun _=>Calm.move rfl) (h:=?_)
  refine dP (hc:=fun _=>Calm.move rfl) (h:=?_)
  refine dP (hc:=fun _=>Calm.move rfl) (h:=?_)
  refine dC (hc:=Calm.lenSl Tryz.underlying26 rfl) (h:=?_)
  refine dP (hc:=fun _=>Calm.bin rfl rfl b_sub_i64) (h:=?_)
  refine dP (hc:=fun _=>Calm.indexS Tryz.underlying26 ty_size_3 rfl rfl (by omega) (by omega)) (h:=?_)
  refine dC (hc:=ld_ ty_plain_3 rfl) (h:=?_)
  refine dP (hc:=fun _=>Calm.fieldAddr ty_field_29_0 rfl) (h:=?_)
  refine dC (hc:=ld_ ty_plain_9 rfl) (h:=?_)
  refine dP (hc:=fun _=>Calm.move rfl) (h:=?_)
  refine dP (hc:=fun _=>Calm.bin rfl rfl b_sub_i64) (h:=?_)
  refine dP (hc:=fun _=>Calm.move rfl) (h:=?_)
  refine draw_only rfl ?_
  refine ARun.call (lit_lt rfl) go_61 rfl (selV_onesI s _ _ (32*j) (32*(j+1)) _ (by omega) (by omega) hs (by omega) (by omega) (by omega)) ?_
  rintro _ S1 ⟨rfl,h1⟩
  rw [h1];clear h1 S1
  refine arun_nil ⟨fun _=>less_,?_⟩
  refine dP (hc:=fun _=>Calm.bin rfl rfl b_add_i64) (h:=?_)
  refine draw_only rfl ?_
  refine ARun.build1s (lit_lt rfl) ty_sl_26 rfl rfl ?_
  intro b26 f26
  have g26:=f26
  repeat ((with_reducible replace g26:=fresh_set g26);obtain ⟨g26,_⟩:=g26)
  refine arun_nil ⟨fun _=>less_,?_⟩
  refine draw_only rfl ?_
  refine ARun.appendO (lit_lt rfl) ty_sl_26 rfl hpl (appO_of ho hpl f26) rfl (news:=[_]) rds_ rfl (by omega) (by simp [Value.oneCell']) (by omega) (by omega) ?_
  intro b27 c27 ho2
  rw [show (cnt s.data.toList (32*j):Int)+(cnt s.data.toList (32*(j+1))-cnt s.data.toList (32*j):Nat)=(cnt s.data.toList (32*(j+1)):Int) from by omega]
  refine arun_nil ⟨fun h=>absurd h (by decide),?_⟩
  refine dP (hc:=fun _=>Calm.assign rfl) (h:=?_)
  refine draw_nil ?_
  refine ain_n ?_
  refine athen_n ?_
  refine k_u [(1,_),(3,_),(4,_),(9,_)] ?_
  refine AWP.region ?_
  refine k_m rfl ?_
  refine rC (Calm.bin rfl rfl b_add_i64) ?_
  refine k_e rfl ?_
  refine ⟨(j+1,b27,c27),?_,?_,?_,?_⟩
  all_goals (try dsimp only)
  ·exact ⟨rfl,rfl,some_int (by omega),trivial⟩
  ·rw [pre_succ s.data.toList (j+1),List.map_append];exact Mem.Less.refl _
  ·exact ⟨hl,ho2⟩
  ·omega
 ·refine AWP.seq (k_a (k_m rfl ?_))
  refine rC (Calm.fieldAddr ty_field_29_1 rfl) ?_
  refine rC (ld_ ty_plain_3 rfl) ?_
  refine rC (Calm.bin rfl rfl b_leq) ?_
  refine k_n ?_
  refine k_u [(1,_),(3,_),(4,_),(9,_)] ?_
  refine k_F rfl ?_
  have ej:pre s.data.toList (j+1)=rows s.data.toList N:=by rw [← pre_all,show N / 32=j from by omega]
  have er:(rows s.data.toList N).length=j+1:=by rw [rows_length,show N / 32=j from by omega]
  rw [ej]
  refine AWP.exit ?_
  refine athen_exit ?_
  refine athen_exit ?_
  refine ain_same ?_
  refine athen_n ?_
  refine k_a (k_m rfl (k_e rfl ?_))
  refine k_u [(1,_),(3,_),(4,_),(9,_),(2,_)] ?_
  refine AWP.ret ?_
  refine ⟨_,S.set b ⟨3,(rows s.data.toList N).map fun x=>Value.int .i64 x,c⟩,⟨_,_,rfl,rfl,rfl⟩,less_,?_⟩
  exact ⟨b,c,gb,by rw [er];exact hbc,by rw [er];rfl,rfl⟩
end Go.Proofs.YtgidjbpgkeemiaaGreat
namespace Go.Proofs.YtgidjbpgkeemiaaGreat
open Go.RowKit
open Mv Bits Sel
set_option maxRecDepth 20000
namespace Sel
end Sel
theorem chk_nat {s : ByteArray} {N : Int} (h : chk s.data.toList N = 0) : ∃ n : Nat, N = n ∧ n ≤ 1048576 ∧ n ≤ 8 * s.size ∧ s.size = (n + 7) / 8 := by
 obtain ⟨hN0,hN1,hR⟩:=chk_right h
 have hs1:s.size=(N.toNat+7) / 8:=by rw [← hR.1];exact size_list s
 exact ⟨N.toNat,by omega,by omega,by omega,hs1⟩
namespace Sel
noncomputable def makeR (s : ByteArray) (N : Int) : ByteArray × Int × List Int × Int := if chk s.data.toList N = 0 then (s, N, rows s.data.toList N.toNat, 0) else (ByteArray.empty, 0, [], 2)
end Sel
/-- Rows that are made, and an error. -/
def RwR (p : ByteArray × Int × List Int × Int) (S : Mem) (r : Value) (S' : Mem) : Prop := ∃ hc, r = .tuple #[.agg #[.string p.1, .int .i64 p.2.1, hc], .int .i64 p.2.2.2] ∧ S.Less S' ∧ Sl 1 i64s S' hc p.2.2.1
set_option maxHeartbeats 1000000 in
theorem selV_Make (s : ByteArray) (N : Int) (S : Mem) (hs : s.size ≤ 281474976710656) :
  ACall Tryz.prog 39 #[.agg #[.string s,.int .i64 N]] S (RwR (makeR s N) S):=by
 unfold makeR
 by_cases hck:chk s.data.toList N=0
 ·obtain ⟨n,rfl,hn1,hn2,_⟩:=chk_nat hck
  have hrl:=rows_length s.data.toList n
  rw [if_pos hck,Int.toNat_natCast]
  refine ACall.enter (rs:=[.cell 2 31,.tmp 3]) 15 [(0,.agg #[.string s,.int .i64 (n:Int)])] Tryz.func39 rfl rfl (Nat.le_of_ble_eq_true rfl) rfl ⟨rfl,trivial⟩ ?_
  refine k_a ?_
  refine ARun.boxA (cs:=[_,_]) (lit_lt rfl) rfl ?_
  intro b1 f1
  have g1:=f1
  repeat ((with_reducible replace g1:=fresh_set g1);obtain ⟨g1,_⟩:=g1)
  try simp only [k_l1,k_l0,k_za,Nat.reduceAdd]
  refine ARun.alloc (lit_lt rfl) ty_zero_31 ?_
  intro b2 f2
  have g2:=f2
  repeat ((with_reducible replace g2:=fresh_set g2);obtain ⟨g2,_⟩:=g2)
  try simp only [k_l1,k_l0,k_za,Nat.reduceAdd]
  refine k_e rfl (AWP.seq (k_a ?_))
  refine rC (ldA_ (cs:=[_,_]) ty_agg_29 ty_size_29 rfl) ?_
  refine ARun.call (lit_lt rfl) go_57 rfl (bitsV_Check s n _ (by omega)) ?_
  rintro _ S1 ⟨rfl,h1⟩
  rw [h1,hck];clear h1 S1
  refine k_e rfl ?_
  refine k_u [(0,_),(1,_),(2,_),(3,_),(4,_)] ?_
  refine k_a (k_m rfl ?_)
  refine rC (Calm.bin rfl rfl b_neq) ?_
  refine k_n ?_
  refine k_u [(0,_),(1,_),(2,_),(3,_),(4,_),(8,_)] ?_
  refine k_F rfl ?_
  refine k_k (AWP.seq ?_)
  refine AWP.draw [(0,true),(1,true),(2,false),(3,true),(4,false),(5,true)] [4] mixed (by kernel_rfl) ?_
  refine dC (hc:=ldA_ (cs:=[_,_]) ty_agg_29 ty_size_29 rfl) (h:=?_)
  refine dC (hc:=ldA_ (cs:=[_,_]) ty_agg_29 ty_size_29 rfl) (h:=?_)
  refine draw_only rfl ?_
  refine ARun.call (lit_lt rfl) go_58 rfl (selV_counts s n _ hs hn1 hn2) ?_
  rintro _ S1 ⟨b,c,fb,hbc,rfl,h1⟩
  rw [h1];clear h1 S1;unfold intB
  obtain ⟨fb2,nb2⟩:=fresh_set fb;obtain ⟨fb1,nb1⟩:=fresh_set fb2;have nb2':=Ne.symm nb2;have nb1':=Ne.symm nb1
  refine arun_nil ⟨fun _=>less_,?_⟩
  refine dP (hc:=fun _=>Calm.build (cs:=[_,_,_]) ty_bld_31 rfl rfl) (h:=?_)
  refine draw_only rfl ?_
  first|refine k_A rfl rfl ty_size_31 ?_|refine k_B rfl rfl ty_size_31 ?_
  try simp only [k_ms,k_sz,k_ss,k_za,Nat.reduceAdd]
  refine arun_nil ⟨fun h=>absurd h (by decide),?_⟩
  refine dP (hc:=fun _=>Calm.assign rfl) (h:=?_)
  refine draw_nil ?_
  refine athen_n ?_
  refine k_u [(0,_),(1,_),(2,_),(3,_),(4,_),(8,_)] ?_
  refine AWP.ret ?_
  refine ⟨_,S.set b ⟨3,(rows s.data.toList n).map fun x=>Value.int .i64 x,c⟩,⟨_,_,_,rfl,.inr ⟨ty_agg_31,[_,_,_],ty_size_31,rds_,rfl⟩,⟨_,_,rfl,rfl,rfl⟩,rfl⟩,less_,?_⟩
  exact ⟨_,rfl,Mem.less_set _ _ _ fb1.1,sl_intB (Mem.own_set_same _ _ _) rfl hbc (by omega)⟩
 ·rw [if_neg hck]
  have hck2:=chk_two hck
  refine ACall.enter (rs:=[.cell 2 31,.tmp 3]) 15 [(0,.agg #[.string s,.int .i64 N])] Tryz.func39 rfl rfl (Nat.le_of_ble_eq_true rfl) rfl ⟨rfl,trivial⟩ ?_
  refine k_a ?_
  refine ARun.boxA (cs:=[_,_]) (lit_lt rfl) rfl ?_
  intro b1 f1
  have g1:=f1
  repeat ((with_reducible replace g1:=fresh_set g1);obtain ⟨g1,_⟩:=g1)
  try simp only [k_l1,k_l0,k_za,Nat.reduceAdd]
  refine ARun.alloc (lit_lt rfl) ty_zero_31 ?_
  intro b2 f2
  have g2:=f2
  repeat ((with_reducible replace g2:=fresh_set g2);obtain ⟨g2,_⟩:=g2)
  try simp only [k_l1,k_l0,k_za,Nat.reduceAdd]
  refine k_e rfl (AWP.seq (k_a ?_))
  refine rC (ldA_ (cs:=[_,_]) ty_agg_29 ty_size_29 rfl) ?_
  refine ARun.call (lit_lt rfl) go_57 rfl (bitsV_Check s N _ (by omega)) ?_
  rintro _ S1 ⟨rfl,h1⟩
  rw [h1,hck2];clear h1 S1
  refine k_e rfl ?_
  refine k_u [(0,_),(1,_),(2,_),(3,_),(4,_)] ?_
  refine k_a (k_m rfl ?_)
  refine rC (Calm.bin rfl rfl b_neq) ?_
  refine k_n ?_
  refine k_u [(0,_),(1,_),(2,_),(3,_),(4,_),(8,_)] ?_
  refine k_T rfl ?_
  refine k_a ?_
  refine rC (Calm.build (cs:=[_,_,_]) ty_bld_31 rfl rfl) ?_
  refine k_m rfl ?_
  first|refine k_A rfl rfl ty_size_31 ?_|refine k_B rfl rfl ty_size_31 ?_
  try simp only [k_ms,k_sz,k_ss,k_za,Nat.reduceAdd]
  refine k_e rfl ?_
  refine k_u [(0,_),(1,_),(2,_),(3,_),(4,_),(8,_)] ?_
  refine k_r ?_
  refine ⟨_,S,⟨_,_,_,rfl,.inr ⟨ty_agg_31,[_,_,_],ty_size_31,rds_,rfl⟩,⟨_,_,rfl,rfl,rfl⟩,rfl⟩,less_,?_⟩
  exact ⟨_,rfl,Mem.Less.refl _,Sl.nil _ _ _⟩
end Go.Proofs.YtgidjbpgkeemiaaGreat
namespace Go.Proofs.YtgidjbpgkeemiaaGreat
open Go.RowKit
open Mv Bits Sel
set_option maxRecDepth 20000
theorem eql_bv (a b : ByteArray) (n m : Int) (w : World) : (binOp .eql 29 (.agg #[.string a, .int .i64 n]) (.agg #[.string b, .int .i64 m])).run Tryz.prog w = .ok (.bool (decide (a = b ∧ n = m))) w := by
 have e:(decide (a=b∧n=m))=((a.toList == b.toList) && (n == m)):=by
  rw [Bool.eq_iff_iff];simp [str_inj]
 rw [e]
 go_simp
 cases h:(a.toList == b.toList) <;> cases h2:(n == m) <;> simp_all
theorem bin_eql_Bitstr {x y : Operand} (a b : ByteArray) (n m : Int) : Bin Tryz.prog .eql 29 x y (.agg #[.string a, .int .i64 n]) (.agg #[.string b, .int .i64 m]) (.bool (decide (a = b ∧ n = m))) := fun w => by
 rw [Sem.run_bind,run_eqGuard_agg w .eql 29 x y _ _ (by kernel_rfl)]
 exact eql_bv a b n m w
end Go.Proofs.YtgidjbpgkeemiaaGreat
namespace Go.Proofs.YtgidjbpgkeemiaaGreat
open Go.RowKit
open Mv Bits Sel
set_option maxRecDepth 20000
namespace Sel
noncomputable def ofP (L : List Bool) : ByteArray × Int × List Int × Int := if 65536 < L.length then (ByteArray.empty, 0, [], 1) else makeR (bs (pack L)) (L.length : Nat)
end Sel
end Go.Proofs.YtgidjbpgkeemiaaGreat
namespace Go.Proofs.YtgidjbpgkeemiaaGreat
open Go.RowKit
open Mv Bits Sel
set_option maxRecDepth 20000
theorem take_bit (L : List Bool) (i : Nat) (h : i < L.length) : L.take i ++ [L.getD i false] = L.take (i + 1) := by
 rw [List.take_add_one,List.getElem?_eq_getElem h];simp [List.getD,List.getElem?_eq_getElem h]
theorem wrM_over {S : Mem} {p : Nat} {o : Option (Nat × Nat)} {L : List Bool} (h : OkW S p o L) : S.Less (wrM S p o L) := by
 unfold wrM
 cases o with
 | none=>exact Mem.less_set _ _ _ h.fp.1
 | some qc =>
  obtain ⟨q,c⟩:=qc
  obtain ⟨h1,h2,h3⟩:=h.own q c rfl
  refine (Mem.less_set S q ⟨5,bytesV L,c⟩ h1.1).trans (Mem.less_set _ _ _ ?_)
  rw [Mem.own_set_other _ _ (Ne.symm h2)];exact h.fp.1
set_option maxHeartbeats 2000000 in
theorem selV_Of (a : Option Addr) (n cap : Nat) (L : List Bool) (S : Mem) (hL : IsBl S a n L) (hn : n ≤ 65536) :
  ACall Tryz.prog 21 #[.slice a n cap] S (RwR (ofP L) S):=by
 obtain ⟨hl1,hl2,hl3⟩:=hL
 have hps:(bs (pack L)).size≤281474976710656:=by rw [bs_size,pack_length];omega
 have hmk:=selV_Make (bs (pack L)) (L.length:Nat)
 unfold ofP
 rw [if_neg (by omega)]
 refine ACall.enter (rs:=[.cell 2 31,.tmp 3]) 30 [(0,.slice a n cap)] Tryz.func21 rfl rfl (Nat.le_of_ble_eq_true rfl) rfl ⟨rfl,trivial⟩ ?_
 refine k_a ?_
 refine ARun.alloc (lit_lt rfl) ty_zero_31 ?_
 intro b2 f2
 have g2:=f2
 repeat ((with_reducible replace g2:=fresh_set g2);obtain ⟨g2,_⟩:=g2)
 try simp only [k_l1,k_l0,k_za,Nat.reduceAdd]
 refine k_e rfl (AWP.seq (k_a (k_m rfl ?_)))
 refine rC (Calm.lenSl Tryz.underlying60 rfl) ?_
 refine rC (Calm.bin rfl rfl b_gtr) ?_
 refine k_n ?_
 refine k_u [(0,_),(2,_),(3,_),(10,_)] ?_
 refine k_F rfl ?_
 refine k_k (k_a ?_)
 refine rC (Calm.build (cs:=[_,_,_]) ty_bld_84 rfl rfl) ?_
 refine ARun.boxA (cs:=[_,_,_]) (lit_lt rfl) rfl ?_
 intro b13 f13
 have g13:=f13
 repeat ((with_reducible replace g13:=fresh_set g13);obtain ⟨g13,_⟩:=g13)
 try simp only [k_l1,k_l0,k_za,Nat.reduceAdd]
 refine k_e rfl ?_
 refine k_u [(0,_),(2,_),(3,_),(10,_),(4,_)] ?_
 rw [← wrM_nil]
 have g13':=g13.2
 refine AWP.seq (k_a (k_m rfl ?_))
 refine rC (Calm.lenSl Tryz.underlying60 rfl) ?_
 refine k_m rfl (k_n ?_)
 refine AWP.block ?_
 refine AWP.loop (X:=Nat × Option (Nat × Nat)) (fun x=>[(2,.pointer (some ⟨b2,0,none⟩)),(4,.pointer (some ⟨b13,0,none⟩)),(14,.slice a n cap),(15,.int .i64 n),(16,.int .i64 x.1)]) (fun x=>wrM (S.set b2 ⟨31,[.string ByteArray.empty,.int .i64 0,.slice none 0 0],3⟩) b13 x.2 (L.take x.1)) (fun x=>x.1≤L.length∧OkW (S.set b2 ⟨31,[.string ByteArray.empty,.int .i64 0,.slice none 0 0],3⟩) b13 x.2 (L.take x.1)) (fun x=>L.length-x.1) ((0,none)) ⟨rfl,rfl,rfl,rfl,rfl,trivial⟩ (Mem.Less.refl _) (⟨Nat.zero_le _,okW_nil f13⟩) ?_
 rintro ⟨i,o⟩ ⟨hi,hok⟩
 (try dsimp only at *)
 have hb2:(wrM (S.set b2 ⟨31,[.string ByteArray.empty,.int .i64 0,.slice none 0 0],3⟩) b13 o (L.take i)).own b2=some _:=own_wrM_ok hok (Mem.own_set_same _ _ _)
 refine k_a ?_
 refine rC (Calm.bin rfl rfl b_lss) ?_
 refine k_n (AWP.seq ?_)
 refine AWP.condB rfl (fun hl=>?_) (fun hl=>?_)
 ·have hl:i<L.length:=by have:=of_decide_eq_true hl;omega
  obtain ⟨b,off,rfl,hrow⟩:=hl3.resolve_left (by omega)
  have hki:=(hrow i (by omega)).less ((Mem.less_set S b2 ⟨31,[.string ByteArray.empty,.int .i64 0,.slice none 0 0],3⟩ f2.1).trans (wrM_over hok))
  refine k_k (AWP.seq ?_)
  refine AWP.block ?_
  refine k_a ?_
  refine rC (Calm.indexS Tryz.underlying60 ty_size_4 rfl rfl (by omega) (by omega)) ?_
  refine rC (Calm.loadK ty_plain_4 rfl (by show Mem.Knows _ ⟨b,off+((i:Int)).toNat*1,none⟩ _;rw [Int.toNat_natCast,Nat.mul_one];exact hki)) ?_
  refine k_e rfl ?_
  refine k_u [(2,_),(4,_),(14,_),(15,_),(16,_),(17,_),(6,_)] ?_
  by_cases hx:L.getD i false=true
  ·rw [hx]
   refine k_a (k_e rfl (AWP.seq (k_a (k_m rfl ?_))))
   refine k_n ?_
   refine k_T rfl ?_
   refine AWP.region ?_
   refine k_e rfl ?_
   refine AWP.region ?_
   refine k_m rfl (k_m rfl ?_)
   refine ARun.call (lit_lt rfl) go_38 rfl (bitsV_AddI b13 1 1 (L.take i) o _ (by omega) (by omega) (by omega) (by omega) (by rw [List.length_take];omega) hok) ?_
   rintro _ S1 ⟨rfl,o',hok',h1⟩
   rw [h1];clear h1 S1
   have e:L.take i ++ numB (1:Int).toNat (1:Int).toNat=L.take (i+1):=by rw [← take_bit L i hl,hx];rfl
   rw [e] at hok' ⊢
   refine arun_nil ?_
   refine ain_n ?_
   refine athen_n ?_
   refine k_u [(2,_),(4,_),(14,_),(15,_),(16,_),(17,_),(6,_),(7,_),(20,_)] ?_
   refine AWP.region ?_
   refine rC (Calm.bin rfl rfl b_add_i64) ?_
   refine k_m rfl (k_n ?_)
   refine ⟨(i+1,o'),?_,?_,?_,?_⟩
   all_goals (try dsimp only)
   ·exact ⟨rfl,rfl,rfl,rfl,some_int (by simp),trivial⟩
   ·exact Mem.Less.refl _
   ·exact ⟨hl,hok'⟩
   ·omega
  ·rw [Bool.eq_false_iff.2 hx]
   refine k_a (k_e rfl (AWP.seq (k_a (k_m rfl ?_))))
   refine k_n ?_
   refine k_F rfl ?_
   refine k_k ?_
   refine AWP.region ?_
   refine k_m rfl (k_m rfl ?_)
   refine ARun.call (lit_lt rfl) go_38 rfl (bitsV_AddI b13 0 1 (L.take i) o _ (by omega) (by omega) (by omega) (by omega) (by rw [List.length_take];omega) hok) ?_
   rintro _ S1 ⟨rfl,o',hok',h1⟩
   rw [h1];clear h1 S1
   have e:L.take i ++ numB (0:Int).toNat (1:Int).toNat=L.take (i+1):=by rw [← take_bit L i hl,Bool.eq_false_iff.2 hx];rfl
   rw [e] at hok' ⊢
   refine arun_nil ?_
   refine ain_n ?_
   refine athen_n ?_
   refine k_u [(2,_),(4,_),(14,_),(15,_),(16,_),(17,_),(6,_),(7,_),(20,_)] ?_
   refine AWP.region ?_
   refine rC (Calm.bin rfl rfl b_add_i64) ?_
   refine k_m rfl (k_n ?_)
   refine ⟨(i+1,o'),?_,?_,?_,?_⟩
   all_goals (try dsimp only)
   ·exact ⟨rfl,rfl,rfl,rfl,some_int (by simp),trivial⟩
   ·exact Mem.Less.refl _
   ·exact ⟨hl,hok'⟩
   ·omega
 ·have hl:i=L.length:=by have:=of_decide_eq_false hl;omega
  subst hl
  rw [List.take_length] at hok ⊢
  refine AWP.exit ?_
  refine athen_exit ?_
  refine athen_exit ?_
  refine ain_same ?_
  refine athen_n ?_
  refine k_a (k_m rfl ?_)
  refine ARun.call (lit_lt rfl) go_40 rfl (bitsV_Bits b13 L o _ (by omega) hok) ?_
  rintro _ S1 ⟨rfl,h1⟩
  rw [h1];clear h1 S1
  refine ARun.call (lit_lt rfl) go_39 rfl ((hmk S hps).frame f2) ?_
  rintro _ S1 ⟨M,⟨hc,rfl,hM,hvv⟩,f2',h1⟩
  rw [h1];clear h1 S1
  obtain ⟨pm,cm,rfl,_⟩:=id hvv
  refine rC (Calm.extract rfl rfl) ?_
  refine rC (Calm.extract rfl rfl) ?_
  first|refine k_A rfl rfl ty_size_31 ?_|refine k_B rfl rfl ty_size_31 ?_
  try simp only [k_ms,k_sz,k_ss,k_za,Nat.reduceAdd]
  refine k_e rfl ?_
  refine k_u [(2,_),(4,_),(14,_),(15,_),(16,_),(17,_),(3,_)] ?_
  refine AWP.ret ?_
  refine ⟨_,M,⟨_,_,_,rfl,.inr ⟨ty_agg_31,[_,_,_],ty_size_31,rds_,rfl⟩,⟨_,_,rfl,rfl,rfl⟩,rfl⟩,less_,?_⟩
  exact ⟨_,rfl,hM,hvv⟩
end Go.Proofs.YtgidjbpgkeemiaaGreat
namespace Go.Proofs.YtgidjbpgkeemiaaGreat
open Go.RowKit
open Mv Bits Sel
set_option maxRecDepth 20000
def bools (b : Bool) : List Value := [.bool b]
theorem isBl_sl {S : Mem} {a : Option Addr} {n cap : Nat} {L : List Bool} (h : Sl 1 bools S (.slice a n cap) L) (hn : n ≤ 65536) : IsBl S a n L := by
 obtain ⟨a',c',e1,e2,e3,e4⟩:=h
 cases e1
 refine ⟨rfl,by omega,?_⟩
 rcases e4 with e4 | ⟨b,off,e5,e6⟩
 ·left;rw [e4];rfl
 ·right
  refine ⟨b,off,e5,fun i hi=>?_⟩
  have:=e6 i hi
  rw [Nat.mul_one] at this
  have e:L.getD i false=L[i]:=by simp [List.getD,List.getElem?_eq_getElem hi]
  rw [e];exact this
theorem RwR.slices {p : ByteArray × Int × List Int × Int} {S S' : Mem} {r : Value} (h : RwR p S r S') : ∃ pa ca, r = .tuple #[.agg #[.string p.1, .int .i64 p.2.1, .slice pa p.2.2.1.length ca], .int .i64 p.2.2.2] ∧ S.Less S' ∧ Sl 1 i64s S' (.slice pa p.2.2.1.length ca) p.2.2.1 := by
 obtain ⟨hc,rfl,hl,hs⟩:=h
 obtain ⟨pa,ca,rfl,_⟩:=id hs
 exact ⟨pa,ca,rfl,hl,hs⟩
theorem selV_OfS (v : Value) (L : List Bool) (S : Mem) (h : Sl 1 bools S v L) :
  ACall Tryz.prog 21 #[v] S (RwR (ofP L) S):=by
 obtain ⟨a,cap,rfl,h2,h3,h4⟩:=id h
 by_cases hn:L.length≤65536
 ·exact selV_Of a L.length cap L S (isBl_sl h hn) hn
 ·unfold ofP
  rw [if_pos (by omega)]
  clear h h4
  generalize L.length=n at *
  refine ACall.enter (rs:=[.cell 2 31,.tmp 3]) 30 [(0,.slice a n cap)] Tryz.func21 rfl rfl (Nat.le_of_ble_eq_true rfl) rfl ⟨rfl,trivial⟩ ?_
  refine k_a ?_
  refine ARun.alloc (lit_lt rfl) ty_zero_31 ?_
  intro b2 f2
  have g2:=f2
  repeat ((with_reducible replace g2:=fresh_set g2);obtain ⟨g2,_⟩:=g2)
  try simp only [k_l1,k_l0,k_za,Nat.reduceAdd]
  refine k_e rfl (AWP.seq (k_a (k_m rfl ?_)))
  refine rC (Calm.lenSl Tryz.underlying60 rfl) ?_
  refine rC (Calm.bin rfl rfl b_gtr) ?_
  refine k_n ?_
  refine k_u [(0,_),(2,_),(3,_),(10,_)] ?_
  refine k_T rfl ?_
  refine k_a ?_
  refine rC (Calm.build (cs:=[_,_,_]) ty_bld_31 rfl rfl) ?_
  first|refine k_A rfl rfl ty_size_31 ?_|refine k_B rfl rfl ty_size_31 ?_
  try simp only [k_ms,k_sz,k_ss,k_za,Nat.reduceAdd]
  refine k_e rfl ?_
  refine k_u [(0,_),(2,_),(3,_),(10,_)] ?_
  refine k_r ?_
  refine ⟨_,S,⟨_,_,_,rfl,.inr ⟨ty_agg_31,[_,_,_],ty_size_31,rds_,rfl⟩,⟨_,_,rfl,rfl,rfl⟩,rfl⟩,less_,?_⟩
  exact ⟨_,rfl,Mem.Less.refl _,Sl.nil _ _ _⟩
namespace Sel
def t3 : List Bool := [false, true, true]
end Sel
end Go.Proofs.YtgidjbpgkeemiaaGreat
namespace Go.Proofs.YtgidjbpgkeemiaaGreat
open Go.RowKit Go.Shelf
open Mv Num Loser Srt
set_option maxRecDepth 8000
/-! ### A column that has a text -/
theorem wk_small (s : ByteArray) (p : Nat) : ∀ (k r : Nat) (acc l : List Nat), (∀ x ∈ acc, x < 256) → Ord.walkT (numsT s) p k r acc = some l → ∀ x ∈ l, x < 256
 | 0,r,acc,l,ha,h=>by
  rw [walk_end] at h;split at h
  ·injection h with h;subst h;exact ha
  ·cases h
 | k+1,r,acc,l,ha,h=>by
  by_cases hr:r=p
  ·rw [walk_no _ _ _ _ _ hr] at h;cases h
  ·rw [walk_step _ _ _ _ _ hr,byT_getD] at h
   refine wk_small s p k _ _ l (fun x hx=>?_) h
   rcases List.mem_cons.1 hx with rfl | hx
   ·exact byT_lt _ _
   ·exact ha x hx
theorem nums_nil : numsT (bs []) = [] := by rw [nums_bs]; rfl
theorem col_nil : Fd.Col [] [] 0 := ⟨rfl, rfl, fun a h => absurd h (Nat.not_lt_zero _)⟩
theorem text_col {s : ByteArray} {pp : Int} (h : (textP s pp).2 = 0) : ∃ p : Nat, pp = p ∧ p ≤ s.size ∧ s.size ≤ 4096 ∧ Fd.Col (numsT (textP s pp).1) (numsT s) p ∧ (textP s pp).1.size = s.size := by
 unfold textP at h ⊢
 split at h
 ·cases h
 rename_i h1
 rw [if_neg h1]
 split at h
 ·rename_i h2
  rw [if_pos h2]
  obtain ⟨h3,rfl⟩:=h2
  obtain rfl:=(size_z s).2 h3
  exact ⟨0,rfl,Nat.zero_le _,by decide,by show Fd.Col (numsT (bs [])) (numsT (bs [])) 0;rw [nums_nil];exact col_nil,rfl⟩
 rename_i h2
 rw [if_neg h2]
 split at h
 ·cases h
 rename_i h3
 rw [if_neg h3]
 cases hm:Ord.walkT (numsT s) pp.toNat s.size 0 [] with
 | none=>rw [hm] at h;cases h
 | some l =>
  dsimp only
  have hl:=wk_small s pp.toNat _ _ _ l (fun x hx=>absurd hx (List.not_mem_nil)) hm
  have hc:Fd.Col l (numsT s) pp.toNat:=Fd.walk_col (by rw [numsT_length];omega) (by rw [numsT_length];exact hm)
  refine ⟨pp.toNat,by omega,by omega,by omega,by rw [nums_bs,ofN_nums l hl];exact hc,?_⟩
  rw [bs_size];unfold ofN;rw [List.length_map,← hc.len,numsT_length]
/-! ### An index -/
structure Ix where
  col : ByteArray
  pri : Int
  fir : List Int
  mks : List (List Int)
  bits : ByteArray
  n : Int
  cnts : List Int
  plcs : List Int
def IntsV (S : Mem) (v : Value) (l : List Int) : Prop := Sl 1 i64s S v l
theorem intsV_less (S S' : Mem) (v : Value) (l : List Int) (h : IntsV S v l) (hl : S.Less S') : IntsV S' v l := Sl.less h hl
def ixC (x : Ix) (v2 v3 v6 v7 : Value) : List Value := [.string x.col, .int .i64 x.pri, v2, v3, .string x.bits, .int .i64 x.n, v6, v7]
/-- The fields as they lie. -/
def IxV (S : Mem) (cs : List Value) (x : Ix) : Prop := ∃ v2 v3 v6 v7, cs = ixC x v2 v3 v6 v7 ∧ IntsV S v2 x.fir ∧ SlOf IntsV S v3 x.mks ∧ IntsV S v6 x.cnts ∧ IntsV S v7 x.plcs
theorem IxV.less {S S' : Mem} {cs : List Value} {x : Ix} (h : IxV S cs x) (hl : S.Less S') : IxV S' cs x := by
 obtain ⟨v2,v3,v6,v7,e,h1,h2,h3,h4⟩:=h
 exact ⟨v2,v3,v6,v7,e,intsV_less _ _ _ _ h1 hl,h2.less intsV_less hl,intsV_less _ _ _ _ h3 hl,intsV_less _ _ _ _ h4 hl⟩
def zix : Ix := ⟨ByteArray.empty, 0, [], [], ByteArray.empty, 0, [], []⟩
/-- Which rows are sampled, and their places. -/
def smpR (t : List Nat) : List Bool := (Fd.plc t).map (fun a => decide (a % 16 = 0))
def plcR (t : List Nat) : List Nat := (Fd.plc t).filter (fun a => decide (a % 16 = 0))
def castL (l : List Nat) : List Int := l.map (fun k : Nat => (k : Int))
/-- The index of a column that has the text t. -/
noncomputable def ixP (s : ByteArray) (p : Nat) (t : ByteArray) : Ix :=
  ⟨s, p, castL (firP s), (mksP (numsT s) p).map castL, (Sel.ofP (smpR (numsT t))).1, (Sel.ofP (smpR (numsT t))).2.1, (Sel.ofP (smpR (numsT t))).2.2.1, castL (plcR (numsT t))⟩
/-- What Make hands back. -/
def MkR (s : ByteArray) (pp : Int) (S : Mem) (r : Value) (S' : Mem) : Prop :=
  ((textP s pp).2 = 0 ∧ ∃ cs, r = .tuple #[.agg cs.toArray, .int .i64 0] ∧ S.Less S' ∧ IxV S' cs (ixP s pp.toNat (textP s pp).1)) ∨
  ((textP s pp).2 ≠ 0 ∧ r = .tuple #[.agg (ixC zix (.slice none 0 0) (.slice none 0 0) (.slice none 0 0) (.slice none 0 0)).toArray, .int .i64 ((textP s pp).2 : Nat)] ∧ S' = S)
theorem slOf_ints {S : Mem} {v : Value} {l : List (List Nat)} (h : SlOf IdxR S v l) : SlOf IntsV S v (l.map castL) := by
 obtain ⟨hs,e,h1,h2⟩:=h
 refine ⟨hs,by rw [List.length_map];exact e,h1,fun i hi hi'=>?_⟩
 rw [List.getElem_map]
 exact idx_ints (h2 i (by rw [List.length_map] at hi;exact hi) hi')
/-! ### The rows that have been told -/
theorem all_told (t : List Nat) (at_ : List Nat) (hl : at_.length = t.length + 1) (h : ∀ j, j < t.length + 1 → at_.getD (rowK t j) 0 = t.length - j) : at_ = Fd.plc t := by
 refine List.ext_getElem (by rw [hl,Fd.plc_length]) fun r h1 h2=>?_
 have hr:r≤t.length:=by omega
 have hf:=Fd.fre_le t r
 have:=h (t.length-Fd.fre t r) (by omega)
 unfold rowK at this
 rw [show t.length-(t.length-Fd.fre t r)=Fd.fre t r by omega,Fd.rw_fre t r hr,getD_get _ _ _ h1] at this
 rw [this,Fd.fre_get]
theorem all_smp (t : List Nat) (sm : List Bool) (hl : sm.length = t.length + 1) (h : ∀ j, j < t.length + 1 → sm.getD (rowK t j) false = decide ((t.length - j) % 16 = 0)) : sm = smpR t := by
 unfold smpR
 refine List.ext_getElem (by rw [hl,List.length_map,Fd.plc_length]) fun r h1 h2=>?_
 have hr:r≤t.length:=by omega
 have hf:=Fd.fre_le t r
 have:=h (t.length-Fd.fre t r) (by omega)
 unfold rowK at this
 rw [show t.length-(t.length-Fd.fre t r)=Fd.fre t r by omega,Fd.rw_fre t r hr,getD_get _ _ _ h1] at this
 rw [this,List.getElem_map,Fd.fre_get]
theorem row_inj (t : List Nat) {j k : Nat} (hj : j < t.length + 1) (hk : k < t.length + 1) (e : rowK t j = rowK t k) : j = k := by
 have:=(Fd.rw_ok t).inj (a:=t.length-j) (b:=t.length-k) (Nat.sub_le _ _) (Nat.sub_le _ _) e
 omega
theorem told_step {α : Type} (t : List Nat) (z : α) (F : Nat → α) (l : List α) (k : Nat) (hk : k < t.length + 1) (hl : l.length = t.length + 1) (h : ∀ j, j < k → l.getD (rowK t j) z = F j) : ∀ j, j < k + 1 → (l.set (rowK t k) (F k)).getD (rowK t j) z = F j := fun j hj => by
 have hr:=rowK_le t k
 by_cases e:j=k
 ·subst e
  rw [List.getD_eq_getElem?_getD,List.getElem?_set_self (by omega)];rfl
 ·have hne:rowK t k≠rowK t j:=fun e'=>e (row_inj t (by omega) hk e'.symm)
  rw [List.getD_eq_getElem?_getD,List.getElem?_set_ne hne,← List.getD_eq_getElem?_getD]
  exact h j (by omega)
theorem plcR_take (t : List Nat) (i : Nat) (hi : i < (Fd.plc t).length) : ((Fd.plc t).take (i + 1)).filter (fun a => decide (a % 16 = 0)) = ((Fd.plc t).take i).filter (fun a => decide (a % 16 = 0)) ++ (if (Fd.plc t)[i] % 16 = 0 then [(Fd.plc t)[i]] else []) := by
 rw [List.take_succ_eq_append_getElem hi,List.filter_append]
 congr 1
 by_cases h:(Fd.plc t)[i] % 16=0
 ·rw [if_pos h];simp [h]
 ·rw [if_neg h];simp [h]
/-- A book as it is made. -/
def bkC (s : ByteArray) (p : Nat) (vf vm vb vn vc vp : Value) : List Value := [.string s, .int .i64 (p : Int), vf, vm, vb, vn, vc, vp, .string ByteArray.empty, .int .i64 0, .slice none 0 0]
theorem put_rows {M : Mem} {b b' : Nat} {s : ByteArray} {p : Nat} {vf vm vb vn vc vp x y z : Value} {T : TypeId} {room : Nat} {Z : Blk} (h : b ≠ b') : ((M.set b ⟨T, bkC s p vf vm vb vn vc vp, room⟩).set b' Z).set b ⟨T, bkC s p vf vm x y z vp, room⟩ = (M.set b ⟨T, bkC s p vf vm x y z vp, room⟩).set b' Z := by
 rw [Mem.set_comm _ _ _ (Ne.symm h),Mem.set_set]
theorem bk_of {S : Mem} {b : Nat} {s : ByteArray} {p : Nat} {vf vm vb vn vc vp : Value} {T : TypeId} {room : Nat} (h : S.own b = some ⟨T, bkC s p vf vm vb vn vc vp, room⟩) (hf : IdxR S vf (firP s)) (hm : SlOf IdxR S vm (mksP (numsT s) p)) : BkK S b s p := by
 have kn:∀ (i:Nat) (v:Value),(bkC s p vf vm vb vn vc vp)[i]?=some v→S.Knows ⟨b,i,none⟩ [v]:=fun i v hv=>Mem.own_knows h i _ (fun j u hj=>by
  cases j with
  | zero=>simp at hj;rw [← hj];exact hv
  | succ j=>simp at hj)
 exact ⟨kn 0 _ rfl,kn 1 _ rfl,⟨vf,kn 2 _ rfl,hf⟩,⟨vm,kn 3 _ rfl,hm⟩⟩
theorem okO_two {M : Mem} {o : Option (Nat × Nat)} {n a b : Nat} {A B : Blk} (h : OkO M o n) (hne : ∀ q c, o = some (q, c) → a ≠ q ∧ b ≠ q) : OkO ((M.set a A).set b B) o n := (h.set fun q c e => (hne q c e).1).set fun q c e => (hne q c e).2
theorem okO_un {M : Mem} {o : Option (Nat × Nat)} {n a b : Nat} {A B : Blk} (h : OkO ((M.set a A).set b B) o n) : OkO M o n ∧ ∀ q c, o = some (q, c) → a ≠ q ∧ b ≠ q := by
 refine ⟨⟨h.nil,fun q c e=>?_⟩,fun q c e=>?_⟩
 ·obtain ⟨h1,h2⟩:=h.own q c e
  exact ⟨(fresh_set (fresh_set h1).1).1,h2⟩
 ·obtain ⟨h1,h2⟩:=h.own q c e
  exact ⟨Ne.symm (fresh_set (fresh_set h1).1).2,Ne.symm (fresh_set h1).2⟩
theorem outM_two {M : Mem} {o : Option (Nat × Nat)} {e : TypeId} {cs : List Value} {a b : Nat} {A A' B : Blk} (hab : a ≠ b) (hne : ∀ q c, o = some (q, c) → a ≠ q ∧ b ≠ q) : (outM ((M.set a A).set b B) o e cs).set a A' = outM ((M.set a A').set b B) o e cs := by
 cases o with
 | none=>show ((M.set a A).set b B).set a A'=(M.set a A').set b B;rw [Mem.set_comm _ _ _ hab,Mem.set_set,Mem.set_comm _ _ _ (Ne.symm hab)]
 | some q =>
  have h:=(hne q.1 q.2 rfl).1
  show (((M.set a A).set b B).set q.1 _).set a A'=((M.set a A').set b B).set q.1 _
  rw [Mem.set_comm _ _ _ (Ne.symm h),Mem.set_comm _ _ _ hab,Mem.set_set,Mem.set_comm _ _ _ (Ne.symm hab)]
theorem fresh_outM' {M : Mem} {o : Option (Nat × Nat)} {e : TypeId} {cs : List Value} {b : Nat} (h : Fresh M b) (hne : ∀ q c, o = some (q, c) → b ≠ q) : Fresh (outM M o e cs) b := by
 cases o with
 | none=>exact h
 | some q=>exact fresh_more h (hne q.1 q.2 rfl)
theorem outM_under {M : Mem} {o : Option (Nat × Nat)} {e : TypeId} {cs : List Value} {a b : Nat} {A B : Blk} (hne : ∀ q c, o = some (q, c) → a ≠ q ∧ b ≠ q) : outM ((M.set a A).set b B) o e cs = ((outM M o e cs).set a A).set b B := by
 cases o with
 | none=>rfl
 | some q =>
  have h:=hne q.1 q.2 rfl
  show ((M.set a A).set b B).set q.1 _=((M.set q.1 _).set a A).set b B
  rw [Mem.set_comm _ _ _ h.2,Mem.set_comm _ _ _ h.1]
theorem set4 {M : Mem} {a b c d : Nat} {A A' B B' C D : Blk} (h1 : b ≠ a) (h2 : c ≠ a) (h3 : d ≠ a) (h4 : c ≠ b) (h5 : d ≠ b) : (((((M.set a A).set b B).set c C).set d D).set a A').set b B' = (((M.set a A').set b B').set c C).set d D := by
 rw [Mem.set_comm _ _ _ h3,Mem.set_comm _ _ _ h2,Mem.set_comm _ _ _ h1,Mem.set_set,Mem.set_comm _ _ _ h5,Mem.set_comm _ _ _ h4,Mem.set_set]
theorem set_gI (l : List Nat) (i v : Nat) : (l.map gI).set i (.int .i64 (v : Int)) = (l.set i v).map gI := (List.map_set ..).symm
theorem set_gB (l : List Bool) (i : Nat) (v : Bool) : (l.map gB).set i (.bool v) = (l.set i v).map gB := (List.map_set ..).symm
theorem modc (m : Nat) : decide (((m : Nat) : Int) % 16 = 0) = decide (m % 16 = 0) := decide_eq_decide.2 (by omega)
set_option maxHeartbeats 8000000 in
theorem fd_Make (s : ByteArray) (pp : Int) (S : Mem) :
  ACall Tryz.prog 8 #[.string s,.int .i64 pp] S (MkR s pp S):=by
 by_cases h0:(textP s pp).2=0
 case neg =>
  refine ACall.enterR (args:=[.string s,.int .i64 pp]) (rs:=[.cell 4 33,.tmp 5]) 94 [(0,.string s),(1,.int .i64 pp)] Tryz.func8 rfl rfl (Nat.le_of_ble_eq_true rfl) rfl ⟨rfl,rfl,trivial⟩ ?_
  refine AWPM.seqR (rs:=[.cell 4 33,.tmp 5]) rfl ?_
  refine AWP.region ?_
  refine ARun.alloc (lit_lt rfl) ty_zero_33 ?_
  intro b4 f4
  have g4:=f4
  repeat ((with_reducible replace g4:=fresh_set g4);obtain ⟨g4,_⟩:=g4)
  try simp only [k_l1,k_l0,k_za,Nat.reduceAdd]
  refine k_e rfl ?_
  refine AWPM.seqR (rs:=[.cell 4 33,.tmp 5]) rfl ?_
  refine k_a (k_m rfl (k_m rfl ?_))
  refine ARun.call (lit_lt rfl) go_17 rfl (od_Text s pp _) ?_
  rintro _ S9 ⟨rfl,e9⟩
  rw [e9];clear e9 S9
  refine k_m rfl ?_
  refine rC (Calm.extract rfl rfl) ?_
  refine rC (Calm.extract rfl rfl) ?_
  refine k_s rfl (k_e rfl ?_)
  refine k_u [(0,_),(1,_),(4,_),(5,_),(7,_)] ?_
  refine k_a (k_m rfl ?_)
  refine rC (Calm.bin rfl rfl b_neq) ?_
  refine k_n ?_
  refine k_u [(0,_),(1,_),(4,_),(5,_),(7,_),(22,_)] ?_
  refine k_T rfl ?_
  refine k_a ?_
  refine rC (Calm.build (cs:=[_,_,_,_,_,_,_,_]) ty_bld_33 rfl rfl) ?_
  refine k_m rfl ?_
  first|refine k_A rfl rfl ty_size_33 ?_|refine k_B rfl rfl ty_size_33 ?_
  try simp only [k_ms,k_sz,k_ss,k_za,Nat.reduceAdd]
  refine k_e rfl ?_
  refine k_u [(0,_),(1,_),(4,_),(5,_),(7,_),(22,_)] ?_
  refine k_r ?_
  refine ⟨_,S,⟨_,_,_,rfl,.inr ⟨ty_agg_33,[_,_,_,_,_,_,_,_],ty_size_33,rds_,rfl⟩,⟨_,_,rfl,rfl,rfl⟩,rfl⟩,less_,?_⟩
  exact .inr ⟨h0,rfl,rfl⟩
 obtain ⟨p,rfl,hp,hs,hcol,htz⟩:=text_col h0
 obtain ⟨t,ht⟩ : ∃ t,t=numsT (textP s (p:Int)).1:=⟨_,rfl⟩
 have htl:t.length=s.size:=by rw [ht,numsT_length,htz]
 rw [← ht] at hcol
 refine ACall.enterR (args:=[.string s,.int .i64 (p:Int)]) (rs:=[.cell 4 33,.tmp 5]) 94 [(0,.string s),(1,.int .i64 (p:Int))] Tryz.func8 rfl rfl (Nat.le_of_ble_eq_true rfl) rfl ⟨rfl,rfl,trivial⟩ ?_
 refine AWPM.seqR (rs:=[.cell 4 33,.tmp 5]) rfl ?_
 refine AWP.region ?_
 refine ARun.alloc (lit_lt rfl) ty_zero_33 ?_
 intro b4 f4
 have g4:=f4
 repeat ((with_reducible replace g4:=fresh_set g4);obtain ⟨g4,_⟩:=g4)
 try simp only [k_l1,k_l0,k_za,Nat.reduceAdd]
 refine k_e rfl ?_
 refine AWPM.seqR (rs:=[.cell 4 33,.tmp 5]) rfl ?_
 refine k_a (k_m rfl (k_m rfl ?_))
 refine ARun.call (lit_lt rfl) go_17 rfl (od_Text s p _) ?_
 rintro _ S9 ⟨rfl,e9⟩
 rw [e9,h0];clear e9 S9
 refine k_m rfl ?_
 refine rC (Calm.extract rfl rfl) ?_
 refine rC (Calm.extract rfl rfl) ?_
 refine k_s rfl (k_e rfl ?_)
 refine k_u [(0,_),(1,_),(4,_),(5,_),(7,_)] ?_
 refine k_a (k_m rfl ?_)
 refine rC (Calm.bin rfl rfl b_neq) ?_
 refine k_n ?_
 refine k_u [(0,_),(1,_),(4,_),(5,_),(7,_),(22,_)] ?_
 refine k_F rfl ?_
 refine k_k ?_
 refine AWPM.seqR (rs:=[.cell 4 33,.tmp 5]) rfl ?_
 refine AWP.region ?_
 refine k_m rfl (k_m rfl (k_m rfl ?_))
 refine ARun.call (lit_lt rfl) go_18 rfl (((fd_firsts s S hs).frame f4)) ?_
 rintro vf _ ⟨S1,⟨hS1,hvf⟩,f4a,rfl⟩
 obtain ⟨fa,fc,rfl,_⟩:=id hvf
 refine k_m rfl (k_m rfl ?_)
 refine ARun.call (lit_lt rfl) go_19 rfl (((fd_marks s p S1 hs hp).frame f4a)) ?_
 rintro vm _ ⟨S2,⟨hS2,hvm⟩,f4b,rfl⟩
 obtain ⟨ms,mse,⟨ma,mc,rfl,_⟩,_⟩:=id hvm
 replace hvf:=idxR_less _ _ _ _ hvf hS2
 have hSS:=hS1.trans hS2
 clear hS1 hS2 f4 f4a g4
 refine rC (Calm.build (cs:=[_,_,_,_,_,_,_,_]) ty_bld_33 rfl rfl) ?_
 refine rC (Calm.build (cs:=[_,_,_,_,_,_,_,_,_,_,_]) ty_bld_59 rfl rfl) ?_
 refine ARun.boxA (cs:=[_,_,_,_,_,_,_,_,_,_,_]) (lit_lt rfl) rfl ?_
 intro b34 f34
 have g34:=f34
 repeat ((with_reducible replace g34:=fresh_set g34);obtain ⟨g34,_⟩:=g34)
 try simp only [k_l1,k_l0,k_za,Nat.reduceAdd]
 refine k_e rfl ?_
 refine AWPM.sub [(0,_),(1,_),(4,_),(5,_),(7,_),(22,_),(8,_)] ⟨rfl,rfl,rfl,rfl,rfl,rfl,rfl,trivial⟩ ?_
 refine AWPM.seqR (rs:=[.cell 4 33,.tmp 5]) rfl ?_
 refine AWP.region ?_
 refine k_m rfl ?_
 refine rC (Calm.lenStr (strT_spec ty_str_9) rfl) ?_
 refine rC (Calm.bin rfl rfl b_add_i64) ?_
 refine ARun.makeSlice (lit_lt rfl) ty_sl_26 rfl rfl (by omega) (by omega) (by omega) (by omega) ?_
 intro b38 f38
 have g38:=f38
 repeat ((with_reducible replace g38:=fresh_set g38);obtain ⟨g38,_⟩:=g38)
 refine ARun.alloc (lit_lt rfl) ty_zero_26 ?_
 intro b9 f9
 have g9:=f9
 repeat ((with_reducible replace g9:=fresh_set g9);obtain ⟨g9,_⟩:=g9)
 try simp only [k_l1,k_l0,k_za,Nat.reduceAdd]
 refine ARun.store1 rfl rfl ty_size_26 rfl own_ lens_ rfl ?_
 try simp only [k_ms,k_sz,k_ss,k_za,Nat.reduceAdd]
 refine k_n ?_
 refine AWPM.sub [(0,_),(1,_),(4,_),(5,_),(7,_),(22,_),(8,_),(9,_)] ⟨rfl,rfl,rfl,rfl,rfl,rfl,rfl,rfl,trivial⟩ ?_
 refine AWPM.seqR (rs:=[.cell 4 33,.tmp 5]) rfl ?_
 refine AWP.region ?_
 refine k_m rfl ?_
 refine rC (Calm.lenStr (strT_spec ty_str_9) rfl) ?_
 refine rC (Calm.bin rfl rfl b_add_i64) ?_
 refine ARun.makeSlice (lit_lt rfl) ty_sl_60 rfl rfl (by omega) (by omega) (by omega) (by omega) ?_
 intro b42 f42
 have g42:=f42
 repeat ((with_reducible replace g42:=fresh_set g42);obtain ⟨g42,_⟩:=g42)
 refine ARun.alloc (lit_lt rfl) ty_zero_60 ?_
 intro b10 f10
 have g10:=f10
 repeat ((with_reducible replace g10:=fresh_set g10);obtain ⟨g10,_⟩:=g10)
 try simp only [k_l1,k_l0,k_za,Nat.reduceAdd]
 refine ARun.store1 rfl rfl ty_size_60 rfl own_ lens_ rfl ?_
 try simp only [k_ms,k_sz,k_ss,k_za,Nat.reduceAdd]
 refine k_n ?_
 refine AWPM.sub [(0,_),(1,_),(4,_),(5,_),(7,_),(22,_),(8,_),(9,_),(10,_)] ⟨rfl,rfl,rfl,rfl,rfl,rfl,rfl,rfl,rfl,trivial⟩ ?_
 refine AWPM.seqM ?_
 refine AWPM.seq ?_
 refine AWP.region ?_
 refine k_m rfl ?_
 refine ARun.call (lit_lt rfl) go_20 rfl (fd_rows _ _) ?_
 rintro _ _ ⟨q,fq,rfl,rfl⟩
 intro S0 w0 a w hs0 hg
 have gq:=fq
 repeat ((with_reducible replace gq:=fresh_set gq);obtain ⟨gq,_⟩:=gq)
 refine wpIn_block ?_
 have e1:((s.size:Int)+1).toNat=s.size+1:=by omega
 have ea:madeL [Value.int .i64 0] (s.size+1)=(List.replicate (s.size+1) 0).map gI:=by rw [madeL_one,List.map_replicate];rfl
 have eb:madeL [Value.bool false] (s.size+1)=(List.replicate (s.size+1) false).map gB:=by rw [madeL_one,List.map_replicate];rfl
 simp only [e1,Nat.mul_one,ea,eb] at hs0
 obtain ⟨M6,hM6⟩ : ∃ M6,M6=((S2.set b9 ⟨26,[.slice (some ⟨b38,0,none⟩) (s.size+1) (s.size+1)],1⟩).set b10 ⟨60,[.slice (some ⟨b42,0,none⟩) (s.size+1) (s.size+1)],1⟩).set q ⟨53,[.pointer (some ⟨b34,0,none⟩)],1⟩:=⟨_,rfl⟩
 have hM:S2.Less M6:=by rw [hM6];exact less_
 have o9:M6.own b9=some ⟨26,[.slice (some ⟨b38,0,none⟩) (s.size+1) (s.size+1)],1⟩:=by rw [hM6];exact own_
 have o10:M6.own b10=some ⟨60,[.slice (some ⟨b42,0,none⟩) (s.size+1) (s.size+1)],1⟩:=by rw [hM6];exact own_
 have oq:M6.own q=some ⟨53,[.pointer (some ⟨b34,0,none⟩)],1⟩:=by rw [hM6];exact own_
 have fr:∀ b,Fresh S2 b→b≠b9→b≠b10→b≠q→Fresh M6 b:=fun b h h1 h2 h3=>by rw [hM6];exact fresh_more (fresh_more (fresh_more h h1) h2) h3
 have k38:Fresh M6 b38:=fr _ g38 ne_ ne_ ne_
 have k42:Fresh M6 b42:=fr _ g42 ne_ ne_ ne_
 have k34:Fresh M6 b34:=fr _ g34 ne_ ne_ ne_
 have k4:Fresh M6 b4:=fr _ f4b ne_ ne_ ne_
 have n1:b34≠b4:=ne_
 have n2:b42≠b38:=ne_
 have n3:b34≠b38:=ne_
 have n4:b34≠b42:=ne_
 have n5:b4≠b38:=ne_
 have n6:b4≠b42:=ne_
 replace hs0:Step S0 w0 ((((M6.set b38 ⟨3,(List.replicate (s.size+1) 0).map gI,s.size+1⟩).set b42 ⟨4,(List.replicate (s.size+1) false).map gB,s.size+1⟩).set b34 ⟨59,bkC s p (.slice fa (firP s).length fc) (.slice ma ms.length mc) (.string ByteArray.empty) (.int .i64 0) (.slice none 0 0) (.slice none 0 0),11⟩).set b4 ⟨33,ixC zix (.slice none 0 0) (.slice none 0 0) (.slice none 0 0) (.slice none 0 0),8⟩) w:=hs0.less (by unfold bkC ixC zix;rw [hM6];exact less_)
 replace hvf:=idxR_less _ _ _ _ hvf hM
 replace hvm:=hvm.less idxR_less hM
 replace hSS:=hSS.trans hM
 clear hM6 fr hM f34 f38 f9 f42 f10 fq g34 g38 g9 g42 g10 gq f4b
 refine range_view3 (N:=94) (p1:=45) (p2:=46) (S0:=S0) (w0:=w0) (gf:=36) (lb:=#[.pointer (some ⟨q,0,none⟩)]) (s.size+1) 0 (fun k=>.int .i64 (rowK t k:Int)) (fun k=>.int .i64 ((s.size-k:Nat):Int)) (fun k T=>∃ (at_:List Nat) (sm:List Bool),Mem.Less ((((M6.set b38 ⟨3,at_.map gI,s.size+1⟩).set b42 ⟨4,sm.map gB,s.size+1⟩).set b34 ⟨59,bkC s p (.slice fa (firP s).length fc) (.slice ma ms.length mc) (.string ByteArray.empty) (.int .i64 0) (.slice none 0 0) (.slice none 0 0),11⟩).set b4 ⟨33,ixC zix (.slice none 0 0) (.slice none 0 0) (.slice none 0 0) (.slice none 0 0),8⟩) T∧at_.length=s.size+1∧sm.length=s.size+1∧(∀ j,j<k→at_.getD (rowK t j) 0=s.size-j) ∧ ∀ j,j<k→sm.getD (rowK t j) false=decide ((s.size-j) % 16=0)) (fun _ _=>False) [(4,.pointer (some ⟨b4,0,none⟩)),(5,.int .i64 0),(8,.pointer (some ⟨b34,0,none⟩)),(9,.pointer (some ⟨b9,0,none⟩)),(10,.pointer (some ⟨b10,0,none⟩)),(44,.func (.func 36) #[] #[.pointer (some ⟨q,0,none⟩)])] (hg.sub ⟨rfl,rfl,rfl,rfl,rfl,rfl,trivial⟩) rfl (enters_of Tryz.func36 (by kernel_rfl) rfl) (lit_lt rfl) (lit_lt rfl) ?start ?it ?round ?done ?stop
 case start=>exact ⟨_,⟨_,_,Mem.Less.refl _,by simp,by simp,fun j h=>absurd h (Nat.not_lt_zero _),fun j h=>absurd h (Nat.not_lt_zero _)⟩,hs0⟩
 case stop=>intro D k T W hk hx;exact hx.elim
 case it =>
  intro l J Jx W hK hY hJ0
  refine rows_it l q b34 s p t hcol hs J Jx W (fun k W hj=>?_) hY hJ0
  obtain ⟨T,⟨at_,sm,hl,_⟩,hv,hab⟩:=hK k W hj
  have hMT:=Mem.Less.trans (show M6.Less ((((M6.set b38 ⟨3,at_.map gI,s.size+1⟩).set b42 ⟨4,sm.map gB,s.size+1⟩).set b34 ⟨59,bkC s p (.slice fa (firP s).length fc) (.slice ma ms.length mc) (.string ByteArray.empty) (.int .i64 0) (.slice none 0 0) (.slice none 0 0),11⟩).set b4 ⟨33,ixC zix (.slice none 0 0) (.slice none 0 0) (.slice none 0 0) (.slice none 0 0),8⟩) from less_) hl
  exact ⟨T,bk_of (hl.own own_) (idxR_less _ _ _ _ hvf hMT) (hvm.less idxR_less hMT),Mem.own_knows (hMT.own oq) 0 _ (fun j u hj=>by rw [Nat.zero_add];exact hj),hv,hab⟩
 case round =>
  intro l k T hk ⟨at_,sm,hl,h1,h2,h3,h4⟩
  refine GWP.less _ hl ?_
  have hrk:=rowK_le t k
  rw [htl] at hrk
  obtain ⟨r,hr⟩ : ∃ r,r=rowK t k:=⟨_,rfl⟩
  rw [← hr] at hrk ⊢
  refine GWP.seq ?_
  refine GWP.region ?_
  refine k_e rfl ?_
  refine GWP.sub [(46,_),(45,_),(4,_),(5,_),(8,_),(9,_),(10,_),(11,_)] ⟨rfl,rfl,rfl,rfl,rfl,rfl,rfl,rfl,trivial⟩ ?_
  refine GWP.region ?_
  refine k_e rfl ?_
  refine GWP.block ?_
  refine GWP.drawG [2,9,11] mixed ?_
  refine DG.pure 1 (by kernel_rfl) (by kernel_rfl) rfl rfl rfl rfl (lit_lt rfl) (fun _=>Calm.move rfl) ?_
  refine DG.pure 3 (by kernel_rfl) (by kernel_rfl) rfl rfl rfl rfl (lit_lt rfl) (fun _=>Calm.move rfl) ?_
  refine DG.pure 4 (by kernel_rfl) (by kernel_rfl) rfl rfl rfl rfl (lit_lt rfl) (fun _=>Calm.move rfl) ?_
  refine DG.pure 5 (by kernel_rfl) (by kernel_rfl) rfl rfl rfl rfl (lit_lt rfl) (fun _=>Calm.move rfl) ?_
  refine DG.pure 6 (by kernel_rfl) (by kernel_rfl) rfl rfl rfl rfl (lit_lt rfl) (fun _=>Calm.bin rfl rfl b_rem) ?_
  refine DG.pure 7 (by kernel_rfl) (by kernel_rfl) rfl rfl rfl rfl (lit_lt rfl) (fun _=>Calm.bin rfl rfl b_eql) ?_
  refine DG.two 0 2 (by kernel_rfl) rfl ?_ rfl ?_
  ·refine rC (ld_ ty_plain_26 rfl) ?_
   refine arun_nil ⟨fun _=>less_,?_⟩
   refine DG.pure 8 (by kernel_rfl) (by kernel_rfl) rfl rfl rfl rfl (lit_lt rfl) (fun _=>Calm.indexS Tryz.underlying26 ty_size_3 rfl rfl (by omega) (by omega)) ?_
   refine DG.two 2 9 (by kernel_rfl) rfl ?_ rfl ?_
   ·refine rC (ld_ ty_plain_60 rfl) ?_
    refine arun_nil ⟨fun h=>absurd h (by decide),?_⟩
    refine DG.only 9 (by kernel_rfl) rfl ?_
    refine ARun.store1 rfl rfl ty_size_3 rfl own_ (by show 0+(r:Int).toNat*1<_;rw [List.length_map];omega) rfl ?_
    try simp only [k_ms,k_sz,k_ss,k_za,Nat.reduceAdd]
    refine arun_nil ⟨fun h=>absurd h (by decide),?_⟩
    refine DG.pure 10 (by kernel_rfl) (by kernel_rfl) rfl rfl rfl rfl (lit_lt rfl) (fun _=>Calm.indexS Tryz.underlying60 ty_size_4 rfl rfl (by omega) (by omega)) ?_
    refine DG.only 11 (by kernel_rfl) rfl ?_
    refine ARun.store1 rfl rfl ty_size_4 rfl own_ (by show 0+(r:Int).toNat*1<_;rw [List.length_map];omega) rfl ?_
    try simp only [k_ms,k_sz,k_ss,k_za,Nat.reduceAdd]
    refine arun_nil ⟨fun h=>absurd h (by decide),?_⟩
    refine DG.end_ (by kernel_rfl) ?_
    refine ain_n ?_
    rw [set4 n2 n3 n5 n4 n6,show ((r:Int).toNat*1)=r by omega,set_gI,set_gB,modc];exact .inl ⟨rfl,at_.set r (s.size-k),sm.set r (decide ((s.size-k) % 16=0)),Mem.Less.refl _,by rw [List.length_set];exact h1,by rw [List.length_set];exact h2,by rw [hr];exact told_step t 0 (fun j=>s.size-j) at_ k (by omega) (by omega) h3,by rw [hr];exact told_step t false (fun j=>decide ((s.size-j) % 16=0)) sm k (by omega) (by omega) h4⟩
   ·refine ARun.store1 rfl rfl ty_size_3 rfl own_ (by show 0+(r:Int).toNat*1<_;rw [List.length_map];omega) rfl ?_
    try simp only [k_ms,k_sz,k_ss,k_za,Nat.reduceAdd]
    refine arun_nil ⟨fun h=>absurd h (by decide),?_⟩
    refine DG.only 2 (by kernel_rfl) rfl ?_
    refine rC (ld_ ty_plain_60 rfl) ?_
    refine arun_nil ⟨fun h=>absurd h (by decide),?_⟩
    refine DG.pure 10 (by kernel_rfl) (by kernel_rfl) rfl rfl rfl rfl (lit_lt rfl) (fun _=>Calm.indexS Tryz.underlying60 ty_size_4 rfl rfl (by omega) (by omega)) ?_
    refine DG.only 11 (by kernel_rfl) rfl ?_
    refine ARun.store1 rfl rfl ty_size_4 rfl own_ (by show 0+(r:Int).toNat*1<_;rw [List.length_map];omega) rfl ?_
    try simp only [k_ms,k_sz,k_ss,k_za,Nat.reduceAdd]
    refine arun_nil ⟨fun h=>absurd h (by decide),?_⟩
    refine DG.end_ (by kernel_rfl) ?_
    refine ain_n ?_
    rw [set4 n2 n3 n5 n4 n6,show ((r:Int).toNat*1)=r by omega,set_gI,set_gB,modc];exact .inl ⟨rfl,at_.set r (s.size-k),sm.set r (decide ((s.size-k) % 16=0)),Mem.Less.refl _,by rw [List.length_set];exact h1,by rw [List.length_set];exact h2,by rw [hr];exact told_step t 0 (fun j=>s.size-j) at_ k (by omega) (by omega) h3,by rw [hr];exact told_step t false (fun j=>decide ((s.size-j) % 16=0)) sm k (by omega) (by omega) h4⟩
  ·refine rC (ld_ ty_plain_60 rfl) ?_
   refine arun_nil ⟨fun h=>absurd h (by decide),?_⟩
   refine DG.only 0 (by kernel_rfl) rfl ?_
   refine rC (ld_ ty_plain_26 rfl) ?_
   refine arun_nil ⟨fun _=>less_,?_⟩
   refine DG.pure 8 (by kernel_rfl) (by kernel_rfl) rfl rfl rfl rfl (lit_lt rfl) (fun _=>Calm.indexS Tryz.underlying26 ty_size_3 rfl rfl (by omega) (by omega)) ?_
   refine DG.only 9 (by kernel_rfl) rfl ?_
   refine ARun.store1 rfl rfl ty_size_3 rfl own_ (by show 0+(r:Int).toNat*1<_;rw [List.length_map];omega) rfl ?_
   try simp only [k_ms,k_sz,k_ss,k_za,Nat.reduceAdd]
   refine arun_nil ⟨fun h=>absurd h (by decide),?_⟩
   refine DG.pure 10 (by kernel_rfl) (by kernel_rfl) rfl rfl rfl rfl (lit_lt rfl) (fun _=>Calm.indexS Tryz.underlying60 ty_size_4 rfl rfl (by omega) (by omega)) ?_
   refine DG.only 11 (by kernel_rfl) rfl ?_
   refine ARun.store1 rfl rfl ty_size_4 rfl own_ (by show 0+(r:Int).toNat*1<_;rw [List.length_map];omega) rfl ?_
   try simp only [k_ms,k_sz,k_ss,k_za,Nat.reduceAdd]
   refine arun_nil ⟨fun h=>absurd h (by decide),?_⟩
   refine DG.end_ (by kernel_rfl) ?_
   refine ain_n ?_
   rw [set4 n2 n3 n5 n4 n6,show ((r:Int).toNat*1)=r by omega,set_gI,set_gB,modc];exact .inl ⟨rfl,at_.set r (s.size-k),sm.set r (decide ((s.size-k) % 16=0)),Mem.Less.refl _,by rw [List.length_set];exact h1,by rw [List.length_set];exact h2,by rw [hr];exact told_step t 0 (fun j=>s.size-j) at_ k (by omega) (by omega) h3,by rw [hr];exact told_step t false (fun j=>decide ((s.size-j) % 16=0)) sm k (by omega) (by omega) h4⟩
 case done =>
  rintro D T W ⟨at_,sm,hl,l1,l2,h3,h4⟩ hst hD hK
  replace hst:=hst.less hl
  clear hl
  rw [← htl] at l1 l2 h3 h4
  obtain rfl:=all_told t at_ l1 h3
  obtain rfl:=all_smp t sm l2 h4
  clear h3 h4 hs0
  refine GWP.endM (rs:=[.cell 4 33,.tmp 5]) (N:=94) rfl hst hD hK (hg.sub (show Sub [(4,.pointer (some ⟨b4,0,none⟩)),(5,.int .i64 0),(8,.pointer (some ⟨b34,0,none⟩)),(9,.pointer (some ⟨b9,0,none⟩)),(10,.pointer (some ⟨b10,0,none⟩)),(44,.func (.func 36) #[] #[.pointer (some ⟨q,0,none⟩)])] _ from ⟨rfl,rfl,rfl,rfl,rfl,rfl,trivial⟩)) ?_
  have hplc:(Fd.plc t).length=s.size+1:=(Fd.plc_length t).trans (by rw [htl])
  have hsmp:(smpR t).length=s.size+1:=by unfold smpR;rw [List.length_map];exact hplc
  obtain ⟨pl,hpl⟩ : ∃ pl:Nat→List Nat,pl=fun i=>((Fd.plc t).take i).filter (fun a=>decide (a % 16=0)):=⟨_,rfl⟩
  have hpl0:pl 0 = []:=by rw [hpl];rfl
  have hple:pl (s.size+1)=plcR t:=by rw [hpl];show ((Fd.plc t).take (s.size+1)).filter _=_;rw [List.take_of_length_le (by omega)];rfl
  have hbk:5≤11:=by decide
  obtain ⟨M7,hM7⟩ : ∃ M7,M7=(M6.set b38 ⟨3,(Fd.plc t).map gI,s.size+1⟩).set b42 ⟨4,(smpR t).map gB,s.size+1⟩:=⟨_,rfl⟩
  have hM:M6.Less M7:=by rw [hM7];exact less_
  have p9:M7.own b9=some ⟨26,[.slice (some ⟨b38,0,none⟩) (s.size+1) (s.size+1)],1⟩:=hM.own o9
  have p10:M7.own b10=some ⟨60,[.slice (some ⟨b42,0,none⟩) (s.size+1) (s.size+1)],1⟩:=hM.own o10
  have p38:M7.own b38=some ⟨3,(Fd.plc t).map gI,s.size+1⟩:=by rw [hM7];exact own_
  have p42:M7.own b42=some ⟨4,(smpR t).map gB,s.size+1⟩:=by rw [hM7];exact own_
  have m34:Fresh M7 b34:=by rw [hM7];exact fresh_more (fresh_more k34 n3) n4
  have m4:Fresh M7 b4:=by rw [hM7];exact fresh_more (fresh_more k4 n5) n6
  have n9:b9≠b34:=m34.ne p9
  have n94:b9≠b4:=m4.ne p9
  have n3':b38≠b34:=Ne.symm n3
  have n5':b38≠b4:=Ne.symm n5
  have n42:b42≠b34:=Ne.symm n4
  have n43:b42≠b4:=Ne.symm n6
  refine GWP.seq ?_
  refine GWP.seq ?_
  refine GWP.region ?_
  refine rC (ld_ ty_plain_60 rfl) ?_
  refine rC (Calm.lenSl Tryz.underlying60 rfl) ?_
  refine k_m rfl (k_n ?_)
  refine GWP.sub [(4,_),(5,_),(8,_),(9,_),(10,_),(57,_),(58,_),(59,_)] ⟨rfl,rfl,rfl,rfl,rfl,rfl,rfl,rfl,trivial⟩ ?_
  refine GWP.block ?_
  refine GWP.loop (X:=Nat × Option (Nat × Nat)) (fun x=>[(4,.pointer (some ⟨b4,0,none⟩)),(5,.int .i64 0),(8,.pointer (some ⟨b34,0,none⟩)),(9,.pointer (some ⟨b9,0,none⟩)),(10,.pointer (some ⟨b10,0,none⟩)),(57,.slice (some ⟨b42,0,none⟩) (s.size+1) (s.size+1)),(58,.int .i64 (s.size+1:Nat)),(59,.int .i64 x.1)]) (fun x=>outM ((M7.set b34 ⟨59,bkC s p (.slice fa (firP s).length fc) (.slice ma ms.length mc) (.string ByteArray.empty) (.int .i64 0) (.slice none 0 0) (outV x.2 (pl x.1).length),11⟩).set b4 ⟨33,ixC zix (.slice none 0 0) (.slice none 0 0) (.slice none 0 0) (.slice none 0 0),8⟩) x.2 3 ((pl x.1).map gI)) (fun x=>x.1≤s.size+1∧OkO M7 x.2 (pl x.1).length ∧ ∀ q c,x.2=some (q,c)→b34≠q∧b4≠q) (fun x=>s.size+1-x.1) ((0,none)) ⟨rfl,rfl,rfl,rfl,rfl,rfl,rfl,rfl,trivial⟩ (by rw [hM7,hpl0];exact Mem.Less.refl _) (⟨Nat.zero_le _,by rw [hpl0];exact okO_nil _,fun _ _ h=>by cases h⟩) ?_
  rintro ⟨i,o⟩ ⟨hi,hO,hne⟩
  (try dsimp only at *)
  have hoth:=fun {b:Nat} {r:Blk} (hb:M7.own b=some r) (h1:b≠b34) (h2:b≠b4)=>own_outM (e:=3) (cs:=(pl i).map gI) (okO_two (A:=⟨59,bkC s p (.slice fa (firP s).length fc) (.slice ma ms.length mc) (.string ByteArray.empty) (.int .i64 0) (.slice none 0 0) (outV o (pl i).length),11⟩) (B:=⟨33,ixC zix (.slice none 0 0) (.slice none 0 0) (.slice none 0 0) (.slice none 0 0),8⟩) hO hne) ((Mem.own_set_other _ _ h2).trans ((Mem.own_set_other _ _ h1).trans hb))
  by_cases hci:i<s.size+1
  ·refine GWP.seq ?_
   refine GWP.region ?_
   refine rC (Calm.bin rfl rfl b_lss) ?_
   refine k_n ?_
   refine GWP.seq ?_
   refine GWP.condT rfl (by first|rfl|(simp;done)|(simp;omega)) ?_
   obtain ⟨x,hx⟩ : ∃ x,x=(Fd.plc t)[i]'(by omega):=⟨_,rfl⟩
   have hb:gB ((smpR t)[i]'(by omega)) = .bool (decide (x % 16=0)):=by rw [hx];show Value.bool _=_;congr 1;exact List.getElem_map ..
   refine GWP.skip ?_
   refine athen_n ?_
   refine GWP.seq ?_
   refine GWP.block ?_
   refine GWP.seq ?_
   refine GWP.region ?_
   refine k_m rfl ?_
   refine rC (Calm.indexS Tryz.underlying60 ty_size_4 rfl rfl (by omega) (by omega)) ?_
   refine rC (Calm.as hb (Calm.load ty_plain_4 rfl (rd_list (g:=gB) i (by omega) (hoth p42 n42 n43) (by omega)))) ?_
   have ht1:(Fd.plc t).take (i+1)=(Fd.plc t).take i ++ [x]:=by rw [hx];exact List.take_succ_eq_append_getElem (by omega)
   have hst1:pl (i+1)=pl i ++ (if x % 16=0 then [x] else []):=by rw [hpl,hx];exact plcR_take t i (by omega)
   refine k_s rfl (k_e rfl ?_)
   refine GWP.sub [(4,_),(5,_),(8,_),(9,_),(10,_),(57,_),(58,_),(59,_),(60,_),(13,_),(14,_)] ⟨rfl,rfl,rfl,rfl,rfl,rfl,rfl,rfl,rfl,rfl,rfl,trivial⟩ ?_
   by_cases h16:x % 16=0
   ·refine GWP.seq ?_
    refine GWP.region ?_
    refine k_m rfl (k_n ?_)
    refine GWP.condT rfl (by first|rfl|(simp;done)|(simp;omega)) ?_
    have h34:=own_outM (e:=3) (cs:=(pl i).map gI) (okO_two (A:=⟨59,bkC s p (.slice fa (firP s).length fc) (.slice ma ms.length mc) (.string ByteArray.empty) (.int .i64 0) (.slice none 0 0) (outV o (pl i).length),11⟩) (B:=⟨33,ixC zix (.slice none 0 0) (.slice none 0 0) (.slice none 0 0) (.slice none 0 0),8⟩) hO hne) ((Mem.own_set_other _ _ n1).trans (Mem.own_set_same _ _ _))
    have hpll:(pl i).length≤4097:=by rw [hpl];exact Nat.le_trans (List.length_filter_le ..) (by rw [List.length_take];omega)
    refine GWP.draw [(0,true),(1,true),(2,true),(3,true),(4,true),(5,true),(6,true),(7,true),(8,true),(9,true),(10,false),(11,false),(12,true),(13,true),(14,true),(15,false)] [11,15] mixed (by kernel_rfl) ?_
    refine dP (hc:=fun _=>Calm.move rfl) (h:=?_)
    refine dP (hc:=fun _=>Calm.move rfl) (h:=?_)
    refine dP (hc:=fun _=>Calm.nilCheck rfl) (h:=?_)
    refine dP (hc:=fun _=>Calm.fieldAddr ty_field_59_0 rfl) (h:=?_)
    refine dP (hc:=fun _=>Calm.fieldAddr ty_field_33_5 rfl) (h:=?_)
    refine dC (hc:=Calm.load (v:=outV o (pl i).length) ty_plain_26 rfl (rd_own' h34 rfl)) (h:=?_)
    refine dC (hc:=Calm.load ty_plain_26 rfl (rd_own' (hoth p9 n9 n94) rfl)) (h:=?_)
    refine dP (hc:=fun _=>Calm.move rfl) (h:=?_)
    refine dP (hc:=fun _=>Calm.indexS Tryz.underlying26 ty_size_3 rfl rfl (by omega) (by omega)) (h:=?_)
    refine dC (hc:=Calm.as (show gI ((Fd.plc t)[i]'(by omega)) = .int .i64 (x:Int) by rw [← hx];rfl) (Calm.load ty_plain_3 rfl (rd_list (g:=gI) i (by omega) (hoth p38 n3' n5') (by omega)))) (h:=?_)
    refine draw_only rfl ?_
    refine ARun.build1s (lit_lt rfl) ty_sl_26 rfl rfl ?_
    intro b75 f75
    have g75:=f75
    repeat ((with_reducible replace g75:=fresh_set g75);obtain ⟨g75,_⟩:=g75)
    refine arun_nil ⟨fun _=>less_,?_⟩
    refine draw_only rfl ?_
    refine ARun.appendO (o:=o) (n:=(pl i).length) (m:=1) (cs:=(pl i).map gI) (lit_lt rfl) ty_sl_26 rfl (List.length_map ..) (appO_of (okO_two hO hne) (List.length_map ..) f75) rfl (news:=[_]) rds_ rfl (by omega) (by simp [Value.oneCell',outV]) (by omega) (by omega) ?_
    intro b76 c76 ho3
    refine arun_nil ⟨fun h=>absurd h (by decide),?_⟩
    refine dP (hc:=fun _=>Calm.nilCheck rfl) (h:=?_)
    refine dP (hc:=fun _=>Calm.fieldAddr ty_field_59_0 rfl) (h:=?_)
    refine dP (hc:=fun _=>Calm.fieldAddr ty_field_33_5 rfl) (h:=?_)
    refine draw_only rfl ?_
    refine ARun.store1 rfl rfl ty_size_26 rfl (own_outM ho3 ((Mem.own_set_other _ _ n1).trans (Mem.own_set_same _ _ _))) (by show 0+0+7<11;decide) rfl ?_
    try simp only [k_ms,k_sz,k_ss,k_za,Nat.reduceAdd]
    refine arun_nil ⟨fun h=>absurd h (by decide),?_⟩
    refine draw_nil ?_
    refine ain_n ?_
    refine athen_n ?_
    refine GWP.sub [(4,_),(5,_),(8,_),(9,_),(10,_),(57,_),(58,_),(59,_),(60,_),(13,_),(14,_),(64,_)] ⟨rfl,rfl,rfl,rfl,rfl,rfl,rfl,rfl,rfl,rfl,rfl,rfl,trivial⟩ ?_
    rw [outM_two n1 (okO_un ho3).2]
    refine GWP.region ?_
    refine rC (Calm.bin rfl rfl b_add_i64) ?_
    refine k_m rfl (k_n ?_)
    refine ⟨(i+1,some (b76,c76)),?_,?_,?_,?_⟩
    all_goals (try dsimp only)
    ·exact ⟨sq_,sq_,sq_,sq_,sq_,sq_,sq_,sq_,trivial⟩
    ·rw [hst1,if_pos h16,List.map_append,List.length_append];exact Mem.Less.refl _
    ·exact ⟨hci,by rw [hst1,if_pos h16,List.length_append];exact (okO_un ho3).1,(okO_un ho3).2⟩
    ·omega
   ·refine GWP.seq ?_
    refine GWP.region ?_
    refine k_m rfl (k_n ?_)
    refine GWP.condF rfl (by first|rfl|(simp;done)|(simp;omega)) ?_
    refine GWP.skip ?_
    refine ain_n ?_
    refine athen_n ?_
    refine GWP.region ?_
    refine rC (Calm.bin rfl rfl b_add_i64) ?_
    refine k_m rfl (k_n ?_)
    refine ⟨(i+1,o),?_,?_,?_,?_⟩
    all_goals (try dsimp only)
    ·exact ⟨sq_,sq_,sq_,sq_,sq_,sq_,sq_,sq_,trivial⟩
    ·rw [hst1,if_neg h16,List.append_nil];exact Mem.Less.refl _
    ·exact ⟨hci,by rw [hst1,if_neg h16,List.append_nil];exact hO,hne⟩
    ·omega
  ·obtain rfl:i=s.size+1:=by omega
   refine GWP.seq ?_
   refine GWP.region ?_
   refine rC (Calm.bin rfl rfl b_lss) ?_
   refine k_n ?_
   refine GWP.seq ?_
   refine GWP.condF rfl (by first|rfl|(simp;done)|(simp;omega)) ?_
   rw [hple] at hO ⊢
   rw [outM_under hne]
   obtain ⟨M8,hM8⟩ : ∃ M8,M8=outM M7 o 3 ((plcR t).map gI):=⟨_,rfl⟩
   have hM78:M7.Less M8:=by rw [hM8];exact outM_over hO
   have z34:Fresh M8 b34:=by rw [hM8];exact fresh_outM' m34 fun q c e=>(hne q c e).1
   have z4:Fresh M8 b4:=by rw [hM8];exact fresh_outM' m4 fun q c e=>(hne q c e).2
   have hvp:IntsV M8 (outV o (plcR t).length) (castL (plcR t)):=by rw [hM8];exact idx_ints (sl_outV (g:=gI) hO rfl (by rw [← hple,hpl];exact Nat.le_trans (List.length_filter_le ..) (by rw [List.length_take];omega)))
   rw [← hM8]
   have y10:=hM78.own p10
   have n10:b10≠b34:=m34.ne p10
   have n104:b10≠b4:=m4.ne p10
   clear hoth
   refine GWP.exit ?_
   refine athen_exit ?_
   refine athen_exit ?_
   refine ain_same ?_
   refine athen_n ?_
   refine GWP.seq ?_
   refine GWP.region ?_
   refine k_m rfl ?_
   refine rC (Calm.load ty_plain_60 rfl (rd_own' ((Mem.own_set_other _ _ n104).trans ((Mem.own_set_other _ _ n10).trans y10)) rfl)) ?_
   refine ARun.call (lit_lt rfl) go_21 rfl ((((selV_OfS _ (smpR t) M8 (Sl.own1 (g:=gB) (l:=smpR t) (hM78.own p42) List.prefix_rfl hsmp (Nat.le_refl _) (by omega))).frame z34).frame (fresh_more z4 (Ne.symm n1)))) ?_
   rintro _ _ ⟨_,⟨M9,hr9,z34',rfl⟩,z4',rfl⟩
   obtain ⟨pa,ca,rfl,hM89,hvc⟩:=hr9.slices
   refine k_m rfl ?_
   refine rC (Calm.extract rfl rfl) ?_
   refine rC (Calm.extract rfl rfl) ?_
   refine rC (Calm.nilCheck rfl) ?_
   refine rC (Calm.fieldAddr ty_field_59_0 rfl) ?_
   refine rC (Calm.fieldAddr ty_field_33_4 rfl) ?_
   refine ARun.store rfl rfl ty_size_31 ((Mem.own_set_other _ _ n1).trans (Mem.own_set_same _ _ _)) (by show 0+0+4+3≤11;decide) (by simp [Value.cells,Value.oneCell']) ?_
   try simp only [k_ms,k_sz,k_ss,k_za,Nat.reduceAdd]
   refine k_n ?_
   refine GWP.sub [(4,_),(5,_),(8,_),(9,_),(10,_),(57,_),(58,_),(59,_),(60,_)] ⟨rfl,rfl,rfl,rfl,rfl,rfl,rfl,rfl,rfl,trivial⟩ ?_
   refine GWP.less ((M9.set b34 ⟨59,bkC s p (.slice fa (firP s).length fc) (.slice ma ms.length mc) (.string (Sel.ofP (smpR t)).1) (.int .i64 (Sel.ofP (smpR t)).2.1) (.slice pa (Sel.ofP (smpR t)).2.2.1.length ca) (outV o (plcR t).length),11⟩).set b4 ⟨33,ixC zix (.slice none 0 0) (.slice none 0 0) (.slice none 0 0) (.slice none 0 0),8⟩) (by rw [← put_rows n1];exact Mem.Less.refl _) ?_
   refine GWP.seq ?_
   refine GWP.region ?_
   refine k_m rfl ?_
   refine rC (Calm.nilCheck rfl) ?_
   refine rC (Calm.fieldAddr ty_field_59_0 rfl) ?_
   refine rC (ldA_ (cs:=[_,_,_,_,_,_,_,_]) ty_agg_33 ty_size_33 rfl) ?_
   refine ARun.storeAll (cs:=ixC ⟨s,p,[],[],(Sel.ofP (smpR t)).1,(Sel.ofP (smpR t)).2.1,[],[]⟩ (.slice fa (firP s).length fc) (.slice ma ms.length mc) (.slice pa (Sel.ofP (smpR t)).2.2.1.length ca) (outV o (plcR t).length)) rfl rfl ty_size_33 (Mem.own_set_same _ _ _) rfl (by cases o <;> simp [ixC,Value.oneCell',outV]) ?_
   try simp only [k_ms,k_sz,k_ss,k_za,Nat.reduceAdd]
   have hMM:=hM.trans (hM78.trans hM89)
   have hfin:IxV M9 (ixC (ixP s ((p:Int)).toNat (textP s p).1) (.slice fa (firP s).length fc) (.slice ma ms.length mc) (.slice pa (Sel.ofP (smpR t)).2.2.1.length ca) (outV o (plcR t).length)) (ixP s ((p:Int)).toNat (textP s p).1):=by unfold ixP;rw [← ht];exact ⟨_,_,_,_,rfl,idx_ints (idxR_less _ _ _ _ hvf hMM),(slOf_ints hvm).less intsV_less hMM,hvc,intsV_less _ _ _ _ hvp hM89⟩
   have hcs:ixC (ixP s ((p:Int)).toNat (textP s p).1) (.slice fa (firP s).length fc) (.slice ma ms.length mc) (.slice pa (Sel.ofP (smpR t)).2.2.1.length ca) (outV o (plcR t).length)=ixC ⟨s,p,[],[],(Sel.ofP (smpR t)).1,(Sel.ofP (smpR t)).2.1,[],[]⟩ (.slice fa (firP s).length fc) (.slice ma ms.length mc) (.slice pa (Sel.ofP (smpR t)).2.2.1.length ca) (outV o (plcR t).length):=by unfold ixP;rw [← ht];rfl
   refine k_e rfl ?_
   refine GWP.sub [(4,_),(5,_),(8,_),(9,_),(10,_),(57,_),(58,_),(59,_),(60,_)] ⟨rfl,rfl,rfl,rfl,rfl,rfl,rfl,rfl,rfl,trivial⟩ ?_
   refine GWP.ret ?_
   refine ⟨_,M9,⟨_,_,_,rfl,.inr ⟨ty_agg_33,[_,_,_,_,_,_,_,_],ty_size_33,rds_,rfl⟩,⟨_,_,rfl,rfl,rfl⟩,rfl⟩,(Mem.less_set _ _ _ z34'.1).trans (Mem.less_set _ _ _ (fresh_more (fresh_set z4').1 (Ne.symm n1)).1),?_⟩
   exact .inl ⟨h0,_,by rw [hcs];rfl,hSS.trans hMM,hfin⟩
end Go.Proofs.YtgidjbpgkeemiaaGreat
namespace Go.Proofs.YtgidjbpgkeemiaaGreat
open Go.RowKit Go.Shelf
open Mv Num Loser Srt
set_option maxRecDepth 8000
set_option maxHeartbeats 1000000 in
theorem fd_EqualFunc (a b : List (List Int)) (va vb : Value) (S : Mem) (ha : SlOf IntsV S va a) (hb : SlOf IntsV S vb b) :
  ACall Tryz.prog 48 #[va,vb,.func (.func 47) #[] #[]] S fun r S'=>r = .bool (decide (a=b))∧S'=S:=by
 obtain ⟨ga,hal,⟨pa,ca,rfl,ha1,ha2,ha3⟩,hae⟩:=ha
 obtain ⟨gb,hbl,⟨pb,cb,rfl,hb1,hb2,hb3⟩,hbe⟩:=hb
 by_cases hlen:a.length=b.length
 ·have hlen0:=hlen
  refine ACall.enter (rs:=[.tmp 6]) 32 [(0,.slice pa ga.length ca),(1,.slice pb gb.length cb),(2,.func (.func 47) #[] #[])] Tryz.func48 rfl rfl (Nat.le_of_ble_eq_true rfl) rfl ⟨rfl,rfl,rfl,trivial⟩ ?_
  refine k_a (k_e rfl (AWP.seq (k_a (k_m rfl ?_))))
  refine rC (Calm.lenSl Tryz.underlying27 rfl) ?_
  refine k_m rfl ?_
  refine rC (Calm.lenSl Tryz.underlying27 rfl) ?_
  refine rC (Calm.bin rfl rfl b_neq) ?_
  refine k_n ?_
  refine k_u [(0,_),(1,_),(2,_),(6,_),(14,_)] ?_
  refine k_F rfl ?_
  refine k_k (AWP.seq (k_a (k_m rfl ?_)))
  refine rC (Calm.lenSl Tryz.underlying27 rfl) ?_
  refine k_m rfl (k_n ?_)
  refine AWP.block ?_
  refine AWP.loop (X:=Nat) (fun x=>[(0,.slice pa ga.length ca),(1,.slice pb gb.length cb),(2,.func (.func 47) #[] #[]),(15,.slice pa ga.length ca),(16,.int .i64 ga.length),(17,.int .i64 x)]) (fun x=>S) (fun x=>x≤a.length ∧ ∀ j (hj:j<a.length) (hj2:j<b.length),j<x→a[j]=b[j]) (fun x=>a.length-x) (0) ⟨rfl,rfl,rfl,rfl,rfl,rfl,trivial⟩ (Mem.Less.refl _) (⟨Nat.zero_le _,fun _ _ _ h=>absurd h (Nat.not_lt_zero _)⟩) ?_
  rintro i ⟨hi1,hq⟩
  (try dsimp only at *)
  refine k_a ?_
  refine rC (Calm.bin rfl rfl b_lss) ?_
  refine k_n (AWP.seq ?_)
  refine AWP.condB rfl (fun hl=>?_) (fun hl=>?_)
  ·have hl:i<a.length:=by have:=of_decide_eq_true hl;omega
   have hia:i<ga.length:=by omega
   have hib:i<gb.length:=by omega
   obtain ⟨b0,off,rfl,hkn⟩:=ha3.resolve_left (by intro h;rw [h] at hia;exact absurd hia (Nat.not_lt_zero _))
   obtain ⟨b1,off1,rfl,hkn1⟩:=hb3.resolve_left (by intro h;rw [h] at hib;exact absurd hib (Nat.not_lt_zero _))
   have hkk:=hkn i hia
   have hkk1:=hkn1 i hib
   refine k_k (AWP.seq ?_)
   refine AWP.block ?_
   refine k_a (k_m rfl ?_)
   refine rC (Calm.indexS Tryz.underlying27 ty_size_26 rfl rfl (by omega) (by omega)) ?_
   refine rC (ld_ ty_plain_26 rfl) ?_
   refine k_s rfl (k_e rfl ?_)
   refine k_u [(0,_),(1,_),(2,_),(15,_),(16,_),(17,_),(18,_),(7,_),(8,_)] ?_
   refine k_a (k_m rfl (k_m rfl ?_))
   refine rC (Calm.indexS Tryz.underlying27 ty_size_26 rfl rfl (by omega) (by omega)) ?_
   refine rC (ld_ ty_plain_26 rfl) ?_
   refine k_e rfl ?_
   refine k_u [(0,_),(1,_),(2,_),(15,_),(16,_),(17,_),(18,_),(7,_),(8,_),(9,_)] ?_
   refine k_a (k_m rfl (k_m rfl (k_m rfl ?_)))
   refine ARun.callV (lit_lt rfl) go_47 rfl rfl (losV_EqualI a[i] b[i] ga[i] gb[i] S (hae i hl hia) (hbe i (by omega) hib)) ?_
   rintro _ S1 ⟨rfl,h1⟩
   rw [h1];clear h1 S1
   refine rC (Calm.un rfl (una_not _)) ?_
   refine k_n ?_
   refine k_u [(0,_),(1,_),(2,_),(15,_),(16,_),(17,_),(18,_),(7,_),(8,_),(9,_),(30,_)] ?_
   by_cases c1:a[i]=b[i]
   ·refine k_F rfl ?_
    refine AWP.skip ?_
    refine ain_n ?_
    refine athen_n ?_
    refine AWP.region ?_
    refine rC (Calm.bin rfl rfl b_add_i64) ?_
    refine k_m rfl (k_n ?_)
    refine ⟨i+1,?_,?_,?_,?_⟩
    all_goals (try dsimp only)
    ·exact ⟨rfl,rfl,rfl,rfl,rfl,rfl,trivial⟩
    ·exact Mem.Less.refl _
    ·exact ⟨hl,fun j hj hj2 hji=>by rcases Nat.lt_or_ge j i with h | h;exact hq j hj hj2 h;obtain rfl:j=i:=(by omega);exact c1⟩
    ·omega
   ·refine k_T rfl ?_
    refine k_a (k_e rfl ?_)
    refine AWP.ret ?_
    refine ain_ret ?_
    refine athen_ret ?_
    refine athen_ret ?_
    refine ain_ret ?_
    refine athen_ret ?_
    refine ⟨_,S,⟨_,_,rfl,rfl,rfl⟩,less_,?_⟩
    exact ⟨by rw [decide_eq_false (fun e=>c1 (by subst e;rfl))];rfl,rfl⟩
  ·have hl:i=a.length:=by have:=of_decide_eq_false hl;omega
   refine AWP.exit ?_
   refine athen_exit ?_
   refine athen_exit ?_
   refine ain_same ?_
   refine athen_n ?_
   refine k_a (k_e rfl ?_)
   refine AWP.ret ?_
   refine ⟨_,S,⟨_,_,rfl,rfl,rfl⟩,less_,?_⟩
   exact ⟨by rw [decide_eq_true (List.ext_getElem hlen fun j h1 h2=>hq j h1 h2 (by omega))];rfl,rfl⟩
 ·have hlen0:=hlen
  refine ACall.enter (rs:=[.tmp 6]) 32 [(0,.slice pa ga.length ca),(1,.slice pb gb.length cb),(2,.func (.func 47) #[] #[])] Tryz.func48 rfl rfl (Nat.le_of_ble_eq_true rfl) rfl ⟨rfl,rfl,rfl,trivial⟩ ?_
  refine k_a (k_e rfl (AWP.seq (k_a (k_m rfl ?_))))
  refine rC (Calm.lenSl Tryz.underlying27 rfl) ?_
  refine k_m rfl ?_
  refine rC (Calm.lenSl Tryz.underlying27 rfl) ?_
  refine rC (Calm.bin rfl rfl b_neq) ?_
  refine k_n ?_
  refine k_u [(0,_),(1,_),(2,_),(6,_),(14,_)] ?_
  refine k_T rfl ?_
  refine k_a (k_e rfl ?_)
  refine k_r ?_
  refine ⟨_,S,⟨_,_,rfl,rfl,rfl⟩,less_,?_⟩
  exact ⟨by rw [decide_eq_false (fun e=>hlen (by rw [e]))];rfl,rfl⟩
/-! ### The document's -/
end Go.Proofs.YtgidjbpgkeemiaaGreat
namespace Go.Proofs.YtgidjbpgkeemiaaGreat
open Go.RowKit Go.Shelf
open Mv Num Loser Srt
set_option maxRecDepth 8000
/-- What the program looks at. -/
def sameX (x y : Ix) : Bool := decide (x.fir = y.fir) && (decide (x.mks = y.mks) && (decide (x.plcs = y.plcs) && (decide (x.bits = y.bits ∧ x.n = y.n) && decide (x.cnts = y.cnts))))
set_option maxHeartbeats 2000000 in
theorem fd_same (x y : Ix) (cx cy : List Value) (S : Mem) (hx : IxV S cx x) (hy : IxV S cy y) :
  ACall Tryz.prog 28 #[.agg cx.toArray,.agg cy.toArray] S fun r S'=>r = .bool (sameX x y)∧S'=S:=by
 obtain ⟨v2,v3,v6,v7,rfl,h1,h2,h3,h4⟩:=hx
 obtain ⟨u2,u3,u6,u7,rfl,k1,k2,k3,k4⟩:=hy
 obtain ⟨p1,c1,rfl,_⟩:=id h1
 obtain ⟨p3,c3,rfl,_⟩:=id h3
 obtain ⟨p4,c4,rfl,_⟩:=id h4
 obtain ⟨d1,e1,rfl,_⟩:=id k1
 obtain ⟨d3,e3,rfl,_⟩:=id k3
 obtain ⟨d4,e4,rfl,_⟩:=id k4
 obtain ⟨n2,p2,c2,rfl⟩ : ∃ n p c,v3 = .slice p n c:=by obtain ⟨g,_,⟨p,c,rfl,_⟩,_⟩:=id h2;exact ⟨_,_,_,rfl⟩
 obtain ⟨m2,d2,e2,rfl⟩ : ∃ n p c,u3 = .slice p n c:=by obtain ⟨g,_,⟨p,c,rfl,_⟩,_⟩:=id k2;exact ⟨_,_,_,rfl⟩
 unfold sameX
 by_cases q0:x.fir=y.fir
 ·by_cases q1:x.mks=y.mks
  ·by_cases q2:x.plcs=y.plcs
   ·by_cases q3:x.bits=y.bits∧x.n=y.n
    ·by_cases q4:x.cnts=y.cnts
     ·rw [decide_eq_true q0,Bool.true_and,decide_eq_true q1,Bool.true_and,decide_eq_true q2,Bool.true_and,decide_eq_true q3,Bool.true_and,decide_eq_true q4]
      refine ACall.enter (rs:=[.tmp 4]) 42 [(0,.agg #[.string x.col,.int .i64 x.pri,.slice p1 x.fir.length c1,.slice p2 n2 c2,.string x.bits,.int .i64 x.n,.slice p3 x.cnts.length c3,.slice p4 x.plcs.length c4]),(1,.agg #[.string y.col,.int .i64 y.pri,.slice d1 y.fir.length e1,.slice d2 m2 e2,.string y.bits,.int .i64 y.n,.slice d3 y.cnts.length e3,.slice d4 y.plcs.length e4])] Tryz.func28 rfl rfl (Nat.le_of_ble_eq_true rfl) rfl ⟨rfl,rfl,trivial⟩ ?_
      refine k_a ?_
      refine ARun.boxA (cs:=[_,_,_,_,_,_,_,_]) (lit_lt rfl) rfl ?_
      intro b2 f2
      have g2:=f2
      repeat ((with_reducible replace g2:=fresh_set g2);obtain ⟨g2,_⟩:=g2)
      try simp only [k_l1,k_l0,k_za,Nat.reduceAdd]
      refine ARun.boxA (cs:=[_,_,_,_,_,_,_,_]) (lit_lt rfl) rfl ?_
      intro b3 f3
      have g3:=f3
      repeat ((with_reducible replace g3:=fresh_set g3);obtain ⟨g3,_⟩:=g3)
      try simp only [k_l1,k_l0,k_za,Nat.reduceAdd]
      refine k_e rfl (k_a ?_)
      refine rC (Calm.fieldAddr ty_field_33_2 rfl) ?_
      refine rC (ld_ ty_plain_26 rfl) ?_
      refine rC (Calm.fieldAddr ty_field_33_2 rfl) ?_
      refine rC (ld_ ty_plain_26 rfl) ?_
      refine ARun.call (lit_lt rfl) go_47 rfl (losV_EqualI x.fir y.fir _ _ _ (h1.less less_) (k1.less less_)) ?_
      rintro _ S1 ⟨rfl,q⟩
      rw [q,decide_eq_true q0];clear q S1
      refine k_m rfl ?_
      first|refine k_q 10 ?_|refine rG 10 (Calm.fieldAddr ty_field_33_3 rfl) ?_
      first|refine k_q 10 ?_|refine rG 10 (ld_ ty_plain_27 rfl) ?_
      first|refine k_q 10 ?_|refine rG 10 (Calm.fieldAddr ty_field_33_3 rfl) ?_
      first|refine k_q 10 ?_|refine rG 10 (ld_ ty_plain_27 rfl) ?_
      refine ARun.callG 5 true 10 rfl (lit_lt rfl) rfl (lit_lt rfl) go_48 rfl (fd_EqualFunc x.mks y.mks _ _ _ (h2.less intsV_less less_) (k2.less intsV_less less_)) ?_
      rintro _ S1 ⟨rfl,q⟩
      rw [q,decide_eq_true q1];clear q S1
      first|refine k_t rfl rfl ?_|refine k_f rfl rfl ?_
      refine k_m rfl ?_
      first|refine k_q 17 ?_|refine rG 17 (Calm.fieldAddr ty_field_33_5 rfl) ?_
      first|refine k_q 17 ?_|refine rG 17 (ld_ ty_plain_26 rfl) ?_
      first|refine k_q 17 ?_|refine rG 17 (Calm.fieldAddr ty_field_33_5 rfl) ?_
      first|refine k_q 17 ?_|refine rG 17 (ld_ ty_plain_26 rfl) ?_
      refine ARun.callG 12 true 17 rfl (lit_lt rfl) rfl (lit_lt rfl) go_47 rfl (losV_EqualI x.plcs y.plcs _ _ _ (h4.less less_) (k4.less less_)) ?_
      rintro _ S1 ⟨rfl,q⟩
      rw [q,decide_eq_true q2];clear q S1
      first|refine k_t rfl rfl ?_|refine k_f rfl rfl ?_
      refine k_m rfl ?_
      first|refine k_q 24 ?_|refine rG 24 (Calm.fieldAddr ty_field_33_4 rfl) ?_
      first|refine k_q 24 ?_|refine rG 24 (Calm.fieldAddr ty_field_31_0 rfl) ?_
      first|refine k_q 24 ?_|refine rG 24 (ldA_ (cs:=[_,_]) ty_agg_29 ty_size_29 rfl) ?_
      first|refine k_q 24 ?_|refine rG 24 (Calm.fieldAddr ty_field_33_4 rfl) ?_
      first|refine k_q 24 ?_|refine rG 24 (Calm.fieldAddr ty_field_31_0 rfl) ?_
      first|refine k_q 24 ?_|refine rG 24 (ldA_ (cs:=[_,_]) ty_agg_29 ty_size_29 rfl) ?_
      first|refine k_q 24 ?_|refine rG 24 (Calm.bin rfl rfl (bin_bool (bin_eql_Bitstr _ _ _ _) (decide_eq_true q3))) ?_
      first|refine k_t rfl rfl ?_|refine k_f rfl rfl ?_
      refine k_m rfl ?_
      first|refine k_q 33 ?_|refine rG 33 (Calm.fieldAddr ty_field_33_4 rfl) ?_
      first|refine k_q 33 ?_|refine rG 33 (Calm.fieldAddr ty_field_31_1 rfl) ?_
      first|refine k_q 33 ?_|refine rG 33 (ld_ ty_plain_26 rfl) ?_
      first|refine k_q 33 ?_|refine rG 33 (Calm.fieldAddr ty_field_33_4 rfl) ?_
      first|refine k_q 33 ?_|refine rG 33 (Calm.fieldAddr ty_field_31_1 rfl) ?_
      first|refine k_q 33 ?_|refine rG 33 (ld_ ty_plain_26 rfl) ?_
      refine ARun.callG 28 true 33 rfl (lit_lt rfl) rfl (lit_lt rfl) go_47 rfl (losV_EqualI x.cnts y.cnts _ _ _ (h3.less less_) (k3.less less_)) ?_
      rintro _ S1 ⟨rfl,q⟩
      rw [q,decide_eq_true q4];clear q S1
      first|refine k_t rfl rfl ?_|refine k_f rfl rfl ?_
      refine k_e rfl ?_
      refine k_u [(0,_),(1,_),(2,_),(3,_),(4,_)] ?_
      refine AWP.ret ?_
      refine ⟨_,S,⟨_,_,rfl,rfl,rfl⟩,less_,?_⟩
      exact ⟨rfl,rfl⟩
     ·rw [decide_eq_true q0,Bool.true_and,decide_eq_true q1,Bool.true_and,decide_eq_true q2,Bool.true_and,decide_eq_true q3,Bool.true_and,decide_eq_false q4]
      refine ACall.enter (rs:=[.tmp 4]) 42 [(0,.agg #[.string x.col,.int .i64 x.pri,.slice p1 x.fir.length c1,.slice p2 n2 c2,.string x.bits,.int .i64 x.n,.slice p3 x.cnts.length c3,.slice p4 x.plcs.length c4]),(1,.agg #[.string y.col,.int .i64 y.pri,.slice d1 y.fir.length e1,.slice d2 m2 e2,.string y.bits,.int .i64 y.n,.slice d3 y.cnts.length e3,.slice d4 y.plcs.length e4])] Tryz.func28 rfl rfl (Nat.le_of_ble_eq_true rfl) rfl ⟨rfl,rfl,trivial⟩ ?_
      refine k_a ?_
      refine ARun.boxA (cs:=[_,_,_,_,_,_,_,_]) (lit_lt rfl) rfl ?_
      intro b2 f2
      have g2:=f2
      repeat ((with_reducible replace g2:=fresh_set g2);obtain ⟨g2,_⟩:=g2)
      try simp only [k_l1,k_l0,k_za,Nat.reduceAdd]
      refine ARun.boxA (cs:=[_,_,_,_,_,_,_,_]) (lit_lt rfl) rfl ?_
      intro b3 f3
      have g3:=f3
      repeat ((with_reducible replace g3:=fresh_set g3);obtain ⟨g3,_⟩:=g3)
      try simp only [k_l1,k_l0,k_za,Nat.reduceAdd]
      refine k_e rfl (k_a ?_)
      refine rC (Calm.fieldAddr ty_field_33_2 rfl) ?_
      refine rC (ld_ ty_plain_26 rfl) ?_
      refine rC (Calm.fieldAddr ty_field_33_2 rfl) ?_
      refine rC (ld_ ty_plain_26 rfl) ?_
      refine ARun.call (lit_lt rfl) go_47 rfl (losV_EqualI x.fir y.fir _ _ _ (h1.less less_) (k1.less less_)) ?_
      rintro _ S1 ⟨rfl,q⟩
      rw [q,decide_eq_true q0];clear q S1
      refine k_m rfl ?_
      first|refine k_q 10 ?_|refine rG 10 (Calm.fieldAddr ty_field_33_3 rfl) ?_
      first|refine k_q 10 ?_|refine rG 10 (ld_ ty_plain_27 rfl) ?_
      first|refine k_q 10 ?_|refine rG 10 (Calm.fieldAddr ty_field_33_3 rfl) ?_
      first|refine k_q 10 ?_|refine rG 10 (ld_ ty_plain_27 rfl) ?_
      refine ARun.callG 5 true 10 rfl (lit_lt rfl) rfl (lit_lt rfl) go_48 rfl (fd_EqualFunc x.mks y.mks _ _ _ (h2.less intsV_less less_) (k2.less intsV_less less_)) ?_
      rintro _ S1 ⟨rfl,q⟩
      rw [q,decide_eq_true q1];clear q S1
      first|refine k_t rfl rfl ?_|refine k_f rfl rfl ?_
      refine k_m rfl ?_
      first|refine k_q 17 ?_|refine rG 17 (Calm.fieldAddr ty_field_33_5 rfl) ?_
      first|refine k_q 17 ?_|refine rG 17 (ld_ ty_plain_26 rfl) ?_
      first|refine k_q 17 ?_|refine rG 17 (Calm.fieldAddr ty_field_33_5 rfl) ?_
      first|refine k_q 17 ?_|refine rG 17 (ld_ ty_plain_26 rfl) ?_
      refine ARun.callG 12 true 17 rfl (lit_lt rfl) rfl (lit_lt rfl) go_47 rfl (losV_EqualI x.plcs y.plcs _ _ _ (h4.less less_) (k4.less less_)) ?_
      rintro _ S1 ⟨rfl,q⟩
      rw [q,decide_eq_true q2];clear q S1
      first|refine k_t rfl rfl ?_|refine k_f rfl rfl ?_
      refine k_m rfl ?_
      first|refine k_q 24 ?_|refine rG 24 (Calm.fieldAddr ty_field_33_4 rfl) ?_
      first|refine k_q 24 ?_|refine rG 24 (Calm.fieldAddr ty_field_31_0 rfl) ?_
      first|refine k_q 24 ?_|refine rG 24 (ldA_ (cs:=[_,_]) ty_agg_29 ty_size_29 rfl) ?_
      first|refine k_q 24 ?_|refine rG 24 (Calm.fieldAddr ty_field_33_4 rfl) ?_
      first|refine k_q 24 ?_|refine rG 24 (Calm.fieldAddr ty_field_31_0 rfl) ?_
      first|refine k_q 24 ?_|refine rG 24 (ldA_ (cs:=[_,_]) ty_agg_29 ty_size_29 rfl) ?_
      first|refine k_q 24 ?_|refine rG 24 (Calm.bin rfl rfl (bin_bool (bin_eql_Bitstr _ _ _ _) (decide_eq_true q3))) ?_
      first|refine k_t rfl rfl ?_|refine k_f rfl rfl ?_
      refine k_m rfl ?_
      first|refine k_q 33 ?_|refine rG 33 (Calm.fieldAddr ty_field_33_4 rfl) ?_
      first|refine k_q 33 ?_|refine rG 33 (Calm.fieldAddr ty_field_31_1 rfl) ?_
      first|refine k_q 33 ?_|refine rG 33 (ld_ ty_plain_26 rfl) ?_
      first|refine k_q 33 ?_|refine rG 33 (Calm.fieldAddr ty_field_33_4 rfl) ?_
      first|refine k_q 33 ?_|refine rG 33 (Calm.fieldAddr ty_field_31_1 rfl) ?_
      first|refine k_q 33 ?_|refine rG 33 (ld_ ty_plain_26 rfl) ?_
      refine ARun.callG 28 true 33 rfl (lit_lt rfl) rfl (lit_lt rfl) go_47 rfl (losV_EqualI x.cnts y.cnts _ _ _ (h3.less less_) (k3.less less_)) ?_
      rintro _ S1 ⟨rfl,q⟩
      rw [q,decide_eq_false q4];clear q S1
      first|refine k_t rfl rfl ?_|refine k_f rfl rfl ?_
      refine k_e rfl ?_
      refine k_u [(0,_),(1,_),(2,_),(3,_),(4,_)] ?_
      refine AWP.ret ?_
      refine ⟨_,S,⟨_,_,rfl,rfl,rfl⟩,less_,?_⟩
      exact ⟨rfl,rfl⟩
    ·rw [decide_eq_true q0,Bool.true_and,decide_eq_true q1,Bool.true_and,decide_eq_true q2,Bool.true_and,decide_eq_false q3,Bool.false_and]
     refine ACall.enter (rs:=[.tmp 4]) 42 [(0,.agg #[.string x.col,.int .i64 x.pri,.slice p1 x.fir.length c1,.slice p2 n2 c2,.string x.bits,.int .i64 x.n,.slice p3 x.cnts.length c3,.slice p4 x.plcs.length c4]),(1,.agg #[.string y.col,.int .i64 y.pri,.slice d1 y.fir.length e1,.slice d2 m2 e2,.string y.bits,.int .i64 y.n,.slice d3 y.cnts.length e3,.slice d4 y.plcs.length e4])] Tryz.func28 rfl rfl (Nat.le_of_ble_eq_true rfl) rfl ⟨rfl,rfl,trivial⟩ ?_
     refine k_a ?_
     refine ARun.boxA (cs:=[_,_,_,_,_,_,_,_]) (lit_lt rfl) rfl ?_
     intro b2 f2
     have g2:=f2
     repeat ((with_reducible replace g2:=fresh_set g2);obtain ⟨g2,_⟩:=g2)
     try simp only [k_l1,k_l0,k_za,Nat.reduceAdd]
     refine ARun.boxA (cs:=[_,_,_,_,_,_,_,_]) (lit_lt rfl) rfl ?_
     intro b3 f3
     have g3:=f3
     repeat ((with_reducible replace g3:=fresh_set g3);obtain ⟨g3,_⟩:=g3)
     try simp only [k_l1,k_l0,k_za,Nat.reduceAdd]
     refine k_e rfl (k_a ?_)
     refine rC (Calm.fieldAddr ty_field_33_2 rfl) ?_
     refine rC (ld_ ty_plain_26 rfl) ?_
     refine rC (Calm.fieldAddr ty_field_33_2 rfl) ?_
     refine rC (ld_ ty_plain_26 rfl) ?_
     refine ARun.call (lit_lt rfl) go_47 rfl (losV_EqualI x.fir y.fir _ _ _ (h1.less less_) (k1.less less_)) ?_
     rintro _ S1 ⟨rfl,q⟩
     rw [q,decide_eq_true q0];clear q S1
     refine k_m rfl ?_
     first|refine k_q 10 ?_|refine rG 10 (Calm.fieldAddr ty_field_33_3 rfl) ?_
     first|refine k_q 10 ?_|refine rG 10 (ld_ ty_plain_27 rfl) ?_
     first|refine k_q 10 ?_|refine rG 10 (Calm.fieldAddr ty_field_33_3 rfl) ?_
     first|refine k_q 10 ?_|refine rG 10 (ld_ ty_plain_27 rfl) ?_
     refine ARun.callG 5 true 10 rfl (lit_lt rfl) rfl (lit_lt rfl) go_48 rfl (fd_EqualFunc x.mks y.mks _ _ _ (h2.less intsV_less less_) (k2.less intsV_less less_)) ?_
     rintro _ S1 ⟨rfl,q⟩
     rw [q,decide_eq_true q1];clear q S1
     first|refine k_t rfl rfl ?_|refine k_f rfl rfl ?_
     refine k_m rfl ?_
     first|refine k_q 17 ?_|refine rG 17 (Calm.fieldAddr ty_field_33_5 rfl) ?_
     first|refine k_q 17 ?_|refine rG 17 (ld_ ty_plain_26 rfl) ?_
     first|refine k_q 17 ?_|refine rG 17 (Calm.fieldAddr ty_field_33_5 rfl) ?_
     first|refine k_q 17 ?_|refine rG 17 (ld_ ty_plain_26 rfl) ?_
     refine ARun.callG 12 true 17 rfl (lit_lt rfl) rfl (lit_lt rfl) go_47 rfl (losV_EqualI x.plcs y.plcs _ _ _ (h4.less less_) (k4.less less_)) ?_
     rintro _ S1 ⟨rfl,q⟩
     rw [q,decide_eq_true q2];clear q S1
     first|refine k_t rfl rfl ?_|refine k_f rfl rfl ?_
     refine k_m rfl ?_
     first|refine k_q 24 ?_|refine rG 24 (Calm.fieldAddr ty_field_33_4 rfl) ?_
     first|refine k_q 24 ?_|refine rG 24 (Calm.fieldAddr ty_field_31_0 rfl) ?_
     first|refine k_q 24 ?_|refine rG 24 (ldA_ (cs:=[_,_]) ty_agg_29 ty_size_29 rfl) ?_
     first|refine k_q 24 ?_|refine rG 24 (Calm.fieldAddr ty_field_33_4 rfl) ?_
     first|refine k_q 24 ?_|refine rG 24 (Calm.fieldAddr ty_field_31_0 rfl) ?_
     first|refine k_q 24 ?_|refine rG 24 (ldA_ (cs:=[_,_]) ty_agg_29 ty_size_29 rfl) ?_
     first|refine k_q 24 ?_|refine rG 24 (Calm.bin rfl rfl (bin_bool (bin_eql_Bitstr _ _ _ _) (decide_eq_false q3))) ?_
     first|refine k_t rfl rfl ?_|refine k_f rfl rfl ?_
     refine k_m rfl ?_
     first|refine k_q 33 ?_|refine rG 33 (Calm.fieldAddr ty_field_33_4 rfl) ?_
     first|refine k_q 33 ?_|refine rG 33 (Calm.fieldAddr ty_field_31_1 rfl) ?_
     first|refine k_q 33 ?_|refine rG 33 (ld_ ty_plain_26 rfl) ?_
     first|refine k_q 33 ?_|refine rG 33 (Calm.fieldAddr ty_field_33_4 rfl) ?_
     first|refine k_q 33 ?_|refine rG 33 (Calm.fieldAddr ty_field_31_1 rfl) ?_
     first|refine k_q 33 ?_|refine rG 33 (ld_ ty_plain_26 rfl) ?_
     first | refine rS 33 ?_ | refine rU 33 ?_
     first|refine k_t rfl rfl ?_|refine k_f rfl rfl ?_
     refine k_e rfl ?_
     refine k_u [(0,_),(1,_),(2,_),(3,_),(4,_)] ?_
     refine AWP.ret ?_
     refine ⟨_,S,⟨_,_,rfl,rfl,rfl⟩,less_,?_⟩
     exact ⟨rfl,rfl⟩
   ·rw [decide_eq_true q0,Bool.true_and,decide_eq_true q1,Bool.true_and,decide_eq_false q2,Bool.false_and]
    refine ACall.enter (rs:=[.tmp 4]) 42 [(0,.agg #[.string x.col,.int .i64 x.pri,.slice p1 x.fir.length c1,.slice p2 n2 c2,.string x.bits,.int .i64 x.n,.slice p3 x.cnts.length c3,.slice p4 x.plcs.length c4]),(1,.agg #[.string y.col,.int .i64 y.pri,.slice d1 y.fir.length e1,.slice d2 m2 e2,.string y.bits,.int .i64 y.n,.slice d3 y.cnts.length e3,.slice d4 y.plcs.length e4])] Tryz.func28 rfl rfl (Nat.le_of_ble_eq_true rfl) rfl ⟨rfl,rfl,trivial⟩ ?_
    refine k_a ?_
    refine ARun.boxA (cs:=[_,_,_,_,_,_,_,_]) (lit_lt rfl) rfl ?_
    intro b2 f2
    have g2:=f2
    repeat ((with_reducible replace g2:=fresh_set g2);obtain ⟨g2,_⟩:=g2)
    try simp only [k_l1,k_l0,k_za,Nat.reduceAdd]
    refine ARun.boxA (cs:=[_,_,_,_,_,_,_,_]) (lit_lt rfl) rfl ?_
    intro b3 f3
    have g3:=f3
    repeat ((with_reducible replace g3:=fresh_set g3);obtain ⟨g3,_⟩:=g3)
    try simp only [k_l1,k_l0,k_za,Nat.reduceAdd]
    refine k_e rfl (k_a ?_)
    refine rC (Calm.fieldAddr ty_field_33_2 rfl) ?_
    refine rC (ld_ ty_plain_26 rfl) ?_
    refine rC (Calm.fieldAddr ty_field_33_2 rfl) ?_
    refine rC (ld_ ty_plain_26 rfl) ?_
    refine ARun.call (lit_lt rfl) go_47 rfl (losV_EqualI x.fir y.fir _ _ _ (h1.less less_) (k1.less less_)) ?_
    rintro _ S1 ⟨rfl,q⟩
    rw [q,decide_eq_true q0];clear q S1
    refine k_m rfl ?_
    first|refine k_q 10 ?_|refine rG 10 (Calm.fieldAddr ty_field_33_3 rfl) ?_
    first|refine k_q 10 ?_|refine rG 10 (ld_ ty_plain_27 rfl) ?_
    first|refine k_q 10 ?_|refine rG 10 (Calm.fieldAddr ty_field_33_3 rfl) ?_
    first|refine k_q 10 ?_|refine rG 10 (ld_ ty_plain_27 rfl) ?_
    refine ARun.callG 5 true 10 rfl (lit_lt rfl) rfl (lit_lt rfl) go_48 rfl (fd_EqualFunc x.mks y.mks _ _ _ (h2.less intsV_less less_) (k2.less intsV_less less_)) ?_
    rintro _ S1 ⟨rfl,q⟩
    rw [q,decide_eq_true q1];clear q S1
    first|refine k_t rfl rfl ?_|refine k_f rfl rfl ?_
    refine k_m rfl ?_
    first|refine k_q 17 ?_|refine rG 17 (Calm.fieldAddr ty_field_33_5 rfl) ?_
    first|refine k_q 17 ?_|refine rG 17 (ld_ ty_plain_26 rfl) ?_
    first|refine k_q 17 ?_|refine rG 17 (Calm.fieldAddr ty_field_33_5 rfl) ?_
    first|refine k_q 17 ?_|refine rG 17 (ld_ ty_plain_26 rfl) ?_
    refine ARun.callG 12 true 17 rfl (lit_lt rfl) rfl (lit_lt rfl) go_47 rfl (losV_EqualI x.plcs y.plcs _ _ _ (h4.less less_) (k4.less less_)) ?_
    rintro _ S1 ⟨rfl,q⟩
    rw [q,decide_eq_false q2];clear q S1
    first|refine k_t rfl rfl ?_|refine k_f rfl rfl ?_
    refine k_m rfl ?_
    first|refine k_q 24 ?_|refine rG 24 (Calm.fieldAddr ty_field_33_4 rfl) ?_
    first|refine k_q 24 ?_|refine rG 24 (Calm.fieldAddr ty_field_31_0 rfl) ?_
    first|refine k_q 24 ?_|refine rG 24 (ldA_ (cs:=[_,_]) ty_agg_29 ty_size_29 rfl) ?_
    first|refine k_q 24 ?_|refine rG 24 (Calm.fieldAddr ty_field_33_4 rfl) ?_
    first|refine k_q 24 ?_|refine rG 24 (Calm.fieldAddr ty_field_31_0 rfl) ?_
    first|refine k_q 24 ?_|refine rG 24 (ldA_ (cs:=[_,_]) ty_agg_29 ty_size_29 rfl) ?_
    first|refine k_q 24 ?_|refine rG 24 (Calm.bin rfl rfl (BIN_struct)) ?_
    first|refine k_t rfl rfl ?_|refine k_f rfl rfl ?_
    refine k_m rfl ?_
    first|refine k_q 33 ?_|refine rG 33 (Calm.fieldAddr ty_field_33_4 rfl) ?_
    first|refine k_q 33 ?_|refine rG 33 (Calm.fieldAddr ty_field_31_1 rfl) ?_
    first|refine k_q 33 ?_|refine rG 33 (ld_ ty_plain_26 rfl) ?_
    first|refine k_q 33 ?_|refine rG 33 (Calm.fieldAddr ty_field_33_4 rfl) ?_
    first|refine k_q 33 ?_|refine rG 33 (Calm.fieldAddr ty_field_31_1 rfl) ?_
    first|refine k_q 33 ?_|refine rG 33 (ld_ ty_plain_26 rfl) ?_
    first | refine rS 33 ?_ | refine rU 33 ?_
    first|refine k_t rfl rfl ?_|refine k_f rfl rfl ?_
    refine k_e rfl ?_
    refine k_u [(0,_),(1,_),(2,_),(3,_),(4,_)] ?_
    refine AWP.ret ?_
    refine ⟨_,S,⟨_,_,rfl,rfl,rfl⟩,less_,?_⟩
    exact ⟨rfl,rfl⟩
  ·rw [decide_eq_true q0,Bool.true_and,decide_eq_false q1,Bool.false_and]
   refine ACall.enter (rs:=[.tmp 4]) 42 [(0,.agg #[.string x.col,.int .i64 x.pri,.slice p1 x.fir.length c1,.slice p2 n2 c2,.string x.bits,.int .i64 x.n,.slice p3 x.cnts.length c3,.slice p4 x.plcs.length c4]),(1,.agg #[.string y.col,.int .i64 y.pri,.slice d1 y.fir.length e1,.slice d2 m2 e2,.string y.bits,.int .i64 y.n,.slice d3 y.cnts.length e3,.slice d4 y.plcs.length e4])] Tryz.func28 rfl rfl (Nat.le_of_ble_eq_true rfl) rfl ⟨rfl,rfl,trivial⟩ ?_
   refine k_a ?_
   refine ARun.boxA (cs:=[_,_,_,_,_,_,_,_]) (lit_lt rfl) rfl ?_
   intro b2 f2
   have g2:=f2
   repeat ((with_reducible replace g2:=fresh_set g2);obtain ⟨g2,_⟩:=g2)
   try simp only [k_l1,k_l0,k_za,Nat.reduceAdd]
   refine ARun.boxA (cs:=[_,_,_,_,_,_,_,_]) (lit_lt rfl) rfl ?_
   intro b3 f3
   have g3:=f3
   repeat ((with_reducible replace g3:=fresh_set g3);obtain ⟨g3,_⟩:=g3)
   try simp only [k_l1,k_l0,k_za,Nat.reduceAdd]
   refine k_e rfl (k_a ?_)
   refine rC (Calm.fieldAddr ty_field_33_2 rfl) ?_
   refine rC (ld_ ty_plain_26 rfl) ?_
   refine rC (Calm.fieldAddr ty_field_33_2 rfl) ?_
   refine rC (ld_ ty_plain_26 rfl) ?_
   refine ARun.call (lit_lt rfl) go_47 rfl (losV_EqualI x.fir y.fir _ _ _ (h1.less less_) (k1.less less_)) ?_
   rintro _ S1 ⟨rfl,q⟩
   rw [q,decide_eq_true q0];clear q S1
   refine k_m rfl ?_
   first|refine k_q 10 ?_|refine rG 10 (Calm.fieldAddr ty_field_33_3 rfl) ?_
   first|refine k_q 10 ?_|refine rG 10 (ld_ ty_plain_27 rfl) ?_
   first|refine k_q 10 ?_|refine rG 10 (Calm.fieldAddr ty_field_33_3 rfl) ?_
   first|refine k_q 10 ?_|refine rG 10 (ld_ ty_plain_27 rfl) ?_
   refine ARun.callG 5 true 10 rfl (lit_lt rfl) rfl (lit_lt rfl) go_48 rfl (fd_EqualFunc x.mks y.mks _ _ _ (h2.less intsV_less less_) (k2.less intsV_less less_)) ?_
   rintro _ S1 ⟨rfl,q⟩
   rw [q,decide_eq_false q1];clear q S1
   first|refine k_t rfl rfl ?_|refine k_f rfl rfl ?_
   refine k_m rfl ?_
   first|refine k_q 17 ?_|refine rG 17 (Calm.fieldAddr ty_field_33_5 rfl) ?_
   first|refine k_q 17 ?_|refine rG 17 (ld_ ty_plain_26 rfl) ?_
   first|refine k_q 17 ?_|refine rG 17 (Calm.fieldAddr ty_field_33_5 rfl) ?_
   first|refine k_q 17 ?_|refine rG 17 (ld_ ty_plain_26 rfl) ?_
   first | refine rS 17 ?_ | refine rU 17 ?_
   first|refine k_t rfl rfl ?_|refine k_f rfl rfl ?_
   refine k_m rfl ?_
   first|refine k_q 24 ?_|refine rG 24 (Calm.fieldAddr ty_field_33_4 rfl) ?_
   first|refine k_q 24 ?_|refine rG 24 (Calm.fieldAddr ty_field_31_0 rfl) ?_
   first|refine k_q 24 ?_|refine rG 24 (ldA_ (cs:=[_,_]) ty_agg_29 ty_size_29 rfl) ?_
   first|refine k_q 24 ?_|refine rG 24 (Calm.fieldAddr ty_field_33_4 rfl) ?_
   first|refine k_q 24 ?_|refine rG 24 (Calm.fieldAddr ty_field_31_0 rfl) ?_
   first|refine k_q 24 ?_|refine rG 24 (ldA_ (cs:=[_,_]) ty_agg_29 ty_size_29 rfl) ?_
   first|refine k_q 24 ?_|refine rG 24 (Calm.bin rfl rfl (BIN_struct)) ?_
   first|refine k_t rfl rfl ?_|refine k_f rfl rfl ?_
   refine k_m rfl ?_
   first|refine k_q 33 ?_|refine rG 33 (Calm.fieldAddr ty_field_33_4 rfl) ?_
   first|refine k_q 33 ?_|refine rG 33 (Calm.fieldAddr ty_field_31_1 rfl) ?_
   first|refine k_q 33 ?_|refine rG 33 (ld_ ty_plain_26 rfl) ?_
   first|refine k_q 33 ?_|refine rG 33 (Calm.fieldAddr ty_field_33_4 rfl) ?_
   first|refine k_q 33 ?_|refine rG 33 (Calm.fieldAddr ty_field_31_1 rfl) ?_
   first|refine k_q 33 ?_|refine rG 33 (ld_ ty_plain_26 rfl) ?_
   first | refine rS 33 ?_ | refine rU 33 ?_
   first|refine k_t rfl rfl ?_|refine k_f rfl rfl ?_
   refine k_e rfl ?_
   refine k_u [(0,_),(1,_),(2,_),(3,_),(4,_)] ?_
   refine AWP.ret ?_
   refine ⟨_,S,⟨_,_,rfl,rfl,rfl⟩,less_,?_⟩
   exact ⟨rfl,rfl⟩
 ·rw [decide_eq_false q0,Bool.false_and]
  refine ACall.enter (rs:=[.tmp 4]) 42 [(0,.agg #[.string x.col,.int .i64 x.pri,.slice p1 x.fir.length c1,.slice p2 n2 c2,.string x.bits,.int .i64 x.n,.slice p3 x.cnts.length c3,.slice p4 x.plcs.length c4]),(1,.agg #[.string y.col,.int .i64 y.pri,.slice d1 y.fir.length e1,.slice d2 m2 e2,.string y.bits,.int .i64 y.n,.slice d3 y.cnts.length e3,.slice d4 y.plcs.length e4])] Tryz.func28 rfl rfl (Nat.le_of_ble_eq_true rfl) rfl ⟨rfl,rfl,trivial⟩ ?_
  refine k_a ?_
  refine ARun.boxA (cs:=[_,_,_,_,_,_,_,_]) (lit_lt rfl) rfl ?_
  intro b2 f2
  have g2:=f2
  repeat ((with_reducible replace g2:=fresh_set g2);obtain ⟨g2,_⟩:=g2)
  try simp only [k_l1,k_l0,k_za,Nat.reduceAdd]
  refine ARun.boxA (cs:=[_,_,_,_,_,_,_,_]) (lit_lt rfl) rfl ?_
  intro b3 f3
  have g3:=f3
  repeat ((with_reducible replace g3:=fresh_set g3);obtain ⟨g3,_⟩:=g3)
  try simp only [k_l1,k_l0,k_za,Nat.reduceAdd]
  refine k_e rfl (k_a ?_)
  refine rC (Calm.fieldAddr ty_field_33_2 rfl) ?_
  refine rC (ld_ ty_plain_26 rfl) ?_
  refine rC (Calm.fieldAddr ty_field_33_2 rfl) ?_
  refine rC (ld_ ty_plain_26 rfl) ?_
  refine ARun.call (lit_lt rfl) go_47 rfl (losV_EqualI x.fir y.fir _ _ _ (h1.less less_) (k1.less less_)) ?_
  rintro _ S1 ⟨rfl,q⟩
  rw [q,decide_eq_false q0];clear q S1
  refine k_m rfl ?_
  first|refine k_q 10 ?_|refine rG 10 (Calm.fieldAddr ty_field_33_3 rfl) ?_
  first|refine k_q 10 ?_|refine rG 10 (ld_ ty_plain_27 rfl) ?_
  first|refine k_q 10 ?_|refine rG 10 (Calm.fieldAddr ty_field_33_3 rfl) ?_
  first|refine k_q 10 ?_|refine rG 10 (ld_ ty_plain_27 rfl) ?_
  first | refine rS 10 ?_ | refine rU 10 ?_
  first|refine k_t rfl rfl ?_|refine k_f rfl rfl ?_
  refine k_m rfl ?_
  first|refine k_q 17 ?_|refine rG 17 (Calm.fieldAddr ty_field_33_5 rfl) ?_
  first|refine k_q 17 ?_|refine rG 17 (ld_ ty_plain_26 rfl) ?_
  first|refine k_q 17 ?_|refine rG 17 (Calm.fieldAddr ty_field_33_5 rfl) ?_
  first|refine k_q 17 ?_|refine rG 17 (ld_ ty_plain_26 rfl) ?_
  first | refine rS 17 ?_ | refine rU 17 ?_
  first|refine k_t rfl rfl ?_|refine k_f rfl rfl ?_
  refine k_m rfl ?_
  first|refine k_q 24 ?_|refine rG 24 (Calm.fieldAddr ty_field_33_4 rfl) ?_
  first|refine k_q 24 ?_|refine rG 24 (Calm.fieldAddr ty_field_31_0 rfl) ?_
  first|refine k_q 24 ?_|refine rG 24 (ldA_ (cs:=[_,_]) ty_agg_29 ty_size_29 rfl) ?_
  first|refine k_q 24 ?_|refine rG 24 (Calm.fieldAddr ty_field_33_4 rfl) ?_
  first|refine k_q 24 ?_|refine rG 24 (Calm.fieldAddr ty_field_31_0 rfl) ?_
  first|refine k_q 24 ?_|refine rG 24 (ldA_ (cs:=[_,_]) ty_agg_29 ty_size_29 rfl) ?_
  first|refine k_q 24 ?_|refine rG 24 (Calm.bin rfl rfl (BIN_struct)) ?_
  first|refine k_t rfl rfl ?_|refine k_f rfl rfl ?_
  refine k_m rfl ?_
  first|refine k_q 33 ?_|refine rG 33 (Calm.fieldAddr ty_field_33_4 rfl) ?_
  first|refine k_q 33 ?_|refine rG 33 (Calm.fieldAddr ty_field_31_1 rfl) ?_
  first|refine k_q 33 ?_|refine rG 33 (ld_ ty_plain_26 rfl) ?_
  first|refine k_q 33 ?_|refine rG 33 (Calm.fieldAddr ty_field_33_4 rfl) ?_
  first|refine k_q 33 ?_|refine rG 33 (Calm.fieldAddr ty_field_31_1 rfl) ?_
  first|refine k_q 33 ?_|refine rG 33 (ld_ ty_plain_26 rfl) ?_
  first | refine rS 33 ?_ | refine rU 33 ?_
  first|refine k_t rfl rfl ?_|refine k_f rfl rfl ?_
  refine k_e rfl ?_
  refine k_u [(0,_),(1,_),(2,_),(3,_),(4,_)] ?_
  refine AWP.ret ?_
  refine ⟨_,S,⟨_,_,rfl,rfl,rfl⟩,less_,?_⟩
  exact ⟨rfl,rfl⟩
end Go.Proofs.YtgidjbpgkeemiaaGreat
namespace Go.Proofs.YtgidjbpgkeemiaaGreat
open Go.RowKit Go.Shelf
open Mv Num Loser Srt
set_option maxRecDepth 8000
/-! ### Whether an index is right -/
noncomputable def mkX (x : Ix) : Ix := ixP x.col x.pri.toNat (textP x.col x.pri).1
open Classical in
noncomputable def chkX (x : Ix) : Nat := if (textP x.col x.pri).2 = 0 ∧ sameX x (mkX x) = true then 0 else 2
theorem chk_two (x : Ix) : chkX x = 0 ∨ chkX x = 2 := by unfold chkX; split <;> simp
/-- A right one. -/
structure OkX (x : Ix) (p : Nat) (t : ByteArray) : Prop where
  txt : textP x.col p = (t, 0)
  is : x = ixP x.col p t
  le : p ≤ x.col.size
  small : x.col.size ≤ 4096
  col : Fd.Col (numsT t) (numsT x.col) p
  size : t.size = x.col.size
theorem chk_ok {x : Ix} (h : chkX x = 0) : ∃ p t, OkX x p t ∧ x.pri = (p : Nat) := by
 unfold chkX at h
 split at h
 case isFalse=>cases h
 rename_i hh
 obtain ⟨h1,h2⟩:=hh
 obtain ⟨p,ep,q1,q2,q3,q4⟩:=text_col h1
 refine ⟨p,(textP x.col p).1,?_,ep⟩
 unfold mkX at h2
 rw [ep] at h1 h2 q3 q4
 rw [Int.toNat_natCast] at h2
 unfold sameX at h2
 simp only [Bool.and_eq_true,decide_eq_true_eq] at h2
 obtain ⟨e1,e2,e3,⟨e4,e5⟩,e6⟩:=h2
 refine ⟨Prod.ext rfl h1,?_,q1,q2,q3,q4⟩
 cases x
 simp only at *
 subst ep
 rw [Ix.mk.injEq]
 exact ⟨rfl,rfl,e1,e2,e4,e5,e6,e3⟩
theorem ok_chk {x : Ix} {p : Nat} {t : ByteArray} (h : OkX x p t) (hp : x.pri = (p : Nat)) : chkX x = 0 := by
 unfold chkX
 have e:mkX x=x:=by unfold mkX;rw [hp,Int.toNat_natCast,h.txt];exact h.is.symm
 rw [if_pos ⟨by rw [hp,h.txt],by rw [e];simp [sameX]⟩]
/-- The fields of an index that lies somewhere. -/
theorem IxV.parts {S : Mem} {cs : List Value} {x : Ix} (h : IxV S cs x) : ∃ p1 c1 n2 p2 c2 p3 c3 p4 c4, cs = [.string x.col, .int .i64 x.pri, .slice p1 x.fir.length c1, .slice p2 n2 c2, .string x.bits, .int .i64 x.n, .slice p3 x.cnts.length c3, .slice p4 x.plcs.length c4] ∧ IntsV S (.slice p1 x.fir.length c1) x.fir ∧ SlOf IntsV S (.slice p2 n2 c2) x.mks ∧ IntsV S (.slice p3 x.cnts.length c3) x.cnts ∧ IntsV S (.slice p4 x.plcs.length c4) x.plcs := by
 obtain ⟨v2,v3,v6,v7,rfl,h1,h2,h3,h4⟩:=h
 obtain ⟨p1,c1,rfl,_⟩:=id h1
 obtain ⟨p3,c3,rfl,_⟩:=id h3
 obtain ⟨p4,c4,rfl,_⟩:=id h4
 obtain ⟨n2,p2,c2,rfl⟩ : ∃ n p c,v3 = .slice p n c:=by obtain ⟨g,_,⟨p,c,rfl,_⟩,_⟩:=id h2;exact ⟨_,_,_,rfl⟩
 exact ⟨p1,c1,n2,p2,c2,p3,c3,p4,c4,rfl,h1,h2,h3,h4⟩
theorem MkR.yes {s : ByteArray} {pp : Int} {S S' : Mem} {r : Value} (h : MkR s pp S r S') (h0 : (textP s pp).2 = 0) : ∃ p1 c1 n2 p2 c2 p3 c3 p4 c4, ∀ y, y = ixP s pp.toNat (textP s pp).1 → r = .tuple #[.agg #[.string y.col, .int .i64 y.pri, .slice p1 y.fir.length c1, .slice p2 n2 c2, .string y.bits, .int .i64 y.n, .slice p3 y.cnts.length c3, .slice p4 y.plcs.length c4], .int .i64 0] ∧ S.Less S' ∧ IxV S' [.string y.col, .int .i64 y.pri, .slice p1 y.fir.length c1, .slice p2 n2 c2, .string y.bits, .int .i64 y.n, .slice p3 y.cnts.length c3, .slice p4 y.plcs.length c4] y := by
 rcases h with ⟨_,cs,h1,h2,h3⟩ | ⟨h,_⟩
 ·obtain ⟨p1,c1,n2,p2,c2,p3,c3,p4,c4,e,_⟩:=h3.parts
  exact ⟨p1,c1,n2,p2,c2,p3,c3,p4,c4,fun y hy=>by subst hy;subst e;exact ⟨h1,h2,h3⟩⟩
 ·exact absurd h0 h
theorem MkR.no {s : ByteArray} {pp : Int} {S S' : Mem} {r : Value} (h : MkR s pp S r S') (h0 : (textP s pp).2 ≠ 0) : r = .tuple #[.agg (ixC zix (.slice none 0 0) (.slice none 0 0) (.slice none 0 0) (.slice none 0 0)).toArray, .int .i64 ((textP s pp).2 : Nat)] ∧ S' = S := by
 rcases h with ⟨h,_⟩ | ⟨_,h⟩
 ·exact absurd h h0
 ·exact h
set_option maxHeartbeats 4000000 in
theorem fd_Check (x : Ix) (cx : List Value) (S : Mem) (hx : IxV S cx x) :
  ACall Tryz.prog 14 #[.agg cx.toArray] S fun r S'=>r = .int .i64 (chkX x:Nat)∧S'=S:=by
 have hx0:=hx
 obtain ⟨v2,v3,v6,v7,rfl,h1,h2,h3,h4⟩:=hx
 by_cases h0:(textP x.col x.pri).2=0
 ·by_cases h5:sameX x (mkX x)=true
  ·have e:chkX x=0:=by unfold chkX;rw [if_pos ⟨h0,h5⟩]
   rw [e]
   refine ACall.enter (rs:=[.tmp 2]) 21 [(0,.agg #[.string x.col,.int .i64 x.pri,v2,v3,.string x.bits,.int .i64 x.n,v6,v7])] Tryz.func14 rfl rfl (Nat.le_of_ble_eq_true rfl) rfl ⟨rfl,trivial⟩ ?_
   refine k_a ?_
   refine ARun.boxA (cs:=[_,_,_,_,_,_,_,_]) (lit_lt rfl) rfl ?_
   intro b1 f1
   have g1:=f1
   repeat ((with_reducible replace g1:=fresh_set g1);obtain ⟨g1,_⟩:=g1)
   try simp only [k_l1,k_l0,k_za,Nat.reduceAdd]
   refine k_e rfl (k_a ?_)
   refine rC (Calm.fieldAddr ty_field_33_0 rfl) ?_
   refine rC (ld_ ty_plain_9 rfl) ?_
   refine rC (Calm.fieldAddr ty_field_33_1 rfl) ?_
   refine rC (ld_ ty_plain_3 rfl) ?_
   refine ARun.call (lit_lt rfl) go_8 rfl (((fd_Make x.col x.pri S).frame f1)) ?_
   rintro _ _ ⟨S1,hm,f1a,rfl⟩
   obtain ⟨p1,c1,n2,p2,c2,p3,c3,p4,c4,hyy⟩:=hm.yes h0
   obtain ⟨y,hye⟩ : ∃ y,y=ixP x.col x.pri.toNat (textP x.col x.pri).1:=⟨_,rfl⟩
   obtain ⟨rfl,hS1,hy⟩:=hyy y hye
   clear hyy hm
   refine k_m rfl ?_
   refine rC (Calm.extract rfl rfl) ?_
   refine rC (Calm.extract rfl rfl) ?_
   refine ARun.alloc (lit_lt rfl) ty_zero_33 ?_
   intro b3 f3
   have g3:=f3
   repeat ((with_reducible replace g3:=fresh_set g3);obtain ⟨g3,_⟩:=g3)
   try simp only [k_l1,k_l0,k_za,Nat.reduceAdd]
   first|refine k_A rfl rfl ty_size_33 ?_|refine k_B rfl rfl ty_size_33 ?_
   try simp only [k_ms,k_sz,k_ss,k_za,Nat.reduceAdd]
   refine k_e rfl ?_
   refine k_u [(0,_),(1,_),(2,_),(3,_),(4,_)] ?_
   refine AWP.seq (k_a (k_m rfl ?_))
   refine rC (Calm.bin rfl rfl b_neq) ?_
   refine k_m rfl ?_
   first|refine k_q 15 ?_|refine rG 15 (ldA_ (cs:=[_,_,_,_,_,_,_,_]) ty_agg_33 ty_size_33 rfl) ?_
   first|refine k_q 15 ?_|refine rG 15 (ldA_ (cs:=[_,_,_,_,_,_,_,_]) ty_agg_33 ty_size_33 rfl) ?_
   refine ARun.callG 2 false 15 rfl (lit_lt rfl) rfl (lit_lt rfl) go_28 rfl (fd_same x _ _ _ _ (hx0.less (hS1.trans less_)) (hy.less less_)) ?_
   rintro _ S2 ⟨rfl,q⟩
   rw [q];clear q S2
   rw [show sameX x y=true from by rw [hye];exact h5]
   first|refine k_q 15 ?_|refine rG 15 (Calm.un rfl (una_not _)) ?_
   first|refine k_t rfl rfl ?_|refine k_f rfl rfl ?_
   refine k_n ?_
   refine k_u [(0,_),(1,_),(2,_),(3,_),(4,_),(20,_)] ?_
   refine k_F rfl ?_
   refine k_k (k_a (k_e rfl ?_))
   refine AWP.ret ?_
   refine ⟨_,S,⟨_,_,rfl,rfl,rfl⟩,hS1.trans less_,?_⟩
   exact ⟨rfl,rfl⟩
  ·have e:chkX x=2:=by unfold chkX;rw [if_neg (fun h=>h5 h.2)]
   rw [e]
   refine ACall.enter (rs:=[.tmp 2]) 21 [(0,.agg #[.string x.col,.int .i64 x.pri,v2,v3,.string x.bits,.int .i64 x.n,v6,v7])] Tryz.func14 rfl rfl (Nat.le_of_ble_eq_true rfl) rfl ⟨rfl,trivial⟩ ?_
   refine k_a ?_
   refine ARun.boxA (cs:=[_,_,_,_,_,_,_,_]) (lit_lt rfl) rfl ?_
   intro b1 f1
   have g1:=f1
   repeat ((with_reducible replace g1:=fresh_set g1);obtain ⟨g1,_⟩:=g1)
   try simp only [k_l1,k_l0,k_za,Nat.reduceAdd]
   refine k_e rfl (k_a ?_)
   refine rC (Calm.fieldAddr ty_field_33_0 rfl) ?_
   refine rC (ld_ ty_plain_9 rfl) ?_
   refine rC (Calm.fieldAddr ty_field_33_1 rfl) ?_
   refine rC (ld_ ty_plain_3 rfl) ?_
   refine ARun.call (lit_lt rfl) go_8 rfl (((fd_Make x.col x.pri S).frame f1)) ?_
   rintro _ _ ⟨S1,hm,f1a,rfl⟩
   obtain ⟨p1,c1,n2,p2,c2,p3,c3,p4,c4,hyy⟩:=hm.yes h0
   obtain ⟨y,hye⟩ : ∃ y,y=ixP x.col x.pri.toNat (textP x.col x.pri).1:=⟨_,rfl⟩
   obtain ⟨rfl,hS1,hy⟩:=hyy y hye
   clear hyy hm
   refine k_m rfl ?_
   refine rC (Calm.extract rfl rfl) ?_
   refine rC (Calm.extract rfl rfl) ?_
   refine ARun.alloc (lit_lt rfl) ty_zero_33 ?_
   intro b3 f3
   have g3:=f3
   repeat ((with_reducible replace g3:=fresh_set g3);obtain ⟨g3,_⟩:=g3)
   try simp only [k_l1,k_l0,k_za,Nat.reduceAdd]
   first|refine k_A rfl rfl ty_size_33 ?_|refine k_B rfl rfl ty_size_33 ?_
   try simp only [k_ms,k_sz,k_ss,k_za,Nat.reduceAdd]
   refine k_e rfl ?_
   refine k_u [(0,_),(1,_),(2,_),(3,_),(4,_)] ?_
   refine AWP.seq (k_a (k_m rfl ?_))
   refine rC (Calm.bin rfl rfl b_neq) ?_
   refine k_m rfl ?_
   first|refine k_q 15 ?_|refine rG 15 (ldA_ (cs:=[_,_,_,_,_,_,_,_]) ty_agg_33 ty_size_33 rfl) ?_
   first|refine k_q 15 ?_|refine rG 15 (ldA_ (cs:=[_,_,_,_,_,_,_,_]) ty_agg_33 ty_size_33 rfl) ?_
   refine ARun.callG 2 false 15 rfl (lit_lt rfl) rfl (lit_lt rfl) go_28 rfl (fd_same x _ _ _ _ (hx0.less (hS1.trans less_)) (hy.less less_)) ?_
   rintro _ S2 ⟨rfl,q⟩
   rw [q];clear q S2
   rw [show sameX x y=false from by rw [hye];exact Bool.eq_false_iff.2 h5]
   first|refine k_q 15 ?_|refine rG 15 (Calm.un rfl (una_not _)) ?_
   first|refine k_t rfl rfl ?_|refine k_f rfl rfl ?_
   refine k_n ?_
   refine k_u [(0,_),(1,_),(2,_),(3,_),(4,_),(20,_)] ?_
   refine k_T rfl ?_
   refine k_a (k_e rfl ?_)
   refine k_r ?_
   refine ⟨_,S,⟨_,_,rfl,rfl,rfl⟩,hS1.trans less_,?_⟩
   exact ⟨rfl,rfl⟩
 ·have e:chkX x=2:=by unfold chkX;rw [if_neg (fun h=>h0 h.1)]
  rw [e]
  refine ACall.enter (rs:=[.tmp 2]) 21 [(0,.agg #[.string x.col,.int .i64 x.pri,v2,v3,.string x.bits,.int .i64 x.n,v6,v7])] Tryz.func14 rfl rfl (Nat.le_of_ble_eq_true rfl) rfl ⟨rfl,trivial⟩ ?_
  refine k_a ?_
  refine ARun.boxA (cs:=[_,_,_,_,_,_,_,_]) (lit_lt rfl) rfl ?_
  intro b1 f1
  have g1:=f1
  repeat ((with_reducible replace g1:=fresh_set g1);obtain ⟨g1,_⟩:=g1)
  try simp only [k_l1,k_l0,k_za,Nat.reduceAdd]
  refine k_e rfl (k_a ?_)
  refine rC (Calm.fieldAddr ty_field_33_0 rfl) ?_
  refine rC (ld_ ty_plain_9 rfl) ?_
  refine rC (Calm.fieldAddr ty_field_33_1 rfl) ?_
  refine rC (ld_ ty_plain_3 rfl) ?_
  refine ARun.call (lit_lt rfl) go_8 rfl (((fd_Make x.col x.pri S).frame f1)) ?_
  rintro _ _ ⟨S1,hm,f1a,rfl⟩
  obtain ⟨rfl,hSS⟩:=hm.no h0
  obtain rfl:S=S1:=hSS.symm
  clear hSS hm
  refine k_m rfl ?_
  refine rC (Calm.extract rfl rfl) ?_
  refine rC (Calm.extract rfl rfl) ?_
  refine ARun.alloc (lit_lt rfl) ty_zero_33 ?_
  intro b3 f3
  have g3:=f3
  repeat ((with_reducible replace g3:=fresh_set g3);obtain ⟨g3,_⟩:=g3)
  try simp only [k_l1,k_l0,k_za,Nat.reduceAdd]
  first|refine k_A rfl rfl ty_size_33 ?_|refine k_B rfl rfl ty_size_33 ?_
  try simp only [k_ms,k_sz,k_ss,k_za,Nat.reduceAdd]
  refine k_e rfl ?_
  refine k_u [(0,_),(1,_),(2,_),(3,_),(4,_)] ?_
  refine AWP.seq (k_a (k_m rfl ?_))
  refine rC (Calm.bin rfl rfl b_neq) ?_
  refine k_m rfl ?_
  first|refine k_q 15 ?_|refine rG 15 (ldA_ (cs:=[_,_,_,_,_,_,_,_]) ty_agg_33 ty_size_33 rfl) ?_
  first|refine k_q 15 ?_|refine rG 15 (ldA_ (cs:=[_,_,_,_,_,_,_,_]) ty_agg_33 ty_size_33 rfl) ?_
  first | refine rS 15 ?_ | refine rU 15 ?_
  first|refine k_q 15 ?_|refine rG 15 (Calm.un rfl (una_not _)) ?_
  first|refine k_t rfl rfl ?_|refine k_f rfl rfl ?_
  refine k_n ?_
  refine k_u [(0,_),(1,_),(2,_),(3,_),(4,_),(20,_)] ?_
  refine k_T rfl ?_
  refine k_a (k_e rfl ?_)
  refine k_r ?_
  refine ⟨_,S,⟨_,_,rfl,rfl,rfl⟩,less_,?_⟩
  exact ⟨rfl,rfl⟩
/-! ### A book -/
theorem slOf_idx {S : Mem} {v : Value} {l : List (List Nat)} (h : SlOf IntsV S v (l.map castL)) : SlOf IdxR S v l := by
 obtain ⟨hs,e,h1,h2⟩:=h
 refine ⟨hs,by rw [List.length_map] at e;exact e,h1,fun i hi hi'=>?_⟩
 have:=h2 i (by rw [List.length_map];exact hi) hi'
 rw [List.getElem_map] at this
 exact ints_idx this
structure Book (S : Mem) (b : Nat) (x : Ix) (p : Nat) (t : ByteArray) : Prop where
  ok : OkX x p t
  bk : BkK S b x.col p
  pl : ∃ v, S.Knows ⟨b, 7, none⟩ [v] ∧ IntsV S v x.plcs
  bits : S.Knows ⟨b, 8, none⟩ [.string x.bits]
  bv : S.Knows ⟨b, 8, none⟩ [.string x.bits, .int .i64 x.n]
  n : S.Knows ⟨b, 9, none⟩ [.int .i64 x.n]
  cnts : ∃ v, S.Knows ⟨b, 10, none⟩ [v] ∧ IntsV S v x.cnts
theorem Book.less {S S' : Mem} {b : Nat} {x : Ix} {p : Nat} {t : ByteArray} (h : Book S b x p t) (hl : S.Less S') : Book S' b x p t := by
 obtain ⟨h1,h2,⟨v,h3,h4⟩,h5,h5',h6,⟨u,h7,h8⟩⟩:=h
 exact ⟨h1,h2.less hl,⟨v,h3.less hl,h4.less hl⟩,h5.less hl,h5'.less hl,h6.less hl,⟨u,h7.less hl,h8.less hl⟩⟩
theorem book_of {S : Mem} {b : Nat} {x : Ix} {p : Nat} {t : ByteArray} {T : TypeId} {room : Nat} {v2 v3 v6 v7 : Value} (ho : OkX x p t) (hp : x.pri = (p : Nat)) (h : S.own b = some ⟨T, [.string x.col, .int .i64 x.pri, v2, v3, .string x.bits, .int .i64 x.n, v6, v7, .string x.bits, .int .i64 x.n, v6], room⟩) (h1 : IntsV S v2 x.fir) (h2 : SlOf IntsV S v3 x.mks) (h3 : IntsV S v6 x.cnts) (h4 : IntsV S v7 x.plcs) : Book S b x p t := by
 have kn:∀ (i:Nat) (v:Value),[.string x.col,.int .i64 x.pri,v2,v3,.string x.bits,.int .i64 x.n,v6,v7,.string x.bits,.int .i64 x.n,v6][i]?=some v→S.Knows ⟨b,i,none⟩ [v]:=fun i v hv=>Mem.own_knows h i _ (fun j u hj=>by
  cases j with
  | zero=>simp at hj;rw [← hj];exact hv
  | succ j=>simp at hj)
 have e1:x.fir=castL (firP x.col):=congrArg Ix.fir ho.is
 have e2:x.mks=(mksP (numsT x.col) p).map castL:=congrArg Ix.mks ho.is
 rw [e1] at h1
 rw [e2] at h2
 exact ⟨ho,⟨kn 0 _ rfl,kn 1 _ (by rw [hp];rfl),⟨v2,kn 2 _ rfl,ints_idx h1⟩,⟨v3,kn 3 _ rfl,slOf_idx h2⟩⟩,⟨v7,kn 7 _ rfl,h4⟩,kn 8 _ rfl,Mem.own_knows h 8 _ (fun j u hj=>by
  match j,hj with
  | 0,hj=>exact hj
  | 1,hj=>exact hj
  | j+2,hj=>simp at hj),kn 9 _ rfl,⟨v6,kn 10 _ rfl,h3⟩⟩
set_option maxHeartbeats 4000000 in
theorem fd_open_ok (x : Ix) (p : Nat) (t : ByteArray) (cx : List Value) (S : Mem) (hx : IxV S cx x) (ho : OkX x p t) (hp : x.pri = (p : Nat)) :
  ACall Tryz.prog 22 #[.agg cx.toArray] S fun r S'=>∃ b,r = .tuple #[.pointer (some ⟨b,0,none⟩),.int .i64 0]∧S.Less S'∧Book S' b x p t:=by
 have hx0:=hx
 obtain ⟨p1,c1,n2,p2,c2,p3,c3,p4,c4,rfl,h1,h2,h3,h4⟩:=hx.parts
 have e:=ok_chk ho hp
 refine ACall.enter (rs:=[.tmp 2,.tmp 3]) 16 [(0,.agg #[.string x.col,.int .i64 x.pri,.slice p1 x.fir.length c1,.slice p2 n2 c2,.string x.bits,.int .i64 x.n,.slice p3 x.cnts.length c3,.slice p4 x.plcs.length c4])] Tryz.func22 rfl rfl (Nat.le_of_ble_eq_true rfl) rfl ⟨rfl,trivial⟩ ?_
 refine k_a ?_
 refine ARun.boxA (cs:=[_,_,_,_,_,_,_,_]) (lit_lt rfl) rfl ?_
 intro b1 f1
 have g1:=f1
 repeat ((with_reducible replace g1:=fresh_set g1);obtain ⟨g1,_⟩:=g1)
 try simp only [k_l1,k_l0,k_za,Nat.reduceAdd]
 refine k_s rfl (k_e rfl (AWP.seq (k_a ?_)))
 refine rC (ldA_ (cs:=[_,_,_,_,_,_,_,_]) ty_agg_33 ty_size_33 rfl) ?_
 refine ARun.call (lit_lt rfl) go_14 rfl (fd_Check x _ _ (hx0.less less_)) ?_
 rintro _ S1 ⟨rfl,q⟩
 rw [q,e];clear q S1
 refine k_e rfl ?_
 refine k_u [(0,_),(1,_),(2,_),(3,_),(4,_)] ?_
 refine k_a (k_m rfl ?_)
 refine rC (Calm.bin rfl rfl b_neq) ?_
 refine k_n ?_
 refine k_u [(0,_),(1,_),(2,_),(3,_),(4,_),(8,_)] ?_
 refine k_F rfl ?_
 refine k_k (k_a ?_)
 refine rC (ldA_ (cs:=[_,_,_,_,_,_,_,_]) ty_agg_33 ty_size_33 rfl) ?_
 refine rC (Calm.fieldAddr ty_field_33_4 rfl) ?_
 refine rC (ldA_ (cs:=[_,_,_]) ty_agg_31 ty_size_31 rfl) ?_
 refine rC (Calm.build (cs:=[_,_,_]) ty_bld_57 rfl rfl) ?_
 refine rC (Calm.build (cs:=[_,_,_,_,_,_,_,_,_,_,_]) ty_bld_59 rfl rfl) ?_
 refine ARun.boxA (cs:=[_,_,_,_,_,_,_,_,_,_,_]) (lit_lt rfl) rfl ?_
 intro b15 f15
 have g15:=f15
 repeat ((with_reducible replace g15:=fresh_set g15);obtain ⟨g15,_⟩:=g15)
 try simp only [k_l1,k_l0,k_za,Nat.reduceAdd]
 refine k_s rfl (k_e rfl ?_)
 refine k_u [(0,_),(1,_),(2,_),(3,_),(4,_),(8,_)] ?_
 refine AWP.ret ?_
 refine ⟨_,_,⟨_,_,rfl,⟨_,_,rfl,rfl,rfl⟩,rfl⟩,Mem.Less.refl _,?_⟩
 exact ⟨b15,rfl,less_,book_of ho hp (Mem.own_set_same _ _ _) (h1.less less_) (h2.less intsV_less less_) (h3.less less_) (h4.less less_)⟩
set_option maxHeartbeats 4000000 in
theorem fd_open_no (x : Ix) (cx : List Value) (S : Mem) (hx : IxV S cx x) (h0 : chkX x ≠ 0) :
  ACall Tryz.prog 22 #[.agg cx.toArray] S fun r S'=>r = .tuple #[.pointer none,.int .i64 2]∧S'=S:=by
 have hx0:=hx
 obtain ⟨p1,c1,n2,p2,c2,p3,c3,p4,c4,rfl,h1,h2,h3,h4⟩:=hx.parts
 have e:chkX x=2:=(chk_two x).resolve_left h0
 refine ACall.enter (rs:=[.tmp 2,.tmp 3]) 16 [(0,.agg #[.string x.col,.int .i64 x.pri,.slice p1 x.fir.length c1,.slice p2 n2 c2,.string x.bits,.int .i64 x.n,.slice p3 x.cnts.length c3,.slice p4 x.plcs.length c4])] Tryz.func22 rfl rfl (Nat.le_of_ble_eq_true rfl) rfl ⟨rfl,trivial⟩ ?_
 refine k_a ?_
 refine ARun.boxA (cs:=[_,_,_,_,_,_,_,_]) (lit_lt rfl) rfl ?_
 intro b1 f1
 have g1:=f1
 repeat ((with_reducible replace g1:=fresh_set g1);obtain ⟨g1,_⟩:=g1)
 try simp only [k_l1,k_l0,k_za,Nat.reduceAdd]
 refine k_s rfl (k_e rfl (AWP.seq (k_a ?_)))
 refine rC (ldA_ (cs:=[_,_,_,_,_,_,_,_]) ty_agg_33 ty_size_33 rfl) ?_
 refine ARun.call (lit_lt rfl) go_14 rfl (fd_Check x _ _ (hx0.less less_)) ?_
 rintro _ S1 ⟨rfl,q⟩
 rw [q,e];clear q S1
 refine k_e rfl ?_
 refine k_u [(0,_),(1,_),(2,_),(3,_),(4,_)] ?_
 refine k_a (k_m rfl ?_)
 refine rC (Calm.bin rfl rfl b_neq) ?_
 refine k_n ?_
 refine k_u [(0,_),(1,_),(2,_),(3,_),(4,_),(8,_)] ?_
 refine k_T rfl ?_
 refine k_a (k_m rfl (k_s rfl (k_e rfl ?_)))
 refine k_u [(0,_),(1,_),(2,_),(3,_),(4,_),(8,_)] ?_
 refine k_r ?_
 refine ⟨_,S,⟨_,_,rfl,⟨_,_,rfl,rfl,rfl⟩,rfl⟩,less_,?_⟩
 exact ⟨rfl,rfl⟩
theorem drop_back (s : ByteArray) (k : Nat) (h : k < s.size) : (numsT s).drop k = byT s k :: (numsT s).drop (k + 1) := by
 rw [List.drop_eq_getElem_cons (by rw [numsT_length];exact h)]
 congr 1
 rw [← byT_getD,getD_get _ _ _ (by rw [numsT_length];exact h)]
set_option maxHeartbeats 4000000 in
theorem fd_within (b : Nat) (x : Ix) (p : Nat) (t : ByteArray) (what : ByteArray) (S : Mem) (hB : Book S b x p t) (hw : what.size ≤ 140737488355328) :
  ACall Tryz.prog 23 #[.pointer (some ⟨b,0,none⟩),.string what] S fun v S'=>v = .tuple #[.int .i64 (Fd.fromP (numsT t) (numsT what):Nat),.int .i64 (Fd.toP (numsT t) (numsT what):Nat)]∧S'=S:=by
 have hK:=hB.bk
 have hc:=hB.ok.col
 have hs:=hB.ok.small
 have hp:=hB.ok.le
 have ht:=hB.ok.size
 obtain ⟨s,hse⟩ : ∃ s,s=x.col:=⟨_,rfl⟩
 rw [← hse] at hK hc hs hp ht
 have k0:=hK.col
 obtain ⟨vf,k2,hv⟩:=hK.fir
 obtain ⟨fa,fc,rfl,f1,f2,f3⟩:=hv
 have hfl:(firP s).length=257:=tb_length _ _
 rw [hfl] at f1 f2 k2
 obtain ⟨fb,fo,rfl,hk⟩:=f3.resolve_left (fun e=>by rw [e] at hfl;simp at hfl)
 have hle:∀ w,Fd.fromP (numsT t) w≤s.size+1∧Fd.toP (numsT t) w≤s.size+1:=fun w=>by
  have h1:=Fd.from_le (numsT t) w
  have h2:=Fd.to_le (numsT t) w
  rw [numsT_length,ht] at h1 h2
  exact ⟨h1,h2⟩
 have hnil:(numsT what).drop what.size = []:=List.drop_of_length_le (by rw [numsT_length];exact Nat.le_refl _)
 obtain ⟨W,hW⟩ : ∃ W,W=numsT what:=⟨_,rfl⟩
 have hto0:=Fd.to_nil (numsT t)
 rw [numsT_length,ht] at hto0
 refine ACall.enter (rs:=[.tmp 4,.tmp 5]) 57 [(0,.pointer (some ⟨b,0,none⟩)),(1,.string what)] Tryz.func23 rfl rfl (Nat.le_of_ble_eq_true rfl) rfl ⟨rfl,rfl,trivial⟩ ?_
 refine k_a (k_s rfl (k_e rfl (AWP.seq ?_)))
 refine AWP.draw [(0,true),(1,true),(2,true),(3,true),(4,true),(5,true),(6,true),(7,true),(8,true)] [] mixed (by kernel_rfl) ?_
 refine dP (hc:=fun _=>Calm.move rfl) (h:=?_)
 refine dP (hc:=fun _=>Calm.nilCheck rfl) (h:=?_)
 refine dP (hc:=fun _=>Calm.fieldAddr ty_field_59_0 rfl) (h:=?_)
 refine dP (hc:=fun _=>Calm.fieldAddr ty_field_33_0 rfl) (h:=?_)
 refine dC (hc:=ld_ ty_plain_9 rfl) (h:=?_)
 refine dC (hc:=Calm.lenStr (strT_spec ty_str_9) rfl) (h:=?_)
 refine dP (hc:=fun _=>Calm.bin rfl rfl b_add_i64) (h:=?_)
 refine dP (hc:=fun _=>Calm.assign rfl) (h:=?_)
 refine dP (hc:=fun _=>Calm.assign rfl) (h:=?_)
 refine draw_nil ?_
 refine athen_n ?_
 refine k_u [(0,_),(1,_),(4,_),(5,_),(6,_),(7,_)] ?_
 refine AWP.seq (k_a (k_m rfl ?_))
 refine rC (Calm.lenStr (strT_spec ty_str_9) rfl) ?_
 refine rC (Calm.bin rfl rfl b_sub_i64) ?_
 refine k_e rfl ?_
 refine k_u [(0,_),(1,_),(4,_),(5,_),(6,_),(7,_),(8,_)] ?_
 refine AWP.block ?_
 refine AWP.loop (X:=Nat) (fun k=>[(0,.pointer (some ⟨b,0,none⟩)),(1,.string what),(6,.int .i64 (Fd.fromP (numsT t) (W.drop k):Nat)),(7,.int .i64 (Fd.toP (numsT t) (W.drop k):Nat)),(8,.int .i64 ((k:Int)-1))]) (fun k=>S) (fun k=>k≤what.size) (fun k=>k) (what.size) ⟨rfl,rfl,some_int (by rw [hW,hnil,Fd.from_nil];rfl),some_int (by rw [hW,hnil,hto0];omega),some_int (by omega),trivial⟩ (Mem.Less.refl _) (Nat.le_refl _) ?_
 rintro k hk1
 (try dsimp only at *)
 by_cases hkz:k=0
 ·subst hkz
  refine AWP.seq (k_a (k_m rfl ?_))
  refine rC (Calm.bin rfl rfl b_geq) ?_
  refine k_n ?_
  refine k_u [(0,_),(1,_),(6,_),(7,_),(8,_),(21,_)] ?_
  refine k_F rfl ?_
  rw [List.drop_zero,hW]
  refine AWP.exit ?_
  refine athen_exit ?_
  refine athen_exit ?_
  refine ain_same ?_
  refine athen_n ?_
  refine k_a (k_m rfl (k_m rfl (k_s rfl (k_e rfl ?_))))
  refine k_u [(0,_),(1,_),(6,_),(7,_),(8,_),(21,_),(4,_),(5,_)] ?_
  refine AWP.ret ?_
  refine ⟨_,S,⟨_,_,rfl,⟨_,_,rfl,rfl,rfl⟩,rfl⟩,less_,?_⟩
  exact ⟨rfl,rfl⟩
 ·obtain ⟨j,rfl⟩ : ∃ j,k=j+1:=⟨k-1,by omega⟩
  refine AWP.seq (k_a (k_m rfl ?_))
  refine rC (Calm.bin rfl rfl b_geq) ?_
  refine k_n ?_
  refine k_u [(0,_),(1,_),(6,_),(7,_),(8,_),(21,_)] ?_
  refine k_T rfl ?_
  obtain ⟨y,hy⟩ : ∃ y,y=byT what j:=⟨_,rfl⟩
  have hy256:y<256:=by rw [hy];exact byT_lt _ _
  have hdr:W.drop j=y :: W.drop (j+1):=by rw [hW,hy];exact drop_back what j (by omega)
  have ef:=Fd.from_cons hc y (W.drop (j+1))
  have et:=Fd.to_cons hc y (W.drop (j+1))
  rw [← hdr] at ef et
  obtain ⟨q1,q2⟩:=hle (W.drop (j+1))
  have kx:S.Knows ⟨fb,fo+y*1,none⟩ [.int .i64 (clt (numsT s) y:Nat)]:=by have:=hk y (by omega);simp only [firP,tb,List.getElem_map,List.getElem_range] at this;exact this
  have hcl:=clt_le (numsT s) y
  have hml1:=Fd.mk_le (numsT s) p (Fd.fromP (numsT t) (W.drop (j+1))) y
  have hml2:=Fd.mk_le (numsT s) p (Fd.toP (numsT t) (W.drop (j+1))) y
  rw [numsT_length] at hcl hml1 hml2
  refine k_k (AWP.seq ?_)
  refine AWP.block ?_
  refine k_a (k_m rfl (k_m rfl ?_))
  refine rC (Calm.as ((show Value.int .u8 (nb (at8 what.data.toList ((((j+1:Nat):Int)-1).toNat))) = .int .u8 (nb (at8 what.data.toList j)) by rw [show (((j+1:Nat):Int)-1).toNat=j by omega]).trans ((byT_val what j).trans (by rw [← hy]))) (Calm.indexStr (strT_spec ty_str_9) rfl rfl (by omega) (by omega))) ?_
  refine k_e rfl ?_
  refine k_u [(0,_),(1,_),(6,_),(7,_),(8,_),(21,_),(9,_)] ?_
  refine AWP.draw [(0,true),(1,true),(2,true),(3,true),(4,true),(5,true),(6,true),(7,true),(8,true),(9,true),(10,true),(11,true),(14,true),(15,true),(16,true),(17,true),(18,true),(19,true),(20,true),(21,true),(22,true),(23,true),(24,true),(25,true),(12,false),(13,true),(26,false),(27,true),(28,true),(29,true)] [] mixed (by kernel_rfl) ?_
  refine dP (hc:=fun _=>Calm.move rfl) (h:=?_)
  refine dP (hc:=fun _=>Calm.nilCheck rfl) (h:=?_)
  refine dP (hc:=fun _=>Calm.fieldAddr ty_field_59_0 rfl) (h:=?_)
  refine dP (hc:=fun _=>Calm.fieldAddr ty_field_33_2 rfl) (h:=?_)
  refine dC (hc:=ld_ ty_plain_26 rfl) (h:=?_)
  refine dP (hc:=fun _=>Calm.move rfl) (h:=?_)
  refine dP (hc:=fun _=>Calm.indexS Tryz.underlying26 ty_size_3 rfl rfl (by omega) (by omega)) (h:=?_)
  refine dC (hc:=ld_ ty_plain_3 rfl) (h:=?_)
  refine dP (hc:=fun _=>Calm.bin rfl rfl b_add_i64) (h:=?_)
  refine dP (hc:=fun _=>Calm.move rfl) (h:=?_)
  refine dP (hc:=fun _=>Calm.move rfl) (h:=?_)
  refine dP (hc:=fun _=>Calm.move rfl) (h:=?_)
  refine dP (hc:=fun _=>Calm.move rfl) (h:=?_)
  refine dP (hc:=fun _=>Calm.nilCheck rfl) (h:=?_)
  refine dP (hc:=fun _=>Calm.fieldAddr ty_field_59_0 rfl) (h:=?_)
  refine dP (hc:=fun _=>Calm.fieldAddr ty_field_33_2 rfl) (h:=?_)
  refine dC (hc:=ld_ ty_plain_26 rfl) (h:=?_)
  refine dP (hc:=fun _=>Calm.move rfl) (h:=?_)
  refine dP (hc:=fun _=>Calm.indexS Tryz.underlying26 ty_size_3 rfl rfl (by omega) (by omega)) (h:=?_)
  refine dC (hc:=ld_ ty_plain_3 rfl) (h:=?_)
  refine dP (hc:=fun _=>Calm.bin rfl rfl b_add_i64) (h:=?_)
  refine dP (hc:=fun _=>Calm.move rfl) (h:=?_)
  refine dP (hc:=fun _=>Calm.move rfl) (h:=?_)
  refine dP (hc:=fun _=>Calm.move rfl) (h:=?_)
  refine draw_only rfl ?_
  refine ARun.call (lit_lt rfl) go_41 rfl (fd_ahead _ _ b s p y _ _ hK rfl rfl hy256 q1 hp hs) ?_
  rintro _ S9 ⟨rfl,e9⟩
  rw [e9];clear e9 S9
  refine arun_nil ⟨fun _=>less_,?_⟩
  refine dP (hc:=fun _=>Calm.bin rfl rfl b_add_i64) (h:=?_)
  refine draw_only rfl ?_
  refine ARun.call (lit_lt rfl) go_41 rfl (fd_ahead _ _ b s p y _ _ hK rfl rfl hy256 q2 hp hs) ?_
  rintro _ S9 ⟨rfl,e9⟩
  rw [e9];clear e9 S9
  refine arun_nil ⟨fun _=>less_,?_⟩
  refine dP (hc:=fun _=>Calm.bin rfl rfl b_add_i64) (h:=?_)
  refine dP (hc:=fun _=>Calm.assign rfl) (h:=?_)
  refine dP (hc:=fun _=>Calm.assign rfl) (h:=?_)
  refine draw_nil ?_
  refine ain_n ?_
  refine athen_n ?_
  refine k_u [(0,_),(1,_),(6,_),(7,_),(8,_),(21,_),(9,_)] ?_
  refine AWP.region ?_
  refine k_m rfl ?_
  refine rC (Calm.bin rfl rfl b_sub_i64) ?_
  refine k_e rfl ?_
  refine ⟨j,?_,?_,?_,?_⟩
  all_goals (try dsimp only)
  ·exact ⟨sq_,sq_,some_int (by omega),some_int (by omega),some_int (by omega),trivial⟩
  ·exact Mem.Less.refl _
  ·omega
  ·omega
end Go.Proofs.YtgidjbpgkeemiaaGreat
namespace Go.Proofs.YtgidjbpgkeemiaaGreat
open Go.RowKit Go.Shelf
open Mv Num Loser Srt
set_option maxRecDepth 8000
/-- A right index's text. -/
noncomputable def txtX (x : Ix) : ByteArray := (textP x.col x.pri).1
theorem OkX.tx {x : Ix} {p : Nat} {t : ByteArray} (h : OkX x p t) (hp : x.pri = (p : Nat)) : txtX x = t := by unfold txtX; rw [hp, h.txt]
noncomputable def rangeP (x : Ix) (what : ByteArray) : Nat × Nat × Nat := if chkX x = 0 then (Fd.fromP (numsT (txtX x)) (numsT what), Fd.toP (numsT (txtX x)) (numsT what), 0) else (0, 0, 2)
theorem range_le (x : Ix) (what : ByteArray) : (rangeP x what).1 ≤ 4097 ∧ (rangeP x what).2.1 ≤ 4097 := by
 unfold rangeP
 split
 ·rename_i h
  obtain ⟨p,t,ho,hp⟩:=chk_ok h
  have h1:=Fd.from_le (numsT (txtX x)) (numsT what)
  have h2:=Fd.to_le (numsT (txtX x)) (numsT what)
  have h3:=ho.size
  have h4:=ho.small
  rw [numsT_length,ho.tx hp] at h1 h2
  rw [ho.tx hp]
  exact ⟨show Fd.fromP _ _≤4097 by omega,show Fd.toP _ _≤4097 by omega⟩
 ·exact ⟨by simp,by simp⟩
set_option maxHeartbeats 4000000 in
theorem fd_Range (x : Ix) (what : ByteArray) (cx : List Value) (S : Mem) (hx : IxV S cx x) (hw : what.size ≤ 140737488355328) :
  ACall Tryz.prog 12 #[.agg cx.toArray,.string what] S fun r S'=>r = .tuple #[.int .i64 ((rangeP x what).1:Nat),.int .i64 ((rangeP x what).2.1:Nat),.int .i64 ((rangeP x what).2.2:Nat)]∧S'=S:=by
 have hx0:=hx
 obtain ⟨p1,c1,n2,p2,c2,p3,c3,p4,c4,rfl,h1,h2,h3,h4⟩:=hx.parts
 unfold rangeP
 by_cases h0:chkX x=0
 ·obtain ⟨p,t,ho,hp⟩:=chk_ok h0
  rw [if_pos h0,ho.tx hp]
  refine ACall.enter (rs:=[.tmp 4,.tmp 5,.tmp 6]) 27 [(0,.agg #[.string x.col,.int .i64 x.pri,.slice p1 x.fir.length c1,.slice p2 n2 c2,.string x.bits,.int .i64 x.n,.slice p3 x.cnts.length c3,.slice p4 x.plcs.length c4]),(1,.string what)] Tryz.func12 rfl rfl (Nat.le_of_ble_eq_true rfl) rfl ⟨rfl,rfl,trivial⟩ ?_
  refine k_a ?_
  refine ARun.boxA (cs:=[_,_,_,_,_,_,_,_]) (lit_lt rfl) rfl ?_
  intro b2 f2
  have g2:=f2
  repeat ((with_reducible replace g2:=fresh_set g2);obtain ⟨g2,_⟩:=g2)
  try simp only [k_l1,k_l0,k_za,Nat.reduceAdd]
  refine k_s rfl (k_s rfl (k_e rfl (k_a ?_)))
  refine rC (ldA_ (cs:=[_,_,_,_,_,_,_,_]) ty_agg_33 ty_size_33 rfl) ?_
  refine ARun.call (lit_lt rfl) go_22 rfl (fd_open_ok x p t _ _ (hx0.less less_) ho hp) ?_
  rintro _ S1 ⟨b,rfl,hS1,hB⟩
  refine k_m rfl ?_
  refine rC (Calm.extract rfl rfl) ?_
  refine rC (Calm.extract rfl rfl) ?_
  refine k_s rfl (k_e rfl ?_)
  refine k_u [(0,_),(1,_),(2,_),(4,_),(5,_),(6,_),(7,_),(8,_)] ?_
  refine AWP.seq (k_a (k_m rfl ?_))
  refine rC (Calm.bin rfl rfl b_neq) ?_
  refine k_n ?_
  refine k_u [(0,_),(1,_),(2,_),(4,_),(5,_),(6,_),(7,_),(8,_),(17,_)] ?_
  refine k_F rfl ?_
  refine k_k (k_a (k_m rfl (k_m rfl ?_)))
  refine ARun.call (lit_lt rfl) go_23 rfl (fd_within b x p t what _ hB hw) ?_
  rintro _ S2 ⟨rfl,q⟩
  rw [q];clear q S2
  refine k_m rfl ?_
  refine rC (Calm.extract rfl rfl) ?_
  refine rC (Calm.extract rfl rfl) ?_
  refine k_s rfl (k_e rfl ?_)
  refine k_u [(0,_),(1,_),(2,_),(4,_),(5,_),(6,_),(7,_),(8,_),(17,_),(9,_),(10,_)] ?_
  refine k_a (k_m rfl (k_m rfl (k_s rfl (k_s rfl ?_))))
  refine k_e rfl ?_
  refine k_u [(0,_),(1,_),(2,_),(4,_),(5,_),(6,_),(7,_),(8,_),(17,_),(9,_),(10,_)] ?_
  refine AWP.ret ?_
  refine ⟨_,S,⟨_,_,rfl,⟨_,_,rfl,⟨_,_,rfl,rfl,rfl⟩,rfl⟩,rfl⟩,Mem.Less.trans less_ hS1,?_⟩
  exact ⟨rfl,rfl⟩
 ·rw [if_neg h0]
  refine ACall.enter (rs:=[.tmp 4,.tmp 5,.tmp 6]) 27 [(0,.agg #[.string x.col,.int .i64 x.pri,.slice p1 x.fir.length c1,.slice p2 n2 c2,.string x.bits,.int .i64 x.n,.slice p3 x.cnts.length c3,.slice p4 x.plcs.length c4]),(1,.string what)] Tryz.func12 rfl rfl (Nat.le_of_ble_eq_true rfl) rfl ⟨rfl,rfl,trivial⟩ ?_
  refine k_a ?_
  refine ARun.boxA (cs:=[_,_,_,_,_,_,_,_]) (lit_lt rfl) rfl ?_
  intro b2 f2
  have g2:=f2
  repeat ((with_reducible replace g2:=fresh_set g2);obtain ⟨g2,_⟩:=g2)
  try simp only [k_l1,k_l0,k_za,Nat.reduceAdd]
  refine k_s rfl (k_s rfl (k_e rfl (k_a ?_)))
  refine rC (ldA_ (cs:=[_,_,_,_,_,_,_,_]) ty_agg_33 ty_size_33 rfl) ?_
  refine ARun.call (lit_lt rfl) go_22 rfl (fd_open_no x _ _ (hx0.less less_) h0) ?_
  rintro _ S1 ⟨rfl,q⟩
  rw [q];clear q S1
  refine k_m rfl ?_
  refine rC (Calm.extract rfl rfl) ?_
  refine rC (Calm.extract rfl rfl) ?_
  refine k_s rfl (k_e rfl ?_)
  refine k_u [(0,_),(1,_),(2,_),(4,_),(5,_),(6,_),(7,_),(8,_)] ?_
  refine AWP.seq (k_a (k_m rfl ?_))
  refine rC (Calm.bin rfl rfl b_neq) ?_
  refine k_n ?_
  refine k_u [(0,_),(1,_),(2,_),(4,_),(5,_),(6,_),(7,_),(8,_),(17,_)] ?_
  refine k_T rfl ?_
  refine k_a (k_m rfl (k_s rfl (k_s rfl (k_e rfl ?_))))
  refine k_u [(0,_),(1,_),(2,_),(4,_),(5,_),(6,_),(7,_),(8,_),(17,_)] ?_
  refine k_r ?_
  refine ⟨_,S,⟨_,_,rfl,⟨_,_,rfl,⟨_,_,rfl,rfl,rfl⟩,rfl⟩,rfl⟩,less_,?_⟩
  exact ⟨rfl,rfl⟩
set_option maxHeartbeats 4000000 in
theorem fd_Count (x : Ix) (what : ByteArray) (cx : List Value) (S : Mem) (hx : IxV S cx x) (hw : what.size ≤ 140737488355328) :
  ACall Tryz.prog 10 #[.agg cx.toArray,.string what] S fun r S'=>r = .tuple #[.int .i64 (((rangeP x what).2.1:Int)-(rangeP x what).1),.int .i64 ((rangeP x what).2.2:Nat)]∧S'=S:=by
 have hx0:=hx
 obtain ⟨p1,c1,n2,p2,c2,p3,c3,p4,c4,rfl,h1,h2,h3,h4⟩:=hx.parts
 obtain ⟨q1,q2⟩:=range_le x what
 refine ACall.enter (rs:=[.tmp 4,.tmp 5]) 20 [(0,.agg #[.string x.col,.int .i64 x.pri,.slice p1 x.fir.length c1,.slice p2 n2 c2,.string x.bits,.int .i64 x.n,.slice p3 x.cnts.length c3,.slice p4 x.plcs.length c4]),(1,.string what)] Tryz.func10 rfl rfl (Nat.le_of_ble_eq_true rfl) rfl ⟨rfl,rfl,trivial⟩ ?_
 refine k_a ?_
 refine ARun.boxA (cs:=[_,_,_,_,_,_,_,_]) (lit_lt rfl) rfl ?_
 intro b2 f2
 have g2:=f2
 repeat ((with_reducible replace g2:=fresh_set g2);obtain ⟨g2,_⟩:=g2)
 try simp only [k_l1,k_l0,k_za,Nat.reduceAdd]
 refine k_s rfl (k_e rfl (k_a ?_))
 refine rC (ldA_ (cs:=[_,_,_,_,_,_,_,_]) ty_agg_33 ty_size_33 rfl) ?_
 refine k_m rfl ?_
 refine ARun.call (lit_lt rfl) go_12 rfl (fd_Range x what _ _ (hx0.less less_) hw) ?_
 rintro _ S1 ⟨rfl,q⟩
 rw [q];clear q S1
 refine k_m rfl ?_
 refine rC (Calm.extract rfl rfl) ?_
 refine rC (Calm.extract rfl rfl) ?_
 refine rC (Calm.extract rfl rfl) ?_
 refine k_s rfl (k_s rfl (k_e rfl ?_))
 refine k_u [(0,_),(1,_),(2,_),(4,_),(5,_),(6,_),(7,_),(8,_)] ?_
 refine k_a (k_m rfl (k_m rfl ?_))
 refine rC (Calm.bin rfl rfl b_sub_i64) ?_
 refine k_m rfl (k_s rfl (k_e rfl ?_))
 refine k_u [(0,_),(1,_),(2,_),(4,_),(5,_),(6,_),(7,_),(8,_)] ?_
 refine AWP.ret ?_
 refine ⟨_,S,⟨_,_,rfl,⟨_,_,rfl,rfl,rfl⟩,rfl⟩,less_,?_⟩
 exact ⟨rfl,rfl⟩
end Go.Proofs.YtgidjbpgkeemiaaGreat
namespace Go.Proofs.YtgidjbpgkeemiaaGreat
open Num
namespace Fd
theorem filter_at {α : Type} (q : α → Bool) : ∀ (l : List α) (i : Nat) (h : i < l.length), q l[i] = true → (l.filter q)[(l.take i).countP q]? = some l[i]
 | x :: l,0,h,hq=>by
  rw [List.getElem_cons_zero] at hq ⊢
  rw [List.filter_cons_of_pos hq];rfl
 | x :: l,i+1,h,hq=>by
  rw [List.getElem_cons_succ] at hq ⊢
  rw [List.take_succ_cons,List.countP_cons]
  have ih:=filter_at q l i (by simpa using h) hq
  by_cases hx:q x=true
  ·rw [List.filter_cons_of_pos hx,if_pos hx,List.getElem?_cons_succ];exact ih
  ·rw [List.filter_cons_of_neg hx,if_neg hx,Nat.add_zero];exact ih
theorem range_filter (a : Nat) : ∀ (m b : Nat), b ≤ m → (List.range m).filter (fun r => decide (a ≤ r) && decide (r < b)) = (List.range (b - a)).map (fun i => a + i)
 | 0,b,h=>by
  obtain rfl:b=0:=by omega
  rw [Nat.zero_sub];rfl
 | m+1,b,h=>by
  rw [List.range_succ,List.filter_append]
  by_cases hb:b≤m
  ·rw [range_filter a m b hb,List.filter_cons_of_neg (by simp;omega),List.filter_nil,List.append_nil]
  ·obtain rfl:b=m+1:=by omega
   have e:(List.range m).filter (fun r=>decide (a≤r) && decide (r<m+1))=(List.range m).filter (fun r=>decide (a≤r) && decide (r<m)):=List.filter_congr fun r hr=>by
    have:=List.mem_range.1 hr
    rw [decide_eq_true (show r<m+1 by omega),decide_eq_true this]
   rw [e,range_filter a m m (Nat.le_refl _)]
   by_cases ha:a≤m
   ·rw [List.filter_cons_of_pos (by simp [ha]),show m+1-a=(m-a)+1 by omega,List.range_succ,List.map_append]
    simp;omega
   ·rw [List.filter_cons_of_neg (by simp;omega),show m+1-a=0 by omega,show m-a=0 by omega];rfl
/-- The places at which a text has what is asked for. -/
def plcs (s w : List Nat) : List Nat := (List.range (s.length + 1)).filter (fun a => beg w (s.drop a))
theorem places (s w : List Nat) : ((List.range (toP s w - fromP s w)).map (fun i => fre s (fromP s w + i))).Perm (plcs s w) := by
 have h:=(plc_perm s).filter (fun a=>beg w (s.drop a))
 rw [plc_map,List.filter_map] at h
 have e:(List.range (s.length+1)).filter ((fun a=>beg w (s.drop a)) ∘ fre s)=(List.range (s.length+1)).filter (fun r=>decide (fromP s w≤r) && decide (r<toP s w)):=List.filter_congr fun r hr=>by
  have:=List.mem_range.1 hr
  rw [Bool.eq_iff_iff,Bool.and_eq_true,decide_eq_true_eq,decide_eq_true_eq]
  exact (in_rows s w r (by omega)).symm
 rw [e,range_filter _ _ _ (to_le s w),List.map_map] at h
 exact h
theorem plcs_up (s w : List Nat) : (plcs s w).Pairwise (· < ·) := List.Pairwise.filter _ List.pairwise_lt_range
theorem plcs_count (s w : List Nat) : (plcs s w).length = toP s w - fromP s w := by rw [← (places s w).length_eq]; simp
end Fd
theorem cnt_take (L : List Bool) : ∀ i, i ≤ L.length → Sel.cnt (Bits.pack L) i = (L.take i).countP id
 | 0,_=>rfl
 | i+1,h=>by
  rw [Sel.cnt_succ,cnt_take L i (by omega),List.take_succ_eq_append_getElem (by omega),List.countP_append,Bits.isBit_pack L i (by omega),List.getElem?_eq_getElem (by omega)]
  simp [List.countP_cons]
end Go.Proofs.YtgidjbpgkeemiaaGreat
namespace Go.Proofs.YtgidjbpgkeemiaaGreat
open Go.RowKit Go.Shelf
open Mv Num Loser Srt Sel Bits
set_option maxRecDepth 8000
theorem ofP_small (L : List Bool) (h : L.length ≤ 65536) : ofP L = (bs (pack L), ((L.length : Nat) : Int), rows (pack L) L.length, 0) := by
 unfold ofP makeR
 rw [if_neg (by omega),bs_data,if_pos (chk_yes ⟨by omega,by omega,by rw [Int.toNat_natCast];exact right_pack L⟩),Int.toNat_natCast]
theorem smpR_length (t : List Nat) : (smpR t).length = t.length + 1 := by unfold smpR; rw [List.length_map, Fd.plc_length]
/-- The list of a right index's bits. -/
theorem OkX.rows {x : Ix} {p : Nat} {t : ByteArray} (h : OkX x p t) : ∃ L : List Bool, L = smpR (numsT t) ∧ L.length = x.col.size + 1 ∧ x.bits = bs (pack L) ∧ x.n = (L.length : Nat) ∧ x.cnts = Sel.rows (pack L) L.length := by
 have hl:(smpR (numsT t)).length=x.col.size+1:=by rw [smpR_length,numsT_length,h.size]
 have hs:=h.small
 have e:=ofP_small (smpR (numsT t)) (by omega)
 have e1:x.bits=(ofP (smpR (numsT t))).1:=congrArg Ix.bits h.is
 have e2:x.n=(ofP (smpR (numsT t))).2.1:=congrArg Ix.n h.is
 have e3:x.cnts=(ofP (smpR (numsT t))).2.2.1:=congrArg Ix.cnts h.is
 rw [e] at e1 e2 e3
 exact ⟨_,rfl,hl,e1,e2,e3⟩
theorem smp_at (t : List Nat) (r : Nat) (hr : r ≤ t.length) : isBit (pack (smpR t)) r = decide (Fd.fre t r % 16 = 0) := by
 have h1:=smpR_length t
 have h2:=Fd.plc_length t
 rw [isBit_pack _ _ (by omega),List.getElem?_eq_getElem (by omega)]
 unfold smpR
 rw [Option.getD_some,List.getElem_map,Fd.fre_get]
set_option maxHeartbeats 1000000 in
theorem fd_Is (b : Nat) (x : Ix) (p : Nat) (t : ByteArray) (r : Nat) (S : Mem) (hB : Book S b x p t) (hr : r ≤ x.col.size) :
  ACall Tryz.prog 42 #[.pointer (some ⟨b,8,none⟩),.int .i64 (r:Int)] S fun v S'=>v = .bool (decide (Fd.fre (numsT t) r % 16=0))∧S'=S:=by
 obtain ⟨L,hL,hl,e1,e2,e3⟩:=hB.ok.rows
 have hs:=hB.ok.small
 have ht:=hB.ok.size
 have kb:=hB.bv
 rw [← smp_at (numsT t) r (by rw [numsT_length];omega),← hL]
 rw [e1,e2] at kb
 have hps:=pack_length L
 obtain ⟨s,hse⟩ : ∃ s,s=bs (pack L):=⟨_,rfl⟩
 have hsd:s.data.toList=pack L:=by rw [hse,bs_data]
 have hsz:s.size=(L.length+7) / 8:=by rw [hse,bs_size,hps]
 rw [← hse] at kb
 rw [← hsd]
 have hb:num (slc s.data.toList r 1)=if isBit s.data.toList r=true then 1 else 0:=by
  have:slc s.data.toList r 1 = [isBit s.data.toList r]:=by simp [slc,List.range_succ]
  rw [this];cases isBit s.data.toList r <;> rfl
 have hat:=fun w=>bits_At s (by omega) (L.length:Nat) r 1 w (by omega) (by omega) (by omega) (by omega)
 rw [Int.toNat_natCast,show (1:Int).toNat=1 from rfl,hb] at hat
 cases hbt:isBit s.data.toList r with
 | true =>
  rw [hbt,if_pos rfl] at hat
  refine ACall.enter (rs:=[.tmp 4]) 13 [(0,.pointer (some ⟨b,8,none⟩)),(1,.int .i64 (r:Int))] Tryz.func42 rfl rfl (Nat.le_of_ble_eq_true rfl) rfl ⟨rfl,rfl,trivial⟩ ?_
  refine k_a (k_e rfl (k_a (k_m rfl ?_)))
  refine rC (Calm.nilCheck rfl) ?_
  refine rC (Calm.fieldAddr ty_field_57_0 rfl) ?_
  refine rC (Calm.fieldAddr ty_field_31_0 rfl) ?_
  refine rC (Calm.loadAK (cs:=[.string s,.int .i64 (L.length:Nat)]) ty_agg_29 ty_size_29 rfl kb) ?_
  refine k_m rfl ?_
  refine ARun.call (lit_lt rfl) go_60 rfl (ACall.of_calls hat) ?_
  rintro _ S1 ⟨rfl,h1⟩
  rw [h1];clear h1 S1
  refine rC (Calm.bin rfl rfl b_eql) ?_
  refine k_e rfl ?_
  refine k_u [(0,_),(1,_),(4,_)] ?_
  refine AWP.ret ?_
  refine ⟨_,S,⟨_,_,rfl,rfl,rfl⟩,less_,?_⟩
  exact ⟨rfl,rfl⟩
 | false =>
  rw [hbt,if_neg (by decide)] at hat
  refine ACall.enter (rs:=[.tmp 4]) 13 [(0,.pointer (some ⟨b,8,none⟩)),(1,.int .i64 (r:Int))] Tryz.func42 rfl rfl (Nat.le_of_ble_eq_true rfl) rfl ⟨rfl,rfl,trivial⟩ ?_
  refine k_a (k_e rfl (k_a (k_m rfl ?_)))
  refine rC (Calm.nilCheck rfl) ?_
  refine rC (Calm.fieldAddr ty_field_57_0 rfl) ?_
  refine rC (Calm.fieldAddr ty_field_31_0 rfl) ?_
  refine rC (Calm.loadAK (cs:=[.string s,.int .i64 (L.length:Nat)]) ty_agg_29 ty_size_29 rfl kb) ?_
  refine k_m rfl ?_
  refine ARun.call (lit_lt rfl) go_60 rfl (ACall.of_calls hat) ?_
  rintro _ S1 ⟨rfl,h1⟩
  rw [h1];clear h1 S1
  refine rC (Calm.bin rfl rfl b_eql) ?_
  refine k_e rfl ?_
  refine k_u [(0,_),(1,_),(4,_)] ?_
  refine AWP.ret ?_
  refine ⟨_,S,⟨_,_,rfl,rfl,rfl⟩,less_,?_⟩
  exact ⟨rfl,rfl⟩
set_option maxHeartbeats 1000000 in
theorem fd_Ahead (b : Nat) (x : Ix) (p : Nat) (t : ByteArray) (r : Nat) (S : Mem) (hB : Book S b x p t) (hr : r ≤ x.col.size) :
  ACall Tryz.prog 43 #[.pointer (some ⟨b,8,none⟩),.int .i64 (r:Int)] S fun v S'=>v = .int .i64 (Sel.cnt (pack (smpR (numsT t))) r:Nat)∧S'=S:=by
 obtain ⟨L,hL,hl,e1,e2,e3⟩:=hB.ok.rows
 have hs:=hB.ok.small
 have kb:=hB.bits
 obtain ⟨vc,kc,hv⟩:=hB.cnts
 rw [← hL]
 rw [e1] at kb
 rw [e3] at hv
 have hps:=pack_length L
 obtain ⟨s,hse⟩ : ∃ s,s=bs (pack L):=⟨_,rfl⟩
 have hsd:s.data.toList=pack L:=by rw [hse,bs_data]
 have hsz:s.size=(L.length+7) / 8:=by rw [hse,bs_size,hps]
 rw [← hse] at kb
 rw [← hsd] at hv ⊢
 have hrl:=rows_length s.data.toList L.length
 obtain ⟨pc,cc,rfl,a1,a2,a3⟩:=id hv
 obtain ⟨b0,off,rfl,hkn⟩:=a3.resolve_left (by intro h;rw [h] at hrl;simp at hrl)
 have k1:=hkn (r / 32) (by omega)
 rw [rows_get] at k1
 unfold i64s at k1
 have hc1:=Sel.cnt_le s.data.toList r
 have hc2:=Sel.cnt_mono s.data.toList (a:=32*(r / 32)) (b:=r) (by omega)
 refine ACall.enter (rs:=[.tmp 4]) 27 [(0,.pointer (some ⟨b,8,none⟩)),(1,.int .i64 (r:Int))] Tryz.func43 rfl rfl (Nat.le_of_ble_eq_true rfl) rfl ⟨rfl,rfl,trivial⟩ ?_
 refine k_a (k_e rfl (k_a (k_m rfl ?_)))
 refine rC (Calm.bin rfl rfl b_quo_i64) ?_
 refine k_e rfl ?_
 refine k_u [(0,_),(1,_),(4,_),(5,_)] ?_
 refine AWP.seq ?_
 refine AWP.draw [(0,true),(1,true),(2,true),(3,true),(4,true),(5,true),(6,true),(7,true),(8,true),(9,true),(10,true),(11,true),(12,true),(13,true),(14,true),(15,true),(16,true),(17,false),(18,true),(19,true)] [] mixed (by kernel_rfl) ?_
 refine dP (hc:=fun _=>Calm.move rfl) (h:=?_)
 refine dP (hc:=fun _=>Calm.nilCheck rfl) (h:=?_)
 refine dP (hc:=fun _=>Calm.fieldAddr ty_field_57_0 rfl) (h:=?_)
 refine dP (hc:=fun _=>Calm.fieldAddr ty_field_31_1 rfl) (h:=?_)
 refine dC (hc:=ld_ ty_plain_26 rfl) (h:=?_)
 refine dP (hc:=fun _=>Calm.move rfl) (h:=?_)
 refine dP (hc:=fun _=>Calm.indexS Tryz.underlying26 ty_size_3 rfl rfl (by omega) (by omega)) (h:=?_)
 refine dC (hc:=ld_ ty_plain_3 rfl) (h:=?_)
 refine dP (hc:=fun _=>Calm.move rfl) (h:=?_)
 refine dP (hc:=fun _=>Calm.nilCheck rfl) (h:=?_)
 refine dP (hc:=fun _=>Calm.fieldAddr ty_field_57_0 rfl) (h:=?_)
 refine dP (hc:=fun _=>Calm.fieldAddr ty_field_31_0 rfl) (h:=?_)
 refine dP (hc:=fun _=>Calm.fieldAddr ty_field_29_0 rfl) (h:=?_)
 refine dC (hc:=ld_ ty_plain_9 rfl) (h:=?_)
 refine dP (hc:=fun _=>Calm.move rfl) (h:=?_)
 refine dP (hc:=fun _=>Calm.bin rfl rfl b_mul_i64) (h:=?_)
 refine dP (hc:=fun _=>Calm.move rfl) (h:=?_)
 refine draw_only rfl ?_
 refine ARun.call (lit_lt rfl) go_61 rfl (selV_onesI s _ _ (32*(r / 32)) r _ (by omega) (by omega) (by omega) (by omega) (by omega) (by omega)) ?_
 rintro _ S1 ⟨rfl,h1⟩
 rw [h1];clear h1 S1
 refine arun_nil ⟨fun _=>less_,?_⟩
 refine dP (hc:=fun _=>Calm.bin rfl rfl b_add_i64) (h:=?_)
 refine dP (hc:=fun _=>Calm.assign rfl) (h:=?_)
 refine draw_nil ?_
 refine athen_n ?_
 refine k_u [(0,_),(1,_),(4,_),(5,_)] ?_
 rw [show (cnt s.data.toList (32*(r / 32)):Int)+(cnt s.data.toList r-cnt s.data.toList (32*(r / 32)):Nat)=(cnt s.data.toList r:Nat) from by omega]
 refine AWP.ret ?_
 refine ⟨_,S,⟨_,_,rfl,rfl,rfl⟩,less_,?_⟩
 exact ⟨rfl,rfl⟩
/-- The place that is written down for a sampled row. -/
theorem plc_at (t : List Nat) (r : Nat) (hr : r ≤ t.length) (h : Fd.fre t r % 16 = 0) : (plcR t)[Sel.cnt (pack (smpR t)) r]? = some (Fd.fre t r) := by
 have h1:=smpR_length t
 have h2:=Fd.plc_length t
 rw [cnt_take _ r (by omega)]
 have e:((smpR t).take r).countP id=((Fd.plc t).take r).countP (fun a=>decide (a % 16=0)):=by
  unfold smpR;rw [← List.map_take,List.countP_map];rfl
 rw [e]
 have:=Fd.filter_at (fun a=>decide (a % 16=0)) (Fd.plc t) r (by omega) (by rw [Fd.fre_get];exact decide_eq_true h)
 rw [Fd.fre_get] at this
 exact this
set_option maxHeartbeats 2000000 in
theorem fd_place (b : Nat) (x : Ix) (p : Nat) (t : ByteArray) (r0 : Nat) (S : Mem) (hB : Book S b x p t) (hr : r0 ≤ x.col.size) :
  ACall Tryz.prog 24 #[.pointer (some ⟨b,0,none⟩),.int .i64 (r0:Int)] S fun v S'=>v = .int .i64 (Fd.fre (numsT t) r0:Nat)∧S'=S:=by
 have hK:=hB.bk
 have hc:=hB.ok.col
 have hs:=hB.ok.small
 have hp:=hB.ok.le
 have ht:=hB.ok.size
 obtain ⟨vp,kp,hv⟩:=hB.pl
 have epl:x.plcs=castL (plcR (numsT t)):=congrArg Ix.plcs hB.ok.is
 rw [epl] at hv
 replace hv:=ints_idx hv
 obtain ⟨T,hT⟩ : ∃ T,T=numsT t:=⟨_,rfl⟩
 have hTl:T.length=x.col.size:=by rw [hT,numsT_length,ht]
 rw [← hT] at hc hv ⊢
 have hfle:=Fd.fre_le T r0
 refine ACall.enter (rs:=[.tmp 4]) 31 [(0,.pointer (some ⟨b,0,none⟩)),(1,.int .i64 (r0:Int))] Tryz.func24 rfl rfl (Nat.le_of_ble_eq_true rfl) rfl ⟨rfl,rfl,trivial⟩ ?_
 refine k_a (k_e rfl (k_a (k_e rfl (AWP.seq ?_))))
 refine AWP.block ?_
 refine AWP.loop (X:=Nat × Nat) (fun y=>[(0,.pointer (some ⟨b,0,none⟩)),(1,.int .i64 y.1),(5,.int .i64 y.2)]) (fun y=>S) (fun y=>y.1≤x.col.size∧Fd.fre T y.1+y.2=Fd.fre T r0) (fun y=>Fd.fre T y.1) ((r0,0)) ⟨rfl,rfl,rfl,trivial⟩ (Mem.Less.refl _) (⟨hr,rfl⟩) ?_
 rintro ⟨r,k⟩ ⟨hr1,hk⟩
 (try dsimp only at *)
 refine AWP.seq (k_a (k_m rfl ?_))
 refine rC (Calm.nilCheck rfl) ?_
 refine rC (Calm.fieldAddr ty_field_59_1 rfl) ?_
 refine k_m rfl ?_
 refine ARun.call (lit_lt rfl) go_42 rfl (fd_Is b x p t r _ hB hr1) ?_
 rintro _ S9 ⟨rfl,e9⟩
 rw [e9,← hT];clear e9 S9
 refine rC (Calm.un rfl (una_not _)) ?_
 refine k_n ?_
 refine k_u [(0,_),(1,_),(5,_),(11,_)] ?_
 by_cases h16:Fd.fre T r % 16=0
 ·refine k_F rfl ?_
  have hat:=plc_at T r (by omega) h16
  have hlt:=(List.getElem?_eq_some_iff.1 hat).1
  have hge:=(List.getElem?_eq_some_iff.1 hat).2
  obtain ⟨pa,pc,rfl,m1,m2,m3⟩:=hv
  obtain ⟨pb,po,rfl,hkn⟩:=m3.resolve_left (fun e=>by rw [e] at hlt;simp at hlt)
  have kx:=hkn _ hlt
  rw [hge] at kx
  unfold i64n at kx
  have hsa:=fd_Ahead b x p t r S hB hr1
  rw [← hT] at hsa
  obtain ⟨c,hcc⟩ : ∃ c,c=Sel.cnt (pack (smpR T)) r:=⟨_,rfl⟩
  rw [← hcc] at kx hlt hsa
  refine AWP.exit ?_
  refine athen_exit ?_
  refine athen_exit ?_
  refine ain_same ?_
  refine athen_n ?_
  refine AWP.seq ?_
  refine AWP.draw [(0,true),(1,true),(2,true),(3,true),(4,true),(5,true),(6,true),(7,true),(8,true),(12,true),(9,false),(10,true),(11,true),(13,true),(14,true)] [] mixed (by kernel_rfl) ?_
  refine dP (hc:=fun _=>Calm.move rfl) (h:=?_)
  refine dP (hc:=fun _=>Calm.nilCheck rfl) (h:=?_)
  refine dP (hc:=fun _=>Calm.fieldAddr ty_field_59_0 rfl) (h:=?_)
  refine dP (hc:=fun _=>Calm.fieldAddr ty_field_33_5 rfl) (h:=?_)
  refine dC (hc:=ld_ ty_plain_26 rfl) (h:=?_)
  refine dP (hc:=fun _=>Calm.move rfl) (h:=?_)
  refine dP (hc:=fun _=>Calm.nilCheck rfl) (h:=?_)
  refine dP (hc:=fun _=>Calm.fieldAddr ty_field_59_1 rfl) (h:=?_)
  refine dP (hc:=fun _=>Calm.move rfl) (h:=?_)
  refine dP (hc:=fun _=>Calm.move rfl) (h:=?_)
  refine draw_only rfl ?_
  refine ARun.call (lit_lt rfl) go_43 rfl (hsa) ?_
  rintro _ S9 ⟨rfl,e9⟩
  rw [e9];clear e9 S9
  refine arun_nil ⟨fun _=>less_,?_⟩
  refine dP (hc:=fun _=>Calm.indexS Tryz.underlying26 ty_size_3 rfl rfl (by omega) (by omega)) (h:=?_)
  refine dC (hc:=ld_ ty_plain_3 rfl) (h:=?_)
  refine dP (hc:=fun _=>Calm.bin rfl rfl b_add_i64) (h:=?_)
  refine dP (hc:=fun _=>Calm.assign rfl) (h:=?_)
  refine draw_nil ?_
  refine athen_n ?_
  refine k_u [(0,_),(1,_),(5,_),(11,_),(4,_)] ?_
  refine AWP.ret ?_
  refine ⟨_,S,⟨_,_,rfl,rfl,rfl⟩,less_,?_⟩
  exact ⟨congrArg (fun q:Int=>Value.int .i64 q) (by omega),rfl⟩
 ·have hne:r≠p:=fun e=>h16 (by rw [(hc.f0 (by omega)).1 e])
  have hbk:=hc.back (r:=r) (by omega) hne
  have hf0:Fd.fre T r≠0:=fun e=>h16 (by rw [e])
  have hfr:=Fd.fre_le T r
  have hrw:=(Fd.rw_ok T).le (Fd.fre T r-1) (by omega)
  have hfb:=Fd.fre_rw T (Fd.fre T r-1) (by omega)
  refine k_T rfl ?_
  refine k_k ?_
  refine AWP.block ?_
  refine k_a (k_m rfl (k_m rfl ?_))
  refine ARun.call (lit_lt rfl) go_37 rfl (fd_back _ b x.col p r _ hK rfl hr1 hp hne hs) ?_
  rintro _ S9 ⟨rfl,e9⟩
  rw [e9,hbk];clear e9 S9
  refine k_e rfl ?_
  refine k_u [(0,_),(1,_),(5,_),(11,_)] ?_
  refine AWP.region ?_
  refine k_m rfl ?_
  refine rC (Calm.bin rfl rfl b_add_i64) ?_
  refine k_s rfl ?_
  refine arun_nil ?_
  refine ain_n ?_
  refine athen_n ?_
  refine ⟨(Fd.rw' T (Fd.fre T r-1),k+1),?_,?_,?_,?_⟩
  all_goals (try dsimp only)
  ·exact ⟨sq_,sq_,some_int (by omega),trivial⟩
  ·exact Mem.Less.refl _
  ·exact ⟨by omega,by rw [hfb];omega⟩
  ·rw [hfb];omega
end Go.Proofs.YtgidjbpgkeemiaaGreat
