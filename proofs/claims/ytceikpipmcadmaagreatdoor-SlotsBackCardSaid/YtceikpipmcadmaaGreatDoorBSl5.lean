/-
  Texts that belong together: CrcWalk, CrcWalk2, CrcWalk3, NumMath, NumMath2, RecMath, CrcApart, CrcPlain, CrcOneWalk, RecMath2, BldLib, Bld, VNum1, VNum2, Rec2, Str, Rec4, Rec5, Rec7, RecMath3, RecMath4, MfMath, Mf1, Mf2, Bld2, Mf3, Mf4, Mf5, MfR1, MfR2.
-/
import Derived.Test.YtceikpipmcadmaaGreatDoorBSl4
import Derived.Lib.Strings
import Derived.Lib.AppendStr
import Derived.Lib.UnsafeStr
import Derived.Lib.Builder
import Derived.LaidEqlPtr
import Derived.Laws.BitsLemmas
set_option linter.unusedVariables false
set_option linter.unusedSimpArgs false
set_option linter.unusedSectionVars false
namespace Go.Proofs.YtceikpipmcadmaaGreatDoor
open Go.RowKit
open Crc (un v32 Tn)


namespace Crc
theorem step_num (r : BitVec 32) : bits .xor .u32 (un r / 2) (bits .and .u32 3988292384 (-bits .and .u32 (un r) 1 % 4294967296)) = un (T r) := by
 rw [un_half,bits_and (un r) 1,v32_un,bits_and,v32_mod,v32_neg,v32_un,bits_xor,v32_un,v32_un]
 congr 1
 unfold T
 congr 1
 have e1:v32 1=1#32:=rfl
 have e2:v32 3988292384=poly:=rfl
 rw [e1,e2]
 have h:r &&& 1#32=if r.getLsbD 0 then 1#32 else 0#32:=by
  apply BitVec.eq_of_getLsbD_eq
  intro i hi
  rw [BitVec.getLsbD_and]
  cases i with
  | zero=>cases r.getLsbD 0 <;> simp
  | succ i =>
   have:(1#32).getLsbD (i+1)=false:=by simp [BitVec.getLsbD_one]
   rw [this]
   cases r.getLsbD 0 <;> simp
 rw [h]
 cases r.getLsbD 0 <;> decide
end Crc

set_option maxHeartbeats 400000 in
theorem crc_step (r : Int) (h0 : 0 ≤ r) (h1 : r ≤ 4294967295) (w : World) :
  Calls Tryz.prog 154 #[.int .u32 r] w fun e w'=>e = .returned (.int .u32 (un (Tn 8 (v32 r))))∧w=w':=by
 go_enter Tryz.func154,Tryz.ntmps154
 go_wp2
 go_loop [0,3] (fun v0 v3=>∃ (k:Int) (j:Nat),0≤k∧k≤4294967295∧j≤8∧v0 = .int .u32 k∧v3 = .int .i64 j∧Hid (k=un (Tn j (v32 r)))) (fun _ v3=>8-(intOf v3).toNat)
 case atStart=>exact ⟨r,0,h0,h1,by omega,rfl,rfl,(Crc.un_v32 h0 h1).symm⟩
 case round =>
  obtain ⟨k,j,hk0,hk1,hj,rfl,rfl,hk⟩:=hrel
  by_cases hlt:j<8
  ·go_wp2
   go_round
   case rel =>
    have hk':=hk.out
    refine ⟨un (Tn (j+1) (v32 r)),j+1,Crc.un_nonneg _,Crc.un_le _,by omega,?_,by go_num,rfl⟩
    rw [hk']
    exact val_int (Crc.step_num _)
   case measure=>simp [intOf];omega
  ·go_wp2
   go_ret
   have e:j=8:=by omega
   subst e
   exact ⟨ret_int hk.out,rfl⟩

namespace Crc
theorem feeds_take (r : BitVec 32) (s : ByteArray) (k : Nat) (h : k < s.size) : feeds r (s.data.toList.take (k + 1)) = feed (feeds r (s.data.toList.take k)) s[k] := by
 rw [take_snoc s k h,feeds_snoc]
theorem more_num (r : BitVec 32) (b : UInt8) : bits .xor .u32 (un r / 256) (un (Tn 8 (v32 (bits .and .u32 (bits .xor .u32 (un r) ((b.toNat : Int) % 4294967296)) 255)))) = un (feed r b) := by
 rw [un_256,bits_xor (un r),v32_un,v32_mod,v32_byte,bits_and,v32_un,v32_un,bits_xor,v32_un,v32_un]
 congr 1
 exact feed_eq r b
theorem not_num (r : Int) : bits .xor .u32 IntKind.u32.max r = un (~~~ v32 r) := by
 rw [bits_xor,show v32 IntKind.u32.max=BitVec.allOnes 32 from by decide,BitVec.allOnes_xor]
end Crc

set_option maxHeartbeats 400000 in
theorem crc_More (r : Int) (s : ByteArray) (hs : s.size ≤ maxLen) (h0 : 0 ≤ r) (h1 : r ≤ 4294967295) (w : World) :
  Calls Tryz.prog 119 #[.int .u32 r,.string s] w fun e w'=>e = .returned (.int .u32 (un (Crc.more (v32 r) s.data.toList)))∧w=w':=by
 unfold maxLen at hs
 go_enter Tryz.func119,Tryz.ntmps119
 go_wp2
 go_loop [5,11] (fun v5 v11=>∃ (k:Int) (j:Nat),0≤k∧k≤4294967295∧j≤s.size∧v5 = .int .u32 k∧v11 = .int .i64 j∧Hid (k=un (Crc.feeds (~~~ v32 r) (s.data.toList.take j)))) (fun _ v11=>s.size-(intOf v11).toNat)
 case atStart=>exact ⟨_,0,Crc.un_nonneg _,Crc.un_le _,by omega,val_int (Crc.not_num r),rfl,rfl⟩
 case round =>
  obtain ⟨k,j,hk0,hk1,hj,rfl,rfl,hk⟩:=hrel
  by_cases hlt:j<s.size
  ·go_wp2_with (go_at_call 154;refine (crc_step _ (by rw [Crc.bits_and];exact Crc.un_nonneg _) (by rw [Crc.bits_and];exact Crc.un_le _) _).mono ?_;rintro e w' ⟨rfl,rfl⟩)
   go_round
   case rel =>
    have hk':=hk.out
    refine ⟨_,j+1,Crc.un_nonneg _,Crc.un_le _,by omega,?_,by go_num,Lib.hid (by rw [Crc.feeds_take _ s j hlt])⟩
    rw [hk']
    exact val_int (Crc.more_num _ _)
   case measure=>simp [intOf];omega
  ·go_wp2
   go_ret
   have e:j=s.size:=by omega
   subst e
   refine ⟨ret_int ?_,rfl⟩
   rw [hk.out,take_all,Crc.not_num,Crc.v32_un];rfl

namespace Crc
theorem ref_bit (r : BitVec 32) (b : UInt8) (k : Nat) : bits .xor .u32 (un r) ((b.toNat : Int) / 2 ^ k) % 2 = if (r ^^^ (b32 b >>> k)).getLsbD 0 then 1 else 0 := by
 have e:((b.toNat:Int) / 2 ^ k)=un (b32 b >>> k):=by
  have:=b.toNat_lt
  simp only [un,b32,BitVec.toNat_ushiftRight,Nat.shiftRight_eq_div_pow,BitVec.toNat_ofNat]
  rw [Nat.mod_eq_of_lt (by omega)]
  simp
 rw [e,bits_xor,v32_un,v32_un,un_mod2]
end Crc

namespace Crc
theorem ref_bit' (r : BitVec 32) (b : UInt8) (k : Nat) : (bits .xor .u32 (un r) ((b.toNat : Int) / 2 ^ k % 4294967296)).tmod 2 = if (r ^^^ (b32 b >>> k)).getLsbD 0 then 1 else 0 := by
 have e:((b.toNat:Int) / 2 ^ k % 4294967296)=((b.toNat:Int) / 2 ^ k):=by
  have h:=b.toNat_lt
  have h2:b.toNat / 2 ^ k≤b.toNat:=Nat.div_le_self _ _
  rw [show (b.toNat:Int) / 2 ^ k=((b.toNat / 2 ^ k:Nat):Int) from by simp]
  generalize b.toNat / 2 ^ k=m at h2
  omega
 rw [e,Int.tmod_eq_emod_of_nonneg (by rw [bits_xor];exact un_nonneg _),ref_bit]
theorem ref_odd (r : BitVec 32) (b : UInt8) (k : Nat) (h : ((bits .xor .u32 (un (refBit r b k)) ((b.toNat : Int) / 2 ^ k % 4294967296)).tmod 2 == 1) = true) :
  bits .xor .u32 (un (refBit r b k) / 2) 3988292384=un (refBit r b (k+1)):=by
 rw [ref_bit'] at h
 rw [un_half,bits_xor,v32_un,show v32 3988292384=poly from rfl,← refBit_succ]
 split at h <;> rename_i hb
 ·rw [if_pos hb]
 ·simp at h
theorem ref_even (r : BitVec 32) (b : UInt8) (k : Nat) (h : ((bits .xor .u32 (un (refBit r b k)) ((b.toNat : Int) / 2 ^ k % 4294967296)).tmod 2 == 1) = false) :
  un (refBit r b k) / (2:Int)=un (refBit r b (k+1)):=by
 rw [ref_bit'] at h
 rw [un_half,← refBit_succ]
 split at h <;> rename_i hb
 ·simp at h
 ·rw [if_neg hb,BitVec.xor_zero]
theorem ref_start (r : Int) (h0 : 0 ≤ r) (h1 : r ≤ 4294967295) : 4294967295 - r = un (~~~ v32 r) := by
 rw [← un_compl,un_v32 h0 h1]
end Crc

set_option maxHeartbeats 400000 in
theorem ref_More (r : Int) (s : ByteArray) (hs : s.size ≤ maxLen) (h0 : 0 ≤ r) (h1 : r ≤ 4294967295) (w : World) :
  Calls Tryz.prog 120 #[.int .u32 r,.string s] w fun e w'=>e = .returned (.int .u32 (un (Crc.more (v32 r) s.data.toList)))∧w=w':=by
 unfold maxLen at hs
 go_enter Tryz.func120,Tryz.ntmps120
 go_wp2
 go_loop [5,6] (fun v5 v6=>∃ (k:Int) (j:Nat),0≤k∧k≤4294967295∧j≤s.size∧v5 = .int .u32 k∧v6 = .int .i64 j∧Hid (k=un (Crc.feeds (~~~ v32 r) (s.data.toList.take j)))) (fun _ v6=>s.size-(intOf v6).toNat)
 case atStart=>exact ⟨4294967295-r,0,by omega,by omega,by omega,rfl,rfl,Crc.ref_start r h0 h1⟩
 case round =>
  obtain ⟨k,j,hk0,hk1,hj,rfl,rfl,hk⟩:=hrel
  by_cases hlt:j<s.size
  ·go_wp2
   go_loop [5,7] (fun v5 v7=>∃ (q:Int) (i:Nat),0≤q∧q≤4294967295∧i≤8∧v5 = .int .u32 q∧v7 = .int .i64 i∧Hid (q=un (Crc.refBit (v32 k) s[j] i))) (fun _ v7=>8-(intOf v7).toNat)
   case atStart=>exact ⟨k,0,hk0,hk1,by omega,rfl,rfl,by rw [Crc.refBit_zero,Crc.un_v32 hk0 hk1];exact rfl⟩
   case round =>
    obtain ⟨q,i,hq0,hq1,hi,rfl,rfl,hq⟩:=hrel
    by_cases hl:i<8
    ·go_wp2
     all_goals
      go_round
      case rel =>
       have hq':=hq.out
       refine ⟨un (Crc.refBit (v32 k) s[j] (i+1)),i+1,Crc.un_nonneg _,Crc.un_le _,by omega,?_,by go_num,rfl⟩
       subst hq'
       first | exact val_int (Crc.ref_odd _ _ _ ‹_›) | exact val_int (Crc.ref_even _ _ _ ‹_›)
      case measure=>simp [intOf];omega
    ·go_wp2
     go_round
     case rel =>
      have e:i=8:=by omega
      have hq':=hq.out
      have hk':=hk.out
      subst e
      refine ⟨q,j+1,hq0,hq1,by omega,rfl,by go_num,Lib.hid ?_⟩
      rw [hq',hk',Crc.refBit_eight,Crc.feeds_take _ s j hlt,Crc.v32_un]
     case measure=>simp [intOf];omega
  ·go_wp2
   go_ret
   have e:j=s.size:=by omega
   subst e
   refine ⟨ret_int ?_,rfl⟩
   rw [hk.out,take_all,Crc.un_compl];rfl

end Go.Proofs.YtceikpipmcadmaaGreatDoor
namespace Go.Proofs.YtceikpipmcadmaaGreatDoor
open Go.RowKit
open Crc (un v32 Tn)

/-! ### Texts in a row -/
def lists (ss : List ByteArray) : List (List UInt8) := ss.map fun s => s.data.toList
theorem lists_snoc (ss : List ByteArray) (j : Nat) (h : j < ss.length) : lists (ss.take (j + 1)) = lists (ss.take j) ++ [(strAt ss j).data.toList] := by
 unfold lists
 rw [List.take_succ_eq_append_getElem h,List.map_append]
 simp [strAt,List.getD,List.getElem?_eq_getElem h]
set_option maxHeartbeats 400000 in
theorem crc_Sum (a : Option Addr) (n m : Nat) (ss : List ByteArray) (w : World) (h : IsStrs w a n ss) :
  Calls Tryz.prog 73 #[.slice a n m] w fun e w'=>e = .returned (.int .u32 (un (Crc.sums (lists ss))))∧w=w':=by
 obtain ⟨hl,hm,hc,hs⟩:=h
 unfold maxLen at hm
 go_enter Tryz.func73,Tryz.ntmps73
 go_wp2
 go_loop [3,8] (fun v3 v8=>∃ (k:Int) (j:Nat),0≤k∧k≤4294967295∧j≤n∧v3 = .int .u32 k∧v8 = .int .i64 j∧Hid (k=un (Crc.sums (lists (ss.take j))))) (fun _ v8=>n-(intOf v8).toNat)
 case atStart=>exact ⟨0,0,by omega,by omega,by omega,rfl,rfl,Lib.hid rfl⟩
 case round =>
  obtain ⟨k,j,hk0,hk1,hj,rfl,rfl,hk⟩:=hrel
  by_cases hlt:j<n
  ·rcases hc with hc | ⟨b,off,rfl,hc⟩
   ·omega
   have hcell:=hc j hlt
   have hsz:=strAt_size ss j (by omega) hs
   have HL:=Lib.hid hl
   clear hl hc
   go_wp2_with (go_at_call 119;refine (crc_More _ _ hsz hk0 hk1 _).mono ?_;rintro e w' ⟨rfl,rfl⟩)
   go_round
   case rel =>
    have hk':=hk.out
    refine ⟨_,j+1,Crc.un_nonneg _,Crc.un_le _,by omega,rfl,by go_num,Lib.hid ?_⟩
    rw [lists_snoc ss j (by rw [HL.out];exact hlt),Crc.sums_snoc,hk',Crc.v32_un]
   case measure=>simp [intOf];omega
  ·have HL:=Lib.hid hl
   clear hl hc
   go_wp2
   go_ret
   have e:j=n:=by omega
   subst e
   refine ⟨ret_int ?_,rfl⟩
   rw [hk.out,List.take_of_length_le (by rw [HL.out];exact Nat.le_refl _)]

set_option maxHeartbeats 400000 in
theorem ref_Sum (a : Option Addr) (n m : Nat) (ss : List ByteArray) (w : World) (h : IsStrs w a n ss) :
  Calls Tryz.prog 77 #[.slice a n m] w fun e w'=>e = .returned (.int .u32 (un (Crc.sums (lists ss))))∧w=w':=by
 obtain ⟨hl,hm,hc,hs⟩:=h
 unfold maxLen at hm
 go_enter Tryz.func77,Tryz.ntmps77
 go_wp2
 go_loop [3,8] (fun v3 v8=>∃ (k:Int) (j:Nat),0≤k∧k≤4294967295∧j≤n∧v3 = .int .u32 k∧v8 = .int .i64 j∧Hid (k=un (Crc.sums (lists (ss.take j))))) (fun _ v8=>n-(intOf v8).toNat)
 case atStart=>exact ⟨0,0,by omega,by omega,by omega,rfl,rfl,Lib.hid rfl⟩
 case round =>
  obtain ⟨k,j,hk0,hk1,hj,rfl,rfl,hk⟩:=hrel
  by_cases hlt:j<n
  ·rcases hc with hc | ⟨b,off,rfl,hc⟩
   ·omega
   have hcell:=hc j hlt
   have hsz:=strAt_size ss j (by omega) hs
   have HL:=Lib.hid hl
   clear hl hc
   go_wp2_with (go_at_call 120;refine (ref_More _ _ hsz hk0 hk1 _).mono ?_;rintro e w' ⟨rfl,rfl⟩)
   go_round
   case rel =>
    have hk':=hk.out
    refine ⟨_,j+1,Crc.un_nonneg _,Crc.un_le _,by omega,rfl,by go_num,Lib.hid ?_⟩
    rw [lists_snoc ss j (by rw [HL.out];exact hlt),Crc.sums_snoc,hk',Crc.v32_un]
   case measure=>simp [intOf];omega
  ·have HL:=Lib.hid hl
   clear hl hc
   go_wp2
   go_ret
   have e:j=n:=by omega
   subst e
   refine ⟨ret_int ?_,rfl⟩
   rw [hk.out,List.take_of_length_le (by rw [HL.out];exact Nat.le_refl _)]


/-! ### A sum's bytes -/
theorem bits_Rev (r : Int) (h0 : 0 ≤ r) (h1 : r ≤ 4294967295) (w : World) :
  Calls Tryz.prog 117 #[.int .u32 r] w fun e w'=>e = .returned (.int .u32 (un (Crc.rev (v32 r))))∧w=w':=by
 go_enter Tryz.func117,Tryz.ntmps117
 go_wp2_with fail
 go_ret
 refine ⟨ret_int ?_,rfl⟩
 obtain ⟨b,rfl⟩ : ∃ b,r=un b:=⟨v32 r,(Crc.un_v32 h0 h1).symm⟩
 have e1:=fun b=>Crc.un_shl b 8
 have e2:=fun b=>Crc.un_shl b 16
 have e3:=fun b=>Crc.un_shr b 16
 simp only [Int.reducePow] at e1 e2 e3
 simp only [Crc.un_256,Crc.bits_and,e1,e2,e3,Crc.bits_or,Crc.v32_un]
 rfl


theorem conv4 (w : World) (x0 x1 x2 x3 : Int) :
  (convert 61 9 (.slice (some ⟨w.heap.size,0,none⟩) 4 4)).run Tryz.prog (w.alloc (.cells #[.int .u8 x0,.int .u8 x1,.int .u8 x2,.int .u8 x3] 5)) =
   .ok (.string (strOfNums [x0,x1,x2,x3])) (w.alloc (.cells #[.int .u8 x0,.int .u8 x1,.int .u8 x2,.int .u8 x3] 5)):=by
 refine run_convert_bytes_arg _ 61 5 Tryz.underlying61 Tryz.underlying5 w.heap.size 0 4 4 [x0,x1,x2,x3] rfl (fun i hi=>?_) 9 Tryz.underlying9
 match i,hi with
 | 0,_ | 1,_ | 2,_ | 3,_=>simp [go_sem]
set_option maxHeartbeats 400000 in
theorem crc_Tail (r : Int) (h0 : 0 ≤ r) (h1 : r ≤ 4294967295) (w : World) :
  Calls Tryz.prog 71 #[.int .u32 r] w fun e w'=>e = .returned (.string (Crc.tailS (v32 r)))∧Below w.heap.size w w':=by
 have kc:=fun w x0 x1 x2 x3=>conv4 w x0 x1 x2 x3
 go_enter Tryz.func71,Tryz.ntmps71
 have b0:=Crc.un_nonneg (Crc.rev (v32 r))
 have b1:=Crc.un_le (Crc.rev (v32 r))
 go_wp2_with (go_at_call 117;refine (bits_Rev r h0 h1 _).mono ?_;rintro e w' ⟨rfl,rfl⟩)
 go_ret
 exact ⟨by rw [← Crc.tailS_rev];rfl,(Below.refl _ _).alloc (Nat.le_refl _) _⟩

theorem crc_Tail' (b : BitVec 32) (w : World) : Calls Tryz.prog 71 #[.int .u32 (un b)] w fun e w' => e = .returned (.string (Crc.tailS b)) ∧ Below w.heap.size w w' := by
 have h:=crc_Tail (un b) (Crc.un_nonneg _) (Crc.un_le _) w
 rwa [Crc.v32_un] at h
/-- A text's sum. -/
def sumOf (s : ByteArray) : BitVec 32 := Crc.more 0#32 s.data.toList
theorem crc_Sum1 (b off n m : Nat) (s : ByteArray) (W : World) (hn : n = 1) (hs : s.size ≤ maxLen) (h : W.cell? ⟨b, off, none⟩ = some (.string s)) :
  Calls Tryz.prog 73 #[.slice (some ⟨b,off,none⟩) n m] W fun e w'=>e = .returned (.int .u32 (un (sumOf s)))∧W=w':=by
 subst hn;exact crc_Sum _ _ _ [s] _ (isStrs_one _ _ _ _ hs h)
theorem ref_Sum1 (b off n m : Nat) (s : ByteArray) (W : World) (hn : n = 1) (hs : s.size ≤ maxLen) (h : W.cell? ⟨b, off, none⟩ = some (.string s)) :
  Calls Tryz.prog 77 #[.slice (some ⟨b,off,none⟩) n m] W fun e w'=>e = .returned (.int .u32 (un (sumOf s)))∧W=w':=by
 subst hn;exact ref_Sum _ _ _ [s] _ (isStrs_one _ _ _ _ hs h)
def body (f : ByteArray) : ByteArray := f.extract 0 (f.size - 4)
def tailOf (f : ByteArray) : ByteArray := f.extract (f.size - 4) f.size
def fits (f : ByteArray) : Bool := (Crc.tailS (sumOf (body f))).toList == (tailOf f).toList
def openS (f : ByteArray) : ByteArray × Int :=
  if f.size < 4 then (ByteArray.empty, 5) else if 65540 < f.size then (ByteArray.empty, 1) else if fits f then (body f, 0) else (ByteArray.empty, 6)

end Go.Proofs.YtceikpipmcadmaaGreatDoor
namespace Go.Proofs.YtceikpipmcadmaaGreatDoor
open Go.RowKit
open Crc (un v32 Tn)

set_option maxHeartbeats 1000000 in
theorem crc_Open (s : ByteArray) (hs : s.size ≤ maxLen) (w : World) :
  Calls Tryz.prog 123 #[.string s] w fun e w'=>e = .returned (.tuple #[.string (openS s).1,.int .i64 (openS s).2])∧Below w.heap.size w w':=by
 have hs':=hs
 unfold maxLen at hs'
 by_cases hk:s.size<4
 ·go_enter Tryz.func123,Tryz.ntmps123
  go_wp2_with fail
  go_ret2
  exact ⟨by simp only [openS,if_pos hk];rfl,Below.refl _ _⟩
 by_cases hk2:65540<s.size
 ·go_enter Tryz.func123,Tryz.ntmps123
  go_wp2_with fail
  go_ret2
  exact ⟨by simp only [openS,if_neg hk,if_pos hk2];rfl,Below.refl _ _⟩
 have q1:(0:Int)≤(s.size:Int)-4:=by omega
 have q2:(s.size:Int)-4≤(s.size:Int):=by omega
 have q3:((s.size:Int)-4).toNat=s.size-4:=by omega
 have q4:(4:Int)≤(s.size:Int):=by omega
 have q5:(s.extract 0 (s.size-4)).size≤maxLen:=by rw [ByteArray.size_extract];unfold maxLen;omega
 have q6:IntKind.i64.wrap ((s.size:Int)-4)=(s.size:Int)-4:=IntWalk.i64_in _ (by omega)
 by_cases hf:fits s=true
 all_goals
  have hf':=hf
  simp only [fits,body,tailOf,Bool.not_eq_true] at hf'
  go_enter Tryz.func123,Tryz.ntmps123
  go_wp2_with fail
  go_region_held3 (fun _=>True) (trivial) (first | (go_at_call 73;go_must (refine (crc_Sum1 _ _ _ _ _ _ rfl q5 (by simp [go_sem])).mono ?_);rintro e w' ⟨rfl,rfl⟩) | (go_at_call 71;refine (crc_Tail' _ _).mono ?_;rintro e w' ⟨rfl,hb⟩))
  go_wp2_with fail
  go_ret2
  exact ⟨by simp only [openS,if_neg hk,if_neg hk2,hf];rfl,below_call (((Below.refl _ _).alloc (Nat.le_refl _) _).drew) hb (by simp)⟩

end Go.Proofs.YtceikpipmcadmaaGreatDoor
namespace Go.Proofs.YtceikpipmcadmaaGreatDoor
/-! ### Operators on natural numbers -/
theorem or_nat64 (a b : Nat) (ha : a < 18446744073709551616) (hb : b < 18446744073709551616) : bits .or .u64 (a : Int) (b : Int) = ((a ||| b : Nat) : Int) := by
 have h:a ||| b<2 ^ 64:=Nat.or_lt_two_pow (by omega) (by omega)
 show IntKind.u64.wrap (((BitVec.ofInt 64 (a:Int)) ||| (BitVec.ofInt 64 (b:Int))).toNat:Int)=_
 rw [BitVec.ofInt_natCast,BitVec.ofInt_natCast,BitVec.toNat_or,BitVec.toNat_ofNat,BitVec.toNat_ofNat,Nat.mod_eq_of_lt (by omega),Nat.mod_eq_of_lt (by omega)]
 exact IntWalk.u64_in _ (by omega)
theorem or_join_nat (q y k : Nat) (hy : y < 2 ^ k) : y ||| q * 2 ^ k = q * 2 ^ k + y := by
 rw [Nat.or_comm,Nat.mul_comm q,Nat.two_pow_add_eq_or_of_lt hy]
theorem size_list (s : ByteArray) : s.size = s.data.toList.length := (Array.length_toList (xs := s.data)).symm
theorem u8_nat (x : Nat) : IntKind.u8.wrap (x : Int) = nb (UInt8.ofNat x) := by
 rw [IntKind.wrap_u8];unfold nb;rw [UInt8.toNat_ofNat'];omega
namespace Num
abbrev top : Nat := 1099511627776
/-- A number's five bytes. -/
def five (n : Nat) : List UInt8 := [UInt8.ofNat (n / 4294967296), UInt8.ofNat (n / 16777216), UInt8.ofNat (n / 65536), UInt8.ofNat (n / 256), UInt8.ofNat n]
theorem five_length (n : Nat) : (five n).length = 5 := rfl
/-- Bytes read as a number, the big end first. -/
def ofB (l : List UInt8) : Nat := l.foldl (fun a b => 256 * a + b.toNat) 0
theorem ofB_snoc (l : List UInt8) (c : UInt8) : ofB (l ++ [c]) = 256 * ofB l + c.toNat := by simp [ofB]
theorem ofB_take (l : List UInt8) (k : Nat) (h : k < l.length) : ofB (l.take (k + 1)) = 256 * ofB (l.take k) + (at8 l k).toNat := by
 rw [List.take_succ_eq_append_getElem h,ofB_snoc,at8_get _ _ h]
theorem ofB_lt' (l : List UInt8) (a : Nat) : l.foldl (fun a b => 256 * a + b.toNat) a < (a + 1) * 256 ^ l.length := by
 induction l generalizing a with
 | nil=>simp
 | cons c l ih =>
  have:=ih (256*a+c.toNat)
  have hc:=c.toNat_lt
  rw [List.foldl_cons,List.length_cons,Nat.pow_succ,Nat.mul_comm (256 ^ l.length) 256,← Nat.mul_assoc]
  exact Nat.lt_of_lt_of_le this (Nat.mul_le_mul_right _ (by omega))
theorem ofB_lt (l : List UInt8) : ofB l < 256 ^ l.length := by have := ofB_lt' l 0; simpa [ofB] using this
theorem ofB_le4 (l : List UInt8) (h : l.length ≤ 4) : ofB l < 4294967296 := by
 have h1:=ofB_lt l
 have h2:256 ^ l.length≤256 ^ 4:=Nat.pow_le_pow_right (by decide) h
 omega
theorem ofB_le5 (l : List UInt8) (h : l.length ≤ 5) : ofB l < 1099511627776 := by
 have h1:=ofB_lt l
 have h2:256 ^ l.length≤256 ^ 5:=Nat.pow_le_pow_right (by decide) h
 omega
theorem ofB_small (l : List UInt8) (k : Nat) (h : k ≤ 4) : ofB (l.take k) < 4294967296 := ofB_le4 _ (by rw [List.length_take]; omega)
theorem ofB_five (n : Nat) (h : n < top) : ofB (five n) = n := by
 simp only [ofB,five,List.foldl_cons,List.foldl_nil,UInt8.toNat_ofNat']
 unfold top at h;omega
theorem five_ofB (l : List UInt8) (h : l.length = 5) : five (ofB l) = l := by
 match l,h with
 | [a,b,c,d,e],_ =>
  have ha:=a.toNat_lt;have hb:=b.toNat_lt;have hc:=c.toNat_lt;have hd:=d.toNat_lt;have he:=e.toNat_lt
  have hv:ofB [a,b,c,d,e]=256*(256*(256*(256*a.toNat+b.toNat)+c.toNat)+d.toNat)+e.toNat:=by simp [ofB]
  rw [hv];simp only [five,List.cons.injEq,and_true]
  refine ⟨?_,?_,?_,?_,?_⟩ <;> (apply UInt8.toNat_inj.1;rw [UInt8.toNat_ofNat'];omega)
def two (s : ByteArray) (e : Int) : Value := .tuple #[.string s, .int .i64 e]
/-- A record of numbers. -/
def recB (l : List Nat) : List UInt8 := l.flatMap five
def recOK (l : List Nat) : Bool := 1 ≤ l.length && l.length ≤ 8 && l.all (· < top)
/-- Short bytes. -/
def shortL : Nat → Nat → List UInt8
  | 0, n => [UInt8.ofNat n]
  | f + 1, n => if n < 128 then [UInt8.ofNat n] else UInt8.ofNat (n % 128 + 128) :: shortL f (n / 128)
/-- Records read. -/
def nrow (l : List UInt8) (w p : Nat) : List Nat := (List.range w).map fun k => ofB ((l.drop (p + 5 * k)).take 5)
def rowsTo (l : List UInt8) (w n : Nat) : List (List Nat) := (List.range n).map fun i => nrow l w (i * (5 * w))
def rowsOf (l : List UInt8) (w : Nat) : List (List Nat) := rowsTo l w (l.length / (5 * w))
def splitE (s : ByteArray) (w : Int) : Int := if w < 1 ∨ 8 < w then 1 else if s.size % (5 * w.toNat) ≠ 0 then 5 else 0
def splitL (s : ByteArray) (w : Int) : List (List Nat) := if splitE s w = 0 then rowsOf s.data.toList w.toNat else []
end Num
end Go.Proofs.YtceikpipmcadmaaGreatDoor
namespace Go.Proofs.YtceikpipmcadmaaGreatDoor
namespace Num
/-- Where the writer of short bytes is: these are written, n is to be written. -/
structure ShJ (N n : Nat) (pre : List UInt8) : Prop where
  few : pre.length ≤ 5
  lt : n < 2 ^ (40 - 7 * pre.length)
  eq : pre ++ shortL (5 - pre.length) n = shortL 5 N
theorem ShJ.start {N : Nat} (h : N < top) : ShJ N N [] := ⟨by simp, by unfold top at h; simp; omega, rfl⟩
theorem sh_lt {k n : Nat} (hk : k ≤ 5) (h : n < 2 ^ (40 - 7 * k)) (h1 : 128 ≤ n) : k < 5 ∧ n / 128 < 2 ^ (40 - 7 * (k + 1)) := by
 have:k=0∨k=1∨k=2∨k=3∨k=4∨k=5:=by omega
 rcases this with rfl | rfl | rfl | rfl | rfl | rfl <;> simp at h ⊢ <;> omega
theorem ShJ.step {N n : Nat} {pre : List UInt8} (h : ShJ N n pre) (h1 : 128 ≤ n) : pre.length < 5 ∧ ShJ N (n / 128) (pre ++ [UInt8.ofNat (n % 128 + 128)]) := by
 obtain ⟨q1,q2⟩:=sh_lt h.few h.lt h1
 refine ⟨q1,by simp;omega,by simpa using q2,?_⟩
 rw [← h.eq]
 obtain ⟨f,hf⟩ : ∃ f,5-pre.length=f+1:=⟨4-pre.length,by omega⟩
 rw [hf,shortL,if_neg (by omega),List.append_assoc]
 congr 1
 simp;congr 1;omega
end Num
end Go.Proofs.YtceikpipmcadmaaGreatDoor
namespace Go.Proofs.YtceikpipmcadmaaGreatDoor
open Go.RowKit
open Mv Disk Num
namespace Rec
def eachN (w : Nat) : Nat := if w = 0 then 1 else 5 * w
def needN (w c : Nat) : Nat := 1 + (eachN w * c + 63) / 64
def needP (w : Int) (c : Nat) : Int × Int := if w < 0 ∨ 8 < w ∨ 65536 < c then (0, 1) else ((needN w.toNat c : Nat), 0)
/-- Bytes, and 0 behind them, up to a sector's end. -/
def padS (s : ByteArray) : ByteArray := bs (s.data.toList ++ List.replicate ((64 - s.size % 64) % 64) 0)
def preS (w c : Nat) : ByteArray := bs ([87, 82, UInt8.ofNat w] ++ five c)
/-- A head's sector. -/
def headS (w c : Nat) : ByteArray := padS (preS w c ++ Crc.tailS (sumOf (preS w c)))
def secAt (s : ByteArray) (i : Nat) : ByteArray := s.extract (64 * i) (64 * i + 64)
/-- A disk as it was, beside an error of what is to be put on it. -/
noncomputable def refD (d : D) : D × Int := ((openD d).1, 1)
/-- The first k sectors of a body are written, one by one, while it goes well. -/
noncomputable def putTo (d : D) (s all : ByteArray) : Nat → D × Int
  | 0 => (d, 0)
  | k + 1 => if (putTo d s all k).2 = 0 then writeD (putTo d s all k).1 s ((k + 1 : Nat) : Int) (secAt all k) else putTo d s all k
/-- The end of it: synced, the head written, and synced. -/
noncomputable def sealD (d : D) (s h : ByteArray) : D × Int :=
  if (writeD (settleD d fun _ => true) s 0 h).2 = 0 then (settleD (writeD (settleD d fun _ => true) s 0 h).1 fun _ => true, 0) else writeD (settleD d fun _ => true) s 0 h
/-- A file of a width, and a body, on a disk that may be asked. -/
noncomputable def putP (d : D) (s : ByteArray) (w c : Nat) (body : ByteArray) : D × Int :=
  if (newD d s (needN w c : Nat)).2 ≠ 0 then newD d s (needN w c : Nat) else
  if (putTo (newD d s (needN w c : Nat)).1 s (padS body) (needN w c - 1)).2 ≠ 0 then putTo (newD d s (needN w c : Nat)).1 s (padS body) (needN w c - 1) else
  sealD (putTo (newD d s (needN w c : Nat)).1 s (padS body) (needN w c - 1)).1 s (headS w c)
def rowOK (w : Nat) (x : List Nat) : Bool := recOK x && decide (x.length = w)
noncomputable def writeP (d : D) (s : ByteArray) (w : Int) (l : List (List Nat)) : D × Int :=
  if w < 1 ∨ 8 < w ∨ 65536 < l.length then refD d else
  if l.all (rowOK w.toNat) = true then opened d (putP d s w.toNat l.length (bs (l.flatMap recB))) else refD d
noncomputable def writeTextP (d : D) (s text : ByteArray) : D × Int :=
  if 65536 < text.size then refD d else opened d (putP d s 0 text.size text)
def zeroL (l : List UInt8) : Bool := l.all fun b => b == 0
/-- A head's width and count. -/
def formP (s : ByteArray) : Nat × Nat × Int :=
  if s.data.toList.take 2 ≠ [87, 82] ∨ 8 < (s.data.toList.getD 2 0).toNat ∨ zeroL (s.data.toList.drop 12) = false then (0, 0, 2) else
  if (openS (s.extract 0 12)).2 ≠ 0 then (0, 0, (openS (s.extract 0 12)).2) else ((s.data.toList.getD 2 0).toNat, ofB ((s.data.toList.drop 3).take 5), 0)
noncomputable def headP (d : D) (s : ByteArray) : Nat × Nat × Int :=
  if (readO d s 0).2 ≠ 0 then (0, 0, (readO d s 0).2) else
  if (formP (readO d s 0).1).2.2 ≠ 0 then (0, 0, (formP (readO d s 0).1).2.2) else
  if (needP (formP (readO d s 0).1).1 (formP (readO d s 0).1).2.1).2 ≠ 0 ∨ (sectorsD d s).1 ≠ (needN (formP (readO d s 0).1).1 (formP (readO d s 0).1).2.1 : Nat) then (0, 0, 2) else
  formP (readO d s 0).1
/-- The first k sectors of a body. -/
noncomputable def bodyL (d : D) (s : ByteArray) : Nat → List UInt8
  | 0 => []
  | k + 1 => bodyL d s k ++ (readO d s ((k + 1 : Nat) : Int)).1.data.toList
/-- A file's body, of a width that is asked for, or not. -/
noncomputable def bodyP (d : D) (s : ByteArray) (text : Bool) : Nat × ByteArray × Int :=
  if (headP d s).2.2 ≠ 0 then (0, ByteArray.empty, (headP d s).2.2) else
  if text ≠ decide ((headP d s).1 = 0) then (0, ByteArray.empty, 7) else
  if zeroL ((bodyL d s (needN (headP d s).1 (headP d s).2.1 - 1)).drop (eachN (headP d s).1 * (headP d s).2.1)) = false then (0, ByteArray.empty, 7) else
  ((headP d s).1, bs ((bodyL d s (needN (headP d s).1 (headP d s).2.1 - 1)).take (eachN (headP d s).1 * (headP d s).2.1)), 0)
/-! ### What stays -/
theorem write_keep {d : D} (hR : Right d) (hdn : d.down = false) (hf : d.fuse ≤ 9223372036854775807) (s y : ByteArray) (k : Int) :
  Right (writeD d s k y).1∧(writeD d s k y).1.fuse≤9223372036854775807∧((writeD d s k y).2=0→(writeD d s k y).1.down=false):=by
 unfold writeD
 by_cases q0:(placeD d s k).2≠0
 ·rw [if_pos q0];exact ⟨hR,hf,fun _=>hdn⟩
 rw [if_neg q0]
 by_cases q1:y.size≠64
 ·rw [if_pos q1];exact ⟨hR,hf,fun _=>hdn⟩
 rw [if_neg q1]
 by_cases q2:d.waits.length=16384
 ·rw [if_pos q2];exact ⟨hR,hf,fun _=>hdn⟩
 rw [if_neg q2]
 have hwl:=hR.wl
 have hfu:=hR.fu
 have hA:=right_add (data:=y) hR (by simpa using q0) (by simpa using q1) (by omega)
 unfold fuseD
 by_cases q3:(addW d (s,k,y)).fuse=0
 ·rw [if_pos q3];exact ⟨right_fuse hA (by show -1≤d.fuse;omega) true,hf,fun h=>by simp at h⟩
 rw [if_neg q3]
 by_cases q4:0<(addW d (s,k,y)).fuse
 ·rw [if_pos q4];exact ⟨right_fuse hA (by have:0<d.fuse:=q4;show -1≤d.fuse-1;omega) _,by show d.fuse-1≤_;omega,fun _=>hdn⟩
 ·rw [if_neg q4];exact ⟨hA,hf,fun _=>hdn⟩
theorem putTo_keep {d : D} (hR : Right d) (hdn : d.down = false) (hf : d.fuse ≤ 9223372036854775807) (s all : ByteArray) (k : Nat) :
  Right (putTo d s all k).1∧(putTo d s all k).1.fuse≤9223372036854775807∧((putTo d s all k).2=0→(putTo d s all k).1.down=false):=by
 induction k with
 | zero=>exact ⟨hR,hf,fun _=>hdn⟩
 | succ k ih =>
  unfold putTo
  by_cases h:(putTo d s all k).2=0
  ·rw [if_pos h];exact write_keep ih.1 (ih.2.2 h) ih.2.1 _ _ _
  ·rw [if_neg h];exact ih
theorem padS_size (s : ByteArray) : (padS s).size = 64 * ((s.size + 63) / 64) := by
 unfold padS
 rw [size_bs,List.length_append,List.length_replicate,size_list]
 omega
theorem needN_pos (w c : Nat) : 1 ≤ needN w c := by unfold needN; omega
end Rec
end Go.Proofs.YtceikpipmcadmaaGreatDoor
namespace Go.Proofs.YtceikpipmcadmaaGreatDoor
open Go.RowKit
namespace Crc
def fd : List UInt8 → List UInt8 → Nat
  | x :: a, y :: b => if x = y then 1 + fd a b else 0
  | _, _ => 0
end Crc

end Go.Proofs.YtceikpipmcadmaaGreatDoor
namespace Go.Proofs.YtceikpipmcadmaaGreatDoor
open Go.RowKit
open Crc (un v32 Tn)

theorem ba_ext {a b : ByteArray} (h : a.data.toList = b.data.toList) : a = b := by rw [← bs_of a, ← bs_of b, h]
theorem ba_beq (a b : ByteArray) : (a.toList == b.toList) = decide (a = b) := by
 rw [ByteArray.toList_eq,ByteArray.toList_eq,Bool.eq_iff_iff]
 simp only [beq_iff_eq,decide_eq_true_eq]
 exact ⟨ba_ext,fun h=>by rw [h]⟩
theorem size_len (s : ByteArray) : s.data.toList.length = s.size := by simp
theorem extract_head (s : ByteArray) (k : Nat) : (s.extract 0 k).data.toList = s.data.toList.take k := by rw [Lib.extract_data]; simp
theorem extract_tail (s : ByteArray) (k : Nat) : (s.extract k s.size).data.toList = s.data.toList.drop k := by
 rw [Lib.extract_data];exact List.take_of_length_le (by simp)
theorem append_data (a b : ByteArray) : (a ++ b).data.toList = a.data.toList ++ b.data.toList := by simp

namespace Crc
/-! ### Cut -/
/-! ### Byte by byte -/
def zx (l m : List UInt8) : List UInt8 := List.zipWith (· ^^^ ·) l m
theorem zx_length (l m : List UInt8) (h : l.length = m.length) : (zx l m).length = l.length := by simp [zx, h]
theorem at8_zx (l m : List UInt8) (h : l.length = m.length) (j : Nat) (hj : j < l.length) : at8 (zx l m) j = at8 l j ^^^ at8 m j := by
 rw [at8_get _ _ (by rw [zx_length l m h];exact hj),at8_get l j hj,at8_get m j (by omega)]
 simp [zx]
theorem feeds_delta (l m : List UInt8) (h : l.length = m.length) (r q : BitVec 32) : feeds (r ^^^ q) (zx l m) = feeds r l ^^^ feeds q m := by
 induction l generalizing m r q with
 | nil=>cases m <;> simp_all [feeds,zx]
 | cons x l ih =>
  cases m with
  | nil=>simp at h
  | cons y m =>
   simp only [zx,List.zipWith_cons_cons,feeds_cons]
   rw [feed_xor]
   exact ih m (by simpa using h) _ _
theorem feed_zero : feed 0#32 0 = 0#32 := by decide
theorem feeds_zeros (n : Nat) : feeds 0#32 (List.replicate n 0) = 0#32 := by
 induction n with
 | zero=>rfl
 | succ n ih=>rw [List.replicate_succ,feeds_cons,feed_zero,ih]
theorem feeds_zeros_inj {q : BitVec 32} (n : Nat) (h : feeds q (List.replicate n 0) = 0#32) : q = 0#32 :=
 feeds_inj (List.replicate n 0) (by rw [h,feeds_zeros])
theorem more_delta (l m : List UInt8) (h : l.length = m.length) : more 0#32 (zx l m) = more 0#32 l ↔ feeds 0#32 m = 0#32 := by
 unfold more
 rw [BitVec.not_inj]
 have:=feeds_delta l m h (~~~0#32) 0#32
 rw [BitVec.xor_zero] at this
 rw [this]
 constructor
 ·intro e
  have:=congrArg (fun x=>feeds (~~~0#32) l ^^^ x) e
  simpa [← BitVec.xor_assoc] using this
 ·intro e;rw [e,BitVec.xor_zero]
/-- Bytes d at a place, zeros else. -/
def mask (p n : Nat) (d : List UInt8) : List UInt8 := List.replicate p 0 ++ (d ++ List.replicate (n - p - d.length) 0)
theorem mask_length (p n : Nat) (d : List UInt8) (h : p + d.length ≤ n) : (mask p n d).length = n := by simp [mask]; omega
theorem at8_mask (p n : Nat) (d : List UInt8) (j : Nat) : at8 (mask p n d) j = if p ≤ j ∧ j < p + d.length then at8 d (j - p) else 0 := by
 have hz:∀ n i,at8 (List.replicate n 0) i=0:=fun n i=>by
  unfold at8
  simp only [List.getD,List.getElem?_replicate]
  split <;> rfl
 have ha:∀ (a b:List UInt8) (i:Nat),at8 (a ++ b) i=if i<a.length then at8 a i else at8 b (i-a.length):=fun a b i=>by
  unfold at8
  simp only [List.getD,List.getElem?_append]
  split <;> rfl
 unfold mask
 rw [ha,ha,hz,hz,List.length_replicate]
 by_cases h1:j<p
 ·rw [if_pos h1,if_neg (by omega)]
 ·rw [if_neg h1]
  by_cases h2:j-p<d.length
  ·rw [if_pos h2,if_pos (by omega)]
  ·rw [if_neg h2,if_neg (by omega)]
theorem feeds_mask (p n : Nat) (d : List UInt8) : feeds 0#32 (mask p n d) = 0#32 ↔ feeds 0#32 d = 0#32 := by
 unfold mask
 rw [feeds_append,feeds_zeros,feeds_append]
 exact ⟨feeds_zeros_inj _,fun h=>by rw [h,feeds_zeros]⟩

/-! ### Four bytes side by side -/
/-! ### Three texts -/
end Crc
end Go.Proofs.YtceikpipmcadmaaGreatDoor
namespace Go.Proofs.YtceikpipmcadmaaGreatDoor
open Go.RowKit
open Crc (un v32 Tn)
namespace Crc
def frameB (s : ByteArray) : ByteArray := s ++ tailS (sumOf s)
theorem frameB_data (s : ByteArray) : (frameB s).data.toList = s.data.toList ++ (tailS (sumOf s)).data.toList := append_data _ _
theorem frameB_size (s : ByteArray) : (frameB s).size = s.size + 4 := by simp [frameB, tailS_size]
theorem tail_len (b : BitVec 32) : (tailS b).data.toList.length = 4 := by rw [size_len, tailS_size]
theorem body_data (f : ByteArray) : (body f).data.toList = f.data.toList.take (f.size - 4) := extract_head _ _
theorem tailOf_data (f : ByteArray) : (tailOf f).data.toList = f.data.toList.drop (f.size - 4) := extract_tail _ _
theorem body_frame (s : ByteArray) : body (frameB s) = s := by
 apply ba_ext
 rw [body_data,frameB_data,frameB_size,Nat.add_sub_cancel,← size_len s,List.take_left]
theorem tailOf_frame (s : ByteArray) : tailOf (frameB s) = tailS (sumOf s) := by
 apply ba_ext
 rw [tailOf_data,frameB_data,frameB_size,Nat.add_sub_cancel,← size_len s,List.drop_left]
theorem fits_iff (f : ByteArray) : fits f = true ↔ tailS (sumOf (body f)) = tailOf f := by
 unfold fits;rw [ba_beq];simp
theorem open_ok (s : ByteArray) (h : s.size ≤ 65536) : openS (frameB s) = (s, 0) := by
 unfold openS
 rw [frameB_size,if_neg (by omega),if_neg (by omega),if_pos ((fits_iff _).2 (by rw [body_frame,tailOf_frame])),body_frame]
/-- A frame with one byte another. -/
def turn (f : ByteArray) (k : Nat) (d : UInt8) : ByteArray := bs (f.data.toList.set k (at8 f.data.toList k ^^^ d))
theorem turn_size (f : ByteArray) (k : Nat) (d : UInt8) : (turn f k d).size = f.size := by simp [turn, bs_size]
theorem zx_one (l : List UInt8) (k : Nat) (d : UInt8) (h : k < l.length) : l.set k (at8 l k ^^^ d) = zx l (mask k l.length [d]) := by
 have hm:=mask_length k l.length [d] (by simp;omega)
 refine at8_ext (by rw [List.length_set,zx_length _ _ hm.symm]) fun j hj=>?_
 rw [List.length_set] at hj
 rw [at8_zx _ _ hm.symm j hj,at8_mask]
 by_cases e:j=k
 ·subst e
  rw [at8_set_same _ _ _ hj,if_pos (by simp),Nat.sub_self];rfl
 ·rw [at8_set_other _ _ _ _ e,if_neg (by simp;omega)];simp
theorem feeds_one (d : UInt8) : feeds 0#32 [d] = 0#32 ↔ d = 0 := by
 have e:feeds 0#32 [d]=Tn 8 (b32 d):=by simp [feeds,feed]
 rw [e]
 constructor
 ·intro h
  have:=Tn_inj0 8 h
  exact b32_inj (this.trans rfl)
 ·intro h;subst h;decide
theorem one_iff (l : List UInt8) (k : Nat) (d : UInt8) (h : k < l.length) : more 0#32 (l.set k (at8 l k ^^^ d)) = more 0#32 l ↔ d = 0 := by
 rw [zx_one l k d h,more_delta _ _ (mask_length _ _ _ (by simp;omega)).symm,feeds_mask,feeds_one]
theorem set_ne (l : List UInt8) (k : Nat) (d : UInt8) (h : k < l.length) (hd : d ≠ 0) : l.set k (at8 l k ^^^ d) ≠ l := fun e => by
 have:=congrArg (fun m=>at8 m k) e
 simp only [at8_set_same _ _ _ h] at this
 apply hd
 have h2:=congrArg (fun x=>at8 l k ^^^ x) this
 simpa [← UInt8.xor_assoc] using h2
theorem turn_open (s : ByteArray) (k : Nat) (d : UInt8) (h : s.size ≤ 65536) (hk : k < (frameB s).size) (hd : d ≠ 0) : (openS (turn (frameB s) k d)).2 = 6 := by
 have hf:fits (turn (frameB s) k d)=false:=by
  rw [← Bool.not_eq_true,fits_iff]
  intro e
  have hb:(body (turn (frameB s) k d)).data.toList=((frameB s).data.toList.set k (at8 (frameB s).data.toList k ^^^ d)).take s.size:=by
   rw [body_data,turn_size,frameB_size,Nat.add_sub_cancel,turn,bs_data]
  have ht:(tailOf (turn (frameB s) k d)).data.toList=((frameB s).data.toList.set k (at8 (frameB s).data.toList k ^^^ d)).drop s.size:=by
   rw [tailOf_data,turn_size,frameB_size,Nat.add_sub_cancel,turn,bs_data]
  rw [frameB_size] at hk
  by_cases hks:k<s.size
  ·have h1:(body (turn (frameB s) k d)).data.toList=s.data.toList.set k (at8 s.data.toList k ^^^ d):=by
    rw [hb,frameB_data,List.set_append_left _ _ (by rw [size_len];exact hks)]
    have ea:at8 (s.data.toList ++ (tailS (sumOf s)).data.toList) k=at8 s.data.toList k:=by
     unfold at8;simp only [List.getD];rw [List.getElem?_append_left (by rw [size_len];exact hks)]
    rw [ea]
    exact List.take_left' (by rw [List.length_set,size_len])
   have h2:tailOf (turn (frameB s) k d)=tailS (sumOf s):=by
    apply ba_ext
    rw [ht,frameB_data,List.set_append_left _ _ (by rw [size_len];exact hks)]
    exact List.drop_left' (by rw [List.length_set,size_len])
   rw [h2] at e
   have h3:=tailS_inj e
   unfold sumOf at h3
   rw [h1] at h3
   exact hd ((one_iff _ _ _ (by rw [size_len];exact hks)).1 h3)
  ·have h1:body (turn (frameB s) k d)=s:=by
    apply ba_ext
    rw [hb,frameB_data,List.set_append_right _ _ (by rw [size_len];omega)]
    exact List.take_left' (size_len s)
   rw [h1] at e
   have h2:=congrArg (fun x=>x.data.toList) e
   rw [ht,frameB_data,List.set_append_right _ _ (by rw [size_len];omega),List.drop_left' (size_len s),size_len] at h2
   have ea:at8 (s.data.toList ++ (tailS (sumOf s)).data.toList) k=at8 (tailS (sumOf s)).data.toList (k-s.size):=by
    unfold at8;simp only [List.getD];rw [List.getElem?_append_right (by rw [size_len];omega),size_len]
   rw [ea] at h2
   exact set_ne _ _ _ (by rw [tail_len];omega) hd h2.symm
 unfold openS
 rw [turn_size,frameB_size,if_neg (by omega),if_neg (by omega),hf];rfl
end Crc
end Go.Proofs.YtceikpipmcadmaaGreatDoor
namespace Go.Proofs.YtceikpipmcadmaaGreatDoor
open Go.RowKit
open Mv Disk Num
namespace Rec
theorem new_yes {d : D} {s : ByteArray} {n : Int} (h : (newD d s n).2 = 0) : nm s ∧ 1 ≤ n ∧ has d.ext s = false ∧ (used d.ext : Int) + n ≤ d.size ∧ (newD d s n).1 = { d with ext := insAt d.ext (pos d.ext s) (s, zeros n.toNat) } := by
 unfold newD at h ⊢
 by_cases q1 : ¬ nm s∨n<1
 ·rw [if_pos q1] at h;simp at h
 rw [if_neg q1] at h ⊢
 by_cases q2:has d.ext s=true
 ·rw [if_pos q2] at h;simp at h
 rw [if_neg q2] at h ⊢
 by_cases q3:d.size-used d.ext<n
 ·rw [if_pos q3] at h;simp at h
 rw [if_neg q3]
 refine ⟨by by_cases h:nm s;exact h;exact absurd (.inl h) q1,by omega,by simpa using q2,by omega,rfl⟩
theorem has_ins {l : List Ext} {i : Nat} {x : Ext} {o : ByteArray} (h : o ≠ x.1) : has (insAt l i x) o = has l o := by
 rw [Bool.eq_iff_iff,has_iff,has_iff]
 constructor
 ·rintro ⟨y,hy,e⟩
  rcases mem_ins.1 hy with rfl | hy
  ·exact absurd e.symm h
  ·exact ⟨y,hy,e⟩
 ·rintro ⟨y,hy,e⟩;exact ⟨y,mem_ins.2 (.inr hy),e⟩
section
variable {d : D} {s all : ByteArray} {n : Int}
theorem exOf_new (hR : Right d) (h : (newD d s n).2 = 0) : exOf (newD d s n).1.ext s = (s, zeros n.toNat) ∧ has (newD d s n).1.ext s = true := by
 obtain ⟨h1,h2,h3,h4,h5⟩:=new_yes h
 rw [h5]
 have hm:(s,zeros n.toNat) ∈ insAt d.ext (pos d.ext s) (s,zeros n.toNat):=mem_ins.2 (.inl rfl)
 exact ⟨exOf_mem (asc_ins hR.ex.asc h3) hm,has_iff.2 ⟨_,hm,rfl⟩⟩
theorem exOf_other (hR : Right d) (h : (newD d s n).2 = 0) {o : ByteArray} (ho : o ≠ s) : has (newD d s n).1.ext o = has d.ext o ∧ (has d.ext o = true → exOf (newD d s n).1.ext o = exOf d.ext o) := by
 obtain ⟨h1,h2,h3,h4,h5⟩:=new_yes h
 rw [h5]
 refine ⟨has_ins ho,fun hh=>?_⟩
 obtain ⟨x,hx,rfl⟩:=has_iff.1 hh
 rw [exOf_mem hR.ex.asc hx]
 exact exOf_mem (asc_ins hR.ex.asc h3) (mem_ins.2 (.inr hx))
theorem place_other (hR : Right d) (h : (newD d s n).2 = 0) {o : ByteArray} (ho : o ≠ s) (k : Int) : (placeD (newD d s n).1 o k).2 = (placeD d o k).2 := by
 obtain ⟨e1,e2⟩:=exOf_other hR h ho
 unfold placeD
 rw [e1]
 by_cases q:has d.ext o=true
 ·rw [if_pos q,if_pos q,e2 q];split <;> rfl
 ·rw [if_neg q,if_neg q]
theorem seen_other (hR : Right d) (h : (newD d s n).2 = 0) {o : ByteArray} (ho : o ≠ s) {k : Int} (hp : (placeD d o k).2 = 0) : seen (newD d s n).1 o k = seen d o k := by
 obtain ⟨h1,h2,h3,h4,h5⟩:=new_yes h
 have e:=(exOf_other hR h ho).2 (place0 hp).1
 unfold seen
 rw [e,h5]
/-- The writes of a body's first k sectors. -/
def secsW (s all : ByteArray) (k : Nat) : List Wr := (List.range k).map fun i => (s, ((i + 1 : Nat) : Int), secAt all i)
theorem secsW_succ (s all : ByteArray) (k : Nat) : secsW s all (k + 1) = secsW s all k ++ [(s, ((k + 1 : Nat) : Int), secAt all k)] := by
 unfold secsW
 rw [List.range_succ,List.map_append];rfl
/-- A disk with a new extent of which k sectors wait. -/
noncomputable def putE' (d : D) (s all : ByteArray) (n : Int) (k : Nat) (f : Int) : D := { (newD d s n).1 with waits := d.waits ++ secsW s all k, fuse := f }
theorem putTo_yes (hR : Right d) (hdn : d.down = false) (hf : d.fuse ≤ 9223372036854775807) (hn : (newD d s n).2 = 0) : ∀ k, (putTo (newD d s n).1 s all k).2 = 0 →
  ∃ f,-1≤f∧f≤9223372036854775807∧putTo (newD d s n).1 s all k=(putE' d s all n k f,0):=by
 obtain ⟨hR1,hd1,hf1,_⟩:=(new_law (s:=s) (n:=n) hR hdn).2 hn
 obtain ⟨_,_,_,_,h5⟩:=new_yes hn
 intro k
 induction k with
 | zero =>
  intro _
  refine ⟨d.fuse,hR.fu,hf,?_⟩
  show ((newD d s n).1,(0:Int))=_
  unfold putE' secsW
  rw [h5]
  simp
 | succ k ih =>
  intro h
  by_cases q:(putTo (newD d s n).1 s all k).2=0
  ·obtain ⟨kR,kf,kd⟩:=putTo_keep hR1 hd1 (by rw [hf1];exact hf) s all k
   have kd:=kd q
   rw [putTo,if_pos q] at h ⊢
   obtain ⟨f,f0,f1,e⟩:=ih q
   rw [e] at h kR kd kf ⊢
   have ho:=opened_ok kR kd (writeD (putE' d s all n k f) s ((k+1:Nat):Int) (secAt all k))
   obtain ⟨_,_,_,_,_,g,g0,g1,e2⟩:=write_ok (d:=putE' d s all n k f) (s:=s) (data:=secAt all k) (k:=((k+1:Nat):Int)) kf (by rw [ho];exact h)
   rw [ho] at e2
   refine ⟨g,g0,g1,e2.trans ?_⟩
   unfold putE' addW
   simp only [secsW_succ,List.append_assoc]
  ·rw [putTo,if_neg q] at h;exact absurd h q
theorem seen_put (hR : Right d) (hn : (newD d s n).2 = 0) (o : ByteArray) (a : Int) : ∀ k f, seen (putE' d s all n k f) o a = if o = s ∧ 1 ≤ a ∧ a ≤ k then secAt all (a.toNat - 1) else seen (newD d s n).1 o a := by
 obtain ⟨_,_,_,_,h5⟩:=new_yes hn
 intro k
 induction k with
 | zero =>
  intro f
  rw [if_neg (by omega)]
  unfold putE' secsW
  rw [h5]
  simp only [List.range_zero,List.map_nil,List.append_nil]
  rfl
 | succ k ih =>
  intro f
  have e:putE' d s all n (k+1) f=addW (putE' d s all n k f) (s,((k+1:Nat):Int),secAt all k):=by
   unfold putE' addW
   simp only [secsW_succ,List.append_assoc]
  rw [e,seen_add,ih f]
  by_cases q:s=o∧((k+1:Nat):Int)=a
  ·rw [if_pos q,if_pos ⟨q.1.symm,by omega,by omega⟩]
   rw [show a.toNat-1=k by omega]
  ·rw [if_neg q]
   by_cases q2:o=s∧1≤a∧a≤k
   ·rw [if_pos q2,if_pos ⟨q2.1,q2.2.1,by omega⟩]
   ·rw [if_neg q2,if_neg (fun ⟨h1,h2,h3⟩=>q2 ⟨h1,h2,by
     rcases Int.lt_or_le a (k+1) with h | h
     ·omega
     ·exact absurd ⟨h1.symm,by omega⟩ q⟩)]
end
/-- A disk has the file. -/
structure FileR (z : D) (s : ByteArray) (w c : Nat) (body : ByteArray) : Prop where
  head : readO z s 0 = (headS w c, 0)
  secs : ∀ i, i < needN w c - 1 → readO z s ((i + 1 : Nat) : Int) = (secAt (padS body) i, 0)
  size : sectorsD z s = (((needN w c : Nat) : Int), 0)
theorem sectors_sec {z : D} {s : ByteArray} (hR : Right z) (hdn : z.down = false) (h : has z.ext s = true) : sectorsD z s = (((sec (exOf z.ext s) : Nat) : Int), 0) := by
 unfold sectorsD
 rw [open_ok hR hdn,if_neg (by simp),if_pos h]
/-- Behind the body and the head, synced: the file is there, and what was there. -/
theorem sealed {e : D} {s : ByteArray} {w c : Nat} {body : ByteArray} (hR : Right e) (hdn : e.down = false) (hf : e.fuse ≤ 9223372036854775807) (hh : has e.ext s = true) (hs : sec (exOf e.ext s) = needN w c)
  (hb:∀ i,i<needN w c-1→seen e s ((i+1:Nat):Int)=secAt (padS body) i) (h:(sealD e s (headS w c)).2=0) :
  ∃ z,sealD e s (headS w c)=(z,0)∧Right z∧z.down=false∧z.fuse≤9223372036854775807∧z.waits = []∧FileR z s w c body ∧ ∀ o k,o≠s→readO z o k=readO e o k:=by
 have h1:=needN_pos w c
 have hR1:=right_settle hR (fun _=>true)
 unfold sealD at h ⊢
 by_cases q:(writeD (settleD e fun _=>true) s 0 (headS w c)).2=0
 ·rw [if_pos q]
  have ho:=opened_ok hR1 hdn (writeD (settleD e fun _=>true) s 0 (headS w c))
  obtain ⟨_,_,q1,q2,q3,f,f0,f1,e2⟩:=write_ok (d:=settleD e fun _=>true) (s:=s) (data:=headS w c) (k:=0) hf (by rw [ho];exact q)
  rw [ho] at e2
  rw [e2]
  have hR2:Right { addW (settleD e fun _=>true) (s,0,headS w c) with fuse:=f }:=right_fuse (right_add hR1 q1 q2 q3) f0 (addW (settleD e fun _=>true) (s,0,headS w c)).down
  have hR3:=right_settle hR2 (fun _=>true)
  have hpl:∀ o k,(placeD { addW (settleD e fun _=>true) (s,0,headS w c) with fuse:=f } o k).2=(placeD e o k).2:=fun o k=>by
   show (placeD (settleD e fun _=>true) o k).2=_
   exact place_settle hR _ o k
  have hrd:∀ o k,(placeD e o k).2=0→readO (settleD { addW (settleD e fun _=>true) (s,0,headS w c) with fuse:=f } fun _=>true) o k=(if s=o∧0=k then headS w c else seen e o k,0):=fun o k hp=>by
   refine (read_ok hR3 hdn o k).trans ?_
   rw [place_settle hR2,hpl,hp,if_neg (by simp),seen_settle hR2 (by rw [hpl];exact hp)]
   have e3:seen { addW (settleD e fun _=>true) (s,0,headS w c) with fuse:=f } o k=if s=o∧0=k then headS w c else seen (settleD e fun _=>true) o k:=seen_add _ s 0 (headS w c) o k
   have e4:=seen_settle hR hp (fun _=>true)
   refine Prod.ext ?_ rfl
   show seen { addW (settleD e fun _=>true) (s,0,headS w c) with fuse:=f } o k=_
   rw [e3,e4];rfl
  have hps:∀ k:Nat,k<needN w c→(placeD e s (k:Int)).2=0:=fun k hk=>by
   unfold placeD
   rw [if_pos hh,if_neg (by rw [hs];omega)]
  refine ⟨_,rfl,hR3,hdn,f1,rfl,⟨?_,fun i hi=>?_,?_⟩,fun o k hok=>?_⟩
  ·refine (hrd s 0 (hps 0 (by omega))).trans ?_
   rw [if_pos ⟨rfl,rfl⟩]
  ·refine (hrd s _ (hps (i+1) (by omega))).trans ?_
   rw [if_neg (by omega),hb i hi]
  ·have hh2:has (settleD { addW (settleD e fun _=>true) (s,0,headS w c) with fuse:=f } fun _=>true).ext s=true∧exOf (settleD { addW (settleD e fun _=>true) (s,0,headS w c) with fuse:=f } fun _=>true).ext s=doneX (fun _=>true) (addW (settleD e fun _=>true) (s,0,headS w c)).waits (doneX (fun _=>true) e.waits (exOf e.ext s)):=by
    have a1:has (settleD e fun _=>true).ext s=true:=(has_map (f:=doneX (fun _=>true) e.waits) (fun _=>rfl) e.ext s).trans hh
    refine ⟨(has_map (f:=doneX (fun _=>true) (addW (settleD e fun _=>true) (s,0,headS w c)).waits) (fun _=>rfl) (settleD e fun _=>true).ext s).trans a1,?_⟩
    have b1:exOf (settleD e fun _=>true).ext s=doneX (fun _=>true) e.waits (exOf e.ext s):=exOf_map (f:=doneX (fun _=>true) e.waits) (fun _=>rfl) hR.ex.asc hh
    exact (exOf_map (f:=doneX (fun _=>true) (addW (settleD e fun _=>true) (s,0,headS w c)).waits) (fun _=>rfl) hR1.ex.asc a1).trans (by rw [b1])
   rw [sectors_sec hR3 hdn hh2.1,hh2.2]
   have c1:(doneX (fun _=>true) e.waits (exOf e.ext s)) ∈ (settleD e fun _=>true).ext:=List.mem_map_of_mem (exOf_has hR.ex.asc hh).1
   have c2:sec (doneX (fun _=>true) (addW (settleD e fun _=>true) (s,0,headS w c)).waits (doneX (fun _=>true) e.waits (exOf e.ext s)))=sec (doneX (fun _=>true) e.waits (exOf e.ext s)):=by
    unfold sec
    rw [done_size hR2 (fun _=>true) c1]
   have c3:sec (doneX (fun _=>true) e.waits (exOf e.ext s))=sec (exOf e.ext s):=by
    unfold sec
    rw [done_size hR (fun _=>true) (exOf_has hR.ex.asc hh).1]
   rw [c2,c3,hs]
  ·by_cases hp:(placeD e o k).2=0
   ·refine (hrd o k hp).trans ?_
    rw [if_neg (fun h=>hok h.1.symm),read_ok hR hdn,hp,if_neg (by simp)]
   ·refine (read_ok hR3 hdn o k).trans ?_
    rw [place_settle hR2,hpl,read_ok hR hdn,if_pos hp,if_pos hp]
 ·rw [if_neg q] at h;exact absurd h q
end Rec
end Go.Proofs.YtceikpipmcadmaaGreatDoor
namespace Go.Proofs.YtceikpipmcadmaaGreatDoor
open Go.RowKit
namespace Mv
/-! ### Less is known -/
def Mem.Lo (S' S : Mem) : Prop := (∀ b r, S'.own b = some r → S.own b = some r) ∧ (∀ a v, S'.ro a = some v → S.ro a = some v) ∧
  ∀ g l, S'.ro.z g = some l → S.ro.z g = some l ∧ ((∃ v, S.ro ⟨g, 0, none⟩ = some v) → ∃ v, S'.ro ⟨g, 0, none⟩ = some v)
theorem Mem.Less.lo {S S' : Mem} (h : S'.Less S) : S'.Lo S := ⟨h.1, fun a v x => by rw [← h.2]; exact x, fun g l x => by rw [h.2] at x ⊢; exact ⟨x, id⟩⟩
theorem Mem.Lo.refl (S : Mem) : S.Lo S := (Mem.Less.refl S).lo
theorem Mem.Lo.trans {S S' S'' : Mem} (h : S''.Lo S') (k : S'.Lo S) : S''.Lo S :=
 ⟨fun b r x=>k.1 b r (h.1 b r x),fun a v x=>k.2.1 a v (h.2.1 a v x),fun g l x=>by
  obtain ⟨x1,x2⟩:=h.2.2 g l x
  obtain ⟨y1,y2⟩:=k.2.2 g l x1
  exact ⟨y1,fun z=>x2 (y2 z)⟩⟩
theorem View.lo {S S' : Mem} {w : World} (h : View S w) (hl : S'.Lo S) : View S' w :=
 ⟨fun b r hb=>h.own b r (hl.1 b r hb),fun a v ha=>by
  obtain ⟨h1,h2⟩:=h.ro a v (hl.2.1 a v ha)
  refine ⟨h1,?_⟩
  cases e:S'.own a.block with
  | none=>rfl
  | some r=>(have:=hl.1 _ _ e;rw [h2] at this;cases this),fun g l hg=>by
  obtain ⟨q1,q2⟩:=hl.2.2 g l hg
  obtain ⟨h1,h2,h3⟩:=h.fz g l q1
  refine ⟨?_,q2 h2,h3⟩
  cases e:S'.own g with
  | none=>rfl
  | some r=>have:=hl.1 _ _ e;rw [h1] at this;cases this⟩
theorem Step.lo {S S' S'' : Mem} {w w' : World} (h : Step S w S' w') (hl : S''.Lo S') : Step S w S'' w' :=
 ⟨h.view.lo hl,h.os,h.tape,h.output,h.size,h.block,fun k hk=>h.dom k (by
  cases e:S''.own k with
  | none=>exact absurd e hk
  | some r=>rw [hl.1 _ _ e];simp),fun a v hv=>h.ro a v (hl.2.1 a v hv)⟩
theorem Step.loL {S S0 S' : Mem} {w w' : World} (h : Step S0 w S' w') (hl : S0.Lo S) : Step S w S' w' :=
 ⟨h.view,h.os,h.tape,h.output,h.size,fun k hk hn=>h.block k hk (by
  cases e:S0.own k with
  | none=>rfl
  | some r=>have:=hl.1 _ _ e;rw [hn] at this;cases this),fun k hk=>by
   rcases h.dom k hk with x | x
   ·cases e:S0.own k with
    | none=>exact absurd e x
    | some r=>exact .inl (by rw [hl.1 _ _ e];simp)
   ·exact .inr x,fun a v hv=>by
   rcases h.ro a v hv with x | x | x
   ·exact .inl (hl.2.1 _ _ x)
   ·refine .inr (.inl ?_)
    cases e:S0.own a.block with
    | none=>exact absurd e x
    | some r=>rw [hl.1 _ _ e];simp
   ·exact .inr (.inr x)⟩
theorem AWP.lo {P : Program} {N : Nat} {c : Code} {Q : Exit → Env → Mem → Prop} {E : Env} {S : Mem} (S' : Mem) (hl : S'.Lo S) (h : AWP P N c Q E S') : AWP P N c Q E S := fun a w hg hv =>
 wp_mono (h a w hg (hv.lo hl)) fun _ _ _ ⟨E1,S1,k,g,s⟩=>⟨E1,S1,k,g,s.loL hl⟩
theorem ACall.lo {P : Program} {f : FuncId} {args : Array Value} {S S0 : Mem} {R : Value → Mem → Prop} (hl : S0.Lo S) (h : ACall P f args S0 R) : ACall P f args S R := fun w hv =>
 (h w (hv.lo hl)).mono fun e w' ⟨v,S',he,hR,s⟩=>⟨v,S',he,hR,s.loL hl⟩
/-- Behind a call less is known. -/
theorem ACall.lose {P : Program} {f : FuncId} {args : Array Value} {S : Mem} {R R' : Value → Mem → Prop} (h : ACall P f args S R) (k : ∀ v S', R v S' → ∃ S'', S''.Lo S' ∧ R' v S'') : ACall P f args S R' := fun w hv =>
 (h w hv).mono fun e w' ⟨v,S',he,hR,s⟩=>let ⟨S'',h1,h2⟩:=k v S' hR;⟨v,S'',he,h2,s.lo h1⟩
/-- A call knows of less than there is: all else stays. -/
theorem ACall.over {P : Program} {f : FuncId} {args : Array Value} {S T : Mem} {R : Value → Mem → Prop} (h : ACall P f args S R) (hl : S.Less T) :
  ACall P f args T fun v T'=>∃ S',R v S'∧S'.Less T' ∧ ∀ k r,S.own k=none→T.own k=some r→T'.own k=some r∧S'.own k=none:=fun w hv=>by
 classical
 refine (h w (hv.less hl)).mono fun e w' ⟨v,S',he,hR,st⟩=>?_
 have hro:∀ a u,S.ro a=some u→T.ro a=some u:=fun a u hu=>by rw [← hl.2];exact hu
 have hno:∀ k r,S.own k=none→T.own k=some r→S'.own k=none:=fun k r h1 h2=>by
  cases e0:S'.own k with
  | none=>rfl
  | some r0 =>
   rcases st.dom k (by rw [e0];simp) with x | x
   ·exact absurd h1 x
   ·have:=hv.lt h2;omega
 have hso:∀ k,S.own k≠none→T.own k≠none:=fun k hk=>by
  cases e0:S.own k with
  | none=>exact absurd e0 hk
  | some r=>rw [hl.1 k r e0];simp
 have hra:∀ a u,S'.ro a=some u→S.own a.block=none→T.own a.block=none:=fun a u hu hn=>by
  cases e0:T.own a.block with
  | none=>rfl
  | some r =>
   rcases st.ro a u hu with x | x | x
   ·have:=(hv.ro a u (hro a u x)).2;rw [e0] at this;exact this
   ·exact absurd hn x
   ·have:=hv.lt e0;omega
 let T':Mem:=⟨fun k=>if S.own k=none∧T.own k≠none then T.own k else S'.own k,S'.ro⟩
 have hT:∀ k,T'.own k=if S.own k=none∧T.own k≠none then T.own k else S'.own k:=fun _=>rfl
 have hT0:∀ a u,S'.ro a=some u→T'.own a.block=none:=fun a u hu=>by
  rw [hT]
  split
  ·rename_i x;exact hra a u hu x.1
  ·exact (st.view.ro a u hu).2
 refine ⟨v,T',he,⟨S',hR,⟨fun k r hk=>?_,rfl⟩,fun k r h1 h2=>⟨by rw [hT,if_pos ⟨h1,by rw [h2];simp⟩];exact h2,hno k r h1 h2⟩⟩,⟨⟨fun k r hk=>?_,fun a u hu=>⟨(st.view.ro a u hu).1,hT0 a u hu⟩,fun g l hg=>?_⟩,st.os,st.tape,st.output,st.size,fun k hk hn=>?_,fun k hk=>?_,fun a u hu=>?_⟩⟩
 ·rw [hT]
  split
  ·rename_i x
   cases e0:T.own k with
   | none=>exact absurd e0 x.2
   | some r0=>rw [hno k r0 x.1 e0] at hk;cases hk
  ·exact hk
 ·rw [hT] at hk
  split at hk
  ·rename_i x
   rw [st.block k (hv.lt hk) x.1];exact hv.own k r hk
  ·exact st.view.own k r hk
 ·obtain ⟨_,⟨u,hu⟩,h3⟩:=st.view.fz g l hg
  exact ⟨hT0 _ u hu,⟨u,hu⟩,h3⟩
 ·refine st.block k hk ?_
  cases e0:S.own k with
  | none=>rfl
  | some r=>have:=hl.1 k r e0;rw [hn] at this;cases this
 ·rw [hT] at hk
  split at hk
  ·exact .inl hk
  ·rcases st.dom k hk with x | x
   ·exact .inl (hso k x)
   ·exact .inr x
 ·rcases st.ro a u hu with x | x | x
  ·exact .inl (hro a u x)
  ·exact .inr (.inl (hso _ x))
  ·exact .inr (.inr x)
theorem less_set_skip {S T : Mem} {b : Nat} {r : Blk} (h : S.Less T) (hn : S.own b = none) : S.Less (T.set b r) :=
 ⟨fun k r' hk=>by rw [Mem.own_set_other _ _ (fun e=>by rw [e,hn] at hk;cases hk)];exact h.1 k r' hk,h.2⟩
/-- What holds wherever this memory is known. -/
theorem ACall.seen {P : Program} {f : FuncId} {args : Array Value} {S : Mem} {R : Value → Mem → Prop} {p : Prop} (hp : ∀ w, View S w → p) (h : p → ACall P f args S R) : ACall P f args S R := fun w hv => h (hp w hv) w hv
theorem Mem.Knows.lo {S S' : Mem} {a : Addr} {cs : List Value} (h : S.Knows a cs) (hl : S.Lo S') : S'.Knows a cs := fun w hv => h w (hv.lo hl)
/-- A block's first bytes are a text's, from here on. -/
def Mem.fr (S : Mem) (g : Nat) (l : List UInt8) : Mem := ⟨S.own, ⟨fun a => if a.block = g then (if a.spot.isSome then none else (cellsB l)[a.off]?) else S.ro a, fun k => if k = g then some l else S.ro.z k⟩⟩
theorem Mem.lo_fr {S : Mem} {g : Nat} {l : List UInt8} (hf : Fresh S g) (hz : S.ro.z g = none) : S.Lo (S.fr g l) :=
 ⟨fun b r h=>h,fun a v h=>by
  show (if a.block=g then _ else S.ro a)=some v
  rw [if_neg (hf.2 a v h)];exact h,fun k x h=>by
  have hk:k≠g:=fun e=>by rw [e,hz] at h;cases h
  refine ⟨?_,fun ⟨v,hv⟩=>⟨v,?_⟩⟩
  ·show (if k=g then some l else S.ro.z k)=some x
   rw [if_neg hk];exact h
  ·change (if k=g then _ else S.ro ⟨k,0,none⟩)=some v at hv
   rw [if_neg hk] at hv;exact hv⟩
theorem Mem.z_none {S : Mem} {w : World} (hv : View S w) {g : Nat} {r : Blk} (hb : S.own g = some r) : S.ro.z g = none := by
 cases e:S.ro.z g with
 | none=>rfl
 | some l=>have:=(hv.fz g l e).1;rw [hb] at this;cases this
theorem Mem.lo_fr_set {S : Mem} {g b : Nat} {l : List UInt8} {r : Blk} (hf : Fresh S g) (hz : S.ro.z g = none) (hb : Fresh S b) (hne : b ≠ g) : S.Lo ((S.fr g l).set b r) :=
 (Mem.lo_fr hf hz).trans ⟨fun k r' h=>by
  by_cases e:k=b
  ·subst e;have:=hb.1;rw [show (S.fr g l).own k=S.own k from rfl,this] at h;cases h
  ·rw [Mem.own_set_other _ _ e];exact h,fun a v h=>h,fun k x h=>⟨h,id⟩⟩
section
variable {P : Program} {N : Nat} {ops : Array Oper} {E : Env} {S : Mem} {K : Env → Mem → Prop}
variable {dst : Option Nat} {ty : TypeId} {pos : String} {aft : Array Edge} {gd : Option (Nat × Bool)}
theorem Calm.sliceData {x : Operand} {a : Option Addr} {n c : Nat} {ats : Array TypeId} (hx : ev E x = some (.slice a n c)) (hc : a = none ∨ c ≠ 0) : ACalm P N ⟨dst, .call ⟨.builtin .unsafeSliceData, #[x], ats⟩, ty, pos, aft, gd⟩ E S (.pointer a) := fun k w g hv => by
 have h:(Builtin.unsafeSliceData_ ats ty #[.slice a n c]).run P w = .ok (.pointer a) w:=by
  cases a with
  | none=>exact Lib.run_unsafeSliceData_nil _ _ _ _ _
  | some a=>exact Lib.run_unsafeSliceData_row _ _ _ _ _ _ (hc.resolve_left (fun h=>by cases h))
 simp [execOp,resolve,invoke,builtin,g.ev hx,h]
theorem freeze_block {w : World} {g n k : Nat} (h : k ≠ g) : (w.freeze ⟨g, 0, none⟩ n).heap[k]? = w.heap[k]? := by
 unfold World.freeze
 split
 ·rfl
 ·simp only [Array.getElem?_modify]
  rw [if_neg (Ne.symm h)]
theorem freeze_at {w : World} {g n : Nat} {cur : Array Value} {T : TypeId} {fz : Nat × Nat} (h : w.heap[g]? = some (.cells cur T fz)) (hn : n ≠ 0) : ∃ hi, n ≤ hi ∧ (w.freeze ⟨g, 0, none⟩ n).heap[g]? = some (.cells cur T (0, hi)) := by
 obtain ⟨lo,hi⟩:=fz
 unfold World.freeze
 rw [if_neg hn]
 simp only [Array.getElem?_modify,h,if_true,Option.map_some]
 by_cases e:lo=hi
 ·exact ⟨n,Nat.le_refl _,by simp [e]⟩
 ·exact ⟨max hi n,by omega,by simp [e]⟩
theorem freeze_size (w : World) (a : Addr) (n : Nat) : (w.freeze a n).heap.size = w.heap.size := by
 unfold World.freeze;split <;> simp
theorem freeze_rest (w : World) (a : Addr) (n : Nat) : (w.freeze a n).os = w.os ∧ (w.freeze a n).tape = w.tape ∧ (w.freeze a n).output = w.output := by
 unfold World.freeze;split <;> exact ⟨rfl,rfl,rfl⟩
theorem freeze_again {w : World} {g n hi : Nat} {cur : Array Value} {T : TypeId} (h : w.heap[g]? = some (.cells cur T (0, hi))) (hn : n ≤ hi) : w.freeze ⟨g, 0, none⟩ n = w := by
 unfold World.freeze
 by_cases e:n=0
 ·rw [if_pos e]
 ·rw [if_neg e]
  have hh:(w.heap.modify g fun o=>match o with
   | .cells c elem (lo,hi)=>.cells c elem (if lo == hi then (0,0+n) else (min lo 0,max hi (0+n)))
   | o=>o)=w.heap:=by
   apply Array.ext_getElem?
   intro i
   rw [Array.getElem?_modify]
   by_cases hi':g=i
   ·subst hi'
    rw [if_pos rfl,h]
    simp only [Option.map_some]
    have h0:((0:Nat) == hi)=false:=by simp;omega
    rw [h0]
    simp
    omega
   ·rw [if_neg hi']
  exact congrArg (fun h=>{ w with heap:=h }) hh
/-- The step of a freeze. -/
theorem Step.fr {w : World} {g room : Nat} {l : List UInt8} (hv : View S w) (hb : S.own g = some ⟨5, cellsB l, room⟩) (h0 : l ≠ []) : Step S w ((S.del g).fr g l) (w.freeze ⟨g, 0, none⟩ l.length) := by
 have hl:l.length≠0:=by simpa using h0
 obtain ⟨cur,fz,e1,e2,e3,e4⟩:=hv.own g _ hb
 obtain ⟨hi,q1,q2⟩:=freeze_at e1 hl
 obtain ⟨r1,r2,r3⟩:=freeze_rest w ⟨g,0,none⟩ l.length
 have hd:∀ k,((S.del g).fr g l).own k=if k=g then none else S.own k:=fun k=>rfl
 have hcell:∀ a v,(if a.block=g then (if a.spot.isSome then none else (cellsB l)[a.off]?) else S.ro a)=some v→(w.freeze ⟨g,0,none⟩ l.length).cell? a=some v:=by
  intro a v h
  by_cases e:a.block=g
  ·rw [if_pos e] at h
   split at h
   ·cases h
   ·rename_i hs
    have:=prefix_get e2 h
    unfold World.cell?
    rw [e,q2]
    simp only [hs]
    simpa using this
  ·rw [if_neg e] at h
   have:=(hv.ro a v h).1
   unfold World.cell? at this ⊢
   rw [freeze_block e];exact this
 refine ⟨⟨fun k r hk=>?_,fun a v h=>⟨hcell a v h,?_⟩,fun k x hk=>?_⟩,r1,r2,r3,by rw [freeze_size];exact Nat.le_refl _,fun k hk hn=>freeze_block (fun e=>by rw [e,hb] at hn;cases hn),fun k hk=>?_,fun a v h=>?_⟩
 ·rw [hd] at hk
  by_cases e:k=g
  ·rw [if_pos e] at hk;cases hk
  ·rw [if_neg e] at hk
   rw [freeze_block e];exact hv.own k r hk
 ·rw [hd]
  by_cases e:a.block=g
  ·rw [if_pos e]
  ·rw [if_neg e]
   change (if a.block=g then _ else S.ro a)=some v at h
   rw [if_neg e] at h
   exact (hv.ro a v h).2
 ·change (if k=g then some l else S.ro.z k)=some x at hk
  rw [hd]
  by_cases e:k=g
  ·rw [if_pos e] at hk ⊢
   obtain rfl:l=x:=Option.some.inj hk
   subst e
   refine ⟨rfl,?_,cur,hi,q2,q1,?_⟩
   ·cases l with
    | nil=>exact absurd rfl h0
    | cons c l=>exact ⟨_,show (if k=k then (if (none:Option _).isSome then none else (cellsB (c :: l))[0]?) else _)=some _ from by rw [if_pos rfl];rfl⟩
   ·exact e2
  ·rw [if_neg e] at hk ⊢
   obtain ⟨z1,⟨v,z2⟩,z3⟩:=hv.fz k x hk
   exact ⟨z1,⟨v,show (if k=g then _ else S.ro ⟨k,0,none⟩)=some v from by rw [if_neg e];exact z2⟩,z3.of_block (freeze_block e)⟩
 ·rw [hd] at hk
  by_cases e:k=g
  ·rw [if_pos e] at hk;exact absurd rfl hk
  ·rw [if_neg e] at hk;exact .inl hk
 ·change (if a.block=g then _ else S.ro a)=some v at h
  by_cases e:a.block=g
  ·exact .inr (.inl (by rw [e,hb];simp))
  ·rw [if_neg e] at h;exact .inl h
theorem run_us {w : World} {g : Nat} {l : List UInt8} {pt it : TypeId} {cur : Array Value} {fz : Nat × Nat} (hpt : P.underlying pt = some (.pointer 5)) (hc : P.cellsOf 5 = 1) (e1 : w.heap[g]? = some (.cells cur 5 fz)) (e2 : cellsB l <+: cur.toList) (h0 : l ≠ []) (h63 : l.length ≤ 9223372036854775807) :
  (Builtin.unsafeString_ #[pt,it] ty #[.pointer (some ⟨g,0,none⟩),.int .i64 l.length]).run P w = .ok (.string (bs l)) (w.freeze ⟨g,0,none⟩ l.length):=by
 refine Lib.run_unsafeString_row w pt it ty _ hpt hc g cur.size (by simp [World.shape?,e1]) l h0 ?_ h63 fun j x hx=>?_
 ·have:=e2.length_le
  rw [cellsB_length] at this
  simpa using this
 ·have:=prefix_get e2 (j:=j) (v:=.int .u8 (nb x)) (by simp [cellsB,hx])
  rw [addr_add]
  unfold World.cell?
  simp only [e1,Nat.zero_add]
  simpa [nb] using this
/-- A text of bytes that are owned: they are so no more. -/
theorem ARun.usOwn {os : List Oper} {x y : Operand} {g room d : Nat} {l : List UInt8} {pt it : TypeId} (hn : d < N) (hpt : P.underlying pt = some (.pointer 5)) (hc : P.cellsOf 5 = 1) (hx : ev E x = some (.pointer (some ⟨g, 0, none⟩))) (hy : ev E y = some (.int .i64 (l.length : Int))) (hb : S.own g = some ⟨5, cellsB l, room⟩) (h0 : l ≠ []) (h63 : l.length ≤ 9223372036854775807)
  (h:ARun P N ops os K ((d,.string (bs l)) :: E) ((S.del g).fr g l)):ARun P N ops (⟨some d,.call ⟨.builtin .unsafeString,#[x,y],#[pt,it]⟩,ty,pos,aft,none⟩ :: os) K E S:=fun a w g' hv=>by
 rw [if_pos (by simp [Region.wanted])]
 unfold Oper.wp
 obtain ⟨cur,fz,e1,e2,e3,e4⟩:=hv.own g _ hb
 have hr:=run_us (ty:=ty) (it:=it) (w:=w) hpt hc e1 e2 h0 h63
 have hex:(execOp a.eval ⟨some d,.call ⟨.builtin .unsafeString,#[x,y],#[pt,it]⟩,ty,pos,aft,none⟩).run P w = .ok (.value (.string (bs l))) (w.freeze ⟨g,0,none⟩ l.length):=by
  simp [execOp,resolve,invoke,builtin,g'.ev hx,g'.ev hy,hr]
 rw [hex]
 exact ⟨_,_,h,g'.put hn _,Step.fr hv hb h0⟩
/-- .. of bytes that are shared already. -/
theorem ARun.usRo {os : List Oper} {x y : Operand} {g d : Nat} {l : List UInt8} {pt it : TypeId} (hn : d < N) (hpt : P.underlying pt = some (.pointer 5)) (hc : P.cellsOf 5 = 1) (hx : ev E x = some (.pointer (some ⟨g, 0, none⟩))) (hy : ev E y = some (.int .i64 (l.length : Int))) (hb : S.ro.z g = some l) (h0 : l ≠ []) (h63 : l.length ≤ 9223372036854775807)
  (h:ARun P N ops os K ((d,.string (bs l)) :: E) S):ARun P N ops (⟨some d,.call ⟨.builtin .unsafeString,#[x,y],#[pt,it]⟩,ty,pos,aft,none⟩ :: os) K E S:=fun a w g' hv=>by
 rw [if_pos (by simp [Region.wanted])]
 unfold Oper.wp
 obtain ⟨_,_,cur,hi,e1,e3,e2⟩:=hv.fz g l hb
 have hr:=run_us (ty:=ty) (it:=it) (w:=w) hpt hc e1 e2 h0 h63
 rw [freeze_again e1 e3] at hr
 have hex:(execOp a.eval ⟨some d,.call ⟨.builtin .unsafeString,#[x,y],#[pt,it]⟩,ty,pos,aft,none⟩).run P w = .ok (.value (.string (bs l))) w:=by
  simp [execOp,resolve,invoke,builtin,g'.ev hx,g'.ev hy,hr]
 rw [hex]
 exact ⟨_,_,h,g'.put hn _,Step.refl hv⟩
/-- .. of none. -/
theorem ARun.usNil {os : List Oper} {x y : Operand} {p : Option Addr} {d : Nat} {pt it : TypeId} (hn : d < N) (hx : ev E x = some (.pointer p)) (hy : ev E y = some (.int .i64 0))
  (h:ARun P N ops os K ((d,.string (bs [])) :: E) S):ARun P N ops (⟨some d,.call ⟨.builtin .unsafeString,#[x,y],#[pt,it]⟩,ty,pos,aft,none⟩ :: os) K E S:=fun a w g' hv=>by
 rw [if_pos (by simp [Region.wanted])]
 unfold Oper.wp
 have hr:=Lib.run_unsafeString_none (P:=P) w pt it ty p
 have hex:(execOp a.eval ⟨some d,.call ⟨.builtin .unsafeString,#[x,y],#[pt,it]⟩,ty,pos,aft,none⟩).run P w = .ok (.value (.string (bs []))) w:=by
  simp [execOp,resolve,invoke,builtin,g'.ev hx,g'.ev hy,hr];rfl
 rw [hex]
 exact ⟨_,_,h,g'.put hn _,Step.refl hv⟩
/-! ### Texts that are appended -/
theorem strCells_eq (s : ByteArray) : Lib.strCells s = cellsB s.data.toList := rfl
theorem ARun.appendRunS {os : List Oper} {T U e : TypeId} {y : Nat} {z : Value} {x1 x2 : Operand} {b k c : Nat} {xs : List Value} {s : ByteArray} {d : Nat} (hn : d < N) (hT : slT P T = some (e, 1, y, [z])) (hU : strT P U = true)
  (hx:ev E x1=some (.slice (some ⟨b,0,none⟩) k c)) (hb:S.own b=some ⟨e,xs,c⟩) (hxs:xs.length=k) (hy:ev E x2=some (.string s)) (hfit:(k+s.size)*y≤140737488355328) (h63:k+s.size≤9223372036854775807)
  (h:∀ b' c',Fresh (S.del b) b'→k+s.size≤c'→ARun P N ops os K ((d,.slice (some ⟨b',0,none⟩) (k+s.size) c') :: E) ((S.del b).set b' ⟨e,xs ++ cellsB s.data.toList,c'⟩)) :
  ARun P N ops (⟨some d,.call ⟨.builtin .append,#[x1,x2],#[T,U]⟩,ty,pos,aft,none⟩ :: os) K E S:=fun a w g hv=>by
 rw [if_pos (by simp [Region.wanted])]
 obtain ⟨hu,i,v,e1,e2,hi1,rfl,hv1⟩:=slT_spec hT
 have hz':v.cells.size=1:=by
  have:=congrArg List.length hv1
  simpa using this
 have hlc:(cellsB s.data.toList).length=s.size:=by rw [cellsB_length];exact (Array.length_toList (xs:=s.data))
 have hex:(execOp a.eval ⟨some d,.call ⟨.builtin .append,#[x1,x2],#[T,U]⟩,ty,pos,aft,none⟩).run P w=((Builtin.append_ #[T,U] ty #[.slice (some ⟨b,0,none⟩) k c,.string s]).run P w).andThen fun v w'=>.ok (.value v) w':=by
  simp [execOp,resolve,invoke,builtin,g.ev hx,g.ev hy]
 unfold Oper.wp
 rw [hex]
 by_cases hroom:k+s.size≤c
 ·obtain ⟨q1,q2⟩:=store_cells (P:=P) hv hb (vs:=cellsB s.data.toList) (o:=k) (by simp only;omega) (.inr (by simp only [hlc];omega)) (fun u hu=>by
   unfold cellsB at hu
   obtain ⟨c,_,rfl⟩:=List.mem_map.1 hu
   rfl)
  have hf:=Lib.run_firstCells_string (P:=P) w 1 s
  have hr:(Builtin.append_ #[T,U] ty #[.slice (some ⟨b,0,none⟩) k c,.string s]).run P w = .ok (.slice (some ⟨b,0,none⟩) (k+s.size) c) (w.setCells b k (cellsB s.data.toList)):=by
   rw [strCells_eq] at hf
   simp [Builtin.append_,run_underlying hu,run_underlying (strT_spec hU),sizeOf,typeInfo,e1,hi1,Builtin.lenOf,hroom,hf,addr_add,q1]
  rw [hr]
  have hsp:spl xs k (cellsB s.data.toList)=xs ++ cellsB s.data.toList:=by
   unfold spl
   rw [List.take_of_length_le (by omega),List.drop_of_length_le (by omega),List.append_nil]
  simp only [hsp] at q2
  refine ⟨_,_,h b c (fresh_del (fun a v ha=>(hv.ro a v ha).2) hb) hroom,g.put hn _,?_⟩
  rw [del_set];exact q2
 ·have hfit':Builtin.nextslicecap (k+s.size) c*i.bytes≤281474976710656:=growslice_fits (by omega) hfit
  have hr:=Lib.run_append_grow_string (P:=P) w T U ty e i v hu (strT_spec hU) e1 e2 ⟨b,0,none⟩ k c xs (by rw [hi1,hxs,Nat.mul_one]) (fun j u hj=>hv.rd (by rw [addr_add,Nat.zero_add,rd_own hb];exact hj)) s (by omega) (by omega) hfit'
  rw [hr,strCells_eq]
  have hge:=grownCap_ge w (k+s.size) c e
  have hvd:View S w.drew:=hv.drawn _
  have hst:=Step.allocP hvd e (xs.toArray ++ (cellsB s.data.toList).toArray ++ Builtin.zeroCells v.cells (grownCap w (k+s.size) c e-(k+s.size))) (xs ++ cellsB s.data.toList) (grownCap w (k+s.size) c e) (by simp [List.append_assoc]) (by
   simp only [Array.size_append,List.size_toArray,size_zeroCells,hz',hxs,hlc]
   omega)
  refine ⟨_,_,h w.heap.size (grownCap w (k+s.size) c e) (hv.freshAt.less (Less.del S b)) hge,g.put hn _,?_⟩
  exact ((Step.drawn hv _).trans hst).less (less_del S b _ _)
theorem ARun.appendNilS {os : List Oper} {T U e : TypeId} {y : Nat} {z : Value} {x1 x2 : Operand} {s : ByteArray} {d : Nat} (hn : d < N) (hT : slT P T = some (e, 1, y, [z])) (hU : strT P U = true)
  (hx:ev E x1=some (.slice none 0 0)) (hy:ev E x2=some (.string s)) (h0:0<s.size) (hfit:s.size*y≤140737488355328) (h63:s.size≤9223372036854775807)
  (h:∀ b' c',Fresh S b'→s.size≤c'→ARun P N ops os K ((d,.slice (some ⟨b',0,none⟩) s.size c') :: E) (S.set b' ⟨e,cellsB s.data.toList,c'⟩)) :
  ARun P N ops (⟨some d,.call ⟨.builtin .append,#[x1,x2],#[T,U]⟩,ty,pos,aft,none⟩ :: os) K E S:=fun a w g hv=>by
 rw [if_pos (by simp [Region.wanted])]
 obtain ⟨hu,i,v,e1,e2,hi1,rfl,hv1⟩:=slT_spec hT
 have hz':v.cells.size=1:=by
  have:=congrArg List.length hv1
  simpa using this
 have hlc:(cellsB s.data.toList).length=s.size:=by rw [cellsB_length];exact (Array.length_toList (xs:=s.data))
 have hex:(execOp a.eval ⟨some d,.call ⟨.builtin .append,#[x1,x2],#[T,U]⟩,ty,pos,aft,none⟩).run P w=((Builtin.append_ #[T,U] ty #[.slice none 0 0,.string s]).run P w).andThen fun v w'=>.ok (.value v) w':=by
  simp [execOp,resolve,invoke,builtin,g.ev hx,g.ev hy]
 unfold Oper.wp
 rw [hex,run_append_nil_string (P:=P) w T U ty e i v hu (strT_spec hU) e1 e2 s h0 (by omega) (by omega)]
 have hge:=grownCap_ge w s.size 0 e
 have hvd:View S w.drew:=hv.drawn _
 have hst:=Step.allocP hvd e (s.data.map (fun b=>Value.int .u8 b.toNat) ++ Builtin.zeroCells v.cells (grownCap w s.size 0 e-s.size)) (cellsB s.data.toList) (grownCap w s.size 0 e) (by simp [cellsB,nb]) (by
  have:s.data.size=s.size:=rfl
  simp only [Array.size_append,Array.size_map,size_zeroCells,hz',this]
  omega)
 exact ⟨_,_,h w.heap.size (grownCap w s.size 0 e) hv.freshAt hge,g.put hn _,(Step.drawn hv _).trans hst⟩
/-- No text is put behind. -/
theorem ARun.appendNoneS {os : List Oper} {T U e : TypeId} {y : Nat} {z : Value} {x1 x2 : Operand} {A : Option Addr} {k c d : Nat} {s : ByteArray} (hn : d < N) (hT : slT P T = some (e, 1, y, [z])) (hU : strT P U = true) (hk : k ≤ c)
  (hx:ev E x1=some (.slice A k c)) (hy:ev E x2=some (.string s)) (h0:s.size=0) (h:ARun P N ops os K ((d,.slice A k c) :: E) S) :
  ARun P N ops (⟨some d,.call ⟨.builtin .append,#[x1,x2],#[T,U]⟩,ty,pos,aft,none⟩ :: os) K E S:=fun a w g hv=>by
 rw [if_pos (by simp [Region.wanted])]
 obtain ⟨hu,i,v,e1,e2,hi1,rfl,hv1⟩:=slT_spec hT
 have hr:(execOp a.eval ⟨some d,.call ⟨.builtin .append,#[x1,x2],#[T,U]⟩,ty,pos,aft,none⟩).run P w = .ok (.value (.slice A k c)) w:=by
  have hf:=Lib.run_firstCells_string (P:=P) w 1 s
  have hs:Lib.strCells s = []:=by rw [strCells_eq];exact List.eq_nil_of_length_eq_zero (by rw [cellsB_length,Array.length_toList];exact h0)
  rw [hs,h0] at hf
  cases A with
  | none=>simp [execOp,resolve,invoke,builtin,g.ev hx,g.ev hy,Builtin.append_,run_underlying hu,run_underlying (strT_spec hU),sizeOf,typeInfo,e1,hi1,Builtin.lenOf,h0,hk,hf]
  | some A=>simp [execOp,resolve,invoke,builtin,g.ev hx,g.ev hy,Builtin.append_,run_underlying hu,run_underlying (strT_spec hU),sizeOf,typeInfo,e1,hi1,Builtin.lenOf,h0,hk,hf,storeCells]
 unfold Oper.wp
 rw [hr]
 exact ⟨_,_,h,g.put hn _,Step.refl hv⟩
end
end Mv
end Go.Proofs.YtceikpipmcadmaaGreatDoor
namespace Go.Proofs.YtceikpipmcadmaaGreatDoor
open Go.RowKit
namespace Mv
/-! ### Pointers that go through unsafe.Pointer -/
theorem rowAt_self {P : Program} {fits : TypeId → Bool} {e : TypeId} {n : Nat} (hc : P.cellsOf e ≠ 0) (hn : 1 ≤ n) (hf : fits e = true) : ∀ d, 0 < d → rowAt P fits d e n 0 1 = true := fun d hd => by
 cases d with
 | zero=>omega
 | succ d =>
  unfold rowAt
  simp only
  rw [if_neg hc]
  simp [hf,hn]
theorem liesAt_self {P : Program} {e : TypeId} {n : Nat} (hd : 0 < P.depth) (hc : P.cellsOf e ≠ 0) (hn : 1 ≤ n) (hf : sameLayout P P.depth e e = true) : ∀ d, 0 < d → liesAt P d e n 0 e 1 = true := fun d h => by
 cases d with
 | zero=>omega
 | succ d =>
  unfold liesAt
  rw [rowAt_self (fits:=fun x=>sameLayout P P.depth x e) hc hn hf _ hd]
  rfl
section
variable {P : Program} {N : Nat} {ops : Array Oper} {E : Env} {S : Mem} {K : Env → Mem → Prop}
variable {dst : Option Nat} {ty : TypeId} {pos : String} {aft : Array Edge} {gd : Option (Nat × Bool)}
theorem own_shape {S : Mem} {w : World} {b : Nat} {r : Blk} (hv : View S w) (hb : S.own b = some r) : ∃ n, r.cells.length ≤ n ∧ w.shape? b = some (r.elem, n) := by
 obtain ⟨cur,fz,e1,e2,_⟩:=hv.own b r hb
 exact ⟨cur.size,by have:=e2.length_le;simpa using this,by simp [World.shape?,e1]⟩
theorem Calm.toUnsafe {s t e : TypeId} {x : Operand} {j : TypeInfo} {b : Nat} {r : Blk} (hs : P.underlying s = some (.pointer e)) (hd : P.underlying t = some .unsafePointer) (ht : P.info? e = some j) (hj : j.size ≠ 0) (hx : ev E x = some (.pointer (some ⟨b, 0, none⟩))) (hb : S.own b = some r) (hr : 0 < r.cells.length) :
  ACalm P N ⟨dst,.convert s t x,ty,pos,aft,gd⟩ E S (.pointer (some ⟨b,0,none⟩)):=fun a w g hv=>by
 obtain ⟨n,h1,h2⟩:=own_shape hv hb
 have h:=Lib.run_to_unsafe (P:=P) (w:=w) ⟨b,0,none⟩ hs hd ht hj h2 (by simp only;omega)
 simp only [execOp,g.ev hx]
 rw [Sem.run_bind,h];rfl
theorem Calm.fromUnsafe {s t e : TypeId} {x : Operand} {j : TypeInfo} {b : Nat} {cs : List Value} {m : Nat} (hs : P.underlying s = some .unsafePointer) (hd : P.underlying t = some (.pointer e)) (ht : P.info? e = some j) (h0 : 0 < P.depth) (hc : P.cellsOf e = 2) (hf : sameLayout P P.depth e e = true) (hx : ev E x = some (.pointer (some ⟨b, 0, none⟩))) (hb : S.own b = some ⟨e, cs, m⟩) (hr : 2 ≤ cs.length) :
  ACalm P N ⟨dst,.convert s t x,ty,pos,aft,gd⟩ E S (.pointer (some ⟨b,0,none⟩)):=fun a w g hv=>by
 obtain ⟨n,h1,h2⟩:=own_shape hv hb
 have h1:cs.length≤n:=h1
 have h:=Lib.run_from_unsafe (P:=P) (w:=w) ⟨b,0,none⟩ hs hd ht h2 (liesAt_self h0 (by rw [hc];decide) (by rw [hc];omega) hf _ h0)
 simp only [execOp,g.ev hx]
 rw [Sem.run_bind,h];rfl
/-- A call of the runtime's that hands on what it is given. -/
theorem ARun.extSame {os : List Oper} {f : FuncId} {fn : Func} {x : Operand} {v : Value} {ats : Array TypeId} {d : Nat} (hn : d < N) (hf : P.funcs[f]? = some fn) (hname : (fn.name == "runtime.NumGoroutine") = false) (hb : fn.body.isNone = true)
  (hx':Extern.findNext fn=none) (he:Extern.find fn=some Extern.AbiNoEscape.same) (hx:ev E x=some v)
  (h:ARun P N ops os K ((d,v) :: E) S):ARun P N ops (⟨some d,.call ⟨.value (.func f),#[x],ats⟩,ty,pos,aft,none⟩ :: os) K E S:=fun a w g hv=>by
 rw [if_pos (by simp [Region.wanted])]
 unfold Oper.wp
 have hc:execOp a.eval ⟨some d,.call ⟨.value (.func f),#[x],ats⟩,ty,pos,aft,none⟩=callFunc f #[v]:=by
  rw [execOp_call_go]
  simp [g.ev hx]
 rw [hc,run_callFunc_extern hf hname hb hx' he,Lib.run_noEscape]
 exact ⟨_,_,h,g.put hn _,Step.refl hv⟩
theorem bin_ptr_nil {t e : TypeId} {x y : Operand} {p : Option Addr} (h : P.underlying t = some (.pointer e)) : Bin P .eql t x y (.pointer p) (.pointer none) (.bool p.isNone) := fun w => by
 have hh:∀ d:Nat,(Op.equalIn (d+1) t (.pointer p) (.pointer none)).run P w = .ok p.isNone w:=fun d=>by
  cases p <;> simp [Op.equalIn,run_underlying h]
 have:(binOp .eql t (.pointer p) (.pointer none)).run P w = .ok (.bool p.isNone) w:=by
  simp only [binOp]
  simp [Op.equal,Op.maxDepth,hh 9999]
 simpa [eqGuard] using this
theorem bin_ptr_neq_same {t e : TypeId} {x y : Operand} {a : Addr} {j : TypeInfo} (h : P.underlying t = some (.pointer e)) (hj : P.info? e = some j) : Bin P .neq t x y (.pointer (some a)) (.pointer (some a)) (.bool false) := fun w => by
 have:=Lib.run_neq_ptr_same (P:=P) (w:=w) a h hj
 simpa [eqGuard] using this
end
end Mv
end Go.Proofs.YtceikpipmcadmaaGreatDoor
namespace Go.Proofs.YtceikpipmcadmaaGreatDoor
open Go.RowKit
open Mv
set_option maxRecDepth 4000
namespace Bl
theorem go1 : goFn Tryz.prog 88 = true := by kernel_rfl
theorem go2 : goFn Tryz.prog 40 = true := by kernel_rfl
theorem go3 : goFn Tryz.prog 42 = true := by kernel_rfl
instance : TGo Tryz.prog 88 := ⟨go1⟩
instance : TGo Tryz.prog 40 := ⟨go2⟩
instance : TGo Tryz.prog 42 := ⟨go3⟩
def blk (p v : Value) : Blk := ⟨68, [p, v], 2⟩
def self (b : Nat) : Value := .pointer (some ⟨b, 0, none⟩)
/-- Memory with a builder. -/
def M (S : Mem) (b : Nat) (p : Value) (o : Option (Nat × Nat)) (l : List UInt8) : Mem := (outM S o 5 (cellsB l)).set b (blk p (outV o l.length))
/-- A builder of these bytes, over a memory. -/
def R (S : Mem) (b : Nat) (l : List UInt8) (T : Mem) : Prop := ∃ p o, (p = .pointer none ∨ p = self b) ∧ OkO S o l.length ∧ (∀ g c, o = some (g, c) → g ≠ b ∧ l ≠ []) ∧ T = M S b p o l
/-- .. of which a text was made. -/
def F (S : Mem) (b : Nat) (l : List UInt8) (T : Mem) : Prop := ∃ p, (l = [] ∧ T = S.set b (blk p (.slice none 0 0))) ∨ (l ≠ [] ∧ ∃ g c, Fresh S g ∧ g ≠ b ∧ c ≠ 0 ∧ S.ro.z g = none ∧ T = (S.fr g l).set b (blk p (.slice (some ⟨g, 0, none⟩) l.length c)))
theorem R.new (S : Mem) (b : Nat) : R S b [] (S.set b (blk (.pointer none) (.slice none 0 0))) := ⟨_, none, .inl rfl, ⟨fun _ => rfl, fun _ _ h => (by cases h)⟩, fun _ _ h => (by cases h), rfl⟩
theorem R.less {S T : Mem} {b : Nat} {l : List UInt8} (hf : Fresh S b) (h : R S b l T) : S.Less T := by
 obtain ⟨p,o,_,ho,hne,rfl⟩:=h
 cases o with
 | none=>exact Mem.less_set _ _ _ hf.1
 | some q =>
  obtain ⟨g,c⟩:=q
  have hg:=(ho.own g c rfl).1
  exact (Mem.less_set S g _ hg.1).trans (Mem.less_set _ _ _ (by
   show (S.set g _).own b=none
   rw [Mem.own_set_other _ _ (hne g c rfl).1.symm];exact hf.1))
theorem F.lo {S T : Mem} {b : Nat} {l : List UInt8} (hf : Fresh S b) (h : F S b l T) : S.Lo T := by
 obtain ⟨p,⟨_,rfl⟩ | ⟨_,g,c,hg,hgb,_,hz,rfl⟩⟩:=h
 ·exact (Mem.less_set _ _ _ hf.1).lo
 ·exact Mem.lo_fr_set hg hz hf hgb.symm
theorem lies : sameLayout Tryz.prog Tryz.prog.depth 68 68 = true := by kernel_rfl
theorem deep : 0 < Tryz.prog.depth := Nat.le_of_ble_eq_true (n := 1) (m := Tryz.prog.depth) (by kernel_rfl)
theorem cells2 : Tryz.prog.cellsOf 68 = 2 := by kernel_rfl
theorem cells1 : Tryz.prog.cellsOf 5 = 1 := by kernel_rfl
theorem inf : ∃ j, Tryz.prog.info? 68 = some j ∧ j.size ≠ 0 := by
 have h:(Tryz.prog.info? 68).map (fun j=>j.size)=some 2:=by kernel_rfl
 obtain ⟨j,h1,h2⟩:=Option.map_eq_some_iff.1 h
 exact ⟨j,h1,by omega⟩
theorem ldB {P : Program} {N : Nat} {E : Env} {S : Mem} {dst : Option Nat} {T ty : TypeId} {pos : String} {aft : Array Edge} {gd : Option (Nat × Bool)} {x : Operand} {b : Nat} {p v v' : Value} (hT : plainT P T = true) (hb : S.own b = some (blk p v)) (e : v = v') (hx : ev E x = some (.pointer (some ⟨b, 1, none⟩)) := by exact rfl) :
  ACalm P N ⟨dst,.load T x,ty,pos,aft,gd⟩ E S v':=Calm.load hT hx (by unfold Mem.rd;rw [hb,← e];rfl)
theorem copyCheck (S : Mem) (b : Nat) (p v : Value) (hp : p = .pointer none ∨ p = self b) (hb : S.own b = some (blk p v)) :
  ACall Tryz.prog 88 #[self b] S fun r S'=>r = .tuple #[]∧S'=S.set b (blk (self b) v):=by
 obtain ⟨j,hj,hj0⟩:=inf
 unfold self blk at *
 rcases hp with rfl | rfl
 ·skip
  refine ACall.enter (rs:=[]) 20 [(0,.pointer (some ⟨b,0,none⟩))] Tryz.func88 rfl rfl (Nat.le_of_ble_eq_true rfl) rfl ⟨rfl,trivial⟩ ?_
  iterate 6 refine s1_ ?_
  refine rC (Calm.bin rfl rfl (bin_ptr_nil Tryz.underlying66)) ?_
  iterate 2 refine s1_ ?_
  refine su_ [(0,_),(6,_)] ?_
  refine cT_ ?_
  iterate 3 refine s1_ ?_
  refine rC (Calm.toUnsafe Tryz.underlying66 Tryz.underlying161 hj hj0 rfl hb (by simp)) ?_
  refine ARun.extSame (lit_lt rfl) Tryz.func135 rfl rfl rfl rfl rfl ?_
  refine rC (Calm.fromUnsafe Tryz.underlying161 Tryz.underlying66 hj deep cells2 lies rfl hb (by simp)) ?_
  iterate 4 refine s1_ ?_
  refine ⟨_,_,rfl,less_,?_⟩
  exact ⟨rfl,rfl⟩
 ·skip
  refine ACall.enter (rs:=[]) 20 [(0,.pointer (some ⟨b,0,none⟩))] Tryz.func88 rfl rfl (Nat.le_of_ble_eq_true rfl) rfl ⟨rfl,trivial⟩ ?_
  iterate 6 refine s1_ ?_
  refine rC (Calm.bin rfl rfl (bin_ptr_nil Tryz.underlying66)) ?_
  iterate 2 refine s1_ ?_
  refine su_ [(0,_),(6,_)] ?_
  refine cF_ ?_
  iterate 7 refine s1_ ?_
  refine rC (Calm.bin rfl rfl (bin_ptr_neq_same Tryz.underlying66 hj)) ?_
  iterate 2 refine s1_ ?_
  refine su_ [(0,_),(6,_),(19,_)] ?_
  refine cF_ ?_
  refine s1_ ?_
  refine ⟨_,S,rfl,less_,?_⟩
  exact ⟨rfl,(Mem.set_same _ _ _ hb).symm⟩
theorem mem_eq1 {S : Mem} {b b' : Nat} {X X' Y : Blk} (hne : b ≠ b') : ((S.set b X).set b' Y).set b X' = (S.set b' Y).set b X' := by
 unfold Mem.set;congr 1;funext k;by_cases h1:k=b <;> by_cases h2:k=b' <;> simp_all
theorem mem_eq2 {S : Mem} {b b' g : Nat} {X X' Y Z : Blk} (hf : S.own g = none) (hg : g ≠ b) : ((((S.set g Z).set b X).del g).set b' Y).set b X' = (S.set b' Y).set b X' := by
 unfold Mem.set Mem.del;congr 1;funext k;by_cases h1:k=b <;> by_cases h2:k=b' <;> by_cases h3:k=g <;> simp_all
theorem mem_eq3 {S : Mem} {b g : Nat} {X Z : Blk} {l : List UInt8} (hf : S.own g = none) (hg : g ≠ b) : (((S.set g Z).set b X).del g).fr g l = (S.fr g l).set b X := by
 unfold Mem.set Mem.del Mem.fr;congr 1;funext k;by_cases h1:k=b <;> by_cases h3:k=g <;> simp_all
theorem WriteString (S : Mem) (b : Nat) (l : List UInt8) (T : Mem) (s : ByteArray) (hf : Fresh S b) (h : R S b l T) (hsz : l.length + s.size ≤ 140737488355328) :
  ACall Tryz.prog 40 #[self b,.string s] T fun r S'=>r = .tuple #[.int .i64 s.size,.nilIface]∧R S b (l ++ s.data.toList) S':=by
 obtain ⟨p,o,hp,ho,hne,rfl⟩:=h
 have hlen:s.data.toList.length=s.size:=Array.length_toList (xs:=s.data)
 have hcc:=copyCheck (M S b p o l) b p _ hp (Mem.own_set_same _ _ _)
 have hmm:(M S b p o l).set b (blk (self b) (outV o l.length))=M S b (self b) o l:=Mem.set_set _ _ _ _
 rw [hmm] at hcc
 have hby:(M S b (self b) o l).own b=some (blk (self b) (outV o l.length)):=Mem.own_set_same _ _ _
 by_cases h0:s.size=0
 ·have e0:s.data.toList = []:=List.eq_nil_of_length_eq_zero (by omega)
  obtain ⟨A,k,c,hov,hk⟩ : ∃ A k c,outV o l.length = .slice A k c∧k≤c:=by
   cases o with
   | none=>exact ⟨none,0,0,rfl,Nat.le_refl _⟩
   | some q=>exact ⟨_,_,_,rfl,(ho.own q.1 q.2 rfl).2⟩
  rw [e0,List.append_nil]
  refine ACall.enter (rs:=[.tmp 4,.tmp 5]) 19 [(0,self b),(1,.string s)] Tryz.func40 rfl rfl (Nat.le_of_ble_eq_true rfl) rfl ⟨rfl,rfl,trivial⟩ ?_
  iterate 9 refine s1_ ?_
  refine ca_ rfl (hcc) ?_
  rintro _ S1 ⟨rfl,h1⟩
  rw [h1];clear h1 S1
  iterate 2 refine s1_ ?_
  refine su_ [(0,_),(1,_),(4,_),(5,_)] ?_
  iterate 6 refine s1_ ?_
  refine rC ((ldB ty_plain_61 hby hov)) ?_
  refine s1_ ?_
  refine ARun.appendNoneS (lit_lt rfl) ty_sl_61 ty_str_9 hk rfl rfl h0 ?_
  iterate 2 refine s1_ ?_
  refine ARun.store1 rfl rfl ty_size_61 rfl hby (by show 1<2;decide) rfl ?_
  try simp only [k_ms,k_sz,k_ss,k_za,Nat.reduceAdd]
  iterate 2 refine s1_ ?_
  refine su_ [(0,_),(1,_),(4,_),(5,_)] ?_
  iterate 8 refine s1_ ?_
  refine su_ [(0,_),(1,_),(4,_),(5,_)] ?_
  refine s1_ ?_
  refine ⟨_,M S b (self b) o l,⟨_,_,rfl,⟨_,_,rfl,rfl,rfl⟩,rfl⟩,(by rw [show (M S b (self b) o l).set b _=M S b (self b) o l from Mem.set_same _ _ _ (by rw [hby,hov];rfl)];exact Mem.Less.refl _),?_⟩
  exact ⟨rfl,self b,o,.inr rfl,ho,hne,rfl⟩
 ·cases o with
  | none =>
   have hl0:l = []:=List.eq_nil_of_length_eq_zero (ho.nil rfl)
   subst hl0
   refine ACall.enter (rs:=[.tmp 4,.tmp 5]) 19 [(0,self b),(1,.string s)] Tryz.func40 rfl rfl (Nat.le_of_ble_eq_true rfl) rfl ⟨rfl,rfl,trivial⟩ ?_
   iterate 9 refine s1_ ?_
   refine ca_ rfl (hcc) ?_
   rintro _ S1 ⟨rfl,h1⟩
   rw [h1];clear h1 S1
   iterate 2 refine s1_ ?_
   refine su_ [(0,_),(1,_),(4,_),(5,_)] ?_
   iterate 6 refine s1_ ?_
   refine rC ((ldB ty_plain_61 hby rfl)) ?_
   refine s1_ ?_
   refine ARun.appendNilS (lit_lt rfl) ty_sl_61 ty_str_9 rfl rfl (by omega) (by omega) (by omega) ?_
   intro b14 c14 f14 hc14
   have g14:Fresh S b14:=(fresh_set f14).1
   have hbb:b≠b14:=(fresh_set f14).2.symm
   iterate 2 refine s1_ ?_
   refine ARun.store1 rfl rfl ty_size_61 rfl ((Mem.own_set_other _ _ hbb).trans hby) (by show 1<2;decide) rfl ?_
   try simp only [k_ms,k_sz,k_ss,k_za,Nat.reduceAdd]
   iterate 2 refine s1_ ?_
   refine su_ [(0,_),(1,_),(4,_),(5,_)] ?_
   iterate 8 refine s1_ ?_
   refine su_ [(0,_),(1,_),(4,_),(5,_)] ?_
   refine s1_ ?_
   refine ⟨_,M S b (self b) (some (b14,c14)) s.data.toList,⟨_,_,rfl,⟨_,_,rfl,rfl,rfl⟩,rfl⟩,(by unfold M;rw [mem_eq1 hbb,hlen.symm];exact Mem.Less.refl _),?_⟩
   exact ⟨rfl,self b,some (b14,c14),.inr rfl,⟨fun h=>(by cases h),fun g c e=>(by cases e;exact ⟨g14,by simp only [List.nil_append];omega⟩)⟩,fun g c e=>(by cases e;exact ⟨hbb.symm,fun e=>by simp only [List.nil_append] at e;rw [e] at hlen;simp at hlen;omega⟩),rfl⟩
  | some q =>
   obtain ⟨g,c⟩:=q
   have hgb:=(hne g c rfl).1
   have hg:=(ho.own g c rfl)
   have hog:(M S b (self b) (some (g,c)) l).own g=some ⟨5,cellsB l,c⟩:=(Mem.own_set_other _ _ hgb).trans (Mem.own_set_same _ _ _)
   refine ACall.enter (rs:=[.tmp 4,.tmp 5]) 19 [(0,self b),(1,.string s)] Tryz.func40 rfl rfl (Nat.le_of_ble_eq_true rfl) rfl ⟨rfl,rfl,trivial⟩ ?_
   iterate 9 refine s1_ ?_
   refine ca_ rfl (hcc) ?_
   rintro _ S1 ⟨rfl,h1⟩
   rw [h1];clear h1 S1
   iterate 2 refine s1_ ?_
   refine su_ [(0,_),(1,_),(4,_),(5,_)] ?_
   iterate 6 refine s1_ ?_
   refine rC ((ldB ty_plain_61 hby rfl)) ?_
   refine s1_ ?_
   refine ARun.appendRunS (lit_lt rfl) ty_sl_61 ty_str_9 rfl hog (cellsB_length l) rfl (by omega) (by omega) ?_
   intro b14 c14 f14 hc14
   have hby2:((M S b (self b) (some (g,c)) l).del g).own b=some (blk (self b) (outV (some (g,c)) l.length)):=(Mem.own_del_other _ hgb.symm).trans hby
   have hbb:b≠b14:=fun e=>by rw [← e] at f14;have:=f14.1;rw [hby2] at this;cases this
   have hd14:S.own b14=none:=by
    by_cases e:b14=g
    ·rw [e];exact hg.1.1
    ·have:=f14.1
     rw [Mem.own_del_other _ e] at this
     unfold M at this
     rw [Mem.own_set_other _ _ hbb.symm] at this
     exact (Mem.own_set_other S _ e).symm.trans this
   have g14:Fresh S b14:=⟨hd14,f14.2⟩
   iterate 2 refine s1_ ?_
   refine ARun.store1 rfl rfl ty_size_61 rfl ((Mem.own_set_other _ _ hbb).trans hby2) (by show 1<2;decide) rfl ?_
   try simp only [k_ms,k_sz,k_ss,k_za,Nat.reduceAdd]
   iterate 2 refine s1_ ?_
   refine su_ [(0,_),(1,_),(4,_),(5,_)] ?_
   iterate 8 refine s1_ ?_
   refine su_ [(0,_),(1,_),(4,_),(5,_)] ?_
   refine s1_ ?_
   refine ⟨_,M S b (self b) (some (b14,c14)) (l ++ s.data.toList),⟨_,_,rfl,⟨_,_,rfl,rfl,rfl⟩,rfl⟩,(by unfold M;show Mem.Less _ (((((S.set g _).set b _).del g).set b14 _).set b _);rw [mem_eq2 hg.1.1 hgb,show cellsB (l ++ s.data.toList)=cellsB l ++ cellsB s.data.toList from List.map_append ..,show (l ++ s.data.toList).length=l.length+s.size from by rw [List.length_append,hlen]];exact Mem.Less.refl _),?_⟩
   exact ⟨rfl,self b,some (b14,c14),.inr rfl,⟨fun h=>(by cases h),fun g c e=>(by cases e;exact ⟨g14,by rw [List.length_append,hlen];exact hc14⟩)⟩,fun g' c' e=>(by cases e;exact ⟨hbb.symm,fun e=>(hne g c rfl).2 (List.append_eq_nil_iff.1 e).1⟩),rfl⟩
theorem String (S : Mem) (b : Nat) (l : List UInt8) (T : Mem) (hf : Fresh S b) (h : R S b l T) (h63 : l.length ≤ 9223372036854775807) :
  ACall Tryz.prog 42 #[self b] T fun r S'=>r = .string (bs l)∧F S b l S':=by
 obtain ⟨p,o,hp,ho,hne,rfl⟩:=h
 have hby:(M S b p o l).own b=some (blk p (outV o l.length)):=Mem.own_set_same _ _ _
 cases o with
 | none =>
  have hl0:l = []:=List.eq_nil_of_length_eq_zero (ho.nil rfl)
  subst hl0
  refine ACall.enter (rs:=[.tmp 2]) 14 [(0,self b)] Tryz.func42 rfl rfl (Nat.le_of_ble_eq_true rfl) rfl ⟨rfl,trivial⟩ ?_
  iterate 6 refine s1_ ?_
  refine AWP.draw [(0,true),(1,true),(2,true),(3,true),(4,true),(5,true),(6,true),(7,true),(8,true),(9,true),(10,false),(11,true)] [10] mixed (by kernel_rfl) ?_
  iterate 3 refine s1_ ?_
  refine dC (hc:=(ldB ty_plain_61 hby rfl)) (h:=?_)
  refine dC (hc:=Calm.sliceData rfl (.inl rfl)) (h:=?_)
  iterate 3 refine s1_ ?_
  refine dC (hc:=(ldB ty_plain_61 hby rfl)) (h:=?_)
  refine s1_ ?_
  refine draw_only rfl ?_
  refine ARun.usNil (lit_lt rfl) rfl rfl ?_
  refine arun_nil ⟨fun h=>absurd h (by decide),?_⟩
  iterate 3 refine s1_ ?_
  refine su_ [(0,_),(2,_)] ?_
  refine s1_ ?_
  refine ⟨_,M S b p none [],⟨_,_,rfl,rfl,rfl⟩,(Mem.Less.refl _),?_⟩
  exact ⟨rfl,p,.inl ⟨rfl,rfl⟩⟩
 | some q =>
  obtain ⟨g,c⟩:=q
  obtain ⟨hgb,hl0⟩:=hne g c rfl
  have hg:=(ho.own g c rfl)
  have hlp:0<l.length:=List.length_pos_iff.2 hl0
  have hog:(M S b p (some (g,c)) l).own g=some ⟨5,cellsB l,c⟩:=(Mem.own_set_other _ _ hgb).trans (Mem.own_set_same _ _ _)
  refine ACall.seen (p:=S.ro.z g=none) (fun w hv=>Mem.z_none hv hog) fun hz=>?_
  refine ACall.enter (rs:=[.tmp 2]) 14 [(0,self b)] Tryz.func42 rfl rfl (Nat.le_of_ble_eq_true rfl) rfl ⟨rfl,trivial⟩ ?_
  iterate 6 refine s1_ ?_
  refine AWP.draw [(0,true),(1,true),(2,true),(3,true),(4,true),(5,true),(6,true),(7,true),(8,true),(9,true),(10,false),(11,true)] [10] mixed (by kernel_rfl) ?_
  iterate 3 refine s1_ ?_
  refine dC (hc:=(ldB ty_plain_61 hby rfl)) (h:=?_)
  refine dC (hc:=Calm.sliceData rfl (.inr (by omega))) (h:=?_)
  iterate 3 refine s1_ ?_
  refine dC (hc:=(ldB ty_plain_61 hby rfl)) (h:=?_)
  refine s1_ ?_
  refine draw_only rfl ?_
  refine ARun.usOwn (lit_lt rfl) Tryz.underlying129 cells1 rfl rfl hog hl0 h63 ?_
  refine arun_nil ⟨fun h=>absurd h (by decide),?_⟩
  iterate 3 refine s1_ ?_
  refine su_ [(0,_),(2,_)] ?_
  refine s1_ ?_
  refine ⟨_,((M S b p (some (g,c)) l).del g).fr g l,⟨_,_,rfl,rfl,rfl⟩,(Mem.Less.refl _),?_⟩
  exact ⟨rfl,p,.inr ⟨hl0,g,c,hg.1,hgb,by omega,hz,mem_eq3 hg.1.1 hgb⟩⟩
theorem StringF (S : Mem) (b : Nat) (l : List UInt8) (T : Mem) (h : F S b l T) (h63 : l.length ≤ 9223372036854775807) :
  ACall Tryz.prog 42 #[self b] T fun r S'=>r = .string (bs l)∧S'=T:=by
 obtain ⟨p,⟨rfl,rfl⟩ | ⟨hl0,g,c,hg,hgb,hc,hz,rfl⟩⟩:=h
 ·have hby:(S.set b (blk p (.slice none 0 0))).own b=some (blk p (.slice none 0 0)):=Mem.own_set_same _ _ _
  refine ACall.enter (rs:=[.tmp 2]) 14 [(0,self b)] Tryz.func42 rfl rfl (Nat.le_of_ble_eq_true rfl) rfl ⟨rfl,trivial⟩ ?_
  iterate 6 refine s1_ ?_
  refine AWP.draw [(0,true),(1,true),(2,true),(3,true),(4,true),(5,true),(6,true),(7,true),(8,true),(9,true),(10,false),(11,true)] [10] mixed (by kernel_rfl) ?_
  iterate 3 refine s1_ ?_
  refine dC (hc:=(ldB ty_plain_61 hby rfl)) (h:=?_)
  refine dC (hc:=Calm.sliceData rfl (.inl rfl)) (h:=?_)
  iterate 3 refine s1_ ?_
  refine dC (hc:=(ldB ty_plain_61 hby rfl)) (h:=?_)
  refine s1_ ?_
  refine draw_only rfl ?_
  refine ARun.usNil (lit_lt rfl) rfl rfl ?_
  refine arun_nil ⟨fun h=>absurd h (by decide),?_⟩
  iterate 3 refine s1_ ?_
  refine su_ [(0,_),(2,_)] ?_
  refine s1_ ?_
  refine ⟨_,S.set b (blk p (.slice none 0 0)),⟨_,_,rfl,rfl,rfl⟩,(Mem.Less.refl _),?_⟩
  exact ⟨rfl,rfl⟩
 ·have hby:((S.fr g l).set b (blk p (.slice (some ⟨g,0,none⟩) l.length c))).own b=some (blk p (.slice (some ⟨g,0,none⟩) l.length c)):=Mem.own_set_same _ _ _
  refine ACall.enter (rs:=[.tmp 2]) 14 [(0,self b)] Tryz.func42 rfl rfl (Nat.le_of_ble_eq_true rfl) rfl ⟨rfl,trivial⟩ ?_
  iterate 6 refine s1_ ?_
  refine AWP.draw [(0,true),(1,true),(2,true),(3,true),(4,true),(5,true),(6,true),(7,true),(8,true),(9,true),(10,false),(11,true)] [10] mixed (by kernel_rfl) ?_
  iterate 3 refine s1_ ?_
  refine dC (hc:=(ldB ty_plain_61 hby rfl)) (h:=?_)
  refine dC (hc:=Calm.sliceData rfl (.inr hc)) (h:=?_)
  iterate 3 refine s1_ ?_
  refine dC (hc:=(ldB ty_plain_61 hby rfl)) (h:=?_)
  refine s1_ ?_
  refine draw_only rfl ?_
  refine ARun.usRo (lit_lt rfl) Tryz.underlying129 cells1 rfl rfl (show (if g=g then some l else S.ro.z g)=some l from if_pos rfl) hl0 h63 ?_
  refine arun_nil ⟨fun h=>absurd h (by decide),?_⟩
  iterate 3 refine s1_ ?_
  refine su_ [(0,_),(2,_)] ?_
  refine s1_ ?_
  refine ⟨_,(S.fr g l).set b (blk p (.slice (some ⟨g,0,none⟩) l.length c)),⟨_,_,rfl,rfl,rfl⟩,(Mem.Less.refl _),?_⟩
  exact ⟨rfl,rfl⟩
end Bl
end Go.Proofs.YtceikpipmcadmaaGreatDoor
namespace Go.Proofs.YtceikpipmcadmaaGreatDoor
open Go.RowKit
open Mv Num
set_option maxRecDepth 4000
namespace Num
theorem byte_shr (n k : Nat) : IntKind.u8.wrap ((n : Int) / 2 ^ k) = nb (UInt8.ofNat (n / 2 ^ k)) := by
 rw [← u8_nat];congr 1
theorem of_or (a : Nat) (c : UInt8) (h : a < 4294967296) : bits .or .u64 (IntKind.u64.wrap ((a : Int) * 2 ^ (8 : Int).toNat)) (nb c) = ((256 * a + c.toNat : Nat) : Int) := by
 have hc:=c.toNat_lt
 have e:(a:Int)*2 ^ (8:Int).toNat=((a*2 ^ 8:Nat):Int):=by rw [show (8:Int).toNat=8 from rfl];omega
 rw [e,IntWalk.u64_in _ (by omega),nb_byte,or_nat64 _ _ (by omega) (by omega),Nat.or_comm,or_join_nat _ _ _ (by omega)]
 omega
end Num
theorem numV_Five (n : Nat) (S : Mem) (hn : n < 18446744073709551616) :
  ACall Tryz.prog 68 #[.int .u64 n] S fun r S'=>r = .agg (cellsB (five n)).toArray∧S'=S:=by
 have e0:=byte_shr n 32;have e1:=byte_shr n 24;have e2:=byte_shr n 16;have e3:=byte_shr n 8
 have e4:=u8_nat n
 refine ACall.enter (rs:=[.cell 2 105]) 18 [(0,.int .u64 n)] Tryz.func68 rfl rfl (Nat.le_of_ble_eq_true rfl) rfl ⟨rfl,trivial⟩ ?_
 iterate 2 refine s1_ ?_
 refine ARun.alloc (lit_lt rfl) ty_zero_105 ?_
 intro b2 f2
 have g2:=f2
 repeat ((with_reducible replace g2:=fresh_set g2);obtain ⟨g2,_⟩:=g2)
 refine nl_ ?_
 iterate 6 refine s1_ ?_
 refine rC (Calm.conv rfl (conv_intW Tryz.underlying27 Tryz.underlying5 e0)) ?_
 iterate 2 refine s1_ ?_
 refine rC (Calm.conv rfl (conv_intW Tryz.underlying27 Tryz.underlying5 e1)) ?_
 iterate 2 refine s1_ ?_
 refine rC (Calm.conv rfl (conv_intW Tryz.underlying27 Tryz.underlying5 e2)) ?_
 iterate 2 refine s1_ ?_
 refine rC (Calm.conv rfl (conv_intW Tryz.underlying27 Tryz.underlying5 e3)) ?_
 refine s1_ ?_
 refine rC (Calm.conv rfl (conv_intW Tryz.underlying27 Tryz.underlying5 e4)) ?_
 refine rC (Calm.buildArr (cs:=[_,_,_,_,_]) ty_arr_105 rfl rfl) ?_
 iterate 3 refine s1_ ?_
 refine su_ [(0,_),(2,_)] ?_
 refine s1_ ?_
 refine ⟨_,S,⟨_,_,_,rfl,.inr ⟨ty_agg_105,[_,_,_,_,_],ty_size_105,rds_,rfl⟩,rfl,rfl⟩,less_,?_⟩
 exact ⟨rfl,rfl⟩
end Go.Proofs.YtceikpipmcadmaaGreatDoor
namespace Go.Proofs.YtceikpipmcadmaaGreatDoor
open Go.RowKit
open Mv Num
set_option maxRecDepth 4000
set_option maxHeartbeats 400000 in
theorem numV_Of (s : ByteArray) (S : Mem) (h5 : 5 ≤ s.size) (hs : s.size ≤ 9223372036854775807) :
  ACall Tryz.prog 107 #[.string s] S fun r S'=>r = .int .u64 (ofB (s.data.toList.take 5):Nat)∧S'=S:=by
 have hsz:=size_list s
 refine ACall.enter (rs:=[.tmp 2]) 17 [(0,.string s)] Tryz.func107 rfl rfl (Nat.le_of_ble_eq_true rfl) rfl ⟨rfl,trivial⟩ ?_
 iterate 17 refine s1_ ?_
 refine AWP.loop (X:=Nat) (fun x=>[(0,.string s),(3,.int .u64 (ofB (s.data.toList.take x):Nat)),(5,.int .i64 x)]) (fun x=>S) (fun x=>x≤5) (fun x=>5-x) (0) ⟨rfl,rfl,rfl,trivial⟩ (Mem.Less.refl _) (Nat.zero_le _) ?_
 rintro k hk
 (try dsimp only at *)
 iterate 6 refine s1_ ?_
 refine AWP.condB rfl (fun hl=>?_) (fun hl=>?_)
 ·have hl:k<5:=by have:=of_decide_eq_true hl;omega
  have hq:=of_or (ofB (s.data.toList.take k)) (at8 s.data.toList k) (ofB_small _ _ (by omega))
  rw [← ofB_take _ _ (by omega)] at hq
  iterate 10 refine s1_ ?_
  refine su_ [(0,_),(3,_),(5,_),(6,_),(4,_)] ?_
  iterate 12 refine s1_ ?_
  refine su_ [(0,_),(3,_),(5,_),(6,_),(4,_)] ?_
  iterate 5 refine s1_ ?_
  refine ⟨k+1,?_,?_,?_,?_⟩
  all_goals (try dsimp only)
  ·exact ⟨rfl,some_int hq,some_int (by omega),trivial⟩
  ·exact Mem.Less.refl _
  ·exact hl
  ·omega
 ·have hl:k=5:=by have:=of_decide_eq_false hl;omega
  subst hl
  iterate 11 refine s1_ ?_
  refine su_ [(0,_),(3,_),(5,_),(6,_),(2,_)] ?_
  refine s1_ ?_
  refine ⟨_,S,⟨_,_,rfl,rfl,rfl⟩,less_,?_⟩
  exact ⟨rfl,rfl⟩
set_option maxHeartbeats 400000 in
theorem rnumV_Of (s : ByteArray) (S : Mem) (h5 : s.size = 5) :
  ACall Tryz.prog 53 #[.string s] S fun r S'=>r = .int .u64 (ofB s.data.toList:Nat)∧S'=S:=by
 have hsz:=size_list s
 refine ACall.enter (rs:=[.tmp 2]) 19 [(0,.string s)] Tryz.func53 rfl rfl (Nat.le_of_ble_eq_true rfl) rfl ⟨rfl,trivial⟩ ?_
 iterate 17 refine s1_ ?_
 refine AWP.loop (X:=Nat) (fun x=>[(0,.string s),(3,.int .u64 (ofB (s.data.toList.take x):Nat)),(4,.int .i64 x)]) (fun x=>S) (fun x=>x≤5) (fun x=>5-x) (0) ⟨rfl,rfl,rfl,trivial⟩ (Mem.Less.refl _) (Nat.zero_le _) ?_
 rintro k hk
 (try dsimp only at *)
 have hb:=ofB_small s.data.toList (min k 4) (by omega)
 iterate 9 refine s1_ ?_
 refine su_ [(0,_),(3,_),(4,_),(8,_)] ?_
 refine AWP.condB rfl (fun hl=>?_) (fun hl=>?_)
 ·have hl:k<5:=by have:=of_decide_eq_true hl;omega
  have hb2:=ofB_small s.data.toList k (by omega)
  have hc1:=nb_nonneg (at8 s.data.toList k)
  have hc2:=nb_le (at8 s.data.toList k)
  have hq:=ofB_take s.data.toList k (by omega)
  iterate 16 refine s1_ ?_
  refine su_ [(0,_),(3,_),(4,_),(8,_)] ?_
  iterate 6 refine s1_ ?_
  refine ⟨k+1,?_,?_,?_,?_⟩
  all_goals (try dsimp only)
  ·exact ⟨rfl,some_int (by rw [hq,nb_byte];omega),some_int (by omega),trivial⟩
  ·exact Mem.Less.refl _
  ·exact hl
  ·omega
 ·have hl:k=5:=by have:=of_decide_eq_false hl;omega
  subst hl
  iterate 11 refine s1_ ?_
  refine su_ [(0,_),(3,_),(4,_),(8,_),(2,_)] ?_
  refine s1_ ?_
  refine ⟨_,S,⟨_,_,rfl,rfl,rfl⟩,less_,?_⟩
  exact ⟨by rw [List.take_of_length_le (by omega)];rfl,rfl⟩
/-! ### The document's -/
theorem byte_quo (n k : Nat) : IntKind.u8.wrap ((n : Int) / (k : Int)) = nb (UInt8.ofNat (n / k)) := by rw [← u8_nat]; congr 1
theorem rnumV_Five (n : Nat) (S : Mem) (hn : n < 18446744073709551616) :
  ACall Tryz.prog 74 #[.int .u64 n] S fun r S'=>r = .string (bs (five n))∧S'=S:=by
 have e0:=byte_quo n 4294967296;have e1:=byte_quo n 16777216;have e2:=byte_quo n 65536;have e3:=byte_quo n 256
 have e4:=u8_nat n
 have q0:=IntWalk.u64_quo (n:Int) 4294967296 (by omega);have q1:=IntWalk.u64_quo (n:Int) 16777216 (by omega)
 have q2:=IntWalk.u64_quo (n:Int) 65536 (by omega);have q3:=IntWalk.u64_quo (n:Int) 256 (by omega)
 refine ACall.enter (rs:=[.tmp 2]) 19 [(0,.int .u64 n)] Tryz.func74 rfl rfl (Nat.le_of_ble_eq_true rfl) rfl ⟨rfl,trivial⟩ ?_
 iterate 9 refine s1_ ?_
 refine rC (Calm.conv rfl (conv_intW Tryz.underlying27 Tryz.underlying5 e0)) ?_
 iterate 2 refine s1_ ?_
 refine rC (Calm.conv rfl (conv_intW Tryz.underlying27 Tryz.underlying5 e1)) ?_
 iterate 2 refine s1_ ?_
 refine rC (Calm.conv rfl (conv_intW Tryz.underlying27 Tryz.underlying5 e2)) ?_
 iterate 2 refine s1_ ?_
 refine rC (Calm.conv rfl (conv_intW Tryz.underlying27 Tryz.underlying5 e3)) ?_
 refine s1_ ?_
 refine rC (Calm.conv rfl (conv_intW Tryz.underlying27 Tryz.underlying5 e4)) ?_
 refine ARun.buildN (cs:=[_,_,_,_,_]) (lit_lt rfl) ty_sl_61 rfl rfl rfl rfl ?_
 intro b17 f17
 have g17:=f17
 repeat ((with_reducible replace g17:=fresh_set g17);obtain ⟨g17,_⟩:=g17)
 refine rC (Calm.toStr (l:=five n) ty_bytes_61 ty_str_9 rfl (five_length n) rds_) ?_
 iterate 3 refine s1_ ?_
 refine su_ [(0,_),(2,_)] ?_
 refine s1_ ?_
 refine ⟨_,S,⟨_,_,rfl,rfl,rfl⟩,less_,?_⟩
 exact ⟨rfl,rfl⟩
end Go.Proofs.YtceikpipmcadmaaGreatDoor
namespace Go.Proofs.YtceikpipmcadmaaGreatDoor
open Go.RowKit
open Mv Disk Num
set_option maxRecDepth 4000
namespace Rec
/-- What a disk at work is in memory. -/
theorem dev_shape {S : Mem} {p : Nat} {e : D} {oE oW : Option (Nat × Nat)} (hok : OkV S p e oE oW) (h : e.ext.length ≤ 9223372036854775807 ∧ e.waits.length ≤ 9223372036854775807) :
  ∃ qe de qw dw,(devM S p e oE oW).own p=some ⟨102,[.int .i64 e.size,.slice qe e.ext.length de,.slice qw e.waits.length dw,.int .i64 e.fuse,.bool e.down],5⟩ ∧
   DkR (devM S p e oE oW) (.agg #[.int .i64 e.size,.slice qe e.ext.length de,.slice qw e.waits.length dw,.int .i64 e.fuse,.bool e.down]) e∧S.Less (devM S p e oE oW):=by
 have hdk:=(hok.dk.dk h.1 h.2).less (Mem.less_set _ p (devB e oE oW) hok.fr.1)
 have hl:=hok.dk.less.trans (Mem.less_set _ p (devB e oE oW) hok.fr.1)
 have hp:(devM S p e oE oW).own p=some (devB e oE oW):=Mem.own_set_same _ _ _
 unfold dkV at hdk
 unfold devB at hp hdk hl
 obtain ⟨qe,de,hqe⟩:=outV_eq hok.dk.e
 obtain ⟨qw,dw,hqw⟩:=outV_eq hok.dk.w
 rw [hqe,hqw] at hp hdk hl
 refine ⟨qe,de,qw,dw,hp,?_,?_⟩
 ·unfold devM;rw [hqe,hqw];exact hdk
 ·unfold devM;rw [hqe,hqw];exact hl
theorem open_lens (d : D) : (openD d).1.ext.length ≤ 9223372036854775807 ∧ (openD d).1.waits.length ≤ 9223372036854775807 := by
 rcases openD_or d with ⟨ho,hR⟩ | ⟨ho,hR,hdn⟩ | ⟨ho,hR,hdn⟩ <;> rw [ho]
 ·exact ⟨by decide,by decide⟩
 ·exact right_lens hR
 ·exact right_lens hR
end Rec
end Go.Proofs.YtceikpipmcadmaaGreatDoor
namespace Go.Proofs.YtceikpipmcadmaaGreatDoor
open Go.RowKit
open Mv
set_option maxRecDepth 4000
namespace St
theorem len_list (s : ByteArray) : s.data.toList.length = s.size := Array.length_toList (xs := s.data)
theorem dw_nil {p : UInt8 → Bool} : ∀ {l : List UInt8}, l.dropWhile p = [] ↔ ∀ x ∈ l, p x = true
 | []=>⟨fun _ x hx=>(by cases hx),fun _=>rfl⟩
 | a :: l=>by
  by_cases ha:p a=true
  ·rw [List.dropWhile_cons_of_pos ha,dw_nil]
   exact ⟨fun h x hx=>(List.mem_cons.1 hx).elim (fun e=>e ▸ ha) (h x),fun h x hx=>h x (List.mem_cons_of_mem _ hx)⟩
  ·rw [List.dropWhile_cons_of_neg ha]
   exact ⟨fun h=>(by cases h),fun h=>absurd (h a (List.mem_cons_self ..)) ha⟩
/-- Without the bytes c at its end. -/
def rtrim (c : UInt8) (l : List UInt8) : List UInt8 := (l.reverse.dropWhile (· == c)).reverse
theorem rtrim_all (c : UInt8) (l : List UInt8) (h : ∀ x ∈ l, x = c) : rtrim c l = [] := by
 unfold rtrim
 rw [dw_nil.2 (fun x hx=>by simp [h x (List.mem_reverse.1 hx)])];rfl
theorem rtrim_app (c : UInt8) (l r : List UInt8) (h : ∀ x ∈ r, x = c) : rtrim c (l ++ r) = rtrim c l := by
 unfold rtrim
 rw [List.reverse_append]
 have:∀ (a b:List UInt8),(∀ x ∈ a,x=c)→(a ++ b).dropWhile (· == c)=b.dropWhile (· == c):=by
  intro a b ha
  induction a with
  | nil=>rfl
  | cons x a ih =>
   rw [List.cons_append,List.dropWhile_cons_of_pos (by simp [ha x (by simp)])]
   exact ih fun y hy=>ha y (by simp [hy])
 rw [this _ _ fun x hx=>h x (List.mem_reverse.1 hx)]
theorem rtrim_end (c x : UInt8) (l : List UInt8) (h : x ≠ c) : rtrim c (l ++ [x]) = l ++ [x] := by
 unfold rtrim
 rw [List.reverse_append,List.reverse_singleton,List.singleton_append,List.dropWhile_cons_of_neg (by simpa using h)]
 simp
theorem rtrim_take (c : UInt8) (l : List UInt8) (m : Nat) (hm : m ≤ l.length) (hd : ∀ x ∈ l.drop m, x = c) (he : m = 0 ∨ at8 l (m - 1) ≠ c) : rtrim c l = l.take m := by
 rw [← List.take_append_drop m l,rtrim_app c _ _ hd,List.take_append_drop]
 rcases he with rfl | he
 ·rfl
 ·by_cases h0:m=0
  ·subst h0;rfl
  ·obtain ⟨k,rfl⟩ : ∃ k,m=k+1:=⟨m-1,by omega⟩
   rw [List.take_succ_eq_append_getElem (by omega:k<l.length)]
   refine rtrim_end c _ _ fun e=>he ?_
   rw [Nat.add_sub_cancel,← e]
   simp [at8,List.getD_eq_getElem?_getD,List.getElem?_eq_getElem (by omega:k<l.length)]
theorem nb_inj {a b : UInt8} : nb a = nb b ↔ a = b := by
 unfold nb
 constructor
 ·intro h;exact UInt8.toNat_inj.1 (by omega)
 ·intro h;rw [h]
theorem trimRight (s : ByteArray) (c : UInt8) (S : Mem) (hs : s.size ≤ 9223372036854775807) :
  ACall Tryz.prog 157 #[.string s,.int .u8 (nb c)] S fun r S'=>r = .string (bs (rtrim c s.data.toList))∧S'=S:=by
 have hlen:=len_list s
 refine ACall.enter (rs:=[.tmp 4]) 23 [(0,.string s),(1,.int .u8 (nb c))] Tryz.func157 rfl rfl (Nat.le_of_ble_eq_true rfl) rfl ⟨rfl,rfl,trivial⟩ ?_
 iterate 7 refine s1_ ?_
 refine AWP.loop (X:=Nat) (fun m=>[(0,.string (bs (s.data.toList.take m))),(1,.int .u8 (nb c))]) (fun m=>S) (fun m=>m≤s.size ∧ ∀ x ∈ s.data.toList.drop m,x=c) (fun m=>m) (s.size) ⟨by rw [List.take_of_length_le (by omega),bs_of];rfl,rfl,trivial⟩ (Mem.Less.refl _) (⟨Nat.le_refl _,by rw [List.drop_of_length_le (by omega)];intro x hx;cases hx⟩) ?_
 rintro m ⟨hm,hd⟩
 (try dsimp only at *)
 have hz:(bs (s.data.toList.take m)).size=m:=by rw [size_bs,List.length_take];omega
 by_cases h0:m=0
 ·iterate 17 refine s1_ ?_
  refine su_ [(0,_),(1,_),(16,_)] ?_
  refine cF_ ?_
  iterate 11 refine s1_ ?_
  refine su_ [(0,_),(1,_),(16,_),(4,_)] ?_
  refine s1_ ?_
  refine ⟨_,S,⟨_,_,rfl,rfl,rfl⟩,less_,?_⟩
  exact ⟨by rw [rtrim_take c _ m (by omega) hd (.inl h0)];rfl,rfl⟩
 ·obtain ⟨k,rfl⟩ : ∃ k,m=k+1:=⟨m-1,by omega⟩
  have hat:at8 (bs (s.data.toList.take (k+1))).data.toList (((bs (s.data.toList.take (k+1))).size:Int)-1).toNat=at8 s.data.toList k:=by rw [hz,bs_data,show (((k+1:Nat):Int)-1).toNat=k from by omega];simp [at8,List.getD_eq_getElem?_getD,List.getElem?_take]
  have hdr:s.data.toList.drop k=at8 s.data.toList k :: s.data.toList.drop (k+1):=by rw [List.drop_eq_getElem_cons (by omega:k<s.data.toList.length)];simp [at8,List.getD_eq_getElem?_getD,List.getElem?_eq_getElem (by omega:k<s.data.toList.length)]
  by_cases hx:at8 s.data.toList k=c
  ·have hn:nb (at8 (bs (s.data.toList.take (k+1))).data.toList (((bs (s.data.toList.take (k+1))).size:Int)-1).toNat)=nb c:=by rw [hat,hx]
   iterate 17 refine s1_ ?_
   refine su_ [(0,_),(1,_),(16,_)] ?_
   refine cT_ ?_
   iterate 13 refine s1_ ?_
   refine ⟨k,?_,?_,?_,?_⟩
   all_goals (try dsimp only)
   ·exact ⟨by rw [show (bs (s.data.toList.take k))=(bs (s.data.toList.take (k+1))).extract 0 (((bs (s.data.toList.take (k+1))).size:Int)-1).toNat from by rw [hz,show (((k+1:Nat):Int)-1).toNat=k from by omega];apply str_ext;rw [Lib.extract_data,bs_data,bs_data];simp [List.take_take]];rfl,rfl,trivial⟩
   ·exact less_
   ·exact ⟨by omega,by rw [hdr];intro x hx';rcases List.mem_cons.1 hx' with e | e;exact e.trans hx;exact hd x e⟩
   ·omega
  ·have hn:nb (at8 (bs (s.data.toList.take (k+1))).data.toList (((bs (s.data.toList.take (k+1))).size:Int)-1).toNat)≠nb c:=by rw [hat];exact fun e=>hx (nb_inj.1 e)
   iterate 17 refine s1_ ?_
   refine su_ [(0,_),(1,_),(16,_)] ?_
   refine cF_ ?_
   iterate 11 refine s1_ ?_
   refine su_ [(0,_),(1,_),(16,_),(4,_)] ?_
   refine s1_ ?_
   refine ⟨_,S,⟨_,_,rfl,rfl,rfl⟩,less_,?_⟩
   exact ⟨by rw [rtrim_take c _ (k+1) (by omega) hd (.inr hx)];rfl,rfl⟩
theorem trimLeft (s : ByteArray) (c : UInt8) (S : Mem) (hs : s.size ≤ 9223372036854775807) :
  ACall Tryz.prog 156 #[.string s,.int .u8 (nb c)] S fun r S'=>r = .string (bs (s.data.toList.dropWhile (· == c)))∧S'=S:=by
 have hlen:=len_list s
 have hdw:∀ l:List UInt8,l.dropWhile (· == c) = [] ∨ ∃ x r,l.dropWhile (· == c)=x :: r∧x≠c:=fun l=>by
  induction l with
  | nil=>exact .inl rfl
  | cons x l ih =>
   by_cases h:x=c
   ·rw [List.dropWhile_cons_of_pos (by simp [h])];exact ih
   ·rw [List.dropWhile_cons_of_neg (by simpa using h)];exact .inr ⟨x,l,rfl,h⟩
 refine ACall.enter (rs:=[.tmp 4]) 17 [(0,.string s),(1,.int .u8 (nb c))] Tryz.func156 rfl rfl (Nat.le_of_ble_eq_true rfl) rfl ⟨rfl,rfl,trivial⟩ ?_
 iterate 7 refine s1_ ?_
 refine AWP.loop (X:=Nat) (fun m=>[(0,.string (bs (s.data.toList.drop m))),(1,.int .u8 (nb c))]) (fun m=>S) (fun m=>m≤s.size∧(s.data.toList.drop m).dropWhile (· == c)=s.data.toList.dropWhile (· == c)) (fun m=>s.size-m) (0) ⟨by rw [List.drop_zero,bs_of];rfl,rfl,trivial⟩ (Mem.Less.refl _) (⟨Nat.zero_le _,rfl⟩) ?_
 rintro m ⟨hm,hd⟩
 (try dsimp only at *)
 have hz:(bs (s.data.toList.drop m)).size=s.size-m:=by rw [size_bs,List.length_drop];omega
 by_cases h0:m=s.size
 ·iterate 14 refine s1_ ?_
  refine su_ [(0,_),(1,_),(13,_)] ?_
  refine cF_ ?_
  iterate 11 refine s1_ ?_
  refine su_ [(0,_),(1,_),(13,_),(4,_)] ?_
  refine s1_ ?_
  refine ⟨_,S,⟨_,_,rfl,rfl,rfl⟩,less_,?_⟩
  exact ⟨by rw [← hd,List.drop_of_length_le (by omega)];rfl,rfl⟩
 ·have hdr:s.data.toList.drop m=at8 s.data.toList m :: s.data.toList.drop (m+1):=by rw [List.drop_eq_getElem_cons (by omega:m<s.data.toList.length)];simp [at8,List.getD_eq_getElem?_getD,List.getElem?_eq_getElem (by omega:m<s.data.toList.length)]
  have hat:at8 (bs (s.data.toList.drop m)).data.toList (0:Int).toNat=at8 s.data.toList m:=by rw [bs_data,hdr];rfl
  by_cases hx:at8 s.data.toList m=c
  ·have hn:nb (at8 (bs (s.data.toList.drop m)).data.toList (0:Int).toNat)=nb c:=by rw [hat,hx]
   iterate 14 refine s1_ ?_
   refine su_ [(0,_),(1,_),(13,_)] ?_
   refine cT_ ?_
   iterate 10 refine s1_ ?_
   refine ⟨m+1,?_,?_,?_,?_⟩
   all_goals (try dsimp only)
   ·exact ⟨by rw [show (bs (s.data.toList.drop (m+1)))=(bs (s.data.toList.drop m)).extract 1 (bs (s.data.toList.drop m)).size from by apply str_ext;rw [Lib.extract_data,bs_data,bs_data,hz,hdr];simp;rw [List.take_of_length_le (by rw [List.length_drop];omega)]];rfl,rfl,trivial⟩
   ·exact less_
   ·exact ⟨by omega,by rw [← hd,hdr,List.dropWhile_cons_of_pos (by simp [hx])]⟩
   ·omega
  ·have hn:nb (at8 (bs (s.data.toList.drop m)).data.toList (0:Int).toNat)≠nb c:=by rw [hat];exact fun e=>hx (nb_inj.1 e)
   iterate 14 refine s1_ ?_
   refine su_ [(0,_),(1,_),(13,_)] ?_
   refine cF_ ?_
   iterate 11 refine s1_ ?_
   refine su_ [(0,_),(1,_),(13,_),(4,_)] ?_
   refine s1_ ?_
   refine ⟨_,S,⟨_,_,rfl,rfl,rfl⟩,less_,?_⟩
   exact ⟨by rw [← hd,hdr,List.dropWhile_cons_of_neg (by simpa using hx)];rfl,rfl⟩
theorem trim0 (s : ByteArray) (S : Mem) (hs : s.size ≤ 9223372036854775807) :
  ACall Tryz.prog 122 #[.string s,.string ⟨#[0]⟩] S fun r S'=>r = .string (bs ((rtrim 0 s.data.toList).dropWhile (· == 0)))∧S'=S:=by
 have z1:(⟨#[0]⟩ : ByteArray).size=1:=rfl
 have hne:(⟨#[0]⟩ : ByteArray)≠ByteArray.empty:=fun e=>by have:=congrArg ByteArray.size e;rw [z1] at this;exact absurd this (by decide)
 have hat:nb (at8 (⟨#[0]⟩ : ByteArray).data.toList (0:Int).toNat)=0:=rfl
 by_cases h0:s=ByteArray.empty
 ·subst h0
  refine ACall.enter (rs:=[.tmp 4]) 43 [(0,.string ByteArray.empty),(1,.string ⟨#[0]⟩)] Tryz.func122 rfl rfl (Nat.le_of_ble_eq_true rfl) rfl ⟨rfl,rfl,trivial⟩ ?_
  iterate 9 refine s1_ ?_
  refine rC (Calm.bin rfl rfl (bin_bool (bin_str_eql _ _) (decide_eq_true rfl))) ?_
  iterate 6 refine s1_ ?_
  refine su_ [(0,_),(1,_),(4,_),(12,_)] ?_
  refine cT_ ?_
  iterate 6 refine s1_ ?_
  refine su_ [(0,_),(1,_),(4,_),(12,_)] ?_
  iterate 2 refine s1_ ?_
  refine ⟨_,S,⟨_,_,rfl,rfl,rfl⟩,less_,?_⟩
  exact ⟨rfl,rfl⟩
 ·have hr:(bs (rtrim 0 s.data.toList)).size≤9223372036854775807:=by
   rw [size_bs]
   unfold rtrim
   rw [List.length_reverse]
   have h1:=(List.dropWhile_sublist (· == (0:UInt8)) (l:=s.data.toList.reverse)).length_le
   rw [List.length_reverse] at h1
   have:=len_list s
   omega
  have hl:=trimLeft (bs (rtrim 0 s.data.toList)) 0 S hr
  rw [bs_data] at hl
  refine ACall.enter (rs:=[.tmp 4]) 43 [(0,.string s),(1,.string ⟨#[0]⟩)] Tryz.func122 rfl rfl (Nat.le_of_ble_eq_true rfl) rfl ⟨rfl,rfl,trivial⟩ ?_
  iterate 9 refine s1_ ?_
  refine rC (Calm.bin rfl rfl (bin_bool (bin_str_eql _ _) (decide_eq_false h0))) ?_
  iterate 2 refine s1_ ?_
  first|refine k_q 9 ?_|refine rG 9 (Calm.bin rfl rfl (bin_bool (bin_str_eql _ _) (decide_eq_false hne))) ?_
  iterate 3 refine s1_ ?_
  refine su_ [(0,_),(1,_),(4,_),(12,_)] ?_
  refine cF_ ?_
  iterate 15 refine s1_ ?_
  refine su_ [(0,_),(1,_),(4,_),(12,_),(21,_)] ?_
  refine cT_ ?_
  refine s1_ ?_
  refine AWP.draw [(0,true),(1,true),(2,true),(4,true),(5,true),(3,false),(6,false),(7,true)] [] mixed (by kernel_rfl) ?_
  iterate 5 refine s1_ ?_
  refine draw_only rfl ?_
  refine ca_ rfl (trimRight s 0 S hs) ?_
  rintro _ S1 ⟨rfl,h1⟩
  rw [h1];clear h1 S1
  refine arun_nil ⟨fun _=>less_,?_⟩
  refine draw_only rfl ?_
  refine ca_ rfl (hl) ?_
  rintro _ S1 ⟨rfl,h1⟩
  rw [h1];clear h1 S1
  refine arun_nil ⟨fun _=>less_,?_⟩
  iterate 3 refine s1_ ?_
  refine su_ [(0,_),(1,_),(4,_),(12,_),(21,_)] ?_
  iterate 2 refine s1_ ?_
  refine ⟨_,S,⟨_,_,rfl,rfl,rfl⟩,less_,?_⟩
  exact ⟨rfl,rfl⟩
/-- Whether all bytes are 0. -/
theorem trim_nil (l : List UInt8) : ((rtrim 0 l).dropWhile (· == 0) = []) ↔ (l.all fun b => b == 0) = true := by
 constructor
 ·intro h
  rw [List.all_eq_true]
  intro x hx
  have h1:∀ y ∈ rtrim 0 l,(y == (0:UInt8))=true:=dw_nil.1 h
  have h2:∀ (r:List UInt8),(∀ y ∈ (r.dropWhile (· == (0:UInt8))),(y == (0:UInt8))=true) → ∀ y ∈ r,(y == (0:UInt8))=true:=by
   intro r
   induction r with
   | nil=>intro _ y hy;cases hy
   | cons a r ih =>
    by_cases ha:(a == (0:UInt8))=true
    ·rw [List.dropWhile_cons_of_pos (p:=fun x=>x == (0:UInt8)) ha]
     intro hh y hy
     rcases List.mem_cons.1 hy with rfl | hy
     ·exact ha
     ·exact ih hh y hy
    ·rw [List.dropWhile_cons_of_neg (p:=fun x=>x == (0:UInt8)) ha]
     exact fun hh=>hh
  exact h2 l.reverse (fun y hy=>h1 y (by unfold rtrim;exact List.mem_reverse.2 hy)) x (List.mem_reverse.2 hx)
 ·intro h
  rw [rtrim_all 0 l (fun x hx=>by have:=List.all_eq_true.1 h x hx;simpa using this)]
  rfl
theorem hasPrefix (s p : ByteArray) (S : Mem) (hs : s.size ≤ 9223372036854775807) (hp : p.size ≤ 9223372036854775807) :
  ACall Tryz.prog 155 #[.string s,.string p] S fun r S'=>r = .bool (decide (s.data.toList.take p.size=p.data.toList))∧S'=S:=by
 have hl:=len_list s
 have hlp:=len_list p
 by_cases h:p.size≤s.size
 ·have e:decide (s.extract 0 p.size=p)=decide (s.data.toList.take p.size=p.data.toList):=by
   rw [decide_eq_decide]
   constructor
   ·intro h;rw [← congrArg (fun x=>x.data.toList) h];simp [Lib.extract_data]
   ·intro h;apply str_ext;rw [← h];simp [Lib.extract_data]
  refine ACall.enter (rs:=[.tmp 4]) 18 [(0,.string s),(1,.string p)] Tryz.func155 rfl rfl (Nat.le_of_ble_eq_true rfl) rfl ⟨rfl,rfl,trivial⟩ ?_
  iterate 23 refine s1_ ?_
  refine su_ [(0,_),(1,_),(4,_)] ?_
  refine s1_ ?_
  refine ⟨_,S,⟨_,_,rfl,rfl,rfl⟩,less_,?_⟩
  exact ⟨by rw [← e];rfl,rfl⟩
 ·have e:decide (s.data.toList.take p.size=p.data.toList)=false:=decide_eq_false fun h=>by
   have:=congrArg List.length h
   rw [List.length_take] at this;omega
  rw [e]
  refine ACall.enter (rs:=[.tmp 4]) 18 [(0,.string s),(1,.string p)] Tryz.func155 rfl rfl (Nat.le_of_ble_eq_true rfl) rfl ⟨rfl,rfl,trivial⟩ ?_
  iterate 23 refine s1_ ?_
  refine su_ [(0,_),(1,_),(4,_)] ?_
  refine s1_ ?_
  refine ⟨_,S,⟨_,_,rfl,rfl,rfl⟩,less_,?_⟩
  exact ⟨rfl,rfl⟩
theorem HasPrefix (s p : ByteArray) (S : Mem) (hs : s.size ≤ 9223372036854775807) (hp : p.size ≤ 9223372036854775807) :
  ACall Tryz.prog 121 #[.string s,.string p] S fun r S'=>r = .bool (decide (s.data.toList.take p.size=p.data.toList))∧S'=S:=by
 refine ACall.enter (rs:=[.tmp 4]) 8 [(0,.string s),(1,.string p)] Tryz.func121 rfl rfl (Nat.le_of_ble_eq_true rfl) rfl ⟨rfl,rfl,trivial⟩ ?_
 iterate 9 refine s1_ ?_
 refine ca_ rfl (hasPrefix s p _ hs hp) ?_
 rintro _ S1 ⟨rfl,h1⟩
 rw [h1];clear h1 S1
 iterate 3 refine s1_ ?_
 refine su_ [(0,_),(1,_),(4,_)] ?_
 refine s1_ ?_
 refine ⟨_,S,⟨_,_,rfl,rfl,rfl⟩,less_,?_⟩
 exact ⟨rfl,rfl⟩
end St
end Go.Proofs.YtceikpipmcadmaaGreatDoor
namespace Go.Proofs.YtceikpipmcadmaaGreatDoor
open Go.RowKit
open Mv Disk Num
set_option maxRecDepth 4000
namespace Rec
theorem readD_size {d : D} (hR : Right d) {s : ByteArray} {k : Int} (h : (readD d s k).2 = 0) : (placeD d s k).2 = 0 ∧ (readD d s k).1.size = 64 := by
 have hp:(placeD d s k).2=0:=by
  by_cases q:(placeD d s k).2=0
  ·exact q
  ·rw [readD_see,if_pos q] at h;exact absurd h q
 refine ⟨hp,?_⟩
 rw [readD_see,if_neg (by simpa using hp)]
 obtain ⟨h1,h2,h3⟩:=place0 hp
 have hx:=exOf_has hR.ex.asc h1
 have he:=(eok_sec (hR.ex.ok _ hx.1)).2
 unfold seen
 rcases seeW_mem allK d.waits s k ((exOf d.ext s).2.extract (64*k.toNat) (64*k.toNat+64)) d.waits.length with e | ⟨w,hw,_,_,e⟩
 ·rw [e,ByteArray.size_extract];omega
 ·rw [e]
  obtain ⟨_,_,_,_,_,h64⟩:=hR.wr w hw
  exact h64
end Rec
end Go.Proofs.YtceikpipmcadmaaGreatDoor
namespace Go.Proofs.YtceikpipmcadmaaGreatDoor
open Go.RowKit
open Mv Disk Num
set_option maxRecDepth 4000
namespace Rec
theorem need_iff {w c : Nat} (hw : w ≤ 8) : ((needP (w : Int) c).2 ≠ 0 ↔ 65536 < c) ∧ (c ≤ 65536 → needP (w : Int) c = (((needN w c : Nat) : Int), 0)) := by
 unfold needP
 by_cases h:65536<c
 ·rw [if_pos (by omega)];exact ⟨⟨fun _=>h,fun _=>by decide⟩,fun h'=>by omega⟩
 ·rw [if_neg (by omega),Int.toNat_natCast];exact ⟨⟨fun h'=>absurd rfl h',fun h'=>absurd h' h⟩,fun _=>rfl⟩
end Rec
end Go.Proofs.YtceikpipmcadmaaGreatDoor
namespace Go.Proofs.YtceikpipmcadmaaGreatDoor
open Go.RowKit
open Mv Disk Num
set_option maxRecDepth 4000
namespace Rec
noncomputable def readRP (d : D) (s : ByteArray) : Nat × List (List Nat) × Int := if (bodyP d s false).2.2 ≠ 0 then (0, [], (bodyP d s false).2.2) else ((bodyP d s false).1, splitL (bodyP d s false).2.1 ((bodyP d s false).1 : Int), splitE (bodyP d s false).2.1 ((bodyP d s false).1 : Int))
noncomputable def readTP (d : D) (s : ByteArray) : ByteArray × Int := ((bodyP d s true).2.1, (bodyP d s true).2.2)
end Rec
end Go.Proofs.YtceikpipmcadmaaGreatDoor
namespace Go.Proofs.YtceikpipmcadmaaGreatDoor
open Go.RowKit
open Mv Disk Num
namespace Rec
/-- Of a write that went well: the body's sectors wait, ahead of the seal. -/
theorem put_steps {d : D} {s : ByteArray} {w c : Nat} {body : ByteArray} (h : (putP d s w c body).2 = 0) :
  (newD d s (needN w c:Nat)).2=0∧(putTo (newD d s (needN w c:Nat)).1 s (padS body) (needN w c-1)).2=0∧putP d s w c body=sealD (putTo (newD d s (needN w c:Nat)).1 s (padS body) (needN w c-1)).1 s (headS w c):=by
 unfold putP at h ⊢
 by_cases q1:(newD d s (needN w c:Nat)).2=0
 ·rw [if_neg (by omega)] at h ⊢
  by_cases q2:(putTo (newD d s (needN w c:Nat)).1 s (padS body) (needN w c-1)).2=0
  ·rw [if_neg (by omega)];exact ⟨q1,q2,rfl⟩
  ·rw [if_pos q2] at h;exact absurd h q2
 ·rw [if_pos q1] at h;exact absurd h q1
theorem put_law {d : D} {s : ByteArray} {w c : Nat} {body : ByteArray} (hR : Right d) (hdn : d.down = false) (hf : d.fuse ≤ 9223372036854775807) (hk : w ≤ 8) (hc : c ≤ 65536) (hb : body.size = eachN w * c) (h : (putP d s w c body).2 = 0) :
  ∃ z,putP d s w c body=(z,0)∧Right z∧z.down=false∧z.fuse≤9223372036854775807∧z.waits = []∧FileR z s w c body ∧ ∀ o k,o≠s→readO z o k=readO d o k:=by
 obtain ⟨q1,q2,q3⟩:=put_steps h
 rw [q3] at h ⊢
 have hn1:=needN_pos w c
 obtain ⟨hR1,hd1,hf1,_⟩:=(new_law (s:=s) (n:=((needN w c:Nat):Int)) hR hdn).2 q1
 have hf1:(newD d s (needN w c:Nat)).1.fuse≤9223372036854775807:=by rw [hf1];exact hf
 obtain ⟨kR,kf,kd⟩:=putTo_keep hR1 hd1 hf1 s (padS body) (needN w c-1)
 have kd:=kd q2
 obtain ⟨f,f0,f1,e⟩:=putTo_yes (s:=s) (all:=padS body) hR hdn hf q1 _ q2
 rw [e] at kR kf kd h ⊢
 obtain ⟨x1,x2⟩:=exOf_new hR q1
 obtain ⟨z,z1,z2,z3,z4,z5,z6,z7⟩:=sealed (w:=w) (c:=c) (body:=body) kR kd kf (show has (newD d s (needN w c:Nat)).1.ext s=true from x2) (by
  show sec (exOf (newD d s (needN w c:Nat)).1.ext s)=_
  rw [x1];unfold sec;simp only;rw [zeros_size,Int.toNat_natCast];omega) (fun i hi=>by
  rw [seen_put hR q1,if_pos ⟨rfl,by omega,by omega⟩]
  rw [show (((i+1:Nat):Int)).toNat-1=i from by omega]) h
 refine ⟨z,z1,z2,z3,z4,z5,z6,fun o k ho=>(z7 o k ho).trans ?_⟩
 rw [read_ok kR kd,read_ok hR hdn]
 have hp:(placeD (putE' d s (padS body) (needN w c:Nat) (needN w c-1) f) o k).2=(placeD d o k).2:=place_other hR q1 ho k
 rw [hp]
 by_cases hp0:(placeD d o k).2=0
 ·rw [if_neg (by simpa using hp0),if_neg (by simpa using hp0),seen_put hR q1,if_neg (fun h=>ho h.1),seen_other hR q1 ho hp0]
 ·rw [if_pos hp0,if_pos hp0]
theorem padS_data (s : ByteArray) : (padS s).data.toList = s.data.toList ++ List.replicate ((64 - s.size % 64) % 64) 0 := bs_data _
theorem headS_list (w c : Nat) : (headS w c).data.toList = (preS w c ++ Crc.tailS (sumOf (preS w c))).data.toList ++ List.replicate 52 0 := by
 unfold headS
 have h8:(preS w c).size=8:=by unfold preS;rw [size_bs];rfl
 rw [padS_data,ByteArray.size_append,h8,Crc.tailS_size]
theorem headS_take (w c : Nat) : (headS w c).extract 0 12 = preS w c ++ Crc.tailS (sumOf (preS w c)) := by
 have h8:(preS w c).size=8:=by unfold preS;rw [size_bs];rfl
 apply str_ext
 rw [Lib.extract_data,headS_list]
 have hl:(preS w c ++ Crc.tailS (sumOf (preS w c))).data.toList.length=12:=by rw [St.len_list,ByteArray.size_append,h8,Crc.tailS_size]
 rw [List.drop_zero,List.take_append_of_le_length (by omega),List.take_of_length_le (by omega)]
theorem form_head {w c : Nat} (hk : w ≤ 8) (hc : c ≤ 65536) : formP (headS w c) = (w, c, 0) := by
 have hl:(headS w c).data.toList = [87,82,UInt8.ofNat w] ++ five c ++ (Crc.tailS (sumOf (preS w c))).data.toList ++ List.replicate 52 0:=by
  rw [headS_list]
  have:(preS w c ++ Crc.tailS (sumOf (preS w c))).data.toList=(preS w c).data.toList ++ (Crc.tailS (sumOf (preS w c))).data.toList:=by simp
  rw [this]
  unfold preS
  rw [bs_data]
 have h5:(five c).length=5:=rfl
 have h4:(Crc.tailS (sumOf (preS w c))).data.toList.length=4:=by rw [St.len_list,Crc.tailS_size]
 have hw:(UInt8.ofNat w).toNat=w:=by rw [UInt8.toNat_ofNat'];omega
 have hop:openS ((headS w c).extract 0 12)=(preS w c,0):=by
  rw [headS_take]
  exact Crc.open_ok (preS w c) (by unfold preS;rw [size_bs];show 8≤65536;decide)
 have g3:(headS w c).data.toList.drop 12=List.replicate 52 0:=by
  rw [hl,List.drop_append,List.drop_of_length_le (by simp only [List.length_append,h4,h5,List.length_cons,List.length_nil];omega)]
  simp only [List.length_append,h4,h5,List.length_cons,List.length_nil]
  rfl
 unfold formP
 rw [if_neg,hop,if_neg (by simp)]
 ·refine Prod.ext ?_ (Prod.ext ?_ rfl)
  ·show ((headS w c).data.toList.getD 2 0).toNat=w
   rw [hl];exact hw
  ·show ofB (((headS w c).data.toList.drop 3).take 5)=c
   rw [hl]
   show ofB ((five c ++ (Crc.tailS (sumOf (preS w c))).data.toList ++ List.replicate 52 0).take 5)=c
   rw [List.append_assoc,List.take_append_of_le_length (by rw [h5];omega),List.take_of_length_le (by rw [h5];omega)]
   exact ofB_five c (by unfold top;omega)
 ·rintro (h | h | h)
  ·exact h (by rw [hl];rfl)
  ·rw [hl] at h
   have h:8<(UInt8.ofNat w).toNat:=h
   omega
  ·rw [g3] at h;revert h;decide
theorem file_head {z : D} {s : ByteArray} {w c : Nat} {body : ByteArray} (hk : w ≤ 8) (hc : c ≤ 65536) (h : FileR z s w c body) : headP z s = (w, c, 0) := by
 unfold headP
 rw [h.head,if_neg (by simp),form_head hk hc,if_neg (by simp),h.size,(need_iff hk).2 hc,if_neg (by simp)]
theorem file_bodyL {z : D} {s : ByteArray} {w c : Nat} {body : ByteArray} (hb : body.size = eachN w * c) (h : FileR z s w c body) : ∀ k, k ≤ needN w c - 1 → bodyL z s k = (padS body).data.toList.take (64 * k)
 | 0,_=>rfl
 | k+1,hk=>by
  have hall:(padS body).size=64*(needN w c-1):=by rw [padS_size,hb];unfold needN;omega
  rw [bodyL,file_bodyL hb h k (by omega),h.secs k (by omega)]
  unfold secAt
  show _ ++ ((padS body).extract (64*k) (64*k+64)).data.toList=_
  rw [Lib.extract_data,show 64*(k+1)=64*k+64 from by omega,show 64*k+64-64*k=64 from by omega,List.take_add]
theorem file_body {z : D} {s : ByteArray} {w c : Nat} {body : ByteArray} (hk : w ≤ 8) (hc : c ≤ 65536) (hb : body.size = eachN w * c) (h : FileR z s w c body) : bodyP z s (decide (w = 0)) = (w, body, 0) := by
 have hall:(padS body).size=64*(needN w c-1):=by rw [padS_size,hb];unfold needN;omega
 have hl:=file_bodyL hb h (needN w c-1) (Nat.le_refl _)
 rw [List.take_of_length_le (by rw [St.len_list,hall];exact Nat.le_refl _),padS_data] at hl
 have hbl:body.data.toList.length=eachN w*c:=by rw [St.len_list,hb]
 unfold bodyP
 rw [file_head hk hc h]
 simp only [hl,← hbl,List.drop_left,List.take_left]
 rw [if_neg (by simp),if_neg (by simp),if_neg]
 ·rw [bs_of]
 ·unfold zeroL;simp
end Rec
end Go.Proofs.YtceikpipmcadmaaGreatDoor
namespace Go.Proofs.YtceikpipmcadmaaGreatDoor
open Go.RowKit
open Mv Disk Num
namespace Rec
/-! ### What the power leaves -/
theorem right_crash {a : D} (hR : Right a) (kp : Nat → Bool) : Right (upD (settleD a kp)) := right_fuse (right_settle hR kp) (by decide) false
theorem done_nil (kp : Nat → Bool) (l : List Ext) : l.map (doneX kp []) = l := by
 have:doneX kp []=id:=by funext x;rfl
 rw [this,List.map_id]
theorem settle_nil {a : D} (h : a.waits = []) (kp : Nat → Bool) : upD (settleD a kp) = { a with fuse := -1, down := false } := by
 obtain ⟨z,e,w,f,b⟩:=a
 obtain rfl:w = []:=h
 show (⟨z,e.map (doneX kp []),[],-1,false⟩ : D)=⟨z,e,[],-1,false⟩
 rw [done_nil]
end Rec
end Go.Proofs.YtceikpipmcadmaaGreatDoor
namespace Go.Proofs.YtceikpipmcadmaaGreatDoor
open Go.RowKit
open Mv Disk Num
namespace Slo
structure Mf where
  seq : Nat
  phase : Nat
  count : Nat
  prim : Nat
  sum : Nat
  frm : ByteArray
  too : ByteArray
def M0 : Mf := ⟨0, 0, 0, 0, 0, ByteArray.empty, ByteArray.empty⟩
def nmdB (s : ByteArray) : Bool := s.size != 0 && decide (s.size ≤ 16) && at8 s.data.toList (s.size - 1) != 0
def chkM (m : Mf) : Int := if m.seq < 1 ∨ 4294967296 < m.seq ∨ m.phase = 0 ∨ 6 ≤ m.phase ∨ 65536 < m.count ∨ m.count < m.prim ∨ nmdB m.frm = false ∨ nmdB m.too = false ∨ (m.phase < 4 ∧ m.prim ≠ 0) then 2 else 0
/-- A manifest that may come in. -/
structure Fit (m : Mf) : Prop where
  seq : m.seq < 18446744073709551616
  phase : m.phase < 256
  count : m.count < 18446744073709551616
  prim : m.prim < 18446744073709551616
  sum : m.sum < 4294967296
def le4 (n : Nat) : List UInt8 := [UInt8.ofNat n, UInt8.ofNat (n / 256), UInt8.ofNat (n / 65536), UInt8.ofNat (n / 16777216)]
def leN (l : List UInt8) : Nat := l.foldr (fun b a => b.toNat + 256 * a) 0
def padL (s : ByteArray) : List UInt8 := s.data.toList ++ List.replicate (16 - s.size) 0
def preL (m : Mf) : List UInt8 := [77, 70] ++ five m.seq ++ [UInt8.ofNat m.phase] ++ five m.count ++ five m.prim ++ le4 m.sum ++ padL m.frm ++ padL m.too
def encS (m : Mf) : ByteArray := bs ((Crc.frameB (bs (preL m))).data.toList ++ List.replicate 6 0)
/-- A manifest's sector. -/
def encM (m : Mf) : ByteArray × Int := if chkM m ≠ 0 then (ByteArray.empty, 2) else (encS m, 0)
def fieldsM (s : ByteArray) : Mf := ⟨ofB ((s.data.toList.drop 2).take 5), (at8 s.data.toList 7).toNat, ofB ((s.data.toList.drop 8).take 5), ofB ((s.data.toList.drop 13).take 5), leN ((s.data.toList.drop 18).take 4), bs (St.rtrim 0 ((s.data.toList.drop 22).take 16)), bs (St.rtrim 0 ((s.data.toList.drop 38).take 16))⟩
/-- A sector's manifest. -/
def decM (s : ByteArray) : Mf × Int :=
  if s.size ≠ 64 then (M0, 5) else if s.data.toList.take 2 ≠ [77, 70] ∨ Rec.zeroL (s.data.toList.drop 58) = false then (M0, 2) else
  if (openS (s.extract 0 58)).2 ≠ 0 then (M0, (openS (s.extract 0 58)).2) else if chkM (fieldsM s) ≠ 0 then (M0, 2) else (fieldsM s, 0)
/-! ### Checks -/
theorem chk_or (m : Mf) : chkM m = 0 ∨ chkM m = 2 := by unfold chkM; split; exact .inr rfl; exact .inl rfl
structure RightM (m : Mf) : Prop where
  s1 : 1 ≤ m.seq
  s2 : m.seq ≤ 4294967296
  p1 : 1 ≤ m.phase
  p2 : m.phase < 6
  c : m.count ≤ 65536
  q : m.prim ≤ m.count
  f : nmdB m.frm = true
  t : nmdB m.too = true
  z : m.phase < 4 → m.prim = 0
theorem chk_iff (m : Mf) : chkM m = 0 ↔ RightM m := by
 unfold chkM
 constructor
 ·intro h
  split at h
  ·cases h
  ·rename_i g
   simp only [not_or,Bool.not_eq_false] at g
   obtain ⟨g1,g2,g3,g4,g5,g6,g7,g8,g9⟩:=g
   exact ⟨by omega,by omega,by omega,by omega,by omega,by omega,g7,g8,fun h=>by omega⟩
 ·rintro ⟨h1,h2,h3,h4,h5,h6,h7,h8,h9⟩
  rw [if_neg]
  simp only [not_or,Bool.not_eq_false]
  exact ⟨by omega,by omega,by omega,by omega,by omega,by omega,h7,h8,fun ⟨a,b⟩=>b (h9 a)⟩
theorem nmd_iff (s : ByteArray) : nmdB s = true ↔ 1 ≤ s.size ∧ s.size ≤ 16 ∧ at8 s.data.toList (s.size - 1) ≠ 0 := by
 unfold nmdB
 simp only [Bool.and_eq_true,bne_iff_ne,decide_eq_true_eq]
 constructor
 ·rintro ⟨⟨a,b⟩,c⟩;exact ⟨by omega,b,c⟩
 ·rintro ⟨a,b,c⟩;exact ⟨⟨by omega,b⟩,c⟩
theorem padL_length {s : ByteArray} (h : s.size ≤ 16) : (padL s).length = 16 := by
 unfold padL
 rw [List.length_append,St.len_list,List.length_replicate];omega
theorem rtrim_pad {s : ByteArray} (h : nmdB s = true) : bs (St.rtrim 0 (padL s)) = s := by
 obtain ⟨h1,h2,h3⟩:=(nmd_iff s).1 h
 have hl:=St.len_list s
 have e:St.rtrim 0 (padL s)=(padL s).take s.size:=by
  refine St.rtrim_take 0 _ _ (by rw [padL_length h2];exact h2) ?_ (.inr ?_)
  ·intro x hx
   unfold padL at hx
   rw [List.drop_left' hl] at hx
   exact List.eq_of_mem_replicate hx
  ·have:at8 (padL s) (s.size-1)=at8 s.data.toList (s.size-1):=by
    unfold padL at8
    simp only [List.getD]
    rw [List.getElem?_append_left (by omega)]
   rw [this];exact h3
 rw [e]
 unfold padL
 rw [List.take_left' hl,bs_of]
theorem le4_length (n : Nat) : (le4 n).length = 4 := rfl
theorem leN_le4 (n : Nat) (h : n < 4294967296) : leN (le4 n) = n := by
 simp only [leN,le4,List.foldr_cons,List.foldr_nil,UInt8.toNat_ofNat']
 omega
theorem le4_leN (l : List UInt8) (h : l.length = 4) : le4 (leN l) = l := by
 match l,h with
 | [a,b,c,d],_ =>
  have ha:=a.toNat_lt;have hb:=b.toNat_lt;have hc:=c.toNat_lt;have hd:=d.toNat_lt
  simp only [leN,le4,List.foldr_cons,List.foldr_nil]
  have e:∀ (x:UInt8) (n:Nat),n % 256=x.toNat→UInt8.ofNat n=x:=fun x n h=>UInt8.toNat_inj.1 (by rw [UInt8.toNat_ofNat'];exact h)
  rw [e a _ (by omega),e b _ (by omega),e c _ (by omega),e d _ (by omega)]
theorem pre_length {m : Mf} (hf : m.frm.size ≤ 16) (ht : m.too.size ≤ 16) : (preL m).length = 54 := by
 unfold preL
 simp only [List.length_append,padL_length hf,padL_length ht,five_length,le4_length,List.length_cons,List.length_nil]
theorem enc_list {m : Mf} : (encS m).data.toList = preL m ++ (Crc.tailS (sumOf (bs (preL m)))).data.toList ++ List.replicate 6 0 := by
 unfold encS
 rw [bs_data]
 unfold Crc.frameB
 rw [data_append,bs_data]
theorem enc_size {m : Mf} (h : RightM m) : (encS m).size = 64 := by
 have hf:=((nmd_iff _).1 h.f).2.1
 have ht:=((nmd_iff _).1 h.t).2.1
 rw [← St.len_list,enc_list]
 simp only [List.length_append,pre_length hf ht,St.len_list,Crc.tailS_size,List.length_replicate]
theorem enc_cut {m : Mf} (h : RightM m) : (encS m).extract 0 58 = Crc.frameB (bs (preL m)) := by
 have hf:=((nmd_iff _).1 h.f).2.1
 have ht:=((nmd_iff _).1 h.t).2.1
 apply str_ext
 rw [Lib.extract_data,List.drop_zero]
 unfold encS
 rw [bs_data]
 refine List.take_left' ?_
 rw [St.len_list]
 unfold Crc.frameB
 rw [ByteArray.size_append,Crc.tailS_size,size_bs,pre_length hf ht]
/-- What a manifest's sector reads as. -/
theorem fields_enc {m : Mf} (h : RightM m) (hs : m.sum < 4294967296) : fieldsM (encS m) = m := by
 have hf:=((nmd_iff _).1 h.f).2.1
 have ht:=((nmd_iff _).1 h.t).2.1
 have hq:=h.s2;have hc:=h.c;have hp:=h.q;have hph:=h.p2
 have e:(encS m).data.toList = [77,70] ++ (five m.seq ++ ([UInt8.ofNat m.phase] ++ (five m.count ++ (five m.prim ++ (le4 m.sum ++ (padL m.frm ++ (padL m.too ++ ((Crc.tailS (sumOf (bs (preL m)))).data.toList ++ List.replicate 6 0)))))))):=by
  rw [enc_list];unfold preL;simp only [List.append_assoc]
 have lf:=padL_length hf
 have lt:=padL_length ht
 generalize hT:(Crc.tailS (sumOf (bs (preL m)))).data.toList ++ List.replicate 6 0=T at e
 unfold fieldsM
 rw [e]
 have d2:([77,70] ++ (five m.seq ++ ([UInt8.ofNat m.phase] ++ (five m.count ++ (five m.prim ++ (le4 m.sum ++ (padL m.frm ++ (padL m.too ++ T)))))))).drop 2=five m.seq ++ ([UInt8.ofNat m.phase] ++ (five m.count ++ (five m.prim ++ (le4 m.sum ++ (padL m.frm ++ (padL m.too ++ T)))))):=rfl
 have d8:([77,70] ++ (five m.seq ++ ([UInt8.ofNat m.phase] ++ (five m.count ++ (five m.prim ++ (le4 m.sum ++ (padL m.frm ++ (padL m.too ++ T)))))))).drop 8=five m.count ++ (five m.prim ++ (le4 m.sum ++ (padL m.frm ++ (padL m.too ++ T)))):=rfl
 have d13:([77,70] ++ (five m.seq ++ ([UInt8.ofNat m.phase] ++ (five m.count ++ (five m.prim ++ (le4 m.sum ++ (padL m.frm ++ (padL m.too ++ T)))))))).drop 13=five m.prim ++ (le4 m.sum ++ (padL m.frm ++ (padL m.too ++ T))):=rfl
 have d18:([77,70] ++ (five m.seq ++ ([UInt8.ofNat m.phase] ++ (five m.count ++ (five m.prim ++ (le4 m.sum ++ (padL m.frm ++ (padL m.too ++ T)))))))).drop 18=le4 m.sum ++ (padL m.frm ++ (padL m.too ++ T)):=rfl
 have d22:([77,70] ++ (five m.seq ++ ([UInt8.ofNat m.phase] ++ (five m.count ++ (five m.prim ++ (le4 m.sum ++ (padL m.frm ++ (padL m.too ++ T)))))))).drop 22=padL m.frm ++ (padL m.too ++ T):=rfl
 have d38:([77,70] ++ (five m.seq ++ ([UInt8.ofNat m.phase] ++ (five m.count ++ (five m.prim ++ (le4 m.sum ++ (padL m.frm ++ (padL m.too ++ T)))))))).drop 38=padL m.too ++ T:=by
  rw [show 38=22+16 from rfl,← List.drop_drop,d22];exact List.drop_left' lf
 have a7:at8 ([77,70] ++ (five m.seq ++ ([UInt8.ofNat m.phase] ++ (five m.count ++ (five m.prim ++ (le4 m.sum ++ (padL m.frm ++ (padL m.too ++ T)))))))) 7=UInt8.ofNat m.phase:=rfl
 rw [d2,d8,d13,d18,d22,d38,a7,List.take_left' (five_length _),List.take_left' (five_length _),List.take_left' (five_length _),List.take_left' (le4_length _),List.take_left' lf,List.take_left' lt,ofB_five _ (by unfold top;omega),ofB_five _ (by unfold top;omega),ofB_five _ (by unfold top;omega),leN_le4 _ hs,rtrim_pad h.f,rtrim_pad h.t,show (UInt8.ofNat m.phase).toNat=m.phase from by rw [UInt8.toNat_ofNat'];omega]
theorem zeroL_rep (n : Nat) : Rec.zeroL (List.replicate n 0) = true := by unfold Rec.zeroL; simp
theorem dec_enc {m : Mf} (h : RightM m) (hs : m.sum < 4294967296) : decM (encS m) = (m, 0) := by
 have hf:=((nmd_iff _).1 h.f).2.1
 have ht:=((nmd_iff _).1 h.t).2.1
 have h58:(preL m ++ (Crc.tailS (sumOf (bs (preL m)))).data.toList).length=58:=by rw [List.length_append,pre_length hf ht,St.len_list,Crc.tailS_size]
 unfold decM
 rw [if_neg (by rw [enc_size h];simp),if_neg,enc_cut h,Crc.open_ok _ (by rw [size_bs,pre_length hf ht];decide),if_neg (by simp),fields_enc h hs,(chk_iff m).2 h,if_neg (by simp)]
 rintro (q | q)
 ·apply q
  rw [enc_list];rfl
 ·rw [enc_list,List.drop_left' h58,zeroL_rep] at q;cases q
end Slo
end Go.Proofs.YtceikpipmcadmaaGreatDoor
namespace Go.Proofs.YtceikpipmcadmaaGreatDoor
open Go.RowKit
open Mv Disk Num
set_option maxRecDepth 4000
namespace Slo
theorem last0 (s p : ByteArray) (h : 1 ≤ s.size) (hp : p.data.toList = [0]) : decide (s.extract (s.size - 1) s.size = p) = (at8 s.data.toList (s.size - 1) == 0) := by
 rw [Bool.eq_iff_iff,decide_eq_true_eq,beq_iff_eq]
 have hl:=St.len_list s
 have e:(s.extract (s.size-1) s.size).data.toList = [at8 s.data.toList (s.size-1)]:=by
  rw [Lib.extract_data,List.take_of_length_le (by rw [List.length_drop];omega),List.drop_eq_getElem_cons (by omega),List.drop_of_length_le (by omega),at8_get _ _ (by omega)]
 constructor
 ·intro g
  rw [g,hp] at e
  exact (List.cons.inj e).1.symm
 ·intro g
  apply str_ext
  rw [e,g,hp]
theorem hasSuffix0 (s p : ByteArray) (S : Mem) (hs : s.size ≤ 9223372036854775807) (hp : p.data.toList = [0]) :
  ACall Tryz.prog 167 #[.string s,.string p] S fun r S'=>r = .bool (decide (1≤s.size) && (at8 s.data.toList (s.size-1) == 0))∧S'=S:=by
 have hp1:p.size=1:=by rw [← St.len_list,hp];rfl
 by_cases h:1≤s.size
 ·have e:=last0 s p h hp
  rw [decide_eq_true h,Bool.true_and,← e]
  refine ACall.enter (rs:=[.tmp 4]) 21 [(0,.string s),(1,.string p)] Tryz.func167 rfl rfl (Nat.le_of_ble_eq_true rfl) rfl ⟨rfl,rfl,trivial⟩ ?_
  iterate 26 refine s1_ ?_
  refine su_ [(0,_),(1,_),(4,_)] ?_
  refine s1_ ?_
  refine ⟨_,S,⟨_,_,rfl,rfl,rfl⟩,less_,?_⟩
  exact ⟨by rw [show ((s.size:Int)-(p.size:Int)).toNat=s.size-1 from by omega];rfl,rfl⟩
 ·rw [decide_eq_false h,Bool.false_and]
  refine ACall.enter (rs:=[.tmp 4]) 21 [(0,.string s),(1,.string p)] Tryz.func167 rfl rfl (Nat.le_of_ble_eq_true rfl) rfl ⟨rfl,rfl,trivial⟩ ?_
  iterate 26 refine s1_ ?_
  refine su_ [(0,_),(1,_),(4,_)] ?_
  refine s1_ ?_
  refine ⟨_,S,⟨_,_,rfl,rfl,rfl⟩,less_,?_⟩
  exact ⟨rfl,rfl⟩
theorem HasSuffix0 (s p : ByteArray) (S : Mem) (hs : s.size ≤ 9223372036854775807) (hp : p.data.toList = [0]) :
  ACall Tryz.prog 132 #[.string s,.string p] S fun r S'=>r = .bool (decide (1≤s.size) && (at8 s.data.toList (s.size-1) == 0))∧S'=S:=by
 refine ACall.enter (rs:=[.tmp 4]) 8 [(0,.string s),(1,.string p)] Tryz.func132 rfl rfl (Nat.le_of_ble_eq_true rfl) rfl ⟨rfl,rfl,trivial⟩ ?_
 iterate 9 refine s1_ ?_
 refine ca_ rfl (hasSuffix0 s p _ hs hp) ?_
 rintro _ S1 ⟨rfl,h1⟩
 rw [h1];clear h1 S1
 iterate 3 refine s1_ ?_
 refine su_ [(0,_),(1,_),(4,_)] ?_
 refine s1_ ?_
 refine ⟨_,S,⟨_,_,rfl,rfl,rfl⟩,less_,?_⟩
 exact ⟨rfl,rfl⟩
theorem ne_empty {x : ByteArray} (h : 1 ≤ x.size) : ¬ x = ⟨#[]⟩ := fun e => by rw [e] at h; exact absurd h (by decide)
theorem is_empty {x : ByteArray} (h : ¬ 1 ≤ x.size) : x = ⟨#[]⟩ := by
 apply str_ext
 exact List.length_eq_zero_iff.1 (by rw [St.len_list];omega)
theorem slo_named (v : Value) (l : List ByteArray) (S : Mem) (hv : Sl 1 strs S v l) (hz : ∀ x ∈ l, x.size ≤ 9223372036854775807) :
  ACall Tryz.prog 82 #[v] S fun r S'=>r = .bool (l.all nmdB)∧S'=S:=by
 obtain ⟨a,cap,rfl,h1,h2,h3⟩:=id hv
 refine ACall.enter (rs:=[.tmp 2]) 23 [(0,.slice a l.length cap)] Tryz.func82 rfl rfl (Nat.le_of_ble_eq_true rfl) rfl ⟨rfl,trivial⟩ ?_
 iterate 14 refine s1_ ?_
 refine AWP.loop (X:=Nat) (fun i=>[(5,.slice a l.length cap),(6,.int .i64 l.length),(7,.int .i64 i)]) (fun i=>S) (fun i=>i≤l.length ∧ ∀ x ∈ l.take i,nmdB x=true) (fun i=>l.length-i) (0) ⟨rfl,rfl,rfl,trivial⟩ (Mem.Less.refl _) (⟨Nat.zero_le _,fun x h=>(by simp at h)⟩) ?_
 rintro i ⟨hi,hall⟩
 (try dsimp only at *)
 iterate 6 refine s1_ ?_
 refine AWP.condB rfl (fun hc=>?_) (fun hc=>?_)
 ·have hc:i<l.length:=by have:=of_decide_eq_true hc;omega
  obtain ⟨b,off,rfl,hkk⟩:=h3.resolve_left (fun e=>by subst e;simp at hc)
  have hki:=hkk i hc
  have hzi:=hz _ (List.getElem_mem hc)
  have hmi:=List.getElem_mem hc
  have hti:l.take (i+1)=l.take i ++ [l[i]]:=take_get hc
  unfold strs at hki
  generalize l[i]=x at *
  have hx:=nmd_iff x
  by_cases q:nmdB x=true
  ·obtain ⟨q1,q2,q3⟩:=hx.1 q
   have hs:=fun S=>HasSuffix0 x ⟨#[0]⟩ S hzi rfl
   rw [decide_eq_true q1,Bool.true_and,beq_eq_false_iff_ne.2 q3] at hs
   iterate 11 refine s1_ ?_
   refine su_ [(5,_),(6,_),(7,_),(8,_),(4,_)] ?_
   iterate 3 refine s1_ ?_
   refine rC (Calm.bin rfl rfl (bin_bool (bin_str_eql _ _) (decide_eq_false (ne_empty q1)))) ?_
   iterate 7 refine s1_ ?_
   refine ARun.callG 7 false 18 rfl (lit_lt rfl) rfl (lit_lt rfl) go_132 rfl (hs _) ?_
   rintro _ Sx ⟨rfl,h1⟩
   rw [h1];clear h1 Sx
   iterate 3 refine s1_ ?_
   refine su_ [(5,_),(6,_),(7,_),(8,_),(4,_),(21,_)] ?_
   refine cF_ ?_
   iterate 8 refine s1_ ?_
   refine ⟨i+1,?_,?_,?_,?_⟩
   all_goals (try dsimp only)
   ·exact ⟨rfl,rfl,rfl,trivial⟩
   ·exact less_
   ·exact ⟨hc,fun y hy=>(by rw [hti] at hy;rcases List.mem_append.1 hy with g | g;exact hall y g;obtain rfl:y=x:=(by simpa using g);exact q)⟩
   ·omega
  ·have hno:l.all nmdB=false:=by rw [← Bool.not_eq_true,List.all_eq_true];exact fun g=>q (g x hmi)
   rw [hno]
   by_cases q1:1≤x.size
   ·by_cases q2:x.size≤16
    ·have q3:at8 x.data.toList (x.size-1)=0:=by by_cases g:at8 x.data.toList (x.size-1)=0;exact g;exact absurd (hx.2 ⟨q1,q2,g⟩) q
     have hs:=fun S=>HasSuffix0 x ⟨#[0]⟩ S hzi rfl
     rw [decide_eq_true q1,Bool.true_and,beq_iff_eq.2 q3] at hs
     iterate 11 refine s1_ ?_
     refine su_ [(5,_),(6,_),(7,_),(8,_),(4,_)] ?_
     iterate 3 refine s1_ ?_
     refine rC (Calm.bin rfl rfl (bin_bool (bin_str_eql _ _) (decide_eq_false (ne_empty q1)))) ?_
     iterate 7 refine s1_ ?_
     refine ARun.callG 7 false 18 rfl (lit_lt rfl) rfl (lit_lt rfl) go_132 rfl (hs _) ?_
     rintro _ Sx ⟨rfl,h1⟩
     rw [h1];clear h1 Sx
     iterate 3 refine s1_ ?_
     refine su_ [(5,_),(6,_),(7,_),(8,_),(4,_),(21,_)] ?_
     refine cT_ ?_
     iterate 11 refine s1_ ?_
     refine ⟨_,S,⟨_,_,rfl,rfl,rfl⟩,less_,?_⟩
     exact ⟨rfl,rfl⟩
    ·iterate 11 refine s1_ ?_
     refine su_ [(5,_),(6,_),(7,_),(8,_),(4,_)] ?_
     iterate 3 refine s1_ ?_
     refine rC (Calm.bin rfl rfl (bin_bool (bin_str_eql _ _) (decide_eq_false (ne_empty q1)))) ?_
     iterate 11 refine s1_ ?_
     refine su_ [(5,_),(6,_),(7,_),(8,_),(4,_),(21,_)] ?_
     refine cT_ ?_
     iterate 11 refine s1_ ?_
     refine ⟨_,S,⟨_,_,rfl,rfl,rfl⟩,less_,?_⟩
     exact ⟨rfl,rfl⟩
   ·iterate 11 refine s1_ ?_
    refine su_ [(5,_),(6,_),(7,_),(8,_),(4,_)] ?_
    iterate 3 refine s1_ ?_
    refine rC (Calm.bin rfl rfl (bin_bool (bin_str_eql _ _) (decide_eq_true (is_empty q1)))) ?_
    iterate 11 refine s1_ ?_
    refine su_ [(5,_),(6,_),(7,_),(8,_),(4,_),(21,_)] ?_
    refine cT_ ?_
    iterate 11 refine s1_ ?_
    refine ⟨_,S,⟨_,_,rfl,rfl,rfl⟩,less_,?_⟩
    exact ⟨rfl,rfl⟩
 ·have hc:i=l.length:=by have:=of_decide_eq_false hc;omega
  have hyes:l.all nmdB=true:=by rw [List.all_eq_true];exact fun x hx=>hall x (by rw [hc,List.take_length];exact hx)
  rw [hyes]
  iterate 11 refine s1_ ?_
  refine ⟨_,S,⟨_,_,rfl,rfl,rfl⟩,less_,?_⟩
  exact ⟨rfl,rfl⟩
end Slo
end Go.Proofs.YtceikpipmcadmaaGreatDoor
namespace Go.Proofs.YtceikpipmcadmaaGreatDoor
open Go.RowKit
open Mv Disk Num
set_option maxRecDepth 4000
namespace Slo
def mfV (m : Mf) : Value := .agg #[.int .u64 (m.seq : Int), .int .u8 (m.phase : Int), .int .u64 (m.count : Int), .int .u64 (m.prim : Int), .int .u32 (m.sum : Int), .string m.frm, .string m.too]
theorem slo_Check (m : Mf) (S : Mem) (hf : m.frm.size ≤ 9223372036854775807) (ht : m.too.size ≤ 9223372036854775807) :
  ACall Tryz.prog 34 #[mfV m] S fun r S'=>r = .int .i64 (chkM m)∧S'=S:=by
 obtain ⟨seq,phase,count,prim,sum,frm,too⟩:=m
 unfold chkM mfV
 simp only at hf ht ⊢
 have hn:=fun v S hv=>slo_named v [frm,too] S hv (fun x hx=>by rcases List.mem_cons.1 hx with rfl | hx;exact hf;obtain rfl:x=too:=(by simpa using hx);exact ht)
 simp only [List.all_cons,List.all_nil,Bool.and_true] at hn
 by_cases a1:seq<1
 ·rw [if_pos (.inl a1)]
  refine ACall.enter (rs:=[.tmp 2]) 51 [(0,.agg #[.int .u64 (seq:Int),.int .u8 (phase:Int),.int .u64 (count:Int),.int .u64 (prim:Int),.int .u32 (sum:Int),.string frm,.string too])] Tryz.func34 rfl rfl (Nat.le_of_ble_eq_true rfl) rfl ⟨rfl,trivial⟩ ?_
  iterate 2 refine s1_ ?_
  refine k_b7 rfl ?_
  intro b1 f1
  have g1:=f1
  repeat ((with_reducible replace g1:=fresh_set g1);obtain ⟨g1,_⟩:=g1)
  refine nl_ ?_
  iterate 28 refine s1_ ?_
  refine su_ [(0,_),(1,_),(2,_),(3,_)] ?_
  refine cT_ ?_
  iterate 8 refine s1_ ?_
  refine ⟨_,S,⟨_,_,rfl,rfl,rfl⟩,less_,?_⟩
  exact ⟨rfl,rfl⟩
 by_cases a2:4294967296<seq
 ·rw [if_pos (.inr (.inl a2))]
  refine ACall.enter (rs:=[.tmp 2]) 51 [(0,.agg #[.int .u64 (seq:Int),.int .u8 (phase:Int),.int .u64 (count:Int),.int .u64 (prim:Int),.int .u32 (sum:Int),.string frm,.string too])] Tryz.func34 rfl rfl (Nat.le_of_ble_eq_true rfl) rfl ⟨rfl,trivial⟩ ?_
  iterate 2 refine s1_ ?_
  refine k_b7 rfl ?_
  intro b1 f1
  have g1:=f1
  repeat ((with_reducible replace g1:=fresh_set g1);obtain ⟨g1,_⟩:=g1)
  refine nl_ ?_
  iterate 28 refine s1_ ?_
  refine su_ [(0,_),(1,_),(2,_),(3,_)] ?_
  refine cT_ ?_
  iterate 8 refine s1_ ?_
  refine ⟨_,S,⟨_,_,rfl,rfl,rfl⟩,less_,?_⟩
  exact ⟨rfl,rfl⟩
 by_cases a3:phase=0
 ·rw [if_pos (.inr (.inr (.inl a3)))]
  refine ACall.enter (rs:=[.tmp 2]) 51 [(0,.agg #[.int .u64 (seq:Int),.int .u8 (phase:Int),.int .u64 (count:Int),.int .u64 (prim:Int),.int .u32 (sum:Int),.string frm,.string too])] Tryz.func34 rfl rfl (Nat.le_of_ble_eq_true rfl) rfl ⟨rfl,trivial⟩ ?_
  iterate 2 refine s1_ ?_
  refine k_b7 rfl ?_
  intro b1 f1
  have g1:=f1
  repeat ((with_reducible replace g1:=fresh_set g1);obtain ⟨g1,_⟩:=g1)
  refine nl_ ?_
  iterate 28 refine s1_ ?_
  refine su_ [(0,_),(1,_),(2,_),(3,_)] ?_
  refine cT_ ?_
  iterate 8 refine s1_ ?_
  refine ⟨_,S,⟨_,_,rfl,rfl,rfl⟩,less_,?_⟩
  exact ⟨rfl,rfl⟩
 by_cases a4:6≤phase
 ·rw [if_pos (.inr (.inr (.inr (.inl a4))))]
  refine ACall.enter (rs:=[.tmp 2]) 51 [(0,.agg #[.int .u64 (seq:Int),.int .u8 (phase:Int),.int .u64 (count:Int),.int .u64 (prim:Int),.int .u32 (sum:Int),.string frm,.string too])] Tryz.func34 rfl rfl (Nat.le_of_ble_eq_true rfl) rfl ⟨rfl,trivial⟩ ?_
  iterate 2 refine s1_ ?_
  refine k_b7 rfl ?_
  intro b1 f1
  have g1:=f1
  repeat ((with_reducible replace g1:=fresh_set g1);obtain ⟨g1,_⟩:=g1)
  refine nl_ ?_
  iterate 28 refine s1_ ?_
  refine su_ [(0,_),(1,_),(2,_),(3,_)] ?_
  refine cT_ ?_
  iterate 8 refine s1_ ?_
  refine ⟨_,S,⟨_,_,rfl,rfl,rfl⟩,less_,?_⟩
  exact ⟨rfl,rfl⟩
 by_cases a5:65536<count
 ·rw [if_pos (.inr (.inr (.inr (.inr (.inl a5)))))]
  refine ACall.enter (rs:=[.tmp 2]) 51 [(0,.agg #[.int .u64 (seq:Int),.int .u8 (phase:Int),.int .u64 (count:Int),.int .u64 (prim:Int),.int .u32 (sum:Int),.string frm,.string too])] Tryz.func34 rfl rfl (Nat.le_of_ble_eq_true rfl) rfl ⟨rfl,trivial⟩ ?_
  iterate 2 refine s1_ ?_
  refine k_b7 rfl ?_
  intro b1 f1
  have g1:=f1
  repeat ((with_reducible replace g1:=fresh_set g1);obtain ⟨g1,_⟩:=g1)
  refine nl_ ?_
  iterate 28 refine s1_ ?_
  refine su_ [(0,_),(1,_),(2,_),(3,_)] ?_
  refine cF_ ?_
  iterate 24 refine s1_ ?_
  refine su_ [(0,_),(1,_),(2,_),(3,_),(22,_)] ?_
  refine cT_ ?_
  iterate 8 refine s1_ ?_
  refine ⟨_,S,⟨_,_,rfl,rfl,rfl⟩,less_,?_⟩
  exact ⟨rfl,rfl⟩
 by_cases a6:count<prim
 ·rw [if_pos (.inr (.inr (.inr (.inr (.inr (.inl a6))))))]
  refine ACall.enter (rs:=[.tmp 2]) 51 [(0,.agg #[.int .u64 (seq:Int),.int .u8 (phase:Int),.int .u64 (count:Int),.int .u64 (prim:Int),.int .u32 (sum:Int),.string frm,.string too])] Tryz.func34 rfl rfl (Nat.le_of_ble_eq_true rfl) rfl ⟨rfl,trivial⟩ ?_
  iterate 2 refine s1_ ?_
  refine k_b7 rfl ?_
  intro b1 f1
  have g1:=f1
  repeat ((with_reducible replace g1:=fresh_set g1);obtain ⟨g1,_⟩:=g1)
  refine nl_ ?_
  iterate 28 refine s1_ ?_
  refine su_ [(0,_),(1,_),(2,_),(3,_)] ?_
  refine cF_ ?_
  iterate 24 refine s1_ ?_
  refine su_ [(0,_),(1,_),(2,_),(3,_),(22,_)] ?_
  refine cT_ ?_
  iterate 8 refine s1_ ?_
  refine ⟨_,S,⟨_,_,rfl,rfl,rfl⟩,less_,?_⟩
  exact ⟨rfl,rfl⟩
 by_cases a7:nmdB frm=false∨nmdB too=false
 ·rw [if_pos (by rcases a7 with a7 | a7;exact .inr (.inr (.inr (.inr (.inr (.inr (.inl a7))))));exact .inr (.inr (.inr (.inr (.inr (.inr (.inr (.inl a7)))))))),show (nmdB frm && nmdB too)=false from by rcases a7 with a7 | a7 <;> rw [a7] <;> simp] at *
  refine ACall.enter (rs:=[.tmp 2]) 51 [(0,.agg #[.int .u64 (seq:Int),.int .u8 (phase:Int),.int .u64 (count:Int),.int .u64 (prim:Int),.int .u32 (sum:Int),.string frm,.string too])] Tryz.func34 rfl rfl (Nat.le_of_ble_eq_true rfl) rfl ⟨rfl,trivial⟩ ?_
  iterate 2 refine s1_ ?_
  refine k_b7 rfl ?_
  intro b1 f1
  have g1:=f1
  repeat ((with_reducible replace g1:=fresh_set g1);obtain ⟨g1,_⟩:=g1)
  refine nl_ ?_
  iterate 28 refine s1_ ?_
  refine su_ [(0,_),(1,_),(2,_),(3,_)] ?_
  refine cF_ ?_
  iterate 17 refine s1_ ?_
  refine rUn 33 ?_
  refine ARun.buildN (cs:=[_,_]) (lit_lt rfl) ty_sl_149 rfl rfl rfl rfl ?_
  intro b38 f38
  have g38:=f38
  repeat ((with_reducible replace g38:=fresh_set g38);obtain ⟨g38,_⟩:=g38)
  refine ARun.callG 10 false 33 rfl (lit_lt rfl) rfl (lit_lt rfl) go_82 rfl (hn _ _ (Sl.own1 (g:=fun x:ByteArray=>Value.string x) own_ List.prefix_rfl rfl (by decide) (by decide))) ?_
  rintro _ Sx ⟨rfl,h1⟩
  rw [h1];clear h1 Sx
  iterate 5 refine s1_ ?_
  refine su_ [(0,_),(1,_),(2,_),(3,_),(22,_)] ?_
  refine cT_ ?_
  iterate 8 refine s1_ ?_
  refine ⟨_,S,⟨_,_,rfl,rfl,rfl⟩,less_,?_⟩
  exact ⟨rfl,rfl⟩
 have a8:(nmdB frm && nmdB too)=true:=by simp only [not_or,Bool.not_eq_false] at a7;rw [a7.1,a7.2];rfl
 rw [a8] at hn
 simp only [not_or,Bool.not_eq_false] at a7
 by_cases a9:phase<4
 ·by_cases a10:prim=0
  ·rw [if_neg (by simp only [not_or,Bool.not_eq_false];exact ⟨a1,a2,a3,a4,a5,a6,a7.1,a7.2,fun h=>h.2 a10⟩)]
   refine ACall.enter (rs:=[.tmp 2]) 51 [(0,.agg #[.int .u64 (seq:Int),.int .u8 (phase:Int),.int .u64 (count:Int),.int .u64 (prim:Int),.int .u32 (sum:Int),.string frm,.string too])] Tryz.func34 rfl rfl (Nat.le_of_ble_eq_true rfl) rfl ⟨rfl,trivial⟩ ?_
   iterate 2 refine s1_ ?_
   refine k_b7 rfl ?_
   intro b1 f1
   have g1:=f1
   repeat ((with_reducible replace g1:=fresh_set g1);obtain ⟨g1,_⟩:=g1)
   refine nl_ ?_
   iterate 28 refine s1_ ?_
   refine su_ [(0,_),(1,_),(2,_),(3,_)] ?_
   refine cF_ ?_
   iterate 17 refine s1_ ?_
   refine rUn 33 ?_
   refine ARun.buildN (cs:=[_,_]) (lit_lt rfl) ty_sl_149 rfl rfl rfl rfl ?_
   intro b38 f38
   have g38:=f38
   repeat ((with_reducible replace g38:=fresh_set g38);obtain ⟨g38,_⟩:=g38)
   refine ARun.callG 10 false 33 rfl (lit_lt rfl) rfl (lit_lt rfl) go_82 rfl (hn _ _ (Sl.own1 (g:=fun x:ByteArray=>Value.string x) own_ List.prefix_rfl rfl (by decide) (by decide))) ?_
   rintro _ Sx ⟨rfl,h1⟩
   rw [h1];clear h1 Sx
   iterate 5 refine s1_ ?_
   refine su_ [(0,_),(1,_),(2,_),(3,_),(22,_)] ?_
   refine cF_ ?_
   iterate 13 refine s1_ ?_
   refine su_ [(0,_),(1,_),(2,_),(3,_),(22,_),(42,_)] ?_
   refine cF_ ?_
   iterate 9 refine s1_ ?_
   refine ⟨_,S,⟨_,_,rfl,rfl,rfl⟩,less_,?_⟩
   exact ⟨rfl,rfl⟩
  ·rw [if_pos (.inr (.inr (.inr (.inr (.inr (.inr (.inr (.inr ⟨a9,a10⟩))))))))]
   refine ACall.enter (rs:=[.tmp 2]) 51 [(0,.agg #[.int .u64 (seq:Int),.int .u8 (phase:Int),.int .u64 (count:Int),.int .u64 (prim:Int),.int .u32 (sum:Int),.string frm,.string too])] Tryz.func34 rfl rfl (Nat.le_of_ble_eq_true rfl) rfl ⟨rfl,trivial⟩ ?_
   iterate 2 refine s1_ ?_
   refine k_b7 rfl ?_
   intro b1 f1
   have g1:=f1
   repeat ((with_reducible replace g1:=fresh_set g1);obtain ⟨g1,_⟩:=g1)
   refine nl_ ?_
   iterate 28 refine s1_ ?_
   refine su_ [(0,_),(1,_),(2,_),(3,_)] ?_
   refine cF_ ?_
   iterate 17 refine s1_ ?_
   refine rUn 33 ?_
   refine ARun.buildN (cs:=[_,_]) (lit_lt rfl) ty_sl_149 rfl rfl rfl rfl ?_
   intro b38 f38
   have g38:=f38
   repeat ((with_reducible replace g38:=fresh_set g38);obtain ⟨g38,_⟩:=g38)
   refine ARun.callG 10 false 33 rfl (lit_lt rfl) rfl (lit_lt rfl) go_82 rfl (hn _ _ (Sl.own1 (g:=fun x:ByteArray=>Value.string x) own_ List.prefix_rfl rfl (by decide) (by decide))) ?_
   rintro _ Sx ⟨rfl,h1⟩
   rw [h1];clear h1 Sx
   iterate 5 refine s1_ ?_
   refine su_ [(0,_),(1,_),(2,_),(3,_),(22,_)] ?_
   refine cF_ ?_
   iterate 13 refine s1_ ?_
   refine su_ [(0,_),(1,_),(2,_),(3,_),(22,_),(42,_)] ?_
   refine cT_ ?_
   iterate 8 refine s1_ ?_
   refine ⟨_,S,⟨_,_,rfl,rfl,rfl⟩,less_,?_⟩
   exact ⟨rfl,rfl⟩
 ·rw [if_neg (by simp only [not_or,Bool.not_eq_false];exact ⟨a1,a2,a3,a4,a5,a6,a7.1,a7.2,fun h=>a9 h.1⟩)]
  refine ACall.enter (rs:=[.tmp 2]) 51 [(0,.agg #[.int .u64 (seq:Int),.int .u8 (phase:Int),.int .u64 (count:Int),.int .u64 (prim:Int),.int .u32 (sum:Int),.string frm,.string too])] Tryz.func34 rfl rfl (Nat.le_of_ble_eq_true rfl) rfl ⟨rfl,trivial⟩ ?_
  iterate 2 refine s1_ ?_
  refine k_b7 rfl ?_
  intro b1 f1
  have g1:=f1
  repeat ((with_reducible replace g1:=fresh_set g1);obtain ⟨g1,_⟩:=g1)
  refine nl_ ?_
  iterate 28 refine s1_ ?_
  refine su_ [(0,_),(1,_),(2,_),(3,_)] ?_
  refine cF_ ?_
  iterate 17 refine s1_ ?_
  refine rUn 33 ?_
  refine ARun.buildN (cs:=[_,_]) (lit_lt rfl) ty_sl_149 rfl rfl rfl rfl ?_
  intro b38 f38
  have g38:=f38
  repeat ((with_reducible replace g38:=fresh_set g38);obtain ⟨g38,_⟩:=g38)
  refine ARun.callG 10 false 33 rfl (lit_lt rfl) rfl (lit_lt rfl) go_82 rfl (hn _ _ (Sl.own1 (g:=fun x:ByteArray=>Value.string x) own_ List.prefix_rfl rfl (by decide) (by decide))) ?_
  rintro _ Sx ⟨rfl,h1⟩
  rw [h1];clear h1 Sx
  iterate 5 refine s1_ ?_
  refine su_ [(0,_),(1,_),(2,_),(3,_),(22,_)] ?_
  refine cF_ ?_
  iterate 13 refine s1_ ?_
  refine su_ [(0,_),(1,_),(2,_),(3,_),(22,_),(42,_)] ?_
  refine cF_ ?_
  iterate 9 refine s1_ ?_
  refine ⟨_,S,⟨_,_,rfl,rfl,rfl⟩,less_,?_⟩
  exact ⟨rfl,rfl⟩
end Slo
end Go.Proofs.YtceikpipmcadmaaGreatDoor
namespace Go.Proofs.YtceikpipmcadmaaGreatDoor
open Go.RowKit
open Mv
set_option maxRecDepth 4000
namespace Bl
theorem go4 : goFn Tryz.prog 69 = true := by kernel_rfl
theorem go5 : goFn Tryz.prog 70 = true := by kernel_rfl
instance : TGo Tryz.prog 69 := ⟨go4⟩
instance : TGo Tryz.prog 70 := ⟨go5⟩
/-- Another block beside a builder. -/
theorem R.set {S T : Mem} {b q : Nat} {l : List UInt8} {X : Blk} (h : R S b l T) (hf : Fresh S b) (hq : Fresh T q) : R (S.set q X) b l (T.set q X) ∧ Fresh (S.set q X) b ∧ Fresh S q ∧ q ≠ b := by
 obtain ⟨p,o,hp,ho,hne,rfl⟩:=h
 obtain ⟨h1,hqb⟩:=fresh_set hq
 cases o with
 | none =>
  refine ⟨⟨p,none,hp,ho.set (fun _ _ e=>by cases e),fun _ _ e=>(by cases e),?_⟩,fresh_more hf (Ne.symm hqb),h1,hqb⟩
  unfold M
  exact Mem.set_comm _ _ _ (Ne.symm hqb)
 | some w =>
  obtain ⟨g,c⟩:=w
  obtain ⟨h2,hqg⟩:=fresh_set h1
  refine ⟨⟨p,some (g,c),hp,ho.set (fun g' c' e=>by cases e;exact hqg),fun g' c' e=>(by cases e;exact hne g c rfl),?_⟩,fresh_more hf (Ne.symm hqb),h2,hqb⟩
  unfold M
  show ((S.set g _).set b _).set q X=((S.set q X).set g _).set b _
  rw [Mem.set_comm _ _ _ (Ne.symm hqb),Mem.set_comm S _ _ (Ne.symm hqg)]
/-- .. and let go. -/
theorem R.unset {S T : Mem} {b q : Nat} {l : List UInt8} {X : Blk} (h : R (S.set q X) b l T) (hq : Fresh S q) (hqb : q ≠ b) : ∃ T0, R S b l T0 ∧ T0.Less T := by
 obtain ⟨p,o,hp,ho,hne,rfl⟩:=h
 refine ⟨M S b p o l,⟨p,o,hp,ho.unset,hne,rfl⟩,?_⟩
 cases o with
 | none =>
  unfold M
  show (S.set b _).Less ((S.set q X).set b _)
  rw [Mem.set_comm _ _ _ hqb]
  exact Mem.less_set _ _ _ ((Mem.own_set_other _ _ hqb).trans hq.1)
 | some w =>
  obtain ⟨g,c⟩:=w
  have hgq:g≠q:=(fresh_set (ho.own g c rfl).1).2
  unfold M
  show ((S.set g _).set b _).Less (((S.set q X).set g _).set b _)
  rw [Mem.set_comm S _ _ (Ne.symm hgq),Mem.set_comm _ _ _ hqb]
  exact Mem.less_set _ _ _ ((Mem.own_set_other _ _ hqb).trans ((Mem.own_set_other _ _ (Ne.symm hgq)).trans hq.1))
theorem mem_eq4 {S : Mem} {b b' q : Nat} {X X' Y W : Blk} (hne : b ≠ b') (hq : q ≠ b) (hq' : b' ≠ q) : (((S.set b X).set q W).set b' Y).set b X' = ((S.set b' Y).set b X').set q W := by
 unfold Mem.set;congr 1;funext k;by_cases h1:k=b <;> by_cases h2:k=b' <;> by_cases h3:k=q <;> simp_all
theorem mem_eq5 {S : Mem} {b b' g q : Nat} {X X' Y Z W : Blk} (hf : S.own g = none) (hg : g ≠ b) (hne : b ≠ b') (hq : q ≠ b) (hqg : q ≠ g) (hq' : b' ≠ q) : (((((S.set g Z).set b X).set q W).del g).set b' Y).set b X' = ((S.set b' Y).set b X').set q W := by
 unfold Mem.set Mem.del;congr 1;funext k;by_cases h1:k=b <;> by_cases h2:k=b' <;> by_cases h3:k=g <;> by_cases h4:k=q <;> simp_all
theorem Write (S : Mem) (b : Nat) (l : List UInt8) (T : Mem) (q k c2 : Nat) (e : TypeId) (xs : List UInt8) (rq : Nat) (hf : Fresh S b) (h : R S b l T) (hq : S.own q = some ⟨e, cellsB xs, rq⟩) (hk : xs.length = k) (hx : 0 < k) (hsz : l.length + k ≤ 140737488355328) :
  ACall Tryz.prog 69 #[self b,.slice (some ⟨q,0,none⟩) k c2] T fun r S'=>r = .tuple #[.int .i64 k,.nilIface]∧R S b (l ++ xs) S':=by
 have hT:=h.less hf
 obtain ⟨p,o,hp,ho,hne,rfl⟩:=h
 have hcc:=copyCheck (M S b p o l) b p _ hp (Mem.own_set_same _ _ _)
 have hmm:(M S b p o l).set b (blk (self b) (outV o l.length))=M S b (self b) o l:=Mem.set_set _ _ _ _
 rw [hmm] at hcc
 have hby:(M S b (self b) o l).own b=some (blk (self b) (outV o l.length)):=Mem.own_set_same _ _ _
 have hqb:q≠b:=hf.ne hq
 have hql:(M S b (self b) o l).own q=some ⟨e,cellsB xs,rq⟩:=by
  cases o with
  | none=>exact (Mem.own_set_other _ _ hqb).trans hq
  | some w=>exact (Mem.own_set_other _ _ hqb).trans ((Mem.own_set_other _ _ ((ho.own w.1 w.2 rfl).1.ne hq)).trans hq)
 have hrd:(M S b (self b) o l).rds ⟨q,0,none⟩ (cellsB xs):=rds_own hql
 have hlx:(cellsB xs).length=k:=by rw [cellsB_length];exact hk
 cases o with
 | none =>
  have hl0:l = []:=List.eq_nil_of_length_eq_zero (ho.nil rfl)
  subst hl0
  refine ACall.enter (rs:=[.tmp 4,.tmp 5]) 19 [(0,self b),(1,.slice (some ⟨q,0,none⟩) k c2)] Tryz.func69 rfl rfl (Nat.le_of_ble_eq_true rfl) rfl ⟨rfl,rfl,trivial⟩ ?_
  iterate 9 refine s1_ ?_
  refine ca_ rfl (hcc) ?_
  rintro _ S1 ⟨rfl,h1⟩
  rw [h1];clear h1 S1
  iterate 2 refine s1_ ?_
  refine su_ [(0,_),(1,_),(4,_),(5,_)] ?_
  iterate 6 refine s1_ ?_
  refine rC ((ldB ty_plain_61 hby rfl)) ?_
  refine s1_ ?_
  refine ARun.appendNil1 (lit_lt rfl) ty_sl_61 rfl rfl hrd hlx hx (by simp only [List.length_nil] at hsz;omega) (by simp only [List.length_nil] at hsz;omega) ?_
  intro b14 c14 f14 hc14
  have g14:Fresh S b14:=(fresh_set f14).1
  have hbb:b≠b14:=(fresh_set f14).2.symm
  iterate 2 refine s1_ ?_
  refine ARun.store1 rfl rfl ty_size_61 rfl ((Mem.own_set_other _ _ hbb).trans hby) (by show 1<2;decide) rfl ?_
  try simp only [k_ms,k_sz,k_ss,k_za,Nat.reduceAdd]
  iterate 2 refine s1_ ?_
  refine su_ [(0,_),(1,_),(4,_),(5,_)] ?_
  iterate 8 refine s1_ ?_
  refine su_ [(0,_),(1,_),(4,_),(5,_)] ?_
  refine s1_ ?_
  refine ⟨_,M S b (self b) (some (b14,c14)) xs,⟨_,_,rfl,⟨_,_,rfl,rfl,rfl⟩,rfl⟩,(by unfold M;rw [mem_eq1 hbb,← hk];exact Mem.Less.refl _),?_⟩
  exact ⟨rfl,self b,some (b14,c14),.inr rfl,⟨fun h=>(by cases h),fun g c e=>(by cases e;exact ⟨g14,by simp only [List.nil_append];omega⟩)⟩,fun g c e=>(by cases e;exact ⟨hbb.symm,fun e=>by simp only [List.nil_append] at e;rw [e] at hk;simp at hk;omega⟩),rfl⟩
 | some w =>
  obtain ⟨g,c⟩:=w
  have hgb:=(hne g c rfl).1
  have hg:=(ho.own g c rfl)
  have hog:(M S b (self b) (some (g,c)) l).own g=some ⟨5,cellsB l,c*1⟩:=by rw [Nat.mul_one];exact (Mem.own_set_other _ _ hgb).trans (Mem.own_set_same _ _ _)
  refine ACall.enter (rs:=[.tmp 4,.tmp 5]) 19 [(0,self b),(1,.slice (some ⟨q,0,none⟩) k c2)] Tryz.func69 rfl rfl (Nat.le_of_ble_eq_true rfl) rfl ⟨rfl,rfl,trivial⟩ ?_
  iterate 9 refine s1_ ?_
  refine ca_ rfl (hcc) ?_
  rintro _ S1 ⟨rfl,h1⟩
  rw [h1];clear h1 S1
  iterate 2 refine s1_ ?_
  refine su_ [(0,_),(1,_),(4,_),(5,_)] ?_
  iterate 6 refine s1_ ?_
  refine rC ((ldB ty_plain_61 hby rfl)) ?_
  refine s1_ ?_
  refine ARun.appendRun (lit_lt rfl) ty_sl_61 rfl rfl hog (by rw [cellsB_length,Nat.mul_one]) rfl hrd (by rw [hlx,Nat.mul_one]) (fun v hv=>(by unfold cellsB at hv;obtain ⟨x,_,rfl⟩:=List.mem_map.1 hv;rfl)) (by omega) (by omega) ?_
  intro b14 c14 f14 hc14
  rw [Nat.mul_one]
  have hby2:((M S b (self b) (some (g,c)) l).del g).own b=some (blk (self b) (outV (some (g,c)) l.length)):=(Mem.own_del_other _ hgb.symm).trans hby
  have hbb:b≠b14:=fun e=>by rw [← e] at f14;have:=f14.1;rw [hby2] at this;cases this
  have hd14:S.own b14=none:=by
   by_cases e:b14=g
   ·rw [e];exact hg.1.1
   ·have:=f14.1
    rw [Mem.own_del_other _ e] at this
    unfold M at this
    rw [Mem.own_set_other _ _ hbb.symm] at this
    exact (Mem.own_set_other S _ e).symm.trans this
  have g14:Fresh S b14:=⟨hd14,f14.2⟩
  iterate 2 refine s1_ ?_
  refine ARun.store1 rfl rfl ty_size_61 rfl ((Mem.own_set_other _ _ hbb).trans hby2) (by show 1<2;decide) rfl ?_
  try simp only [k_ms,k_sz,k_ss,k_za,Nat.reduceAdd]
  iterate 2 refine s1_ ?_
  refine su_ [(0,_),(1,_),(4,_),(5,_)] ?_
  iterate 8 refine s1_ ?_
  refine su_ [(0,_),(1,_),(4,_),(5,_)] ?_
  refine s1_ ?_
  refine ⟨_,M S b (self b) (some (b14,c14)) (l ++ xs),⟨_,_,rfl,⟨_,_,rfl,rfl,rfl⟩,rfl⟩,(by unfold M;show Mem.Less _ (((((S.set g _).set b _).del g).set b14 _).set b _);rw [mem_eq2 hg.1.1 hgb,← hk,show cellsB (l ++ xs)=cellsB l ++ cellsB xs from List.map_append ..,show (l ++ xs).length=l.length+xs.length from List.length_append];exact Mem.Less.refl _),?_⟩
  exact ⟨rfl,self b,some (b14,c14),.inr rfl,⟨fun h=>(by cases h),fun g c e=>(by cases e;exact ⟨g14,by rw [List.length_append,hk];exact hc14⟩)⟩,fun g' c' e=>(by cases e;exact ⟨hbb.symm,fun e=>(hne g c rfl).2 (List.append_eq_nil_iff.1 e).1⟩),rfl⟩
theorem WriteByte (S : Mem) (b : Nat) (l : List UInt8) (T : Mem) (x : UInt8) (hf : Fresh S b) (h : R S b l T) (hsz : l.length + 1 ≤ 140737488355328) :
  ACall Tryz.prog 70 #[self b,.int .u8 (nb x)] T fun r S'=>r = .nilIface∧R S b (l ++ [x]) S':=by
 obtain ⟨p,o,hp,ho,hne,rfl⟩:=h
 have hcc:=copyCheck (M S b p o l) b p _ hp (Mem.own_set_same _ _ _)
 have hmm:(M S b p o l).set b (blk (self b) (outV o l.length))=M S b (self b) o l:=Mem.set_set _ _ _ _
 rw [hmm] at hcc
 have hby:(M S b (self b) o l).own b=some (blk (self b) (outV o l.length)):=Mem.own_set_same _ _ _
 cases o with
 | none =>
  have hl0:l = []:=List.eq_nil_of_length_eq_zero (ho.nil rfl)
  subst hl0
  refine ACall.enter (rs:=[.tmp 4]) 17 [(0,self b),(1,.int .u8 (nb x))] Tryz.func70 rfl rfl (Nat.le_of_ble_eq_true rfl) rfl ⟨rfl,rfl,trivial⟩ ?_
  iterate 8 refine s1_ ?_
  refine ca_ rfl (hcc) ?_
  rintro _ S1 ⟨rfl,h1⟩
  rw [h1];clear h1 S1
  iterate 2 refine s1_ ?_
  refine su_ [(0,_),(1,_),(4,_)] ?_
  iterate 6 refine s1_ ?_
  refine rC ((ldB ty_plain_61 hby rfl)) ?_
  refine s1_ ?_
  refine ARun.build1s (lit_lt rfl) ty_sl_61 rfl rfl ?_
  intro b13 f13
  have g13:=f13
  repeat ((with_reducible replace g13:=fresh_set g13);obtain ⟨g13,_⟩:=g13)
  refine ARun.appendNil1 (lit_lt rfl) ty_sl_61 rfl rfl (rds_own (Mem.own_set_same _ _ _)) rfl (by decide) (by omega) (by omega) ?_
  intro b14 c14 f14 hc14
  obtain ⟨f14',n14⟩:=fresh_set f14
  have g14:Fresh S b14:=(fresh_set f14').1
  have hbb:b≠b14:=(fresh_set f14').2.symm
  have n13:b13≠b:=(fresh_set f13).2
  iterate 2 refine s1_ ?_
  refine ARun.store1 rfl rfl ty_size_61 rfl ((Mem.own_set_other _ _ hbb).trans ((Mem.own_set_other _ _ n13.symm).trans hby)) (by show 1<2;decide) rfl ?_
  try simp only [k_ms,k_sz,k_ss,k_za,Nat.reduceAdd]
  iterate 2 refine s1_ ?_
  refine su_ [(0,_),(1,_),(4,_)] ?_
  iterate 6 refine s1_ ?_
  refine ⟨_,M S b (self b) (some (b14,c14)) [x],⟨_,_,rfl,rfl,rfl⟩,(by unfold M;show Mem.Less _ ((((S.set b _).set b13 _).set b14 _).set b _);rw [mem_eq4 hbb n13 n14];exact Mem.less_set _ _ _ ((Mem.own_set_other _ _ n13).trans ((Mem.own_set_other _ _ (Ne.symm n14)).trans (fresh_set f13).1.1))),?_⟩
  exact ⟨rfl,self b,some (b14,c14),.inr rfl,⟨fun h=>(by cases h),fun g c e=>(by cases e;exact ⟨g14,hc14⟩)⟩,fun g c e=>(by cases e;exact ⟨hbb.symm,by simp⟩),rfl⟩
 | some w =>
  obtain ⟨g,c⟩:=w
  have hgb:=(hne g c rfl).1
  have hg:=(ho.own g c rfl)
  have hog:(M S b (self b) (some (g,c)) l).own g=some ⟨5,cellsB l,c*1⟩:=by rw [Nat.mul_one];exact (Mem.own_set_other _ _ hgb).trans (Mem.own_set_same _ _ _)
  refine ACall.enter (rs:=[.tmp 4]) 17 [(0,self b),(1,.int .u8 (nb x))] Tryz.func70 rfl rfl (Nat.le_of_ble_eq_true rfl) rfl ⟨rfl,rfl,trivial⟩ ?_
  iterate 8 refine s1_ ?_
  refine ca_ rfl (hcc) ?_
  rintro _ S1 ⟨rfl,h1⟩
  rw [h1];clear h1 S1
  iterate 2 refine s1_ ?_
  refine su_ [(0,_),(1,_),(4,_)] ?_
  iterate 6 refine s1_ ?_
  refine rC ((ldB ty_plain_61 hby rfl)) ?_
  refine s1_ ?_
  refine ARun.build1s (lit_lt rfl) ty_sl_61 rfl rfl ?_
  intro b13 f13
  have g13:=f13
  repeat ((with_reducible replace g13:=fresh_set g13);obtain ⟨g13,_⟩:=g13)
  refine ARun.appendRun (lit_lt rfl) ty_sl_61 rfl rfl ((Mem.own_set_other _ _ (f13.ne hog)).trans hog) (by rw [cellsB_length,Nat.mul_one]) rfl (rds_own (Mem.own_set_same _ _ _)) rfl (fun v hv=>(by simp only [List.mem_cons,List.not_mem_nil,or_false] at hv;subst hv;rfl)) (by omega) (by omega) ?_
  intro b14 c14 f14 hc14
  rw [Nat.mul_one]
  have n13b:b13≠b:=(fresh_set f13).2
  have n13g:b13≠g:=(fresh_set (fresh_set f13).1).2
  have g13:S.own b13=none:=(fresh_set (fresh_set f13).1).1.1
  have hby2:(((M S b (self b) (some (g,c)) l).set b13 ⟨5,[.int .u8 (nb x)],1⟩).del g).own b=some (blk (self b) (outV (some (g,c)) l.length)):=(Mem.own_del_other _ hgb.symm).trans ((Mem.own_set_other _ _ n13b.symm).trans hby)
  have h13:(((M S b (self b) (some (g,c)) l).set b13 ⟨5,[.int .u8 (nb x)],1⟩).del g).own b13=some ⟨5,[.int .u8 (nb x)],1⟩:=(Mem.own_del_other _ n13g).trans (Mem.own_set_same _ _ _)
  have hbb:b≠b14:=fun e=>by rw [← e] at f14;have:=f14.1;rw [hby2] at this;cases this
  have n14:b14≠b13:=fun e=>by rw [e] at f14;have:=f14.1;rw [h13] at this;cases this
  have hd14:S.own b14=none:=by
   by_cases e:b14=g
   ·rw [e];exact hg.1.1
   ·have:=f14.1
    rw [Mem.own_del_other _ e,Mem.own_set_other _ _ n14] at this
    unfold M at this
    rw [Mem.own_set_other _ _ hbb.symm] at this
    exact (Mem.own_set_other S _ e).symm.trans this
  have g14:Fresh S b14:=⟨hd14,f14.2⟩
  iterate 2 refine s1_ ?_
  refine ARun.store1 rfl rfl ty_size_61 rfl ((Mem.own_set_other _ _ hbb).trans hby2) (by show 1<2;decide) rfl ?_
  try simp only [k_ms,k_sz,k_ss,k_za,Nat.reduceAdd]
  iterate 2 refine s1_ ?_
  refine su_ [(0,_),(1,_),(4,_)] ?_
  iterate 6 refine s1_ ?_
  refine ⟨_,M S b (self b) (some (b14,c14)) (l ++ [x]),⟨_,_,rfl,rfl,rfl⟩,(by unfold M;show Mem.Less _ ((((((S.set g _).set b _).set b13 _).del g).set b14 _).set b _);rw [mem_eq5 hg.1.1 hgb hbb n13b n13g n14,show cellsB (l ++ [x])=cellsB l ++ cellsB [x] from List.map_append ..,show (l ++ [x]).length=l.length+1 from List.length_append];exact Mem.less_set _ _ _ ((Mem.own_set_other _ _ n13b).trans ((Mem.own_set_other _ _ (Ne.symm n14)).trans g13))),?_⟩
  exact ⟨rfl,self b,some (b14,c14),.inr rfl,⟨fun h=>(by cases h),fun g c e=>(by cases e;exact ⟨g14,by rw [List.length_append];exact hc14⟩)⟩,fun g' c' e=>(by cases e;exact ⟨hbb.symm,fun e=>(hne g c rfl).2 (List.append_eq_nil_iff.1 e).1⟩),rfl⟩
end Bl
end Go.Proofs.YtceikpipmcadmaaGreatDoor
namespace Go.Proofs.YtceikpipmcadmaaGreatDoor
open Go.RowKit
open Mv Disk Num
set_option maxRecDepth 4000
namespace Slo
theorem slo_padded (s : ByteArray) (n : Nat) (S : Mem) (h : s.size ≤ n) (hn : n ≤ 1048576) :
  ACall Tryz.prog 72 #[.string s,.int .i64 (n:Int)] S fun r S'=>r = .string (s ++ bs (List.replicate (n-s.size) 0))∧S'=S:=by
 have hr:∀ S,ACall Tryz.prog 118 #[.string ⟨#[0]⟩,.int .i64 ((n:Int)-(s.size:Int))] S fun r S'=>r = .string (bs (List.replicate (n-s.size) 0))∧S'=S:=fun S=>ACall.of_calls fun w=>by
  have:=Tryz.strings_Repeat ⟨#[0]⟩ (n-s.size) w (by omega) (by show 1*_≤_;omega)
  rw [show (⟨#[0]⟩ : ByteArray).data.toList = [0] from rfl,repeat_zero] at this
  rw [show ((n:Int)-(s.size:Int))=((n-s.size:Nat):Int) from by omega]
  exact this
 have hz:(bs (List.replicate (n-s.size) (0:UInt8))).size=n-s.size:=by rw [size_bs];simp
 refine ACall.enter (rs:=[.tmp 4]) 12 [(0,.string s),(1,.int .i64 (n:Int))] Tryz.func72 rfl rfl (Nat.le_of_ble_eq_true rfl) rfl ⟨rfl,rfl,trivial⟩ ?_
 iterate 12 refine s1_ ?_
 refine ca_ rfl (hr _) ?_
 rintro _ S1 ⟨rfl,h1⟩
 rw [h1];clear h1 S1
 iterate 4 refine s1_ ?_
 refine su_ [(0,_),(1,_),(4,_)] ?_
 refine s1_ ?_
 refine ⟨_,S,⟨_,_,rfl,rfl,rfl⟩,less_,?_⟩
 exact ⟨rfl,rfl⟩
theorem slo_put (n : Nat) (S : Mem) (b : Nat) (l : List UInt8) (T : Mem) (hn : n < 18446744073709551616) (hf : Fresh S b) (h : Bl.R S b l T) (hl : l.length ≤ 1048576) :
  ACall Tryz.prog 67 #[.int .u64 (n:Int),Bl.self b] T fun r S'=>r = .tuple #[]∧Bl.R S b (l ++ five n) S':=by
 have h5:=numV_Five n T hn
 obtain ⟨x0,x1,x2,x3,x4,e⟩ : ∃ x0 x1 x2 x3 x4,five n = [x0,x1,x2,x3,x4]:=⟨_,_,_,_,_,rfl⟩
 rw [e] at h5 ⊢
 unfold cellsB at h5
 simp only [List.map_cons,List.map_nil] at h5
 refine ACall.enter (rs:=[]) 8 [(0,.int .u64 (n:Int)),(1,Bl.self b)] Tryz.func67 rfl rfl (Nat.le_of_ble_eq_true rfl) rfl ⟨rfl,rfl,trivial⟩ ?_
 iterate 3 refine s1_ ?_
 refine ca_ rfl (h5) ?_
 rintro _ S1 ⟨rfl,h1⟩
 rw [h1];clear h1 S1
 refine ARun.alloc (lit_lt rfl) ty_zero_105 ?_
 intro b3 f3
 have g3:=f3
 repeat ((with_reducible replace g3:=fresh_set g3);obtain ⟨g3,_⟩:=g3)
 refine nl_ ?_
 iterate 3 refine s1_ ?_
 refine su_ [(0,_),(1,_),(3,_)] ?_
 obtain ⟨hR,hF,q1,q2⟩:=h.set hf f3 (X:=⟨105,cellsB [x0,x1,x2,x3,x4],5⟩)
 iterate 2 refine s1_ ?_
 refine ca_ rfl (Bl.Write _ b l _ b3 5 5 _ [x0,x1,x2,x3,x4] 5 hF hR (Mem.own_set_same _ _ _) rfl (by decide) (by omega)) ?_
 rintro _ S2 ⟨rfl,hR2⟩
 obtain ⟨S3,hR3,hS3⟩:=hR2.unset q1 q2
 refine s1_ ?_
 refine ⟨_,S3,rfl,hS3,?_⟩
 exact ⟨rfl,hR3⟩
theorem tail_le4 (n : Nat) (h : n < 4294967296) : Crc.tailS (Crc.v32 (n : Int)) = bs (le4 n) := by
 have hu:Crc.un (Crc.v32 (n:Int))=(n:Int):=Crc.un_v32 (by omega) (by omega)
 unfold Crc.tailS
 rw [hu]
 apply str_ext
 rw [bs_data,strOfNums_data]
 simp only [List.map_cons,List.map_nil,le4,List.cons.injEq,and_true]
 refine ⟨?_,?_,?_,?_⟩ <;> (apply UInt8.toNat_inj.1;simp only [UInt8.toNat_ofNat'];omega)
theorem write_nat (S : Mem) (b : Nat) (l : List UInt8) (T : Mem) (n : Nat) (hn : n < 256) (hf : Fresh S b) (h : Bl.R S b l T) (hsz : l.length + 1 ≤ 140737488355328) :
  ACall Tryz.prog 70 #[Bl.self b,.int .u8 (n:Int)] T fun r S'=>r = .nilIface∧Bl.R S b (l ++ [UInt8.ofNat n]) S':=by
 have:=Bl.WriteByte S b l T (UInt8.ofNat n) hf h hsz
 rwa [show nb (UInt8.ofNat n)=(n:Int) from by unfold nb;rw [UInt8.toNat_ofNat'];omega] at this
theorem slo_Sum (S : Mem) (b : Nat) (e : TypeId) (k : Nat) (s : ByteArray) (hs : s.size ≤ maxLen) (h : S.own b = some ⟨e, [.string s], k⟩) :
  ACall Tryz.prog 73 #[.slice (some ⟨b,0,none⟩) 1 1] S fun r S'=>r = .int .u32 (Crc.un (sumOf s))∧S'=S:=fun w hv =>
 (crc_Sum1 b 0 1 1 s w rfl hs (hv.rd (rd_own' h rfl))).mono fun e w' ⟨he,hw⟩=>⟨_,S,he,⟨rfl,rfl⟩,by rw [← hw];exact Step.refl hv⟩
theorem slo_rSum (S : Mem) (b : Nat) (e : TypeId) (k : Nat) (s : ByteArray) (hs : s.size ≤ maxLen) (h : S.own b = some ⟨e, [.string s], k⟩) :
  ACall Tryz.prog 77 #[.slice (some ⟨b,0,none⟩) 1 1] S fun r S'=>r = .int .u32 (Crc.un (sumOf s))∧S'=S:=fun w hv =>
 (ref_Sum1 b 0 1 1 s w rfl hs (hv.rd (rd_own' h rfl))).mono fun e w' ⟨he,hw⟩=>⟨_,S,he,⟨rfl,rfl⟩,by rw [← hw];exact Step.refl hv⟩
end Slo
end Go.Proofs.YtceikpipmcadmaaGreatDoor
namespace Go.Proofs.YtceikpipmcadmaaGreatDoor
open Go.RowKit
open Mv Disk Num
set_option maxRecDepth 4000
namespace Slo
def encV (p : ByteArray × Int) : Value := .tuple #[.string p.1, .int .i64 p.2]
set_option maxHeartbeats 4000000 in
theorem slo_Encode (m : Mf) (S : Mem) (hm : Fit m) (hf : m.frm.size ≤ 9223372036854775807) (ht : m.too.size ≤ 9223372036854775807) :
  ACall Tryz.prog 29 #[mfV m] S fun r S'=>r=encV (encM m)∧S'=S:=by
 have hc:=fun S=>slo_Check m S hf ht
 unfold encM encV
 by_cases h0:chkM m=0
 ·have hR:=(chk_iff m).1 h0
  have zf:=((nmd_iff _).1 hR.f).2.1
  have zt:=((nmd_iff _).1 hR.t).2.1
  have hpre:=pre_length zf zt
  rw [if_neg (by rw [h0];simp)]
  rw [h0] at hc
  have hT:∀ S,ACall Tryz.prog 71 #[.int .u32 (m.sum:Int)] S fun r S'=>r = .string (bs (le4 m.sum))∧S'=S:=fun S=>ACall.of_calls fun w=>by
   have:=crc_Tail (m.sum:Int) (by omega) (by have:=hm.sum;omega) w
   rwa [tail_le4 _ hm.sum] at this
  have hT2:∀ (x:BitVec 32) S,ACall Tryz.prog 71 #[.int .u32 (Crc.un x)] S fun r S'=>r = .string (Crc.tailS x)∧S'=S:=fun x S=>ACall.of_calls fun w=>crc_Tail' x w
  have hp1:=fun S=>slo_padded m.frm 16 S zf (by decide)
  have hp2:=fun S=>slo_padded m.too 16 S zt (by decide)
  have hp3:=fun S=>slo_padded (bs (preL m) ++ Crc.tailS (sumOf (bs (preL m)))) 64 S (by rw [ByteArray.size_append,Crc.tailS_size,size_bs,hpre];decide) (by decide)
  have e3:(bs (preL m) ++ Crc.tailS (sumOf (bs (preL m)))) ++ bs (List.replicate (64-(bs (preL m) ++ Crc.tailS (sumOf (bs (preL m)))).size) 0)=encS m:=by
   rw [ByteArray.size_append,Crc.tailS_size,size_bs,hpre]
   unfold encS Crc.frameB
   apply str_ext
   rw [data_append,bs_data,bs_data]
  rw [e3] at hp3
  have eL : [] ++ (⟨#[77,70]⟩ : ByteArray).data.toList ++ five m.seq ++ [UInt8.ofNat m.phase] ++ five m.count ++ five m.prim ++ (bs (le4 m.sum)).data.toList ++ (m.frm ++ bs (List.replicate (16-m.frm.size) 0)).data.toList ++ (m.too ++ bs (List.replicate (16-m.too.size) 0)).data.toList=preL m:=by
   unfold preL padL
   rw [data_append,data_append,bs_data,bs_data,bs_data]
   simp only [List.nil_append,List.append_assoc]
  have z1:(bs (le4 m.sum)).size=4:=by rw [size_bs];rfl
  have z2:(m.frm ++ bs (List.replicate (16-m.frm.size) 0)).size=16:=by rw [ByteArray.size_append,size_bs,List.length_replicate];omega
  have z3:(m.too ++ bs (List.replicate (16-m.too.size) 0)).size=16:=by rw [ByteArray.size_append,size_bs,List.length_replicate];omega
  have hs54:(bs (preL m)).size≤maxLen:=by rw [size_bs,hpre];decide
  have hsz:(bs (preL m)).size=54:=by rw [size_bs,hpre]
  have htz:=Crc.tailS_size (sumOf (bs (preL m)))
  unfold mfV
  refine ACall.enter (rs:=[.tmp 2,.tmp 3]) 48 [(0,.agg #[.int .u64 (m.seq:Int),.int .u8 (m.phase:Int),.int .u64 (m.count:Int),.int .u64 (m.prim:Int),.int .u32 (m.sum:Int),.string m.frm,.string m.too])] Tryz.func29 rfl rfl (Nat.le_of_ble_eq_true rfl) rfl ⟨rfl,trivial⟩ ?_
  iterate 2 refine s1_ ?_
  refine k_b7 rfl ?_
  intro b1 f1
  have g1:=f1
  repeat ((with_reducible replace g1:=fresh_set g1);obtain ⟨g1,_⟩:=g1)
  refine nl_ ?_
  iterate 4 refine s1_ ?_
  refine named (S:=S) (b:=b1) g1.1 ?_
  intro T1 hT1 kb1
  iterate 4 refine s1_ ?_
  refine ca_ rfl (hc _) ?_
  rintro _ Sx ⟨rfl,h1⟩
  rw [h1];clear h1 Sx
  iterate 3 refine s1_ ?_
  refine su_ [(0,_),(1,_),(2,_),(3,_),(4,_)] ?_
  iterate 6 refine s1_ ?_
  refine su_ [(0,_),(1,_),(2,_),(3,_),(4,_),(10,_)] ?_
  refine cF_ ?_
  iterate 4 refine s1_ ?_
  refine ARun.alloc (lit_lt rfl) ty_zero_68 ?_
  intro b5 f5
  have g5:=f5
  repeat ((with_reducible replace g5:=fresh_set g5);obtain ⟨g5,_⟩:=g5)
  have:=g5.ne kb1;have:=g5.ne' kb1
  refine nl_ ?_
  iterate 2 refine s1_ ?_
  have hB0:Bl.R T1 b5 [] (T1.set b5 ⟨68,[.pointer none,.slice none 0 0],2⟩):=Bl.R.new T1 b5
  have kb0:=(hB0.less f5).own kb1
  iterate 6 refine s1_ ?_
  refine su_ [(0,_),(1,_),(2,_),(3,_),(4,_),(10,_),(5,_),(6,_)] ?_
  iterate 2 refine s1_ ?_
  refine ca_ rfl (Bl.WriteString T1 b5 _ _ ⟨#[77,70]⟩ f5 hB0 (by decide)) ?_
  rintro _ U1 ⟨rfl,hB1⟩
  have k1:=(hB1.less f5).own kb1
  iterate 2 refine s1_ ?_
  refine su_ [(0,_),(1,_),(2,_),(3,_),(4,_),(10,_),(5,_),(6,_)] ?_
  iterate 5 refine s1_ ?_
  refine ARun.callV (lit_lt rfl) go_67 rfl rfl (slo_put m.seq T1 b5 _ U1 hm.seq f5 hB1 (by decide)) ?_
  rintro _ U2 ⟨rfl,hB2⟩
  have k2:=(hB2.less f5).own kb1
  iterate 2 refine s1_ ?_
  refine su_ [(0,_),(1,_),(2,_),(3,_),(4,_),(10,_),(5,_),(6,_)] ?_
  iterate 4 refine s1_ ?_
  refine ca_ rfl (write_nat T1 b5 _ U2 m.phase hm.phase f5 hB2 (by simp [five_length])) ?_
  rintro _ U3 ⟨rfl,hB3⟩
  have k3:=(hB3.less f5).own kb1
  iterate 2 refine s1_ ?_
  refine su_ [(0,_),(1,_),(2,_),(3,_),(4,_),(10,_),(5,_),(6,_)] ?_
  iterate 5 refine s1_ ?_
  refine ARun.callV (lit_lt rfl) go_67 rfl rfl (slo_put m.count T1 b5 _ U3 hm.count f5 hB3 (by simp [five_length])) ?_
  rintro _ U4 ⟨rfl,hB4⟩
  have k4:=(hB4.less f5).own kb1
  iterate 2 refine s1_ ?_
  refine su_ [(0,_),(1,_),(2,_),(3,_),(4,_),(10,_),(5,_),(6,_)] ?_
  iterate 5 refine s1_ ?_
  refine ARun.callV (lit_lt rfl) go_67 rfl rfl (slo_put m.prim T1 b5 _ U4 hm.prim f5 hB4 (by simp [five_length])) ?_
  rintro _ U5 ⟨rfl,hB5⟩
  have k5:=(hB5.less f5).own kb1
  iterate 2 refine s1_ ?_
  refine su_ [(0,_),(1,_),(2,_),(3,_),(4,_),(10,_),(5,_),(6,_)] ?_
  iterate 4 refine s1_ ?_
  refine ca_ rfl (hT _) ?_
  rintro _ Sx ⟨rfl,h1⟩
  rw [h1];clear h1 Sx
  refine ca_ rfl (Bl.WriteString T1 b5 _ U5 _ f5 hB5 (by simp only [List.length_append,List.length_cons,List.length_nil,St.len_list,five_length,le4_length,z1,z2,z3];omega)) ?_
  rintro _ U6 ⟨rfl,hB6⟩
  have k6:=(hB6.less f5).own kb1
  iterate 2 refine s1_ ?_
  refine su_ [(0,_),(1,_),(2,_),(3,_),(4,_),(10,_),(5,_),(6,_)] ?_
  iterate 4 refine s1_ ?_
  refine ca_ rfl (hp1 _) ?_
  rintro _ Sx ⟨rfl,h1⟩
  rw [h1];clear h1 Sx
  refine ca_ rfl (Bl.WriteString T1 b5 _ U6 _ f5 hB6 (by simp only [List.length_append,List.length_cons,List.length_nil,St.len_list,five_length,le4_length,z1,z2,z3];omega)) ?_
  rintro _ U7 ⟨rfl,hB7⟩
  have k7:=(hB7.less f5).own kb1
  iterate 2 refine s1_ ?_
  refine su_ [(0,_),(1,_),(2,_),(3,_),(4,_),(10,_),(5,_),(6,_)] ?_
  iterate 4 refine s1_ ?_
  refine ca_ rfl (hp2 _) ?_
  rintro _ Sx ⟨rfl,h1⟩
  rw [h1];clear h1 Sx
  refine ca_ rfl (Bl.WriteString T1 b5 _ U7 _ f5 hB7 (by simp only [List.length_append,List.length_cons,List.length_nil,St.len_list,five_length,le4_length,z1,z2,z3];omega)) ?_
  rintro _ U8 ⟨rfl,hB8⟩
  rw [eL] at hB8
  iterate 2 refine s1_ ?_
  refine su_ [(0,_),(1,_),(2,_),(3,_),(4,_),(10,_),(5,_),(6,_)] ?_
  iterate 2 refine s1_ ?_
  refine ca_ rfl (Bl.String T1 b5 _ U8 f5 hB8 (by rw [hpre];decide)) ?_
  rintro _ U9 ⟨rfl,hF9⟩
  refine ca_ rfl (((Bl.StringF T1 b5 _ U9 hF9 (by rw [hpre];decide)).lose (R':=fun r S'=>r = .string (bs (preL m))∧S'=T1) fun v S' ⟨h1,h2⟩=>⟨T1,(by rw [h2];exact hF9.lo f5),h1,rfl⟩)) ?_
  rintro _ Sx ⟨rfl,h1⟩
  rw [h1];clear h1 Sx
  refine ARun.build1s (lit_lt rfl) ty_sl_149 rfl rfl ?_
  intro b43 f43
  have g43:=f43
  repeat ((with_reducible replace g43:=fresh_set g43);obtain ⟨g43,_⟩:=g43)
  refine ca_ rfl (slo_Sum _ b43 _ _ (bs (preL m)) hs54 own_) ?_
  rintro _ Sx ⟨rfl,h1⟩
  rw [h1];clear h1 Sx
  refine ca_ rfl (hT2 _ _) ?_
  rintro _ Sx ⟨rfl,h1⟩
  rw [h1];clear h1 Sx
  refine s1_ ?_
  refine ca_ rfl (hp3 _) ?_
  rintro _ Sx ⟨rfl,h1⟩
  rw [h1];clear h1 Sx
  iterate 4 refine s1_ ?_
  refine su_ [(0,_),(1,_),(2,_),(3,_),(4,_),(10,_),(5,_),(6,_)] ?_
  refine s1_ ?_
  refine ⟨_,S,⟨_,_,rfl,⟨_,_,rfl,rfl,rfl⟩,rfl⟩,hT1.trans less_,?_⟩
  exact ⟨rfl,rfl⟩
 ·have h2:chkM m=2:=(chk_or m).resolve_left h0
  rw [if_pos h0]
  rw [h2] at hc
  unfold mfV
  refine ACall.enter (rs:=[.tmp 2,.tmp 3]) 48 [(0,.agg #[.int .u64 (m.seq:Int),.int .u8 (m.phase:Int),.int .u64 (m.count:Int),.int .u64 (m.prim:Int),.int .u32 (m.sum:Int),.string m.frm,.string m.too])] Tryz.func29 rfl rfl (Nat.le_of_ble_eq_true rfl) rfl ⟨rfl,trivial⟩ ?_
  iterate 2 refine s1_ ?_
  refine k_b7 rfl ?_
  intro b1 f1
  have g1:=f1
  repeat ((with_reducible replace g1:=fresh_set g1);obtain ⟨g1,_⟩:=g1)
  refine nl_ ?_
  iterate 8 refine s1_ ?_
  refine ca_ rfl (hc _) ?_
  rintro _ Sx ⟨rfl,h1⟩
  rw [h1];clear h1 Sx
  iterate 3 refine s1_ ?_
  refine su_ [(0,_),(1,_),(2,_),(3,_),(4,_)] ?_
  iterate 6 refine s1_ ?_
  refine su_ [(0,_),(1,_),(2,_),(3,_),(4,_),(10,_)] ?_
  refine cT_ ?_
  iterate 7 refine s1_ ?_
  refine su_ [(0,_),(1,_),(2,_),(3,_),(4,_),(10,_)] ?_
  iterate 2 refine s1_ ?_
  refine ⟨_,S,⟨_,_,rfl,⟨_,_,rfl,rfl,rfl⟩,rfl⟩,less_,?_⟩
  exact ⟨rfl,rfl⟩
end Slo
end Go.Proofs.YtceikpipmcadmaaGreatDoor
namespace Go.Proofs.YtceikpipmcadmaaGreatDoor
open Go.RowKit
open Mv Disk Num
set_option maxRecDepth 4000
namespace Slo
def rdB (s : ByteArray) : Blk := ⟨158, [.string s], 1⟩
theorem slo_take (s : ByteArray) (n p : Nat) (S : Mem) (hp : S.own p = some (rdB s)) (hn : n ≤ s.size) (hs : s.size ≤ 9223372036854775807) :
  ACall Tryz.prog 125 #[.pointer (some ⟨p,0,none⟩),.int .i64 (n:Int)] S fun r S'=>r = .string (s.extract 0 n)∧S'=S.set p (rdB (s.extract n s.size)):=by
 unfold rdB at *
 refine ACall.enter (rs:=[.tmp 4]) 22 [(0,.pointer (some ⟨p,0,none⟩)),(1,.int .i64 (n:Int))] Tryz.func125 rfl rfl (Nat.le_of_ble_eq_true rfl) rfl ⟨rfl,rfl,trivial⟩ ?_
 iterate 16 refine s1_ ?_
 refine su_ [(0,_),(1,_),(4,_),(5,_)] ?_
 iterate 14 refine s1_ ?_
 refine su_ [(0,_),(1,_),(4,_),(5,_)] ?_
 iterate 6 refine s1_ ?_
 refine su_ [(0,_),(1,_),(4,_),(5,_)] ?_
 refine s1_ ?_
 refine ⟨_,_,⟨_,_,rfl,rfl,rfl⟩,less_,?_⟩
 exact ⟨rfl,rfl⟩
theorem ext0 (s : ByteArray) (n : Nat) : (s.extract 0 n).data.toList = s.data.toList.take n := by rw [Lib.extract_data, List.drop_zero, Nat.sub_zero]
theorem slo_number (s : ByteArray) (p : Nat) (S : Mem) (hp : S.own p = some (rdB s)) (hn : 5 ≤ s.size) (hs : s.size ≤ 9223372036854775807) :
  ACall Tryz.prog 124 #[.pointer (some ⟨p,0,none⟩)] S fun r S'=>r = .int .u64 (ofB (s.data.toList.take 5):Nat)∧S'=S.set p (rdB (s.extract 5 s.size)):=by
 have h0:=slo_take s 5 p S hp hn hs
 have hz:(s.extract 0 5).size=5:=by rw [ByteArray.size_extract];omega
 have h1:=fun S=>numV_Of (s.extract 0 5) S (by omega) (by omega)
 rw [ext0,List.take_take] at h1
 refine ACall.enter (rs:=[.tmp 2]) 6 [(0,.pointer (some ⟨p,0,none⟩))] Tryz.func124 rfl rfl (Nat.le_of_ble_eq_true rfl) rfl ⟨rfl,trivial⟩ ?_
 iterate 8 refine s1_ ?_
 refine ca_ rfl (h0) ?_
 rintro _ S1 ⟨rfl,hS1⟩
 refine ca_ rfl (h1 _) ?_
 rintro _ Sx ⟨rfl,h2⟩
 rw [h2];clear h2 Sx
 iterate 3 refine s1_ ?_
 refine su_ [(0,_),(2,_)] ?_
 refine s1_ ?_
 refine ⟨_,_,⟨_,_,rfl,rfl,rfl⟩,less_,?_⟩
 exact ⟨rfl,hS1⟩
theorem TrimRight0 (s p : ByteArray) (S : Mem) (hs : s.size ≤ 9223372036854775807) (hp : p.data.toList = [0]) :
  ACall Tryz.prog 163 #[.string s,.string p] S fun r S'=>r = .string (bs (St.rtrim 0 s.data.toList))∧S'=S:=by
 have hp1:p.size=1:=by rw [← St.len_list,hp];rfl
 have hpe : ¬ p=⟨#[]⟩:=fun e=>by rw [e] at hp1;exact absurd hp1 (by decide)
 have hat:at8 p.data.toList 0=0:=by rw [hp];rfl
 by_cases h:s=⟨#[]⟩
 ·have e:bs (St.rtrim 0 s.data.toList)=s:=by rw [h];rfl
  rw [e]
  refine ACall.enter (rs:=[.tmp 4]) 37 [(0,.string s),(1,.string p)] Tryz.func163 rfl rfl (Nat.le_of_ble_eq_true rfl) rfl ⟨rfl,rfl,trivial⟩ ?_
  iterate 9 refine s1_ ?_
  refine rC (Calm.bin rfl rfl (bin_bool (bin_str_eql _ _) (decide_eq_true h))) ?_
  iterate 6 refine s1_ ?_
  refine su_ [(0,_),(1,_),(4,_),(12,_)] ?_
  refine cT_ ?_
  iterate 6 refine s1_ ?_
  refine su_ [(0,_),(1,_),(4,_),(12,_)] ?_
  iterate 2 refine s1_ ?_
  refine ⟨_,S,⟨_,_,rfl,rfl,rfl⟩,less_,?_⟩
  exact ⟨rfl,rfl⟩
 ·have ht:ACall Tryz.prog 157 #[.string s,.int .u8 0] S _:=St.trimRight s 0 S hs
  have h0:nb (0:UInt8)=0:=rfl
  refine ACall.enter (rs:=[.tmp 4]) 37 [(0,.string s),(1,.string p)] Tryz.func163 rfl rfl (Nat.le_of_ble_eq_true rfl) rfl ⟨rfl,rfl,trivial⟩ ?_
  iterate 9 refine s1_ ?_
  refine rC (Calm.bin rfl rfl (bin_bool (bin_str_eql _ _) (decide_eq_false h))) ?_
  iterate 2 refine s1_ ?_
  first|refine k_q 9 ?_|refine rG 9 (Calm.bin rfl rfl (bin_bool (bin_str_eql _ _) (decide_eq_false hpe))) ?_
  iterate 3 refine s1_ ?_
  refine su_ [(0,_),(1,_),(4,_),(12,_)] ?_
  refine cF_ ?_
  iterate 10 refine s1_ ?_
  first|refine k_q 17 ?_|refine rG 17 (Calm.as (congrArg (Value.int .u8) h0) (Calm.indexStrC (j:=0) hat.symm Tryz.underlying9 rfl rfl (by omega))) ?_
  iterate 4 refine s1_ ?_
  refine su_ [(0,_),(1,_),(4,_),(12,_),(21,_)] ?_
  refine cT_ ?_
  iterate 4 refine s1_ ?_
  refine rC (Calm.as (congrArg (Value.int .u8) h0) (Calm.indexStrC (j:=0) hat.symm Tryz.underlying9 rfl rfl (by omega))) ?_
  refine ca_ rfl (ht) ?_
  rintro _ Sx ⟨rfl,h2⟩
  rw [h2];clear h2 Sx
  iterate 3 refine s1_ ?_
  refine su_ [(0,_),(1,_),(4,_),(12,_),(21,_)] ?_
  iterate 2 refine s1_ ?_
  refine ⟨_,S,⟨_,_,rfl,rfl,rfl⟩,less_,?_⟩
  exact ⟨rfl,rfl⟩
theorem slo_name (s : ByteArray) (p : Nat) (S : Mem) (hp : S.own p = some (rdB s)) (hn : 16 ≤ s.size) (hs : s.size ≤ 9223372036854775807) :
  ACall Tryz.prog 127 #[.pointer (some ⟨p,0,none⟩)] S fun r S'=>r = .string (bs (St.rtrim 0 (s.data.toList.take 16)))∧S'=S.set p (rdB (s.extract 16 s.size)):=by
 have h0:=slo_take s 16 p S hp hn hs
 have hz:(s.extract 0 16).size=16:=by rw [ByteArray.size_extract];omega
 have h1:=fun S=>TrimRight0 (s.extract 0 16) ⟨#[0]⟩ S (by omega) rfl
 rw [ext0] at h1
 refine ACall.enter (rs:=[.tmp 2]) 6 [(0,.pointer (some ⟨p,0,none⟩))] Tryz.func127 rfl rfl (Nat.le_of_ble_eq_true rfl) rfl ⟨rfl,trivial⟩ ?_
 iterate 8 refine s1_ ?_
 refine ca_ rfl (h0) ?_
 rintro _ S1 ⟨rfl,hS1⟩
 refine ca_ rfl (h1 _) ?_
 rintro _ Sx ⟨rfl,h2⟩
 rw [h2];clear h2 Sx
 iterate 3 refine s1_ ?_
 refine su_ [(0,_),(2,_)] ?_
 refine s1_ ?_
 refine ⟨_,_,⟨_,_,rfl,rfl,rfl⟩,less_,?_⟩
 exact ⟨rfl,hS1⟩
theorem or_nat32 (a b : Nat) (ha : a < 4294967296) (hb : b < 4294967296) : bits .or .u32 (a : Int) (b : Int) = ((a ||| b : Nat) : Int) := by
 have h:a ||| b<2 ^ 32:=Nat.or_lt_two_pow (by omega) (by omega)
 show IntKind.u32.wrap (((BitVec.ofInt 32 (a:Int)) ||| (BitVec.ofInt 32 (b:Int))).toNat:Int)=_
 rw [BitVec.ofInt_natCast,BitVec.ofInt_natCast,BitVec.toNat_or,BitVec.toNat_ofNat,BitVec.toNat_ofNat,Nat.mod_eq_of_lt (by omega),Nat.mod_eq_of_lt (by omega)]
 exact IntWalk.u32_in _ (by omega)
theorem leN_snoc (l : List UInt8) (c : UInt8) : leN (l ++ [c]) = leN l + c.toNat * 2 ^ (8 * l.length) := by
 induction l with
 | nil=>simp [leN]
 | cons x l ih =>
  have:leN (x :: l ++ [c])=x.toNat+256*leN (l ++ [c]):=rfl
  have e:2 ^ (8*(l.length+1))=2 ^ (8*l.length)*256:=by rw [Nat.mul_add,Nat.pow_add]
  rw [this,ih,show leN (x :: l)=x.toNat+256*leN l from rfl,List.length_cons,e]
  generalize 2 ^ (8*l.length)=P
  have e2:c.toNat*(P*256)=256*(c.toNat*P):=by rw [← Nat.mul_assoc,Nat.mul_comm]
  rw [e2];omega
theorem leN_lt' : ∀ l : List UInt8, leN l < 2 ^ (8 * l.length)
 | []=>by simp [leN]
 | x :: l=>by
  have:=leN_lt' l
  have hx:=x.toNat_lt
  rw [show leN (x :: l)=x.toNat+256*leN l from rfl,List.length_cons,Nat.mul_add 8,Nat.pow_add]
  omega
theorem sum_or (l : List UInt8) (c : UInt8) (h : l.length < 4) : bits .or .u32 (leN l : Int) (IntKind.u32.wrap (nb c * 2 ^ (8 * (l.length : Int)).toNat)) = ((leN (l ++ [c]) : Nat) : Int) := by
 have hc:=c.toNat_lt
 have h1:=leN_lt' l
 have h2:=leN_lt' (l ++ [c])
 have e1:(8*(l.length:Int)).toNat=8*l.length:=by omega
 have e2:nb c*2 ^ (8*l.length)=((c.toNat*2 ^ (8*l.length):Nat):Int):=by unfold nb;push_cast;rfl
 rw [List.length_append,List.length_singleton] at h2
 have h4:(2:Nat) ^ (8*(l.length+1))≤2 ^ 32:=Nat.pow_le_pow_right (by decide) (by omega)
 have hs:=leN_snoc l c
 rw [e1,e2,IntWalk.u32_in _ (by omega),or_nat32 _ _ (by omega) (by omega),or_join_nat _ _ _ h1,hs,Nat.add_comm]
set_option maxHeartbeats 1000000 in
theorem slo_sum (s : ByteArray) (p : Nat) (S : Mem) (hp : S.own p = some (rdB s)) (hn : 4 ≤ s.size) (hs : s.size ≤ 9223372036854775807) :
  ACall Tryz.prog 126 #[.pointer (some ⟨p,0,none⟩)] S fun r S'=>r = .int .u32 (leN (s.data.toList.take 4):Nat)∧S'=S.set p (rdB (s.extract 4 s.size)):=by
 have h0:=slo_take s 4 p S hp hn hs
 have hz:(s.extract 0 4).size=4:=by rw [ByteArray.size_extract];omega
 have hl:(s.data.toList.take 4).length=4:=by rw [List.length_take,St.len_list];omega
 have he:(s.extract 0 4).data.toList=s.data.toList.take 4:=ext0 s 4
 obtain ⟨x0,x1,x2,x3,e⟩ : ∃ x0 x1 x2 x3,s.data.toList.take 4 = [x0,x1,x2,x3]:=by
  match s.data.toList.take 4,hl with
  | [a,b,c,d],_=>exact ⟨a,b,c,d,rfl⟩
 rw [e] at he ⊢
 have hb:s.extract 0 4=bs [x0,x1,x2,x3]:=str_ext (by rw [he,bs_data])
 rw [hb] at h0
 have q0:bits .or .u32 0 (IntKind.u32.wrap (nb x0*2 ^ (8*(0:Int)).toNat))=((leN [x0] : Nat):Int):=sum_or [] x0 (by decide)
 have q1:bits .or .u32 ((leN [x0] : Nat):Int) (IntKind.u32.wrap (nb x1*2 ^ (8*(1:Int)).toNat))=((leN [x0,x1] : Nat):Int):=sum_or [x0] x1 (show 1<4 by decide)
 have q2:bits .or .u32 ((leN [x0,x1] : Nat):Int) (IntKind.u32.wrap (nb x2*2 ^ (8*(2:Int)).toNat))=((leN [x0,x1,x2] : Nat):Int):=sum_or [x0,x1] x2 (show 2<4 by decide)
 have q3:bits .or .u32 ((leN [x0,x1,x2] : Nat):Int) (IntKind.u32.wrap (nb x3*2 ^ (8*(3:Int)).toNat))=((leN [x0,x1,x2,x3] : Nat):Int):=sum_or [x0,x1,x2] x3 (show 3<4 by decide)
 refine ACall.enter (rs:=[.tmp 2]) 24 [(0,.pointer (some ⟨p,0,none⟩))] Tryz.func126 rfl rfl (Nat.le_of_ble_eq_true rfl) rfl ⟨rfl,trivial⟩ ?_
 iterate 14 refine s1_ ?_
 refine ca_ rfl (h0) ?_
 rintro _ S1 ⟨rfl,hS1⟩
 rw [hS1];clear hS1 S1
 refine ARun.toBytes (lit_lt rfl) ty_str_9 ty_bytes_61 rfl ?_
 intro b8 c8 f8 hc8
 have g8:=f8
 repeat ((with_reducible replace g8:=fresh_set g8);obtain ⟨g8,_⟩:=g8)
 iterate 4 refine s1_ ?_
 refine su_ [(0,_),(2,_),(3,_),(8,_),(9,_),(10,_)] ?_
 rw [show (bs [x0,x1,x2,x3]).data.toList = [x0,x1,x2,x3] from bs_data _,show (bs [x0,x1,x2,x3]).size=4 from rfl]
 unfold cellsB
 simp only [List.map_cons,List.map_nil]
 refine s1_ ?_
 refine AWP.loop (X:=Nat) (fun i=>[(3,.int .u32 (leN ([x0,x1,x2,x3].take i):Nat)),(8,.slice (some ⟨b8,0,none⟩) 4 c8),(9,.int .i64 (4:Nat)),(10,.int .i64 (i:Int))]) (fun i=>(S.set p (rdB (s.extract 4 s.size))).set b8 ⟨5,[.int .u8 (nb x0),.int .u8 (nb x1),.int .u8 (nb x2),.int .u8 (nb x3)],c8⟩) (fun i=>i≤4) (fun i=>4-i) (0) ⟨rfl,rfl,rfl,rfl,trivial⟩ (Mem.Less.refl _) (Nat.zero_le _) ?_
 rintro i hi
 (try dsimp only at *)
 iterate 6 refine s1_ ?_
 refine AWP.condB rfl (fun hl=>?_) (fun hl=>?_)
 ·have hl:i<4:=by have:=of_decide_eq_true hl;omega
  rcases (show i=0∨i=1∨i=2∨i=3 by omega) with rfl | rfl | rfl | rfl
  ·iterate 13 refine s1_ ?_
   refine su_ [(3,_),(8,_),(9,_),(10,_),(11,_),(4,_),(5,_)] ?_
   iterate 12 refine s1_ ?_
   refine su_ [(3,_),(8,_),(9,_),(10,_),(11,_),(4,_),(5,_)] ?_
   iterate 5 refine s1_ ?_
   refine ⟨1,?_,?_,?_,?_⟩
   all_goals (try dsimp only)
   ·exact ⟨some_int q0,rfl,rfl,rfl,trivial⟩
   ·exact Mem.Less.refl _
   ·decide
   ·decide
  ·iterate 13 refine s1_ ?_
   refine su_ [(3,_),(8,_),(9,_),(10,_),(11,_),(4,_),(5,_)] ?_
   iterate 12 refine s1_ ?_
   refine su_ [(3,_),(8,_),(9,_),(10,_),(11,_),(4,_),(5,_)] ?_
   iterate 5 refine s1_ ?_
   refine ⟨2,?_,?_,?_,?_⟩
   all_goals (try dsimp only)
   ·exact ⟨some_int q1,rfl,rfl,rfl,trivial⟩
   ·exact Mem.Less.refl _
   ·decide
   ·decide
  ·iterate 13 refine s1_ ?_
   refine su_ [(3,_),(8,_),(9,_),(10,_),(11,_),(4,_),(5,_)] ?_
   iterate 12 refine s1_ ?_
   refine su_ [(3,_),(8,_),(9,_),(10,_),(11,_),(4,_),(5,_)] ?_
   iterate 5 refine s1_ ?_
   refine ⟨3,?_,?_,?_,?_⟩
   all_goals (try dsimp only)
   ·exact ⟨some_int q2,rfl,rfl,rfl,trivial⟩
   ·exact Mem.Less.refl _
   ·decide
   ·decide
  ·iterate 13 refine s1_ ?_
   refine su_ [(3,_),(8,_),(9,_),(10,_),(11,_),(4,_),(5,_)] ?_
   iterate 12 refine s1_ ?_
   refine su_ [(3,_),(8,_),(9,_),(10,_),(11,_),(4,_),(5,_)] ?_
   iterate 5 refine s1_ ?_
   refine ⟨4,?_,?_,?_,?_⟩
   all_goals (try dsimp only)
   ·exact ⟨some_int q3,rfl,rfl,rfl,trivial⟩
   ·exact Mem.Less.refl _
   ·decide
   ·decide
 ·have hl:i=4:=by have:=of_decide_eq_false hl;omega
  subst hl
  iterate 11 refine s1_ ?_
  refine su_ [(3,_),(8,_),(9,_),(10,_),(11,_),(2,_)] ?_
  refine s1_ ?_
  refine ⟨_,S.set p (rdB (s.extract 4 s.size)),⟨_,_,rfl,rfl,rfl⟩,less_,?_⟩
  exact ⟨rfl,rfl⟩
end Slo
end Go.Proofs.YtceikpipmcadmaaGreatDoor
namespace Go.Proofs.YtceikpipmcadmaaGreatDoor
open Go.RowKit
open Mv Disk Num
set_option maxRecDepth 4000
namespace Slo
theorem rso_named (s : ByteArray) (S : Mem) (hs : s.size ≤ 9223372036854775807) : ACall Tryz.prog 83 #[.string s] S fun r S' => r = .bool (nmdB s) ∧ S' = S := by
 have hN:=fun S=>rd_Named s S
 have hx:=nmd_iff s
 by_cases h:nm s
 ·obtain ⟨h1,h2⟩:=id h
  rw [decide_eq_true h] at hN
  have e:nmdB s=(at8 s.data.toList (s.size-1) != 0):=by
   rw [Bool.eq_iff_iff,hx,bne_iff_ne]
   exact ⟨fun g=>g.2.2,fun g=>⟨by omega,h2,g⟩⟩
  rw [e]
  by_cases q:at8 s.data.toList (s.size-1)=0
  ·rw [show (at8 s.data.toList (s.size-1) != 0)=false from by rw [q];rfl]
   refine ACall.enter (rs:=[.tmp 2]) 13 [(0,.string s)] Tryz.func83 rfl rfl (Nat.le_of_ble_eq_true rfl) rfl ⟨rfl,trivial⟩ ?_
   iterate 8 refine s1_ ?_
   refine ca_ rfl (hN _) ?_
   rintro _ Sx ⟨rfl,hS⟩
   rw [hS];clear hS Sx
   iterate 5 refine s1_ ?_
   first|refine k_q 5 ?_|refine rG 5 (Calm.as (congrArg (Value.int .u8) (show nb (at8 s.data.toList ((s.size:Int)-1).toNat)=0 from by rw [show ((s.size:Int)-1).toNat=s.size-1 from by omega,q];rfl)) (Calm.indexStr (strT_spec ty_str_9) rfl rfl (by omega) (by omega))) ?_
   iterate 5 refine s1_ ?_
   refine su_ [(0,_),(2,_)] ?_
   refine s1_ ?_
   refine ⟨_,S,⟨_,_,rfl,rfl,rfl⟩,less_,?_⟩
   exact ⟨rfl,rfl⟩
  ·rw [show (at8 s.data.toList (s.size-1) != 0)=true from bne_iff_ne.2 q]
   have hn:nb (at8 s.data.toList ((s.size:Int)-1).toNat)≠0:=by
    rw [show ((s.size:Int)-1).toNat=s.size-1 from by omega]
    exact fun e=>q (St.nb_inj.1 (e.trans rfl))
   refine ACall.enter (rs:=[.tmp 2]) 13 [(0,.string s)] Tryz.func83 rfl rfl (Nat.le_of_ble_eq_true rfl) rfl ⟨rfl,trivial⟩ ?_
   iterate 8 refine s1_ ?_
   refine ca_ rfl (hN _) ?_
   rintro _ Sx ⟨rfl,hS⟩
   rw [hS];clear hS Sx
   iterate 5 refine s1_ ?_
   first|refine k_q 5 ?_|refine rG 5 (Calm.indexStr (strT_spec ty_str_9) rfl rfl (by omega) (by omega)) ?_
   first|refine k_q 5 ?_|refine rG 5 (Calm.bin rfl rfl (bin_bool (bin_neq _ _) (bnot_dec_true hn))) ?_
   iterate 4 refine s1_ ?_
   refine su_ [(0,_),(2,_)] ?_
   refine s1_ ?_
   refine ⟨_,S,⟨_,_,rfl,rfl,rfl⟩,less_,?_⟩
   exact ⟨rfl,rfl⟩
 ·rw [decide_eq_false h] at hN
  have e:nmdB s=false:=by
   rw [← Bool.not_eq_true,hx]
   exact fun g=>h ⟨by omega,g.2.1⟩
  rw [e]
  refine ACall.enter (rs:=[.tmp 2]) 13 [(0,.string s)] Tryz.func83 rfl rfl (Nat.le_of_ble_eq_true rfl) rfl ⟨rfl,trivial⟩ ?_
  iterate 8 refine s1_ ?_
  refine ca_ rfl (hN _) ?_
  rintro _ Sx ⟨rfl,hS⟩
  rw [hS];clear hS Sx
  iterate 11 refine s1_ ?_
  refine su_ [(0,_),(2,_)] ?_
  refine s1_ ?_
  refine ⟨_,S,⟨_,_,rfl,rfl,rfl⟩,less_,?_⟩
  exact ⟨rfl,rfl⟩
theorem zero_cells1 (n : Nat) : madeL [.int .u8 0] ((n : Int).toNat * 1) = cellsB (List.replicate n 0) := by
 rw [madeL_one,show (n:Int).toNat*1=n from by omega]
 simp [cellsB,nb]
theorem rso_zeros (n : Nat) (S : Mem) (hn : n ≤ 1048576) : ACall Tryz.prog 76 #[.int .i64 (n : Int)] S fun r S' => r = .string (bs (List.replicate n 0)) ∧ S' = S := by
 refine ACall.enter (rs:=[.tmp 2]) 6 [(0,.int .i64 (n:Int))] Tryz.func76 rfl rfl (Nat.le_of_ble_eq_true rfl) rfl ⟨rfl,trivial⟩ ?_
 iterate 8 refine s1_ ?_
 refine ARun.makeSlice (lit_lt rfl) ty_sl_61 rfl rfl (by omega) (by omega) (by omega) (by omega) ?_
 intro b4 f4
 have g4:=f4
 repeat ((with_reducible replace g4:=fresh_set g4);obtain ⟨g4,_⟩:=g4)
 refine rC (Calm.toStr ty_bytes_61 ty_str_9 rfl (l:=List.replicate n 0) (by rw [List.length_replicate];omega) (rds_ownE (Mem.own_set_same S b4 _) (zero_cells1 n))) ?_
 iterate 3 refine s1_ ?_
 refine su_ [(0,_),(2,_)] ?_
 refine s1_ ?_
 refine ⟨_,S,⟨_,_,rfl,rfl,rfl⟩,less_,?_⟩
 exact ⟨rfl,rfl⟩
theorem rso_cut (s : ByteArray) (S : Mem) (hs : s.size ≤ 9223372036854775807) :
  ACall Tryz.prog 80 #[.string s] S fun r S'=>r = .string (bs (St.rtrim 0 s.data.toList))∧S'=S:=by
 have hlen:=St.len_list s
 refine ACall.enter (rs:=[.tmp 2]) 19 [(0,.string s)] Tryz.func80 rfl rfl (Nat.le_of_ble_eq_true rfl) rfl ⟨rfl,trivial⟩ ?_
 iterate 7 refine s1_ ?_
 refine AWP.loop (X:=Nat) (fun m=>[(0,.string (bs (s.data.toList.take m)))]) (fun m=>S) (fun m=>m≤s.size ∧ ∀ x ∈ s.data.toList.drop m,x=0) (fun m=>m) (s.size) ⟨by rw [List.take_of_length_le (by omega),bs_of];rfl,trivial⟩ (Mem.Less.refl _) (⟨Nat.le_refl _,by rw [List.drop_of_length_le (by omega)];intro x hx;cases hx⟩) ?_
 rintro m ⟨hm,hd⟩
 (try dsimp only at *)
 have hz:(bs (s.data.toList.take m)).size=m:=by rw [size_bs,List.length_take];omega
 by_cases h0:m=0
 ·have he : ¬ ¬ bs (s.data.toList.take m)=⟨#[]⟩:=fun h=>h (by rw [h0];rfl)
  iterate 4 refine s1_ ?_
  refine rC (Calm.bin rfl rfl (bin_bool (bin_str_neq _ _) (bnot_dec_false (Decidable.not_not.1 he)))) ?_
  iterate 10 refine s1_ ?_
  refine su_ [(0,_),(12,_)] ?_
  refine cF_ ?_
  iterate 11 refine s1_ ?_
  refine su_ [(0,_),(12,_),(2,_)] ?_
  refine s1_ ?_
  refine ⟨_,S,⟨_,_,rfl,rfl,rfl⟩,less_,?_⟩
  exact ⟨by rw [St.rtrim_take 0 _ m (by omega) hd (.inl h0)];rfl,rfl⟩
 ·obtain ⟨k,rfl⟩ : ∃ k,m=k+1:=⟨m-1,by omega⟩
  have hne : ¬ bs (s.data.toList.take (k+1))=⟨#[]⟩:=fun e=>by rw [e] at hz;cases hz
  have hat:at8 (bs (s.data.toList.take (k+1))).data.toList (((bs (s.data.toList.take (k+1))).size:Int)-1).toNat=at8 s.data.toList k:=by rw [hz,bs_data,show (((k+1:Nat):Int)-1).toNat=k from by omega];simp [at8,List.getD_eq_getElem?_getD,List.getElem?_take]
  have hdr:s.data.toList.drop k=at8 s.data.toList k :: s.data.toList.drop (k+1):=by rw [List.drop_eq_getElem_cons (by omega:k<s.data.toList.length)];simp [at8,List.getD_eq_getElem?_getD,List.getElem?_eq_getElem (by omega:k<s.data.toList.length)]
  by_cases hx:at8 s.data.toList k=0
  ·have hn:nb (at8 (bs (s.data.toList.take (k+1))).data.toList (((bs (s.data.toList.take (k+1))).size:Int)-1).toNat)=0:=by rw [hat,hx];rfl
   iterate 4 refine s1_ ?_
   refine rC (Calm.bin rfl rfl (bin_bool (bin_str_neq _ _) (bnot_dec_true hne))) ?_
   iterate 5 refine s1_ ?_
   first|refine k_q 5 ?_|refine rG 5 (Calm.as (congrArg (Value.int .u8) hn) (Calm.indexStr (strT_spec ty_str_9) rfl rfl (by omega) (by omega))) ?_
   iterate 4 refine s1_ ?_
   refine su_ [(0,_),(12,_)] ?_
   refine cT_ ?_
   iterate 13 refine s1_ ?_
   refine ⟨k,?_,?_,?_,?_⟩
   all_goals (try dsimp only)
   ·exact ⟨by rw [show (bs (s.data.toList.take k))=(bs (s.data.toList.take (k+1))).extract 0 (((bs (s.data.toList.take (k+1))).size:Int)-1).toNat from by rw [hz,show (((k+1:Nat):Int)-1).toNat=k from by omega];apply str_ext;rw [ext0,bs_data,bs_data,List.take_take,Nat.min_eq_left (by omega)]];rfl,trivial⟩
   ·exact Mem.Less.refl _
   ·exact ⟨by omega,fun x hxx=>(by rw [hdr] at hxx;rcases List.mem_cons.1 hxx with e | e;exact e.trans hx;exact hd x e)⟩
   ·omega
  ·have hn:nb (at8 (bs (s.data.toList.take (k+1))).data.toList (((bs (s.data.toList.take (k+1))).size:Int)-1).toNat)≠0:=by rw [hat];exact fun e=>hx (St.nb_inj.1 (e.trans rfl))
   iterate 4 refine s1_ ?_
   refine rC (Calm.bin rfl rfl (bin_bool (bin_str_neq _ _) (bnot_dec_true hne))) ?_
   iterate 5 refine s1_ ?_
   first|refine k_q 5 ?_|refine rG 5 (Calm.indexStr (strT_spec ty_str_9) rfl rfl (by omega) (by omega)) ?_
   first|refine k_q 5 ?_|refine rG 5 (Calm.bin rfl rfl (bin_bool (bin_eql _ _) (decide_eq_false hn))) ?_
   iterate 3 refine s1_ ?_
   refine su_ [(0,_),(12,_)] ?_
   refine cF_ ?_
   iterate 11 refine s1_ ?_
   refine su_ [(0,_),(12,_),(2,_)] ?_
   refine s1_ ?_
   refine ⟨_,S,⟨_,_,rfl,rfl,rfl⟩,less_,?_⟩
   exact ⟨by rw [St.rtrim_take 0 _ (k+1) (by omega) hd (.inr hx)];rfl,rfl⟩
theorem rso_little (n : Nat) (S : Mem) (hn : n < 4294967296) : ACall Tryz.prog 75 #[.int .u32 (n : Int)] S fun r S' => r = .string (bs (le4 n)) ∧ S' = S := by
 have e0:=u8_nat n
 have e1:=byte_quo n 256
 have e2:=byte_quo n 65536
 have e3:=byte_quo n 16777216
 refine ACall.enter (rs:=[.tmp 2]) 16 [(0,.int .u32 (n:Int))] Tryz.func75 rfl rfl (Nat.le_of_ble_eq_true rfl) rfl ⟨rfl,trivial⟩ ?_
 iterate 8 refine s1_ ?_
 refine rC (Calm.conv rfl (conv_intW Tryz.underlying53 Tryz.underlying5 e0)) ?_
 iterate 2 refine s1_ ?_
 refine rC (Calm.conv rfl (conv_intW Tryz.underlying53 Tryz.underlying5 e1)) ?_
 iterate 2 refine s1_ ?_
 refine rC (Calm.conv rfl (conv_intW Tryz.underlying53 Tryz.underlying5 e2)) ?_
 iterate 2 refine s1_ ?_
 refine rC (Calm.conv rfl (conv_intW Tryz.underlying53 Tryz.underlying5 e3)) ?_
 refine ARun.buildN (cs:=[_,_,_,_]) (lit_lt rfl) ty_sl_61 rfl rfl rfl rfl ?_
 intro b14 f14
 have g14:=f14
 repeat ((with_reducible replace g14:=fresh_set g14);obtain ⟨g14,_⟩:=g14)
 refine rC (Calm.toStr ty_bytes_61 ty_str_9 rfl (l:=le4 n) (le4_length n) (rds_ownE (Mem.own_set_same S b14 _) rfl)) ?_
 iterate 3 refine s1_ ?_
 refine su_ [(0,_),(2,_)] ?_
 refine s1_ ?_
 refine ⟨_,S,⟨_,_,rfl,rfl,rfl⟩,less_,?_⟩
 exact ⟨rfl,rfl⟩
end Slo
end Go.Proofs.YtceikpipmcadmaaGreatDoor
namespace Go.Proofs.YtceikpipmcadmaaGreatDoor
open Go.RowKit
open Mv Disk Num
set_option maxRecDepth 4000
namespace Slo
set_option maxHeartbeats 1000000 in
theorem rso_Check (m : Mf) (S : Mem) (hf : m.frm.size ≤ 9223372036854775807) (ht : m.too.size ≤ 9223372036854775807) :
  ACall Tryz.prog 35 #[mfV m] S fun r S'=>r = .int .i64 (chkM m)∧S'=S:=by
 obtain ⟨seq,phase,count,prim,sum,frm,too⟩:=m
 unfold chkM mfV
 simp only at hf ht ⊢
 have n1:=fun S=>rso_named frm S hf
 have n2:=fun S=>rso_named too S ht
 by_cases a1:seq<1
 ·rw [if_pos (.inl a1)]
  refine ACall.enter (rs:=[.tmp 2]) 53 [(0,.agg #[.int .u64 (seq:Int),.int .u8 (phase:Int),.int .u64 (count:Int),.int .u64 (prim:Int),.int .u32 (sum:Int),.string frm,.string too])] Tryz.func35 rfl rfl (Nat.le_of_ble_eq_true rfl) rfl ⟨rfl,trivial⟩ ?_
  iterate 2 refine s1_ ?_
  refine k_b7 rfl ?_
  intro b1 f1
  have g1:=f1
  repeat ((with_reducible replace g1:=fresh_set g1);obtain ⟨g1,_⟩:=g1)
  refine nl_ ?_
  iterate 50 refine s1_ ?_
  refine su_ [(0,_),(1,_),(2,_),(44,_)] ?_
  refine cT_ ?_
  iterate 7 refine s1_ ?_
  refine ⟨_,S,⟨_,_,rfl,rfl,rfl⟩,less_,?_⟩
  exact ⟨rfl,rfl⟩
 by_cases a2:4294967296<seq
 ·rw [if_pos (.inr (.inl a2))]
  refine ACall.enter (rs:=[.tmp 2]) 53 [(0,.agg #[.int .u64 (seq:Int),.int .u8 (phase:Int),.int .u64 (count:Int),.int .u64 (prim:Int),.int .u32 (sum:Int),.string frm,.string too])] Tryz.func35 rfl rfl (Nat.le_of_ble_eq_true rfl) rfl ⟨rfl,trivial⟩ ?_
  iterate 2 refine s1_ ?_
  refine k_b7 rfl ?_
  intro b1 f1
  have g1:=f1
  repeat ((with_reducible replace g1:=fresh_set g1);obtain ⟨g1,_⟩:=g1)
  refine nl_ ?_
  iterate 50 refine s1_ ?_
  refine su_ [(0,_),(1,_),(2,_),(44,_)] ?_
  refine cT_ ?_
  iterate 7 refine s1_ ?_
  refine ⟨_,S,⟨_,_,rfl,rfl,rfl⟩,less_,?_⟩
  exact ⟨rfl,rfl⟩
 by_cases a3:phase=0
 ·rw [if_pos (.inr (.inr (.inl a3)))]
  refine ACall.enter (rs:=[.tmp 2]) 53 [(0,.agg #[.int .u64 (seq:Int),.int .u8 (phase:Int),.int .u64 (count:Int),.int .u64 (prim:Int),.int .u32 (sum:Int),.string frm,.string too])] Tryz.func35 rfl rfl (Nat.le_of_ble_eq_true rfl) rfl ⟨rfl,trivial⟩ ?_
  iterate 2 refine s1_ ?_
  refine k_b7 rfl ?_
  intro b1 f1
  have g1:=f1
  repeat ((with_reducible replace g1:=fresh_set g1);obtain ⟨g1,_⟩:=g1)
  refine nl_ ?_
  iterate 50 refine s1_ ?_
  refine su_ [(0,_),(1,_),(2,_),(44,_)] ?_
  refine cT_ ?_
  iterate 7 refine s1_ ?_
  refine ⟨_,S,⟨_,_,rfl,rfl,rfl⟩,less_,?_⟩
  exact ⟨rfl,rfl⟩
 by_cases a4:6≤phase
 ·rw [if_pos (.inr (.inr (.inr (.inl a4))))]
  refine ACall.enter (rs:=[.tmp 2]) 53 [(0,.agg #[.int .u64 (seq:Int),.int .u8 (phase:Int),.int .u64 (count:Int),.int .u64 (prim:Int),.int .u32 (sum:Int),.string frm,.string too])] Tryz.func35 rfl rfl (Nat.le_of_ble_eq_true rfl) rfl ⟨rfl,trivial⟩ ?_
  iterate 2 refine s1_ ?_
  refine k_b7 rfl ?_
  intro b1 f1
  have g1:=f1
  repeat ((with_reducible replace g1:=fresh_set g1);obtain ⟨g1,_⟩:=g1)
  refine nl_ ?_
  iterate 50 refine s1_ ?_
  refine su_ [(0,_),(1,_),(2,_),(44,_)] ?_
  refine cT_ ?_
  iterate 7 refine s1_ ?_
  refine ⟨_,S,⟨_,_,rfl,rfl,rfl⟩,less_,?_⟩
  exact ⟨rfl,rfl⟩
 by_cases a5:65536<count
 ·rw [if_pos (.inr (.inr (.inr (.inr (.inl a5)))))]
  refine ACall.enter (rs:=[.tmp 2]) 53 [(0,.agg #[.int .u64 (seq:Int),.int .u8 (phase:Int),.int .u64 (count:Int),.int .u64 (prim:Int),.int .u32 (sum:Int),.string frm,.string too])] Tryz.func35 rfl rfl (Nat.le_of_ble_eq_true rfl) rfl ⟨rfl,trivial⟩ ?_
  iterate 2 refine s1_ ?_
  refine k_b7 rfl ?_
  intro b1 f1
  have g1:=f1
  repeat ((with_reducible replace g1:=fresh_set g1);obtain ⟨g1,_⟩:=g1)
  refine nl_ ?_
  iterate 50 refine s1_ ?_
  refine su_ [(0,_),(1,_),(2,_),(44,_)] ?_
  refine cT_ ?_
  iterate 7 refine s1_ ?_
  refine ⟨_,S,⟨_,_,rfl,rfl,rfl⟩,less_,?_⟩
  exact ⟨rfl,rfl⟩
 by_cases a6:count<prim
 ·rw [if_pos (.inr (.inr (.inr (.inr (.inr (.inl a6))))))]
  refine ACall.enter (rs:=[.tmp 2]) 53 [(0,.agg #[.int .u64 (seq:Int),.int .u8 (phase:Int),.int .u64 (count:Int),.int .u64 (prim:Int),.int .u32 (sum:Int),.string frm,.string too])] Tryz.func35 rfl rfl (Nat.le_of_ble_eq_true rfl) rfl ⟨rfl,trivial⟩ ?_
  iterate 2 refine s1_ ?_
  refine k_b7 rfl ?_
  intro b1 f1
  have g1:=f1
  repeat ((with_reducible replace g1:=fresh_set g1);obtain ⟨g1,_⟩:=g1)
  refine nl_ ?_
  iterate 50 refine s1_ ?_
  refine su_ [(0,_),(1,_),(2,_),(44,_)] ?_
  refine cT_ ?_
  iterate 7 refine s1_ ?_
  refine ⟨_,S,⟨_,_,rfl,rfl,rfl⟩,less_,?_⟩
  exact ⟨rfl,rfl⟩
 by_cases a7:nmdB frm=false
 ·rw [if_pos (.inr (.inr (.inr (.inr (.inr (.inr (.inl a7)))))))]
  rw [a7] at n1
  refine ACall.enter (rs:=[.tmp 2]) 53 [(0,.agg #[.int .u64 (seq:Int),.int .u8 (phase:Int),.int .u64 (count:Int),.int .u64 (prim:Int),.int .u32 (sum:Int),.string frm,.string too])] Tryz.func35 rfl rfl (Nat.le_of_ble_eq_true rfl) rfl ⟨rfl,trivial⟩ ?_
  iterate 2 refine s1_ ?_
  refine k_b7 rfl ?_
  intro b1 f1
  have g1:=f1
  repeat ((with_reducible replace g1:=fresh_set g1);obtain ⟨g1,_⟩:=g1)
  refine nl_ ?_
  iterate 39 refine s1_ ?_
  refine ARun.callG 30 false 33 rfl (lit_lt rfl) rfl (lit_lt rfl) go_83 rfl (n1 _) ?_
  rintro _ Sx ⟨rfl,hS⟩
  rw [hS];clear hS Sx
  iterate 10 refine s1_ ?_
  refine su_ [(0,_),(1,_),(2,_),(44,_)] ?_
  refine cT_ ?_
  iterate 7 refine s1_ ?_
  refine ⟨_,S,⟨_,_,rfl,rfl,rfl⟩,less_,?_⟩
  exact ⟨rfl,rfl⟩
 rw [Bool.not_eq_false] at a7
 rw [a7] at n1
 by_cases a8:nmdB too=false
 ·rw [if_pos (.inr (.inr (.inr (.inr (.inr (.inr (.inr (.inl a8))))))))]
  rw [a8] at n2
  refine ACall.enter (rs:=[.tmp 2]) 53 [(0,.agg #[.int .u64 (seq:Int),.int .u8 (phase:Int),.int .u64 (count:Int),.int .u64 (prim:Int),.int .u32 (sum:Int),.string frm,.string too])] Tryz.func35 rfl rfl (Nat.le_of_ble_eq_true rfl) rfl ⟨rfl,trivial⟩ ?_
  iterate 2 refine s1_ ?_
  refine k_b7 rfl ?_
  intro b1 f1
  have g1:=f1
  repeat ((with_reducible replace g1:=fresh_set g1);obtain ⟨g1,_⟩:=g1)
  refine nl_ ?_
  iterate 39 refine s1_ ?_
  refine ARun.callG 30 false 33 rfl (lit_lt rfl) rfl (lit_lt rfl) go_83 rfl (n1 _) ?_
  rintro _ Sx ⟨rfl,hS⟩
  rw [hS];clear hS Sx
  iterate 5 refine s1_ ?_
  refine ARun.callG 36 false 39 rfl (lit_lt rfl) rfl (lit_lt rfl) go_83 rfl (n2 _) ?_
  rintro _ Sx ⟨rfl,hS⟩
  rw [hS];clear hS Sx
  iterate 4 refine s1_ ?_
  refine su_ [(0,_),(1,_),(2,_),(44,_)] ?_
  refine cT_ ?_
  iterate 7 refine s1_ ?_
  refine ⟨_,S,⟨_,_,rfl,rfl,rfl⟩,less_,?_⟩
  exact ⟨rfl,rfl⟩
 rw [Bool.not_eq_false] at a8
 rw [a8] at n2
 by_cases a9:phase<4
 ·by_cases a10:prim=0
  ·rw [if_neg (by simp only [not_or,Bool.not_eq_false];exact ⟨a1,a2,a3,a4,a5,a6,a7,a8,fun h=>h.2 a10⟩)]
   refine ACall.enter (rs:=[.tmp 2]) 53 [(0,.agg #[.int .u64 (seq:Int),.int .u8 (phase:Int),.int .u64 (count:Int),.int .u64 (prim:Int),.int .u32 (sum:Int),.string frm,.string too])] Tryz.func35 rfl rfl (Nat.le_of_ble_eq_true rfl) rfl ⟨rfl,trivial⟩ ?_
   iterate 2 refine s1_ ?_
   refine k_b7 rfl ?_
   intro b1 f1
   have g1:=f1
   repeat ((with_reducible replace g1:=fresh_set g1);obtain ⟨g1,_⟩:=g1)
   refine nl_ ?_
   iterate 39 refine s1_ ?_
   refine ARun.callG 30 false 33 rfl (lit_lt rfl) rfl (lit_lt rfl) go_83 rfl (n1 _) ?_
   rintro _ Sx ⟨rfl,hS⟩
   rw [hS];clear hS Sx
   iterate 5 refine s1_ ?_
   refine ARun.callG 36 false 39 rfl (lit_lt rfl) rfl (lit_lt rfl) go_83 rfl (n2 _) ?_
   rintro _ Sx ⟨rfl,hS⟩
   rw [hS];clear hS Sx
   iterate 4 refine s1_ ?_
   refine su_ [(0,_),(1,_),(2,_),(44,_)] ?_
   refine cF_ ?_
   iterate 15 refine s1_ ?_
   refine su_ [(0,_),(1,_),(2,_),(44,_),(52,_)] ?_
   refine cF_ ?_
   iterate 8 refine s1_ ?_
   refine ⟨_,S,⟨_,_,rfl,rfl,rfl⟩,less_,?_⟩
   exact ⟨rfl,rfl⟩
  ·rw [if_pos (.inr (.inr (.inr (.inr (.inr (.inr (.inr (.inr ⟨a9,a10⟩))))))))]
   refine ACall.enter (rs:=[.tmp 2]) 53 [(0,.agg #[.int .u64 (seq:Int),.int .u8 (phase:Int),.int .u64 (count:Int),.int .u64 (prim:Int),.int .u32 (sum:Int),.string frm,.string too])] Tryz.func35 rfl rfl (Nat.le_of_ble_eq_true rfl) rfl ⟨rfl,trivial⟩ ?_
   iterate 2 refine s1_ ?_
   refine k_b7 rfl ?_
   intro b1 f1
   have g1:=f1
   repeat ((with_reducible replace g1:=fresh_set g1);obtain ⟨g1,_⟩:=g1)
   refine nl_ ?_
   iterate 39 refine s1_ ?_
   refine ARun.callG 30 false 33 rfl (lit_lt rfl) rfl (lit_lt rfl) go_83 rfl (n1 _) ?_
   rintro _ Sx ⟨rfl,hS⟩
   rw [hS];clear hS Sx
   iterate 5 refine s1_ ?_
   refine ARun.callG 36 false 39 rfl (lit_lt rfl) rfl (lit_lt rfl) go_83 rfl (n2 _) ?_
   rintro _ Sx ⟨rfl,hS⟩
   rw [hS];clear hS Sx
   iterate 4 refine s1_ ?_
   refine su_ [(0,_),(1,_),(2,_),(44,_)] ?_
   refine cF_ ?_
   iterate 15 refine s1_ ?_
   refine su_ [(0,_),(1,_),(2,_),(44,_),(52,_)] ?_
   refine cT_ ?_
   iterate 7 refine s1_ ?_
   refine ⟨_,S,⟨_,_,rfl,rfl,rfl⟩,less_,?_⟩
   exact ⟨rfl,rfl⟩
 ·rw [if_neg (by simp only [not_or,Bool.not_eq_false];exact ⟨a1,a2,a3,a4,a5,a6,a7,a8,fun h=>a9 h.1⟩)]
  refine ACall.enter (rs:=[.tmp 2]) 53 [(0,.agg #[.int .u64 (seq:Int),.int .u8 (phase:Int),.int .u64 (count:Int),.int .u64 (prim:Int),.int .u32 (sum:Int),.string frm,.string too])] Tryz.func35 rfl rfl (Nat.le_of_ble_eq_true rfl) rfl ⟨rfl,trivial⟩ ?_
  iterate 2 refine s1_ ?_
  refine k_b7 rfl ?_
  intro b1 f1
  have g1:=f1
  repeat ((with_reducible replace g1:=fresh_set g1);obtain ⟨g1,_⟩:=g1)
  refine nl_ ?_
  iterate 39 refine s1_ ?_
  refine ARun.callG 30 false 33 rfl (lit_lt rfl) rfl (lit_lt rfl) go_83 rfl (n1 _) ?_
  rintro _ Sx ⟨rfl,hS⟩
  rw [hS];clear hS Sx
  iterate 5 refine s1_ ?_
  refine ARun.callG 36 false 39 rfl (lit_lt rfl) rfl (lit_lt rfl) go_83 rfl (n2 _) ?_
  rintro _ Sx ⟨rfl,hS⟩
  rw [hS];clear hS Sx
  iterate 4 refine s1_ ?_
  refine su_ [(0,_),(1,_),(2,_),(44,_)] ?_
  refine cF_ ?_
  iterate 15 refine s1_ ?_
  refine su_ [(0,_),(1,_),(2,_),(44,_),(52,_)] ?_
  refine cF_ ?_
  iterate 8 refine s1_ ?_
  refine ⟨_,S,⟨_,_,rfl,rfl,rfl⟩,less_,?_⟩
  exact ⟨rfl,rfl⟩
end Slo
end Go.Proofs.YtceikpipmcadmaaGreatDoor
