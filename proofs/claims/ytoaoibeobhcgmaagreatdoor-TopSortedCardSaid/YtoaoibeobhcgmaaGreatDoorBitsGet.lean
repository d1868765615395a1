/-
  The walks of get and At: a number out of bits.
-/
import Derived.Test.YtoaoibeobhcgmaaGreatDoorBitsWrite
namespace Go.Proofs.YtoaoibeobhcgmaaGreatDoor
open Go.RowKit
open Bits
set_option maxRecDepth 8000
set_option linter.unusedVariables false
namespace Bits
theorem get_part (c:UInt8) (n e k:Nat) (hk:k≤8) (hn:n*2 ^ k+2 ^ k≤18446744073709551616) :
    bits .or .u64 (IntKind.u64.wrap ((n:Int)*2 ^ k)) (bits .and .u64 (IntKind.u64.wrap (nb c) / 2 ^ e) (IntKind.u64.wrap (IntKind.u64.wrap (2 ^ k)-1)))=((n*2 ^ k+c.toNat / 2 ^ e % 2 ^ k:Nat):Int):=by
  have hc:=c.toNat_lt
  have hd:c.toNat / 2 ^ e≤c.toNat:=Nat.div_le_self _ _
  have hm:=Nat.mod_lt (c.toNat / 2 ^ e) (Nat.two_pow_pos k)
  have e1:IntKind.u64.wrap (nb c) / 2 ^ e=((c.toNat / 2 ^ e:Nat):Int):=by
    rw [IntWalk.u64_in _ ⟨nb_nonneg c,by have:=nb_le c;omega⟩,nb_byte];simp
  have e2:((n:Int)*2 ^ k)=((n*2 ^ k:Nat):Int):=by simp
  have e3:((2:Int) ^ k)=((2 ^ k:Nat):Int):=by simp
  rw [e1,and_low _ k hk (by omega),e2,IntWalk.u64_in _ (by omega)]
  rw [bits_join .u64 64 (by decide) (fun n h0 h1=>by rw [IntKind.wrap_u64];omega) k _ _ (by omega) (by rw [← e2];exact Int.mul_emod_left _ _) (by omega) (by omega) (by rw [e3];omega) (by omega)]
  omega
theorem slc_more (B:List UInt8) (p m k:Nat) (h:(p+m) % 8+k≤8) :
    num (slc B p (m+k))=num (slc B p m)*2 ^ k+(at8 B ((p+m) / 8)).toNat / 2 ^ (8-(p+m) % 8-k) % 2 ^ k:=by
  rw [slc_add,num_append,slc_length,num_slc_byte B (p+m) k h]
theorem num_slc_fits (B:List UInt8) (p m k:Nat) (h:m+k≤64):num (slc B p m)*2 ^ k+2 ^ k≤18446744073709551616:=by
  have h1:=num_lt (slc B p m)
  rw [slc_length] at h1
  have h2:(num (slc B p m)+1)*2 ^ k≤2 ^ m*2 ^ k:=Nat.mul_le_mul_right _ h1
  rw [← Nat.pow_add,Nat.add_mul,Nat.one_mul] at h2
  have h3:2 ^ (m+k)≤2 ^ 64:=Nat.pow_le_pow_right (by decide) h
  omega
end Bits
set_option maxHeartbeats 1000000 in
theorem bits_get (s:ByteArray) (hs:s.size≤200000) (N:Int) (p r:Nat) (w:World) (h:p+r≤8*s.size) (hr:r≤64) :
    Calls Tryz.prog 70 #[.agg #[.string s,.int .i64 N],.int .i64 p,.int .i64 r] w fun e w'=>e = .returned (.int .u64 (num (slc s.data.toList p r):Nat))∧Below w.heap.size w w':=by
  go_enter Tryz.func70,Tryz.ntmps70
  go_wp2_with fail
  go_loopw [1,2,7] (fun v1 v2 v7 wr=>∃ (q t n:Nat),q+t=p+r∧p≤q∧v1 = .int .i64 q∧v2 = .int .i64 t∧v7 = .int .u64 n∧Hid (n=num (slc s.data.toList p (q-p)))∧wr.cell? ⟨w.heap.size,0,none⟩=some (.string s)∧Below w.heap.size w wr) (fun _ v2 _ _=>(intOf v2).toNat)
  case atStart=>exact ⟨p,r,0,rfl,by omega,rfl,rfl,rfl,Lib.hid (by rw [Nat.sub_self];rfl),by simp [go_sem],by (repeat' (first | exact Below.refl _ _ | assumption | refine below_alloc' ?_ _ | refine Below.drew ?_ | refine below_drewN ?_ _ | refine below_then ?_ ‹_›))⟩
  case round =>
    obtain ⟨q,t,n,h1,h2,rfl,rfl,rfl,HN,hc,hb⟩:=hrel
    have H1:=Lib.hid h1
    obtain ⟨wo,rfl⟩ : ∃ wo:World,wo=wr:=⟨_,rfl⟩
    have i8:(q:Int)≤2000000:=by omega
    have i9:(t:Int)≤64:=by omega
    by_cases ht0:t=0
    · subst ht0
      have hq:q=p+r:=by omega
      have HQ:=Lib.hid hq
      clear h1 hq
      go_wp2_with fail
      go_ret
      refine ⟨ret_int ?_,hb⟩
      rw [HN.out,HQ.out,Nat.add_sub_cancel_left]
    · have i1:(0:Int)≤q:=by omega
      have i2:(q:Int) / 8<s.size:=by omega
      have i2':q / 8<s.size:=by omega
      have i3:(1:Int)≤t:=by omega
      have i5:(0:Int)≤(q:Int) / 8:=by omega
      have i6:((q:Int) / 8).toNat=q / 8:=by omega
      have i7:IntKind.i64.wrap ((q:Int).tdiv 8)=(q:Int) / 8:=IntWalk.i64_quo _ _ (by omega)
      have gb:=at8_str s (q / 8) (by omega)
      have hqm:(p+(q-p))=q:=by omega
      have HQM:=Lib.hid hqm
      by_cases hle:t+q % 8≤8
      · have i4:(t:Int)+q % 8≤8:=by omega
        have hp:=get_part (at8 s.data.toList (q / 8)) n (8-q % 8-t) t (by omega) (by rw [HN.out];exact num_slc_fits _ _ _ _ (by omega))
        have hv:n*2 ^ t+(at8 s.data.toList (q / 8)).toNat / 2 ^ (8-q % 8-t) % 2 ^ t=num (slc s.data.toList p (q+t-p)):=by
          have h9:=slc_more s.data.toList p (q-p) t (by rw [hqm];omega)
          rw [hqm] at h9
          rw [show q+t-p=q-p+t from by omega,h9,HN.out]
        have HP:=Lib.hid hp
        have HV:=Lib.hid hv
        clear hp hv h1 hqm
        go_wp2_with fail
        go_quiet (fail)
        clear gb
        go_wp2_with fail
        go_roundw
        case rel =>
          refine ⟨q+t,0,_,by have:=H1.out;omega,by omega,rfl,rfl,val_int HP.out,Lib.hid HV.out,by simpa using hc,below_drewN hb _⟩
        case measure=>first | (simp [intOf];done) | (simp [intOf];omega)
      · have i4:(8:Int)-q % 8<t:=by omega
        have hp:=get_part (at8 s.data.toList (q / 8)) n 0 (8-q % 8) (by omega) (by rw [HN.out];exact num_slc_fits _ _ _ _ (by omega))
        rw [Int.pow_zero,Int.ediv_one] at hp
        have hv:n*2 ^ (8-q % 8)+(at8 s.data.toList (q / 8)).toNat / 2 ^ 0 % 2 ^ (8-q % 8)=num (slc s.data.toList p (q+(8-q % 8)-p)):=by
          have h9:=slc_more s.data.toList p (q-p) (8-q % 8) (by rw [hqm];omega)
          rw [hqm,Nat.sub_self] at h9
          rw [show q+(8-q % 8)-p=q-p+(8-q % 8) from by omega,h9,HN.out]
        have HP:=Lib.hid hp
        have HV:=Lib.hid hv
        clear hp hv h1 hqm
        go_wp2_with fail
        go_quiet (fail)
        clear gb
        go_wp2_with fail
        go_roundw
        case rel =>
          refine ⟨q+(8-q % 8),t-(8-q % 8),_,by have:=H1.out;omega,by omega,val_int (by omega),val_int (by omega),val_int HP.out,Lib.hid HV.out,by simpa using hc,below_drewN hb _⟩
        case measure=>first | (simp [intOf];done) | (simp [intOf];omega)

theorem bits_getI (s:ByteArray) (hs:s.size≤200000) (N p r:Int) (w:World) (hp:0≤p) (h0:0≤r) (h:p+r≤8*s.size) (hr:r≤64) :
    Calls Tryz.prog 70 #[.agg #[.string s,.int .i64 N],.int .i64 p,.int .i64 r] w fun e w'=>e = .returned (.int .u64 (num (slc s.data.toList p.toNat r.toNat):Nat))∧Below w.heap.size w w':=by
  have:=bits_get s hs N p.toNat r.toNat w (by omega) (by omega)
  rwa [Int.toNat_of_nonneg hp,Int.toNat_of_nonneg h0] at this
set_option maxHeartbeats 400000 in
theorem bits_At (s:ByteArray) (hs:s.size≤200000) (N p r:Int) (w:World) (hp:0≤p) (h0:0≤r) (h:p+r≤8*s.size) (hr:r≤64) :
    Calls Tryz.prog 32 #[.agg #[.string s,.int .i64 N],.int .i64 p,.int .i64 r] w fun e w'=>e = .returned (.int .u64 (num (slc s.data.toList p.toNat r.toNat):Nat))∧Below w.heap.size w w':=by
  go_enter Tryz.func32,Tryz.ntmps32
  go_wp2_with (go_at_call 70;(with_reducible refine (bits_getI s hs N p r _ hp h0 h hr).mono ?_);rintro e w1 ⟨rfl,hb1⟩)
  go_ret
  exact ⟨rfl,by (repeat' (first | exact Below.refl _ _ | assumption | refine below_alloc' ?_ _ | refine Below.drew ?_ | refine below_drewN ?_ _ | refine below_then ?_ ‹_›))⟩
set_option maxHeartbeats 400000 in
theorem bits_Len (b:Nat) (L:List Bool) (outv:Value) (w:World) (hlen:L.length≤2000000) (hw:Wr w b outv L) :
    Calls Tryz.prog 71 #[.pointer (some ⟨b,0,none⟩)] w fun e w'=>e = .returned (.int .i64 (L.length:Nat)) ∧ ∃ n,w'=w.drewN n:=by
  obtain ⟨xs,cap,hv⟩ : ∃ (a:Option Addr) (cap:Nat),outv = .slice a (L.length / 8) cap:=by
    rcases hw.own.2 with ⟨h1,h2⟩ | ⟨g,cap,cur,h1,_⟩
    · exact ⟨none,0,by rw [h1,h2]⟩
    · exact ⟨_,cap,h1⟩
  have c0:=hw.c0
  have c2:=hw.c2
  rw [hv] at c0
  have e1:(L.length:Nat)=L.length / 8*8+L.length % 8:=by omega
  have E1:=Lib.hid e1
  have b1:L.length / 8≤2000000:=by omega
  have b2:L.length % 8≤7:=by omega
  clear hw e1 hlen hv
  generalize L.length / 8=k at *
  generalize L.length % 8=m at *
  have b1':(k:Int)≤2000000:=by omega
  have b2':(m:Int)≤7:=by omega
  go_enter Tryz.func71,Tryz.ntmps71
  go_wp2_with fail
  go_quiet (fail)
  go_wp2_with fail
  go_ret
  refine ⟨?_,_,rfl⟩
  rw [E1.out]
  exact ret_int (by omega)
end Go.Proofs.YtoaoibeobhcgmaaGreatDoor
