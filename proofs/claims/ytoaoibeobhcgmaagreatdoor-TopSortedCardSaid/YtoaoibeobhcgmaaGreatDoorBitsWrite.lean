/-
  Bits that are gathered: what a Writer holds;its walks.
-/
import Derived.Test.YtoaoibeobhcgmaaGreatDoorBitsMath
import Derived.BigRegion
import Derived.Deep.AppendLies
import Derived.Deep.RegionLaw
namespace Go.Proofs.YtoaoibeobhcgmaaGreatDoor
open Go.RowKit
set_option maxRecDepth 8000
set_option linter.unusedVariables false
namespace Bits
def whole (L:List Bool):List Bool:=L.take (8*(L.length / 8))
def rest (L:List Bool):List Bool:=L.drop (8*(L.length / 8))
def bytesV (L:List Bool):List Value:=(pack (whole L)).map fun c=>.int .u8 (nb c)
theorem whole_rest (L:List Bool):whole L ++ rest L=L:=List.take_append_drop _ _
theorem whole_length (L:List Bool):(whole L).length=8*(L.length / 8):=by simp [whole];omega
theorem rest_length (L:List Bool):(rest L).length=L.length % 8:=by simp [rest];omega
theorem bytesV_length (L:List Bool):(bytesV L).length=L.length / 8:=by simp [bytesV,pack_length,whole_length];omega
theorem rest_few (L c:List Bool) (h:L.length % 8+c.length<8):whole (L ++ c)=whole L∧rest (L ++ c)=rest L ++ c:=by
  have e:(L ++ c).length / 8=L.length / 8:=by rw [List.length_append];omega
  unfold whole rest
  rw [e]
  constructor
  · rw [List.take_append_of_le_length (by omega)]
  · rw [List.drop_append_of_le_length (by omega)]
theorem rest_eight (L c:List Bool) (h:L.length % 8+c.length=8):whole (L ++ c)=whole L ++ (rest L ++ c)∧rest (L ++ c) = []:=by
  have e:8*((L ++ c).length / 8)=(L ++ c).length:=by rw [List.length_append];omega
  unfold whole
  rw [e,List.take_length]
  constructor
  · rw [← List.append_assoc];congr 1;exact (whole_rest L).symm
  · unfold rest;rw [e,List.drop_length]
theorem pack_eight (l c:List Bool) (hl:l.length % 8=0) (hc:c.length=8):pack (l ++ c)=pack l ++ [UInt8.ofNat (num c)]:=by
  unfold pack
  have e:((l ++ c).length+7) / 8=(l.length+7) / 8+1:=by rw [List.length_append];omega
  rw [e,List.range_succ,List.map_append]
  congr 1
  · apply List.map_congr_left
    intro k hk
    simp only [List.mem_range] at hk
    unfold packAt chunk
    rw [List.drop_append_of_le_length (by omega),List.take_append_of_le_length (by rw [List.length_drop];omega)]
  · simp only [List.map_cons,List.map_nil]
    unfold packAt chunk pad8
    have:8*((l.length+7) / 8)=l.length:=by omega
    rw [this,List.drop_left,List.take_of_length_le (by omega),hc]
    simp
theorem bytesV_few (L c:List Bool) (h:L.length % 8+c.length<8):bytesV (L ++ c)=bytesV L:=by unfold bytesV;rw [(rest_few L c h).1]
theorem bytesV_eight (L c:List Bool) (h:L.length % 8+c.length=8):bytesV (L ++ c)=bytesV L ++ [.int .u8 (num (rest L ++ c):Nat)]:=by
  unfold bytesV
  have hl:(rest L ++ c).length=8:=by rw [List.length_append,rest_length];exact h
  rw [(rest_eight L c h).1,pack_eight _ _ (by rw [whole_length];omega) hl,List.map_append]
  congr 1
  simp only [List.map_cons,List.map_nil]
  have:=num_lt (rest L ++ c)
  rw [hl] at this
  rw [nb_byte,UInt8.toNat_ofNat',Nat.mod_eq_of_lt this]
theorem num_rest_lt (L:List Bool):num (rest L)<256:=by
  have h:=num_lt (rest L)
  have:2 ^ (rest L).length≤2 ^ 8:=Nat.pow_le_pow_right (by decide) (by rw [rest_length];omega)
  omega
structure Wr (w:World) (b:Nat) (outv:Value) (L:List Bool):Prop where
  c0:w.cell? ⟨b,0,none⟩=some outv
  c1:w.cell? ⟨b,1,none⟩=some (.int .u64 (num (rest L):Nat))
  c2:w.cell? ⟨b,2,none⟩=some (.int .i64 (L.length % 8:Nat))
  f0:w.frozen? ⟨b,0,none⟩=false
  f1:w.frozen? ⟨b,1,none⟩=false
  f2:w.frozen? ⟨b,2,none⟩=false
  own:w.ownsRow (b+1) 5 1 outv (L.length / 8) (bytesV L)
theorem Wr.lt {w:World} {b:Nat} {outv:Value} {L:List Bool} (h:Wr w b outv L):b<w.heap.size:=World.block_lt_of_cell? _ _ h.c0
/-! ### The walk's numbers -/
theorem pow_small {k:Nat} (h:k≤8):(1:Int)≤2 ^ k∧(2:Int) ^ k≤256:=by
  have h1:2 ^ k≤2 ^ 8:=Nat.pow_le_pow_right (by decide) h
  have h2:0<2 ^ k:=Nat.two_pow_pos k
  have e:((2:Int) ^ k)=((2 ^ k:Nat):Int):=by simp
  rw [e];omega
theorem and_low (x:Nat) (k:Nat) (hk:k≤8) (hx:x≤18446744073709551615) :
    bits .and .u64 (x:Int) (IntKind.u64.wrap (IntKind.u64.wrap (2 ^ k)-1))=((x % 2 ^ k:Nat):Int):=by
  have hp:=pow_small hk
  rw [IntWalk.u64_in (2 ^ k) (by omega),IntWalk.u64_in _ (by omega)]
  rw [bits_mask .u64 64 (by decide) (fun n h0 h1=>by rw [IntKind.wrap_u64];omega) k (by omega) x (by omega) (by omega)]
  simp
theorem or_join (q y k:Nat) (hq:q≤255) (hk:k≤8) (hy:y<2 ^ k):bits .or .u64 (IntKind.u64.wrap ((q:Int)*2 ^ k)) (y:Int)=((q*2 ^ k+y:Nat):Int):=by
  have h1:2 ^ k≤2 ^ 8:=Nat.pow_le_pow_right (by decide) hk
  have hm:q*2 ^ k≤255*2 ^ 8:=Nat.mul_le_mul hq h1
  have e:((q:Int)*2 ^ k)=((q*2 ^ k:Nat):Int):=by simp
  rw [e,IntWalk.u64_in _ (by omega)]
  have hy2:(y:Int)<2 ^ k:=by
    have:((2:Int) ^ k)=((2 ^ k:Nat):Int):=by simp
    rw [this];omega
  rw [bits_join .u64 64 (by decide) (fun n h0 h1=>by rw [IntKind.wrap_u64];omega) k _ _ (by omega) (by rw [← e];exact Int.mul_emod_left _ _) (by omega) (by omega) hy2 (by omega)]
  omega
theorem add_part (L:List Bool) (v e k:Nat) (hv:v≤18446744073709551615) (hk:L.length % 8+k≤8) :
    ∃ P R:Int,bits .and .u64 ((v:Int) / 2 ^ e) (IntKind.u64.wrap (IntKind.u64.wrap (2 ^ k)-1))=P ∧
      bits .or .u64 (IntKind.u64.wrap (((num (rest L):Nat):Int)*2 ^ k)) P=R∧R=(num (rest L ++ numB (v / 2 ^ e) k):Nat)∧0≤R∧R≤255:=by
  have hd:v / 2 ^ e≤v:=Nat.div_le_self _ _
  have e1:((v:Int) / 2 ^ e)=((v / 2 ^ e:Nat):Int):=by simp
  refine ⟨_,_,rfl,rfl,?_⟩
  rw [e1,and_low _ k (by omega) (by omega),or_join _ _ k (by have:=num_rest_lt L;omega) (by omega) (Nat.mod_lt _ (Nat.two_pow_pos k))]
  have en:num (rest L)*2 ^ k+v / 2 ^ e % 2 ^ k=num (rest L ++ numB (v / 2 ^ e) k):=by
    rw [num_append,num_numB,numB_length]
  rw [en]
  have hl:num (rest L ++ numB (v / 2 ^ e) k)<256:=by
    have h:=num_lt (rest L ++ numB (v / 2 ^ e) k)
    have:2 ^ (rest L ++ numB (v / 2 ^ e) k).length≤2 ^ 8:=Nat.pow_le_pow_right (by decide) (by rw [List.length_append,rest_length,numB_length];omega)
    omega
  exact ⟨rfl,by omega,by omega⟩
end Bits
end Go.Proofs.YtoaoibeobhcgmaaGreatDoor
