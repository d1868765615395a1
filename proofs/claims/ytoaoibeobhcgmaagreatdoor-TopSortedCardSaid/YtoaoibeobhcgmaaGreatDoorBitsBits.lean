/-
  The walk of Bits: all that a Writer has gathered.
-/
import Derived.Test.YtoaoibeobhcgmaaGreatDoorBitsGet
import Derived.Deep.RegionLawGrows
namespace Go.Proofs.YtoaoibeobhcgmaaGreatDoor
open Go.RowKit
open Bits
set_option maxRecDepth 20000
set_option linter.unusedVariables false
namespace Bits
theorem pack_whole (L:List Bool) (h:L.length % 8=0):whole L=L:=by unfold whole;rw [show 8*(L.length / 8)=L.length from by omega,List.take_length]
theorem pack_last (L:List Bool) (h:L.length % 8≠0):pack L=pack (whole L) ++ [UInt8.ofNat (num (rest L)*2 ^ (8-L.length % 8))]:=by
  have hw:=whole_length L
  have hr:=rest_length L
  unfold pack
  have e:(L.length+7) / 8=((whole L).length+7) / 8+1:=by rw [hw];omega
  rw [e,List.range_succ,List.map_append]
  congr 1
  · apply List.map_congr_left
    intro k hk
    simp only [List.mem_range] at hk
    unfold packAt chunk whole
    rw [List.drop_take,List.take_take,Nat.min_eq_left (by omega)]
  · simp only [List.map_cons,List.map_nil]
    unfold packAt chunk
    have e2:8*(((whole L).length+7) / 8)=8*(L.length / 8):=by rw [hw];omega
    rw [e2]
    have e3:(L.drop (8*(L.length / 8))).take 8=rest L:=by unfold rest;rw [List.take_of_length_le (by simp;omega)]
    rw [e3]
    unfold pad8
    rw [num_append,hr,List.length_replicate]
    have:num (List.replicate (8-L.length % 8) false)=0:=by
      generalize 8-L.length % 8=m
      induction m with
      | zero=>rfl
      | succ m ih =>
        rw [List.replicate_succ]
        have:=num_append [false] (List.replicate m false)
        rw [List.singleton_append] at this
        rw [this,ih];simp [num,bit]
    rw [this,Nat.add_zero]
theorem last_lt (L:List Bool):num (rest L)*2 ^ (8-L.length % 8)<256:=by
  have h:=num_lt (rest L)
  rw [rest_length] at h
  have h2:(num (rest L)+1)*2 ^ (8-L.length % 8)≤2 ^ (L.length % 8)*2 ^ (8-L.length % 8):=Nat.mul_le_mul_right _ h
  rw [← Nat.pow_add,show L.length % 8+(8-L.length % 8)=8 from by omega,Nat.add_mul] at h2
  have:=Nat.two_pow_pos (8-L.length % 8)
  omega
theorem last_byte (L:List Bool):∃ R:Int,IntKind.u64.wrap (((num (rest L):Nat):Int)*2 ^ (8-L.length % 8))=R∧IntKind.u8.wrap R=R∧R=nb (UInt8.ofNat (num (rest L)*2 ^ (8-L.length % 8))):=by
  have h:=last_lt L
  refine ⟨_,rfl,?_⟩
  have e:(((num (rest L):Nat):Int)*2 ^ (8-L.length % 8))=((num (rest L)*2 ^ (8-L.length % 8):Nat):Int):=by simp
  rw [e,IntWalk.u64_in _ (by omega),IntWalk.u8_in _ (by omega),nb_byte,UInt8.toNat_ofNat',Nat.mod_eq_of_lt h]
  exact ⟨rfl,rfl⟩
end Bits
def only (H k:Nat):Prop:=k=H
end Go.Proofs.YtoaoibeobhcgmaaGreatDoor
