import Derived.Test.YtoaoibeobhcgmaaGreatDoorBitsBits
namespace Go.Proofs.YtoaoibeobhcgmaaGreatDoor
open Go.RowKit
open Bits
set_option maxRecDepth 20000
set_option linter.unusedVariables false
namespace Bits
theorem low_zero (x r:Nat):(∀ t,t<r→x / 2 ^ t % 2=0) ↔ x % 2 ^ r=0:=by
  induction r with
  | zero=>simp [Nat.mod_one]
  | succ r ih =>
    have e:x % 2 ^ (r+1)=x % 2 ^ r+2 ^ r*(x / 2 ^ r % 2):=by rw [Nat.pow_succ,Nat.mod_mul]
    have hp:0<2 ^ r:=Nat.two_pow_pos r
    constructor
    · intro h
      rw [e,ih.mp fun t ht=>h t (by omega),h r (by omega)];rfl
    · intro h t ht
      rw [e] at h
      have h1:x % 2 ^ r=0:=by omega
      have h2:2 ^ r*(x / 2 ^ r % 2)=0:=by omega
      rcases Nat.lt_or_ge t r with h3 | h3
      · exact ih.mpr h1 t h3
      · have:t=r:=by omega
        subst this
        rcases Nat.mul_eq_zero.mp h2 with h4 | h4
        · omega
        · exact h4
theorem right_last (B:List UInt8) (n:Nat) (hB:B.length=(n+7) / 8):Right B n ↔ (n % 8=0∨(at8 B (n / 8)).toNat % 2 ^ (8-n % 8)=0):=by
  constructor
  · rintro ⟨_,h⟩
    by_cases h0:n % 8=0
    · exact .inl h0
    · refine .inr ((low_zero _ _).mp fun t ht=>?_)
      have:=h (8*(n / 8)+(7-t)) (by omega) (by omega)
      unfold isBit at this
      rw [show (8*(n / 8)+(7-t)) / 8=n / 8 from by omega,show 7-(8*(n / 8)+(7-t)) % 8=t from by omega] at this
      simp only [beq_eq_false_iff_ne,ne_eq] at this
      omega
  · intro h
    refine ⟨hB,fun i h1 h2=>?_⟩
    rcases h with h | h
    · omega
    · have:=(low_zero _ _).mpr h (7-i % 8) (by omega)
      unfold isBit
      rw [show i / 8=n / 8 from by omega,this];rfl

theorem shl_zero (c:UInt8) (m:Nat) (hm:m<8):(nb c*2 ^ m % 256=0) ↔ c.toNat % 2 ^ (8-m)=0:=by
  have e:nb c=(c.toNat:Int):=nb_byte c
  rw [e]
  have hc:=c.toNat_lt
  rcases (by omega:m=0∨m=1∨m=2∨m=3∨m=4∨m=5∨m=6∨m=7) with h | h | h | h | h | h | h | h <;> subst h <;> simp only [Nat.reduceSub,Nat.reducePow,Int.reducePow] <;> omega
/-! The walk of Check. -/
def right (B:List UInt8) (N:Int):Prop:=0≤N∧N≤1048576∧Right B N.toNat
noncomputable def chk (B:List UInt8) (N:Int):Int:=open Classical in if right B N then 0 else 2
end Bits
end Go.Proofs.YtoaoibeobhcgmaaGreatDoor
