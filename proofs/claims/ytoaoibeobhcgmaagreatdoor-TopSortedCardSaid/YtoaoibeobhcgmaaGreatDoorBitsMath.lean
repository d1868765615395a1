/-
  Plain mathematics of bits one behind the other: lists of bits,their bytes,numbers of so many bits. No program in sight.
-/
import Derived.Test.YtoaoibeobhcgmaaGreatDoorBase
namespace Go.Proofs.YtoaoibeobhcgmaaGreatDoor
set_option maxRecDepth 8000
set_option linter.unusedVariables false
namespace Bits
/-! ### Numbers of bits -/
def bit (b:Bool):Nat:=if b then 1 else 0
def num (l:List Bool):Nat:=l.foldl (fun a b=>2*a+bit b) 0
def numB (v w:Nat):List Bool:=(List.range w).map fun j=>v / 2 ^ (w-1-j) % 2 == 1
theorem bit_le (b:Bool):bit b≤1:=by cases b <;> simp [bit]
theorem foldl_num (l:List Bool) (a:Nat):l.foldl (fun a b=>2*a+bit b) a=a*2 ^ l.length+num l:=by
  induction l generalizing a with
  | nil=>simp [num]
  | cons b l ih =>
    simp only [List.foldl_cons,num,List.length_cons]
    rw [ih,ih (2*0+bit b),Nat.pow_succ]
    have h1:(2*a+bit b)*2 ^ l.length=a*(2 ^ l.length*2)+bit b*2 ^ l.length:=by
      rw [Nat.add_mul,Nat.mul_comm 2 a,Nat.mul_assoc,Nat.mul_comm 2]
    rw [h1,Nat.mul_zero,Nat.zero_add]
    omega
theorem num_append (l m:List Bool):num (l ++ m)=num l*2 ^ m.length+num m:=by
  rw [num,List.foldl_append,foldl_num];rfl
theorem num_lt (l:List Bool):num l<2 ^ l.length:=by
  induction l with
  | nil=>simp [num]
  | cons b l ih =>
    have:=num_append [b] l
    rw [List.singleton_append] at this
    rw [this,List.length_cons,Nat.pow_succ]
    have hb:num [b]≤1:=by simp [num];exact bit_le b
    have:num [b]*2 ^ l.length≤1*2 ^ l.length:=Nat.mul_le_mul_right _ hb
    omega
theorem numB_length (v w:Nat):(numB v w).length=w:=by simp [numB]
theorem numB_zero (v:Nat):numB v 0 = []:=rfl
theorem numB_succ (v w:Nat):numB v (w+1)=(v / 2 ^ w % 2 == 1) :: numB v w:=by
  unfold numB
  rw [List.range_succ_eq_map,List.map_cons,List.map_map]
  congr 1
  apply List.map_congr_left
  intro j hj
  simp only [List.mem_range] at hj
  simp only [Function.comp]
  congr 3
  rw [show w+1-1-(j+1)=w-1-j from by omega]
theorem bit_mod (x:Nat):bit (x % 2 == 1)=x % 2:=by
  unfold bit
  by_cases h:x % 2=1
  · simp [h]
  · have:x % 2=0:=by omega
    simp [this]
theorem num_numB (v w:Nat):num (numB v w)=v % 2 ^ w:=by
  induction w with
  | zero=>simp [numB_zero,num,Nat.mod_one]
  | succ w ih =>
    rw [numB_succ]
    have:=num_append [v / 2 ^ w % 2 == 1] (numB v w)
    rw [List.singleton_append] at this
    rw [this,ih,numB_length]
    have h1:num [v / 2 ^ w % 2 == 1]=v / 2 ^ w % 2:=by simp only [num,List.foldl_cons,List.foldl_nil];rw [bit_mod];omega
    rw [h1,Nat.pow_succ,Nat.mod_mul,Nat.mul_comm (2 ^ w),Nat.add_comm]
theorem numB_split (v k w:Nat):numB v (k+w)=numB (v / 2 ^ w) k ++ numB v w:=by
  induction k with
  | zero=>simp [numB_zero]
  | succ k ih =>
    rw [show k+1+w=(k+w)+1 from by omega,numB_succ,numB_succ,ih,List.cons_append]
    rw [Nat.div_div_eq_div_mul,← Nat.pow_add,Nat.add_comm w k]
theorem numB_num (l:List Bool):numB (num l) l.length=l:=by
  induction l with
  | nil=>rfl
  | cons b l ih =>
    rw [List.length_cons,numB_succ]
    have h:=num_append [b] l
    rw [List.singleton_append] at h
    have h1:num [b]=bit b:=by simp [num]
    have hl:=num_lt l
    have hp:0<2 ^ l.length:=Nat.two_pow_pos _
    congr 1
    · rw [h,h1,Nat.add_comm,Nat.add_mul_div_right _ _ hp,Nat.div_eq_of_lt hl]
      cases b <;> simp [bit]
    · rw [h]
      conv=>rhs;rw [← ih]
      unfold numB
      apply List.map_congr_left
      intro j hj
      simp only [List.mem_range] at hj
      congr 1
      have e:2 ^ l.length=2 ^ (l.length-1-j)*(2*2 ^ j):=by
        rw [← Nat.mul_assoc,Nat.mul_comm _ 2,Nat.mul_assoc,← Nat.pow_add,Nat.mul_comm 2,← Nat.pow_succ]
        congr 1;omega
      rw [e,← Nat.mul_assoc,Nat.mul_comm (num [b]),Nat.mul_assoc,Nat.add_comm,Nat.add_mul_div_left _ _ (Nat.two_pow_pos _)]
      rw [show num [b]*(2*2 ^ j)=2*(num [b]*2 ^ j) from by rw [Nat.mul_left_comm]]
      omega

/-! ### Bytes of bits -/
def isBit (B:List UInt8) (i:Nat):Bool:=(at8 B (i / 8)).toNat / 2 ^ (7-i % 8) % 2 == 1
def upto (B:List UInt8) (n:Nat):List Bool:=(List.range n).map (isBit B)
def pad8 (c:List Bool):List Bool:=c ++ List.replicate (8-c.length) false
def chunk (l:List Bool) (k:Nat):List Bool:=(l.drop (8*k)).take 8
def packAt (l:List Bool) (k:Nat):UInt8:=UInt8.ofNat (num (pad8 (chunk l k)))
def pack (l:List Bool):List UInt8:=(List.range ((l.length+7) / 8)).map (packAt l)
theorem pack_length (l:List Bool):(pack l).length=(l.length+7) / 8:=by simp [pack]
theorem pad8_length (c:List Bool) (h:c.length≤8):(pad8 c).length=8:=by simp [pad8];omega
theorem chunk_le (l:List Bool) (k:Nat):(chunk l k).length≤8:=by simp [chunk];omega
theorem num_pad_lt (l:List Bool) (k:Nat):num (pad8 (chunk l k))<256:=by
  have:=num_lt (pad8 (chunk l k));rwa [pad8_length _ (chunk_le l k)] at this
theorem at8_pack (l:List Bool) (k:Nat) (h:k<(l.length+7) / 8):at8 (pack l) k=packAt l k:=by
  rw [at8_get _ _ (by rw [pack_length];exact h)];simp [pack]
theorem packAt_nat (l:List Bool) (k:Nat):(packAt l k).toNat=num (pad8 (chunk l k)):=by
  unfold packAt;rw [UInt8.toNat_ofNat',Nat.mod_eq_of_lt (num_pad_lt l k)]
theorem numB_get (v w j:Nat) (h:j<w):(numB v w)[j]?=some (v / 2 ^ (w-1-j) % 2 == 1):=by simp [numB,h]
theorem isBit_pack (l:List Bool) (i:Nat) (h:i<8*((l.length+7) / 8)):isBit (pack l) i=(l[i]?).getD false:=by
  unfold isBit
  rw [at8_pack l (i / 8) (by omega),packAt_nat]
  have h8:=pad8_length _ (chunk_le l (i / 8))
  have hn:=numB_num (pad8 (chunk l (i / 8)))
  rw [h8] at hn
  have hg:=numB_get (num (pad8 (chunk l (i / 8)))) 8 (i % 8) (by omega)
  rw [hn] at hg
  have e:(pad8 (chunk l (i / 8)))[i % 8]?=some ((l[i]?).getD false):=by
    unfold pad8 chunk
    rw [List.getElem?_append]
    have hi:8*(i / 8)+i % 8=i:=by omega
    split
    · rename_i hlt
      rw [List.getElem?_take_of_lt (by omega),List.getElem?_drop,hi]
      simp only [List.length_take,List.length_drop] at hlt
      have:i<l.length:=by omega
      simp [List.getElem?_eq_getElem this]
    · rename_i hge
      simp only [List.length_take,List.length_drop] at hge ⊢
      rw [List.getElem?_replicate,if_pos (by omega),List.getElem?_eq_none (by omega)];rfl
  rw [hg] at e
  exact Option.some.inj e
def Right (B:List UInt8) (n:Nat):Prop:=B.length=(n+7) / 8 ∧ ∀ i,n≤i→i<8*B.length→isBit B i=false
theorem right_pack (l:List Bool):Right (pack l) l.length:=by
  refine ⟨pack_length l,fun i h1 h2=>?_⟩
  rw [pack_length] at h2
  rw [isBit_pack l i h2,List.getElem?_eq_none h1];rfl
def slc (B:List UInt8) (p w:Nat):List Bool:=(List.range w).map fun j=>isBit B (p+j)
theorem slc_length (B:List UInt8) (p w:Nat):(slc B p w).length=w:=by simp [slc]
theorem slc_add (B:List UInt8) (p a b:Nat):slc B p (a+b)=slc B p a ++ slc B (p+a) b:=by
  unfold slc
  rw [List.range_add,List.map_append,List.map_map]
  congr 1
  apply List.map_congr_left
  intro j _
  simp only [Function.comp,Nat.add_assoc]
theorem slc_byte (B:List UInt8) (p k:Nat) (h:p % 8+k≤8):slc B p k=numB ((at8 B (p / 8)).toNat / 2 ^ (8-p % 8-k)) k:=by
  unfold slc numB
  apply List.map_congr_left
  intro j hj
  simp only [List.mem_range] at hj
  unfold isBit
  rw [show (p+j) / 8=p / 8 from by omega,show (p+j) % 8=p % 8+j from by omega,Nat.div_div_eq_div_mul,← Nat.pow_add]
  congr 3
  congr 1
  omega
theorem num_slc_byte (B:List UInt8) (p k:Nat) (h:p % 8+k≤8):num (slc B p k)=(at8 B (p / 8)).toNat / 2 ^ (8-p % 8-k) % 2 ^ k:=by
  rw [slc_byte B p k h,num_numB]
end Bits
end Go.Proofs.YtoaoibeobhcgmaaGreatDoor
