/-
  Plain mathematics of the check sum of layer 2: no program in sight. 'T' is one bit's step of the register, 'feed' a byte's, 'more' a text's.
-/
import Derived.Laws.BitsLemmas
import Derived.Laws.BytesArg
namespace Go.Proofs.Ytlkaamednhpdcaa
namespace Crc

/-- A 32-bit word as the number that a slot holds. -/
def un (b : BitVec 32) : Int := (b.toNat : Int)
def v32 (x : Int) : BitVec 32 := BitVec.ofInt 32 x
theorem un_nonneg (b : BitVec 32) : 0 ≤ un b := Int.natCast_nonneg _
theorem un_le (b : BitVec 32) : un b ≤ 4294967295 := by have := b.isLt; unfold un; omega
theorem v32_un (b : BitVec 32) : v32 (un b) = b := by simp [v32, un]
theorem un_v32 {x : Int} (h0 : 0 ≤ x) (h1 : x ≤ 4294967295) : un (v32 x) = x := by
  obtain ⟨n, rfl⟩ := Int.eq_ofNat_of_zero_le h0
  simp only [v32, un, BitVec.ofInt_natCast, BitVec.toNat_ofNat]; omega
theorem un_inj {a b : BitVec 32} (h : un a = un b) : a = b := by
  rw [← v32_un a, ← v32_un b, h]
theorem un_beq (a b : BitVec 32) : (un a == un b) = (a == b) := by
  rw [Bool.eq_iff_iff]; simp only [beq_iff_eq]; exact ⟨un_inj, fun h => by rw [h]⟩
theorem bits_xor (x y : Int) : bits .xor .u32 x y = un (v32 x ^^^ v32 y) := by
  show IntKind.u32.wrap ((v32 x ^^^ v32 y).toNat : Int) = un (v32 x ^^^ v32 y)
  generalize v32 x ^^^ v32 y = b
  have := b.isLt
  rw [IntKind.wrap_u32]; unfold un; omega
theorem bits_and (x y : Int) : bits .and .u32 x y = un (v32 x &&& v32 y) := by
  show IntKind.u32.wrap ((v32 x &&& v32 y).toNat : Int) = un (v32 x &&& v32 y)
  generalize v32 x &&& v32 y = b
  have := b.isLt
  rw [IntKind.wrap_u32]; unfold un; omega
theorem bits_or (x y : Int) : bits .or .u32 x y = un (v32 x ||| v32 y) := by
  show IntKind.u32.wrap ((v32 x ||| v32 y).toNat : Int) = un (v32 x ||| v32 y)
  generalize v32 x ||| v32 y = b
  have := b.isLt
  rw [IntKind.wrap_u32]; unfold un; omega
theorem un_half (a : BitVec 32) : un a / (2 : Int) = un (a >>> 1) := by
  simp only [un, BitVec.toNat_ushiftRight, Nat.shiftRight_eq_div_pow]; omega
theorem un_256 (a : BitVec 32) : un a / (256 : Int) = un (a >>> 8) := by
  simp only [un, BitVec.toNat_ushiftRight, Nat.shiftRight_eq_div_pow]; omega
theorem v32_mod (x : Int) : v32 (x % 4294967296) = v32 x := by
  apply BitVec.eq_of_toInt_eq
  simp only [v32, BitVec.toInt_ofInt]
  rw [show ((4294967296 : Int)) = ((2 ^ 32 : Nat) : Int) from by decide]
  exact Int.emod_bmod _ _
theorem un_mod2 (a : BitVec 32) : un a % (2 : Int) = if a.getLsbD 0 then 1 else 0 := by
  simp only [un, BitVec.getLsbD, Nat.testBit_zero]
  split <;> rename_i h <;> simp at h <;> omega
theorem v32_neg (x : Int) : v32 (-x) = - v32 x := by simp [v32, BitVec.ofInt_neg]
theorem un_compl (a : BitVec 32) : 4294967295 - un a = un (~~~a) := by
  have := a.isLt
  simp only [un, BitVec.toNat_not]; omega

/-! ### One bit, n bits -/
def poly : BitVec 32 := 0xedb88320#32
def T (r : BitVec 32) : BitVec 32 := (r >>> 1) ^^^ (if r.getLsbD 0 then poly else 0#32)
def Tn : Nat → BitVec 32 → BitVec 32
  | 0, r => r
  | n + 1, r => T (Tn n r)

theorem T_xor (a b : BitVec 32) : T (a ^^^ b) = T a ^^^ T b := by
  unfold T
  rw [BitVec.ushiftRight_xor_distrib, BitVec.getLsbD_xor]
  have e : poly ^^^ poly = 0#32 := by decide
  cases a.getLsbD 0 <;> cases b.getLsbD 0 <;> simp
  · ac_rfl
  · ac_rfl
  · rw [show a >>> 1 ^^^ poly ^^^ (b >>> 1 ^^^ poly) = a >>> 1 ^^^ b >>> 1 ^^^ (poly ^^^ poly) from by ac_rfl, e, BitVec.xor_zero]
theorem Tn_xor (n : Nat) (a b : BitVec 32) : Tn n (a ^^^ b) = Tn n a ^^^ Tn n b := by
  induction n with
  | zero => rfl
  | succ n ih => simp only [Tn, ih, T_xor]
theorem T_zero : T 0#32 = 0#32 := by decide
theorem Tn_zero (n : Nat) : Tn n 0#32 = 0#32 := by
  induction n with
  | zero => rfl
  | succ n ih => simp only [Tn, ih, T_zero]
theorem Tn_add (m n : Nat) (a : BitVec 32) : Tn (m + n) a = Tn m (Tn n a) := by
  induction m with
  | zero => simp [Tn]
  | succ m ih => rw [Nat.succ_add]; simp only [Tn, ih]
theorem T_inj0 {c : BitVec 32} (h : T c = 0#32) : c = 0#32 := by
  unfold T at h
  have h31 : (T c).getLsbD 31 = false := by unfold T; rw [h]; rfl
  unfold T at h31
  rw [BitVec.getLsbD_xor, BitVec.getLsbD_ushiftRight] at h31
  have e : c.getLsbD (1 + 31) = false := BitVec.getLsbD_of_ge _ _ (by decide)
  rw [e] at h31
  by_cases hb : c.getLsbD 0 = true
  · rw [if_pos hb] at h31
    exact absurd h31 (by decide)
  · have hb' : c.getLsbD 0 = false := by simpa using hb
    rw [hb'] at h
    simp at h
    apply BitVec.eq_of_getLsbD_eq
    intro i hi
    cases i with
    | zero => rw [hb']; rfl
    | succ i =>
      have := congrArg (fun x => BitVec.getLsbD x i) h
      simp only [BitVec.getLsbD_ushiftRight] at this
      rw [Nat.add_comm] at this
      rw [this]; simp
theorem Tn_inj0 (n : Nat) {c : BitVec 32} (h : Tn n c = 0#32) : c = 0#32 := by
  induction n with
  | zero => exact h
  | succ n ih => exact ih (T_inj0 h)
theorem Tn_inj (n : Nat) {a b : BitVec 32} (h : Tn n a = Tn n b) : a = b := by
  have : Tn n (a ^^^ b) = 0#32 := by rw [Tn_xor, h, BitVec.xor_self]
  have := Tn_inj0 n this
  exact BitVec.xor_eq_zero_iff.1 this
/-- Where the low bits are 0 nothing is added. -/
theorem Tn_low (n : Nat) (a : BitVec 32) (h : ∀ i, i < n → a.getLsbD i = false) : Tn n a = a >>> n := by
  induction n with
  | zero => simp [Tn]
  | succ n ih =>
    rw [Tn, ih (fun i hi => h i (by omega))]
    unfold T
    rw [BitVec.getLsbD_ushiftRight, h (n + 0) (by omega)]
    simp only [Bool.false_eq_true, if_false, BitVec.xor_zero]
    rw [← BitVec.shiftRight_add]

/-! ### A byte -/
def b32 (b : UInt8) : BitVec 32 := BitVec.ofNat 32 b.toNat
theorem un_b32 (b : UInt8) : un (b32 b) = (b.toNat : Int) := by
  have := b.toNat_lt
  simp only [un, b32, BitVec.toNat_ofNat]; omega
theorem v32_byte (b : UInt8) : v32 (b.toNat : Int) = b32 b := by simp [v32, b32]
theorem b32_xor (a b : UInt8) : b32 (a ^^^ b) = b32 a ^^^ b32 b := by
  apply BitVec.eq_of_toNat_eq
  have h := (a ^^^ b).toNat_lt
  have ha := a.toNat_lt; have hb := b.toNat_lt
  rw [UInt8.toNat_xor] at h
  simp only [b32, BitVec.toNat_ofNat, BitVec.toNat_xor, UInt8.toNat_xor]
  rw [Nat.mod_eq_of_lt (by omega), Nat.mod_eq_of_lt (by omega), Nat.mod_eq_of_lt (by omega)]
theorem b32_high (b : UInt8) (i : Nat) (hi : 8 ≤ i) : (b32 b).getLsbD i = false := by
  have := b.toNat_lt
  simp only [b32, BitVec.getLsbD_ofNat]
  rw [Nat.testBit_lt_two_pow (Nat.lt_of_lt_of_le this (Nat.pow_le_pow_right (by decide) hi))]
  simp
theorem b32_shr8 (b : UInt8) : b32 b >>> 8 = 0#32 := by
  apply BitVec.eq_of_getLsbD_eq
  intro i _
  rw [BitVec.getLsbD_ushiftRight, b32_high b _ (by omega)]; simp
theorem b32_inj {a b : UInt8} (h : b32 a = b32 b) : a = b := by
  have := congrArg un h
  rw [un_b32, un_b32] at this
  exact UInt8.toNat_inj.1 (by omega)

def feed (r : BitVec 32) (b : UInt8) : BitVec 32 := Tn 8 (r ^^^ b32 b)
/-- The program's way: the low byte through the steps, the rest moved. -/
theorem feed_eq (r : BitVec 32) (b : UInt8) : (r >>> 8) ^^^ Tn 8 ((r ^^^ b32 b) &&& 255#32) = feed r b := by
  have hs : r ^^^ b32 b = ((r ^^^ b32 b) &&& 255#32) ^^^ ((r ^^^ b32 b) &&& ~~~255#32) := by
    apply BitVec.eq_of_getLsbD_eq
    intro i hi
    simp only [BitVec.getLsbD_xor, BitVec.getLsbD_and, BitVec.getLsbD_not, hi, decide_true, Bool.true_and]
    cases (r.getLsbD i ^^ (b32 b).getLsbD i) <;> cases (255#32).getLsbD i <;> rfl
  unfold feed
  conv => rhs; rw [hs, Tn_xor]
  rw [Tn_low 8 ((r ^^^ b32 b) &&& ~~~255#32)]
  · have : ((r ^^^ b32 b) &&& ~~~255#32) >>> 8 = r >>> 8 := by
      apply BitVec.eq_of_getLsbD_eq
      intro i hi
      simp only [BitVec.getLsbD_ushiftRight, BitVec.getLsbD_and, BitVec.getLsbD_xor, BitVec.getLsbD_not, b32_high b (8 + i) (by omega)]
      by_cases h : 8 + i < 32
      · have e : (255#32).getLsbD (8 + i) = false := by
          rw [BitVec.getLsbD_ofNat, show (255 : Nat) = 2 ^ 8 - 1 from rfl, Nat.testBit_two_pow_sub_one]; simp
        rw [e]; simp [h]
      · have : r.getLsbD (8 + i) = false := BitVec.getLsbD_of_ge _ _ (by omega)
        simp [this]
    rw [this, BitVec.xor_comm]
  · intro i hi
    simp only [BitVec.getLsbD_and, BitVec.getLsbD_not]
    have e : (255#32).getLsbD i = true := by
      rw [BitVec.getLsbD_ofNat, show (255 : Nat) = 2 ^ 8 - 1 from rfl, Nat.testBit_two_pow_sub_one]; simp; omega
    simp [e]
/-- The document's way: bit by bit, the byte's bits on the side. -/
def refBit (r : BitVec 32) (b : UInt8) (k : Nat) : BitVec 32 := Tn k (r ^^^ b32 b) ^^^ (b32 b >>> k)
theorem refBit_zero (r : BitVec 32) (b : UInt8) : refBit r b 0 = r := by simp [refBit, Tn, BitVec.xor_assoc]
theorem refBit_eight (r : BitVec 32) (b : UInt8) : refBit r b 8 = feed r b := by simp [refBit, feed, b32_shr8]
theorem refBit_succ (r : BitVec 32) (b : UInt8) (k : Nat) :
    (refBit r b k >>> 1) ^^^ (if (refBit r b k ^^^ (b32 b >>> k)).getLsbD 0 then poly else 0#32) = refBit r b (k + 1) := by
  have e : refBit r b k ^^^ (b32 b >>> k) = Tn k (r ^^^ b32 b) := by simp [refBit, BitVec.xor_assoc]
  rw [e]
  unfold refBit
  rw [BitVec.ushiftRight_xor_distrib, Tn, T, BitVec.shiftRight_add]
  ac_rfl
theorem feed_xor (r d : BitVec 32) (b e : UInt8) : feed (r ^^^ d) (b ^^^ e) = feed r b ^^^ feed d e := by
  unfold feed
  rw [b32_xor, ← Tn_xor]
  congr 1
  ac_rfl
theorem feed_inj {r q : BitVec 32} {b : UInt8} (h : feed r b = feed q b) : r = q := by
  have := Tn_inj 8 h
  have e := congrArg (· ^^^ b32 b) this
  simpa [BitVec.xor_assoc] using e

/-! ### A text -/
def feeds (r : BitVec 32) (l : List UInt8) : BitVec 32 := l.foldl feed r
def more (sum : BitVec 32) (l : List UInt8) : BitVec 32 := ~~~ (feeds (~~~ sum) l)
def sums (l : List (List UInt8)) : BitVec 32 := l.foldl more 0#32
theorem feeds_nil (r : BitVec 32) : feeds r [] = r := rfl
theorem feeds_append (r : BitVec 32) (a b : List UInt8) : feeds r (a ++ b) = feeds (feeds r a) b := List.foldl_append ..
theorem feeds_snoc (r : BitVec 32) (a : List UInt8) (b : UInt8) : feeds r (a ++ [b]) = feed (feeds r a) b := by rw [feeds_append]; rfl
theorem feeds_cons (r : BitVec 32) (a : UInt8) (b : List UInt8) : feeds r (a :: b) = feeds (feed r a) b := rfl
theorem feeds_inj {r q : BitVec 32} (l : List UInt8) (h : feeds r l = feeds q l) : r = q := by
  induction l generalizing r q with
  | nil => exact h
  | cons b l ih => exact feed_inj (ih h)
theorem more_append (s : BitVec 32) (a b : List UInt8) : more (more s a) b = more s (a ++ b) := by
  simp [more, feeds_append]
theorem more_nil (s : BitVec 32) : more s [] = s := by simp [more, feeds]
theorem sums_snoc (l : List (List UInt8)) (x : List UInt8) : sums (l ++ [x]) = more (sums l) x := by simp [sums]
theorem sums_one (a : List UInt8) : sums [a] = more 0#32 a := rfl
theorem sums_two (a b : List UInt8) : sums [a, b] = sums [a ++ b] := by simp [sums, more_append]
theorem compl_xor3 (a b c : BitVec 32) : (~~~a) ^^^ (~~~b) ^^^ (~~~c) = ~~~(a ^^^ b ^^^ c) := by
  apply BitVec.eq_of_getLsbD_eq
  intro i hi
  simp only [BitVec.getLsbD_xor, BitVec.getLsbD_not, hi, decide_true, Bool.true_and]
  cases a.getLsbD i <;> cases b.getLsbD i <;> cases c.getLsbD i <;> rfl
/-- Three texts of one length come together byte by byte. -/
theorem feeds_xor3 (a b c : List UInt8) (h1 : a.length = b.length) (h2 : b.length = c.length) (p q r : BitVec 32) :
    feeds p a ^^^ feeds q b ^^^ feeds r c = feeds (p ^^^ q ^^^ r) (List.zipWith (· ^^^ ·) a (List.zipWith (· ^^^ ·) b c)) := by
  induction a generalizing b c p q r with
  | nil => cases b <;> cases c <;> simp_all [feeds]
  | cons x a ih =>
    cases b with
    | nil => simp at h1
    | cons y b =>
      cases c with
      | nil => simp at h2
      | cons z c =>
        simp only [List.zipWith_cons_cons, feeds_cons]
        rw [ih b c (by simpa using h1) (by simpa using h2)]
        congr 1
        rw [← feed_xor, ← feed_xor, BitVec.xor_assoc, UInt8.xor_assoc]
theorem more_xor3 (a b c : List UInt8) (h1 : a.length = b.length) (h2 : b.length = c.length) :
    more 0#32 a ^^^ more 0#32 b ^^^ more 0#32 c = more 0#32 (List.zipWith (· ^^^ ·) a (List.zipWith (· ^^^ ·) b c)) := by
  unfold more
  rw [compl_xor3, feeds_xor3 a b c h1 h2]
  congr 2

/-! ### A sum's bytes -/
def rev (x : BitVec 32) : BitVec 32 :=
  let y := ((x >>> 8) &&& 0xff00ff#32) ||| ((x &&& 0xff00ff#32) <<< 8)
  (y >>> 16) ||| (y <<< 16)
theorem un_shl (a : BitVec 32) (k : Nat) : un a * 2 ^ k % (4294967296 : Int) = un (a <<< k) := by
  simp only [un, BitVec.toNat_shiftLeft, Nat.shiftLeft_eq]
  rw [Int.natCast_emod, Int.natCast_mul]
  simp
theorem un_shr (a : BitVec 32) (k : Nat) : un a / 2 ^ k = un (a >>> k) := by
  simp only [un, BitVec.toNat_ushiftRight, Nat.shiftRight_eq_div_pow]
  simp
theorem un_low (a : BitVec 32) : un a % (256 : Int) = ((a.setWidth 8).toNat : Int) := by
  simp only [un, BitVec.toNat_setWidth]; omega
theorem rev0 (x : BitVec 32) : (rev x >>> 24).setWidth 8 = x.setWidth 8 := by
  apply BitVec.eq_of_getLsbD_eq
  intro i hi
  unfold rev
  match i, hi with
  | 0, _ | 1, _ | 2, _ | 3, _ | 4, _ | 5, _ | 6, _ | 7, _ => simp
theorem rev1 (x : BitVec 32) : (rev x >>> 16).setWidth 8 = (x >>> 8).setWidth 8 := by
  apply BitVec.eq_of_getLsbD_eq
  intro i hi
  unfold rev
  match i, hi with
  | 0, _ | 1, _ | 2, _ | 3, _ | 4, _ | 5, _ | 6, _ | 7, _ => simp
theorem rev2 (x : BitVec 32) : (rev x >>> 8).setWidth 8 = (x >>> 16).setWidth 8 := by
  apply BitVec.eq_of_getLsbD_eq
  intro i hi
  unfold rev
  match i, hi with
  | 0, _ | 1, _ | 2, _ | 3, _ | 4, _ | 5, _ | 6, _ | 7, _ => simp
theorem rev3 (x : BitVec 32) : (rev x).setWidth 8 = (x >>> 24).setWidth 8 := by
  apply BitVec.eq_of_getLsbD_eq
  intro i hi
  unfold rev
  match i, hi with
  | 0, _ | 1, _ | 2, _ | 3, _ | 4, _ | 5, _ | 6, _ | 7, _ => simp
def tailS (b : BitVec 32) : ByteArray := strOfNums [un b % 256, un b / 256 % 256, un b / 65536 % 256, un b / 16777216]
theorem tailS_rev (b : BitVec 32) : strOfNums [un (rev b) / 16777216, un (rev b) / 65536 % 256, un (rev b) / 256 % 256, un (rev b) % 256] = tailS b := by
  have hr := un_nonneg (rev b); have hb := un_nonneg b; have hr' := un_le (rev b); have hb' := un_le b
  have e0 := congrArg (fun x : BitVec 8 => (x.toNat : Int)) (rev0 b)
  have e1 := congrArg (fun x : BitVec 8 => (x.toNat : Int)) (rev1 b)
  have e2 := congrArg (fun x : BitVec 8 => (x.toNat : Int)) (rev2 b)
  have e3 := congrArg (fun x : BitVec 8 => (x.toNat : Int)) (rev3 b)
  simp only [← un_low, ← un_shr] at e0 e1 e2 e3
  unfold tailS
  congr 1
  simp only [List.cons.injEq, and_true]
  omega
theorem tailS_size (b : BitVec 32) : (tailS b).size = 4 := rfl
theorem tailS_inj {a b : BitVec 32} (h : tailS a = tailS b) : a = b := by
  apply un_inj
  have ha := un_nonneg a; have hb := un_nonneg b; have ha' := un_le a; have hb' := un_le b
  have hl := congrArg (fun x => (x.data.toList.map fun c => c.toNat)) h
  simp only [tailS, strOfNums_data, List.map_cons, List.map_nil, List.cons.injEq, UInt8.toNat_ofNat'] at hl
  omega
end Crc
end Go.Proofs.Ytlkaamednhpdcaa
