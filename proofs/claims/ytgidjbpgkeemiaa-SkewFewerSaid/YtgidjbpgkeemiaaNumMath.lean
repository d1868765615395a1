/-
  Plain mathematics of numbers as bytes: five bytes, short bytes, records, their order. No program in sight.
-/
import Derived.Test.YtgidjbpgkeemiaaBase
namespace Go.Proofs.Ytgidjbpgkeemiaa
set_option linter.unusedVariables false
/-! ### Operators on natural numbers -/
theorem or_nat64 (a b : Nat) (ha : a < 18446744073709551616) (hb : b < 18446744073709551616) : bits .or .u64 (a : Int) (b : Int) = ((a ||| b : Nat) : Int) := by
  have h : a ||| b < 2 ^ 64 := Nat.or_lt_two_pow (by omega) (by omega)
  show IntKind.u64.wrap (((BitVec.ofInt 64 (a : Int)) ||| (BitVec.ofInt 64 (b : Int))).toNat : Int) = _
  rw [BitVec.ofInt_natCast, BitVec.ofInt_natCast, BitVec.toNat_or, BitVec.toNat_ofNat, BitVec.toNat_ofNat, Nat.mod_eq_of_lt (by omega), Nat.mod_eq_of_lt (by omega)]
  exact IntWalk.u64_in _ (by omega)
theorem and_nat8 (a b : Nat) (ha : a < 256) (hb : b < 256) : bits .and .u8 (a : Int) (b : Int) = ((a &&& b : Nat) : Int) := by
  have h : a &&& b < 2 ^ 8 := Nat.and_lt_two_pow _ (by omega)
  show IntKind.u8.wrap (((BitVec.ofInt 8 (a : Int)) &&& (BitVec.ofInt 8 (b : Int))).toNat : Int) = _
  rw [BitVec.ofInt_natCast, BitVec.ofInt_natCast, BitVec.toNat_and, BitVec.toNat_ofNat, BitVec.toNat_ofNat, Nat.mod_eq_of_lt (by omega), Nat.mod_eq_of_lt (by omega)]
  exact IntWalk.u8_in _ (by omega)
theorem and_nat64 (a b : Nat) (ha : a < 18446744073709551616) (hb : b < 18446744073709551616) : bits .and .u64 (a : Int) (b : Int) = ((a &&& b : Nat) : Int) := by
  have h : a &&& b < 2 ^ 64 := Nat.and_lt_two_pow _ (by omega)
  show IntKind.u64.wrap (((BitVec.ofInt 64 (a : Int)) &&& (BitVec.ofInt 64 (b : Int))).toNat : Int) = _
  rw [BitVec.ofInt_natCast, BitVec.ofInt_natCast, BitVec.toNat_and, BitVec.toNat_ofNat, BitVec.toNat_ofNat, Nat.mod_eq_of_lt (by omega), Nat.mod_eq_of_lt (by omega)]
  exact IntWalk.u64_in _ (by omega)
theorem or_join_nat (q y k : Nat) (hy : y < 2 ^ k) : y ||| q * 2 ^ k = q * 2 ^ k + y := by
  rw [Nat.or_comm, Nat.mul_comm q, Nat.two_pow_add_eq_or_of_lt hy]
theorem size_list (s : ByteArray) : s.size = s.data.toList.length := (Array.length_toList (xs := s.data)).symm
theorem u8_nat (x : Nat) : IntKind.u8.wrap (x : Int) = nb (UInt8.ofNat x) := by
  rw [IntKind.wrap_u8]; unfold nb; rw [UInt8.toNat_ofNat']; omega
namespace Num
abbrev top : Nat := 1099511627776
/-- A number's five bytes. -/
def five (n : Nat) : List UInt8 := [UInt8.ofNat (n / 4294967296), UInt8.ofNat (n / 16777216), UInt8.ofNat (n / 65536), UInt8.ofNat (n / 256), UInt8.ofNat n]
theorem five_length (n : Nat) : (five n).length = 5 := rfl
/-- Bytes read as a number, the big end first. -/
def ofB (l : List UInt8) : Nat := l.foldl (fun a b => 256 * a + b.toNat) 0
theorem ofB_snoc (l : List UInt8) (c : UInt8) : ofB (l ++ [c]) = 256 * ofB l + c.toNat := by simp [ofB]
theorem ofB_take (l : List UInt8) (k : Nat) (h : k < l.length) : ofB (l.take (k + 1)) = 256 * ofB (l.take k) + (at8 l k).toNat := by
  rw [List.take_succ_eq_append_getElem h, ofB_snoc, at8_get _ _ h]
theorem ofB_lt' (l : List UInt8) (a : Nat) : l.foldl (fun a b => 256 * a + b.toNat) a < (a + 1) * 256 ^ l.length := by
  induction l generalizing a with
  | nil => simp
  | cons c l ih =>
    have := ih (256 * a + c.toNat)
    have hc := c.toNat_lt
    rw [List.foldl_cons, List.length_cons, Nat.pow_succ, Nat.mul_comm (256 ^ l.length) 256, ← Nat.mul_assoc]
    exact Nat.lt_of_lt_of_le this (Nat.mul_le_mul_right _ (by omega))
theorem ofB_lt (l : List UInt8) : ofB l < 256 ^ l.length := by have := ofB_lt' l 0; simpa [ofB] using this
theorem ofB_le4 (l : List UInt8) (h : l.length ≤ 4) : ofB l < 4294967296 := by
  have h1 := ofB_lt l
  have h2 : 256 ^ l.length ≤ 256 ^ 4 := Nat.pow_le_pow_right (by decide) h
  omega
theorem ofB_le5 (l : List UInt8) (h : l.length ≤ 5) : ofB l < 1099511627776 := by
  have h1 := ofB_lt l
  have h2 : 256 ^ l.length ≤ 256 ^ 5 := Nat.pow_le_pow_right (by decide) h
  omega
theorem ofB_small (l : List UInt8) (k : Nat) (h : k ≤ 4) : ofB (l.take k) < 4294967296 := ofB_le4 _ (by rw [List.length_take]; omega)
theorem ofB_five (n : Nat) (h : n < top) : ofB (five n) = n := by
  simp only [ofB, five, List.foldl_cons, List.foldl_nil, UInt8.toNat_ofNat']
  unfold top at h; omega
theorem five_ofB (l : List UInt8) (h : l.length = 5) : five (ofB l) = l := by
  match l, h with
  | [a, b, c, d, e], _ =>
    have ha := a.toNat_lt; have hb := b.toNat_lt; have hc := c.toNat_lt; have hd := d.toNat_lt; have he := e.toNat_lt
    have hv : ofB [a, b, c, d, e] = 256 * (256 * (256 * (256 * a.toNat + b.toNat) + c.toNat) + d.toNat) + e.toNat := by simp [ofB]
    rw [hv]; simp only [five, List.cons.injEq, and_true]
    refine ⟨?_, ?_, ?_, ?_, ?_⟩ <;> (apply UInt8.toNat_inj.1; rw [UInt8.toNat_ofNat']; omega)
def two (s : ByteArray) (e : Int) : Value := .tuple #[.string s, .int .i64 e]
/-- A record of numbers. -/
def recB (l : List Nat) : List UInt8 := l.flatMap five
theorem recB_length (l : List Nat) : (recB l).length = 5 * l.length := by
  induction l with
  | nil => rfl
  | cons x l ih => simp only [recB, List.flatMap_cons, List.length_append, five_length, List.length_cons] at ih ⊢; omega
theorem recB_snoc (l : List Nat) (x : Nat) : recB (l ++ [x]) = recB l ++ five x := by simp [recB]
def recOK (l : List Nat) : Bool := 1 ≤ l.length && l.length ≤ 8 && l.all (· < top)
def recP (l : List Nat) : ByteArray × Int := if recOK l then (bs (recB l), 0) else (ByteArray.empty, 1)
def pairV (p : ByteArray × Int) : Value := two p.1 p.2
def getP (s : ByteArray) : Nat × Int := if s.size = 5 then (ofB s.data.toList, 0) else (0, 5)
def getV (p : Nat × Int) : Value := .tuple #[.int .u64 (p.1 : Nat), .int .i64 p.2]
/-- Short bytes. -/
def shortL : Nat → Nat → List UInt8
  | 0, n => [UInt8.ofNat n]
  | f + 1, n => if n < 128 then [UInt8.ofNat n] else UInt8.ofNat (n % 128 + 128) :: shortL f (n / 128)
def shortP (n : Nat) : ByteArray × Int := if n < top then (bs (shortL 5 n), 0) else (ByteArray.empty, 1)
/-- Short bytes read, from place i on, where n was read. -/
def readL : Nat → Nat → List UInt8 → Nat × List UInt8 × Int
  | i, n, [] => (0, [], 5)
  | i, n, c :: r =>
    let m := n + c.toNat % 128 * 128 ^ i
    if 128 ≤ c.toNat ∧ i < 5 then readL (i + 1) m r
    else if 128 ≤ c.toNat ∨ top ≤ m ∨ (0 < i ∧ c.toNat = 0) then (0, [], 7)
    else (m, r, 0)
def readP (s : ByteArray) : Nat × List UInt8 × Int := readL 0 0 s.data.toList
def readV (p : Nat × List UInt8 × Int) : Value := .tuple #[.int .u64 (p.1 : Nat), .string (bs p.2.1), .int .i64 p.2.2]
/-- Records read. -/
def nrow (l : List UInt8) (w p : Nat) : List Nat := (List.range w).map fun k => ofB ((l.drop (p + 5 * k)).take 5)
def rowsTo (l : List UInt8) (w n : Nat) : List (List Nat) := (List.range n).map fun i => nrow l w (i * (5 * w))
def rowsOf (l : List UInt8) (w : Nat) : List (List Nat) := rowsTo l w (l.length / (5 * w))
theorem rowsTo_succ (l : List UInt8) (w n : Nat) : rowsTo l w (n + 1) = rowsTo l w n ++ [nrow l w (n * (5 * w))] := by simp [rowsTo, List.range_succ]
def splitE (s : ByteArray) (w : Int) : Int := if w < 1 ∨ 8 < w then 1 else if s.size % (5 * w.toNat) ≠ 0 then 5 else 0
def splitL (s : ByteArray) (w : Int) : List (List Nat) := if splitE s w = 0 then rowsOf s.data.toList w.toNat else []
/-- The order of numbers one behind the other. -/
def lessB : List Nat → List Nat → Bool
  | _, [] => false
  | [], _ :: _ => true
  | x :: a, y :: b => decide (x < y) || (decide (x = y) && lessB a b)
def cmpB : List Nat → List Nat → Int
  | [], [] => 0
  | _ :: _, [] => 1
  | [], _ :: _ => -1
  | x :: a, y :: b => if x < y then -1 else if y < x then 1 else cmpB a b
theorem cmpB_lt (a b : List Nat) : decide (cmpB a b < 0) = lessB a b := by
  induction a generalizing b with
  | nil => cases b <;> rfl
  | cons x a ih =>
    cases b with
    | nil => rfl
    | cons y b =>
      simp only [cmpB, lessB]
      by_cases h1 : x < y
      · simp [h1]
      · by_cases h2 : y < x
        · simp [h1, h2]; omega
        · obtain rfl : x = y := by omega
          simp [ih]
theorem lessB_irrefl (a : List Nat) : lessB a a = false := by
  induction a with
  | nil => rfl
  | cons x a ih => simp [lessB, ih]
theorem lessB_asymm (a b : List Nat) (h : lessB a b = true) : lessB b a = false := by
  induction a generalizing b with
  | nil => cases b <;> simp_all [lessB]
  | cons x a ih =>
    cases b with
    | nil => simp [lessB] at h
    | cons y b =>
      simp only [lessB, Bool.or_eq_true, decide_eq_true_eq, Bool.and_eq_true] at h
      rcases h with h | ⟨h1, h2⟩
      · simp only [lessB, Bool.or_eq_false_iff, decide_eq_false_iff_not, Bool.and_eq_false_iff]; exact ⟨by omega, .inl (by omega)⟩
      · subst h1; simp [lessB, ih b h2]
theorem lessB_total (a b : List Nat) (h1 : lessB a b = false) (h2 : lessB b a = false) : a = b := by
  induction a generalizing b with
  | nil => cases b with
    | nil => rfl
    | cons y b => simp [lessB] at h1
  | cons x a ih =>
    cases b with
    | nil => simp [lessB] at h2
    | cons y b =>
      simp only [lessB, Bool.or_eq_false_iff, decide_eq_false_iff_not, Bool.and_eq_false_iff] at h1 h2
      obtain rfl : x = y := by omega
      rw [ih b (h1.2.resolve_left (by simp)) (h2.2.resolve_left (by simp))]
end Num
end Go.Proofs.Ytgidjbpgkeemiaa
