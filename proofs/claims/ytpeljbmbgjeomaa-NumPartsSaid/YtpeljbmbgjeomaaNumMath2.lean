/-
  Plain mathematics of short bytes: they are written from the low end on, and read back. No program in sight.
-/
import Derived.Test.YtpeljbmbgjeomaaNumMath
namespace Go.Proofs.Ytpeljbmbgjeomaa
set_option linter.unusedVariables false
namespace Num
set_option maxRecDepth 4000 in
theorem or128 (n : Nat) (h : n < top) : IntKind.u8.wrap (bits .or .u64 (n : Int) 128) = nb (UInt8.ofNat (n % 128 + 128)) := by
  unfold top at h
  have e := or_nat64 n 128 (by omega) (by omega)
  rw [show (128 : Int) = ((128 : Nat) : Int) from rfl, e, u8_nat]
  congr 1
  apply UInt8.toNat_inj.1
  rw [UInt8.toNat_ofNat', UInt8.toNat_ofNat']
  have h1 : (n ||| 128) % 2 ^ 8 = (n % 2 ^ 8) ||| (128 % 2 ^ 8) := Nat.or_mod_two_pow
  have h2 : ∀ a : Fin 256, a.val ||| 128 = a.val % 128 + 128 := by decide
  have h3 := h2 ⟨n % 256, by omega⟩
  simp only at h3
  rw [h1, show (2 : Nat) ^ 8 = 256 from rfl, show 128 % 256 = 128 from rfl, h3]
  omega
/-- Where the writer of short bytes is: these are written, n is to be written. -/
structure ShJ (N n : Nat) (pre : List UInt8) : Prop where
  few : pre.length ≤ 5
  lt : n < 2 ^ (40 - 7 * pre.length)
  eq : pre ++ shortL (5 - pre.length) n = shortL 5 N
theorem ShJ.small {N n : Nat} {pre : List UInt8} (h : ShJ N n pre) : n < 1099511627776 := by
  have h1 := h.lt
  have : 2 ^ (40 - 7 * pre.length) ≤ 2 ^ 40 := Nat.pow_le_pow_right (by decide) (by omega)
  omega
theorem ShJ.start {N : Nat} (h : N < top) : ShJ N N [] := ⟨by simp, by unfold top at h; simp; omega, rfl⟩
theorem sh_lt {k n : Nat} (hk : k ≤ 5) (h : n < 2 ^ (40 - 7 * k)) (h1 : 128 ≤ n) : k < 5 ∧ n / 128 < 2 ^ (40 - 7 * (k + 1)) := by
  have : k = 0 ∨ k = 1 ∨ k = 2 ∨ k = 3 ∨ k = 4 ∨ k = 5 := by omega
  rcases this with rfl | rfl | rfl | rfl | rfl | rfl <;> simp at h ⊢ <;> omega
theorem ShJ.step {N n : Nat} {pre : List UInt8} (h : ShJ N n pre) (h1 : 128 ≤ n) : pre.length < 5 ∧ ShJ N (n / 128) (pre ++ [UInt8.ofNat (n % 128 + 128)]) := by
  obtain ⟨q1, q2⟩ := sh_lt h.few h.lt h1
  refine ⟨q1, by simp; omega, by simpa using q2, ?_⟩
  rw [← h.eq]
  obtain ⟨f, hf⟩ : ∃ f, 5 - pre.length = f + 1 := ⟨4 - pre.length, by omega⟩
  rw [hf, shortL, if_neg (by omega), List.append_assoc]
  congr 1
  simp; congr 1; omega
theorem ShJ.last {N n : Nat} {pre : List UInt8} (h : ShJ N n pre) (h1 : n < 128) : pre ++ [UInt8.ofNat n] = shortL 5 N := by
  rw [← h.eq]
  congr 1
  cases 5 - pre.length with
  | zero => rfl
  | succ f => rw [shortL, if_pos h1]
theorem shortL_len (f n : Nat) : 1 ≤ (shortL f n).length ∧ (shortL f n).length ≤ f + 1 := by
  induction f generalizing n with
  | zero => simp [shortL]
  | succ f ih =>
    rw [shortL]; split
    · simp
    · have := ih (n / 128); simp; omega
/-- What bytes say, the low end first. -/
def valB : List UInt8 → Nat
  | [] => 0
  | c :: r => c.toNat % 128 + 128 * valB r
theorem valB_snoc (l : List UInt8) (c : UInt8) : valB (l ++ [c]) = valB l + c.toNat % 128 * 128 ^ l.length := by
  induction l with
  | nil => simp [valB]
  | cons b l ih => simp only [List.cons_append, valB, ih, List.length_cons, Nat.pow_succ, Nat.mul_add]; rw [Nat.mul_left_comm 128, Nat.mul_comm 128 (128 ^ _)]; omega
theorem valB_lt (l : List UInt8) : valB l < 128 ^ l.length := by
  induction l with
  | nil => simp [valB]
  | cons b l ih => simp only [valB, List.length_cons, Nat.pow_succ]; omega
theorem short_back (pre : List UInt8) (c : UInt8) (hc : c.toNat < 128) (hp : ∀ b ∈ pre, 128 ≤ b.toNat) (f : Nat) (hf : pre.length ≤ f) : shortL f (valB (pre ++ [c])) = pre ++ [c] ↔ (pre = [] ∨ c.toNat ≠ 0) := by
  induction pre generalizing f with
  | nil =>
    have hv : valB ([] ++ [c]) = c.toNat := by simp [valB]; omega
    rw [hv]
    have : shortL f c.toNat = [c] := by cases f <;> simp [shortL, hc]
    simp [this]
  | cons b p ih =>
    obtain ⟨f', rfl⟩ : ∃ f', f = f' + 1 := ⟨f - 1, by simp at hf; omega⟩
    have hb := hp b (by simp)
    have hb2 := b.toNat_lt
    have ih := ih (fun x hx => hp x (by simp [hx])) f' (by simpa using hf)
    have hsn := valB_snoc p c
    generalize hV : valB (p ++ [c]) = V at *
    have hv : valB (b :: p ++ [c]) = b.toNat % 128 + 128 * V := by simp [valB, hV]
    rw [hv, shortL]
    by_cases hV0 : V = 0
    · subst hV0
      rw [if_pos (by omega)]
      have hc0 : c.toNat = 0 := by
        have hpos : 0 < 128 ^ p.length := Nat.pow_pos (by decide)
        have : c.toNat % 128 * 128 ^ p.length = 0 := by omega
        rcases Nat.mul_eq_zero.1 this with h | h <;> omega
      simp [hc0]
    · rw [if_neg (by omega)]
      have e1 : UInt8.ofNat ((b.toNat % 128 + 128 * V) % 128 + 128) = b := by apply UInt8.toNat_inj.1; rw [UInt8.toNat_ofNat']; omega
      have e2 : (b.toNat % 128 + 128 * V) / 128 = V := by omega
      rw [e1, e2]
      simp only [List.cons_append, List.cons.injEq, true_and, reduceCtorEq, false_or]
      rw [ih]
      constructor
      · rintro (h | h)
        · subst h
          simp at hsn; intro h0; rw [h0] at hsn; simp [valB] at hsn; omega
        · exact h
      · exact fun h => .inr h
/-- What was written is read. -/
theorem readL_short (f : Nat) : ∀ (i m n : Nat) (s : List UInt8), i + f = 5 → n < 2 ^ (40 - 7 * i) → m < 128 ^ i → (0 < i → 0 < n) → readL i m (shortL f n ++ s) = (m + n * 128 ^ i, s, 0) := by
  induction f with
  | zero =>
    intro i m n s hi hn hm hz
    obtain rfl : i = 5 := by omega
    have hn' : n < 32 := by simpa using hn
    have e : (UInt8.ofNat n).toNat = n := by rw [UInt8.toNat_ofNat']; omega
    simp only [shortL, List.cons_append, List.nil_append, readL, e]
    rw [if_neg (by omega), if_neg]
    · rw [Nat.mod_eq_of_lt (by omega)]
    · unfold top; have h5 : (128 : Nat) ^ 5 = 34359738368 := rfl
      rw [h5] at hm ⊢; rintro (h | h | h) <;> omega
  | succ f ih =>
    intro i m n s hi hn hm hz
    rw [shortL]
    have hn40 : m + n * 128 ^ i < top := by
      have hi' : i = 0 ∨ i = 1 ∨ i = 2 ∨ i = 3 ∨ i = 4 := by omega
      unfold top
      rcases hi' with rfl | rfl | rfl | rfl | rfl <;> simp at hn hm ⊢ <;> omega
    split
    · rename_i h
      have e : (UInt8.ofNat n).toNat = n := by rw [UInt8.toNat_ofNat']; omega
      simp only [List.cons_append, List.nil_append, readL, e]
      rw [Nat.mod_eq_of_lt h, if_neg (by omega), if_neg]
      rintro (h1 | h1 | h1) <;> omega
    · rename_i h
      have e : (UInt8.ofNat (n % 128 + 128)).toNat = n % 128 + 128 := by rw [UInt8.toNat_ofNat']; omega
      simp only [List.cons_append, readL, e]
      rw [if_pos ⟨by omega, by omega⟩]
      have hp : m + (n % 128 + 128) % 128 * 128 ^ i < 128 ^ (i + 1) := by
        rw [Nat.pow_succ]
        have h1 : (n % 128 + 128) % 128 ≤ 127 := by omega
        have h2 : (n % 128 + 128) % 128 * 128 ^ i ≤ 127 * 128 ^ i := Nat.mul_le_mul_right _ h1
        omega
      have hl := (sh_lt (k := i) (by omega) hn (by omega)).2
      rw [ih (i + 1) _ (n / 128) s (by omega) hl hp (by omega)]
      congr 1
      rw [Nat.pow_succ]
      have h3 : (n % 128 + 128) % 128 = n % 128 := by omega
      have h4 : n * 128 ^ i = (n % 128) * 128 ^ i + (n / 128) * (128 ^ i * 128) := by
        rw [Nat.mul_comm (128 ^ i) 128, ← Nat.mul_assoc, ← Nat.add_mul]; congr 1; omega
      rw [h3, h4]; omega
theorem readP_short (n : Nat) (h : n < top) (s : List UInt8) : readL 0 0 (shortL 5 n ++ s) = (n, s, 0) := by
  have := readL_short 5 0 0 n s rfl (by unfold top at h; simpa using h) (by simp) (by omega)
  simpa using this
/-- What is read has its bytes. -/
theorem readL_has (l : List UInt8) : ∀ (pre : List UInt8), (∀ b ∈ pre, 128 ≤ b.toNat) → pre.length ≤ 5 → ∀ n r, readL pre.length (valB pre) l = (n, r, 0) → n < top ∧ shortL 5 n ++ r = pre ++ l := by
  induction l with
  | nil => intro pre _ _ n r h; simp [readL] at h
  | cons c l ih =>
    intro pre hp hl n r h
    rw [readL, ← valB_snoc] at h
    split at h
    · rename_i hc
      have := ih (pre ++ [c]) (fun b hb => by
        rcases List.mem_append.1 hb with hb | hb
        · exact hp b hb
        · simp at hb; subst hb; exact hc.1) (by simp; omega) n r (by simpa using h)
      simpa using this
    · split at h
      · simp at h
      · rename_i h1 h2
        simp only [not_or] at h2
        simp only [Prod.mk.injEq, and_true] at h
        obtain ⟨rfl, rfl⟩ := h
        refine ⟨by omega, ?_⟩
        have hb := (short_back pre c (by omega) hp 5 hl).2 (by
          by_cases he : pre = []
          · exact .inl he
          · right; have : 0 < pre.length := List.length_pos_iff.2 he
            omega)
        rw [hb]; simp
theorem readP_has (s : List UInt8) (n : Nat) (r : List UInt8) (h : readL 0 0 s = (n, r, 0)) : n < top ∧ shortL 5 n ++ r = s := by
  simpa using readL_has s [] (by simp) (by simp) n r (by simpa [valB] using h)
theorem readL_err (l : List UInt8) : ∀ i m n r e, readL i m l = (n, r, e) → e = 0 ∨ (n = 0 ∧ r = []) := by
  induction l with
  | nil => intro i m n r e h; simp [readL] at h; exact .inr ⟨h.1.symm, h.2.1⟩
  | cons c l ih =>
    intro i m n r e h
    rw [readL] at h
    split at h
    · exact ih _ _ _ _ _ h
    · split at h
      · simp only [Prod.mk.injEq] at h; exact .inr ⟨h.1.symm, h.2.1.symm⟩
      · simp only [Prod.mk.injEq] at h; exact .inl h.2.2.symm
end Num
end Go.Proofs.Ytpeljbmbgjeomaa
