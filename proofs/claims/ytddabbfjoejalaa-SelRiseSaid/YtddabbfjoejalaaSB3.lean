/-
  The walks of Turn, Ones, Cat over the view of memory; the plain laws of what they answer.
-/
import Derived.Test.YtddabbfjoejalaaSB2
namespace Go.Proofs.Ytddabbfjoejalaa
open Go.RowKit
open Bits Mv
set_option maxRecDepth 20000
set_option linter.unusedVariables false
set_option linter.unusedSimpArgs false
namespace Bits
/-! ### A bit that is turned -/
def flip (L : List Bool) (i : Nat) : List Bool := L.set i (!(L.getD i false))
theorem flip_length (L : List Bool) (i : Nat) : (flip L i).length = L.length := by simp [flip]
def mask (t : Nat) : UInt8 := UInt8.ofNat (2 ^ t)
theorem mask_nat (t : Nat) (h : t < 8) : (mask t).toNat = 2 ^ t := by
  unfold mask; rw [UInt8.toNat_ofNat']
  have : 2 ^ t ≤ 2 ^ 7 := Nat.pow_le_pow_right (by decide) (by omega)
  have := Nat.two_pow_pos t
  omega
theorem tb (x i : Nat) : (x / 2 ^ i % 2 == 1) = x.testBit i := by
  rw [Nat.testBit_eq_decide_div_mod_eq, Bool.eq_iff_iff]; simp
theorem bit_xor (a : UInt8) (t u : Nat) (ht : t < 8) : ((a ^^^ mask t).toNat / 2 ^ u % 2 == 1) = ((a.toNat / 2 ^ u % 2 == 1) != decide (t = u)) := by
  rw [tb, tb, UInt8.toNat_xor, mask_nat t ht, Nat.testBit_xor, Nat.testBit_two_pow]
theorem isBit_set (B : List UInt8) (j k : Nat) (c : UInt8) (hj : j < B.length) : isBit (B.set j c) k = if k / 8 = j then (c.toNat / 2 ^ (7 - k % 8) % 2 == 1) else isBit B k := by
  unfold isBit
  by_cases h : k / 8 = j
  · rw [if_pos h, h, at8_set_same _ _ _ hj]
  · rw [if_neg h, at8_set_other _ _ _ _ h]
theorem turn_bytes (B : List UInt8) (N i : Nat) (hR : Right B N) (hi : i < N) : B.set (i / 8) (at8 B (i / 8) ^^^ mask (7 - i % 8)) = pack (flip (upto B N) i) := by
  have hj : i / 8 < B.length := by rw [hR.1]; omega
  have hbit : ∀ k, isBit (B.set (i / 8) (at8 B (i / 8) ^^^ mask (7 - i % 8))) k = (isBit B k != decide (k = i)) := fun k => by
    rw [isBit_set _ _ _ _ hj]
    by_cases h : k / 8 = i / 8
    · rw [if_pos h, bit_xor _ _ _ (by omega)]
      have e : decide (7 - i % 8 = 7 - k % 8) = decide (k = i) := by
        rw [Bool.eq_iff_iff]; simp only [decide_eq_true_eq]; omega
      rw [e]; unfold isBit; rw [h]
    · rw [if_neg h]
      have : decide (k = i) = false := by rw [decide_eq_false_iff_not]; intro x; subst x; exact h rfl
      rw [this]; simp
  have hR2 : Right (B.set (i / 8) (at8 B (i / 8) ^^^ mask (7 - i % 8))) N := by
    refine ⟨by rw [List.length_set]; exact hR.1, fun k h1 h2 => ?_⟩
    rw [List.length_set] at h2
    rw [hbit, hR.2 k h1 h2]
    have : decide (k = i) = false := by rw [decide_eq_false_iff_not]; omega
    rw [this]; rfl
  refine right_ext (n := N) hR2 ?_ ?_
  · have := right_pack (flip (upto B N) i)
    rwa [flip_length, upto_length] at this
  · have h9 := upto_pack (flip (upto B N) i)
    rw [flip_length, upto_length] at h9
    rw [h9]
    apply List.ext_getElem
    · simp [upto_length, flip_length]
    · intro k h1 h2
      have hk : k < N := by simpa [upto_length] using h1
      simp only [upto, List.getElem_map, List.getElem_range]
      rw [hbit]
      simp only [flip, List.getElem_set, upto, List.getElem_map, List.getElem_range]
      by_cases h : i = k
      · subst h; simp [List.getD, hi]
      · have : decide (k = i) = false := by rw [decide_eq_false_iff_not]; omega
        rw [this, if_neg h]; simp
noncomputable def turnP (s : ByteArray) (N i : Int) : Value :=
  if chk s.data.toList N ≠ 0 then two bv0 2
  else if i < 0 ∨ N ≤ i then two (bv s N) 1
  else two (bv (bs (pack (flip (upto s.data.toList N.toNat) i.toNat))) N) 0
theorem cellsB_get (l : List UInt8) (j : Nat) (h : j < l.length) : (cellsB l)[j]? = some (.int .u8 (nb (at8 l j))) := by
  simp [cellsB, List.getElem?_map, List.getElem?_eq_getElem h, at8_get l j h]
theorem cellsB_set (l : List UInt8) (j : Nat) (c : UInt8) : (cellsB l).set j (.int .u8 (nb c)) = cellsB (l.set j c) := by
  simp [cellsB, List.map_set]
theorem mask_int (x : Int) (h0 : 0 ≤ x) (h1 : x < 8) : IntKind.u8.wrap (1 * 2 ^ x.toNat) = nb (mask x.toNat) := by
  have e : ((2 : Int) ^ x.toNat) = ((2 ^ x.toNat : Nat) : Int) := by simp
  have : 2 ^ x.toNat ≤ 2 ^ 7 := Nat.pow_le_pow_right (by decide) (by omega)
  have hp := Nat.two_pow_pos x.toNat
  rw [Int.one_mul, e, IntWalk.u8_in _ (by omega), nb_byte, mask_nat _ (by omega)]

/-! ### Ones -/
theorem ones_byte (c : UInt8) : (Lib.onesCount c.toNat) = (numB c.toNat 8).count true := by
  have : ∀ j : Fin 256, Lib.onesCount j.val = (numB j.val 8).count true := by decide +kernel
  exact this ⟨c.toNat, c.toNat_lt⟩
theorem upto_eight (B : List UInt8) (k : Nat) : upto B (8 * (k + 1)) = upto B (8 * k) ++ numB (at8 B k).toNat 8 := by
  rw [← slc_upto, ← slc_upto, show 8 * (k + 1) = 8 * k + 8 from by omega, slc_add, Nat.zero_add, slc_byte B (8 * k) 8 (by omega)]
  rw [show 8 * k / 8 = k from by omega, show 8 - 8 * k % 8 - 8 = 0 from by omega, Nat.pow_zero, Nat.div_one]
theorem ones_all (B : List UInt8) (N : Nat) (hR : Right B N) : (upto B (8 * B.length)).count true = (upto B N).count true := by
  have hl := hR.1
  have e : upto B (8 * B.length) = upto B N ++ slc B N (8 * B.length - N) := by
    rw [← slc_upto, ← slc_upto]
    conv => lhs; rw [show 8 * B.length = N + (8 * B.length - N) from by omega, slc_add, Nat.zero_add]
  have h0 : slc B N (8 * B.length - N) = List.replicate (8 * B.length - N) false := by
    apply List.ext_getElem
    · simp [slc_length]
    · intro i h1 h2
      simp only [slc_length] at h1
      simp only [slc, List.getElem_map, List.getElem_range, List.getElem_replicate]
      exact hR.2 _ (by omega) (by omega)
  rw [e, h0, List.count_append, List.count_replicate]
  simp
theorem count_le (L : List Bool) : L.count true ≤ L.length := List.count_le_length
noncomputable def onesP (s : ByteArray) (N : Int) : Value :=
  if chk s.data.toList N ≠ 0 then two (.int .i64 0) 2
  else two (.int .i64 ((upto s.data.toList N.toNat).count true : Nat)) 0
end Bits
set_option maxHeartbeats 2000000 in
theorem bitsV_Ones (s : ByteArray) (N : Int) (S : Mem) (hs : s.size ≤ 9223372036854775807) :
    ACall Try.prog 44 #[.agg #[.string s, .int .i64 N]] S fun r S' => r = onesP s N ∧ S' = S := by
  unfold onesP
  refine ACall.enter (args := [.agg #[.string s, .int .i64 N]]) (rs := [.tmp 2, .tmp 3]) 28 [(0, .agg #[.string s, .int .i64 N])] Try.func44 rfl rfl (Nat.le_of_ble_eq_true rfl) rfl ⟨rfl, trivial⟩ ?_
  refine AWP.seq ?_
  refine AWP.region ?_
  refine ARun.boxA (cs := [_, _]) (lit_lt rfl) rfl ?_
  intro b1 f1
  have g1 := f1
  repeat ((with_reducible replace g1 := fresh_set g1); obtain ⟨g1, _⟩ := g1)
  (try simp only [List.length_cons, List.length_nil, Nat.zero_add, Nat.reduceAdd])
  refine rC (Calm.assign rfl) ?_
  refine rC (Calm.assign rfl) ?_
  refine arun_nil ?_
  refine athen_n ?_
  refine AWP.seq ?_
  refine AWP.seq ?_
  refine AWP.region ?_
  refine rC (ldA_ (cs := [_, _]) ty_agg_47 ty_size_47 rfl) ?_
  refine ARun.call (lit_lt rfl) go_56 rfl (bitsV_Check s N _ (by omega)) ?_
  rintro _ _ ⟨rfl, rfl⟩
  refine rC (Calm.assign rfl) ?_
  refine arun_nil ?_
  refine athen_n ?_
  refine AWP.sub [(0, _), (1, _), (2, _), (3, _), (4, _)] ⟨rfl, rfl, rfl, rfl, rfl, trivial⟩ ?_
  refine AWP.seq ?_
  refine AWP.region ?_
  refine rC (Calm.move rfl) ?_
  refine rC (Calm.bin rfl rfl b_neq) ?_
  refine arun_nil ?_
  refine athen_n ?_
  refine AWP.sub [(0, _), (1, _), (2, _), (3, _), (4, _), (11, _)] ⟨rfl, rfl, rfl, rfl, rfl, rfl, trivial⟩ ?_
  refine AWP.condB rfl (fun hc => ?_) (fun hc => ?_)
  · have hc := bnot_t hc
    refine AWP.seq ?_
    refine AWP.region ?_
    refine rC (Calm.move rfl) ?_
    refine rC (Calm.assign rfl) ?_
    refine rC (Calm.assign rfl) ?_
    refine arun_nil ?_
    refine athen_n ?_
    refine AWP.sub [(0, _), (1, _), (2, _), (3, _), (4, _), (11, _)] ⟨rfl, rfl, rfl, rfl, rfl, rfl, trivial⟩ ?_
    refine AWP.ret ?_
    refine athen_ret ?_
    refine ⟨_, S, ⟨_, _, rfl, ⟨_, _, rfl, rfl, rfl⟩, rfl⟩, less_, ?_⟩
    exact ⟨by rw [if_pos hc, chk_two hc]; rfl, rfl⟩
  · have hc := bnot_f hc
    rw [if_neg (fun h => h hc)]
    obtain ⟨hN0, hN1, hR⟩ := chk_right hc
    have hs1 : s.size = (N.toNat + 7) / 8 := by rw [← hR.1]; exact size_list s
    have hsl := size_list s
    refine AWP.skip ?_
    refine athen_n ?_
    refine AWP.seq ?_
    refine AWP.region ?_
    refine rC (Calm.assign rfl) ?_
    refine arun_nil ?_
    refine athen_n ?_
    refine AWP.seq ?_
    refine AWP.seq ?_
    refine AWP.region ?_
    refine rC (Calm.fieldAddr ty_field_47_0 rfl) ?_
    refine rC (ld_ ty_plain_9 rfl) ?_
    refine ARun.call (lit_lt rfl) go_71 rfl (ACall.of_calls fun w => lib_Clone s w (by omega)) ?_
    rintro _ _ ⟨rfl, rfl⟩
    refine ARun.toBytes (lit_lt rfl) ty_str_9 ty_bytes_79 rfl ?_
    intro b16 c16 f16 hc16
    have g16 := f16
    repeat ((with_reducible replace g16 := fresh_set g16); obtain ⟨g16, _⟩ := g16)
    refine rC (Calm.lenSl Try.underlying79 rfl) ?_
    refine rC (Calm.move rfl) ?_
    refine arun_nil ?_
    refine athen_n ?_
    refine AWP.sub [(0, _), (1, _), (2, _), (3, _), (4, _), (11, _), (5, _), (16, _), (17, _), (18, _)] ⟨rfl, rfl, rfl, rfl, rfl, rfl, rfl, rfl, rfl, rfl, trivial⟩ ?_
    refine AWP.block ?_
    refine AWP.loop (X := Nat) (fun x => [(5, .int .i64 ((upto s.data.toList (8 * x)).count true : Nat)), (16, .slice (some ⟨b16, 0, none⟩) s.size c16), (17, .int .i64 s.size), (18, .int .i64 x)]) (fun x => (S.set b1 ⟨47, [.string s, .int .i64 N], 2⟩).set b16 ⟨5, cellsB s.data.toList, c16⟩) (fun x => x ≤ s.size) (fun x => s.size - x) (0) ⟨rfl, rfl, rfl, rfl, trivial⟩ less_ (Nat.zero_le _) ?_
    rintro k hk
    (try dsimp only at *)
    refine AWP.seq ?_
    refine AWP.region ?_
    refine rC (Calm.bin rfl rfl b_lss) ?_
    refine arun_nil ?_
    refine athen_n ?_
    refine AWP.seq ?_
    refine AWP.condB rfl (fun hl => ?_) (fun hl => ?_)
    · have hl : k < s.size := by have := of_decide_eq_true hl; omega
      have hcn := count_le (upto s.data.toList (8 * k))
      rw [upto_length] at hcn
      have hob := ones_byte (at8 s.data.toList k)
      have hob2 : Lib.onesCount (at8 s.data.toList k).toNat ≤ 8 := by rw [hob]; exact Nat.le_trans (count_le _) (by rw [numB_length]; omega)
      refine AWP.skip ?_
      refine athen_n ?_
      refine AWP.seq ?_
      refine AWP.block ?_
      refine AWP.seq ?_
      refine AWP.region ?_
      refine rC (Calm.indexS Try.underlying79 ty_size_5 rfl rfl (by omega) (by omega)) ?_
      refine rC (Calm.load ty_plain_5 rfl ((rd_set_same _ _ _ _).trans (by show (cellsB s.data.toList)[0 + ((k : Int)).toNat * 1]? = _; rw [Nat.zero_add, Nat.mul_one, Int.toNat_natCast]; exact cellsB_get _ _ (by omega)))) ?_
      refine rC (Calm.assign rfl) ?_
      refine arun_nil ?_
      refine athen_n ?_
      refine AWP.sub [(5, _), (16, _), (17, _), (18, _), (19, _), (7, _)] ⟨rfl, rfl, rfl, rfl, rfl, rfl, trivial⟩ ?_
      refine AWP.region ?_
      refine rC (Calm.move rfl) ?_
      refine rC (Calm.move rfl) ?_
      refine ARun.call (lit_lt rfl) go_72 rfl (bits_Ones8 _ _ (nb_nonneg _) (nb_le _)) ?_
      rintro _ _ ⟨rfl, rfl⟩
      have e3 : (nb (at8 s.data.toList k)).toNat = (at8 s.data.toList k).toNat := by unfold nb; omega
      rw [e3]
      refine rC (Calm.bin rfl rfl b_add_i64) ?_
      refine rC (Calm.assign rfl) ?_
      refine arun_nil ?_
      refine ain_n ?_
      refine athen_n ?_
      refine AWP.sub [(5, _), (16, _), (17, _), (18, _), (19, _), (7, _)] ⟨rfl, rfl, rfl, rfl, rfl, rfl, trivial⟩ ?_
      refine AWP.region ?_
      refine rC (Calm.bin rfl rfl b_add_i64) ?_
      refine rC (Calm.move rfl) ?_
      refine arun_nil ?_
      refine athen_n ?_
      refine ⟨k + 1, ?_, ?_, ?_, ?_⟩
      all_goals (try dsimp only)
      · exact ⟨some_int (by rw [upto_eight, List.count_append, ← hob]; omega), rfl, rfl, some_int (by omega), trivial⟩
      · exact Mem.Less.refl _
      · exact hl
      · omega
    · have hl : k = s.size := by have := of_decide_eq_false hl; omega
      rw [hl, hsl, ones_all s.data.toList N.toNat hR]
      refine AWP.exit ?_
      refine athen_exit ?_
      refine athen_exit ?_
      refine ain_same ?_
      refine athen_n ?_
      refine AWP.seq ?_
      refine AWP.region ?_
      refine rC (Calm.move rfl) ?_
      refine rC (Calm.assign rfl) ?_
      refine rC (Calm.assign rfl) ?_
      refine arun_nil ?_
      refine athen_n ?_
      refine AWP.sub [(5, _), (16, _), (17, _), (18, _), (19, _), (2, _), (3, _)] ⟨rfl, rfl, rfl, rfl, rfl, rfl, rfl, trivial⟩ ?_
      refine AWP.ret ?_
      refine ⟨_, S, ⟨_, _, rfl, ⟨_, _, rfl, rfl, rfl⟩, rfl⟩, less_, ?_⟩
      exact ⟨rfl, rfl⟩
end Go.Proofs.Ytddabbfjoejalaa
