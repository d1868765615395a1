/-
  Num: short bytes read by the document.
-/
import Derived.Test.YtpeljbmbgjeomaaVNum3
namespace Go.Proofs.Ytpeljbmbgjeomaa
open Go.RowKit
open Mv Num
set_option linter.unusedVariables false
set_option linter.unusedSimpArgs false
namespace Num
theorem mul_short (c : UInt8) (i : Nat) (hi : i ≤ 5) : IntKind.u64.wrap (((128 ^ i : Nat) : Int) * (nb c % 128)) = ((c.toNat % 128 * 128 ^ i : Nat) : Int) ∧ IntKind.u64.wrap (((128 ^ i : Nat) : Int) * 128) = ((128 ^ (i + 1) : Nat) : Int) ∧ 128 ^ i ≤ 34359738368 := by
  have h1 : 128 ^ i ≤ 128 ^ 5 := Nat.pow_le_pow_right (by decide) hi
  have h3 : (128 : Nat) ^ 5 = 34359738368 := rfl
  have h2 : c.toNat % 128 * 128 ^ i ≤ 127 * 128 ^ i := Nat.mul_le_mul_right _ (by omega)
  have e : (((128 ^ i : Nat) : Int) * (nb c % 128)) = ((c.toNat % 128 * 128 ^ i : Nat) : Int) := by
    rw [nb_byte, Nat.mul_comm]; simp
  refine ⟨by rw [e]; exact IntWalk.u64_in _ (by omega), ?_, by omega⟩
  rw [Nat.pow_succ]
  rw [IntWalk.u64_in _ (by omega)]; omega
theorem take_extract (s : ByteArray) (i : Nat) : (s.extract 0 i).data.toList = s.data.toList.take i := by rw [data_extract]; rfl
theorem short_take (s : ByteArray) (i m : Nat) (h : i < s.data.toList.length) (hi : i ≤ 5) (hp : ∀ b ∈ s.data.toList.take i, 128 ≤ b.toNat) (hc : (at8 s.data.toList i).toNat < 128) (hm : m = valB (s.data.toList.take (i + 1))) :
    bs (shortL 5 m) = s.extract 0 (i + 1) ↔ ¬ (0 < i ∧ (at8 s.data.toList i).toNat = 0) := by
  have ht : s.data.toList.take (i + 1) = s.data.toList.take i ++ [at8 s.data.toList i] := by rw [List.take_succ_eq_append_getElem h, at8_get _ _ h]
  have hb := short_back (s.data.toList.take i) (at8 s.data.toList i) hc hp 5 (by rw [List.length_take]; omega)
  rw [← ht, ← hm] at hb
  have e1 : bs (shortL 5 m) = s.extract 0 (i + 1) ↔ shortL 5 m = s.data.toList.take (i + 1) :=
    ⟨fun e => by rw [← take_extract, ← e, bs_data], fun e => str_ext (by rw [bs_data, take_extract, e])⟩
  rw [e1, hb]
  have e2 : s.data.toList.take i = [] ↔ i = 0 := by
    constructor
    · intro e; have := congrArg List.length e; rw [List.length_take] at this; simp at this; rcases this with h0 | h0
      · exact h0
      · exfalso; rw [h0] at h; simp at h
    · intro e; subst e; rfl
  rw [e2]; omega
end Num
set_option maxHeartbeats 2000000 in
theorem rnumV_Read (s : ByteArray) (S : Mem) (hs : s.size ≤ 9223372036854775807) :
    ACall Try.prog 39 #[.string s] S fun r S' => r = readV (readP s) ∧ S' = S := by
  have hsz := size_list s
  refine ACall.enter (args := [.string s]) (rs := [.tmp 2, .tmp 3, .tmp 4]) 55 [(0, .string s)] Try.func39 rfl rfl (Nat.le_of_ble_eq_true rfl) rfl ⟨rfl, trivial⟩ ?_
  refine AWP.seq ?_
  refine AWP.region ?_
  refine rC (Calm.assign rfl) ?_
  refine rC (Calm.assign rfl) ?_
  refine rC (Calm.assign rfl) ?_
  refine arun_nil ?_
  refine athen_n ?_
  refine AWP.seq ?_
  refine AWP.region ?_
  refine rC (Calm.assign rfl) ?_
  refine rC (Calm.assign rfl) ?_
  refine arun_nil ?_
  refine athen_n ?_
  refine AWP.seq ?_
  refine AWP.seq ?_
  refine AWP.region ?_
  refine rC (Calm.assign rfl) ?_
  refine arun_nil ?_
  refine athen_n ?_
  refine AWP.block ?_
  refine AWP.loop (X := Nat × Nat) (fun x => [(0, .string s), (5, .int .u64 (x.2 : Nat)), (6, .int .u64 (128 ^ x.1 : Nat)), (7, .int .i64 x.1)]) (fun x => S) (fun x => x.1 ≤ 5 ∧ x.2 < 128 ^ x.1 ∧ readL x.1 x.2 (s.data.toList.drop x.1) = readP s ∧ x.2 = valB (s.data.toList.take x.1) ∧ ∀ b ∈ s.data.toList.take x.1, 128 ≤ b.toNat) (fun x => 6 - x.1) ((0, 0)) ⟨rfl, rfl, rfl, rfl, trivial⟩ (Mem.Less.refl _) (⟨by omega, by decide, rfl, rfl, fun b h => by simp at h⟩) ?_
  rintro ⟨i, n⟩ ⟨hi5, hn, hq, hval, hall⟩
  (try dsimp only at *)
  refine AWP.seq ?_
  refine AWP.seq ?_
  refine AWP.region ?_
  refine rC (Calm.move rfl) ?_
  refine rC (Calm.move rfl) ?_
  refine rC (Calm.lenStr (strT_spec ty_str_9) rfl) ?_
  refine rC (Calm.bin rfl rfl b_lss) ?_
  refine arun_nil ?_
  refine athen_n ?_
  refine AWP.sub [(0, _), (5, _), (6, _), (7, _), (13, _)] ⟨rfl, rfl, rfl, rfl, rfl, trivial⟩ ?_
  refine AWP.condB rfl (fun hl => ?_) (fun hl => ?_)
  · have hl : i < s.size := by have := of_decide_eq_true hl; omega
    rw [readL_at _ i n (by omega)] at hq
    have hst := fun m => short_take s i m (by omega) hi5 hall
    have htk : s.data.toList.take (i + 1) = s.data.toList.take i ++ [at8 s.data.toList i] := by rw [List.take_succ_eq_append_getElem (by omega), at8_get _ _ (by omega)]
    have hvs := valB_snoc (s.data.toList.take i) (at8 s.data.toList i)
    rw [← htk, ← hval, List.length_take, Nat.min_eq_left (by omega)] at hvs
    obtain ⟨c, hc⟩ : ∃ c, c = at8 s.data.toList i := ⟨_, rfl⟩
    rw [← hc] at hq hvs htk
    rw [← hc] at hst
    refine AWP.skip ?_
    refine athen_n ?_
    refine AWP.seq ?_
    refine AWP.block ?_
    refine AWP.seq ?_
    refine AWP.seq ?_
    refine AWP.region ?_
    refine rC (Calm.move rfl) ?_
    refine rC (Calm.bin rfl rfl b_eql) ?_
    refine arun_nil ?_
    refine athen_n ?_
    refine AWP.sub [(0, _), (5, _), (6, _), (7, _), (13, _), (17, _)] ⟨rfl, rfl, rfl, rfl, rfl, rfl, trivial⟩ ?_
    refine AWP.condF rfl (by first | rfl | (simp; done) | (simp; omega)) ?_
    have hc1 := c.toNat_lt
    have hc2 := nb_byte c
    obtain ⟨_, ho2, ho3⟩ := or_short n (c.toNat % 128) i hi5 hn (by omega)
    obtain ⟨hm1, hm2, hm3⟩ := mul_short c i hi5
    obtain ⟨m, hm⟩ : ∃ m, m = n + c.toNat % 128 * 128 ^ i := ⟨_, rfl⟩
    rw [← hm] at hq ho2 ho3 hvs
    refine AWP.skip ?_
    refine athen_n ?_
    refine AWP.seq ?_
    refine AWP.region ?_
    refine rC (Calm.move rfl) ?_
    refine rC (Calm.move rfl) ?_
    refine rC (Calm.move rfl) ?_
    refine rC (Calm.move rfl) ?_
    refine rC (Calm.indexStrC hc (strT_spec ty_str_9) rfl rfl hl) ?_
    refine rC (Calm.bin rfl rfl b_rem) ?_
    refine rC (Calm.conv rfl (by first | exact conv_intW Try.underlying5 Try.underlying24 (IntWalk.u64_in _ (by omega)) | exact conv_intW Try.underlying5 Try.underlying24 (wrap_nb_u64 _) | exact conv_int Try.underlying5 Try.underlying24)) ?_
    refine rC (Calm.bin rfl rfl (bin_mulW hm1)) ?_
    refine rC (Calm.bin rfl rfl (bin_addW (c := (m : Int)) ((IntWalk.u64_in _ (by omega)).trans (by omega)))) ?_
    refine rC (Calm.assign rfl) ?_
    refine arun_nil ?_
    refine athen_n ?_
    refine AWP.sub [(0, _), (5, _), (6, _), (7, _), (13, _), (17, _)] ⟨rfl, rfl, rfl, rfl, rfl, rfl, trivial⟩ ?_
    refine AWP.seq ?_
    refine AWP.region ?_
    refine rC (Calm.move rfl) ?_
    refine rC (Calm.bin rfl rfl (bin_mulW hm2)) ?_
    refine rC (Calm.assign rfl) ?_
    refine arun_nil ?_
    refine athen_n ?_
    refine AWP.sub [(0, _), (5, _), (6, _), (7, _), (13, _), (17, _)] ⟨rfl, rfl, rfl, rfl, rfl, rfl, trivial⟩ ?_
    refine AWP.seq ?_
    refine AWP.seq ?_
    refine AWP.region ?_
    refine rC (Calm.move rfl) ?_
    refine rC (Calm.move rfl) ?_
    refine rC (Calm.indexStrC hc (strT_spec ty_str_9) rfl rfl hl) ?_
    refine rC (Calm.bin rfl rfl b_gtr) ?_
    refine arun_nil ?_
    refine athen_n ?_
    refine AWP.sub [(0, _), (5, _), (6, _), (7, _), (13, _), (17, _), (32, _)] ⟨rfl, rfl, rfl, rfl, rfl, rfl, rfl, trivial⟩ ?_
    by_cases h128 : 128 ≤ c.toNat
    · refine AWP.condT rfl (by first | rfl | (simp; done) | (simp; omega)) ?_
      by_cases hi : i < 5
      · refine AWP.seq ?_
        refine AWP.seq ?_
        refine AWP.region ?_
        refine rC (Calm.move rfl) ?_
        refine rC (Calm.bin rfl rfl b_eql) ?_
        refine arun_nil ?_
        refine athen_n ?_
        refine AWP.sub [(0, _), (5, _), (6, _), (7, _), (13, _), (17, _), (32, _), (34, _)] ⟨rfl, rfl, rfl, rfl, rfl, rfl, rfl, rfl, trivial⟩ ?_
        refine AWP.condF rfl (by first | rfl | (simp; done) | (simp; omega)) ?_
        rw [if_pos ⟨h128, hi⟩] at hq
        refine AWP.skip ?_
        refine athen_n ?_
        refine AWP.exit ?_
        refine athen_exit ?_
        refine ain_same ?_
        refine athen_n ?_
        refine AWP.region ?_
        refine rC (Calm.move rfl) ?_
        refine rC (Calm.bin rfl rfl b_add_i64) ?_
        refine rC (Calm.assign rfl) ?_
        refine arun_nil ?_
        refine athen_n ?_
        refine ⟨(i + 1, m), ?_, ?_, ?_, ?_⟩
        all_goals (try dsimp only)
        · exact ⟨rfl, rfl, rfl, some_int (by omega), trivial⟩
        · exact Mem.Less.refl _
        · exact ⟨by omega, ho2, hq, hvs.symm, fun b hb => by rw [htk] at hb; rcases List.mem_append.1 hb with hb | hb; exact hall b hb; (simp at hb; subst hb; exact h128)⟩
        · omega
      · refine AWP.seq ?_
        refine AWP.seq ?_
        refine AWP.region ?_
        refine rC (Calm.move rfl) ?_
        refine rC (Calm.bin rfl rfl b_eql) ?_
        refine arun_nil ?_
        refine athen_n ?_
        refine AWP.sub [(0, _), (5, _), (6, _), (7, _), (13, _), (17, _), (32, _), (34, _)] ⟨rfl, rfl, rfl, rfl, rfl, rfl, rfl, rfl, trivial⟩ ?_
        refine AWP.condT rfl (by first | rfl | (simp; done) | (simp; omega)) ?_
        rw [if_neg (by omega), if_pos (.inl h128)] at hq
        refine AWP.seq ?_
        refine AWP.region ?_
        refine rC (Calm.assign rfl) ?_
        refine rC (Calm.assign rfl) ?_
        refine rC (Calm.assign rfl) ?_
        refine arun_nil ?_
        refine athen_n ?_
        refine AWP.ret ?_
        refine athen_ret ?_
        refine athen_ret ?_
        refine ain_ret ?_
        refine athen_ret ?_
        refine athen_ret ?_
        refine ain_ret ?_
        refine athen_ret ?_
        refine ⟨_, S, ⟨_, _, rfl, ⟨_, _, rfl, ⟨_, _, rfl, rfl, rfl⟩, rfl⟩, rfl⟩, less_, ?_⟩
        exact ⟨by rw [← hq]; rfl, rfl⟩
    · refine AWP.condF rfl (by first | rfl | (simp; done) | (simp; omega)) ?_
      rw [if_neg (by omega)] at hq
      have hst := hst m (by omega) hvs.symm
      refine AWP.skip ?_
      refine athen_n ?_
      refine AWP.seq ?_
      refine AWP.region ?_
      refine rC (Calm.move rfl) ?_
      refine ARun.call (lit_lt rfl) go_37 rfl (rnumV_Short m S (by omega)) ?_
      rintro _ S1 ⟨rfl, h1⟩
      rw [h1]; clear h1 S1; unfold shortP
      refine rC (Calm.move rfl) ?_
      refine rC (Calm.extract rfl rfl) ?_
      refine rC (Calm.extract rfl rfl) ?_
      refine rC (Calm.assign rfl) ?_
      refine rC (Calm.assign rfl) ?_
      refine arun_nil ?_
      refine athen_n ?_
      refine AWP.sub [(0, _), (5, _), (6, _), (7, _), (13, _), (17, _), (32, _), (8, _), (9, _)] ⟨rfl, rfl, rfl, rfl, rfl, rfl, rfl, rfl, rfl, trivial⟩ ?_
      by_cases htop : m < top
      · rw [if_pos htop]
        by_cases hi0 : 0 < i ∧ c.toNat = 0
        · refine AWP.seq ?_
          refine AWP.seq ?_
          refine AWP.region ?_
          refine rC (Calm.move rfl) ?_
          refine rC (Calm.bin rfl rfl b_neq) ?_
          refine rC (Calm.move rfl) ?_
          first | refine rS 42 ?_ | refine rU 42 ?_ | refine rG 42 (Calm.move rfl) ?_
          first | refine rS 42 ?_ | refine rU 42 ?_ | refine rG 42 (Calm.move rfl) ?_
          first | refine rS 42 ?_ | refine rU 42 ?_ | refine rG 42 (Calm.move rfl) ?_
          first | refine rS 42 ?_ | refine rU 42 ?_ | refine rG 42 (Calm.bin rfl rfl b_add_i64) ?_
          first | refine rS 42 ?_ | refine rU 42 ?_ | refine rG 42 (Calm.sliceStr (strT_spec ty_str_9) rfl (bnd_some _ _ rfl (by omega) (by omega)) (bnd_none _ _)) ?_
          first | refine rS 42 ?_ | refine rU 42 ?_ | refine rG 42 (Calm.bin rfl rfl (bin_bool (bin_str_neq _ _) (bnot_dec_true (fun e => (hst.1 e) hi0)))) ?_
          refine rC ((by first | exact Calm.pickT rfl rfl | exact Calm.pickF rfl rfl)) ?_
          refine arun_nil ?_
          refine athen_n ?_
          refine AWP.sub [(0, _), (5, _), (6, _), (7, _), (13, _), (17, _), (32, _), (8, _), (9, _), (49, _)] ⟨rfl, rfl, rfl, rfl, rfl, rfl, rfl, rfl, rfl, rfl, trivial⟩ ?_
          refine AWP.condT rfl (by first | rfl | (simp; done) | (simp; omega)) ?_
          rw [if_pos (.inr (.inr hi0))] at hq
          refine AWP.seq ?_
          refine AWP.region ?_
          refine rC (Calm.assign rfl) ?_
          refine rC (Calm.assign rfl) ?_
          refine rC (Calm.assign rfl) ?_
          refine arun_nil ?_
          refine athen_n ?_
          refine AWP.ret ?_
          refine athen_ret ?_
          refine ain_ret ?_
          refine athen_ret ?_
          refine athen_ret ?_
          refine ain_ret ?_
          refine athen_ret ?_
          refine ⟨_, S, ⟨_, _, rfl, ⟨_, _, rfl, ⟨_, _, rfl, rfl, rfl⟩, rfl⟩, rfl⟩, less_, ?_⟩
          exact ⟨by rw [← hq]; rfl, rfl⟩
        · refine AWP.seq ?_
          refine AWP.seq ?_
          refine AWP.region ?_
          refine rC (Calm.move rfl) ?_
          refine rC (Calm.bin rfl rfl b_neq) ?_
          refine rC (Calm.move rfl) ?_
          first | refine rS 42 ?_ | refine rU 42 ?_ | refine rG 42 (Calm.move rfl) ?_
          first | refine rS 42 ?_ | refine rU 42 ?_ | refine rG 42 (Calm.move rfl) ?_
          first | refine rS 42 ?_ | refine rU 42 ?_ | refine rG 42 (Calm.move rfl) ?_
          first | refine rS 42 ?_ | refine rU 42 ?_ | refine rG 42 (Calm.bin rfl rfl b_add_i64) ?_
          first | refine rS 42 ?_ | refine rU 42 ?_ | refine rG 42 (Calm.sliceStr (strT_spec ty_str_9) rfl (bnd_some _ _ rfl (by omega) (by omega)) (bnd_none _ _)) ?_
          first | refine rS 42 ?_ | refine rU 42 ?_ | refine rG 42 (Calm.bin rfl rfl (bin_bool (bin_str_neq _ _) (bnot_dec_false (hst.2 hi0)))) ?_
          refine rC ((by first | exact Calm.pickT rfl rfl | exact Calm.pickF rfl rfl)) ?_
          refine arun_nil ?_
          refine athen_n ?_
          refine AWP.sub [(0, _), (5, _), (6, _), (7, _), (13, _), (17, _), (32, _), (8, _), (9, _), (49, _)] ⟨rfl, rfl, rfl, rfl, rfl, rfl, rfl, rfl, rfl, rfl, trivial⟩ ?_
          refine AWP.condF rfl (by first | rfl | (simp; done) | (simp; omega)) ?_
          rw [if_neg (by omega)] at hq
          refine AWP.skip ?_
          refine athen_n ?_
          refine AWP.seq ?_
          refine AWP.draw [(0, true), (1, true), (2, true), (3, true), (4, true), (5, true), (6, true), (7, true)] [] mixed (by kernel_rfl) ?_
          refine draw_pure rfl rfl rfl rfl (lit_lt rfl) (fun _ => Calm.move rfl) ?_
          refine draw_pure rfl rfl rfl rfl (lit_lt rfl) (fun _ => Calm.move rfl) ?_
          refine draw_pure rfl rfl rfl rfl (lit_lt rfl) (fun _ => Calm.move rfl) ?_
          refine draw_pure rfl rfl rfl rfl (lit_lt rfl) (fun _ => Calm.bin rfl rfl b_add_i64) ?_
          refine draw_pure rfl rfl rfl rfl (lit_lt rfl) (fun _ => Calm.sliceStr (strT_spec ty_str_9) rfl (bnd_none _ _) (bnd_some _ _ rfl (by omega) (by omega))) ?_
          refine draw_pure rfl rfl rfl rfl (lit_lt rfl) (fun _ => Calm.assign rfl) ?_
          refine draw_pure rfl rfl rfl rfl (lit_lt rfl) (fun _ => Calm.assign rfl) ?_
          refine draw_pure rfl rfl rfl rfl (lit_lt rfl) (fun _ => Calm.assign rfl) ?_
          refine draw_nil ?_
          refine athen_n ?_
          refine AWP.sub [(0, _), (5, _), (6, _), (7, _), (13, _), (17, _), (32, _), (8, _), (9, _), (49, _), (2, _), (3, _), (4, _)] ⟨rfl, rfl, rfl, rfl, rfl, rfl, rfl, rfl, rfl, rfl, rfl, rfl, rfl, trivial⟩ ?_
          refine AWP.ret ?_
          refine ain_ret ?_
          refine athen_ret ?_
          refine athen_ret ?_
          refine ain_ret ?_
          refine athen_ret ?_
          refine ⟨_, S, ⟨_, _, rfl, ⟨_, _, rfl, ⟨_, _, rfl, rfl, rfl⟩, rfl⟩, rfl⟩, less_, ?_⟩
          exact ⟨by rw [← hq]; show Value.tuple _ = _; simp only [readV, ← bs_drop]; rfl, rfl⟩
      · rw [if_neg htop]
        refine AWP.seq ?_
        refine AWP.seq ?_
        refine AWP.region ?_
        refine rC (Calm.move rfl) ?_
        refine rC (Calm.bin rfl rfl b_neq) ?_
        refine rC (Calm.move rfl) ?_
        first | refine rS 42 ?_ | refine rU 42 ?_ | refine rG 42 (Calm.move rfl) ?_
        first | refine rS 42 ?_ | refine rU 42 ?_ | refine rG 42 (Calm.move rfl) ?_
        first | refine rS 42 ?_ | refine rU 42 ?_ | refine rG 42 (Calm.move rfl) ?_
        first | refine rS 42 ?_ | refine rU 42 ?_ | refine rG 42 (Calm.bin rfl rfl b_add_i64) ?_
        first | refine rS 42 ?_ | refine rU 42 ?_ | refine rG 42 (Calm.sliceStr (strT_spec ty_str_9) rfl (bnd_some _ _ rfl (by omega) (by omega)) (bnd_none _ _)) ?_
        first | refine rS 42 ?_ | refine rU 42 ?_ | refine rG 42 (Calm.bin rfl rfl (bin_str_neq _ _)) ?_
        refine rC ((by first | exact Calm.pickT rfl rfl | exact Calm.pickF rfl rfl)) ?_
        refine arun_nil ?_
        refine athen_n ?_
        refine AWP.sub [(0, _), (5, _), (6, _), (7, _), (13, _), (17, _), (32, _), (8, _), (9, _), (49, _)] ⟨rfl, rfl, rfl, rfl, rfl, rfl, rfl, rfl, rfl, rfl, trivial⟩ ?_
        refine AWP.condT rfl (by first | rfl | (simp; done) | (simp; omega)) ?_
        rw [if_pos (.inr (.inl (by omega)))] at hq
        refine AWP.seq ?_
        refine AWP.region ?_
        refine rC (Calm.assign rfl) ?_
        refine rC (Calm.assign rfl) ?_
        refine rC (Calm.assign rfl) ?_
        refine arun_nil ?_
        refine athen_n ?_
        refine AWP.ret ?_
        refine athen_ret ?_
        refine ain_ret ?_
        refine athen_ret ?_
        refine athen_ret ?_
        refine ain_ret ?_
        refine athen_ret ?_
        refine ⟨_, S, ⟨_, _, rfl, ⟨_, _, rfl, ⟨_, _, rfl, rfl, rfl⟩, rfl⟩, rfl⟩, less_, ?_⟩
        exact ⟨by rw [← hq]; rfl, rfl⟩
  · have hl : s.size ≤ i := by have := of_decide_eq_false hl; omega
    rw [List.drop_of_length_le (by omega)] at hq
    refine AWP.exit ?_
    refine athen_exit ?_
    refine athen_exit ?_
    refine ain_same ?_
    refine athen_n ?_
    refine AWP.seq ?_
    refine AWP.region ?_
    refine rC (Calm.assign rfl) ?_
    refine rC (Calm.assign rfl) ?_
    refine rC (Calm.assign rfl) ?_
    refine arun_nil ?_
    refine athen_n ?_
    refine AWP.ret ?_
    refine ⟨_, S, ⟨_, _, rfl, ⟨_, _, rfl, ⟨_, _, rfl, rfl, rfl⟩, rfl⟩, rfl⟩, less_, ?_⟩
    exact ⟨by rw [← hq]; rfl, rfl⟩
end Go.Proofs.Ytpeljbmbgjeomaa
