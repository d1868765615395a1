/-
  The walks of Get, Cut over the view of memory.
-/
import Derived.Test.YtddabbfjoejalaaSB1
import Derived.Test.YtddabbfjoejalaaBitsGet
namespace Go.Proofs.Ytddabbfjoejalaa
open Go.RowKit
open Bits Mv
set_option maxRecDepth 20000
set_option linter.unusedVariables false
set_option linter.unusedSimpArgs false
namespace Bits
noncomputable def cutP (s : ByteArray) (N from_ n : Int) : Value :=
  if chk s.data.toList N ≠ 0 then two bv0 2
  else if from_ < 0 ∨ n < 0 ∨ N < from_ then two bv0 1
  else if N - from_ < n then two bv0 5
  else two (bv (bs (pack (slc s.data.toList from_.toNat n.toNat))) n) 0
theorem size_list (s : ByteArray) : s.size = s.data.toList.length := (Array.length_toList (xs := s.data)).symm
end Bits
set_option maxHeartbeats 1000000 in
theorem bitsV_Get (s : ByteArray) (N at_ wd : Int) (S : Mem) (hs : s.size ≤ 9223372036854775807) (hw0 : -9223372036854775808 ≤ wd) (hw1 : wd ≤ 9223372036854775807) :
    ACall Try.prog 43 #[.agg #[.string s, .int .i64 N], .int .i64 at_, .int .i64 wd] S fun r S' => r = getP s N at_ wd ∧ S' = S := by
  unfold getP
  refine ACall.enter (args := [.agg #[.string s, .int .i64 N], .int .i64 at_, .int .i64 wd]) (rs := [.tmp 6, .tmp 7]) 39 [(0, .agg #[.string s, .int .i64 N]), (1, .int .i64 at_), (2, .int .i64 wd)] Try.func43 rfl rfl (Nat.le_of_ble_eq_true rfl) rfl ⟨rfl, rfl, rfl, trivial⟩ ?_
  refine AWP.seq ?_
  refine AWP.region ?_
  refine ARun.boxA (cs := [_, _]) (lit_lt rfl) rfl ?_
  intro b3 f3
  have g3 := f3
  repeat ((with_reducible replace g3 := fresh_set g3); obtain ⟨g3, _⟩ := g3)
  (try simp only [List.length_cons, List.length_nil, Nat.zero_add, Nat.reduceAdd])
  refine rC (Calm.assign rfl) ?_
  refine rC (Calm.assign rfl) ?_
  refine arun_nil ?_
  refine athen_n ?_
  refine AWP.seq ?_
  refine AWP.seq ?_
  refine AWP.region ?_
  refine rC (ldA_ (cs := [_, _]) ty_agg_47 ty_size_47 rfl) ?_
  refine ARun.call (lit_lt rfl) go_56 rfl (bitsV_Check s N _ hs) ?_
  rintro _ _ ⟨rfl, rfl⟩
  refine rC (Calm.assign rfl) ?_
  refine arun_nil ?_
  refine athen_n ?_
  refine AWP.sub [(0, _), (1, _), (2, _), (3, _), (6, _), (7, _), (8, _)] ⟨rfl, rfl, rfl, rfl, rfl, rfl, rfl, trivial⟩ ?_
  refine AWP.seq ?_
  refine AWP.region ?_
  refine rC (Calm.move rfl) ?_
  refine rC (Calm.bin rfl rfl b_neq) ?_
  refine arun_nil ?_
  refine athen_n ?_
  refine AWP.sub [(0, _), (1, _), (2, _), (3, _), (6, _), (7, _), (8, _), (12, _)] ⟨rfl, rfl, rfl, rfl, rfl, rfl, rfl, rfl, trivial⟩ ?_
  refine AWP.condB rfl (fun hc => ?_) (fun hc => ?_)
  · have hc := bnot_t hc
    refine AWP.seq ?_
    refine AWP.region ?_
    refine rC (Calm.move rfl) ?_
    refine rC (Calm.assign rfl) ?_
    refine rC (Calm.assign rfl) ?_
    refine arun_nil ?_
    refine athen_n ?_
    refine AWP.sub [(0, _), (1, _), (2, _), (3, _), (6, _), (7, _), (8, _), (12, _)] ⟨rfl, rfl, rfl, rfl, rfl, rfl, rfl, rfl, trivial⟩ ?_
    refine AWP.ret ?_
    refine athen_ret ?_
    refine ⟨_, S, ⟨_, _, rfl, ⟨_, _, rfl, rfl, rfl⟩, rfl⟩, less_, ?_⟩
    exact ⟨by rw [if_pos hc, chk_two hc]; rfl, rfl⟩
  · have hc := bnot_f hc
    rw [if_neg (fun h => h hc)]
    obtain ⟨hN0, hN1, hR⟩ := chk_right hc
    by_cases hw : 0 ≤ wd ∧ wd ≤ 64
    · by_cases ha : at_ < 0
      · refine AWP.skip ?_
        refine athen_n ?_
        refine AWP.seq ?_
        refine AWP.block ?_
        refine AWP.seq ?_
        refine AWP.region ?_
        refine rC (Calm.move rfl) ?_
        refine ARun.call (lit_lt rfl) go_69 rfl (bits_wide wd _) ?_
        rintro _ _ ⟨rfl, rfl⟩
        rw [decide_eq_true hw]
        refine rC (Calm.un rfl (una_not _)) ?_
        refine rC (Calm.move rfl) ?_
        first | refine rS 18 ?_ | refine rU 18 ?_ | refine rG 18 (Calm.move rfl) ?_
        first | refine rS 18 ?_ | refine rU 18 ?_ | refine rG 18 (Calm.bin rfl rfl b_lss) ?_
        refine rC ((by first | exact Calm.pickT rfl rfl | exact Calm.pickF rfl rfl)) ?_
        refine rC (Calm.move rfl) ?_
        first | refine rS 22 ?_ | refine rU 22 ?_ | refine rG 22 (Calm.move rfl) ?_
        first | refine rS 22 ?_ | refine rU 22 ?_ | refine rG 22 (Calm.fieldAddr ty_field_47_1 rfl) ?_
        first | refine rS 22 ?_ | refine rU 22 ?_ | refine rG 22 (ld_ ty_plain_3 rfl) ?_
        first | refine rS 22 ?_ | refine rU 22 ?_ | refine rG 22 (Calm.bin rfl rfl b_gtr) ?_
        refine rC ((by first | exact Calm.pickT rfl rfl | exact Calm.pickF rfl rfl)) ?_
        refine rC (Calm.assign rfl) ?_
        refine arun_nil ?_
        refine athen_n ?_
        refine AWP.sub [(0, _), (1, _), (2, _), (3, _), (6, _), (7, _), (8, _), (12, _), (14, _)] ⟨rfl, rfl, rfl, rfl, rfl, rfl, rfl, rfl, rfl, trivial⟩ ?_
        refine AWP.condT rfl (by first | rfl | (simp; done) | (simp; omega)) ?_
        refine AWP.seq ?_
        refine AWP.region ?_
        refine rC (Calm.assign rfl) ?_
        refine rC (Calm.assign rfl) ?_
        refine arun_nil ?_
        refine athen_n ?_
        refine AWP.ret ?_
        refine ain_ret ?_
        refine athen_ret ?_
        refine ⟨_, S, ⟨_, _, rfl, ⟨_, _, rfl, rfl, rfl⟩, rfl⟩, less_, ?_⟩
        exact ⟨by rw [if_pos (.inr (.inl ha))]; rfl, rfl⟩
      · by_cases hb : N < at_
        · refine AWP.skip ?_
          refine athen_n ?_
          refine AWP.seq ?_
          refine AWP.block ?_
          refine AWP.seq ?_
          refine AWP.region ?_
          refine rC (Calm.move rfl) ?_
          refine ARun.call (lit_lt rfl) go_69 rfl (bits_wide wd _) ?_
          rintro _ _ ⟨rfl, rfl⟩
          rw [decide_eq_true hw]
          refine rC (Calm.un rfl (una_not _)) ?_
          refine rC (Calm.move rfl) ?_
          first | refine rS 18 ?_ | refine rU 18 ?_ | refine rG 18 (Calm.move rfl) ?_
          first | refine rS 18 ?_ | refine rU 18 ?_ | refine rG 18 (Calm.bin rfl rfl b_lss) ?_
          refine rC ((by first | exact Calm.pickT rfl rfl | exact Calm.pickF rfl rfl)) ?_
          refine rC (Calm.move rfl) ?_
          first | refine rS 22 ?_ | refine rU 22 ?_ | refine rG 22 (Calm.move rfl) ?_
          first | refine rS 22 ?_ | refine rU 22 ?_ | refine rG 22 (Calm.fieldAddr ty_field_47_1 rfl) ?_
          first | refine rS 22 ?_ | refine rU 22 ?_ | refine rG 22 (ld_ ty_plain_3 rfl) ?_
          first | refine rS 22 ?_ | refine rU 22 ?_ | refine rG 22 (Calm.bin rfl rfl b_gtr) ?_
          refine rC ((by first | exact Calm.pickT rfl rfl | exact Calm.pickF rfl rfl)) ?_
          refine rC (Calm.assign rfl) ?_
          refine arun_nil ?_
          refine athen_n ?_
          refine AWP.sub [(0, _), (1, _), (2, _), (3, _), (6, _), (7, _), (8, _), (12, _), (14, _)] ⟨rfl, rfl, rfl, rfl, rfl, rfl, rfl, rfl, rfl, trivial⟩ ?_
          refine AWP.condT rfl (by first | rfl | (simp; done) | (simp; omega)) ?_
          refine AWP.seq ?_
          refine AWP.region ?_
          refine rC (Calm.assign rfl) ?_
          refine rC (Calm.assign rfl) ?_
          refine arun_nil ?_
          refine athen_n ?_
          refine AWP.ret ?_
          refine ain_ret ?_
          refine athen_ret ?_
          refine ⟨_, S, ⟨_, _, rfl, ⟨_, _, rfl, rfl, rfl⟩, rfl⟩, less_, ?_⟩
          exact ⟨by rw [if_pos (.inr (.inr hb))]; rfl, rfl⟩
        · rw [if_neg (fun h => by rcases h with h | h | h; exact h hw; exact ha h; exact hb h)]
          refine AWP.skip ?_
          refine athen_n ?_
          refine AWP.seq ?_
          refine AWP.block ?_
          refine AWP.seq ?_
          refine AWP.region ?_
          refine rC (Calm.move rfl) ?_
          refine ARun.call (lit_lt rfl) go_69 rfl (bits_wide wd _) ?_
          rintro _ _ ⟨rfl, rfl⟩
          rw [decide_eq_true hw]
          refine rC (Calm.un rfl (una_not _)) ?_
          refine rC (Calm.move rfl) ?_
          first | refine rS 18 ?_ | refine rU 18 ?_ | refine rG 18 (Calm.move rfl) ?_
          first | refine rS 18 ?_ | refine rU 18 ?_ | refine rG 18 (Calm.bin rfl rfl b_lss) ?_
          refine rC ((by first | exact Calm.pickT rfl rfl | exact Calm.pickF rfl rfl)) ?_
          refine rC (Calm.move rfl) ?_
          first | refine rS 22 ?_ | refine rU 22 ?_ | refine rG 22 (Calm.move rfl) ?_
          first | refine rS 22 ?_ | refine rU 22 ?_ | refine rG 22 (Calm.fieldAddr ty_field_47_1 rfl) ?_
          first | refine rS 22 ?_ | refine rU 22 ?_ | refine rG 22 (ld_ ty_plain_3 rfl) ?_
          first | refine rS 22 ?_ | refine rU 22 ?_ | refine rG 22 (Calm.bin rfl rfl b_gtr) ?_
          refine rC ((by first | exact Calm.pickT rfl rfl | exact Calm.pickF rfl rfl)) ?_
          refine rC (Calm.assign rfl) ?_
          refine arun_nil ?_
          refine athen_n ?_
          refine AWP.sub [(0, _), (1, _), (2, _), (3, _), (6, _), (7, _), (8, _), (12, _), (14, _)] ⟨rfl, rfl, rfl, rfl, rfl, rfl, rfl, rfl, rfl, trivial⟩ ?_
          refine AWP.condF rfl (by first | rfl | (simp; done) | (simp; omega)) ?_
          refine AWP.seq ?_
          refine AWP.region ?_
          refine rC (Calm.move rfl) ?_
          refine rC (Calm.fieldAddr ty_field_47_1 rfl) ?_
          refine rC (ld_ ty_plain_3 rfl) ?_
          refine rC (Calm.move rfl) ?_
          refine rC (Calm.bin rfl rfl b_sub_i64) ?_
          refine rC (Calm.bin rfl rfl b_gtr) ?_
          refine rC (Calm.assign rfl) ?_
          refine arun_nil ?_
          refine athen_n ?_
          refine AWP.sub [(0, _), (1, _), (2, _), (3, _), (6, _), (7, _), (8, _), (12, _), (14, _), (28, _)] ⟨rfl, rfl, rfl, rfl, rfl, rfl, rfl, rfl, rfl, rfl, trivial⟩ ?_
          refine AWP.condB rfl (fun hf => ?_) (fun hf => ?_)
          · have hf := of_decide_eq_true hf
            refine AWP.seq ?_
            refine AWP.region ?_
            refine rC (Calm.assign rfl) ?_
            refine rC (Calm.assign rfl) ?_
            refine arun_nil ?_
            refine athen_n ?_
            refine AWP.ret ?_
            refine ain_ret ?_
            refine athen_ret ?_
            refine ⟨_, S, ⟨_, _, rfl, ⟨_, _, rfl, rfl, rfl⟩, rfl⟩, less_, ?_⟩
            exact ⟨by rw [if_pos hf]; rfl, rfl⟩
          · have hf := of_decide_eq_false hf
            rw [if_neg hf]
            have hs1 : s.size = (N.toNat + 7) / 8 := by rw [← hR.1]; exact size_list s
            refine AWP.skip ?_
            refine ain_n ?_
            refine athen_n ?_
            refine AWP.seq ?_
            refine AWP.region ?_
            refine rC (ldA_ (cs := [_, _]) ty_agg_47 ty_size_47 rfl) ?_
            refine rC (Calm.move rfl) ?_
            refine rC (Calm.move rfl) ?_
            refine ARun.call (lit_lt rfl) go_70 rfl (ACall.of_calls fun w => bits_At s (by omega) N at_ wd w (by omega) (by omega) (by omega) (by omega)) ?_
            rintro _ _ ⟨rfl, rfl⟩
            refine rC (Calm.assign rfl) ?_
            refine rC (Calm.assign rfl) ?_
            refine arun_nil ?_
            refine athen_n ?_
            refine AWP.sub [(0, _), (1, _), (2, _), (3, _), (6, _), (7, _), (8, _), (12, _), (14, _), (28, _)] ⟨rfl, rfl, rfl, rfl, rfl, rfl, rfl, rfl, rfl, rfl, trivial⟩ ?_
            refine AWP.ret ?_
            refine ⟨_, S, ⟨_, _, rfl, ⟨_, _, rfl, rfl, rfl⟩, rfl⟩, less_, ?_⟩
            exact ⟨rfl, rfl⟩
    · refine AWP.skip ?_
      refine athen_n ?_
      refine AWP.seq ?_
      refine AWP.block ?_
      refine AWP.seq ?_
      refine AWP.region ?_
      refine rC (Calm.move rfl) ?_
      refine ARun.call (lit_lt rfl) go_69 rfl (bits_wide wd _) ?_
      rintro _ _ ⟨rfl, rfl⟩
      rw [decide_eq_false hw]
      refine rC (Calm.un rfl (una_not _)) ?_
      refine rC (Calm.move rfl) ?_
      first | refine rS 18 ?_ | refine rU 18 ?_ | refine rG 18 (Calm.move rfl) ?_
      first | refine rS 18 ?_ | refine rU 18 ?_ | refine rG 18 (Calm.bin rfl rfl b_lss) ?_
      refine rC ((by first | exact Calm.pickT rfl rfl | exact Calm.pickF rfl rfl)) ?_
      refine rC (Calm.move rfl) ?_
      first | refine rS 22 ?_ | refine rU 22 ?_ | refine rG 22 (Calm.move rfl) ?_
      first | refine rS 22 ?_ | refine rU 22 ?_ | refine rG 22 (Calm.fieldAddr ty_field_47_1 rfl) ?_
      first | refine rS 22 ?_ | refine rU 22 ?_ | refine rG 22 (ld_ ty_plain_3 rfl) ?_
      first | refine rS 22 ?_ | refine rU 22 ?_ | refine rG 22 (Calm.bin rfl rfl b_gtr) ?_
      refine rC ((by first | exact Calm.pickT rfl rfl | exact Calm.pickF rfl rfl)) ?_
      refine rC (Calm.assign rfl) ?_
      refine arun_nil ?_
      refine athen_n ?_
      refine AWP.sub [(0, _), (1, _), (2, _), (3, _), (6, _), (7, _), (8, _), (12, _), (14, _)] ⟨rfl, rfl, rfl, rfl, rfl, rfl, rfl, rfl, rfl, trivial⟩ ?_
      refine AWP.condT rfl (by first | rfl | (simp; done) | (simp; omega)) ?_
      refine AWP.seq ?_
      refine AWP.region ?_
      refine rC (Calm.assign rfl) ?_
      refine rC (Calm.assign rfl) ?_
      refine arun_nil ?_
      refine athen_n ?_
      refine AWP.ret ?_
      refine ain_ret ?_
      refine athen_ret ?_
      refine ⟨_, S, ⟨_, _, rfl, ⟨_, _, rfl, rfl, rfl⟩, rfl⟩, less_, ?_⟩
      exact ⟨by rw [if_pos (.inl hw)]; rfl, rfl⟩
end Go.Proofs.Ytddabbfjoejalaa
