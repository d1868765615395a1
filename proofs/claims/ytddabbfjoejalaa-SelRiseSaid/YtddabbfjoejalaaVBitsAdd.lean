/-
  The walk of Add over the view of memory: a number's lowest bits are put behind.
-/
import Derived.Test.YtddabbfjoejalaaTypes
import Derived.Test.YtddabbfjoejalaaBitsWrite
namespace Go.Proofs.Ytddabbfjoejalaa
open Go.RowKit
open Bits Mv
set_option maxRecDepth 20000
set_option linter.unusedVariables false
set_option linter.unusedSimpArgs false
namespace Bits
theorem add_partI (L : List Bool) (v r k : Nat) (hv : v ≤ 18446744073709551615) (hk : L.length % 8 + k ≤ 8) (hr : k ≤ r) :
    bits .or .u64 (IntKind.u64.wrap (((num (rest L) : Nat) : Int) * 2 ^ ((k : Int)).toNat)) (bits .and .u64 ((v : Int) / 2 ^ ((r : Int) - (k : Int)).toNat) (IntKind.u64.wrap (IntKind.u64.wrap (1 * 2 ^ ((k : Int)).toNat) - 1))) = ((num (rest L ++ numB (v / 2 ^ (r - k)) k) : Nat) : Int) ∧
      num (rest L ++ numB (v / 2 ^ (r - k)) k) < 256 := by
  obtain ⟨A, B, h1, h2, h3, h4, h5⟩ := add_part L v (r - k) k hv hk
  rw [show ((r : Int) - (k : Int)).toNat = r - k from by omega, Int.toNat_natCast, Int.one_mul, h1, h2, h3]
  exact ⟨rfl, by omega⟩
def wrM (S : Mem) (p : Nat) (o : Option (Nat × Nat)) (L : List Bool) : Mem :=
  (outM S o 5 (bytesV L)).set p ⟨81, [outV o (L.length / 8), .int .u64 (num (rest L) : Nat), .int .i64 (L.length % 8 : Nat)], 3⟩
theorem wrM_eight (S : Mem) (p b c : Nat) (M C : List Bool) (h : M.length % 8 + C.length = 8) : wrM S p (some (b, c)) (M ++ C) =
    (S.set b ⟨5, bytesV M ++ [.int .u8 (num (rest M ++ C) : Nat)], c⟩).set p ⟨81, [.slice (some ⟨b, 0, none⟩) (M.length / 8 + 1) c, .int .u64 0, .int .i64 0], 3⟩ := by
  unfold wrM outM outV
  have e : (M ++ C).length / 8 = M.length / 8 + 1 := by rw [List.length_append]; omega
  have e9 : (((M ++ C).length % 8 : Nat) : Int) = 0 := by rw [List.length_append]; omega
  simp only [bytesV_eight M C h, (rest_eight M C h).2, e, e9]
  rfl
theorem wrM_few (S : Mem) (p : Nat) (o : Option (Nat × Nat)) (M C : List Bool) (h : M.length % 8 + C.length < 8) : wrM S p o (M ++ C) =
    (outM S o 5 (bytesV M)).set p ⟨81, [outV o (M.length / 8), .int .u64 (num (rest M ++ C) : Nat), .int .i64 ((M.length % 8 : Nat) + (C.length : Nat))], 3⟩ := by
  unfold wrM
  have e : (M ++ C).length / 8 = M.length / 8 := by rw [List.length_append]; omega
  have e9 : (((M ++ C).length % 8 : Nat) : Int) = (M.length % 8 : Nat) + (C.length : Nat) := by rw [List.length_append]; omega
  rw [bytesV_few M C h, (rest_few M C h).2, e, e9]
structure OkW (S : Mem) (p : Nat) (o : Option (Nat × Nat)) (L : List Bool) : Prop where
  fp : Fresh S p
  nil : o = none → L.length < 8
  own : ∀ b c, o = some (b, c) → Fresh S b ∧ b ≠ p ∧ L.length / 8 ≤ c
end Bits
set_option maxHeartbeats 1000000 in
theorem bitsV_Add (p v width : Nat) (L : List Bool) (o : Option (Nat × Nat)) (S : Mem) (h3 : width ≤ 64) (h5 : v ≤ 18446744073709551615) (hlen : L.length ≤ 1048576 + 64) (hok : OkW S p o L) :
    ACall Try.prog 60 #[.pointer (some ⟨p, 0, none⟩), .int .u64 v, .int .i64 width] (wrM S p o L) fun r S' => r = .tuple #[] ∧ ∃ o', OkW S p o' (L ++ numB v width) ∧ S' = wrM S p o' (L ++ numB v width) := by
  refine ACall.enter (args := [.pointer (some ⟨p, 0, none⟩), .int .u64 v, .int .i64 width]) (rs := []) 74 [(0, .pointer (some ⟨p, 0, none⟩)), (1, .int .u64 v), (2, .int .i64 width)] Try.func60 rfl rfl (Nat.le_of_ble_eq_true rfl) rfl ⟨rfl, rfl, rfl, trivial⟩ ?_
  refine AWP.block ?_
  refine AWP.loop (X := Nat × List Bool × Option (Nat × Nat)) (fun x => [(0, .pointer (some ⟨p, 0, none⟩)), (1, .int .u64 v), (2, .int .i64 x.1)]) (fun x => wrM S p x.2.2 x.2.1) (fun x => x.1 ≤ width ∧ x.2.1 ++ numB v x.1 = L ++ numB v width ∧ OkW S p x.2.2 x.2.1) (fun x => x.1) ((width, L, o)) ⟨rfl, rfl, rfl, trivial⟩ less_ (⟨Nat.le_refl _, rfl, hok⟩) ?_
  rintro ⟨r, M, ov⟩ ⟨hr, hM, hok⟩
  (try dsimp only at *)
  have hMl : M.length ≤ 1048576 + 128 := by have := congrArg List.length hM; simp [numB_length] at this; omega
  obtain ⟨k, hk⟩ : ∃ k : Nat, (k : Int) = min (r : Int) (8 - (M.length % 8 : Nat)) := ⟨(min (r : Int) (8 - (M.length % 8 : Nat))).toNat, by omega⟩
  have hk1 : k ≤ r ∧ M.length % 8 + k ≤ 8 ∧ (r = k ∨ M.length % 8 + k = 8) := by omega
  obtain ⟨hkr, hk8, hke⟩ := hk1
  obtain ⟨hR, hRb⟩ := add_partI M v r k h5 hk8 hkr
  have hfp := hok.fp
  unfold wrM
  refine AWP.seq ?_
  refine AWP.seq ?_
  refine AWP.region ?_
  refine rC (Calm.move rfl) ?_
  refine rC (Calm.bin rfl rfl b_gtr) ?_
  refine arun_nil ?_
  refine athen_n ?_
  refine AWP.sub [(0, _), (1, _), (2, _), (9, _)] ⟨rfl, rfl, rfl, rfl, trivial⟩ ?_
  refine AWP.condB rfl (fun hc => ?_) (fun hc => ?_)
  · have hr0 : 0 < r := by simpa using hc
    refine AWP.skip ?_
    refine athen_n ?_
    refine AWP.block ?_
    refine AWP.seq ?_
    refine AWP.region ?_
    refine rC (Calm.move rfl) ?_
    refine rC (Calm.move rfl) ?_
    refine rC (Calm.nilCheck rfl) ?_
    refine rC (Calm.fieldAddr ty_field_81_2 rfl) ?_
    refine rC (ld_ ty_plain_3 rfl) ?_
    refine rC (Calm.bin rfl rfl b_sub_i64) ?_
    refine rC (Calm.minE hk rfl rfl) ?_
    refine rC (Calm.assign rfl) ?_
    refine arun_nil ?_
    refine athen_n ?_
    refine AWP.sub [(0, _), (1, _), (2, _), (9, _), (6, _)] ⟨rfl, rfl, rfl, rfl, rfl, trivial⟩ ?_
    refine AWP.seq ?_
    refine AWP.draw [(0, true), (1, true), (2, true), (3, true), (4, true), (5, true), (6, true), (7, true), (8, true), (9, true)] [] mixed (by kernel_rfl) ?_
    refine draw_pure rfl rfl rfl rfl (lit_lt rfl) (fun _ => Calm.move rfl) ?_
    refine draw_pure rfl rfl rfl rfl (lit_lt rfl) (fun _ => Calm.move rfl) ?_
    refine draw_pure rfl rfl rfl rfl (lit_lt rfl) (fun _ => Calm.move rfl) ?_
    refine draw_pure rfl rfl rfl rfl (lit_lt rfl) (fun _ => Calm.bin rfl rfl b_sub_i64) ?_
    refine draw_pure rfl rfl rfl rfl (lit_lt rfl) (fun _ => Calm.bin rfl rfl b_shr) ?_
    refine draw_pure rfl rfl rfl rfl (lit_lt rfl) (fun _ => Calm.move rfl) ?_
    refine draw_pure rfl rfl rfl rfl (lit_lt rfl) (fun _ => Calm.bin rfl rfl b_shl) ?_
    refine draw_pure rfl rfl rfl rfl (lit_lt rfl) (fun _ => Calm.bin rfl rfl b_sub_u64) ?_
    refine draw_pure rfl rfl rfl rfl (lit_lt rfl) (fun _ => Calm.bin rfl rfl (bin_and _ _)) ?_
    refine draw_pure rfl rfl rfl rfl (lit_lt rfl) (fun _ => Calm.assign rfl) ?_
    refine draw_nil ?_
    refine athen_n ?_
    refine AWP.sub [(0, _), (1, _), (2, _), (9, _), (6, _), (7, _)] ⟨rfl, rfl, rfl, rfl, rfl, rfl, trivial⟩ ?_
    refine AWP.seq ?_
    refine AWP.draw [(0, true), (1, true), (2, true), (3, true), (4, true), (5, true), (6, true), (7, true), (8, true), (9, true), (10, true), (11, true), (12, true), (13, true), (14, true), (15, true), (16, true), (17, true), (18, false), (19, true), (20, true), (21, false)] [18, 21] mixed (by kernel_rfl) ?_
    refine draw_pure rfl rfl rfl rfl (lit_lt rfl) (fun _ => Calm.move rfl) ?_
    refine draw_pure rfl rfl rfl rfl (lit_lt rfl) (fun _ => Calm.move rfl) ?_
    refine draw_pure rfl rfl rfl rfl (lit_lt rfl) (fun _ => Calm.move rfl) ?_
    refine draw_pure rfl rfl rfl rfl (lit_lt rfl) (fun _ => Calm.nilCheck rfl) ?_
    refine draw_pure rfl rfl rfl rfl (lit_lt rfl) (fun _ => Calm.fieldAddr ty_field_81_1 rfl) ?_
    refine draw_calm rfl rfl rfl (lit_lt rfl) less_ (fun S' hS' => by obtain rfl := hS'.resolve_left (by decide); exact ld_ ty_plain_59 rfl) ?_
    refine draw_pure rfl rfl rfl rfl (lit_lt rfl) (fun _ => Calm.move rfl) ?_
    refine draw_pure rfl rfl rfl rfl (lit_lt rfl) (fun _ => Calm.bin rfl rfl b_shl) ?_
    refine draw_pure rfl rfl rfl rfl (lit_lt rfl) (fun _ => Calm.move rfl) ?_
    refine draw_pure rfl rfl rfl rfl (lit_lt rfl) (fun _ => Calm.bin rfl rfl (bin_or _ _)) ?_
    refine draw_pure rfl rfl rfl rfl (lit_lt rfl) (fun _ => Calm.move rfl) ?_
    refine draw_pure rfl rfl rfl rfl (lit_lt rfl) (fun _ => Calm.nilCheck rfl) ?_
    refine draw_pure rfl rfl rfl rfl (lit_lt rfl) (fun _ => Calm.fieldAddr ty_field_81_2 rfl) ?_
    refine draw_calm rfl rfl rfl (lit_lt rfl) less_ (fun S' hS' => by obtain rfl := hS'.resolve_left (by decide); exact ld_ ty_plain_3 rfl) ?_
    refine draw_pure rfl rfl rfl rfl (lit_lt rfl) (fun _ => Calm.move rfl) ?_
    refine draw_pure rfl rfl rfl rfl (lit_lt rfl) (fun _ => Calm.bin rfl rfl b_add_i64) ?_
    refine draw_pure rfl rfl rfl rfl (lit_lt rfl) (fun _ => Calm.nilCheck rfl) ?_
    refine draw_pure rfl rfl rfl rfl (lit_lt rfl) (fun _ => Calm.fieldAddr ty_field_81_1 rfl) ?_
    refine draw_only rfl ?_
    refine ARun.store1 rfl rfl ty_size_59 rfl own_ lens_ rfl ?_
    (try simp only [Mem.set_set, List.set_cons_zero, List.set_cons_succ, Nat.zero_add, Nat.reduceAdd])
    refine arun_nil ⟨fun h => absurd h (by decide), ?_⟩
    refine draw_pure rfl rfl rfl rfl (lit_lt rfl) (fun _ => Calm.nilCheck rfl) ?_
    refine draw_pure rfl rfl rfl rfl (lit_lt rfl) (fun _ => Calm.fieldAddr ty_field_81_2 rfl) ?_
    refine draw_only rfl ?_
    refine ARun.store1 rfl rfl ty_size_3 rfl own_ lens_ rfl ?_
    (try simp only [Mem.set_set, List.set_cons_zero, List.set_cons_succ, Nat.zero_add, Nat.reduceAdd])
    refine arun_nil ⟨fun h => absurd h (by decide), ?_⟩
    refine draw_nil ?_
    refine athen_n ?_
    refine AWP.sub [(0, _), (1, _), (2, _), (9, _), (6, _), (7, _)] ⟨rfl, rfl, rfl, rfl, rfl, rfl, trivial⟩ ?_
    rw [hR]
    refine AWP.seq ?_
    refine AWP.region ?_
    refine rC (Calm.move rfl) ?_
    refine rC (Calm.move rfl) ?_
    refine rC (Calm.bin rfl rfl b_sub_i64) ?_
    refine rC (Calm.assign rfl) ?_
    refine arun_nil ?_
    refine athen_n ?_
    refine AWP.sub [(0, _), (1, _), (2, _), (9, _), (6, _), (7, _)] ⟨rfl, rfl, rfl, rfl, rfl, rfl, trivial⟩ ?_
    refine AWP.seq ?_
    refine AWP.region ?_
    refine rC (Calm.move rfl) ?_
    refine rC (Calm.nilCheck rfl) ?_
    refine rC (Calm.fieldAddr ty_field_81_2 rfl) ?_
    refine rC (ld_ ty_plain_3 rfl) ?_
    refine rC (Calm.bin rfl rfl b_eql) ?_
    refine arun_nil ?_
    refine athen_n ?_
    refine AWP.sub [(0, _), (1, _), (2, _), (9, _), (6, _), (7, _), (53, _)] ⟨rfl, rfl, rfl, rfl, rfl, rfl, rfl, trivial⟩ ?_
    refine AWP.condB rfl (fun hc8 => ?_) (fun hc8 => ?_)
    · have he8 : M.length % 8 + k = 8 := by have := of_decide_eq_true hc8; omega
      rcases ov with _ | ⟨b, c⟩
      · simp only [outM, outV]
        have hM8 := hok.nil rfl
        have hb0 : bytesV M = [] := List.eq_nil_of_length_eq_zero (by rw [bytesV_length]; omega)
        refine AWP.draw [(0, true), (1, true), (2, true), (3, true), (4, true), (5, true), (6, true), (7, true), (8, true), (9, true), (10, true), (11, true), (12, false), (13, false), (14, true), (15, true), (16, false), (17, true), (18, true), (19, false), (20, true), (21, true), (22, false)] [13, 16, 19, 22] mixed (by kernel_rfl) ?_
        refine draw_pure rfl rfl rfl rfl (lit_lt rfl) (fun _ => Calm.move rfl) ?_
        refine draw_pure rfl rfl rfl rfl (lit_lt rfl) (fun _ => Calm.move rfl) ?_
        refine draw_pure rfl rfl rfl rfl (lit_lt rfl) (fun _ => Calm.move rfl) ?_
        refine draw_pure rfl rfl rfl rfl (lit_lt rfl) (fun _ => Calm.move rfl) ?_
        refine draw_pure rfl rfl rfl rfl (lit_lt rfl) (fun _ => Calm.nilCheck rfl) ?_
        refine draw_pure rfl rfl rfl rfl (lit_lt rfl) (fun _ => Calm.fieldAddr ty_field_81_0 rfl) ?_
        refine draw_calm rfl rfl rfl (lit_lt rfl) less_ (fun S' hS' => by obtain rfl := hS'.resolve_left (by decide); exact ld_ ty_plain_79 rfl) ?_
        refine draw_pure rfl rfl rfl rfl (lit_lt rfl) (fun _ => Calm.move rfl) ?_
        refine draw_pure rfl rfl rfl rfl (lit_lt rfl) (fun _ => Calm.nilCheck rfl) ?_
        refine draw_pure rfl rfl rfl rfl (lit_lt rfl) (fun _ => Calm.fieldAddr ty_field_81_1 rfl) ?_
        refine draw_calm rfl rfl rfl (lit_lt rfl) less_ (fun S' hS' => by obtain rfl := hS'.resolve_left (by decide); exact ld_ ty_plain_59 rfl) ?_
        refine draw_calm rfl rfl rfl (lit_lt rfl) less_ (fun S' hS' => by obtain rfl := hS'.resolve_left (by decide); exact Calm.conv rfl (by first | exact conv_intW Try.underlying59 Try.underlying5 (IntWalk.u8_in _ (by omega)) | exact conv_int Try.underlying59 Try.underlying5)) ?_
        refine draw_only rfl ?_
        refine ARun.build1s (lit_lt rfl) ty_sl_79 rfl rfl ?_
        intro b66 f66
        have g66 := f66
        repeat ((with_reducible replace g66 := fresh_set g66); obtain ⟨g66, _⟩ := g66)
        refine arun_nil ⟨fun _ => less_, ?_⟩
        refine draw_only rfl ?_
        refine ARun.appendNil1 (lit_lt rfl) ty_sl_79 rfl rfl (news := [_]) (rds_cons ((rd_set_same _ _ _ _).trans rfl) (rds_nil _ _)) rfl (by omega) (by omega) (by omega) ?_
        intro bn cn fbn hcn
        have gbn := fbn
        repeat ((with_reducible replace gbn := fresh_set gbn); obtain ⟨gbn, _⟩ := gbn)
        refine arun_nil ⟨fun h => absurd h (by decide), ?_⟩
        refine draw_pure rfl rfl rfl rfl (lit_lt rfl) (fun _ => Calm.nilCheck rfl) ?_
        refine draw_pure rfl rfl rfl rfl (lit_lt rfl) (fun _ => Calm.fieldAddr ty_field_81_0 rfl) ?_
        refine draw_only rfl ?_
        refine ARun.store1 rfl rfl ty_size_79 rfl own_ lens_ rfl ?_
        (try simp only [Mem.set_set, List.set_cons_zero, List.set_cons_succ, Nat.zero_add, Nat.reduceAdd])
        refine arun_nil ⟨fun h => absurd h (by decide), ?_⟩
        refine draw_pure rfl rfl rfl rfl (lit_lt rfl) (fun _ => Calm.nilCheck rfl) ?_
        refine draw_pure rfl rfl rfl rfl (lit_lt rfl) (fun _ => Calm.fieldAddr ty_field_81_1 rfl) ?_
        refine draw_only rfl ?_
        refine ARun.store1 rfl rfl ty_size_59 rfl own_ lens_ rfl ?_
        (try simp only [Mem.set_set, List.set_cons_zero, List.set_cons_succ, Nat.zero_add, Nat.reduceAdd])
        refine arun_nil ⟨fun h => absurd h (by decide), ?_⟩
        refine draw_pure rfl rfl rfl rfl (lit_lt rfl) (fun _ => Calm.nilCheck rfl) ?_
        refine draw_pure rfl rfl rfl rfl (lit_lt rfl) (fun _ => Calm.fieldAddr ty_field_81_2 rfl) ?_
        refine draw_only rfl ?_
        refine ARun.store1 rfl rfl ty_size_3 rfl own_ lens_ rfl ?_
        (try simp only [Mem.set_set, List.set_cons_zero, List.set_cons_succ, Nat.zero_add, Nat.reduceAdd])
        refine arun_nil ⟨fun h => absurd h (by decide), ?_⟩
        refine draw_nil ?_
        refine ain_n ?_
        refine athen_n ?_
        refine ⟨(r - k, M ++ numB (v / 2 ^ (r - k)) k, some (bn, cn)), ?_, ?_, ?_, ?_⟩
        all_goals (try dsimp only)
        · exact ⟨rfl, rfl, some_int (by omega), trivial⟩
        · show (wrM S p (some (bn, cn)) (M ++ numB (v / 2 ^ (r - k)) k)).Less _; rw [wrM_eight _ _ _ _ _ _ (by rw [numB_length]; exact he8), hb0, List.nil_append, show M.length / 8 = 0 from by omega]; exact less_
        · exact ⟨by omega, by rw [List.append_assoc, ← numB_split, show k + (r - k) = r from by omega]; exact hM, hok.fp, (fun h => by cases h), fun b2 c2 h2 => by cases h2; exact ⟨gbn, by assumption, by rw [List.length_append, numB_length]; omega⟩⟩
        · omega
      · simp only [outM, outV]
        obtain ⟨ho1, ho2, ho3⟩ := hok.own b c rfl
        refine AWP.draw [(0, true), (1, true), (2, true), (3, true), (4, true), (5, true), (6, true), (7, true), (8, true), (9, true), (10, true), (11, true), (12, false), (13, false), (14, true), (15, true), (16, false), (17, true), (18, true), (19, false), (20, true), (21, true), (22, false)] [13, 16, 19, 22] mixed (by kernel_rfl) ?_
        refine draw_pure rfl rfl rfl rfl (lit_lt rfl) (fun _ => Calm.move rfl) ?_
        refine draw_pure rfl rfl rfl rfl (lit_lt rfl) (fun _ => Calm.move rfl) ?_
        refine draw_pure rfl rfl rfl rfl (lit_lt rfl) (fun _ => Calm.move rfl) ?_
        refine draw_pure rfl rfl rfl rfl (lit_lt rfl) (fun _ => Calm.move rfl) ?_
        refine draw_pure rfl rfl rfl rfl (lit_lt rfl) (fun _ => Calm.nilCheck rfl) ?_
        refine draw_pure rfl rfl rfl rfl (lit_lt rfl) (fun _ => Calm.fieldAddr ty_field_81_0 rfl) ?_
        refine draw_calm rfl rfl rfl (lit_lt rfl) less_ (fun S' hS' => by obtain rfl := hS'.resolve_left (by decide); exact ld_ ty_plain_79 rfl) ?_
        refine draw_pure rfl rfl rfl rfl (lit_lt rfl) (fun _ => Calm.move rfl) ?_
        refine draw_pure rfl rfl rfl rfl (lit_lt rfl) (fun _ => Calm.nilCheck rfl) ?_
        refine draw_pure rfl rfl rfl rfl (lit_lt rfl) (fun _ => Calm.fieldAddr ty_field_81_1 rfl) ?_
        refine draw_calm rfl rfl rfl (lit_lt rfl) less_ (fun S' hS' => by obtain rfl := hS'.resolve_left (by decide); exact ld_ ty_plain_59 rfl) ?_
        refine draw_calm rfl rfl rfl (lit_lt rfl) less_ (fun S' hS' => by obtain rfl := hS'.resolve_left (by decide); exact Calm.conv rfl (by first | exact conv_intW Try.underlying59 Try.underlying5 (IntWalk.u8_in _ (by omega)) | exact conv_int Try.underlying59 Try.underlying5)) ?_
        refine draw_only rfl ?_
        refine ARun.build1s (lit_lt rfl) ty_sl_79 rfl rfl ?_
        intro b66 f66
        have g66 := f66
        repeat ((with_reducible replace g66 := fresh_set g66); obtain ⟨g66, _⟩ := g66)
        refine arun_nil ⟨fun _ => less_, ?_⟩
        refine draw_only rfl ?_
        refine ARun.append1 (lit_lt rfl) ty_sl_79 rfl own_ (bytesV_length M) rfl (news := [_]) rds_ rfl (by simp [Value.oneCell']) (by omega) (by omega) del_ ?_
        intro bn cn fbn hcn
        have gbn := fbn
        repeat ((with_reducible replace gbn := fresh_set gbn); obtain ⟨gbn, _⟩ := gbn)
        refine arun_nil ⟨fun h => absurd h (by decide), ?_⟩
        refine draw_pure rfl rfl rfl rfl (lit_lt rfl) (fun _ => Calm.nilCheck rfl) ?_
        refine draw_pure rfl rfl rfl rfl (lit_lt rfl) (fun _ => Calm.fieldAddr ty_field_81_0 rfl) ?_
        refine draw_only rfl ?_
        refine ARun.store1 rfl rfl ty_size_79 rfl own_ lens_ rfl ?_
        (try simp only [Mem.set_set, List.set_cons_zero, List.set_cons_succ, Nat.zero_add, Nat.reduceAdd])
        refine arun_nil ⟨fun h => absurd h (by decide), ?_⟩
        refine draw_pure rfl rfl rfl rfl (lit_lt rfl) (fun _ => Calm.nilCheck rfl) ?_
        refine draw_pure rfl rfl rfl rfl (lit_lt rfl) (fun _ => Calm.fieldAddr ty_field_81_1 rfl) ?_
        refine draw_only rfl ?_
        refine ARun.store1 rfl rfl ty_size_59 rfl own_ lens_ rfl ?_
        (try simp only [Mem.set_set, List.set_cons_zero, List.set_cons_succ, Nat.zero_add, Nat.reduceAdd])
        refine arun_nil ⟨fun h => absurd h (by decide), ?_⟩
        refine draw_pure rfl rfl rfl rfl (lit_lt rfl) (fun _ => Calm.nilCheck rfl) ?_
        refine draw_pure rfl rfl rfl rfl (lit_lt rfl) (fun _ => Calm.fieldAddr ty_field_81_2 rfl) ?_
        refine draw_only rfl ?_
        refine ARun.store1 rfl rfl ty_size_3 rfl own_ lens_ rfl ?_
        (try simp only [Mem.set_set, List.set_cons_zero, List.set_cons_succ, Nat.zero_add, Nat.reduceAdd])
        refine arun_nil ⟨fun h => absurd h (by decide), ?_⟩
        refine draw_nil ?_
        refine ain_n ?_
        refine athen_n ?_
        refine ⟨(r - k, M ++ numB (v / 2 ^ (r - k)) k, some (bn, cn)), ?_, ?_, ?_, ?_⟩
        all_goals (try dsimp only)
        · exact ⟨rfl, rfl, some_int (by omega), trivial⟩
        · show (wrM S p (some (bn, cn)) (M ++ numB (v / 2 ^ (r - k)) k)).Less _; rw [wrM_eight _ _ _ _ _ _ (by rw [numB_length]; exact he8)]; exact less_
        · exact ⟨by omega, by rw [List.append_assoc, ← numB_split, show k + (r - k) = r from by omega]; exact hM, hok.fp, (fun h => by cases h), fun b2 c2 h2 => by cases h2; exact ⟨gbn, by assumption, by rw [List.length_append, numB_length]; omega⟩⟩
        · omega
    · have he8 : ¬ M.length % 8 + k = 8 := by have := of_decide_eq_false hc8; omega
      refine AWP.skip ?_
      refine ain_n ?_
      refine athen_n ?_
      refine ⟨(r - k, M ++ numB (v / 2 ^ (r - k)) k, ov), ?_, ?_, ?_, ?_⟩
      all_goals (try dsimp only)
      · exact ⟨rfl, rfl, some_int (by omega), trivial⟩
      · show (wrM S p ov (M ++ numB (v / 2 ^ (r - k)) k)).Less _; rw [wrM_few _ _ _ _ _ (by rw [numB_length]; omega), numB_length]; exact less_
      · exact ⟨by omega, by rw [List.append_assoc, ← numB_split, show k + (r - k) = r from by omega]; exact hM, hok.fp, fun h => by have := hok.nil h; rw [List.length_append, numB_length]; omega, fun b2 c2 h2 => by obtain ⟨q1, q2, q3⟩ := hok.own b2 c2 h2; exact ⟨q1, q2, by rw [List.length_append, numB_length]; omega⟩⟩
      · omega
  · have hr0 : r = 0 := by have := of_decide_eq_false hc; omega
    subst hr0
    refine AWP.exit ?_
    refine athen_exit ?_
    refine athen_exit ?_
    refine ain_same ?_
    refine ⟨_, _, rfl, less_, ?_⟩
    exact ⟨rfl, ov, by rw [numB_zero, List.append_nil] at hM; rw [← hM]; exact hok, by rw [numB_zero, List.append_nil] at hM; rw [← hM]⟩
end Go.Proofs.Ytddabbfjoejalaa
