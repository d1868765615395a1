/-
  Disk: an extent is made.
-/
import Derived.Test.YtkeiphkccnfhoaaDisk8
import Derived.Test.YtkeiphkccnfhoaaShelf
namespace Go.Proofs.Ytkeiphkccnfhoaa
open Go.RowKit
open Mv Disk
set_option linter.unusedVariables false
set_option linter.unusedSimpArgs false
set_option maxRecDepth 4000
def zeros (n : Nat) : ByteArray := bs (List.replicate (64 * n) 0)
theorem zeros_size (n : Nat) : (zeros n).size = 64 * n := by unfold zeros; rw [size_bs]; simp
def newD (d : D) (s : ByteArray) (n : Int) : D × Int := if ¬ nm s ∨ n < 1 then (d, 1) else if has d.ext s = true then (d, 4) else if d.size - used d.ext < n then (d, 8) else ({ d with ext := insAt d.ext (pos d.ext s) (s, zeros n.toNat) }, 0)
/-- What a disk at work answers, and becomes. -/
def DevR (S : Mem) (p : Nat) (q : D × Int) (r : Value) (S' : Mem) : Prop := ∃ oE oW, OkV S p q.1 oE oW ∧ r = .int .i64 q.2 ∧ S' = devM S p q.1 oE oW
theorem repeat_zero (c : Nat) : Lib.repeatL [0] c = List.replicate c (0 : UInt8) := by
  induction c with
  | zero => rfl
  | succ c ih => rw [List.replicate_succ, ← ih]; rfl
theorem shelf_Repeat (c : Nat) (S : Mem) (h1 : 2 ≤ c) (h2 : c ≤ 140737488355328) : ACall Try.prog 85 #[.string ⟨#[0]⟩, .int .i64 (c : Int)] S fun r S' => r = .string (bs (List.replicate c 0)) ∧ S' = S :=
  ACall.of_calls fun w => by
    have := Try.strings_Repeat_main ⟨#[0]⟩ c w h1 (by omega) (by show 1 * c ≤ _; omega) (by decide)
    rw [show (⟨#[0]⟩ : ByteArray).data.toList = [0] from rfl, repeat_zero] at this
    exact this
set_option maxHeartbeats 2000000 in
theorem dev_New (p : Nat) (d : D) (s : ByteArray) (n : Int) (S : Mem) (oE oW : Option (Nat × Nat)) (hok : OkV S p d oE oW) (hR : Right d) :
    ACall Try.prog 45 #[.pointer (some ⟨p, 0, none⟩), .string s, .int .i64 n] (devM S p d oE oW) (DevR S p (newD d s n)) := by
  have hrl := right_len hR
  have hrd := hok.rd (Nat.le_trans hrl.1 (by decide)) (Nat.le_trans hR.wl (by decide))
  have hp : (devM S p d oE oW).own p = some (devB d oE oW) := Mem.own_set_same _ _ _
  have hE : Sl 2 extF (devM S p d oE oW) (outV oE d.ext.length) d.ext := ((sl_outN ext_len (e := extT) hok.dk.e rfl (Nat.le_trans hrl.1 (by decide))).less (outN_over hok.dk.w)).less (Mem.less_set _ _ _ hok.fr.1)
  have hap := hok.apart
  have hft := hok.fits
  have hs0 := hR.s0; have hs1 := hR.s1
  have hME := devM_E hap (devB d oE oW) (d := d)
  have hoE := okO_baseE hap hft (devB d oE oW)
  rw [← devM_eq] at hME
  generalize hM : devM S p d oE oW = M at *
  unfold devB at hp
  unfold newD
  by_cases q1 : nm s
  · by_cases q2 : n < 1
    · rw [if_pos (.inr q2)]
      refine ACall.enter (args := [.pointer (some ⟨p, 0, none⟩), .string s, .int .i64 n]) (rs := [.tmp 6]) 52 [(0, .pointer (some ⟨p, 0, none⟩)), (1, .string s), (2, .int .i64 n)] Try.func45 rfl rfl (Nat.le_of_ble_eq_true rfl) rfl ⟨rfl, rfl, rfl, trivial⟩ ?_
      refine AWP.seq ?_
      refine AWP.region ?_
      refine rC (Calm.assign rfl) ?_
      refine arun_nil ?_
      refine athen_n ?_
      refine AWP.seq ?_
      refine AWP.region ?_
      refine rC (Calm.move rfl) ?_
      refine rC (Calm.nilCheck rfl) ?_
      refine rC (Calm.fieldAddr ty_field_90_0 rfl) ?_
      refine rC (Calm.fieldAddr ty_field_25_1 rfl) ?_
      refine rC (ld_ ty_plain_22 rfl) ?_
      refine rC (Calm.move rfl) ?_
      refine ARun.call (lit_lt rfl) go_59 rfl (disk_find _ d.ext s _ hE hR.ex.asc (Nat.le_trans hrl.1 (by decide))) ?_
      rintro _ S1 ⟨rfl, h1⟩
      rw [h1]; clear h1 S1
      refine rC (Calm.move rfl) ?_
      refine rC (Calm.extract rfl rfl) ?_
      refine rC (Calm.extract rfl rfl) ?_
      refine rC (Calm.assign rfl) ?_
      refine rC (Calm.assign rfl) ?_
      refine arun_nil ?_
      refine athen_n ?_
      refine AWP.sub [(0, _), (1, _), (2, _), (6, _), (7, _), (8, _)] ⟨rfl, rfl, rfl, rfl, rfl, rfl, trivial⟩ ?_
      refine AWP.seq ?_
      refine AWP.block ?_
      refine AWP.seq ?_
      refine AWP.region ?_
      refine rC (Calm.move rfl) ?_
      refine ARun.build1s (lit_lt rfl) ty_sl_26 rfl rfl ?_
      intro b21 f21
      have g21 := f21
      repeat ((with_reducible replace g21 := fresh_set g21); obtain ⟨g21, _⟩ := g21)
      have := g21.ne hp; have := g21.ne' hp
      refine ARun.call (lit_lt rfl) go_83 rfl (disk_named _ [s] _ (sl_str1 own_)) ?_
      rintro _ S1 ⟨⟨t, rfl, ht⟩, h1⟩
      rw [h1]; clear h1 S1
      obtain rfl : t = true := ht.2 (one_all.2 q1)
      refine rC (Calm.un rfl (una_not _)) ?_
      refine rC (Calm.move rfl) ?_
      first | refine rS 24 ?_ | refine rU 24 ?_ | refine rG 24 (Calm.move rfl) ?_
      first | refine rS 24 ?_ | refine rU 24 ?_ | refine rG 24 (Calm.bin rfl rfl b_lss) ?_
      refine rC ((by first | exact Calm.pickT rfl rfl | exact Calm.pickF rfl rfl)) ?_
      refine rC (Calm.assign rfl) ?_
      refine arun_nil ?_
      refine athen_n ?_
      refine AWP.sub [(0, _), (1, _), (2, _), (6, _), (7, _), (8, _), (19, _)] ⟨rfl, rfl, rfl, rfl, rfl, rfl, rfl, trivial⟩ ?_
      refine AWP.condT rfl (by first | rfl | (simp; done) | (simp; omega)) ?_
      refine AWP.seq ?_
      refine AWP.region ?_
      refine rC (Calm.assign rfl) ?_
      refine arun_nil ?_
      refine athen_n ?_
      refine AWP.ret ?_
      refine ain_ret ?_
      refine athen_ret ?_
      refine ⟨_, M, ⟨_, _, rfl, rfl, rfl⟩, less_, ?_⟩
      exact ⟨oE, oW, hok, rfl, hM.symm⟩
    · rw [if_neg (fun h => h.elim (fun h => h q1) q2)]
      by_cases q3 : has d.ext s = true
      · rw [if_pos q3]
        refine ACall.enter (args := [.pointer (some ⟨p, 0, none⟩), .string s, .int .i64 n]) (rs := [.tmp 6]) 52 [(0, .pointer (some ⟨p, 0, none⟩)), (1, .string s), (2, .int .i64 n)] Try.func45 rfl rfl (Nat.le_of_ble_eq_true rfl) rfl ⟨rfl, rfl, rfl, trivial⟩ ?_
        refine AWP.seq ?_
        refine AWP.region ?_
        refine rC (Calm.assign rfl) ?_
        refine arun_nil ?_
        refine athen_n ?_
        refine AWP.seq ?_
        refine AWP.region ?_
        refine rC (Calm.move rfl) ?_
        refine rC (Calm.nilCheck rfl) ?_
        refine rC (Calm.fieldAddr ty_field_90_0 rfl) ?_
        refine rC (Calm.fieldAddr ty_field_25_1 rfl) ?_
        refine rC (ld_ ty_plain_22 rfl) ?_
        refine rC (Calm.move rfl) ?_
        refine ARun.call (lit_lt rfl) go_59 rfl (disk_find _ d.ext s _ hE hR.ex.asc (Nat.le_trans hrl.1 (by decide))) ?_
        rintro _ S1 ⟨rfl, h1⟩
        rw [h1, q3]; clear h1 S1
        refine rC (Calm.move rfl) ?_
        refine rC (Calm.extract rfl rfl) ?_
        refine rC (Calm.extract rfl rfl) ?_
        refine rC (Calm.assign rfl) ?_
        refine rC (Calm.assign rfl) ?_
        refine arun_nil ?_
        refine athen_n ?_
        refine AWP.sub [(0, _), (1, _), (2, _), (6, _), (7, _), (8, _)] ⟨rfl, rfl, rfl, rfl, rfl, rfl, trivial⟩ ?_
        refine AWP.seq ?_
        refine AWP.block ?_
        refine AWP.seq ?_
        refine AWP.region ?_
        refine rC (Calm.move rfl) ?_
        refine ARun.build1s (lit_lt rfl) ty_sl_26 rfl rfl ?_
        intro b21 f21
        have g21 := f21
        repeat ((with_reducible replace g21 := fresh_set g21); obtain ⟨g21, _⟩ := g21)
        have := g21.ne hp; have := g21.ne' hp
        refine ARun.call (lit_lt rfl) go_83 rfl (disk_named _ [s] _ (sl_str1 own_)) ?_
        rintro _ S1 ⟨⟨t, rfl, ht⟩, h1⟩
        rw [h1]; clear h1 S1
        obtain rfl : t = true := ht.2 (one_all.2 q1)
        refine rC (Calm.un rfl (una_not _)) ?_
        refine rC (Calm.move rfl) ?_
        first | refine rS 24 ?_ | refine rU 24 ?_ | refine rG 24 (Calm.move rfl) ?_
        first | refine rS 24 ?_ | refine rU 24 ?_ | refine rG 24 (Calm.bin rfl rfl b_lss) ?_
        refine rC ((by first | exact Calm.pickT rfl rfl | exact Calm.pickF rfl rfl)) ?_
        refine rC (Calm.assign rfl) ?_
        refine arun_nil ?_
        refine athen_n ?_
        refine AWP.sub [(0, _), (1, _), (2, _), (6, _), (7, _), (8, _), (19, _)] ⟨rfl, rfl, rfl, rfl, rfl, rfl, rfl, trivial⟩ ?_
        refine AWP.condF rfl (by first | rfl | (simp; done) | (simp; omega)) ?_
        refine AWP.seq ?_
        refine AWP.region ?_
        refine rC (Calm.move rfl) ?_
        refine rC (Calm.assign rfl) ?_
        refine arun_nil ?_
        refine athen_n ?_
        refine AWP.sub [(0, _), (1, _), (2, _), (6, _), (7, _), (8, _), (19, _), (28, _)] ⟨rfl, rfl, rfl, rfl, rfl, rfl, rfl, rfl, trivial⟩ ?_
        refine AWP.condT rfl (by first | rfl | (simp; done) | (simp; omega)) ?_
        refine AWP.seq ?_
        refine AWP.region ?_
        refine rC (Calm.assign rfl) ?_
        refine arun_nil ?_
        refine athen_n ?_
        refine AWP.ret ?_
        refine ain_ret ?_
        refine athen_ret ?_
        refine ⟨_, M, ⟨_, _, rfl, rfl, rfl⟩, less_, ?_⟩
        exact ⟨oE, oW, hok, rfl, hM.symm⟩
      · rw [if_neg q3]
        have q3' := Bool.eq_false_iff.2 q3
        by_cases q4 : d.size - used d.ext < n
        · rw [if_pos q4]
          refine ACall.enter (args := [.pointer (some ⟨p, 0, none⟩), .string s, .int .i64 n]) (rs := [.tmp 6]) 52 [(0, .pointer (some ⟨p, 0, none⟩)), (1, .string s), (2, .int .i64 n)] Try.func45 rfl rfl (Nat.le_of_ble_eq_true rfl) rfl ⟨rfl, rfl, rfl, trivial⟩ ?_
          refine AWP.seq ?_
          refine AWP.region ?_
          refine rC (Calm.assign rfl) ?_
          refine arun_nil ?_
          refine athen_n ?_
          refine AWP.seq ?_
          refine AWP.region ?_
          refine rC (Calm.move rfl) ?_
          refine rC (Calm.nilCheck rfl) ?_
          refine rC (Calm.fieldAddr ty_field_90_0 rfl) ?_
          refine rC (Calm.fieldAddr ty_field_25_1 rfl) ?_
          refine rC (ld_ ty_plain_22 rfl) ?_
          refine rC (Calm.move rfl) ?_
          refine ARun.call (lit_lt rfl) go_59 rfl (disk_find _ d.ext s _ hE hR.ex.asc (Nat.le_trans hrl.1 (by decide))) ?_
          rintro _ S1 ⟨rfl, h1⟩
          rw [h1, q3']; clear h1 S1
          refine rC (Calm.move rfl) ?_
          refine rC (Calm.extract rfl rfl) ?_
          refine rC (Calm.extract rfl rfl) ?_
          refine rC (Calm.assign rfl) ?_
          refine rC (Calm.assign rfl) ?_
          refine arun_nil ?_
          refine athen_n ?_
          refine AWP.sub [(0, _), (1, _), (2, _), (6, _), (7, _), (8, _)] ⟨rfl, rfl, rfl, rfl, rfl, rfl, trivial⟩ ?_
          refine AWP.seq ?_
          refine AWP.block ?_
          refine AWP.seq ?_
          refine AWP.region ?_
          refine rC (Calm.move rfl) ?_
          refine ARun.build1s (lit_lt rfl) ty_sl_26 rfl rfl ?_
          intro b21 f21
          have g21 := f21
          repeat ((with_reducible replace g21 := fresh_set g21); obtain ⟨g21, _⟩ := g21)
          have := g21.ne hp; have := g21.ne' hp
          refine ARun.call (lit_lt rfl) go_83 rfl (disk_named _ [s] _ (sl_str1 own_)) ?_
          rintro _ S1 ⟨⟨t, rfl, ht⟩, h1⟩
          rw [h1]; clear h1 S1
          obtain rfl : t = true := ht.2 (one_all.2 q1)
          refine rC (Calm.un rfl (una_not _)) ?_
          refine rC (Calm.move rfl) ?_
          first | refine rS 24 ?_ | refine rU 24 ?_ | refine rG 24 (Calm.move rfl) ?_
          first | refine rS 24 ?_ | refine rU 24 ?_ | refine rG 24 (Calm.bin rfl rfl b_lss) ?_
          refine rC ((by first | exact Calm.pickT rfl rfl | exact Calm.pickF rfl rfl)) ?_
          refine rC (Calm.assign rfl) ?_
          refine arun_nil ?_
          refine athen_n ?_
          refine AWP.sub [(0, _), (1, _), (2, _), (6, _), (7, _), (8, _), (19, _)] ⟨rfl, rfl, rfl, rfl, rfl, rfl, rfl, trivial⟩ ?_
          refine AWP.condF rfl (by first | rfl | (simp; done) | (simp; omega)) ?_
          refine AWP.seq ?_
          refine AWP.region ?_
          refine rC (Calm.move rfl) ?_
          refine rC (Calm.assign rfl) ?_
          refine arun_nil ?_
          refine athen_n ?_
          refine AWP.sub [(0, _), (1, _), (2, _), (6, _), (7, _), (8, _), (19, _), (28, _)] ⟨rfl, rfl, rfl, rfl, rfl, rfl, rfl, rfl, trivial⟩ ?_
          refine AWP.condF rfl (by first | rfl | (simp; done) | (simp; omega)) ?_
          refine AWP.seq ?_
          refine AWP.region ?_
          refine rC (Calm.move rfl) ?_
          refine rC (Calm.move rfl) ?_
          refine ARun.call (lit_lt rfl) go_58 rfl (dev_Room p d _ (hrd.less less_) hR) ?_
          rintro _ S1 ⟨rfl, h1⟩
          rw [h1]; clear h1 S1
          refine rC (Calm.bin rfl rfl b_gtr) ?_
          refine rC (Calm.assign rfl) ?_
          refine arun_nil ?_
          refine athen_n ?_
          refine AWP.sub [(0, _), (1, _), (2, _), (6, _), (7, _), (8, _), (19, _), (28, _), (30, _)] ⟨rfl, rfl, rfl, rfl, rfl, rfl, rfl, rfl, rfl, trivial⟩ ?_
          refine AWP.condT rfl (by first | rfl | (simp; done) | (simp; omega)) ?_
          refine AWP.seq ?_
          refine AWP.region ?_
          refine rC (Calm.assign rfl) ?_
          refine arun_nil ?_
          refine athen_n ?_
          refine AWP.ret ?_
          refine ain_ret ?_
          refine athen_ret ?_
          refine ⟨_, M, ⟨_, _, rfl, rfl, rfl⟩, less_, ?_⟩
          exact ⟨oE, oW, hok, rfl, hM.symm⟩
        · rw [if_neg q4]
          obtain ⟨m, rfl⟩ : ∃ m : Nat, n = m := ⟨n.toNat, by omega⟩
          rw [Int.toNat_natCast]
          refine ACall.enter (args := [.pointer (some ⟨p, 0, none⟩), .string s, .int .i64 (m : Int)]) (rs := [.tmp 6]) 52 [(0, .pointer (some ⟨p, 0, none⟩)), (1, .string s), (2, .int .i64 (m : Int))] Try.func45 rfl rfl (Nat.le_of_ble_eq_true rfl) rfl ⟨rfl, rfl, rfl, trivial⟩ ?_
          refine AWP.seq ?_
          refine AWP.region ?_
          refine rC (Calm.assign rfl) ?_
          refine arun_nil ?_
          refine athen_n ?_
          refine AWP.seq ?_
          refine AWP.region ?_
          refine rC (Calm.move rfl) ?_
          refine rC (Calm.nilCheck rfl) ?_
          refine rC (Calm.fieldAddr ty_field_90_0 rfl) ?_
          refine rC (Calm.fieldAddr ty_field_25_1 rfl) ?_
          refine rC (ld_ ty_plain_22 rfl) ?_
          refine rC (Calm.move rfl) ?_
          refine ARun.call (lit_lt rfl) go_59 rfl (disk_find _ d.ext s _ hE hR.ex.asc (Nat.le_trans hrl.1 (by decide))) ?_
          rintro _ S1 ⟨rfl, h1⟩
          rw [h1, q3']; clear h1 S1
          refine rC (Calm.move rfl) ?_
          refine rC (Calm.extract rfl rfl) ?_
          refine rC (Calm.extract rfl rfl) ?_
          refine rC (Calm.assign rfl) ?_
          refine rC (Calm.assign rfl) ?_
          refine arun_nil ?_
          refine athen_n ?_
          refine AWP.sub [(0, _), (1, _), (2, _), (6, _), (7, _), (8, _)] ⟨rfl, rfl, rfl, rfl, rfl, rfl, trivial⟩ ?_
          refine AWP.seq ?_
          refine AWP.block ?_
          refine AWP.seq ?_
          refine AWP.region ?_
          refine rC (Calm.move rfl) ?_
          refine ARun.build1s (lit_lt rfl) ty_sl_26 rfl rfl ?_
          intro b21 f21
          have g21 := f21
          repeat ((with_reducible replace g21 := fresh_set g21); obtain ⟨g21, _⟩ := g21)
          have := g21.ne hp; have := g21.ne' hp
          refine ARun.call (lit_lt rfl) go_83 rfl (disk_named _ [s] _ (sl_str1 own_)) ?_
          rintro _ S1 ⟨⟨t, rfl, ht⟩, h1⟩
          rw [h1]; clear h1 S1
          obtain rfl : t = true := ht.2 (one_all.2 q1)
          refine rC (Calm.un rfl (una_not _)) ?_
          refine rC (Calm.move rfl) ?_
          first | refine rS 24 ?_ | refine rU 24 ?_ | refine rG 24 (Calm.move rfl) ?_
          first | refine rS 24 ?_ | refine rU 24 ?_ | refine rG 24 (Calm.bin rfl rfl b_lss) ?_
          refine rC ((by first | exact Calm.pickT rfl rfl | exact Calm.pickF rfl rfl)) ?_
          refine rC (Calm.assign rfl) ?_
          refine arun_nil ?_
          refine athen_n ?_
          refine AWP.sub [(0, _), (1, _), (2, _), (6, _), (7, _), (8, _), (19, _)] ⟨rfl, rfl, rfl, rfl, rfl, rfl, rfl, trivial⟩ ?_
          refine AWP.condF rfl (by first | rfl | (simp; done) | (simp; omega)) ?_
          refine AWP.seq ?_
          refine AWP.region ?_
          refine rC (Calm.move rfl) ?_
          refine rC (Calm.assign rfl) ?_
          refine arun_nil ?_
          refine athen_n ?_
          refine AWP.sub [(0, _), (1, _), (2, _), (6, _), (7, _), (8, _), (19, _), (28, _)] ⟨rfl, rfl, rfl, rfl, rfl, rfl, rfl, rfl, trivial⟩ ?_
          refine AWP.condF rfl (by first | rfl | (simp; done) | (simp; omega)) ?_
          refine AWP.seq ?_
          refine AWP.region ?_
          refine rC (Calm.move rfl) ?_
          refine rC (Calm.move rfl) ?_
          refine ARun.call (lit_lt rfl) go_58 rfl (dev_Room p d _ (hrd.less less_) hR) ?_
          rintro _ S1 ⟨rfl, h1⟩
          rw [h1]; clear h1 S1
          refine rC (Calm.bin rfl rfl b_gtr) ?_
          refine rC (Calm.assign rfl) ?_
          refine arun_nil ?_
          refine athen_n ?_
          refine AWP.sub [(0, _), (1, _), (2, _), (6, _), (7, _), (8, _), (19, _), (28, _), (30, _)] ⟨rfl, rfl, rfl, rfl, rfl, rfl, rfl, rfl, rfl, trivial⟩ ?_
          refine AWP.condF rfl (by first | rfl | (simp; done) | (simp; omega)) ?_
          refine AWP.less M less_ ?_
          refine AWP.skip ?_
          refine ain_n ?_
          refine athen_n ?_
          refine AWP.seq ?_
          refine AWP.draw [(0, true), (1, true), (2, true), (3, true), (4, true), (5, true), (6, true), (7, true), (8, true), (9, true), (10, false), (11, true), (12, false), (13, false), (14, true), (15, true), (16, true), (17, false)] [13, 17] mixed (by kernel_rfl) ?_
          refine dP (hc := fun _ => Calm.move rfl) (h := ?_)
          refine dP (hc := fun _ => Calm.move rfl) (h := ?_)
          refine dP (hc := fun _ => Calm.nilCheck rfl) (h := ?_)
          refine dP (hc := fun _ => Calm.fieldAddr ty_field_90_0 rfl) (h := ?_)
          refine dP (hc := fun _ => Calm.fieldAddr ty_field_25_1 rfl) (h := ?_)
          refine dC (hc := ld_ ty_plain_22 rfl) (h := ?_)
          refine dP (hc := fun _ => Calm.move rfl) (h := ?_)
          refine dP (hc := fun _ => Calm.move rfl) (h := ?_)
          refine dP (hc := fun _ => Calm.move rfl) (h := ?_)
          refine dP (hc := fun _ => Calm.as (v := .int .i64 ((m : Int) * 64)) (v' := .int .i64 ((64 * m : Nat) : Int)) (congrArg (Value.int .i64) (by omega)) (Calm.bin rfl rfl (bin_mulW (IntWalk.i64_in _ (by omega))))) (h := ?_)
          refine draw_only rfl ?_
          refine ARun.call (lit_lt rfl) go_85 rfl (shelf_Repeat (64 * m) _ (by omega) (by omega)) ?_
          rintro _ S1 ⟨rfl, h1⟩
          rw [h1]; clear h1 S1
          refine arun_nil ⟨fun _ => less_, ?_⟩
          refine dP (hc := fun _ => Calm.build (cs := [_, _]) ty_bld_54 rfl rfl) (h := ?_)
          refine draw_only rfl ?_
          refine ARun.build1 (lit_lt rfl) ty_sl_22 rfl (by decide) (by decide) rfl rfl ?_
          intro b47 f47
          have g47 := f47
          repeat ((with_reducible replace g47 := fresh_set g47); obtain ⟨g47, _⟩ := g47)
          have := g47.ne hp; have := g47.ne' hp
          have hins := ins_ext (baseE S p d oW (devB d oE oW)) oE d.ext (pos d.ext s) (s, zeros m) b47 hoE (by rw [hME]; exact f47) (pos_le _ _) hrl.1
          rw [hME] at hins
          refine arun_nil ⟨fun _ => less_, ?_⟩
          refine draw_only rfl ?_
          refine ARun.call (lit_lt rfl) go_84 rfl (hins) ?_
          rintro _ S1 ⟨o', ho', rfl, h1⟩
          rw [h1]; clear h1 S1
          have hap' := apart_E hap ho'
          have hp2 : (outN 2 (baseE S p d oW (devB d oE oW)) o' extT ((insAt d.ext (pos d.ext s) (s, zeros m)).flatMap extF)).own p = some (devB d oE oW) := own_outN' (Mem.own_set_same _ _ _) (fun q c e => (hap'.e q c e).2)
          have hE' := devM_E' (d' := { d with ext := insAt d.ext (pos d.ext s) (s, zeros m) }) hap ho' rfl
          have hln := ins_len (pos_le d.ext s) (s, zeros m)
          unfold devB at hp2
          refine arun_nil ⟨fun h => absurd h (by decide), ?_⟩
          refine dP (hc := fun _ => Calm.nilCheck rfl) (h := ?_)
          refine dP (hc := fun _ => Calm.fieldAddr ty_field_90_0 rfl) (h := ?_)
          refine dP (hc := fun _ => Calm.fieldAddr ty_field_25_1 rfl) (h := ?_)
          refine draw_only rfl ?_
          refine ARun.store1 rfl rfl ty_size_22 (outV_cells _ _) hp2 (show 1 < 5 from by decide) (outV_one _ _) ?_
          (try simp only [Mem.set_set, List.set_cons_zero, List.set_cons_succ, Nat.zero_add, Nat.reduceAdd])
          refine arun_nil ⟨fun h => absurd h (by decide), ?_⟩
          refine draw_nil ?_
          refine athen_n ?_
          refine AWP.sub [(0, _), (1, _), (2, _), (6, _), (7, _), (8, _), (19, _), (28, _), (30, _)] ⟨rfl, rfl, rfl, rfl, rfl, rfl, rfl, rfl, rfl, trivial⟩ ?_
          refine AWP.seq ?_
          refine AWP.region ?_
          refine rC (Calm.assign rfl) ?_
          refine arun_nil ?_
          refine athen_n ?_
          refine AWP.ret ?_
          refine ⟨_, devM S p _ o' oW, ⟨_, _, rfl, rfl, rfl⟩, (by rw [← hE']; unfold devB; rw [hln]; exact Mem.Less.refl _), ?_⟩
          exact ⟨o', oW, okV_mk hap' (fits_E hft ho' hln rfl), rfl, rfl⟩
  · rw [if_pos (.inl q1)]
    refine ACall.enter (args := [.pointer (some ⟨p, 0, none⟩), .string s, .int .i64 n]) (rs := [.tmp 6]) 52 [(0, .pointer (some ⟨p, 0, none⟩)), (1, .string s), (2, .int .i64 n)] Try.func45 rfl rfl (Nat.le_of_ble_eq_true rfl) rfl ⟨rfl, rfl, rfl, trivial⟩ ?_
    refine AWP.seq ?_
    refine AWP.region ?_
    refine rC (Calm.assign rfl) ?_
    refine arun_nil ?_
    refine athen_n ?_
    refine AWP.seq ?_
    refine AWP.region ?_
    refine rC (Calm.move rfl) ?_
    refine rC (Calm.nilCheck rfl) ?_
    refine rC (Calm.fieldAddr ty_field_90_0 rfl) ?_
    refine rC (Calm.fieldAddr ty_field_25_1 rfl) ?_
    refine rC (ld_ ty_plain_22 rfl) ?_
    refine rC (Calm.move rfl) ?_
    refine ARun.call (lit_lt rfl) go_59 rfl (disk_find _ d.ext s _ hE hR.ex.asc (Nat.le_trans hrl.1 (by decide))) ?_
    rintro _ S1 ⟨rfl, h1⟩
    rw [h1]; clear h1 S1
    refine rC (Calm.move rfl) ?_
    refine rC (Calm.extract rfl rfl) ?_
    refine rC (Calm.extract rfl rfl) ?_
    refine rC (Calm.assign rfl) ?_
    refine rC (Calm.assign rfl) ?_
    refine arun_nil ?_
    refine athen_n ?_
    refine AWP.sub [(0, _), (1, _), (2, _), (6, _), (7, _), (8, _)] ⟨rfl, rfl, rfl, rfl, rfl, rfl, trivial⟩ ?_
    refine AWP.seq ?_
    refine AWP.block ?_
    refine AWP.seq ?_
    refine AWP.region ?_
    refine rC (Calm.move rfl) ?_
    refine ARun.build1s (lit_lt rfl) ty_sl_26 rfl rfl ?_
    intro b21 f21
    have g21 := f21
    repeat ((with_reducible replace g21 := fresh_set g21); obtain ⟨g21, _⟩ := g21)
    have := g21.ne hp; have := g21.ne' hp
    refine ARun.call (lit_lt rfl) go_83 rfl (disk_named _ [s] _ (sl_str1 own_)) ?_
    rintro _ S1 ⟨⟨t, rfl, ht⟩, h1⟩
    rw [h1]; clear h1 S1
    obtain rfl : t = false := Bool.eq_false_iff.2 (fun e => q1 (one_all.1 (ht.1 e)))
    refine rC (Calm.un rfl (una_not _)) ?_
    refine rC (Calm.move rfl) ?_
    first | refine rS 24 ?_ | refine rU 24 ?_ | refine rG 24 (Calm.move rfl) ?_
    first | refine rS 24 ?_ | refine rU 24 ?_ | refine rG 24 (Calm.bin rfl rfl b_lss) ?_
    refine rC ((by first | exact Calm.pickT rfl rfl | exact Calm.pickF rfl rfl)) ?_
    refine rC (Calm.assign rfl) ?_
    refine arun_nil ?_
    refine athen_n ?_
    refine AWP.sub [(0, _), (1, _), (2, _), (6, _), (7, _), (8, _), (19, _)] ⟨rfl, rfl, rfl, rfl, rfl, rfl, rfl, trivial⟩ ?_
    refine AWP.condT rfl (by first | rfl | (simp; done) | (simp; omega)) ?_
    refine AWP.seq ?_
    refine AWP.region ?_
    refine rC (Calm.assign rfl) ?_
    refine arun_nil ?_
    refine athen_n ?_
    refine AWP.ret ?_
    refine ain_ret ?_
    refine athen_ret ?_
    refine ⟨_, M, ⟨_, _, rfl, rfl, rfl⟩, less_, ?_⟩
    exact ⟨oE, oW, hok, rfl, hM.symm⟩
end Go.Proofs.Ytkeiphkccnfhoaa
