/-
  Texts that belong together: Disk19, Disk20, DiskR0, DiskIter, DiskSee, Region, Disk21, Disk22, Pool1, Pool2, Pool3.
-/
import Derived.Test.YtkeiphkccnfhoaaBPm2
import Derived.RangeFuncNested
import Derived.RangeFuncBound
import Derived.RangeFuncCalls
import Derived.RangeFuncLeaves
import Derived.Shelf.Abstract
import Derived.Shelf.RegionOpen
import Derived.WalkKit
import Derived.OwnWalkIn
import Derived.TacticsInMore
import Derived.LoopNIn
import Derived.LoopIn
import Derived.Orders
namespace Go.Proofs.Ytkeiphkccnfhoaa
open Go.RowKit
open Mv Disk
set_option linter.unusedVariables false
set_option linter.unusedSimpArgs false
set_option maxRecDepth 4000
abbrev u8T : TypeId := 5
/-- What the bytes of an extent are in: none, or a block of one's own. -/
def OkB (M : Mem) (o : Option (Nat × Nat)) (n : Nat) : Prop := ∀ b c, o = some (b, c) → Fresh M b ∧ n ≤ c
set_option maxHeartbeats 8000000 in
theorem dev_settle (p : Nat) (d : D) (S : Mem) (oE oW : Option (Nat × Nat)) (hok : OkV S p d oE oW) (hR : Right d) (f : FuncId) (caps : List Value) (hgo : goFn Try.prog f = true) (kp : Nat → Bool)
    (hkeep : ∀ (k : Nat) (M : Mem), k < d.waits.length → S.Less M → ACall Try.prog f (([] : List Value) ++ [Value.int .i64 (k : Int)] ++ caps).toArray M fun r S' => r = .bool (kp k) ∧ S' = M) :
    ACall Try.prog 67 #[.pointer (some ⟨p, 0, none⟩), .func (.func f) #[] caps.toArray] (devM S p d oE oW) fun r S' => r = .tuple #[] ∧ OkV S p (settleD d kp) oE none ∧ S' = devM S p (settleD d kp) oE none := by
  have hrl := right_len hR
  have hlens := right_lens hR
  have hwl := hR.wl
  have hp : (devM S p d oE oW).own p = some (devB d oE oW) := Mem.own_set_same _ _ _
  obtain ⟨qe, de, hqe⟩ := outV_eq hok.dk.e
  obtain ⟨qw, dw, hqw⟩ := outV_eq hok.dk.w
  have hp' := hp
  unfold devB at hp'
  refine ACall.enter (args := [.pointer (some ⟨p, 0, none⟩), .func (.func f) #[] caps.toArray]) (rs := []) 73 [(0, .pointer (some ⟨p, 0, none⟩)), (1, .func (.func f) #[] caps.toArray)] Try.func67 rfl rfl (Nat.le_of_ble_eq_true rfl) rfl ⟨rfl, rfl, trivial⟩ ?_
  refine AWP.seq ?_
  refine AWP.seq ?_
  refine AWP.region ?_
  refine rC (Calm.move rfl) ?_
  refine rC (Calm.nilCheck rfl) ?_
  refine rC (Calm.fieldAddr ty_field_90_0 rfl) ?_
  refine rC (Calm.fieldAddr ty_field_25_1 rfl) ?_
  refine rC (ld_ ty_plain_22 rfl) ?_
  refine rC ((by rw [hqe]; exact Calm.lenSl Try.underlying22 rfl)) ?_
  refine rC (Calm.move rfl) ?_
  refine arun_nil ?_
  refine athen_n ?_
  refine AWP.sub [(0, _), (1, _), (13, _), (14, _), (15, _)] ⟨rfl, rfl, rfl, rfl, rfl, trivial⟩ ?_
  refine AWP.block ?_
  refine AWP.loop (X := Nat) (fun x => [(0, .pointer (some ⟨p, 0, none⟩)), (1, .func (.func f) #[] caps.toArray), (13, outV oE d.ext.length), (14, .int .i64 d.ext.length), (15, .int .i64 x)]) (fun x => devM S p { d with ext := mixE kp d.waits d.ext x } oE oW) (fun x => x ≤ d.ext.length ∧ OkV S p { d with ext := mixE kp d.waits d.ext x } oE oW) (fun x => d.ext.length - x) (0) ⟨rfl, rfl, rfl, rfl, rfl, trivial⟩ (by rw [mixE_zero]; exact Mem.Less.refl _) (⟨Nat.zero_le _, by rw [mixE_zero]; exact hok⟩) ?_
  rintro i ⟨hi, hoki⟩
  (try dsimp only at *)
  have hml := mixE_len kp d.waits d.ext i
  have hpi : (devM S p { d with ext := mixE kp d.waits d.ext i } oE oW).own p = some (devB { d with ext := mixE kp d.waits d.ext i } oE oW) := Mem.own_set_same _ _ _
  unfold devB at hpi
  simp only at hpi
  refine AWP.seq ?_
  refine AWP.region ?_
  refine rC (Calm.bin rfl rfl b_lss) ?_
  refine arun_nil ?_
  refine athen_n ?_
  refine AWP.seq ?_
  refine AWP.condB rfl (fun hc => ?_) (fun hc => ?_)
  · have hc : i < d.ext.length := by have := of_decide_eq_true hc; omega
    obtain ⟨⟨b, c⟩, rfl⟩ : ∃ q, oE = some q := by cases hq : oE with | none => (have := hoki.fits.e0 hq; simp only at this; omega) | some q => exact ⟨q, rfl⟩
    have hbE := dev_ownE hoki
    have hmg := mixE_get kp d.waits d.ext i hc (by omega)
    have hmsu := mixE_succ kp d.waits d.ext i hc
    have hxm := List.getElem_mem hc
    have hfit := right_fit hR hxm
    have hsx := right_sec hR hxm
    have hasz := fun n h => acc_size (kp := kp) hfit n h
    have hSi := hoki.less
    have hWS : Sl 3 wrF (devM S p { d with ext := mixE kp d.waits d.ext i } (some (b, c)) oW) (outV oW d.waits.length) d.waits := (sl_outN wr_len (e := wrT) hoki.dk.w rfl hlens.2).less (Mem.less_set _ _ _ hoki.fr.1)
    rw [hqw] at hWS
    have hki : (devM S p { d with ext := mixE kp d.waits d.ext i } (some (b, c)) oW).Knows ⟨b, 0 + i * 2, none⟩ (extF d.ext[i]) := Mem.own_knows hbE _ _ (fun j v hj => by have := flat_get ext_len (mixE kp d.waits d.ext i) i (by omega) j v (by rw [hmg]; exact hj); rw [← this]; congr 1; omega)
    have hdx : doneX kp d.waits d.ext[i] = (d.ext[i].1, (accW kp d.ext[i] d.waits d.waits.length).getD d.ext[i].2) := rfl
    rw [hdx] at hmsu
    have hasu := accW_succ kp d.ext[i] d.waits
    have hse := fun y => dev_setE (d' := { d with ext := (mixE kp d.waits d.ext i).set i y }) hoki rfl (by simp) rfl rfl rfl
    have hcl : 0 + i * 2 + 1 < ((mixE kp d.waits d.ext i).flatMap extF).length := by rw [flat_length ext_len, hml]; omega
    simp only at hbE hse
    generalize hxx : d.ext[i] = x at *
    unfold extF at hki
    generalize hMi : devM S p { d with ext := mixE kp d.waits d.ext i } (some (b, c)) oW = Mi at *
    refine AWP.skip ?_
    refine athen_n ?_
    refine AWP.seq ?_
    refine AWP.block ?_
    refine AWP.seq ?_
    refine AWP.region ?_
    refine rC (Calm.move rfl) ?_
    refine rC (Calm.indexS Try.underlying22 ty_size_54 rfl rfl (by omega) (by omega)) ?_
    refine rC (ldA_ (cs := [_, _]) ty_agg_54 ty_size_54 rfl) ?_
    refine ARun.alloc (lit_lt rfl) ty_zero_54 ?_
    intro b5 f5
    have g5 := f5
    repeat ((with_reducible replace g5 := fresh_set g5); obtain ⟨g5, _⟩ := g5)
    (try simp only [List.length_cons, List.length_nil, Nat.zero_add, Nat.reduceAdd])
    refine rC (Calm.assign rfl) ?_
    first | refine ARun.storeAll rfl rfl ty_size_54 own_ rfl rfl ?_ | refine ARun.store rfl rfl ty_size_54 own_ lens_ rfl ?_
    (try simp only [Mem.set_set, List.set_cons_zero, List.set_cons_succ, Nat.zero_add, Nat.reduceAdd])
    refine arun_nil ?_
    refine athen_n ?_
    refine AWP.sub [(0, _), (1, _), (13, _), (14, _), (15, _), (16, _), (5, _), (4, _)] ⟨rfl, rfl, rfl, rfl, rfl, rfl, rfl, rfl, trivial⟩ ?_
    have hpb5 := f5.ne hpi
    refine AWP.seq ?_
    refine AWP.region ?_
    refine rC (Calm.assign rfl) ?_
    refine arun_nil ?_
    refine athen_n ?_
    refine AWP.seq ?_
    refine AWP.seq ?_
    refine AWP.region ?_
    refine rC (Calm.move rfl) ?_
    refine rC (Calm.nilCheck rfl) ?_
    refine rC (Calm.fieldAddr ty_field_90_0 rfl) ?_
    refine rC (Calm.fieldAddr ty_field_25_2 rfl) ?_
    refine rC (ld_ ty_plain_23 rfl) ?_
    refine rC ((by rw [hqw]; exact Calm.lenSl Try.underlying23 rfl)) ?_
    rw [hqw]
    refine rC (Calm.move rfl) ?_
    refine arun_nil ?_
    refine athen_n ?_
    refine AWP.sub [(0, _), (1, _), (13, _), (14, _), (15, _), (16, _), (5, _), (4, _), (6, _), (24, _), (25, _), (26, _)] ⟨rfl, rfl, rfl, rfl, rfl, rfl, rfl, rfl, rfl, rfl, rfl, rfl, trivial⟩ ?_
    refine AWP.block ?_
    refine AWP.loop (X := Nat × Option (Nat × Nat)) (fun y => [(0, .pointer (some ⟨p, 0, none⟩)), (1, .func (.func f) #[] caps.toArray), (13, outV (some (b, c)) d.ext.length), (14, .int .i64 d.ext.length), (15, .int .i64 i), (4, .int .i64 i), (5, .pointer (some ⟨b5, 0, none⟩)), (6, outV y.2 x.2.size), (24, .slice qw d.waits.length dw), (25, .int .i64 d.waits.length), (26, .int .i64 y.1)]) (fun y => outM (Mi.set b5 ⟨54, [.string x.1, .string x.2], 2⟩) y.2 u8T (cellsB ((accW kp x d.waits y.1).getD x.2).data.toList)) (fun y => y.1 ≤ d.waits.length ∧ OkB (Mi.set b5 ⟨54, [.string x.1, .string x.2], 2⟩) y.2 x.2.size ∧ (y.2 = none ↔ accW kp x d.waits y.1 = none)) (fun y => d.waits.length - y.1) ((0, none)) ⟨rfl, rfl, rfl, rfl, rfl, rfl, rfl, rfl, rfl, rfl, rfl, trivial⟩ (Mem.Less.refl _) (⟨Nat.zero_le _, (fun b c e => by cases e), by simp [accW]⟩) ?_
    rintro ⟨k, ob⟩ ⟨hk, hob, hoa⟩
    (try dsimp only at *)
    have hsz := hasz k hk
    refine AWP.seq ?_
    refine AWP.region ?_
    refine rC (Calm.bin rfl rfl b_lss) ?_
    refine arun_nil ?_
    refine athen_n ?_
    refine AWP.seq ?_
    refine AWP.condB rfl (fun hc2 => ?_) (fun hc2 => ?_)
    · have hc2 : k < d.waits.length := by have := of_decide_eq_true hc2; omega
      obtain ⟨_, _, ew1, ew2, ew3, hW3⟩ := id hWS
      cases ew1
      obtain ⟨bw, ow, rfl, hkkw⟩ := hW3.resolve_left (fun e => by rw [e] at hc2; simp at hc2)
      have hkw := hkkw k hc2
      have hsu := hasu k hc2
      have hfw := hfit _ (List.getElem_mem hc2)
      generalize hw : d.waits[k] = w at *
      unfold wrF at hkw
      rcases ob with _ | ⟨bd, cd⟩
      · have hacc : accW kp x d.waits k = none := hoa.1 rfl
        rw [hacc] at hsu hsz
        simp only [Option.getD_none] at hsu hsz
        have hb5 : (Mi.set b5 ⟨54, [.string x.1, .string x.2], 2⟩).own b5 = some ⟨54, [.string x.1, .string x.2], 2⟩ := Mem.own_set_same _ _ _
        simp only [outM, outV]
        have hML : Mi.Less (Mi.set b5 ⟨54, [.string x.1, .string x.2], 2⟩) := Mem.less_set _ _ _ f5.1
        have hkw' := hkw.less hML
        refine AWP.skip ?_
        refine athen_n ?_
        refine AWP.seq ?_
        refine AWP.block ?_
        refine AWP.seq ?_
        refine AWP.region ?_
        refine rC (Calm.move rfl) ?_
        refine rC (Calm.indexS Try.underlying23 ty_size_51 rfl rfl (by omega) (by omega)) ?_
        refine rC (ldA_ (cs := [_, _, _]) ty_agg_51 ty_size_51 rfl) ?_
        refine ARun.alloc (lit_lt rfl) ty_zero_51 ?_
        intro b8 f8
        have g8 := f8
        repeat ((with_reducible replace g8 := fresh_set g8); obtain ⟨g8, _⟩ := g8)
        (try simp only [List.length_cons, List.length_nil, Nat.zero_add, Nat.reduceAdd])
        refine rC (Calm.assign rfl) ?_
        first | refine ARun.storeAll rfl rfl ty_size_51 own_ rfl rfl ?_ | refine ARun.store rfl rfl ty_size_51 own_ lens_ rfl ?_
        (try simp only [Mem.set_set, List.set_cons_zero, List.set_cons_succ, Nat.zero_add, Nat.reduceAdd])
        refine arun_nil ?_
        refine athen_n ?_
        refine AWP.sub [(0, _), (1, _), (13, _), (14, _), (15, _), (4, _), (5, _), (6, _), (24, _), (25, _), (26, _), (27, _), (8, _), (7, _)] ⟨rfl, rfl, rfl, rfl, rfl, rfl, rfl, rfl, rfl, rfl, rfl, rfl, rfl, rfl, trivial⟩ ?_
        by_cases hn : w.1 = x.1
        · by_cases hkk : kp k = true
          · rw [if_pos ⟨hn, hkk⟩] at hsu
            obtain ⟨hw0, hw1, hw2⟩ := hfw hn
            refine AWP.seq ?_
            refine AWP.seq ?_
            refine AWP.region ?_
            refine rC (Calm.fieldAddr ty_field_51_0 rfl) ?_
            refine rC (ld_ ty_plain_9 rfl) ?_
            refine rC (Calm.fieldAddr ty_field_54_0 rfl) ?_
            refine rC (ld_ ty_plain_9 rfl) ?_
            refine rC (Calm.bin rfl rfl (bin_bool (bin_str_neq _ _) (bnot_dec_false hn))) ?_
            refine rC (Calm.move rfl) ?_
            first | refine rS 36 ?_ | refine rU 36 ?_ | refine rG 36 (Calm.move rfl) ?_
            first | refine rS 36 ?_ | refine rU 36 ?_ | refine rG 36 (Calm.move rfl) ?_
            refine rUn 36 ?_
            refine ARun.callV (first := []) (cap := caps) (lit_lt rfl) hgo rfl rfl (hkeep k _ hc2 (hSi.trans (hML.trans less_))) ?_
            rintro _ S1 ⟨rfl, h1⟩
            rw [h1, hkk]; clear h1 S1
            first | refine rS 36 ?_ | refine rU 36 ?_ | refine rG 36 (Calm.un rfl (una_not _)) ?_
            refine rC ((by first | exact Calm.pickT rfl rfl | exact Calm.pickF rfl rfl)) ?_
            refine arun_nil ?_
            refine athen_n ?_
            refine AWP.sub [(0, _), (1, _), (13, _), (14, _), (15, _), (4, _), (5, _), (6, _), (24, _), (25, _), (26, _), (27, _), (8, _), (7, _), (41, _)] ⟨rfl, rfl, rfl, rfl, rfl, rfl, rfl, rfl, rfl, rfl, rfl, rfl, rfl, rfl, rfl, trivial⟩ ?_
            refine AWP.condF rfl (by first | rfl | (simp; done) | (simp; omega)) ?_
            refine AWP.skip ?_
            refine athen_n ?_
            refine AWP.seq ?_
            refine AWP.seq ?_
            refine AWP.region ?_
            refine rC (Calm.move rfl) ?_
            refine rC (Calm.bin rfl rfl (bin_nil_eql Try.underlying92)) ?_
            refine arun_nil ?_
            refine athen_n ?_
            refine AWP.sub [(0, _), (1, _), (13, _), (14, _), (15, _), (4, _), (5, _), (6, _), (24, _), (25, _), (26, _), (27, _), (8, _), (7, _), (41, _), (43, _)] ⟨rfl, rfl, rfl, rfl, rfl, rfl, rfl, rfl, rfl, rfl, rfl, rfl, rfl, rfl, rfl, rfl, trivial⟩ ?_
            refine AWP.condT rfl (by first | rfl | (simp; done) | (simp; omega)) ?_
            refine AWP.region ?_
            refine rC (Calm.fieldAddr ty_field_54_1 rfl) ?_
            refine rC (ld_ ty_plain_9 rfl) ?_
            refine ARun.toBytes (lit_lt rfl) ty_str_9 ty_bytes_92 rfl ?_
            intro b46 c46 f46 hc46
            have g46 := f46
            repeat ((with_reducible replace g46 := fresh_set g46); obtain ⟨g46, _⟩ := g46)
            refine rC (Calm.assign rfl) ?_
            refine arun_nil ?_
            refine athen_n ?_
            refine AWP.sub [(0, _), (1, _), (13, _), (14, _), (15, _), (4, _), (5, _), (6, _), (24, _), (25, _), (26, _), (27, _), (8, _), (7, _), (41, _), (43, _)] ⟨rfl, rfl, rfl, rfl, rfl, rfl, rfl, rfl, rfl, rfl, rfl, rfl, rfl, rfl, rfl, rfl, trivial⟩ ?_
            refine AWP.draw [(0, true), (1, true), (2, true), (3, true), (4, true), (5, true), (6, true), (7, false)] [7] mixed (by kernel_rfl) ?_
            refine dP (hc := fun _ => Calm.move rfl) (h := ?_)
            refine dP (hc := fun _ => Calm.fieldAddr ty_field_51_1 rfl) (h := ?_)
            refine dC (hc := ld_ ty_plain_3 rfl) (h := ?_)
            refine dP (hc := fun _ => Calm.bin rfl rfl b_mul_i64) (h := ?_)
            refine dP (hc := fun _ => Calm.sliceLo (64 * w.2.1.toNat) Try.underlying92 ty_size_5 rfl rfl (by omega) (by omega) (by omega)) (h := ?_)
            refine dP (hc := fun _ => Calm.fieldAddr ty_field_51_2 rfl) (h := ?_)
            refine dC (hc := ld_ ty_plain_9 rfl) (h := ?_)
            refine draw_only rfl ?_
            refine ARun.copyStr (lit_lt rfl) ty_sl_92 rfl own_ rfl (by omega) (by simp only [cellsB_length, size_data]; omega) ?_
            have hpc := putS_cells (x := x.2) (w := w) hw1 hw2
            refine arun_nil ⟨fun h => absurd h (by decide), ?_⟩
            refine draw_nil ?_
            refine ain_n ?_
            refine athen_n ?_
            refine AWP.sub [(0, _), (1, _), (13, _), (14, _), (15, _), (4, _), (5, _), (6, _), (24, _), (25, _), (26, _), (27, _), (8, _), (7, _), (41, _), (43, _)] ⟨rfl, rfl, rfl, rfl, rfl, rfl, rfl, rfl, rfl, rfl, rfl, rfl, rfl, rfl, rfl, rfl, trivial⟩ ?_
            refine AWP.region ?_
            refine rC (Calm.bin rfl rfl b_add_i64) ?_
            refine rC (Calm.move rfl) ?_
            refine arun_nil ?_
            refine athen_n ?_
            refine ⟨(k + 1, some (b46, c46)), ?_, ?_, ?_, ?_⟩
            all_goals (try dsimp only)
            · exact ⟨rfl, rfl, rfl, rfl, rfl, rfl, rfl, rfl, rfl, rfl, some_int (by simp), trivial⟩
            · simp only [hsu, Option.getD_some, ← hpc, outM]; exact less_
            · exact ⟨hc2, fun b' c' e => by cases e; exact ⟨fresh_more g46 (by assumption), hc46⟩, by simp [hsu]⟩
            · omega
          · rw [if_neg (fun h => hkk h.2)] at hsu
            refine AWP.seq ?_
            refine AWP.seq ?_
            refine AWP.region ?_
            refine rC (Calm.fieldAddr ty_field_51_0 rfl) ?_
            refine rC (ld_ ty_plain_9 rfl) ?_
            refine rC (Calm.fieldAddr ty_field_54_0 rfl) ?_
            refine rC (ld_ ty_plain_9 rfl) ?_
            refine rC (Calm.bin rfl rfl (bin_bool (bin_str_neq _ _) (bnot_dec_false hn))) ?_
            refine rC (Calm.move rfl) ?_
            first | refine rS 36 ?_ | refine rU 36 ?_ | refine rG 36 (Calm.move rfl) ?_
            first | refine rS 36 ?_ | refine rU 36 ?_ | refine rG 36 (Calm.move rfl) ?_
            refine rUn 36 ?_
            refine ARun.callV (first := []) (cap := caps) (lit_lt rfl) hgo rfl rfl (hkeep k _ hc2 (hSi.trans (hML.trans less_))) ?_
            rintro _ S1 ⟨rfl, h1⟩
            rw [h1, Bool.eq_false_iff.2 hkk]; clear h1 S1
            first | refine rS 36 ?_ | refine rU 36 ?_ | refine rG 36 (Calm.un rfl (una_not _)) ?_
            refine rC ((by first | exact Calm.pickT rfl rfl | exact Calm.pickF rfl rfl)) ?_
            refine arun_nil ?_
            refine athen_n ?_
            refine AWP.sub [(0, _), (1, _), (13, _), (14, _), (15, _), (4, _), (5, _), (6, _), (24, _), (25, _), (26, _), (27, _), (8, _), (7, _), (41, _)] ⟨rfl, rfl, rfl, rfl, rfl, rfl, rfl, rfl, rfl, rfl, rfl, rfl, rfl, rfl, rfl, trivial⟩ ?_
            refine AWP.condT rfl (by first | rfl | (simp; done) | (simp; omega)) ?_
            refine AWP.exit ?_
            refine athen_exit ?_
            refine ain_same ?_
            refine athen_n ?_
            refine AWP.region ?_
            refine rC (Calm.bin rfl rfl b_add_i64) ?_
            refine rC (Calm.move rfl) ?_
            refine arun_nil ?_
            refine athen_n ?_
            refine ⟨(k + 1, none), ?_, ?_, ?_, ?_⟩
            all_goals (try dsimp only)
            · exact ⟨rfl, rfl, rfl, rfl, rfl, rfl, rfl, rfl, rfl, rfl, some_int (by simp), trivial⟩
            · (try simp only [hsu, outM, Option.getD_none, Option.getD_some]); exact less_
            · exact ⟨hc2, hob, by simp [hsu]⟩
            · omega
        · rw [if_neg (fun h => hn h.1)] at hsu
          refine AWP.seq ?_
          refine AWP.seq ?_
          refine AWP.region ?_
          refine rC (Calm.fieldAddr ty_field_51_0 rfl) ?_
          refine rC (ld_ ty_plain_9 rfl) ?_
          refine rC (Calm.fieldAddr ty_field_54_0 rfl) ?_
          refine rC (ld_ ty_plain_9 rfl) ?_
          refine rC (Calm.bin rfl rfl (bin_bool (bin_str_neq _ _) (bnot_dec_true hn))) ?_
          refine rC (Calm.move rfl) ?_
          first | refine rS 36 ?_ | refine rU 36 ?_ | refine rG 36 (Calm.move rfl) ?_
          first | refine rS 36 ?_ | refine rU 36 ?_ | refine rG 36 (Calm.move rfl) ?_
          first | refine rS 36 ?_ | refine rU 36 ?_
          first | refine rS 36 ?_ | refine rU 36 ?_ | refine rG 36 (Calm.un rfl (una_not _)) ?_
          refine rC ((by first | exact Calm.pickT rfl rfl | exact Calm.pickF rfl rfl)) ?_
          refine arun_nil ?_
          refine athen_n ?_
          refine AWP.sub [(0, _), (1, _), (13, _), (14, _), (15, _), (4, _), (5, _), (6, _), (24, _), (25, _), (26, _), (27, _), (8, _), (7, _), (41, _)] ⟨rfl, rfl, rfl, rfl, rfl, rfl, rfl, rfl, rfl, rfl, rfl, rfl, rfl, rfl, rfl, trivial⟩ ?_
          refine AWP.condT rfl (by first | rfl | (simp; done) | (simp; omega)) ?_
          refine AWP.exit ?_
          refine athen_exit ?_
          refine ain_same ?_
          refine athen_n ?_
          refine AWP.region ?_
          refine rC (Calm.bin rfl rfl b_add_i64) ?_
          refine rC (Calm.move rfl) ?_
          refine arun_nil ?_
          refine athen_n ?_
          refine ⟨(k + 1, none), ?_, ?_, ?_, ?_⟩
          all_goals (try dsimp only)
          · exact ⟨rfl, rfl, rfl, rfl, rfl, rfl, rfl, rfl, rfl, rfl, some_int (by simp), trivial⟩
          · (try simp only [hsu, outM, Option.getD_none, Option.getD_some]); exact less_
          · exact ⟨hc2, hob, by simp [hsu]⟩
          · omega
      · obtain ⟨hfb, hcb⟩ := hob bd cd rfl
        obtain ⟨hfb1, hbd5⟩ := fresh_set hfb
        have hbd5' := Ne.symm hbd5
        obtain ⟨cur, hacc⟩ : ∃ cur, accW kp x d.waits k = some cur := by cases h : accW kp x d.waits k with | none => exact absurd (hoa.2 h) (by simp) | some cur => exact ⟨cur, rfl⟩
        rw [hacc] at hsu hsz ⊢
        simp only [Option.getD_some] at hsu hsz ⊢
        have hb5 : ((Mi.set b5 ⟨54, [.string x.1, .string x.2], 2⟩).set bd ⟨u8T, cellsB cur.data.toList, cd⟩).own b5 = some ⟨54, [.string x.1, .string x.2], 2⟩ := (Mem.own_set_other _ _ hbd5').trans (Mem.own_set_same _ _ _)
        simp only [outM, outV]
        have hML : Mi.Less ((Mi.set b5 ⟨54, [.string x.1, .string x.2], 2⟩).set bd ⟨u8T, cellsB cur.data.toList, cd⟩) := (Mem.less_set _ _ _ f5.1).trans (Mem.less_set _ _ _ hfb.1)
        have hkw' := hkw.less hML
        refine AWP.skip ?_
        refine athen_n ?_
        refine AWP.seq ?_
        refine AWP.block ?_
        refine AWP.seq ?_
        refine AWP.region ?_
        refine rC (Calm.move rfl) ?_
        refine rC (Calm.indexS Try.underlying23 ty_size_51 rfl rfl (by omega) (by omega)) ?_
        refine rC (ldA_ (cs := [_, _, _]) ty_agg_51 ty_size_51 rfl) ?_
        refine ARun.alloc (lit_lt rfl) ty_zero_51 ?_
        intro b8 f8
        have g8 := f8
        repeat ((with_reducible replace g8 := fresh_set g8); obtain ⟨g8, _⟩ := g8)
        (try simp only [List.length_cons, List.length_nil, Nat.zero_add, Nat.reduceAdd])
        refine rC (Calm.assign rfl) ?_
        first | refine ARun.storeAll rfl rfl ty_size_51 own_ rfl rfl ?_ | refine ARun.store rfl rfl ty_size_51 own_ lens_ rfl ?_
        (try simp only [Mem.set_set, List.set_cons_zero, List.set_cons_succ, Nat.zero_add, Nat.reduceAdd])
        refine arun_nil ?_
        refine athen_n ?_
        refine AWP.sub [(0, _), (1, _), (13, _), (14, _), (15, _), (4, _), (5, _), (6, _), (24, _), (25, _), (26, _), (27, _), (8, _), (7, _)] ⟨rfl, rfl, rfl, rfl, rfl, rfl, rfl, rfl, rfl, rfl, rfl, rfl, rfl, rfl, trivial⟩ ?_
        by_cases hn : w.1 = x.1
        · by_cases hkk : kp k = true
          · rw [if_pos ⟨hn, hkk⟩] at hsu
            obtain ⟨hw0, hw1, hw2⟩ := hfw hn
            refine AWP.seq ?_
            refine AWP.seq ?_
            refine AWP.region ?_
            refine rC (Calm.fieldAddr ty_field_51_0 rfl) ?_
            refine rC (ld_ ty_plain_9 rfl) ?_
            refine rC (Calm.fieldAddr ty_field_54_0 rfl) ?_
            refine rC (ld_ ty_plain_9 rfl) ?_
            refine rC (Calm.bin rfl rfl (bin_bool (bin_str_neq _ _) (bnot_dec_false hn))) ?_
            refine rC (Calm.move rfl) ?_
            first | refine rS 36 ?_ | refine rU 36 ?_ | refine rG 36 (Calm.move rfl) ?_
            first | refine rS 36 ?_ | refine rU 36 ?_ | refine rG 36 (Calm.move rfl) ?_
            refine rUn 36 ?_
            refine ARun.callV (first := []) (cap := caps) (lit_lt rfl) hgo rfl rfl (hkeep k _ hc2 (hSi.trans (hML.trans less_))) ?_
            rintro _ S1 ⟨rfl, h1⟩
            rw [h1, hkk]; clear h1 S1
            first | refine rS 36 ?_ | refine rU 36 ?_ | refine rG 36 (Calm.un rfl (una_not _)) ?_
            refine rC ((by first | exact Calm.pickT rfl rfl | exact Calm.pickF rfl rfl)) ?_
            refine arun_nil ?_
            refine athen_n ?_
            refine AWP.sub [(0, _), (1, _), (13, _), (14, _), (15, _), (4, _), (5, _), (6, _), (24, _), (25, _), (26, _), (27, _), (8, _), (7, _), (41, _)] ⟨rfl, rfl, rfl, rfl, rfl, rfl, rfl, rfl, rfl, rfl, rfl, rfl, rfl, rfl, rfl, trivial⟩ ?_
            refine AWP.condF rfl (by first | rfl | (simp; done) | (simp; omega)) ?_
            refine AWP.skip ?_
            refine athen_n ?_
            refine AWP.seq ?_
            refine AWP.seq ?_
            refine AWP.region ?_
            refine rC (Calm.move rfl) ?_
            refine rC (Calm.bin rfl rfl (bin_nil_eql Try.underlying92)) ?_
            refine arun_nil ?_
            refine athen_n ?_
            refine AWP.sub [(0, _), (1, _), (13, _), (14, _), (15, _), (4, _), (5, _), (6, _), (24, _), (25, _), (26, _), (27, _), (8, _), (7, _), (41, _), (43, _)] ⟨rfl, rfl, rfl, rfl, rfl, rfl, rfl, rfl, rfl, rfl, rfl, rfl, rfl, rfl, rfl, rfl, trivial⟩ ?_
            refine AWP.condF rfl (by first | rfl | (simp; done) | (simp; omega)) ?_
            refine AWP.skip ?_
            refine athen_n ?_
            refine AWP.draw [(0, true), (1, true), (2, true), (3, true), (4, true), (5, true), (6, true), (7, false)] [7] mixed (by kernel_rfl) ?_
            refine dP (hc := fun _ => Calm.move rfl) (h := ?_)
            refine dP (hc := fun _ => Calm.fieldAddr ty_field_51_1 rfl) (h := ?_)
            refine dC (hc := ld_ ty_plain_3 rfl) (h := ?_)
            refine dP (hc := fun _ => Calm.bin rfl rfl b_mul_i64) (h := ?_)
            refine dP (hc := fun _ => Calm.sliceLo (64 * w.2.1.toNat) Try.underlying92 ty_size_5 rfl rfl (by omega) (by omega) (by omega)) (h := ?_)
            refine dP (hc := fun _ => Calm.fieldAddr ty_field_51_2 rfl) (h := ?_)
            refine dC (hc := ld_ ty_plain_9 rfl) (h := ?_)
            refine draw_only rfl ?_
            refine ARun.copyStr (lit_lt rfl) ty_sl_92 rfl own_ rfl (by omega) (by simp only [cellsB_length, size_data]; omega) ?_
            have hpc := putS_cells (x := cur) (w := w) (by omega) hw2
            refine arun_nil ⟨fun h => absurd h (by decide), ?_⟩
            refine draw_nil ?_
            refine ain_n ?_
            refine athen_n ?_
            refine AWP.sub [(0, _), (1, _), (13, _), (14, _), (15, _), (4, _), (5, _), (6, _), (24, _), (25, _), (26, _), (27, _), (8, _), (7, _), (41, _), (43, _)] ⟨rfl, rfl, rfl, rfl, rfl, rfl, rfl, rfl, rfl, rfl, rfl, rfl, rfl, rfl, rfl, rfl, trivial⟩ ?_
            refine AWP.region ?_
            refine rC (Calm.bin rfl rfl b_add_i64) ?_
            refine rC (Calm.move rfl) ?_
            refine arun_nil ?_
            refine athen_n ?_
            refine ⟨(k + 1, some (bd, cd)), ?_, ?_, ?_, ?_⟩
            all_goals (try dsimp only)
            · exact ⟨rfl, rfl, rfl, rfl, rfl, rfl, rfl, rfl, rfl, rfl, some_int (by simp), trivial⟩
            · simp only [hsu, Option.getD_some, ← hpc, outM]; exact less_
            · exact ⟨hc2, hob, by simp [hsu]⟩
            · omega
          · rw [if_neg (fun h => hkk h.2)] at hsu
            refine AWP.seq ?_
            refine AWP.seq ?_
            refine AWP.region ?_
            refine rC (Calm.fieldAddr ty_field_51_0 rfl) ?_
            refine rC (ld_ ty_plain_9 rfl) ?_
            refine rC (Calm.fieldAddr ty_field_54_0 rfl) ?_
            refine rC (ld_ ty_plain_9 rfl) ?_
            refine rC (Calm.bin rfl rfl (bin_bool (bin_str_neq _ _) (bnot_dec_false hn))) ?_
            refine rC (Calm.move rfl) ?_
            first | refine rS 36 ?_ | refine rU 36 ?_ | refine rG 36 (Calm.move rfl) ?_
            first | refine rS 36 ?_ | refine rU 36 ?_ | refine rG 36 (Calm.move rfl) ?_
            refine rUn 36 ?_
            refine ARun.callV (first := []) (cap := caps) (lit_lt rfl) hgo rfl rfl (hkeep k _ hc2 (hSi.trans (hML.trans less_))) ?_
            rintro _ S1 ⟨rfl, h1⟩
            rw [h1, Bool.eq_false_iff.2 hkk]; clear h1 S1
            first | refine rS 36 ?_ | refine rU 36 ?_ | refine rG 36 (Calm.un rfl (una_not _)) ?_
            refine rC ((by first | exact Calm.pickT rfl rfl | exact Calm.pickF rfl rfl)) ?_
            refine arun_nil ?_
            refine athen_n ?_
            refine AWP.sub [(0, _), (1, _), (13, _), (14, _), (15, _), (4, _), (5, _), (6, _), (24, _), (25, _), (26, _), (27, _), (8, _), (7, _), (41, _)] ⟨rfl, rfl, rfl, rfl, rfl, rfl, rfl, rfl, rfl, rfl, rfl, rfl, rfl, rfl, rfl, trivial⟩ ?_
            refine AWP.condT rfl (by first | rfl | (simp; done) | (simp; omega)) ?_
            refine AWP.exit ?_
            refine athen_exit ?_
            refine ain_same ?_
            refine athen_n ?_
            refine AWP.region ?_
            refine rC (Calm.bin rfl rfl b_add_i64) ?_
            refine rC (Calm.move rfl) ?_
            refine arun_nil ?_
            refine athen_n ?_
            refine ⟨(k + 1, some (bd, cd)), ?_, ?_, ?_, ?_⟩
            all_goals (try dsimp only)
            · exact ⟨rfl, rfl, rfl, rfl, rfl, rfl, rfl, rfl, rfl, rfl, some_int (by simp), trivial⟩
            · (try simp only [hsu, outM, Option.getD_none, Option.getD_some]); exact less_
            · exact ⟨hc2, hob, by simp [hsu]⟩
            · omega
        · rw [if_neg (fun h => hn h.1)] at hsu
          refine AWP.seq ?_
          refine AWP.seq ?_
          refine AWP.region ?_
          refine rC (Calm.fieldAddr ty_field_51_0 rfl) ?_
          refine rC (ld_ ty_plain_9 rfl) ?_
          refine rC (Calm.fieldAddr ty_field_54_0 rfl) ?_
          refine rC (ld_ ty_plain_9 rfl) ?_
          refine rC (Calm.bin rfl rfl (bin_bool (bin_str_neq _ _) (bnot_dec_true hn))) ?_
          refine rC (Calm.move rfl) ?_
          first | refine rS 36 ?_ | refine rU 36 ?_ | refine rG 36 (Calm.move rfl) ?_
          first | refine rS 36 ?_ | refine rU 36 ?_ | refine rG 36 (Calm.move rfl) ?_
          first | refine rS 36 ?_ | refine rU 36 ?_
          first | refine rS 36 ?_ | refine rU 36 ?_ | refine rG 36 (Calm.un rfl (una_not _)) ?_
          refine rC ((by first | exact Calm.pickT rfl rfl | exact Calm.pickF rfl rfl)) ?_
          refine arun_nil ?_
          refine athen_n ?_
          refine AWP.sub [(0, _), (1, _), (13, _), (14, _), (15, _), (4, _), (5, _), (6, _), (24, _), (25, _), (26, _), (27, _), (8, _), (7, _), (41, _)] ⟨rfl, rfl, rfl, rfl, rfl, rfl, rfl, rfl, rfl, rfl, rfl, rfl, rfl, rfl, rfl, trivial⟩ ?_
          refine AWP.condT rfl (by first | rfl | (simp; done) | (simp; omega)) ?_
          refine AWP.exit ?_
          refine athen_exit ?_
          refine ain_same ?_
          refine athen_n ?_
          refine AWP.region ?_
          refine rC (Calm.bin rfl rfl b_add_i64) ?_
          refine rC (Calm.move rfl) ?_
          refine arun_nil ?_
          refine athen_n ?_
          refine ⟨(k + 1, some (bd, cd)), ?_, ?_, ?_, ?_⟩
          all_goals (try dsimp only)
          · exact ⟨rfl, rfl, rfl, rfl, rfl, rfl, rfl, rfl, rfl, rfl, some_int (by simp), trivial⟩
          · (try simp only [hsu, outM, Option.getD_none, Option.getD_some]); exact less_
          · exact ⟨hc2, hob, by simp [hsu]⟩
          · omega
    · have hc2 : k = d.waits.length := by have := of_decide_eq_false hc2; omega
      rw [hc2] at hoa hsz ⊢
      rcases ob with _ | ⟨bd, cd⟩
      · have hacc : accW kp x d.waits d.waits.length = none := hoa.1 rfl
        rw [hacc, Option.getD_none, show ((x.1, x.2) : Ext) = x from rfl, ← hmg, List.set_getElem_self] at hmsu
        simp only [outM, outV]
        refine AWP.exit ?_
        refine athen_exit ?_
        refine athen_exit ?_
        refine ain_same ?_
        refine athen_n ?_
        refine AWP.seq ?_
        refine AWP.region ?_
        refine rC (Calm.move rfl) ?_
        refine rC (Calm.bin rfl rfl (bin_nil_neq Try.underlying92)) ?_
        refine arun_nil ?_
        refine athen_n ?_
        refine AWP.sub [(0, _), (1, _), (13, _), (14, _), (15, _), (4, _), (5, _), (6, _), (24, _), (25, _), (26, _), (27, _), (57, _)] ⟨rfl, rfl, rfl, rfl, rfl, rfl, rfl, rfl, rfl, rfl, rfl, rfl, rfl, trivial⟩ ?_
        refine AWP.condF rfl (by first | rfl | (simp; done) | (simp; omega)) ?_
        refine AWP.skip ?_
        refine ain_n ?_
        refine athen_n ?_
        refine AWP.region ?_
        refine rC (Calm.bin rfl rfl b_add_i64) ?_
        refine rC (Calm.move rfl) ?_
        refine arun_nil ?_
        refine athen_n ?_
        refine ⟨i + 1, ?_, ?_, ?_, ?_⟩
        all_goals (try dsimp only)
        · exact ⟨rfl, rfl, rfl, rfl, rfl, trivial⟩
        · simp only [hmsu, hMi]; exact less_
        · exact ⟨hc, by simp only [hmsu]; exact hoki⟩
        · omega
      · obtain ⟨hfb, hcb⟩ := hob bd cd rfl
        obtain ⟨hfb1, hbd5⟩ := fresh_set hfb
        have hbd5' := Ne.symm hbd5
        obtain ⟨cur, hacc⟩ : ∃ cur, accW kp x d.waits d.waits.length = some cur := by cases h : accW kp x d.waits d.waits.length with | none => exact absurd (hoa.2 h) (by simp) | some cur => exact ⟨cur, rfl⟩
        rw [hacc] at hmsu hsz ⊢
        simp only [Option.getD_some] at hmsu hsz ⊢
        have n1 := hfb1.ne hpi
        have n2 := hfb1.ne hbE
        have n3 := f5.ne hbE
        have n2' := Ne.symm n2
        have n3' := Ne.symm n3
        have hfs := flat_set ext_len (mixE kp d.waits d.ext i) i (x.1, cur) (by omega) 1 (.string cur) (by decide) (by rw [hmg]; rfl)
        simp only [outM, outV]
        refine AWP.exit ?_
        refine athen_exit ?_
        refine athen_exit ?_
        refine ain_same ?_
        refine athen_n ?_
        refine AWP.seq ?_
        refine AWP.region ?_
        refine rC (Calm.move rfl) ?_
        refine rC (Calm.bin rfl rfl (bin_nil_neq Try.underlying92)) ?_
        refine arun_nil ?_
        refine athen_n ?_
        refine AWP.sub [(0, _), (1, _), (13, _), (14, _), (15, _), (4, _), (5, _), (6, _), (24, _), (25, _), (26, _), (27, _), (57, _)] ⟨rfl, rfl, rfl, rfl, rfl, rfl, rfl, rfl, rfl, rfl, rfl, rfl, rfl, trivial⟩ ?_
        refine AWP.condT rfl (by first | rfl | (simp; done) | (simp; omega)) ?_
        refine AWP.draw [(0, true), (1, true), (2, true), (3, true), (4, true), (5, true), (6, true), (7, true), (8, true), (9, true), (10, false)] [10] mixed (by kernel_rfl) ?_
        refine dP (hc := fun _ => Calm.move rfl) (h := ?_)
        refine dP (hc := fun _ => Calm.nilCheck rfl) (h := ?_)
        refine dP (hc := fun _ => Calm.fieldAddr ty_field_90_0 rfl) (h := ?_)
        refine dP (hc := fun _ => Calm.fieldAddr ty_field_25_1 rfl) (h := ?_)
        refine dC (hc := ld_ ty_plain_22 rfl) (h := ?_)
        refine dP (hc := fun _ => Calm.move rfl) (h := ?_)
        refine dP (hc := fun _ => Calm.move rfl) (h := ?_)
        refine dC (hc := Calm.toStr ty_bytes_92 ty_str_9 rfl (l := cur.data.toList) (by rw [size_data]; exact hsz) (rds_own (r := ⟨u8T, cellsB cur.data.toList, cd⟩) (b := bd) own_)) (h := ?_)
        refine dP (hc := fun _ => Calm.indexS Try.underlying22 ty_size_54 rfl rfl (by omega) (by omega)) (h := ?_)
        refine dP (hc := fun _ => Calm.fieldAddr ty_field_54_1 rfl) (h := ?_)
        refine draw_only rfl ?_
        refine ARun.store1 rfl rfl ty_size_9 rfl (r := ⟨extT, (mixE kp d.waits d.ext i).flatMap extF, c * 2⟩) own_ hcl rfl ?_
        (try simp only [Mem.set_set, List.set_cons_zero, List.set_cons_succ, Nat.zero_add, Nat.reduceAdd])
        refine arun_nil ⟨fun h => absurd h (by decide), ?_⟩
        refine draw_nil ?_
        refine ain_n ?_
        refine athen_n ?_
        refine AWP.sub [(0, _), (1, _), (13, _), (14, _), (15, _), (4, _), (5, _), (6, _), (24, _), (25, _), (26, _), (27, _), (57, _)] ⟨rfl, rfl, rfl, rfl, rfl, rfl, rfl, rfl, rfl, rfl, rfl, rfl, rfl, trivial⟩ ?_
        refine AWP.region ?_
        refine rC (Calm.bin rfl rfl b_add_i64) ?_
        refine rC (Calm.move rfl) ?_
        refine arun_nil ?_
        refine athen_n ?_
        refine ⟨i + 1, ?_, ?_, ?_, ?_⟩
        all_goals (try dsimp only)
        · exact ⟨rfl, rfl, rfl, rfl, rfl, trivial⟩
        · simp only [hmsu]; rw [← (hse (x.1, cur)).1, ← hfs]; exact less_
        · exact ⟨hc, by simp only [hmsu]; exact (hse (x.1, cur)).2⟩
        · omega
  · have hc : i = d.ext.length := by have := of_decide_eq_false hc; omega
    subst hc
    rw [mixE_all] at hoki hpi
    simp only [mixE_all]
    refine AWP.exit ?_
    refine athen_exit ?_
    refine athen_exit ?_
    refine ain_same ?_
    refine athen_n ?_
    refine AWP.region ?_
    refine rC (Calm.move rfl) ?_
    refine rC (Calm.nilCheck rfl) ?_
    refine rC (Calm.fieldAddr ty_field_90_0 rfl) ?_
    refine rC (Calm.fieldAddr ty_field_25_2 rfl) ?_
    refine ARun.store1 rfl rfl ty_size_23 rfl hpi (show 2 < 5 from by decide) rfl ?_
    (try simp only [Mem.set_set, List.set_cons_zero, List.set_cons_succ, Nat.zero_add, Nat.reduceAdd])
    refine arun_nil ?_
    have hfin : (devM S p (settleD d kp) oE none).Less ((devM S p { d with ext := d.ext.map (doneX kp d.waits) } oE oW).set p ⟨90, [.int .i64 d.size, outV oE (d.ext.map (doneX kp d.waits)).length, .slice none 0 0, .int .i64 d.fuse, .bool d.down], 5⟩) := by unfold devM; rw [Mem.set_set]; show ((outN 2 S oE extT ((d.ext.map (doneX kp d.waits)).flatMap extF)).set p ⟨90, [.int .i64 d.size, outV oE (d.ext.map (doneX kp d.waits)).length, .slice none 0 0, .int .i64 d.fuse, .bool d.down], 5⟩).Less _; exact Less.set (outN_over hoki.dk.w) _ _
    have hap := hoki.apart
    have hft := hoki.fits
    refine ⟨_, devM S p (settleD d kp) oE none, rfl, hfin, ?_⟩
    exact ⟨rfl, okV_mk ⟨hap.e, (fun b c e => by cases e), (fun b c b' c' e e' => by cases e'), hap.p⟩ ⟨hft.e0, fun _ => rfl, hft.e, (fun b c e => by cases e)⟩, rfl⟩
end Go.Proofs.Ytkeiphkccnfhoaa
namespace Go.Proofs.Ytkeiphkccnfhoaa
open Go.RowKit
open Mv Disk
set_option linter.unusedVariables false
set_option linter.unusedSimpArgs false
set_option maxRecDepth 4000
theorem dev_Sync1 (k : Int) (S : Mem) : ACall Try.prog 96 #[.int .i64 k] S fun r S' => r = .bool true ∧ S' = S := by
  refine ACall.enter (args := [.int .i64 k]) (rs := [.tmp 2]) 3 [(0, .int .i64 k)] Try.func96 rfl rfl (Nat.le_of_ble_eq_true rfl) rfl ⟨rfl, trivial⟩ ?_
  refine AWP.seq ?_
  refine AWP.region ?_
  refine rC (Calm.assign rfl) ?_
  refine arun_nil ?_
  refine athen_n ?_
  refine AWP.sub [(2, _)] ⟨rfl, trivial⟩ ?_
  refine AWP.seq ?_
  refine AWP.region ?_
  refine rC (Calm.assign rfl) ?_
  refine arun_nil ?_
  refine athen_n ?_
  refine AWP.ret ?_
  refine ⟨_, S, ⟨_, _, rfl, rfl, rfl⟩, less_, ?_⟩
  exact ⟨rfl, rfl⟩
theorem dev_Sync (p : Nat) (d : D) (S : Mem) (oE oW : Option (Nat × Nat)) (hok : OkV S p d oE oW) (hR : Right d) :
    ACall Try.prog 65 #[.pointer (some ⟨p, 0, none⟩)] (devM S p d oE oW) fun r S' => ∃ oE' oW', OkV S p (settleD d fun _ => true) oE' oW' ∧ r = .tuple #[] ∧ S' = devM S p (settleD d fun _ => true) oE' oW' := by
  have h := dev_settle p d S oE oW hok hR 96 [] go_96 (fun _ => true) (fun k M _ _ => dev_Sync1 k M)
  generalize devM S p d oE oW = M at *
  refine ACall.enter (args := [.pointer (some ⟨p, 0, none⟩)]) (rs := []) 4 [(0, .pointer (some ⟨p, 0, none⟩))] Try.func65 rfl rfl (Nat.le_of_ble_eq_true rfl) rfl ⟨rfl, trivial⟩ ?_
  refine AWP.region ?_
  refine rC (Calm.move rfl) ?_
  refine ARun.call (lit_lt rfl) go_67 rfl (h) ?_
  rintro _ S1 ⟨rfl, hok', h1⟩
  rw [h1]; clear h1 S1
  refine arun_nil ?_
  refine ⟨_, _, rfl, Mem.Less.refl _, ?_⟩
  exact ⟨oE, none, hok', rfl, rfl⟩
end Go.Proofs.Ytkeiphkccnfhoaa
namespace Go.Proofs.Ytkeiphkccnfhoaa
open Go.RowKit
open Mv Disk
set_option linter.unusedVariables false
set_option linter.unusedSimpArgs false
/-- Where an extent is; -1: nowhere. -/
def fnd (l : List Ext) (s : ByteArray) : Int := if has l s = true then (pos l s : Nat) else -1
theorem fnd_at {l : List Ext} {s : ByteArray} (ha : Asc l) {i : Nat} (hi : i < l.length) (e : l[i].1 = s) : fnd l s = i := by
  subst e
  unfold fnd
  rw [if_pos (has_iff.2 ⟨_, List.getElem_mem hi, rfl⟩), pos_mem ha hi]
theorem fnd_none {l : List Ext} {s : ByteArray} (h : ∀ j (h : j < l.length), l[j].1 ≠ s) : fnd l s = -1 := by
  unfold fnd
  rw [if_neg]
  intro hh
  obtain ⟨x, hx, e⟩ := has_iff.1 hh
  obtain ⟨j, hj, rfl⟩ := List.getElem_of_mem hx
  exact h j hj e
theorem pos_no {x : Ext} {l : List Ext} {s : ByteArray} (h : lt x.1 s = false) : pos (x :: l) s = 0 := by unfold pos; rw [List.takeWhile_cons, h]; rfl
/-! ### Writes that are done -/
end Go.Proofs.Ytkeiphkccnfhoaa
namespace Go.Proofs.Ytkeiphkccnfhoaa
open Go.RowKit Go.Shelf
open Mv Disk
set_option linter.unusedVariables false
set_option linter.unusedSimpArgs false
attribute [local go_sem] Oper.semAt_some
def upto {α : Type} (f : Nat → α) (k : Nat) : List α := (List.range k).map f
theorem upto_succ' {α : Type} (f : Nat → α) (k : Nat) : upto f (k + 1) = upto f k ++ [f k] := by simp [upto, List.range_succ]
theorem upto_length' {α : Type} (f : Nat → α) (k : Nat) : (upto f k).length = k := by simp [upto]
def w0 : Wr := (ByteArray.empty, 0, ByteArray.empty)
/-- What is told in round j of so many: the index, the write. -/
def backF (l : List Wr) (j : Nat) : Nat × Wr := (l.length - 1 - j, l.getD (l.length - 1 - j) w0)
def wrV (w : Wr) : Value := .agg #[.string w.1, .int .i64 w.2.1, .string w.2.2]
set_option maxRecDepth 100000 in
set_option maxHeartbeats 2000000 in
theorem back1_in (F : Fence) (n : Nat) (h8 : F.fn 124) (hro : F.round = none) (hn : 1 ≤ n) (l Bs n₀ b off cap : Nat) (zs : List Wr) (hreach : zs.length ≤ 16384) (hb : b < n₀) (hBn : Bs < n₀) (J Jx : List (Nat × Wr) → World → Prop)
    (hY : ∀ pre x W, J pre W → pre.length < zs.length → YieldAt F (n - 1) Try.prog l #[.int .i64 (x.1 : Int), wrV x.2] W fun e W' =>
      (e = .returned (.bool true) ∧ J (pre ++ [x]) W' ∧ Below n₀ W W') ∨ (e = .returned (.bool false) ∧ Jx (pre ++ [x]) W'))
    (W : World) (hBs : W.cell? ⟨Bs, 0, none⟩ = some (.slice (some ⟨b, off, none⟩) zs.length cap)) (hc : ∀ j (h : j < zs.length) q v, (wrF zs[j])[q]? = some v → W.cell? ⟨b, off + j * 3 + q, none⟩ = some v) (h0 : J [] W) :
    CallsIn F n Try.prog 124 #[.func (.yield l) #[] #[], .pointer (some ⟨Bs, 0, none⟩)] W fun e W' => (∃ v, e = .returned v) ∧
      ((∃ ys, ys = upto (backF zs) zs.length ∧ J ys W') ∨ (∃ pre, (∃ k, k ≤ zs.length ∧ pre = upto (backF zs) k) ∧ Jx pre W')) := by
  refine callsIn_of_wp Try.func124 rfl h8 ?_ hro
  simp only [Try.ntmps124, List.size_toArray, List.length_cons, List.length_nil, Nat.reduceAdd, Nat.reduceSub, Array.replicate_succ, Array.replicate_zero, List.push_toArray, List.append_toArray, List.nil_append, List.cons_append]
  gi_wp2
  gi_loopw [3] (fun i wr => ∃ k : Nat, k ≤ zs.length ∧ i = .int .i64 ((zs.length : Int) - 1 - k) ∧ J (upto (backF zs) k) wr ∧ Below n₀ W wr)
    (fun i _ => (intOf i + 1).toNat)
  case atStart => exact ⟨0, Nat.zero_le _, by simp, h0, Below.refl _ _⟩
  case round =>
    obtain ⟨k, hk, rfl, hJs, hnx⟩ := hrel
    by_cases hlt : k < zs.length
    · obtain ⟨m, hm⟩ : ∃ m, zs.length - 1 - k = m := ⟨_, rfl⟩
      have hml : m < zs.length := by omega
      have hm' : (zs.length : Int) - 1 - k = m := by omega
      have hbk : backF zs k = (m, zs[m]) := by unfold backF; rw [hm]; simp [List.getD, List.getElem?_eq_getElem hml]
      obtain ⟨fn, tmps, assign, body, hy, hR⟩ := hY _ (backF zs k) wr hJs (by rw [upto_length']; exact hlt)
      rw [hbk] at hy hR
      dsimp only [wrV] at hy
      rw [hm']
      have hcx : ∀ q v, (wrF zs[m])[q]? = some v → wr.cell? ⟨b, off + m * 3 + q, none⟩ = some v := fun q v hq => (hnx.cell (p := ⟨b, off + m * 3 + q, none⟩) hb).trans (hc m hml q v hq)
      have hc0 : wr.cell? ⟨b, off + m * 3, none⟩ = some (.string zs[m].1) := hcx 0 _ rfl
      have hc1 : wr.cell? ⟨b, off + m * 3 + 1, none⟩ = some (.int .i64 zs[m].2.1) := hcx 1 _ rfl
      have hc2 : wr.cell? ⟨b, off + m * 3 + 2, none⟩ = some (.string zs[m].2.2) := hcx 2 _ rfl
      have hBs' := (hnx.cell (p := ⟨Bs, 0, none⟩) hBn).trans hBs
      gi_wp2
      refine hR.mono ?_
      rintro e W3 (⟨rfl, hJ3, hk3⟩ | ⟨rfl, hJx3⟩)
      · gi_wp2
        go_roundw
        case rel => exact ⟨k + 1, by omega, by simp; omega, by rw [upto_succ', hbk]; exact hJ3, hnx.trans hk3⟩
        case measure => simp [intOf]
      · gi_wp2
        refine bodyPost_ret (results_none rfl _ _ _) rfl ?_
        exact ⟨⟨_, rfl⟩, .inr ⟨_, ⟨k + 1, by omega, by rw [upto_succ', hbk]⟩, hJx3⟩⟩
    · obtain rfl : k = zs.length := by omega
      have e1 : (zs.length : Int) - 1 - zs.length = -1 := by omega
      rw [e1]
      gi_wp2
      go_end0
      exact ⟨⟨_, rfl⟩, .inl ⟨_, rfl, hJs⟩⟩
set_option maxRecDepth 100000 in
set_option maxHeartbeats 1000000 in
theorem back1_nil_in (F : Fence) (n : Nat) (h8 : F.fn 124) (hro : F.round = none) (l Bs : Nat) (A : Option Addr) (cap : Nat) (J : List (Nat × Wr) → World → Prop) (W : World) (hBs : W.cell? ⟨Bs, 0, none⟩ = some (.slice A 0 cap)) (h0 : J [] W) :
    CallsIn F n Try.prog 124 #[.func (.yield l) #[] #[], .pointer (some ⟨Bs, 0, none⟩)] W fun e W' => (∃ v, e = .returned v) ∧ J [] W' := by
  refine callsIn_of_wp Try.func124 rfl h8 ?_ hro
  simp only [Try.ntmps124, List.size_toArray, List.length_cons, List.length_nil, Nat.reduceAdd, Nat.reduceSub, Array.replicate_succ, Array.replicate_zero, List.push_toArray, List.append_toArray, List.nil_append, List.cons_append]
  gi_wp2
  gi_loopw [3] (fun i wr => i = .int .i64 (-1) ∧ J [] wr) (fun _ _ => 0)
  case atStart => exact ⟨rfl, h0⟩
  case round =>
    obtain ⟨rfl, hJs⟩ := hrel
    gi_wp2
    go_end0
    exact ⟨⟨_, rfl⟩, hJs⟩
set_option maxHeartbeats 1000000 in
theorem back_in (F : Fence) (n : Nat) (h5 : F.fn 95) (hro : F.round = none) (a : Option Addr) (len cap : Nat) (w : World) :
    CallsIn F n Try.prog 95 #[.slice a len cap] w fun e w' => e = .returned (.func (.func 124) #[] #[.pointer (some ⟨w.heap.size, 0, none⟩)]) ∧ w' = w.alloc (.cells #[.slice a len cap] 23) := by
  refine callsIn_of_wp Try.func95 rfl h5 ?_ hro
  simp only [Try.ntmps95, List.size_toArray, List.length_cons, List.length_nil, Nat.reduceAdd, Nat.reduceSub, Array.replicate_succ, Array.replicate_zero, List.push_toArray, List.append_toArray, List.nil_append, List.cons_append]
  gi_wp2
  go_ret
  exact ⟨rfl, rfl⟩
/-- Of what waits, in a block below n₀. -/
def Waits (n₀ : Nat) (W : World) (sv : Value) (zs : List Wr) : Prop :=
  ∃ A cap, sv = .slice A zs.length cap ∧ (zs = [] ∨ ∃ b off, A = some ⟨b, off, none⟩ ∧ b < n₀ ∧ ∀ j (h : j < zs.length) q v, (wrF zs[j])[q]? = some v → W.cell? ⟨b, off + j * 3 + q, none⟩ = some v)
theorem Waits.below {n₀ : Nat} {A B : World} (h : Below n₀ A B) {sv : Value} {zs : List Wr} (hw : Waits n₀ A sv zs) : Waits n₀ B sv zs := by
  obtain ⟨a, cap, e, h1⟩ := hw
  exact ⟨a, cap, e, h1.imp id fun ⟨b, off, e1, hb, hc⟩ => ⟨b, off, e1, hb, fun j hj q v hq => (h.cell (p := ⟨b, off + j * 3 + q, none⟩) hb).trans (hc j hj q v hq)⟩⟩
theorem back_stops (F : Fence) (n : Nat) (h8 : F.fn 124) (hro : F.round = none) (hn : 1 ≤ n) (Bs n₀ : Nat) (sv : Value) (zs : List Wr) (hreach : zs.length ≤ 16384) (w : World) (hBs : Bs < n₀) (hn₀ : n₀ ≤ w.heap.size)
    (hc : w.cell? ⟨Bs, 0, none⟩ = some sv) (hI : Waits n₀ w sv zs) :
    SeqStopsK F n Try.prog 124 #[.pointer (some ⟨Bs, 0, none⟩)] (fun x : Nat × Wr => #[Value.int .i64 (x.1 : Int), wrV x.2]) (Below n₀) (fun ys => ys = upto (backF zs) zs.length) (fun pre => ∃ k, k ≤ zs.length ∧ pre = upto (backF zs) k) zs.length w := fun l J Jx W hW _ _ hY h0 => by
  have hWn := hW.mono hn₀
  have hc' := (hWn.cell (p := ⟨Bs, 0, none⟩) hBs).trans hc
  obtain ⟨A, cap, rfl, h1⟩ := hI.below hWn
  rcases h1 with rfl | ⟨b, off, rfl, hb, hcs⟩
  · exact (back1_nil_in F n h8 hro l Bs A cap J W hc' h0).mono fun e W' ⟨he, hj⟩ => ⟨he, .inl ⟨_, rfl, hj⟩⟩
  · refine (back1_in F n h8 hro hn l Bs n₀ b off cap zs hreach hb hBs J Jx hY W hc' hcs h0).mono ?_
    rintro e W' ⟨he, ⟨ys, rfl, hj⟩ | ⟨pre, ⟨k, hk, rfl⟩, hj⟩⟩
    · exact ⟨he, .inl ⟨_, rfl, hj⟩⟩
    · exact ⟨he, .inr ⟨_, ⟨k, hk, rfl⟩, hj⟩⟩
end Go.Proofs.Ytkeiphkccnfhoaa
namespace Go.Proofs.Ytkeiphkccnfhoaa
open Go.RowKit
open Mv Disk
set_option linter.unusedVariables false
set_option linter.unusedSimpArgs false
def hit (s : ByteArray) (k : Int) (y : Nat × Wr) : Bool := y.2.2.1 == k && (y.2.1.toList == s.toList)
def lastW (l : List Wr) (s : ByteArray) (k : Int) : Option (Nat × Wr) := (upto (backF l) l.length).find? (hit s k)
def readD (d : D) (s : ByteArray) (k : Int) : ByteArray × Int :=
  if (placeD d s k).2 ≠ 0 then (ByteArray.empty, (placeD d s k).2) else match lastW d.waits s k with
    | some y => (y.2.2.2, 0)
    | none => ((exOf d.ext s).2.extract (64 * k.toNat) (64 * k.toNat + 64), 0)
/-- What is seen when so many of the writes (of these) have been met. -/
def seeW (kp : Nat → Bool) (l : List Wr) (s : ByteArray) (k : Int) (b : ByteArray) : Nat → ByteArray
  | 0 => b
  | n + 1 => match l[n]? with
    | some w => if w.1 = s ∧ w.2.1 = k ∧ kp n = true then w.2.2 else seeW kp l s k b n
    | none => seeW kp l s k b n
theorem seeW_succ (kp : Nat → Bool) (l : List Wr) (s : ByteArray) (k : Int) (b : ByteArray) {n : Nat} (h : n < l.length) : seeW kp l s k b (n + 1) = if l[n].1 = s ∧ l[n].2.1 = k ∧ kp n = true then l[n].2.2 else seeW kp l s k b n := by
  rw [seeW, List.getElem?_eq_getElem h]
def allK : Nat → Bool := fun _ => true
def revN (l : List Wr) (n : Nat) : List (Nat × Wr) := (List.range n).reverse.map fun i => (i, l.getD i w0)
theorem upto_rev (l : List Wr) : upto (backF l) l.length = revN l l.length := by
  unfold upto revN
  refine List.ext_getElem (by simp) fun i h1 h2 => ?_
  simp only [List.length_map, List.length_range] at h1
  simp [backF, List.getElem_reverse]
theorem revN_succ (l : List Wr) (n : Nat) : revN l (n + 1) = (n, l.getD n w0) :: revN l n := by
  unfold revN; rw [List.range_succ, List.reverse_append]; rfl
theorem toList_inj' {a b : ByteArray} : (a.toList == b.toList) = decide (a = b) := by
  rw [Bool.eq_iff_iff, beq_iff_eq, decide_eq_true_eq]
  exact ⟨fun h => str_ext (by rw [← Lib.toList_data, ← Lib.toList_data]; exact h), fun h => by rw [h]⟩
theorem find_see (l : List Wr) (s : ByteArray) (k : Int) (b : ByteArray) : ∀ n, n ≤ l.length → (match (revN l n).find? (hit s k) with | some y => y.2.2.2 | none => b) = seeW allK l s k b n
  | 0, _ => rfl
  | n + 1, h => by
    rw [revN_succ, seeW_succ _ _ _ _ _ (by omega), List.find?_cons]
    have e : l.getD n w0 = l[n] := by simp [List.getD, List.getElem?_eq_getElem (show n < l.length by omega)]
    have eh : hit s k (n, l.getD n w0) = decide (l[n].1 = s ∧ l[n].2.1 = k ∧ allK n = true) := by
      rw [e]; unfold hit allK
      rw [toList_inj', Bool.eq_iff_iff]; simp [and_comm]
    rw [eh]
    by_cases q : l[n].1 = s ∧ l[n].2.1 = k ∧ allK n = true
    · rw [if_pos q, decide_eq_true q, e]
    · rw [if_neg q, decide_eq_false q]; exact find_see l s k b n (by omega)
/-- What is seen, in plain words. -/
def seen (d : D) (s : ByteArray) (k : Int) : ByteArray := seeW allK d.waits s k ((exOf d.ext s).2.extract (64 * k.toNat) (64 * k.toNat + 64)) d.waits.length
theorem readD_see (d : D) (s : ByteArray) (k : Int) : readD d s k = if (placeD d s k).2 ≠ 0 then (ByteArray.empty, (placeD d s k).2) else (seen d s k, 0) := by
  unfold readD seen
  by_cases q : (placeD d s k).2 ≠ 0
  · rw [if_pos q, if_pos q]
  · rw [if_neg q, if_neg q, ← find_see _ _ _ _ _ (Nat.le_refl _)]
    unfold lastW
    rw [upto_rev]
    cases (revN d.waits d.waits.length).find? (hit s k) <;> rfl
/-! ### A sector of what was done -/
theorem ba_extract_bs (x : ByteArray) (i j : Nat) : x.extract i j = bs ((x.data.toList.take j).drop i) := by
  apply str_ext
  rw [bs_data, ByteArray.data_extract, Array.toList_extract, List.extract_eq_take_drop, List.drop_take]
theorem cut_other {α : Type} (X W : List α) (m k : Nat) (hW : W.length = 64) (hm : 64 * m + 64 ≤ X.length) (hk : 64 * k + 64 ≤ X.length) : ((X.take (64 * m) ++ W ++ X.drop (64 * m + 64)).take (64 * k + 64)).drop (64 * k) = if m = k then W else (X.take (64 * k + 64)).drop (64 * k) := by
  apply List.ext_getElem?
  intro i
  by_cases e : m = k
  · subst e
    rw [if_pos rfl, List.getElem?_drop, List.getElem?_take]
    by_cases hi : i < 64
    · rw [if_pos (by omega), List.getElem?_append_left (by simp; omega), List.getElem?_append_right (by simp; omega)]
      congr 1; simp; omega
    · rw [if_neg (by omega), List.getElem?_eq_none (by omega)]
  · rw [if_neg e, List.getElem?_drop, List.getElem?_take, List.getElem?_drop, List.getElem?_take]
    by_cases hi : i < 64
    · rw [if_pos (by omega), if_pos (by omega)]
      rcases Nat.lt_or_ge k m with q | q
      · rw [List.getElem?_append_left (by simp; omega), List.getElem?_append_left (by simp; omega), List.getElem?_take, if_pos (by omega)]
      · rw [List.getElem?_append_right (by simp; omega), List.getElem?_drop]
        congr 1; simp; omega
    · rw [if_neg (by omega), if_neg (by omega)]
theorem putS_see {x : ByteArray} {w : Wr} {k : Nat} (h1 : 64 * w.2.1.toNat + 64 ≤ x.size) (h2 : w.2.2.size = 64) (hk : 64 * k + 64 ≤ x.size) : (putS x w).extract (64 * k) (64 * k + 64) = if w.2.1.toNat = k then w.2.2 else x.extract (64 * k) (64 * k + 64) := by
  rw [ba_extract_bs, ba_extract_bs]
  have hx : x.data.toList.length = x.size := size_data x
  have hw : w.2.2.data.toList.length = 64 := by rw [size_data, h2]
  have hp : (putS x w).data.toList = x.data.toList.take (64 * w.2.1.toNat) ++ w.2.2.data.toList ++ x.data.toList.drop (64 * w.2.1.toNat + 64) := by unfold putS; rw [bs_data]
  rw [hp, cut_other _ _ _ _ hw (by omega) (by omega)]
  split
  · exact bs_of _
  · rfl
theorem acc_see {kp : Nat → Bool} {x : Ext} {l : List Wr} {k : Nat} (hf : Fit x l) (hk : 64 * k + 64 ≤ x.2.size) : ∀ n, n ≤ l.length → ((accW kp x l n).getD x.2).extract (64 * k) (64 * k + 64) = seeW kp l x.1 (k : Int) (x.2.extract (64 * k) (64 * k + 64)) n
  | 0, _ => rfl
  | n + 1, h => by
    have ih := acc_see (kp := kp) hf hk n (by omega)
    have hs := acc_size (kp := kp) hf n (by omega)
    rw [accW_succ kp x l n (by omega), seeW_succ _ _ _ _ _ (by omega)]
    by_cases q : l[n].1 = x.1 ∧ kp n = true
    · obtain ⟨h0, h1, h2⟩ := hf _ (List.getElem_mem (by omega : n < l.length)) q.1
      rw [if_pos q, Option.getD_some, putS_see (by rw [hs]; exact h1) h2 (by rw [hs]; exact hk)]
      by_cases e : l[n].2.1 = (k : Int)
      · rw [if_pos (by omega), if_pos ⟨q.1, e, q.2⟩]
      · rw [if_neg (by omega), if_neg (fun z => e z.2.1)]; exact ih
    · rw [if_neg q, if_neg (fun z => q ⟨z.1, z.2.2⟩)]; exact ih
/-! ### Behind what is done -/
theorem exOf_mem {l : List Ext} (ha : Asc l) {x : Ext} (hx : x ∈ l) : exOf l x.1 = x := by
  obtain ⟨i, hi, rfl⟩ := List.getElem_of_mem hx
  have e := pos_mem ha hi
  rw [exOf_eq (by rw [e]; exact hi)]
  simp only [e]
theorem exOf_has {l : List Ext} {s : ByteArray} (ha : Asc l) (h : has l s = true) : exOf l s ∈ l ∧ (exOf l s).1 = s := by
  obtain ⟨x, hx, rfl⟩ := has_iff.1 h
  rw [exOf_mem ha hx]; exact ⟨hx, rfl⟩
theorem place0 {d : D} {s : ByteArray} {k : Int} (h : (placeD d s k).2 = 0) : has d.ext s = true ∧ 0 ≤ k ∧ k < sec (exOf d.ext s) := by
  unfold placeD at h
  by_cases q : has d.ext s = true
  · rw [if_pos q] at h
    by_cases q1 : k < 0 ∨ (sec (exOf d.ext s) : Int) ≤ k
    · rw [if_pos q1] at h; simp at h
    · exact ⟨q, by omega, by omega⟩
  · rw [if_neg q] at h; simp at h
end Go.Proofs.Ytkeiphkccnfhoaa
namespace Go.Proofs.Ytkeiphkccnfhoaa
open Go.RowKit
set_option linter.unusedVariables false
namespace Reg

/-- What one operation of a region comes to: a value, or a call that returns one. -/
def Yield (P : Program) (m : Sem Next) (w : World) (R : Value → World → Prop) : Prop :=
  match m.run P w with
  | .ok (.value v) w' => R v w'
  | .ok .skip w' => R undef w'
  | .ok (.enter f args) w' => Calls P f args w' fun e w'' => ∃ v, e = .returned v ∧ R v w''
  | _ => False

/-- The slot d is written by no operation that may have run ahead of operation i. -/
def before (ops : Array Oper) (i d : Nat) : Bool := ops.toList.all fun o => o.dst != some d || o.after.toList.any (fun e => Region.binds .any e && e.on == i)

/-- One done more. -/
def upd (s : Nat → Bool) (i : Nat) : Nat → Bool := fun k => k == i || s k
theorem upd_same (s : Nat → Bool) (i : Nat) : upd s i i = true := by simp [upd]
theorem upd_other (s : Nat → Bool) {i k : Nat} (h : k ≠ i) : upd s i k = s k := by simp [upd, h]
/-- Operation k waits for operation i. -/
def waits (ops : Array Oper) (i k : Nat) : Bool := ((ops[k]?).map fun o => o.after.toList.any fun e => Region.binds .any e && e.on == i).getD false

/-- One operation: what it needs, what it gives. 's': which are done. -/
def Step (P : Program) (ops : Array Oper) (T : Array Value) (D : Nat → Value → World → Prop) (I : (Nat → Bool) → World → Prop) (Ext : World → World → Prop) (i : Nat) (o : Oper) : Prop :=
  ∀ (a : Act) (w : World) (s : Nat → Bool), a.tmps.size = T.size → I s w →
    (∀ e ∈ o.after, Region.binds .any e = true → ∀ o' d, ops[e.on]? = some o' → o'.dst = some d → D e.on (a.eval (.tmp d)) w) →
    (∀ e ∈ o.after, Region.binds .any e = true → s e.on = true) → s i = false → (∀ k, waits ops i k = true → s k = false) →
    (∀ d, before ops i d = true → a.eval (.tmp d) = T.getD d undef) →
    match o.guard with
    | none => Yield P (execOp a.eval o) w fun v w' => D i v w' ∧ I (upd s i) w' ∧ Ext w w'
    | some (g, want) => ∃ b og dg, ops[g]? = some og ∧ og.dst = some dg ∧ a.eval (.tmp dg) = .bool b ∧
        if b = want then Yield P (execOp a.eval o) w fun v w' => D i v w' ∧ I (upd s i) w' ∧ Ext w w' else D i undef w ∧ I (upd s i) w ∧ Ext w w

/-- The region's text is in order: each slot written once, edges lead back. -/
def good (ops : Array Oper) (n : Nat) : Bool :=
  (ops.toList.filterMap (·.dst)).all (· < n) &&
  ((List.range ops.size).all fun i => (List.range ops.size).all fun j => i == j || ((ops[i]?).bind (·.dst)).isNone || ((ops[i]?).bind (·.dst)) != ((ops[j]?).bind (·.dst))) &&
  ((List.range ops.size).all fun i => ((ops[i]?).map fun o => o.after.all fun e => decide (e.on < i)).getD true)

structure Inv (ops : Array Oper) (T : Array Value) (df : List Deferred) (D : Nat → Value → World → Prop) (I : (Nat → Bool) → World → Prop) (listed : Array Bool) (a : Act) (w : World) : Prop where
  df : a.defers = df
  sz : a.tmps.size = T.size
  base : ∀ d, (∀ k o, ops[k]? = some o → o.dst = some d → listed.getD k false = false) → a.tmps.getD d undef = T.getD d undef
  done : ∀ k o d, ops[k]? = some o → o.dst = some d → listed.getD k false = true → D k (a.tmps.getD d undef) w
  closed : ∀ k o, ops[k]? = some o → listed.getD k false = true → ∀ e ∈ o.after, Region.binds .any e = true → listed.getD e.on false = true
  lsz : listed.size = ops.size
  inv : I (fun k => listed.getD k false) w

theorem good_dst {ops : Array Oper} {n : Nat} (h : good ops n = true) {i : Nat} {o : Oper} {d : Nat} (hi : ops[i]? = some o) (hd : o.dst = some d) : d < n := by
  simp only [good, Bool.and_eq_true, List.all_eq_true, decide_eq_true_eq] at h
  exact h.1.1 d (List.mem_filterMap.2 ⟨o, by simpa using Array.mem_of_getElem? hi, hd⟩)
theorem good_one {ops : Array Oper} {n : Nat} (h : good ops n = true) {i j : Nat} {o o' : Oper} {d : Nat} (hi : ops[i]? = some o) (hj : ops[j]? = some o') (hd : o.dst = some d) (hd' : o'.dst = some d) : i = j := by
  simp only [good, Bool.and_eq_true, List.all_eq_true] at h
  have hil := (Array.getElem?_eq_some_iff.1 hi).1
  have hjl := (Array.getElem?_eq_some_iff.1 hj).1
  have := h.1.2 i (List.mem_range.2 hil) j (List.mem_range.2 hjl)
  simpa [hi, hj, hd, hd'] using this
theorem good_back {ops : Array Oper} {n : Nat} (h : good ops n = true) {i : Nat} {o : Oper} (hi : ops[i]? = some o) {e : Edge} (he : e ∈ o.after) : e.on < i := by
  simp only [good, Bool.and_eq_true, List.all_eq_true] at h
  have hil := (Array.getElem?_eq_some_iff.1 hi).1
  have := h.2 i (List.mem_range.2 hil)
  simp only [hi, Option.map_some, Option.getD_some, Array.all_eq_true_iff_forall_mem, decide_eq_true_eq] at this
  exact this e he

theorem getD_put (T : Array Value) (d : Nat) (v : Value) (h : d < T.size) (k : Nat) : (T.setIfInBounds d v).getD k undef = if k = d then v else T.getD k undef := by
  simp only [Array.getD_eq_getD_getElem?, Array.getElem?_setIfInBounds]
  by_cases e : d = k
  · subst e; simp [h]
  · simp [e, Ne.symm e]

theorem getD_flag {listed : Array Bool} {i : Nat} (h : i < listed.size) (b : Bool) : listed.getD i b = listed.getD i (!b) := by simp [h]

section
variable {P : Program} {ops : Array Oper} {Q : Exit → Act → World → Prop} {T : Array Value} {df : List Deferred} {D : Nat → Value → World → Prop} {I : (Nat → Bool) → World → Prop} {Ext : World → World → Prop}

theorem ready_empty (hg : good ops T.size = true) {listed : Array Bool} (hl : listed.size = ops.size) (h : Region.ready .any ops listed = []) : ∀ k, k < ops.size → listed.getD k false = true := by
  intro k
  induction k using Nat.strongRecOn with
  | _ k ih =>
    intro hk
    cases hv : listed.getD k false with
    | true => rfl
    | false =>
      exfalso
      have hm : k ∈ Region.ready .any ops listed := by
        rw [mem_ready]
        refine ⟨by rw [getD_flag (by omega)]; exact hv, ops[k], Array.getElem?_eq_getElem hk, fun e he _ => ?_⟩
        have hlt := good_back hg (Array.getElem?_eq_getElem hk) he
        exact ih e.on hlt (by omega)
      rw [h] at hm
      cases hm

theorem inv_put (hg : good ops T.size = true) (mono : ∀ k v w w', Ext w w' → D k v w → D k v w')
    {listed : Array Bool} {a : Act} {w w' : World} (h : Inv ops T df D I listed a w) {i : Nat} {o : Oper} (hi : ops[i]? = some o) (hr : i ∈ Region.ready .any ops listed)
    {v : Value} (hD : D i v w') (hI : I (upd (fun k => listed.getD k false) i) w') (hb : Ext w w') : Inv ops T df D I (listed.setIfInBounds i true) (a.put o.dst v) w' := by
  have hil := (Array.getElem?_eq_some_iff.1 hi).1
  obtain ⟨hr0, o', ho', hall⟩ := mem_ready.1 hr
  obtain rfl : o = o' := Option.some.inj (hi.symm.trans ho')
  have hnot : listed.getD i false = false := by rw [getD_flag (by rw [h.lsz]; exact hil)]; exact hr0
  have hflag : ∀ k, (listed.setIfInBounds i true).getD k false = if k = i then true else listed.getD k false := fun k => by
    by_cases e : k = i
    · subst e; simp [h.lsz, hil]
    · rw [if_neg e, getD_set_ne false (Ne.symm e)]
  have hput : ∀ d, (a.put o.dst v).tmps.getD d undef = if o.dst = some d then v else a.tmps.getD d undef := fun d => by
    cases hd : o.dst with
    | none => simp [Act.put]
    | some d' =>
      have := good_dst hg hi hd
      simp only [Act.put]
      rw [getD_put _ _ _ (by rw [h.sz]; exact this)]
      by_cases e : d = d'
      · subst e; simp
      · rw [if_neg e, if_neg (by simpa using fun x => e x.symm)]
  constructor
  · cases hd : o.dst <;> simp [Act.put, h.df]
  · cases hd : o.dst <;> simp [Act.put, h.sz]
  · intro d hd
    rw [hput]
    by_cases e : o.dst = some d
    · have := hd i o hi e
      rw [hflag, if_pos rfl] at this
      cases this
    · rw [if_neg e]
      refine h.base d fun k ok hk hdk => ?_
      have := hd k ok hk hdk
      rw [hflag] at this
      by_cases ek : k = i
      · subst ek; exact hnot
      · rwa [if_neg ek] at this
  · intro k ok d hk hdk hlk
    rw [hput]
    rw [hflag] at hlk
    by_cases ek : k = i
    · subst ek
      obtain rfl : o = ok := Option.some.inj (hi.symm.trans hk)
      rw [if_pos hdk]; exact hD
    · rw [if_neg ek] at hlk
      rw [if_neg (fun e => ek (good_one hg hk hi hdk e))]
      exact mono _ _ _ _ hb (h.done k ok d hk hdk hlk)
  · intro k ok hk hlk e he hbe
    rw [hflag] at hlk
    rw [hflag]
    by_cases ee : e.on = i
    · rw [if_pos ee]
    · rw [if_neg ee]
      by_cases ek : k = i
      · subst ek
        obtain rfl : o = ok := Option.some.inj (hi.symm.trans hk)
        exact hall e he hbe
      · rw [if_neg ek] at hlk
        exact h.closed k ok hk hlk e he hbe
  · simp [h.lsz]
  · have e : (fun k => (listed.setIfInBounds i true).getD k false) = upd (fun k => listed.getD k false) i := by
      funext k
      rw [hflag]
      by_cases ek : k = i
      · subst ek; rw [if_pos rfl, upd_same]
      · rw [if_neg ek, upd_other _ ek]
    rw [e]; exact hI

theorem wp_of_yield {o : Oper} {a : Act} {w : World} {K : Act → World → Prop} {R : Value → World → Prop} (h : Yield P (execOp a.eval o) w R) (hK : ∀ v w', R v w' → K (a.put o.dst v) w') : o.wp P a w K Q := by
  unfold Yield at h
  unfold Oper.wp
  generalize (execOp a.eval o).run P w = r at *
  cases r with
  | ok n w' =>
    cases n <;> simp only [Oper.upon] at h ⊢ <;> first
      | exact hK _ _ h
      | exact h.elim
      | (refine Calls.mono h ?_; rintro e w'' ⟨v, rfl, hR⟩; exact hK _ _ hR)
  | halt x w' => exact h.elim

theorem any_of (hg : good ops T.size = true) (mono : ∀ k v w w', Ext w w' → D k v w → D k v w')
    (step : ∀ i o, ops[i]? = some o → Step P ops T D I Ext i o)
    (fin : ∀ tm w' s, tm.size = T.size → I s w' → (∀ k, k < ops.size → s k = true) → (∀ k o d, ops[k]? = some o → o.dst = some d → D k (tm.getD d undef) w') →
      (∀ d, (∀ (k : Nat) (o : Oper), ops[k]? = some o → o.dst ≠ some d) → tm.getD d undef = T.getD d undef) → Q .normal ⟨tm, df⟩ w') :
    ∀ (fuel : Nat) (listed : Array Bool) (a : Act) (w : World), ((List.range ops.size).countP fun k => !listed.getD k false) ≤ fuel → Inv ops T df D I listed a w → wpAny P .any ops Q fuel listed a w := by
  have hend : ∀ (listed : Array Bool) (a : Act) (w : World), Inv ops T df D I listed a w → (∀ k, k < ops.size → listed.getD k false = true) → Q .normal a w := by
    intro listed a w h hall
    obtain ⟨tm, dfs⟩ := a
    obtain rfl : dfs = df := h.df
    refine fin tm w _ h.sz h.inv hall (fun k o d hk hd => h.done k o d hk hd (hall k (Array.getElem?_eq_some_iff.1 hk).1)) fun d hd => h.base d fun k o hk hdk => (hd k o hk hdk).elim
  intro fuel
  induction fuel with
  | zero =>
    intro listed a w hc h
    have hall : ∀ k, k < ops.size → listed.getD k false = true := by
      intro k hk
      have := List.countP_eq_zero.1 (Nat.le_zero.1 hc) k (List.mem_range.2 hk)
      simpa using this
    have he : Region.ready .any ops listed = [] := by
      apply List.eq_nil_iff_forall_not_mem.2
      intro i hi
      obtain ⟨h0, o, ho, _⟩ := mem_ready.1 hi
      have hil := (Array.getElem?_eq_some_iff.1 ho).1
      have := hall i hil
      rw [getD_flag (by rw [h.lsz]; exact hil)] at h0
      simp only [Bool.not_true] at h0
      rw [h0] at this; cases this
    exact ⟨he, hend _ _ _ h hall⟩
  | succ fuel ih =>
    intro listed a w hc h
    refine ⟨fun he => hend _ _ _ h (ready_empty hg h.lsz he), fun i hi => ?_⟩
    obtain ⟨h0, o, ho, hall⟩ := mem_ready.1 hi
    have hil := (Array.getElem?_eq_some_iff.1 ho).1
    have hnot : listed.getD i false = false := by rw [getD_flag (by rw [h.lsz]; exact hil)]; exact h0
    have hcount : ((List.range ops.size).countP fun k => !(listed.setIfInBounds i true).getD k false) ≤ fuel := by
      have hlt : ((List.range ops.size).countP fun k => !(listed.setIfInBounds i true).getD k false) < ((List.range ops.size).countP fun k => !listed.getD k false) := by
        have hsplit : ∀ (l : List Nat), i ∈ l → (l.countP fun k => !(listed.setIfInBounds i true).getD k false) < (l.countP fun k => !listed.getD k false) := by
          have hle : ∀ (l : List Nat), (l.countP fun k => !(listed.setIfInBounds i true).getD k false) ≤ (l.countP fun k => !listed.getD k false) := by
            intro l
            refine List.countP_mono_left fun k _ hk => ?_
            by_cases ek : k = i
            · subst ek; simp [hnot]
            · rwa [getD_set_ne false (Ne.symm ek)] at hk
          intro l
          induction l with
          | nil => intro hm; cases hm
          | cons x l ihl =>
            intro hm
            by_cases ex : x = i
            · subst ex
              have h1 : (listed.setIfInBounds x true).getD x false = true := by simp [h.lsz, hil]
              rw [List.countP_cons, List.countP_cons, h1, hnot]
              have := hle l
              simp only [Bool.not_true, Bool.not_false, if_true, Bool.false_eq_true, if_false]
              omega
            · have hm' : i ∈ l := (List.mem_cons.1 hm).resolve_left (Ne.symm ex)
              rw [List.countP_cons, List.countP_cons, getD_set_ne false (Ne.symm ex)]
              have := ihl hm'
              omega
        exact hsplit _ (List.mem_range.2 hil)
      omega
    have hst := step i o ho a w (fun k => listed.getD k false) h.sz h.inv
      (fun e he hb o' d ho' hd => h.done e.on o' d ho' hd (hall e he hb)) (fun e he hb => hall e he hb) hnot
      (fun k hk => by
        unfold waits at hk
        cases hok : ops[k]? with
        | none => simp [hok] at hk
        | some ok =>
          simp only [hok, Option.map_some, Option.getD_some, List.any_eq_true, Bool.and_eq_true, beq_iff_eq] at hk
          obtain ⟨e, he, hbe, heq⟩ := hk
          cases hlk : listed.getD k false with
          | false => rfl
          | true =>
            have := h.closed k ok hok hlk e (Array.mem_toList_iff.1 he) hbe
            rw [heq, hnot] at this; cases this)
      (fun d hd => h.base d fun k ok hk hdk => by
        unfold before at hd
        rw [List.all_eq_true] at hd
        have := hd ok (by simpa using Array.mem_of_getElem? hk)
        simp only [hdk, bne_self_eq_false, Bool.false_or, List.any_eq_true, Bool.and_eq_true, beq_iff_eq] at this
        obtain ⟨e, he, hbe, heq⟩ := this
        have he := Array.mem_toList_iff.1 he
        cases hlk : listed.getD k false with
        | false => rfl
        | true =>
          have := h.closed k ok hk hlk e he hbe
          rw [heq, hnot] at this; cases this)
    have hput : ∀ v w', D i v w' ∧ I (upd (fun k => listed.getD k false) i) w' ∧ Ext w w' → wpAny P .any ops Q fuel (listed.setIfInBounds i true) (a.put o.dst v) w' := fun v w' ⟨hD, hI, hb⟩ =>
      ih _ _ _ hcount (inv_put hg mono h ho hi hD hI hb)
    unfold wpOp
    simp only [ho]
    cases hgd : o.guard with
    | none =>
      simp only [hgd] at hst
      rw [if_pos (by simp [Region.wanted, hgd])]
      exact .inl (wp_of_yield hst hput)
    | some gw =>
      obtain ⟨g, want⟩ := gw
      simp only [hgd] at hst
      obtain ⟨b, og, dg, hog, hdg, hρ, hst⟩ := hst
      have hdlt := good_dst hg hog hdg
      have hy : yielded ops a.tmps g = some b := by
        have : a.tmps[dg]? = some (.bool b) := by
          have h1 : a.tmps.getD dg undef = .bool b := hρ
          have h2 : dg < a.tmps.size := by rw [h.sz]; exact hdlt
          simpa [h2] using h1
        simp [yielded, hog, hdg, this]
      by_cases hbw : b = want
      · rw [if_pos hbw] at hst
        rw [if_pos (by simp [Region.wanted, hgd, hy, hbw])]
        exact .inl (wp_of_yield hst hput)
      · rw [if_neg hbw] at hst
        rw [if_neg (by simp [Region.wanted, hgd, hy, hbw])]
        exact hput undef w hst

/-- THE REGION: each operation steps; at the end each slot holds what its operation gives. -/
theorem wp_steps {id : Nat} {w : World} (hm : P.follows .mixedOrders = true) (hg : good ops T.size = true)
    (D : Nat → Value → World → Prop) (I : (Nat → Bool) → World → Prop) (Ext : World → World → Prop) (h0 : I (fun _ => false) w.drew) (mono : ∀ k v w w', Ext w w' → D k v w → D k v w')
    (step : ∀ i o, ops[i]? = some o → Step P ops T D I Ext i o)
    (fin : ∀ tm w' s, tm.size = T.size → I s w' → (∀ k, k < ops.size → s k = true) → (∀ k o d, ops[k]? = some o → o.dst = some d → D k (tm.getD d undef) w') →
      (∀ d, (∀ (k : Nat) (o : Oper), ops[k]? = some o → o.dst ≠ some d) → tm.getD d undef = T.getD d undef) → Q .normal ⟨tm, df⟩ w') :
    (Code.region id ops true).wp P Q ⟨T, df⟩ w := by
  refine wp_region_any hm (any_of (T := T) (df := df) hg mono step fin ops.size _ _ _ ?_ ?_)
  · exact Nat.le_trans List.countP_le_length (by simp)
  · have hf : ∀ k, (Array.replicate ops.size false).getD k false = false := fun k => by
      simp only [Array.getD_eq_getD_getElem?, Array.getElem?_replicate]; split <;> rfl
    exact ⟨rfl, rfl, fun _ _ => rfl, fun k o d _ _ h => (by rw [hf] at h; exact absurd h (by decide)), fun k o _ h => (by rw [hf] at h; exact absurd h (by decide)), by simp, (by simp only [hf]; exact h0)⟩
end

/-- Of each operation of a list. -/
def AllFrom (X : Nat → Oper → Prop) : Nat → List Oper → Prop
  | _, [] => True
  | k, o :: l => X k o ∧ AllFrom X (k + 1) l
theorem allFrom_get {X : Nat → Oper → Prop} : ∀ (l : List Oper) (k : Nat), AllFrom X k l → ∀ i o, l[i]? = some o → X (k + i) o
  | [], _, _, i, o, h => by simp at h
  | x :: l, k, ⟨h1, h2⟩, i, o, h => by
    cases i with
    | zero => simp at h; subst h; exact h1
    | succ i =>
      have := allFrom_get l (k + 1) h2 i o (by simpa using h)
      rwa [show k + 1 + i = k + (i + 1) from by omega] at this
theorem each {X : Nat → Oper → Prop} {l : List Oper} (h : AllFrom X 0 l) : ∀ i o, l.toArray[i]? = some o → X i o := fun i o hi => by
  have := allFrom_get l 0 h i o (by simpa using hi)
  rwa [Nat.zero_add] at this
end Reg
end Go.Proofs.Ytkeiphkccnfhoaa
namespace Go.Proofs.Ytkeiphkccnfhoaa
open Go.RowKit Go.Shelf
open Mv Disk
set_option linter.unusedVariables false
set_option linter.unusedSimpArgs false
set_option maxRecDepth 4000
/-- A disk at work of which we know the cells. -/
def RdK (M : Mem) (p : Nat) (d : D) (qe : Option Addr) (de : Nat) (sv : Value) : Prop := M.Knows ⟨p, 0, none⟩ [.int .i64 d.size, .slice qe d.ext.length de, sv, .int .i64 d.fuse, .bool d.down] ∧ Sl 2 extF M (.slice qe d.ext.length de) d.ext
set_option maxHeartbeats 1000000 in
theorem dev_placeK (p : Nat) (d : D) (s : ByteArray) (i : Int) (M : Mem) (qe : Option Addr) (de : Nat) (sv : Value) (h : RdK M p d qe de sv) (hR : Right d) : ACall Try.prog 94 #[.pointer (some ⟨p, 0, none⟩), .string s, .int .i64 i] M fun r S' => r = .tuple #[.int .i64 ((placeD d s i).1 : Nat), .int .i64 (placeD d s i).2] ∧ S' = M := by
  obtain ⟨hp, hME⟩ := h
  have hp1 := kn_at hp 1 rfl
  have hhp := has_pos hR.ex.asc s
  unfold placeD
  by_cases q : has d.ext s = true
  · obtain ⟨hlt, he⟩ := hhp.1 q
    have hsx := right_sec hR (List.getElem_mem hlt)
    have hfind := disk_find _ d.ext s M hME hR.ex.asc (Nat.le_trans (right_len hR).1 (by decide))
    rw [if_pos q, exOf_eq hlt]
    obtain ⟨_, _, ee1, ee2, ee3, hE3⟩ := id hME
    cases ee1
    obtain ⟨b, off, rfl, hk⟩ := hE3.resolve_left (fun e => by rw [e] at hlt; simp at hlt)
    have hki := hk _ hlt
    generalize hpp : pos d.ext s = k at *
    generalize d.ext[k] = x at *
    unfold extF at hki
    by_cases q1 : i < 0
    · rw [if_pos (.inl q1)]
      refine ACall.enter (args := [.pointer (some ⟨p, 0, none⟩), .string s, .int .i64 i]) (rs := [.tmp 6, .tmp 7]) 40 [(0, .pointer (some ⟨p, 0, none⟩)), (1, .string s), (2, .int .i64 i)] Try.func94 rfl rfl (Nat.le_of_ble_eq_true rfl) rfl ⟨rfl, rfl, rfl, trivial⟩ ?_
      refine AWP.seq ?_
      refine AWP.region ?_
      refine rC (Calm.assign rfl) ?_
      refine rC (Calm.assign rfl) ?_
      refine arun_nil ?_
      refine athen_n ?_
      refine AWP.seq ?_
      refine AWP.region ?_
      refine rC (Calm.move rfl) ?_
      refine rC (Calm.nilCheck rfl) ?_
      refine rC (Calm.fieldAddr ty_field_90_0 rfl) ?_
      refine rC (Calm.fieldAddr ty_field_25_1 rfl) ?_
      refine rC (ld_ ty_plain_22 rfl) ?_
      refine rC (Calm.move rfl) ?_
      refine ARun.call (lit_lt rfl) go_59 rfl (hfind) ?_
      rintro _ S1 ⟨rfl, h1⟩
      rw [h1, q]; clear h1 S1
      refine rC (Calm.move rfl) ?_
      refine rC (Calm.extract rfl rfl) ?_
      refine rC (Calm.extract rfl rfl) ?_
      refine rC (Calm.assign rfl) ?_
      refine rC (Calm.assign rfl) ?_
      refine arun_nil ?_
      refine athen_n ?_
      refine AWP.sub [(0, _), (1, _), (2, _), (6, _), (7, _), (8, _), (9, _)] ⟨rfl, rfl, rfl, rfl, rfl, rfl, rfl, trivial⟩ ?_
      refine AWP.seq ?_
      refine AWP.block ?_
      refine AWP.seq ?_
      refine AWP.region ?_
      refine rC (Calm.move rfl) ?_
      refine rC (Calm.un rfl (una_not _)) ?_
      refine rC (Calm.assign rfl) ?_
      refine arun_nil ?_
      refine athen_n ?_
      refine AWP.sub [(0, _), (1, _), (2, _), (6, _), (7, _), (8, _), (9, _), (20, _)] ⟨rfl, rfl, rfl, rfl, rfl, rfl, rfl, rfl, trivial⟩ ?_
      refine AWP.condF rfl (by first | rfl | (simp; done) | (simp; omega)) ?_
      refine AWP.seq ?_
      refine AWP.region ?_
      refine rC (Calm.move rfl) ?_
      refine rC (Calm.bin rfl rfl b_lss) ?_
      refine rC (Calm.move rfl) ?_
      first | refine rS 26 ?_ | refine rU 26 ?_ | refine rG 26 (Calm.move rfl) ?_
      first | refine rS 26 ?_ | refine rU 26 ?_ | refine rG 26 (Calm.move rfl) ?_
      first | refine rS 26 ?_ | refine rU 26 ?_ | refine rG 26 (Calm.nilCheck rfl) ?_
      first | refine rS 26 ?_ | refine rU 26 ?_ | refine rG 26 (Calm.fieldAddr ty_field_90_0 rfl) ?_
      first | refine rS 26 ?_ | refine rU 26 ?_ | refine rG 26 (Calm.fieldAddr ty_field_25_1 rfl) ?_
      first | refine rS 26 ?_ | refine rU 26 ?_ | refine rG 26 (ld_ ty_plain_22 rfl) ?_
      first | refine rS 26 ?_ | refine rU 26 ?_ | refine rG 26 (Calm.move rfl) ?_
      first | refine rS 26 ?_ | refine rU 26 ?_ | refine rG 26 (Calm.indexS Try.underlying22 ty_size_54 rfl rfl (by omega) (by omega)) ?_
      first | refine rS 26 ?_ | refine rU 26 ?_ | refine rG 26 (ldA_ (cs := [_, _]) ty_agg_54 ty_size_54 rfl) ?_
      first | refine rS 26 ?_ | refine rU 26 ?_
      first | refine rS 26 ?_ | refine rU 26 ?_ | refine rG 26 (Calm.bin rfl rfl b_geq) ?_
      refine rC ((by first | exact Calm.pickT rfl rfl | exact Calm.pickF rfl rfl)) ?_
      refine rC (Calm.assign rfl) ?_
      refine arun_nil ?_
      refine athen_n ?_
      refine AWP.sub [(0, _), (1, _), (2, _), (6, _), (7, _), (8, _), (9, _), (20, _), (23, _)] ⟨rfl, rfl, rfl, rfl, rfl, rfl, rfl, rfl, rfl, trivial⟩ ?_
      refine AWP.condT rfl (by first | rfl | (simp; done) | (simp; omega)) ?_
      refine AWP.seq ?_
      refine AWP.region ?_
      refine rC (Calm.assign rfl) ?_
      refine rC (Calm.assign rfl) ?_
      refine arun_nil ?_
      refine athen_n ?_
      refine AWP.ret ?_
      refine ain_ret ?_
      refine athen_ret ?_
      refine ⟨_, M, ⟨_, _, rfl, ⟨_, _, rfl, rfl, rfl⟩, rfl⟩, less_, ?_⟩
      exact ⟨rfl, rfl⟩
    · by_cases q2 : (sec x : Int) ≤ i
      · rw [if_pos (.inr q2)]
        refine ACall.enter (args := [.pointer (some ⟨p, 0, none⟩), .string s, .int .i64 i]) (rs := [.tmp 6, .tmp 7]) 40 [(0, .pointer (some ⟨p, 0, none⟩)), (1, .string s), (2, .int .i64 i)] Try.func94 rfl rfl (Nat.le_of_ble_eq_true rfl) rfl ⟨rfl, rfl, rfl, trivial⟩ ?_
        refine AWP.seq ?_
        refine AWP.region ?_
        refine rC (Calm.assign rfl) ?_
        refine rC (Calm.assign rfl) ?_
        refine arun_nil ?_
        refine athen_n ?_
        refine AWP.seq ?_
        refine AWP.region ?_
        refine rC (Calm.move rfl) ?_
        refine rC (Calm.nilCheck rfl) ?_
        refine rC (Calm.fieldAddr ty_field_90_0 rfl) ?_
        refine rC (Calm.fieldAddr ty_field_25_1 rfl) ?_
        refine rC (ld_ ty_plain_22 rfl) ?_
        refine rC (Calm.move rfl) ?_
        refine ARun.call (lit_lt rfl) go_59 rfl (hfind) ?_
        rintro _ S1 ⟨rfl, h1⟩
        rw [h1, q]; clear h1 S1
        refine rC (Calm.move rfl) ?_
        refine rC (Calm.extract rfl rfl) ?_
        refine rC (Calm.extract rfl rfl) ?_
        refine rC (Calm.assign rfl) ?_
        refine rC (Calm.assign rfl) ?_
        refine arun_nil ?_
        refine athen_n ?_
        refine AWP.sub [(0, _), (1, _), (2, _), (6, _), (7, _), (8, _), (9, _)] ⟨rfl, rfl, rfl, rfl, rfl, rfl, rfl, trivial⟩ ?_
        refine AWP.seq ?_
        refine AWP.block ?_
        refine AWP.seq ?_
        refine AWP.region ?_
        refine rC (Calm.move rfl) ?_
        refine rC (Calm.un rfl (una_not _)) ?_
        refine rC (Calm.assign rfl) ?_
        refine arun_nil ?_
        refine athen_n ?_
        refine AWP.sub [(0, _), (1, _), (2, _), (6, _), (7, _), (8, _), (9, _), (20, _)] ⟨rfl, rfl, rfl, rfl, rfl, rfl, rfl, rfl, trivial⟩ ?_
        refine AWP.condF rfl (by first | rfl | (simp; done) | (simp; omega)) ?_
        refine AWP.seq ?_
        refine AWP.region ?_
        refine rC (Calm.move rfl) ?_
        refine rC (Calm.bin rfl rfl b_lss) ?_
        refine rC (Calm.move rfl) ?_
        first | refine rS 26 ?_ | refine rU 26 ?_ | refine rG 26 (Calm.move rfl) ?_
        first | refine rS 26 ?_ | refine rU 26 ?_ | refine rG 26 (Calm.move rfl) ?_
        first | refine rS 26 ?_ | refine rU 26 ?_ | refine rG 26 (Calm.nilCheck rfl) ?_
        first | refine rS 26 ?_ | refine rU 26 ?_ | refine rG 26 (Calm.fieldAddr ty_field_90_0 rfl) ?_
        first | refine rS 26 ?_ | refine rU 26 ?_ | refine rG 26 (Calm.fieldAddr ty_field_25_1 rfl) ?_
        first | refine rS 26 ?_ | refine rU 26 ?_ | refine rG 26 (ld_ ty_plain_22 rfl) ?_
        first | refine rS 26 ?_ | refine rU 26 ?_ | refine rG 26 (Calm.move rfl) ?_
        first | refine rS 26 ?_ | refine rU 26 ?_ | refine rG 26 (Calm.indexS Try.underlying22 ty_size_54 rfl rfl (by omega) (by omega)) ?_
        first | refine rS 26 ?_ | refine rU 26 ?_ | refine rG 26 (ldA_ (cs := [_, _]) ty_agg_54 ty_size_54 rfl) ?_
        refine ARun.callG 2 false 26 rfl (lit_lt rfl) rfl (lit_lt rfl) go_60 rfl (disk_sectors x _ (by omega)) ?_
        rintro _ S1 ⟨rfl, h1⟩
        rw [h1]; clear h1 S1
        first | refine rS 26 ?_ | refine rU 26 ?_ | refine rG 26 (Calm.bin rfl rfl b_geq) ?_
        refine rC ((by first | exact Calm.pickT rfl rfl | exact Calm.pickF rfl rfl)) ?_
        refine rC (Calm.assign rfl) ?_
        refine arun_nil ?_
        refine athen_n ?_
        refine AWP.sub [(0, _), (1, _), (2, _), (6, _), (7, _), (8, _), (9, _), (20, _), (23, _)] ⟨rfl, rfl, rfl, rfl, rfl, rfl, rfl, rfl, rfl, trivial⟩ ?_
        refine AWP.condT rfl (by first | rfl | (simp; done) | (simp; omega)) ?_
        refine AWP.seq ?_
        refine AWP.region ?_
        refine rC (Calm.assign rfl) ?_
        refine rC (Calm.assign rfl) ?_
        refine arun_nil ?_
        refine athen_n ?_
        refine AWP.ret ?_
        refine ain_ret ?_
        refine athen_ret ?_
        refine ⟨_, M, ⟨_, _, rfl, ⟨_, _, rfl, rfl, rfl⟩, rfl⟩, less_, ?_⟩
        exact ⟨rfl, rfl⟩
      · rw [if_neg (by omega)]
        refine ACall.enter (args := [.pointer (some ⟨p, 0, none⟩), .string s, .int .i64 i]) (rs := [.tmp 6, .tmp 7]) 40 [(0, .pointer (some ⟨p, 0, none⟩)), (1, .string s), (2, .int .i64 i)] Try.func94 rfl rfl (Nat.le_of_ble_eq_true rfl) rfl ⟨rfl, rfl, rfl, trivial⟩ ?_
        refine AWP.seq ?_
        refine AWP.region ?_
        refine rC (Calm.assign rfl) ?_
        refine rC (Calm.assign rfl) ?_
        refine arun_nil ?_
        refine athen_n ?_
        refine AWP.seq ?_
        refine AWP.region ?_
        refine rC (Calm.move rfl) ?_
        refine rC (Calm.nilCheck rfl) ?_
        refine rC (Calm.fieldAddr ty_field_90_0 rfl) ?_
        refine rC (Calm.fieldAddr ty_field_25_1 rfl) ?_
        refine rC (ld_ ty_plain_22 rfl) ?_
        refine rC (Calm.move rfl) ?_
        refine ARun.call (lit_lt rfl) go_59 rfl (hfind) ?_
        rintro _ S1 ⟨rfl, h1⟩
        rw [h1, q]; clear h1 S1
        refine rC (Calm.move rfl) ?_
        refine rC (Calm.extract rfl rfl) ?_
        refine rC (Calm.extract rfl rfl) ?_
        refine rC (Calm.assign rfl) ?_
        refine rC (Calm.assign rfl) ?_
        refine arun_nil ?_
        refine athen_n ?_
        refine AWP.sub [(0, _), (1, _), (2, _), (6, _), (7, _), (8, _), (9, _)] ⟨rfl, rfl, rfl, rfl, rfl, rfl, rfl, trivial⟩ ?_
        refine AWP.seq ?_
        refine AWP.block ?_
        refine AWP.seq ?_
        refine AWP.region ?_
        refine rC (Calm.move rfl) ?_
        refine rC (Calm.un rfl (una_not _)) ?_
        refine rC (Calm.assign rfl) ?_
        refine arun_nil ?_
        refine athen_n ?_
        refine AWP.sub [(0, _), (1, _), (2, _), (6, _), (7, _), (8, _), (9, _), (20, _)] ⟨rfl, rfl, rfl, rfl, rfl, rfl, rfl, rfl, trivial⟩ ?_
        refine AWP.condF rfl (by first | rfl | (simp; done) | (simp; omega)) ?_
        refine AWP.seq ?_
        refine AWP.region ?_
        refine rC (Calm.move rfl) ?_
        refine rC (Calm.bin rfl rfl b_lss) ?_
        refine rC (Calm.move rfl) ?_
        first | refine rS 26 ?_ | refine rU 26 ?_ | refine rG 26 (Calm.move rfl) ?_
        first | refine rS 26 ?_ | refine rU 26 ?_ | refine rG 26 (Calm.move rfl) ?_
        first | refine rS 26 ?_ | refine rU 26 ?_ | refine rG 26 (Calm.nilCheck rfl) ?_
        first | refine rS 26 ?_ | refine rU 26 ?_ | refine rG 26 (Calm.fieldAddr ty_field_90_0 rfl) ?_
        first | refine rS 26 ?_ | refine rU 26 ?_ | refine rG 26 (Calm.fieldAddr ty_field_25_1 rfl) ?_
        first | refine rS 26 ?_ | refine rU 26 ?_ | refine rG 26 (ld_ ty_plain_22 rfl) ?_
        first | refine rS 26 ?_ | refine rU 26 ?_ | refine rG 26 (Calm.move rfl) ?_
        first | refine rS 26 ?_ | refine rU 26 ?_ | refine rG 26 (Calm.indexS Try.underlying22 ty_size_54 rfl rfl (by omega) (by omega)) ?_
        first | refine rS 26 ?_ | refine rU 26 ?_ | refine rG 26 (ldA_ (cs := [_, _]) ty_agg_54 ty_size_54 rfl) ?_
        refine ARun.callG 2 false 26 rfl (lit_lt rfl) rfl (lit_lt rfl) go_60 rfl (disk_sectors x _ (by omega)) ?_
        rintro _ S1 ⟨rfl, h1⟩
        rw [h1]; clear h1 S1
        first | refine rS 26 ?_ | refine rU 26 ?_ | refine rG 26 (Calm.bin rfl rfl b_geq) ?_
        refine rC ((by first | exact Calm.pickT rfl rfl | exact Calm.pickF rfl rfl)) ?_
        refine rC (Calm.assign rfl) ?_
        refine arun_nil ?_
        refine athen_n ?_
        refine AWP.sub [(0, _), (1, _), (2, _), (6, _), (7, _), (8, _), (9, _), (20, _), (23, _)] ⟨rfl, rfl, rfl, rfl, rfl, rfl, rfl, rfl, rfl, trivial⟩ ?_
        refine AWP.condF rfl (by first | rfl | (simp; done) | (simp; omega)) ?_
        refine AWP.skip ?_
        refine ain_n ?_
        refine athen_n ?_
        refine AWP.seq ?_
        refine AWP.region ?_
        refine rC (Calm.move rfl) ?_
        refine rC (Calm.assign rfl) ?_
        refine rC (Calm.assign rfl) ?_
        refine arun_nil ?_
        refine athen_n ?_
        refine AWP.sub [(0, _), (1, _), (2, _), (6, _), (7, _), (8, _), (9, _), (20, _), (23, _)] ⟨rfl, rfl, rfl, rfl, rfl, rfl, rfl, rfl, rfl, trivial⟩ ?_
        refine AWP.ret ?_
        refine ⟨_, M, ⟨_, _, rfl, ⟨_, _, rfl, rfl, rfl⟩, rfl⟩, less_, ?_⟩
        exact ⟨rfl, rfl⟩
  · rw [if_neg q]
    refine ACall.enter (args := [.pointer (some ⟨p, 0, none⟩), .string s, .int .i64 i]) (rs := [.tmp 6, .tmp 7]) 40 [(0, .pointer (some ⟨p, 0, none⟩)), (1, .string s), (2, .int .i64 i)] Try.func94 rfl rfl (Nat.le_of_ble_eq_true rfl) rfl ⟨rfl, rfl, rfl, trivial⟩ ?_
    refine AWP.seq ?_
    refine AWP.region ?_
    refine rC (Calm.assign rfl) ?_
    refine rC (Calm.assign rfl) ?_
    refine arun_nil ?_
    refine athen_n ?_
    refine AWP.seq ?_
    refine AWP.region ?_
    refine rC (Calm.move rfl) ?_
    refine rC (Calm.nilCheck rfl) ?_
    refine rC (Calm.fieldAddr ty_field_90_0 rfl) ?_
    refine rC (Calm.fieldAddr ty_field_25_1 rfl) ?_
    refine rC (ld_ ty_plain_22 rfl) ?_
    refine rC (Calm.move rfl) ?_
    refine ARun.call (lit_lt rfl) go_59 rfl (disk_find _ d.ext s _ hME hR.ex.asc (Nat.le_trans (right_len hR).1 (by decide))) ?_
    rintro _ S1 ⟨rfl, h1⟩
    rw [h1, Bool.eq_false_iff.2 q]; clear h1 S1
    refine rC (Calm.move rfl) ?_
    refine rC (Calm.extract rfl rfl) ?_
    refine rC (Calm.extract rfl rfl) ?_
    refine rC (Calm.assign rfl) ?_
    refine rC (Calm.assign rfl) ?_
    refine arun_nil ?_
    refine athen_n ?_
    refine AWP.sub [(0, _), (1, _), (2, _), (6, _), (7, _), (8, _), (9, _)] ⟨rfl, rfl, rfl, rfl, rfl, rfl, rfl, trivial⟩ ?_
    refine AWP.seq ?_
    refine AWP.block ?_
    refine AWP.seq ?_
    refine AWP.region ?_
    refine rC (Calm.move rfl) ?_
    refine rC (Calm.un rfl (una_not _)) ?_
    refine rC (Calm.assign rfl) ?_
    refine arun_nil ?_
    refine athen_n ?_
    refine AWP.sub [(0, _), (1, _), (2, _), (6, _), (7, _), (8, _), (9, _), (20, _)] ⟨rfl, rfl, rfl, rfl, rfl, rfl, rfl, rfl, trivial⟩ ?_
    refine AWP.condT rfl (by first | rfl | (simp; done) | (simp; omega)) ?_
    refine AWP.seq ?_
    refine AWP.region ?_
    refine rC (Calm.assign rfl) ?_
    refine rC (Calm.assign rfl) ?_
    refine arun_nil ?_
    refine athen_n ?_
    refine AWP.ret ?_
    refine ain_ret ?_
    refine athen_ret ?_
    refine ⟨_, M, ⟨_, _, rfl, ⟨_, _, rfl, rfl, rfl⟩, rfl⟩, less_, ?_⟩
    exact ⟨rfl, rfl⟩
/-- What stands in a world stands in a later one. -/
theorem view_later {w w1 : World} (h : Below w.heap.size w w1) : View (roM w) w1 :=
  ⟨fun _ _ h => (by cases h), fun a v hv => ⟨by
    have hb : a.block < w.heap.size := by
      rcases Nat.lt_or_ge a.block w.heap.size with q | q
      · exact q
      · have hv' : w.cell? a = some v := hv
        simp [World.cell?, Array.getElem?_eq_none q] at hv'
    exact (h.cell hb).trans hv, rfl⟩⟩
theorem place_calls (p : Nat) (d : D) (s : ByteArray) (i : Int) (w : World) (qe : Option Addr) (de : Nat) (sv : Value) (h : RdK (roM w) p d qe de sv) (hR : Right d) (w1 : World) (hb : Below w.heap.size w w1) :
    Calls Try.prog 94 #[.pointer (some ⟨p, 0, none⟩), .string s, .int .i64 i] w1 fun e w2 => e = .returned (.tuple #[.int .i64 ((placeD d s i).1 : Nat), .int .i64 (placeD d s i).2]) ∧ Below w1.heap.size w1 w2 :=
  (dev_placeK p d s i (roM w) qe de sv h hR w1 (view_later hb)).mono fun _ _ ⟨v, S', he, ⟨hr, _⟩, st⟩ => ⟨by rw [he, hr], st.toBelow fun _ => rfl⟩
theorem boxes4 {w w2 : World} {t1 t2 t3 t4 : TypeId} {v1 v2 v3 v4 : Value} (h : Below ((((w.alloc (.cells #[v1] t1)).alloc (.cells #[v2] t2)).alloc (.cells #[v3] t3)).alloc (.cells #[v4] t4)).heap.size ((((w.alloc (.cells #[v1] t1)).alloc (.cells #[v2] t2)).alloc (.cells #[v3] t3)).alloc (.cells #[v4] t4)) w2) :
    Boxed w2 w.heap.size t1 v1 ∧ Boxed w2 (w.heap.size + 1) t2 v2 ∧ Boxed w2 (w.heap.size + 1 + 1) t3 v3 ∧ Boxed w2 (w.heap.size + 1 + 1 + 1) t4 v4 ∧ Below w.heap.size w w2 ∧ w.heap.size + 4 ≤ w2.heap.size := by
  have b1 := (((Boxed.new w t1 v1).alloc (.cells #[v2] t2)).alloc (.cells #[v3] t3)).alloc (.cells #[v4] t4)
  have b2 := ((Boxed.new (w.alloc (.cells #[v1] t1)) t2 v2).alloc (.cells #[v3] t3)).alloc (.cells #[v4] t4)
  have b3 := (Boxed.new ((w.alloc (.cells #[v1] t1)).alloc (.cells #[v2] t2)) t3 v3).alloc (.cells #[v4] t4)
  have b4 := Boxed.new (((w.alloc (.cells #[v1] t1)).alloc (.cells #[v2] t2)).alloc (.cells #[v3] t3)) t4 v4
  have hB0 : Below w.heap.size w ((((w.alloc (.cells #[v1] t1)).alloc (.cells #[v2] t2)).alloc (.cells #[v3] t3)).alloc (.cells #[v4] t4)) := ((((Below.refl _ w).alloc (Nat.le_refl _) _).alloc (by simp) _).alloc (by simp; omega) _).alloc (by simp; omega) _
  have hsz : ((((w.alloc (.cells #[v1] t1)).alloc (.cells #[v2] t2)).alloc (.cells #[v3] t3)).alloc (.cells #[v4] t4)).heap.size = w.heap.size + 4 := by simp
  simp only [World.size_alloc] at b2 b3 b4
  rw [hsz] at h
  exact ⟨(h.block _ (by omega)).trans b1, (h.block _ (by omega)).trans b2, (h.block _ (by omega)).trans b3, (h.block _ (by omega)).trans b4, hB0.trans (h.mono (by omega)), by rw [← hsz]; exact h.size⟩
theorem cell_new3 (W : World) (cs : Array Value) (t : TypeId) (i : Nat) {v : Value} (h : cs[i]? = some v) : (W.alloc (.cells cs t)).cell? ⟨W.heap.size, i, none⟩ = some v := by
  have e := World.alloc_heap_new W (.cells cs t)
  unfold World.cell?
  rw [e]
  exact h
theorem place_ok {d : D} {s : ByteArray} {k : Int} {j : Nat} (hR : Right d) (h : placeD d s k = (j, 0)) : ∃ hlt : j < d.ext.length, exOf d.ext s = d.ext[j] ∧ 0 ≤ k ∧ k < sec d.ext[j] := by
  unfold placeD at h
  by_cases q : has d.ext s = true
  · obtain ⟨hlt, _⟩ := (has_pos hR.ex.asc s).1 q
    rw [if_pos q] at h
    by_cases q1 : k < 0 ∨ (sec (exOf d.ext s) : Int) ≤ k
    · rw [if_pos q1] at h; simp at h
    · rw [if_neg q1] at h
      obtain rfl : pos d.ext s = j := by simpa using h
      rw [exOf_eq hlt] at q1 ⊢
      exact ⟨hlt, rfl, by omega, by omega⟩
  · rw [if_neg q] at h; simp at h
attribute [local go_sem] Oper.semAt_some
theorem boxed_below {n B : Nat} {W W' : World} {t : TypeId} {v : Value} (h : Below n W W') (hb : B < n) (hx : Boxed W B t v) : Boxed W' B t v := (h.block _ hb).trans hx
theorem Waits.grow {n m : Nat} {W : World} {sv : Value} {zs : List Wr} (h : Waits n W sv zs) (hl : n ≤ m) : Waits m W sv zs := by
  obtain ⟨A, cap, e, h1⟩ := h
  exact ⟨A, cap, e, h1.imp id fun ⟨b, off, e1, hb, hc⟩ => ⟨b, off, e1, by omega, hc⟩⟩
theorem wr_facts {m : Nat} {ex : Ext} (h1 : sec ex ≤ 16384 ∧ ex.2.size = 64 * sec ex ∧ 1 ≤ sec ex) (h2 : (m : Int) < (sec ex : Int)) : IntKind.i64.wrap (64 * (m : Int)) = ((64 * m : Nat) : Int) ∧ IntKind.i64.wrap ((m : Int) + 1) = ((m + 1 : Nat) : Int) ∧ IntKind.i64.wrap (64 * ((m + 1 : Nat) : Int)) = ((64 * (m + 1) : Nat) : Int) ∧ 64 * (m + 1) ≤ ex.2.size := by
  refine ⟨?_, ?_, ?_, by omega⟩
  · rw [IntWalk.i64_in _ (by omega)]; omega
  · rw [IntWalk.i64_in _ (by omega)]; omega
  · rw [IntWalk.i64_in _ (by omega)]; omega
/-! ### A region behind a deferred mark -/
def Lk (a : Act) : Env → Prop
  | [] => True
  | (k, v) :: E => a.tmps.getD k undef = v ∧ Lk a E
theorem Lk.at_ {a : Act} : ∀ {E : Env}, Lk a E → ∀ d v, lk E d = some v → a.tmps.getD d undef = v
  | [], _, d, v, h => by cases h
  | (k, u) :: E, ⟨h1, h2⟩, d, v, h => by
    simp only [lk] at h
    split at h
    · rename_i e; cases h; rw [← e]; exact h1
    · exact h2.at_ d v h
theorem yield_calm {P : Program} {N : Nat} {o : Oper} {E : Env} {v : Value} {R : Value → World → Prop} {a : Act} {w : World} (hsz : a.tmps.size = N) (hE : Lk a E) (hc : ACalm P N o E (roM w) v) (hR : R v w) : Reg.Yield P (execOp a.eval o) w R := by
  unfold Reg.Yield
  have := hc ⟨a.tmps, []⟩ w ⟨hsz, rfl, hE.at_⟩ (view_roM w)
  have e : (execOp a.eval o).run P w = .ok (.value v) w := this
  rw [e]; exact hR
theorem rd_roM {w : World} {a : Addr} {v : Value} (h : w.cell? a = some v) : (roM w).rd a = some v := h
theorem yield_store {P : Program} {T : TypeId} {x y : Operand} {a : Act} {w : World} {b : Nat} {t : TypeId} {v0 v : Value} {ty : TypeId} {pos : String} {aft : Array Edge} {gd : Option (Nat × Bool)} {R : Value → World → Prop} (hs : sizeT P T = some 1) (hc : v.cells = #[v]) (h1 : v.oneCell' = true) (hb : Boxed w b t v0) (hx : a.eval x = .pointer (some ⟨b, 0, none⟩)) (hy : a.eval y = v) (hR : R undef (w.setCell ⟨b, 0, none⟩ v)) : Reg.Yield P (execOp a.eval ⟨none, .store T x y, ty, pos, aft, gd⟩) w R := by
  have hv : View ⟨fun k => if k = b then some ⟨t, [v0], 1⟩ else none, fun _ => none⟩ w := ⟨fun k r hk => (by
    by_cases e : k = b
    · subst e
      simp only [if_true] at hk
      cases hk
      exact ⟨#[v0], (0, 0), hb, List.prefix_refl _, Nat.le_refl _, fun j _ h => by omega⟩
    · simp only [if_neg e] at hk; cases hk), fun _ _ h => (by cases h)⟩
  obtain ⟨h2, _⟩ := store_cells (P := P) hv (b := b) (o := 0) (r := ⟨t, [v0], 1⟩) (vs := [v]) (by simp) (Nat.zero_le _) (.inl (Nat.le_refl _)) (by simpa using h1)
  have e : (execOp a.eval ⟨none, .store T x y, ty, pos, aft, gd⟩).run P w = .ok .skip (w.setCell ⟨b, 0, none⟩ v) := by
    have hs' : sizeT P T = some v.cells.size := by rw [hc]; exact hs
    have h2' : (storeCells ⟨b, 0, none⟩ v.cells.toList).run P w = .ok () (w.setCell ⟨b, 0, none⟩ v) := by rw [hc]; exact h2
    simp [execOp, hx, hy, Instr.storeAt, Instr.sureAddr, storeVar, run_sizeT hs' w, h2']
  unfold Reg.Yield
  rw [e]; exact hR
theorem no_dst {ops : Array Oper} {d : Nat} (h : (ops.toList.all fun o => o.dst != some d) = true) : ∀ (k : Nat) (o : Oper), ops[k]? = some o → o.dst ≠ some d := fun k o hk e => by
  have := List.all_eq_true.1 h o (by simpa using Array.mem_of_getElem? hk)
  rw [e] at this; simp at this
/-- The two stores of the answer, as far as they are done. -/
def two (W : World) (B6 B7 : Nat) (v6 v7 : Value) : Bool → Bool → World
  | _, true => (W.setCell ⟨B6, 0, none⟩ v6).setCell ⟨B7, 0, none⟩ v7
  | true, false => W.setCell ⟨B6, 0, none⟩ v6
  | false, false => W
theorem keep_two {W : World} {B6 B7 : Nat} {v6 v7 : Value} {st : Nat → Bool} {w1 : World} {i : Nat} (h : w1 = two W B6 B7 v6 v7 (st 15) (st 16)) (h1 : 15 ≠ i) (h2 : 16 ≠ i) : w1 = two W B6 B7 v6 v7 (Reg.upd st i 15) (Reg.upd st i 16) := by
  rw [Reg.upd_other _ h1, Reg.upd_other _ h2]; exact h
theorem two_none {W : World} {B6 B7 : Nat} {v6 v7 : Value} {st : Nat → Bool} {w1 : World} (h : w1 = two W B6 B7 v6 v7 (st 15) (st 16)) (h1 : st 15 = false) (h2 : st 16 = false) : w1 = W := by
  rw [h, h1, h2]; rfl
set_option maxRecDepth 100000 in
set_option maxHeartbeats 4000000 in
theorem readW (p : Nat) (d : D) (s : ByteArray) (k : Int) (w : World) (qe : Option Addr) (de : Nat) (sv : Value) (h : RdK (roM w) p d qe de sv) (hR : Right d) (hpn : p < w.heap.size) (hWt : Waits w.heap.size w sv d.waits) (hlen : d.waits.length ≤ 16384) :
    Calls Try.prog 62 #[.pointer (some ⟨p, 0, none⟩), .string s, .int .i64 k] w fun e w' => e = .returned (.tuple #[.string (readD d s k).1, .int .i64 (readD d s k).2]) ∧ Below w.heap.size w w' := by
  have hpl := place_calls p d s k w qe de sv h hR
  generalize hrv : readD d s k = rv
  obtain ⟨rv1, rv2⟩ := rv
  unfold readD at hrv
  generalize hpd : placeD d s k = pl at *
  obtain ⟨j, er⟩ := pl
  have hc : ∀ i v, [Value.int .i64 d.size, .slice qe d.ext.length de, sv, .int .i64 d.fuse, .bool d.down][i]? = some v → ∀ w2, Below w.heap.size w w2 → w2.cell? ⟨p, i, none⟩ = some v := fun i v hi w2 hb => by
    have := h.1 w (view_roM w) i v hi
    have e : (⟨p, 0, none⟩ : Addr).add i = ⟨p, i, none⟩ := by unfold Addr.add; cases i <;> simp
    rw [e] at this
    exact (hb.cell (p := ⟨p, i, none⟩) hpn).trans this
  refine (callsIn_wide (n := 6)).1 ?_
  refine callsIn_of_wp_marks Try.func62 rfl trivial ?_ rfl
  simp only [Try.ntmps62, List.size_toArray, List.length_cons, List.length_nil, Nat.reduceAdd, Nat.reduceSub, Array.replicate_succ, Array.replicate_zero, List.push_toArray, List.append_toArray, List.nil_append, List.cons_append]
  have hB4 : ∀ (u1 u2 u3 u4 : Value) (t1 t2 t3 t4 : TypeId), Below w.heap.size w ((((w.alloc (.cells #[u1] t1)).alloc (.cells #[u2] t2)).alloc (.cells #[u3] t3)).alloc (.cells #[u4] t4)) := fun _ _ _ _ _ _ _ _ => ((((Below.refl _ w).alloc (Nat.le_refl _) _).alloc (by simp) _).alloc (by simp; omega) _).alloc (by simp; omega) _
  by_cases q : er = 0
  · subst q
    rw [if_neg (by simp)] at hrv
    obtain ⟨A, cap, rfl, hW1⟩ := id hWt
    gi_wp2_with (first
      | (refine ⟨trivial, ?_⟩; gi_at_call 94; refine (callsIn_wide.2 (hpl _ (hB4 _ _ _ _ _ _ _ _))).mono ?_; rintro e w2 ⟨rfl, hb2⟩; obtain ⟨b4, b5, b6, b7, hB2, hs2⟩ := boxes4 hb2; have cW := hc 2 _ rfl w2 hB2)
      | (refine ⟨trivial, ?_⟩; gi_at_call 95; refine (back_in Fence.wide _ trivial rfl _ _ _ _).mono ?_; rintro e w' ⟨rfl, rfl⟩))
    obtain ⟨W0, hW0⟩ : ∃ W0, w2.alloc (.cells #[.slice A d.waits.length cap] 23) = W0 := ⟨_, rfl⟩
    have bL : Boxed W0 w2.heap.size 23 (.slice A d.waits.length cap) := by rw [← hW0]; exact Boxed.new _ _ _
    have b4' : Boxed W0 w.heap.size 9 (.string s) := by rw [← hW0]; exact b4.alloc _
    have b5' : Boxed W0 (w.heap.size + 1) 3 (.int .i64 k) := by rw [← hW0]; exact b5.alloc _
    have b6' : Boxed W0 (w.heap.size + 1 + 1) 9 (.string { data := #[] }) := by rw [← hW0]; exact b6.alloc _
    have b7' : Boxed W0 (w.heap.size + 1 + 1 + 1) 28 (.int .i64 0) := by rw [← hW0]; exact b7.alloc _
    have hB0 : Below w.heap.size w W0 := by rw [← hW0]; exact hB2.alloc hB2.size _
    have hsz : W0.heap.size = w2.heap.size + 1 := by rw [← hW0]; simp
    rw [hW0]
    clear hW0 b4 b5 b6 b7 hb2
    have hWt0 : Waits W0.heap.size W0 (.slice A d.waits.length cap) d.waits := (hWt.below hB0).grow (by omega)
    refine wpIn_rangeFunc_ownH rfl (by omega) (gf := 124) (lb := #[.pointer (some ⟨w2.heap.size, 0, none⟩)]) rfl trivial (enters_of Try.func124 (by kernel_rfl) rfl)
      (back_stops Fence.wide (6 - 1) trivial rfl (by omega) w2.heap.size W0.heap.size _ d.waits hlen W0 (by omega) (Nat.le_refl _) bL.cell hWt0) belowK_t (belowK_b (Nat.le_refl _)) (Below.refl _ _) (fun _ => rfl)
      (fun pre W => (∀ y ∈ pre, hit s k y = false) ∧ Below W0.heap.size W0 W)
      (fun c pre W => (c = .ret ∧ ∃ pre' y, pre = pre' ++ [y] ∧ (∀ z ∈ pre', hit s k z = false) ∧ hit s k y = true ∧ Boxed W (w.heap.size + 1 + 1) 9 (.string y.2.2.2) ∧ Boxed W (w.heap.size + 1 + 1 + 1) 28 (.int .i64 0)) ∧ Below w.heap.size w W)
      (OwnFrom.and (ownFrom_pure _ _) (ownFrom_below (Nat.le_refl _) (Nat.le_refl _)))
      (fun c => OwnFrom.and (Own.from (fun st A B row hs hg hr => by obtain ⟨e0, pre', y, e1, e2, e3, e4, e5⟩ := hs; exact ⟨e0, pre', y, e1, e2, e3, boxed_own _ _ (fun (_ : Unit) => Value.string y.2.2.2) () A B row e4 hg hr, boxed_own _ _ (fun (_ : Unit) => Value.int .i64 0) () A B row e5 hg hr⟩) _) (ownFrom_below (Nat.le_refl _) hB0.size))
      ⟨by simp, Below.refl _ _⟩
      (fun x a' W => ∃ Bx, (W.cell? ⟨Bx, 0, none⟩ = some (.string x.2.1) ∧ W.cell? ⟨Bx, 1, none⟩ = some (.int .i64 x.2.2.1) ∧ W.cell? ⟨Bx, 2, none⟩ = some (.string x.2.2.2)) ∧ a' = { tmps := #[.pointer (some ⟨p, 0, none⟩), .string s, .int .i64 k, undef, .pointer (some ⟨w.heap.size, 0, none⟩), .pointer (some ⟨w.heap.size + 1, 0, none⟩), .pointer (some ⟨w.heap.size + 1 + 1, 0, none⟩), .pointer (some ⟨w.heap.size + 1 + 1 + 1, 0, none⟩), .int .i64 j, .int .i64 0, undef, .pointer (some ⟨Bx, 0, none⟩), .tuple #[.int .i64 j, .int .i64 0], .pointer (some ⟨p, 0, none⟩), .string s, .int .i64 k, .tuple #[.int .i64 j, .int .i64 0], .int .i64 j, .int .i64 0, .int .i64 0, .bool false, undef, .pointer (some ⟨p, 0, none⟩), .pointer (some ⟨p, 0, none⟩), .pointer (some ⟨p, 0, none⟩), .pointer (some ⟨p, 2, none⟩), .slice A d.waits.length cap, .func (.func 124) #[] #[.pointer (some ⟨w2.heap.size, 0, none⟩)], .int .i64 x.1, wrV x.2, undef, undef, undef, undef, undef, undef, undef, undef, undef, undef, undef, undef, undef, undef, undef, undef, undef, undef, undef, undef, undef, undef, undef, undef, undef, undef, undef], defers := [] })
      (fun x a' st X Y row hs hg hr => by obtain ⟨Bx, ⟨h1, h2, h3⟩, h4⟩ := hs; exact ⟨Bx, ⟨cell_kept h1 hg (fun r e => (hr r e).2), cell_kept h2 hg (fun r e => (hr r e).2), cell_kept h3 hg (fun r e => (hr r e).2)⟩, h4⟩)
      ?assign ?body ?done ?stop
    case assign =>
      rintro l pre x W K ⟨hI1, hI2⟩ hK
      simp only [wrV] at hK ⊢
      gi_wp2
      exact hK _ _ ((KeepsOthers.alloc _ _).from _) ((Below.refl _ W).alloc hI2.size _) ⟨hI1, hI2.alloc hI2.size _⟩ ⟨W.heap.size, ⟨cell_new3 W _ _ 0 rfl, cell_new3 W _ _ 1 rfl, cell_new3 W _ _ 2 rfl⟩, rfl⟩
    case body =>
      rintro l pre x a' W hl ⟨r, hr⟩ ⟨hI1, hI2⟩ ⟨Bx, ⟨c0, c1, c2⟩, rfl⟩ hlt
      simp only [wrV]
      have cs := (boxed_below hI2 (by omega) b4').cell
      have ck := (boxed_below hI2 (by omega) b5').cell
      have bs := boxed_below hI2 (by omega) b6'
      have be := boxed_below hI2 (by omega) b7'
      have cs6 := bs.cell
      have fs6 := bs.frozen
      have cs7 := be.cell
      have fs7 := be.frozen
      have hBW : Below w.heap.size w W := hB0.trans (hI2.mono hB0.size)
      gi_wp2
      · rename_i hx1 hx2
        refine ⟨((KeepsOthers.setCell _ _ _).trans (KeepsOthers.setCell _ _ _)).from _, ⟨rfl, pre, x, rfl, hI1, by unfold hit; rw [hx2, hx1]; simp, (bs.set _).other (by omega) _, (be.other (by omega) _).set _⟩, (hBW.setCell (p := ⟨w.heap.size + 1 + 1, 0, none⟩) (by simp; omega) _).setCell (p := ⟨w.heap.size + 1 + 1 + 1, 0, none⟩) (by simp; omega) _⟩
      · rename_i hx1 hx2
        exact ⟨KeepsFrom.refl _ _, Below.refl _ _, fun y hy => (List.mem_append.1 hy).elim (hI1 y) (fun e => by simp at e; subst e; unfold hit; rw [hx2]; simp), hI2⟩
      · rename_i hx1
        exact ⟨KeepsFrom.refl _ _, Below.refl _ _, fun y hy => (List.mem_append.1 hy).elim (hI1 y) (fun e => by simp at e; subst e; unfold hit; rw [beq_eq_false_iff_ne.2 hx1]; rfl), hI2⟩
    case done =>
      rintro D ys W hD rfl ⟨hI1, hI2⟩ hK
      have hBW : Below w.heap.size w W := hB0.trans (hI2.mono hB0.size)
      obtain ⟨hlt, hex, hk0, hk1⟩ := place_ok hR hpd
      obtain ⟨_, _, ee1, ee2, ee3, hE3⟩ := id h.2
      cases ee1
      obtain ⟨b, off, rfl, hkk⟩ := hE3.resolve_left (fun e => by rw [e] at hlt; simp at hlt)
      have cE := hc 1 _ rfl W hBW
      have ck := (boxed_below hI2 (by omega) b5').cell
      have bs := boxed_below hI2 (by omega) b6'
      have be := boxed_below hI2 (by omega) b7'
      have cs6 := bs.cell
      have fs6 := bs.frozen
      have cs7 := be.cell
      have fs7 := be.frozen
      gi_wp2
      have cX : W.cell? ⟨b, off + j * 2 + 1, none⟩ = some (.string d.ext[j].2) := kn_at (hkk _ hlt) 1 rfl W (view_later hBW) 0 _ rfl
      have hsx := right_sec hR (List.getElem_mem hlt)
      obtain ⟨m, rfl⟩ : ∃ m : Nat, k = m := ⟨k.toNat, by omega⟩
      have hnone : lastW d.waits s m = none := by
        unfold lastW; rw [List.find?_eq_none]; intro y hy; rw [hI1 y hy]; simp
      rw [hnone, hex] at hrv
      clear hex hnone
      generalize d.ext[j] = ex at *
      obtain ⟨hm1, hm2, hm3, hm4⟩ := wr_facts hsx hk1
      clear hpl hc hW1 hWt0 hB4 hB2 cW bL b4' b5' b6' b7' hI1 hkk hE3 hk0
      refine wpIn_wide.2 ?_
      refine Reg.wp_steps rfl (by kernel_rfl) (fun k v _ => v = ([.pointer (some ⟨p, 0, none⟩), .pointer (some ⟨p, 0, none⟩), .pointer (some ⟨p, 0, none⟩), .pointer (some ⟨p, 1, none⟩), .slice (some ⟨b, off, none⟩) d.ext.length de, .int .i64 (j : Int), .pointer (some ⟨b, off + j * 2, none⟩), .pointer (some ⟨b, off + j * 2 + 1, none⟩), .string ex.2, .int .i64 (m : Int), .int .i64 ((64 * m : Nat) : Int), .int .i64 (m : Int), .int .i64 ((m + 1 : Nat) : Int), .int .i64 ((64 * (m + 1) : Nat) : Int), .string (ex.2.extract (64 * m) (64 * (m + 1)))] : List Value).getD k undef) (fun st w' => w' = two W.drew (w.heap.size + 1 + 1) (w.heap.size + 1 + 1 + 1) (.string (ex.2.extract (64 * m) (64 * (m + 1)))) (.int .i64 0) (st 15) (st 16)) (fun _ _ => True) rfl (fun _ _ _ _ _ h => h) (Reg.each ?_) ?fin
      case fin =>
        intro tm w' st hsz' hI hall hDf hbase
        have e15 : st 15 = true := hall 15 (by decide)
        have e16 : st 16 = true := hall 16 (by decide)
        have g6 : tm[6]?.getD undef = .pointer (some ⟨w.heap.size + 1 + 1, 0, none⟩) := by rw [← Array.getD_eq_getD_getElem?]; exact hbase 6 (no_dst (by kernel_rfl))
        have g7 : tm[7]?.getD undef = .pointer (some ⟨w.heap.size + 1 + 1 + 1, 0, none⟩) := by rw [← Array.getD_eq_getD_getElem?]; exact hbase 7 (no_dst (by kernel_rfl))
        have hw' : w' = (W.drew.setCell ⟨w.heap.size + 1 + 1, 0, none⟩ (.string (ex.2.extract (64 * m) (64 * (m + 1))))).setCell ⟨w.heap.size + 1 + 1 + 1, 0, none⟩ (.int .i64 0) := by have h : w' = two _ _ _ _ _ (st 15) (st 16) := hI; rw [h, e15, e16]; rfl
        obtain ⟨rfl, rfl⟩ : ex.2.extract (64 * m) (64 * (m + 1)) = rv1 ∧ (0 : Int) = rv2 := by simpa [Int.toNat_natCast, Nat.mul_succ] using hrv
        have b6 := ((bs.set (W := W.drew) (.string (ex.2.extract (64 * m) (64 * (m + 1))))).other (B' := w.heap.size + 1 + 1 + 1) (by omega) (.int .i64 0))
        have b7 := ((be.other (W := W.drew) (B' := w.heap.size + 1 + 1) (by omega) (.string (ex.2.extract (64 * m) (64 * (m + 1))))).set (.int .i64 0))
        have hB' : Below w.heap.size w w' := by rw [hw']; exact ((hBW.drew).setCell (p := ⟨w.heap.size + 1 + 1, 0, none⟩) (by simp; omega) _).setCell (p := ⟨w.heap.size + 1 + 1 + 1, 0, none⟩) (by simp; omega) _
        have hK' : w'.heap[D]? = some (.deferred (some [])) := by rw [hw', Below.heap_setCell _ _ _ _ (by show D ≠ w.heap.size + 1 + 1 + 1; omega), Below.heap_setCell _ _ _ _ (by show D ≠ w.heap.size + 1 + 1; omega)]; exact hK
        rw [← hw'] at b6 b7
        clear hDf hm1 hm2 hm3 hm4 hsz' hbase hall hI hw' e15 e16 hrv ck cE cX cs6 cs7 fs6 fs7 bs be
        rename_i K1 aK
        refine aK _ _ ?_
        gi_wp2
        refine ⟨by simp, .inl ⟨_, _, rfl, run_takeDeferred hK', ?_⟩⟩
        have h6 := cell_kept b6.cell (grownBy_putObj' _ D (.deferred none)) (fun r e => by cases e; exact ⟨_, hK', rfl⟩)
        have h7 := cell_kept b7.cell (grownBy_putObj' _ D (.deferred none)) (fun r e => by cases e; exact ⟨_, hK', rfl⟩)
        refine ⟨.tuple #[.string (ex.2.extract (64 * m) (64 * (m + 1))), .int .i64 0], ?_, rfl, hB'.trans (belowK_b (w := w) (Nat.le_refl _) _ D _ _ (by omega) hK' rfl rfl)⟩
        simp [results, Try.f62, go_sem, h6, h7, g6, g7]
      refine ⟨?_, ?_, ?_, ?_, ?_, ?_, ?_, ?_, ?_, ?_, ?_, ?_, ?_, ?_, ?_, ?_, ?_, trivial⟩
      all_goals (intro a w1 st ha hI hd hs hi hw hT; clear hK hBW hI2 hB0 hWt hpd hrv h)
      · obtain rfl := two_none hI (hw 15 (by kernel_rfl)) (hw 16 (by kernel_rfl))
        exact yield_calm ha (E := [(0, .pointer (some ⟨p, 0, none⟩))]) ⟨hT 0 (by kernel_rfl), trivial⟩ (Calm.move rfl) ⟨rfl, keep_two hI (by decide) (by decide), trivial⟩
      · obtain rfl := two_none hI (hw 15 (by kernel_rfl)) (hw 16 (by kernel_rfl))
        exact yield_calm ha (E := [(42, .pointer (some ⟨p, 0, none⟩))]) ⟨hd ⟨0, .data⟩ (by simp) rfl _ _ rfl rfl, trivial⟩ (Calm.nilCheck rfl) ⟨rfl, keep_two hI (by decide) (by decide), trivial⟩
      · obtain rfl := two_none hI (hw 15 (by kernel_rfl)) (hw 16 (by kernel_rfl))
        exact yield_calm ha (E := [(43, .pointer (some ⟨p, 0, none⟩))]) ⟨hd ⟨1, .data⟩ (by simp) rfl _ _ rfl rfl, trivial⟩ (Calm.fieldAddr (n := 4) (off := 0) (by kernel_rfl) rfl) ⟨rfl, keep_two hI (by decide) (by decide), trivial⟩
      · obtain rfl := two_none hI (hw 15 (by kernel_rfl)) (hw 16 (by kernel_rfl))
        exact yield_calm ha (E := [(44, .pointer (some ⟨p, 0, none⟩))]) ⟨hd ⟨2, .data⟩ (by simp) rfl _ _ rfl rfl, trivial⟩ (Calm.fieldAddr (n := 0) (off := 1) (by kernel_rfl) rfl) ⟨rfl, keep_two hI (by decide) (by decide), trivial⟩
      · obtain rfl := two_none hI (hw 15 (by kernel_rfl)) (hw 16 (by kernel_rfl))
        exact yield_calm ha (E := [(45, .pointer (some ⟨p, 1, none⟩))]) ⟨hd ⟨3, .data⟩ (by simp) rfl _ _ rfl rfl, trivial⟩ (Calm.load (by kernel_rfl) rfl (rd_roM cE)) ⟨rfl, keep_two hI (by decide) (by decide), trivial⟩
      · obtain rfl := two_none hI (hw 15 (by kernel_rfl)) (hw 16 (by kernel_rfl))
        exact yield_calm ha (E := [(8, .int .i64 (j : Int))]) ⟨hT 8 (by kernel_rfl), trivial⟩ (Calm.move rfl) ⟨rfl, keep_two hI (by decide) (by decide), trivial⟩
      · obtain rfl := two_none hI (hw 15 (by kernel_rfl)) (hw 16 (by kernel_rfl))
        exact yield_calm ha (E := [(46, .slice (some ⟨b, off, none⟩) d.ext.length de), (47, .int .i64 (j : Int))]) ⟨hd ⟨4, .data⟩ (by simp) rfl _ _ rfl rfl, hd ⟨5, .data⟩ (by simp) rfl _ _ rfl rfl, trivial⟩ (Calm.indexS (e := 54) (n := 2) (by kernel_rfl) (by kernel_rfl) rfl rfl (Int.natCast_nonneg _) (Int.ofNat_lt.2 hlt)) ⟨rfl, keep_two hI (by decide) (by decide), trivial⟩
      · obtain rfl := two_none hI (hw 15 (by kernel_rfl)) (hw 16 (by kernel_rfl))
        exact yield_calm ha (E := [(48, .pointer (some ⟨b, off + j * 2, none⟩))]) ⟨hd ⟨6, .data⟩ (by simp) rfl _ _ rfl rfl, trivial⟩ (Calm.fieldAddr (n := 0) (off := 1) (by kernel_rfl) rfl) ⟨rfl, keep_two hI (by decide) (by decide), trivial⟩
      · obtain rfl := two_none hI (hw 15 (by kernel_rfl)) (hw 16 (by kernel_rfl))
        exact yield_calm ha (E := [(49, .pointer (some ⟨b, off + j * 2 + 1, none⟩))]) ⟨hd ⟨7, .data⟩ (by simp) rfl _ _ rfl rfl, trivial⟩ (Calm.load (by kernel_rfl) rfl (rd_roM cX)) ⟨rfl, keep_two hI (by decide) (by decide), trivial⟩
      · obtain rfl := two_none hI (hw 15 (by kernel_rfl)) (hw 16 (by kernel_rfl))
        exact yield_calm ha (E := [(5, .pointer (some ⟨w.heap.size + 1, 0, none⟩))]) ⟨hT 5 (by kernel_rfl), trivial⟩ (Calm.load (by kernel_rfl) rfl (rd_roM ck)) ⟨rfl, keep_two hI (by decide) (by decide), trivial⟩
      · obtain rfl := two_none hI (hw 15 (by kernel_rfl)) (hw 16 (by kernel_rfl))
        exact yield_calm ha (E := [(51, .int .i64 (m : Int))]) ⟨hd ⟨9, .data⟩ (by simp) rfl _ _ rfl rfl, trivial⟩ (Calm.bin rfl rfl (bin_mulW hm1)) ⟨rfl, keep_two hI (by decide) (by decide), trivial⟩
      · obtain rfl := two_none hI (hw 15 (by kernel_rfl)) (hw 16 (by kernel_rfl))
        exact yield_calm ha (E := [(5, .pointer (some ⟨w.heap.size + 1, 0, none⟩))]) ⟨hT 5 (by kernel_rfl), trivial⟩ (Calm.load (by kernel_rfl) rfl (rd_roM ck)) ⟨rfl, keep_two hI (by decide) (by decide), trivial⟩
      · obtain rfl := two_none hI (hw 15 (by kernel_rfl)) (hw 16 (by kernel_rfl))
        exact yield_calm ha (E := [(53, .int .i64 (m : Int))]) ⟨hd ⟨11, .data⟩ (by simp) rfl _ _ rfl rfl, trivial⟩ (Calm.bin rfl rfl (bin_addW hm2)) ⟨rfl, keep_two hI (by decide) (by decide), trivial⟩
      · obtain rfl := two_none hI (hw 15 (by kernel_rfl)) (hw 16 (by kernel_rfl))
        exact yield_calm ha (E := [(54, .int .i64 ((m + 1 : Nat) : Int))]) ⟨hd ⟨12, .data⟩ (by simp) rfl _ _ rfl rfl, trivial⟩ (Calm.bin rfl rfl (bin_mulW hm3)) ⟨rfl, keep_two hI (by decide) (by decide), trivial⟩
      · obtain rfl := two_none hI (hw 15 (by kernel_rfl)) (hw 16 (by kernel_rfl))
        exact yield_calm ha (E := [(50, .string ex.2), (52, .int .i64 ((64 * m : Nat) : Int)), (55, .int .i64 ((64 * (m + 1) : Nat) : Int))]) ⟨hd ⟨8, .data⟩ (by simp) rfl _ _ rfl rfl, hd ⟨10, .data⟩ (by simp) rfl _ _ rfl rfl, hd ⟨13, .data⟩ (by simp) rfl _ _ rfl rfl, trivial⟩ (Calm.sliceStr (l := 64 * m) (h := 64 * (m + 1)) (by kernel_rfl) rfl ⟨_, _, rfl, Int.natCast_nonneg _, Int.ofNat_le.2 hm4, rfl⟩ ⟨_, _, rfl, Int.natCast_nonneg _, Int.ofNat_le.2 (Nat.mul_le_mul_left 64 (Nat.le_succ m)), rfl⟩) ⟨rfl, keep_two hI (by decide) (by decide), trivial⟩
      · obtain rfl := two_none hI hi (hw 16 (by kernel_rfl))
        refine yield_store (v := .string (ex.2.extract (64 * m) (64 * (m + 1)))) (by kernel_rfl) rfl rfl bs (hT 6 (by kernel_rfl)) (hd ⟨14, .data⟩ (by simp) rfl _ _ rfl rfl) ⟨rfl, ?_, trivial⟩
        show _ = two _ _ _ _ _ (Reg.upd st 15 15) (Reg.upd st 15 16)
        rw [Reg.upd_same, Reg.upd_other _ (by decide), show st 16 = false from hw 16 (by kernel_rfl)]; rfl
      · have e15 : st 15 = true := hs ⟨15, .chain⟩ (by simp) rfl
        have e16 : st 16 = false := hi
        have hw1 : w1 = W.drew.setCell ⟨w.heap.size + 1 + 1, 0, none⟩ (.string (ex.2.extract (64 * m) (64 * (m + 1)))) := by have h : w1 = two _ _ _ _ _ (st 15) (st 16) := hI; rw [h, e15, e16]; rfl
        subst hw1
        refine yield_store (v := .int .i64 0) (by kernel_rfl) rfl rfl (be.other (W := W.drew) (by omega) _) (hT 7 (by kernel_rfl)) rfl ⟨rfl, ?_, trivial⟩
        show _ = two _ _ _ _ _ (Reg.upd st 16 15) (Reg.upd st 16 16)
        rw [Reg.upd_same, Reg.upd_other _ (by decide), e15]; rfl
    case stop =>
      rintro D c pre W hD ⟨n, hn, rfl⟩ ⟨⟨rfl, pre', y, e1, e2, e3, e4, e5⟩, hB⟩ hK
      have c6 := e4.cell
      have c7 := e5.cell
      have hsome : lastW d.waits s k = some y := by
        unfold lastW
        obtain ⟨r, hr⟩ : ∃ r, upto (backF d.waits) d.waits.length = upto (backF d.waits) n ++ r := by
          refine ⟨((List.range d.waits.length).drop n).map (backF d.waits), ?_⟩
          unfold upto
          rw [← List.map_append]
          congr 1
          rw [show List.range n = (List.range d.waits.length).take n from by rw [List.take_range]; congr 1; omega, List.take_append_drop]
        rw [hr, e1, List.append_assoc, List.find?_append, List.find?_eq_none.2 (fun z hz => by rw [e2 z hz]; simp)]
        simp [e3]
      rw [hsome] at hrv
      obtain ⟨rfl, rfl⟩ : y.2.2.2 = rv1 ∧ (0 : Int) = rv2 := by simpa using hrv
      gi_wp2
      refine ⟨by simp, .inl ⟨_, _, rfl, run_takeDeferred hK, ?_⟩⟩
      have h6 := cell_kept c6 (grownBy_putObj' _ D (.deferred none)) (fun r e => by cases e; exact ⟨_, hK, rfl⟩)
      have h7 := cell_kept c7 (grownBy_putObj' _ D (.deferred none)) (fun r e => by cases e; exact ⟨_, hK, rfl⟩)
      refine ⟨.tuple #[.string y.2.2.2, .int .i64 0], ?_, rfl, hB.trans (belowK_b (w := w) (Nat.le_refl _) W D _ _ (by omega) hK rfl rfl)⟩
      simp [results, Try.f62, go_sem, h6, h7]
  · rw [if_pos q] at hrv
    obtain ⟨rfl, rfl⟩ : ByteArray.empty = rv1 ∧ er = rv2 := by simpa using hrv
    gi_wp2_with (refine ⟨trivial, ?_⟩; gi_at_call 94; refine (callsIn_wide.2 (hpl _ (hB4 _ _ _ _ _ _ _ _))).mono ?_; rintro e w2 ⟨rfl, hb2⟩; obtain ⟨b4, b5, b6, b7, hB2, hs2⟩ := boxes4 hb2; have c6 := b6.cell; have f6 := b6.frozen; have c7 := b7.cell; have f7 := b7.frozen)
    have c6' := ((b6.set (.string ⟨#[]⟩)).other (B' := w.heap.size + 1 + 1 + 1) (by omega) (.int .i64 er)).cell
    have c7' := ((b7.other (B' := w.heap.size + 1 + 1) (by omega) (.string ⟨#[]⟩)).set (.int .i64 er)).cell
    refine ⟨.tuple #[.string ⟨#[]⟩, .int .i64 er], ?_, rfl, (hB2.setCell (p := ⟨w.heap.size + 1 + 1, 0, none⟩) (by simp; omega) _).setCell (p := ⟨w.heap.size + 1 + 1 + 1, 0, none⟩) (by simp; omega) _⟩
    simp [results, Try.f62, go_sem, c6', c7']
end Go.Proofs.Ytkeiphkccnfhoaa
namespace Go.Proofs.Ytkeiphkccnfhoaa
open Go.RowKit
open Mv Disk
set_option linter.unusedVariables false
set_option linter.unusedSimpArgs false
set_option maxRecDepth 4000
theorem Mv.Sl.at_roM {α : Type} {n : Nat} {f : α → List Value} {M : Mem} {v : Value} {l : List α} (h : Sl n f M v l) {w : World} (hv : View M w) : Sl n f (roM w) v l := by
  obtain ⟨a, cap, rfl, h1, h2, h3⟩ := h
  exact ⟨a, cap, rfl, h1, h2, h3.imp id fun ⟨b, off, e, hk⟩ => ⟨b, off, e, fun j hj => roM_knows (hk j hj w hv)⟩⟩
theorem waits_of {M : Mem} {v : Value} {l : List Wr} (h : Sl 3 wrF M v l) {w : World} (hv : View M w) : Waits w.heap.size w v l := by
  obtain ⟨a, cap, rfl, h1, h2, h3⟩ := h
  refine ⟨a, cap, rfl, h3.elim .inl fun ⟨b, off, e, hk⟩ => ?_⟩
  cases hl : l with
  | nil => exact .inl rfl
  | cons x r =>
    right
    subst hl
    refine ⟨b, off, e, ?_, fun j hj q v hq => ?_⟩
    · have h0 := hk 0 (by simp) w hv 0 _ rfl
      rcases Nat.lt_or_ge b w.heap.size with q | q
      · exact q
      · simp [World.cell?, Addr.add, Array.getElem?_eq_none q] at h0
    · have h0 := hk j hj w hv q v hq
      have e : (⟨b, off + j * 3, none⟩ : Addr).add q = ⟨b, off + j * 3 + q, none⟩ := by unfold Addr.add; cases q <;> simp
      rw [e] at h0; exact h0
theorem dev_Read (p : Nat) (d : D) (s : ByteArray) (k : Int) (M : Mem) (h : RdV M p d) (hR : Right d) :
    ACall Try.prog 62 #[.pointer (some ⟨p, 0, none⟩), .string s, .int .i64 k] M fun r S' => r = .tuple #[.string (readD d s k).1, .int .i64 (readD d s k).2] ∧ S' = M := by
  obtain ⟨qe, de, qw, dw, hp, hE, hW⟩ := h
  intro w hv
  have hk : RdK (roM w) p d qe de (.slice qw d.waits.length dw) := ⟨roM_knows fun j v hj => by
    refine hv.rd ?_
    have e : (⟨p, 0, none⟩ : Addr).add j = ⟨p, j, none⟩ := by unfold Addr.add; cases j <;> simp
    rw [e]; unfold Mem.rd; rw [hp]; exact hj, hE.at_roM hv⟩
  exact (readW p d s k w qe de _ hk hR (hv.lt hp) (waits_of hW hv) hR.wl).mono fun _ _ ⟨he, hb⟩ => ⟨_, _, he, ⟨rfl, rfl⟩, Step.below hv hb⟩
noncomputable def readO (d : D) (s : ByteArray) (k : Int) : ByteArray × Int := if (openD d).2 ≠ 0 then (ByteArray.empty, (openD d).2) else readD d s k
set_option maxHeartbeats 1000000 in
theorem disk_Read (v : Value) (d : D) (s : ByteArray) (k : Int) (S : Mem) (hd : DkR S v d) (hz : Dz d) :
    ACall Try.prog 27 #[v, .string s, .int .i64 k] S fun r S' => r = .tuple #[.string (readO d s k).1, .int .i64 (readO d s k).2] ∧ S' = S := by
  have hopen := disk_Open v d S hd hz
  obtain ⟨pe, ce, pw, cw, rfl, hE, hW⟩ := id hd
  unfold readO
  rcases openD_or d with ⟨ho, hR⟩ | ⟨ho, hR, hdn⟩ | ⟨ho, hR, hdn⟩ <;> rw [ho] at hopen ⊢
  · skip
    refine ACall.enter (args := [.agg #[.int .i64 d.size, .slice pe d.ext.length ce, .slice pw d.waits.length cw, .int .i64 d.fuse, .bool d.down], .string s, .int .i64 k]) (rs := [.tmp 6, .tmp 7]) 24 [(0, .agg #[.int .i64 d.size, .slice pe d.ext.length ce, .slice pw d.waits.length cw, .int .i64 d.fuse, .bool d.down]), (1, .string s), (2, .int .i64 k)] Try.func27 rfl rfl (Nat.le_of_ble_eq_true rfl) rfl ⟨rfl, rfl, rfl, trivial⟩ ?_
    refine AWP.seq ?_
    refine AWP.region ?_
    refine ARun.boxA (cs := [_, _, _, _, _]) (lit_lt rfl) rfl ?_
    intro b3 f3
    have g3 := f3
    repeat ((with_reducible replace g3 := fresh_set g3); obtain ⟨g3, _⟩ := g3)
    (try simp only [List.length_cons, List.length_nil, Nat.zero_add, Nat.reduceAdd])
    refine rC (Calm.assign rfl) ?_
    refine rC (Calm.assign rfl) ?_
    refine arun_nil ?_
    refine athen_n ?_
    refine AWP.seq ?_
    refine AWP.region ?_
    refine rC (ldA_ (cs := [_, _, _, _, _]) ty_agg_25 ty_size_25 rfl) ?_
    refine ARun.call (lit_lt rfl) go_44 rfl (hopen.frame f3) ?_
    rintro _ S1 ⟨M, ⟨p, oE, oW, hok, rfl, hM⟩, f1', h1⟩
    rw [h1]; clear h1 S1
    have hSM : S.Less M := by rw [hM]; exact hok.less
    refine rC (Calm.move rfl) ?_
    refine rC (Calm.extract rfl rfl) ?_
    refine rC (Calm.extract rfl rfl) ?_
    refine rC (Calm.assign rfl) ?_
    refine rC (Calm.assign rfl) ?_
    refine arun_nil ?_
    refine athen_n ?_
    refine AWP.sub [(0, _), (1, _), (2, _), (3, _), (6, _), (7, _), (8, _), (9, _)] ⟨rfl, rfl, rfl, rfl, rfl, rfl, rfl, rfl, trivial⟩ ?_
    refine AWP.seq ?_
    refine AWP.seq ?_
    refine AWP.region ?_
    refine rC (Calm.move rfl) ?_
    refine rC (Calm.bin rfl rfl b_neq) ?_
    refine arun_nil ?_
    refine athen_n ?_
    refine AWP.sub [(0, _), (1, _), (2, _), (3, _), (6, _), (7, _), (8, _), (9, _), (16, _)] ⟨rfl, rfl, rfl, rfl, rfl, rfl, rfl, rfl, rfl, trivial⟩ ?_
    refine AWP.condT rfl (by first | rfl | (simp; done) | (simp; omega)) ?_
    refine AWP.seq ?_
    refine AWP.region ?_
    refine rC (Calm.move rfl) ?_
    refine rC (Calm.assign rfl) ?_
    refine rC (Calm.assign rfl) ?_
    refine arun_nil ?_
    refine athen_n ?_
    refine AWP.sub [(0, _), (1, _), (2, _), (3, _), (6, _), (7, _), (8, _), (9, _), (16, _)] ⟨rfl, rfl, rfl, rfl, rfl, rfl, rfl, rfl, rfl, trivial⟩ ?_
    refine AWP.ret ?_
    refine athen_ret ?_
    refine ⟨_, S, ⟨_, _, rfl, ⟨_, _, rfl, rfl, rfl⟩, rfl⟩, less_, ?_⟩
    exact ⟨rfl, rfl⟩
  · skip
    refine ACall.enter (args := [.agg #[.int .i64 d.size, .slice pe d.ext.length ce, .slice pw d.waits.length cw, .int .i64 d.fuse, .bool d.down], .string s, .int .i64 k]) (rs := [.tmp 6, .tmp 7]) 24 [(0, .agg #[.int .i64 d.size, .slice pe d.ext.length ce, .slice pw d.waits.length cw, .int .i64 d.fuse, .bool d.down]), (1, .string s), (2, .int .i64 k)] Try.func27 rfl rfl (Nat.le_of_ble_eq_true rfl) rfl ⟨rfl, rfl, rfl, trivial⟩ ?_
    refine AWP.seq ?_
    refine AWP.region ?_
    refine ARun.boxA (cs := [_, _, _, _, _]) (lit_lt rfl) rfl ?_
    intro b3 f3
    have g3 := f3
    repeat ((with_reducible replace g3 := fresh_set g3); obtain ⟨g3, _⟩ := g3)
    (try simp only [List.length_cons, List.length_nil, Nat.zero_add, Nat.reduceAdd])
    refine rC (Calm.assign rfl) ?_
    refine rC (Calm.assign rfl) ?_
    refine arun_nil ?_
    refine athen_n ?_
    refine AWP.seq ?_
    refine AWP.region ?_
    refine rC (ldA_ (cs := [_, _, _, _, _]) ty_agg_25 ty_size_25 rfl) ?_
    refine ARun.call (lit_lt rfl) go_44 rfl (hopen.frame f3) ?_
    rintro _ S1 ⟨M, ⟨p, oE, oW, hok, rfl, hM⟩, f1', h1⟩
    rw [h1]; clear h1 S1
    have hSM : S.Less M := by rw [hM]; exact hok.less
    refine rC (Calm.move rfl) ?_
    refine rC (Calm.extract rfl rfl) ?_
    refine rC (Calm.extract rfl rfl) ?_
    refine rC (Calm.assign rfl) ?_
    refine rC (Calm.assign rfl) ?_
    refine arun_nil ?_
    refine athen_n ?_
    refine AWP.sub [(0, _), (1, _), (2, _), (3, _), (6, _), (7, _), (8, _), (9, _)] ⟨rfl, rfl, rfl, rfl, rfl, rfl, rfl, rfl, trivial⟩ ?_
    refine AWP.seq ?_
    refine AWP.seq ?_
    refine AWP.region ?_
    refine rC (Calm.move rfl) ?_
    refine rC (Calm.bin rfl rfl b_neq) ?_
    refine arun_nil ?_
    refine athen_n ?_
    refine AWP.sub [(0, _), (1, _), (2, _), (3, _), (6, _), (7, _), (8, _), (9, _), (16, _)] ⟨rfl, rfl, rfl, rfl, rfl, rfl, rfl, rfl, rfl, trivial⟩ ?_
    refine AWP.condT rfl (by first | rfl | (simp; done) | (simp; omega)) ?_
    refine AWP.seq ?_
    refine AWP.region ?_
    refine rC (Calm.move rfl) ?_
    refine rC (Calm.assign rfl) ?_
    refine rC (Calm.assign rfl) ?_
    refine arun_nil ?_
    refine athen_n ?_
    refine AWP.sub [(0, _), (1, _), (2, _), (3, _), (6, _), (7, _), (8, _), (9, _), (16, _)] ⟨rfl, rfl, rfl, rfl, rfl, rfl, rfl, rfl, rfl, trivial⟩ ?_
    refine AWP.ret ?_
    refine athen_ret ?_
    refine ⟨_, S, ⟨_, _, rfl, ⟨_, _, rfl, rfl, rfl⟩, rfl⟩, less_, ?_⟩
    exact ⟨rfl, rfl⟩
  · skip
    refine ACall.enter (args := [.agg #[.int .i64 d.size, .slice pe d.ext.length ce, .slice pw d.waits.length cw, .int .i64 d.fuse, .bool d.down], .string s, .int .i64 k]) (rs := [.tmp 6, .tmp 7]) 24 [(0, .agg #[.int .i64 d.size, .slice pe d.ext.length ce, .slice pw d.waits.length cw, .int .i64 d.fuse, .bool d.down]), (1, .string s), (2, .int .i64 k)] Try.func27 rfl rfl (Nat.le_of_ble_eq_true rfl) rfl ⟨rfl, rfl, rfl, trivial⟩ ?_
    refine AWP.seq ?_
    refine AWP.region ?_
    refine ARun.boxA (cs := [_, _, _, _, _]) (lit_lt rfl) rfl ?_
    intro b3 f3
    have g3 := f3
    repeat ((with_reducible replace g3 := fresh_set g3); obtain ⟨g3, _⟩ := g3)
    (try simp only [List.length_cons, List.length_nil, Nat.zero_add, Nat.reduceAdd])
    refine rC (Calm.assign rfl) ?_
    refine rC (Calm.assign rfl) ?_
    refine arun_nil ?_
    refine athen_n ?_
    refine AWP.seq ?_
    refine AWP.region ?_
    refine rC (ldA_ (cs := [_, _, _, _, _]) ty_agg_25 ty_size_25 rfl) ?_
    refine ARun.call (lit_lt rfl) go_44 rfl (hopen.frame f3) ?_
    rintro _ S1 ⟨M, ⟨p, oE, oW, hok, rfl, hM⟩, f1', h1⟩
    rw [h1]; clear h1 S1
    have hSM : S.Less M := by rw [hM]; exact hok.less
    have hrd : RdV M p d := by rw [hM]; exact hok.rd (Nat.le_trans (right_len hR).1 (by decide)) (Nat.le_trans hR.wl (by decide))
    refine rC (Calm.move rfl) ?_
    refine rC (Calm.extract rfl rfl) ?_
    refine rC (Calm.extract rfl rfl) ?_
    refine rC (Calm.assign rfl) ?_
    refine rC (Calm.assign rfl) ?_
    refine arun_nil ?_
    refine athen_n ?_
    refine AWP.sub [(0, _), (1, _), (2, _), (3, _), (6, _), (7, _), (8, _), (9, _)] ⟨rfl, rfl, rfl, rfl, rfl, rfl, rfl, rfl, trivial⟩ ?_
    refine AWP.seq ?_
    refine AWP.seq ?_
    refine AWP.region ?_
    refine rC (Calm.move rfl) ?_
    refine rC (Calm.bin rfl rfl b_neq) ?_
    refine arun_nil ?_
    refine athen_n ?_
    refine AWP.sub [(0, _), (1, _), (2, _), (3, _), (6, _), (7, _), (8, _), (9, _), (16, _)] ⟨rfl, rfl, rfl, rfl, rfl, rfl, rfl, rfl, rfl, trivial⟩ ?_
    refine AWP.condF rfl (by first | rfl | (simp; done) | (simp; omega)) ?_
    refine AWP.skip ?_
    refine athen_n ?_
    refine AWP.seq ?_
    refine AWP.region ?_
    refine rC (Calm.move rfl) ?_
    refine rC (Calm.move rfl) ?_
    refine rC (Calm.move rfl) ?_
    refine ARun.call (lit_lt rfl) go_62 rfl (dev_Read p d s k _ (hrd.less less_) hR) ?_
    rintro _ S1 ⟨rfl, h1⟩
    rw [h1]; clear h1 S1
    refine rC (Calm.extract rfl rfl) ?_
    refine rC (Calm.extract rfl rfl) ?_
    refine rC (Calm.assign rfl) ?_
    refine rC (Calm.assign rfl) ?_
    refine arun_nil ?_
    refine athen_n ?_
    refine AWP.sub [(0, _), (1, _), (2, _), (3, _), (6, _), (7, _), (8, _), (9, _), (16, _)] ⟨rfl, rfl, rfl, rfl, rfl, rfl, rfl, rfl, rfl, trivial⟩ ?_
    refine AWP.ret ?_
    refine ⟨_, S, ⟨_, _, rfl, ⟨_, _, rfl, rfl, rfl⟩, rfl⟩, less_, ?_⟩
    exact ⟨rfl, rfl⟩
end Go.Proofs.Ytkeiphkccnfhoaa
namespace Go.Proofs.Ytkeiphkccnfhoaa
open Go.RowKit
open Mv Disk
set_option linter.unusedVariables false
set_option linter.unusedSimpArgs false
set_option maxRecDepth 20000
/-- A frame. -/
structure Fr where
  name : ByteArray
  sector : Int
  data : ByteArray
  pins : Int
  dirty : Bool
  tick : Int
  leased : Bool
def frF (x : Fr) : List Value := [.string x.name, .int .i64 x.sector, .string x.data, .int .i64 x.pins, .bool x.dirty, .int .u64 x.tick, .bool x.leased]
def frV (x : Fr) : Value := .agg #[.string x.name, .int .i64 x.sector, .string x.data, .int .i64 x.pins, .bool x.dirty, .int .u64 x.tick, .bool x.leased]
def F0 : Fr := ⟨ByteArray.empty, 0, ByteArray.empty, 0, false, 0, false⟩
def F1 : Fr := ⟨ByteArray.empty, 0, ByteArray.empty, 0, false, 0, true⟩
def Fr.holds (x : Fr) : Prop := x.name.size ≠ 0
instance (x : Fr) : Decidable x.holds := by unfold Fr.holds; infer_instance
theorem eq_frame (x y : Fr) : x = y ↔ x.name = y.name ∧ x.sector = y.sector ∧ x.data = y.data ∧ x.pins = y.pins ∧ x.dirty = y.dirty ∧ x.tick = y.tick ∧ x.leased = y.leased := by
  cases x; cases y; simp
instance : DecidableEq Fr := fun x y => decidable_of_iff _ (eq_frame x y).symm
theorem pl_holds (x : Fr) (S : Mem) : ACall Try.prog 78 #[frV x] S fun r S' => r = .bool (decide x.holds) ∧ S' = S := by
  have e : (!decide (x.name = ByteArray.empty)) = decide x.holds := by
    by_cases h : x.name = ByteArray.empty
    · rw [decide_eq_true h, decide_eq_false (show ¬ x.holds from fun q => q ((size0 _).1 h))]; rfl
    · rw [decide_eq_false h, decide_eq_true (show x.holds from fun q => h ((size0 _).2 q))]; rfl
  unfold frV
  refine ACall.enter (args := [.agg #[.string x.name, .int .i64 x.sector, .string x.data, .int .i64 x.pins, .bool x.dirty, .int .u64 x.tick, .bool x.leased]]) (rs := [.tmp 2]) 6 [(0, .agg #[.string x.name, .int .i64 x.sector, .string x.data, .int .i64 x.pins, .bool x.dirty, .int .u64 x.tick, .bool x.leased])] Try.func78 rfl rfl (Nat.le_of_ble_eq_true rfl) rfl ⟨rfl, trivial⟩ ?_
  refine AWP.seq ?_
  refine AWP.region ?_
  refine ARun.boxA (cs := [_, _, _, _, _, _, _]) (lit_lt rfl) rfl ?_
  intro b1 f1
  have g1 := f1
  repeat ((with_reducible replace g1 := fresh_set g1); obtain ⟨g1, _⟩ := g1)
  (try simp only [List.length_cons, List.length_nil, Nat.zero_add, Nat.reduceAdd])
  refine rC (Calm.assign rfl) ?_
  refine arun_nil ?_
  refine athen_n ?_
  refine AWP.seq ?_
  refine AWP.region ?_
  refine rC (Calm.fieldAddr ty_field_110_0 rfl) ?_
  refine rC (ld_ ty_plain_9 rfl) ?_
  refine rC (Calm.bin rfl rfl (bin_bool (bin_str_neq _ _) e)) ?_
  refine rC (Calm.assign rfl) ?_
  refine arun_nil ?_
  refine athen_n ?_
  refine AWP.sub [(0, _), (1, _), (2, _)] ⟨rfl, rfl, rfl, trivial⟩ ?_
  refine AWP.ret ?_
  refine ⟨_, S, ⟨_, _, rfl, rfl, rfl⟩, less_, ?_⟩
  exact ⟨rfl, rfl⟩
theorem eql_frame (x y : Fr) (w : World) : (binOp .eql 110 (frV x) (frV y)).run Try.prog w = .ok (.bool (decide (x = y))) w := by
  have e : decide (x = y) = ((x.name.toList == y.name.toList) && (x.sector == y.sector) && (x.data.toList == y.data.toList) && (x.pins == y.pins) && (x.dirty == y.dirty) && (x.tick == y.tick) && (x.leased == y.leased)) := by
    rw [Bool.eq_iff_iff, decide_eq_true_eq, eq_frame]
    simp [toList_inj', and_assoc]
  rw [e]
  unfold frV
  go_simp
  cases h1 : (x.name.toList == y.name.toList) <;> cases h2 : (x.sector == y.sector) <;> cases h3 : (x.data.toList == y.data.toList) <;> cases h4 : (x.pins == y.pins) <;> cases h5 : (x.dirty == y.dirty) <;> cases h6 : (x.tick == y.tick) <;> cases h7 : (x.leased == y.leased) <;> simp_all
theorem bin_eql_frame {p q : Operand} (x y : Fr) : Bin Try.prog .eql 110 p q (frV x) (frV y) (.bool (decide (x = y))) := fun w => by
  unfold frV
  rw [Sem.run_bind, run_eqGuard_agg w .eql 110 p q _ _ (by kernel_rfl)]
  exact eql_frame x y w
theorem pl_free (x : Fr) (S : Mem) : ACall Try.prog 128 #[frV x] S fun r S' => r = .bool (decide (x = F0)) ∧ S' = S := by
  unfold frV
  refine ACall.enter (args := [.agg #[.string x.name, .int .i64 x.sector, .string x.data, .int .i64 x.pins, .bool x.dirty, .int .u64 x.tick, .bool x.leased]]) (rs := [.tmp 2]) 6 [(0, .agg #[.string x.name, .int .i64 x.sector, .string x.data, .int .i64 x.pins, .bool x.dirty, .int .u64 x.tick, .bool x.leased])] Try.func128 rfl rfl (Nat.le_of_ble_eq_true rfl) rfl ⟨rfl, trivial⟩ ?_
  refine AWP.seq ?_
  refine AWP.region ?_
  refine ARun.boxA (cs := [_, _, _, _, _, _, _]) (lit_lt rfl) rfl ?_
  intro b1 f1
  have g1 := f1
  repeat ((with_reducible replace g1 := fresh_set g1); obtain ⟨g1, _⟩ := g1)
  (try simp only [List.length_cons, List.length_nil, Nat.zero_add, Nat.reduceAdd])
  refine rC (Calm.assign rfl) ?_
  refine arun_nil ?_
  refine athen_n ?_
  refine AWP.seq ?_
  refine AWP.region ?_
  refine rC (ldA_ (cs := [_, _, _, _, _, _, _]) ty_agg_110 ty_size_110 rfl) ?_
  refine rC (Calm.build (cs := [_, _, _, _, _, _, _]) ty_bld_110 rfl rfl) ?_
  refine rC (Calm.bin rfl rfl (bin_eql_frame x F0)) ?_
  refine rC (Calm.assign rfl) ?_
  refine arun_nil ?_
  refine athen_n ?_
  refine AWP.sub [(0, _), (1, _), (2, _)] ⟨rfl, rfl, rfl, trivial⟩ ?_
  refine AWP.ret ?_
  refine ⟨_, S, ⟨_, _, rfl, rfl, rfl⟩, less_, ?_⟩
  exact ⟨rfl, rfl⟩
/-- May a frame be taken? -/
def Fr.idle (x : Fr) : Prop := x = F0 ∨ x.holds ∧ x.pins = 0
instance (x : Fr) : Decidable x.idle := by unfold Fr.idle; infer_instance
theorem pl_idle (x : Fr) (S : Mem) : ACall Try.prog 129 #[frV x] S fun r S' => r = .bool (decide x.idle) ∧ S' = S := by
  have cf := fun S => pl_free x S
  have ch := fun S => pl_holds x S
  unfold frV at *
  by_cases q1 : x = F0
  · rw [decide_eq_true q1] at cf
    rw [decide_eq_true (show x.idle from .inl q1)]
    refine ACall.enter (args := [.agg #[.string x.name, .int .i64 x.sector, .string x.data, .int .i64 x.pins, .bool x.dirty, .int .u64 x.tick, .bool x.leased]]) (rs := [.tmp 2]) 14 [(0, .agg #[.string x.name, .int .i64 x.sector, .string x.data, .int .i64 x.pins, .bool x.dirty, .int .u64 x.tick, .bool x.leased])] Try.func129 rfl rfl (Nat.le_of_ble_eq_true rfl) rfl ⟨rfl, trivial⟩ ?_
    refine AWP.seq ?_
    refine AWP.region ?_
    refine ARun.boxA (cs := [_, _, _, _, _, _, _]) (lit_lt rfl) rfl ?_
    intro b1 f1
    have g1 := f1
    repeat ((with_reducible replace g1 := fresh_set g1); obtain ⟨g1, _⟩ := g1)
    (try simp only [List.length_cons, List.length_nil, Nat.zero_add, Nat.reduceAdd])
    refine rC (Calm.assign rfl) ?_
    refine arun_nil ?_
    refine athen_n ?_
    refine AWP.seq ?_
    refine AWP.region ?_
    refine rC (ldA_ (cs := [_, _, _, _, _, _, _]) ty_agg_110 ty_size_110 rfl) ?_
    refine ARun.call (lit_lt rfl) go_128 rfl (cf _) ?_
    rintro _ S1 ⟨rfl, h1⟩
    rw [h1]; clear h1 S1
    refine rC (Calm.move rfl) ?_
    first | refine rS 5 ?_ | refine rU 5 ?_ | refine rG 5 (ldA_ (cs := [_, _, _, _, _, _, _]) ty_agg_110 ty_size_110 rfl) ?_
    first | refine rS 5 ?_ | refine rU 5 ?_
    first | refine rS 5 ?_ | refine rU 5 ?_ | refine rG 5 (Calm.move rfl) ?_
    first | refine rS 8 ?_ | refine rU 8 ?_ | refine rG 8 (Calm.fieldAddr ty_field_110_3 rfl) ?_
    first | refine rS 8 ?_ | refine rU 8 ?_ | refine rG 8 (ld_ ty_plain_3 rfl) ?_
    first | refine rS 8 ?_ | refine rU 8 ?_ | refine rG 8 (Calm.bin rfl rfl b_eql) ?_
    first | refine rS 5 ?_ | refine rU 5 ?_ | refine rG 5 ((by first | exact Calm.pickT rfl rfl | exact Calm.pickF rfl rfl)) ?_
    refine rC ((by first | exact Calm.pickT rfl rfl | exact Calm.pickF rfl rfl)) ?_
    refine rC (Calm.assign rfl) ?_
    refine arun_nil ?_
    refine athen_n ?_
    refine AWP.sub [(0, _), (1, _), (2, _)] ⟨rfl, rfl, rfl, trivial⟩ ?_
    refine AWP.ret ?_
    refine ⟨_, S, ⟨_, _, rfl, rfl, rfl⟩, less_, ?_⟩
    exact ⟨rfl, rfl⟩
  · rw [decide_eq_false q1] at cf
    by_cases q2 : x.holds
    · rw [decide_eq_true q2] at ch
      have e : decide x.idle = decide (x.pins = 0) := by unfold Fr.idle; simp [q1, q2]
      rw [e]
      refine ACall.enter (args := [.agg #[.string x.name, .int .i64 x.sector, .string x.data, .int .i64 x.pins, .bool x.dirty, .int .u64 x.tick, .bool x.leased]]) (rs := [.tmp 2]) 14 [(0, .agg #[.string x.name, .int .i64 x.sector, .string x.data, .int .i64 x.pins, .bool x.dirty, .int .u64 x.tick, .bool x.leased])] Try.func129 rfl rfl (Nat.le_of_ble_eq_true rfl) rfl ⟨rfl, trivial⟩ ?_
      refine AWP.seq ?_
      refine AWP.region ?_
      refine ARun.boxA (cs := [_, _, _, _, _, _, _]) (lit_lt rfl) rfl ?_
      intro b1 f1
      have g1 := f1
      repeat ((with_reducible replace g1 := fresh_set g1); obtain ⟨g1, _⟩ := g1)
      (try simp only [List.length_cons, List.length_nil, Nat.zero_add, Nat.reduceAdd])
      refine rC (Calm.assign rfl) ?_
      refine arun_nil ?_
      refine athen_n ?_
      refine AWP.seq ?_
      refine AWP.region ?_
      refine rC (ldA_ (cs := [_, _, _, _, _, _, _]) ty_agg_110 ty_size_110 rfl) ?_
      refine ARun.call (lit_lt rfl) go_128 rfl (cf _) ?_
      rintro _ S1 ⟨rfl, h1⟩
      rw [h1]; clear h1 S1
      refine rC (Calm.move rfl) ?_
      first | refine rS 5 ?_ | refine rU 5 ?_ | refine rG 5 (ldA_ (cs := [_, _, _, _, _, _, _]) ty_agg_110 ty_size_110 rfl) ?_
      refine ARun.callG 2 false 5 rfl (lit_lt rfl) rfl (lit_lt rfl) go_78 rfl (ch _) ?_
      rintro _ S1 ⟨rfl, h1⟩
      rw [h1]; clear h1 S1
      first | refine rS 5 ?_ | refine rU 5 ?_ | refine rG 5 (Calm.move rfl) ?_
      first | refine rS 8 ?_ | refine rU 8 ?_ | refine rG 8 (Calm.fieldAddr ty_field_110_3 rfl) ?_
      first | refine rS 8 ?_ | refine rU 8 ?_ | refine rG 8 (ld_ ty_plain_3 rfl) ?_
      first | refine rS 8 ?_ | refine rU 8 ?_ | refine rG 8 (Calm.bin rfl rfl b_eql) ?_
      first | refine rS 5 ?_ | refine rU 5 ?_ | refine rG 5 ((by first | exact Calm.pickT rfl rfl | exact Calm.pickF rfl rfl)) ?_
      refine rC ((by first | exact Calm.pickT rfl rfl | exact Calm.pickF rfl rfl)) ?_
      refine rC (Calm.assign rfl) ?_
      refine arun_nil ?_
      refine athen_n ?_
      refine AWP.sub [(0, _), (1, _), (2, _)] ⟨rfl, rfl, rfl, trivial⟩ ?_
      refine AWP.ret ?_
      refine ⟨_, S, ⟨_, _, rfl, rfl, rfl⟩, less_, ?_⟩
      exact ⟨rfl, rfl⟩
    · rw [decide_eq_false q2] at ch
      rw [decide_eq_false (show ¬ x.idle from fun h => h.elim q1 (fun h => q2 h.1))]
      refine ACall.enter (args := [.agg #[.string x.name, .int .i64 x.sector, .string x.data, .int .i64 x.pins, .bool x.dirty, .int .u64 x.tick, .bool x.leased]]) (rs := [.tmp 2]) 14 [(0, .agg #[.string x.name, .int .i64 x.sector, .string x.data, .int .i64 x.pins, .bool x.dirty, .int .u64 x.tick, .bool x.leased])] Try.func129 rfl rfl (Nat.le_of_ble_eq_true rfl) rfl ⟨rfl, trivial⟩ ?_
      refine AWP.seq ?_
      refine AWP.region ?_
      refine ARun.boxA (cs := [_, _, _, _, _, _, _]) (lit_lt rfl) rfl ?_
      intro b1 f1
      have g1 := f1
      repeat ((with_reducible replace g1 := fresh_set g1); obtain ⟨g1, _⟩ := g1)
      (try simp only [List.length_cons, List.length_nil, Nat.zero_add, Nat.reduceAdd])
      refine rC (Calm.assign rfl) ?_
      refine arun_nil ?_
      refine athen_n ?_
      refine AWP.seq ?_
      refine AWP.region ?_
      refine rC (ldA_ (cs := [_, _, _, _, _, _, _]) ty_agg_110 ty_size_110 rfl) ?_
      refine ARun.call (lit_lt rfl) go_128 rfl (cf _) ?_
      rintro _ S1 ⟨rfl, h1⟩
      rw [h1]; clear h1 S1
      refine rC (Calm.move rfl) ?_
      first | refine rS 5 ?_ | refine rU 5 ?_ | refine rG 5 (ldA_ (cs := [_, _, _, _, _, _, _]) ty_agg_110 ty_size_110 rfl) ?_
      refine ARun.callG 2 false 5 rfl (lit_lt rfl) rfl (lit_lt rfl) go_78 rfl (ch _) ?_
      rintro _ S1 ⟨rfl, h1⟩
      rw [h1]; clear h1 S1
      first | refine rS 5 ?_ | refine rU 5 ?_ | refine rG 5 (Calm.move rfl) ?_
      first | refine rS 8 ?_ | refine rU 8 ?_ | refine rG 8 (Calm.fieldAddr ty_field_110_3 rfl) ?_
      first | refine rS 8 ?_ | refine rU 8 ?_ | refine rG 8 (ld_ ty_plain_3 rfl) ?_
      first | refine rS 8 ?_ | refine rU 8 ?_ | refine rG 8 (Calm.bin rfl rfl b_eql) ?_
      first | refine rS 5 ?_ | refine rU 5 ?_ | refine rG 5 ((by first | exact Calm.pickT rfl rfl | exact Calm.pickF rfl rfl)) ?_
      refine rC ((by first | exact Calm.pickT rfl rfl | exact Calm.pickF rfl rfl)) ?_
      refine rC (Calm.assign rfl) ?_
      refine arun_nil ?_
      refine athen_n ?_
      refine AWP.sub [(0, _), (1, _), (2, _)] ⟨rfl, rfl, rfl, trivial⟩ ?_
      refine AWP.ret ?_
      refine ⟨_, S, ⟨_, _, rfl, rfl, rfl⟩, less_, ?_⟩
      exact ⟨rfl, rfl⟩
/-- Do two hold one sector, or have one tick? -/
def like (x y : Fr) : Prop := x.holds ∧ y.holds ∧ (x.tick = y.tick ∨ x.name = y.name ∧ x.sector = y.sector)
instance (x y : Fr) : Decidable (like x y) := by unfold like; infer_instance
theorem pl_like (x y : Fr) (S : Mem) : ACall Try.prog 107 #[frV x, frV y] S fun r S' => r = .bool (decide (like x y)) ∧ S' = S := by
  have c1 := fun S => pl_holds x S
  have c2 := fun S => pl_holds y S
  unfold frV at *
  by_cases q1 : x.holds
  · rw [decide_eq_true q1] at c1
    by_cases q2 : y.holds
    · rw [decide_eq_true q2] at c2
      by_cases q3 : x.tick = y.tick
      · rw [decide_eq_true (show like x y from ⟨q1, q2, .inl q3⟩)]
        refine ACall.enter (args := [.agg #[.string x.name, .int .i64 x.sector, .string x.data, .int .i64 x.pins, .bool x.dirty, .int .u64 x.tick, .bool x.leased], .agg #[.string y.name, .int .i64 y.sector, .string y.data, .int .i64 y.pins, .bool y.dirty, .int .u64 y.tick, .bool y.leased]]) (rs := [.tmp 4]) 32 [(0, .agg #[.string x.name, .int .i64 x.sector, .string x.data, .int .i64 x.pins, .bool x.dirty, .int .u64 x.tick, .bool x.leased]), (1, .agg #[.string y.name, .int .i64 y.sector, .string y.data, .int .i64 y.pins, .bool y.dirty, .int .u64 y.tick, .bool y.leased])] Try.func107 rfl rfl (Nat.le_of_ble_eq_true rfl) rfl ⟨rfl, rfl, trivial⟩ ?_
        refine AWP.seq ?_
        refine AWP.region ?_
        refine ARun.boxA (cs := [_, _, _, _, _, _, _]) (lit_lt rfl) rfl ?_
        intro b2 f2
        have g2 := f2
        repeat ((with_reducible replace g2 := fresh_set g2); obtain ⟨g2, _⟩ := g2)
        (try simp only [List.length_cons, List.length_nil, Nat.zero_add, Nat.reduceAdd])
        refine ARun.boxA (cs := [_, _, _, _, _, _, _]) (lit_lt rfl) rfl ?_
        intro b3 f3
        have g3 := f3
        repeat ((with_reducible replace g3 := fresh_set g3); obtain ⟨g3, _⟩ := g3)
        (try simp only [List.length_cons, List.length_nil, Nat.zero_add, Nat.reduceAdd])
        refine rC (Calm.assign rfl) ?_
        refine arun_nil ?_
        refine athen_n ?_
        refine AWP.seq ?_
        refine AWP.region ?_
        refine rC (ldA_ (cs := [_, _, _, _, _, _, _]) ty_agg_110 ty_size_110 rfl) ?_
        refine ARun.call (lit_lt rfl) go_78 rfl (c1 _) ?_
        rintro _ S1 ⟨rfl, h1⟩
        rw [h1]; clear h1 S1
        refine rC (Calm.move rfl) ?_
        first | refine rS 7 ?_ | refine rU 7 ?_ | refine rG 7 (ldA_ (cs := [_, _, _, _, _, _, _]) ty_agg_110 ty_size_110 rfl) ?_
        refine ARun.callG 2 true 7 rfl (lit_lt rfl) rfl (lit_lt rfl) go_78 rfl (c2 _) ?_
        rintro _ S1 ⟨rfl, h1⟩
        rw [h1]; clear h1 S1
        refine rC ((by first | exact Calm.pickT rfl rfl | exact Calm.pickF rfl rfl)) ?_
        refine rC (Calm.move rfl) ?_
        first | refine rS 11 ?_ | refine rU 11 ?_ | refine rG 11 (Calm.fieldAddr ty_field_110_5 rfl) ?_
        first | refine rS 11 ?_ | refine rU 11 ?_ | refine rG 11 (ld_ ty_plain_58 rfl) ?_
        first | refine rS 11 ?_ | refine rU 11 ?_ | refine rG 11 (Calm.fieldAddr ty_field_110_5 rfl) ?_
        first | refine rS 11 ?_ | refine rU 11 ?_ | refine rG 11 (ld_ ty_plain_58 rfl) ?_
        first | refine rS 11 ?_ | refine rU 11 ?_ | refine rG 11 (Calm.bin rfl rfl (bin_bool (bin_eql _ _) (decide_eq_true q3))) ?_
        first | refine rS 11 ?_ | refine rU 11 ?_ | refine rG 11 (Calm.move rfl) ?_
        first | refine rS 17 ?_ | refine rU 17 ?_ | refine rG 17 (Calm.fieldAddr ty_field_110_0 rfl) ?_
        first | refine rS 17 ?_ | refine rU 17 ?_ | refine rG 17 (ld_ ty_plain_9 rfl) ?_
        first | refine rS 17 ?_ | refine rU 17 ?_ | refine rG 17 (Calm.fieldAddr ty_field_110_0 rfl) ?_
        first | refine rS 17 ?_ | refine rU 17 ?_ | refine rG 17 (ld_ ty_plain_9 rfl) ?_
        first | refine rS 17 ?_ | refine rU 17 ?_ | refine rG 17 (Calm.bin rfl rfl (bin_str_eql _ _)) ?_
        first | refine rS 17 ?_ | refine rU 17 ?_ | refine rG 17 (Calm.move rfl) ?_
        first | refine rS 23 ?_ | refine rU 23 ?_ | refine rG 23 (Calm.fieldAddr ty_field_110_1 rfl) ?_
        first | refine rS 23 ?_ | refine rU 23 ?_ | refine rG 23 (ld_ ty_plain_3 rfl) ?_
        first | refine rS 23 ?_ | refine rU 23 ?_ | refine rG 23 (Calm.fieldAddr ty_field_110_1 rfl) ?_
        first | refine rS 23 ?_ | refine rU 23 ?_ | refine rG 23 (ld_ ty_plain_3 rfl) ?_
        first | refine rS 23 ?_ | refine rU 23 ?_ | refine rG 23 (Calm.bin rfl rfl b_eql) ?_
        first | refine rS 17 ?_ | refine rU 17 ?_ | refine rG 17 ((by first | exact Calm.pickT rfl rfl | exact Calm.pickF rfl rfl)) ?_
        first | refine rS 11 ?_ | refine rU 11 ?_ | refine rG 11 ((by first | exact Calm.pickT rfl rfl | exact Calm.pickF rfl rfl)) ?_
        refine rC ((by first | exact Calm.pickT rfl rfl | exact Calm.pickF rfl rfl)) ?_
        refine rC (Calm.assign rfl) ?_
        refine arun_nil ?_
        refine athen_n ?_
        refine AWP.sub [(0, _), (1, _), (2, _), (3, _), (4, _)] ⟨rfl, rfl, rfl, rfl, rfl, trivial⟩ ?_
        refine AWP.ret ?_
        refine ⟨_, S, ⟨_, _, rfl, rfl, rfl⟩, less_, ?_⟩
        exact ⟨rfl, rfl⟩
      · by_cases q4 : x.name = y.name
        · have e : decide (like x y) = decide (x.sector = y.sector) := by unfold like; simp [q1, q2, q3, q4]
          rw [e]
          refine ACall.enter (args := [.agg #[.string x.name, .int .i64 x.sector, .string x.data, .int .i64 x.pins, .bool x.dirty, .int .u64 x.tick, .bool x.leased], .agg #[.string y.name, .int .i64 y.sector, .string y.data, .int .i64 y.pins, .bool y.dirty, .int .u64 y.tick, .bool y.leased]]) (rs := [.tmp 4]) 32 [(0, .agg #[.string x.name, .int .i64 x.sector, .string x.data, .int .i64 x.pins, .bool x.dirty, .int .u64 x.tick, .bool x.leased]), (1, .agg #[.string y.name, .int .i64 y.sector, .string y.data, .int .i64 y.pins, .bool y.dirty, .int .u64 y.tick, .bool y.leased])] Try.func107 rfl rfl (Nat.le_of_ble_eq_true rfl) rfl ⟨rfl, rfl, trivial⟩ ?_
          refine AWP.seq ?_
          refine AWP.region ?_
          refine ARun.boxA (cs := [_, _, _, _, _, _, _]) (lit_lt rfl) rfl ?_
          intro b2 f2
          have g2 := f2
          repeat ((with_reducible replace g2 := fresh_set g2); obtain ⟨g2, _⟩ := g2)
          (try simp only [List.length_cons, List.length_nil, Nat.zero_add, Nat.reduceAdd])
          refine ARun.boxA (cs := [_, _, _, _, _, _, _]) (lit_lt rfl) rfl ?_
          intro b3 f3
          have g3 := f3
          repeat ((with_reducible replace g3 := fresh_set g3); obtain ⟨g3, _⟩ := g3)
          (try simp only [List.length_cons, List.length_nil, Nat.zero_add, Nat.reduceAdd])
          refine rC (Calm.assign rfl) ?_
          refine arun_nil ?_
          refine athen_n ?_
          refine AWP.seq ?_
          refine AWP.region ?_
          refine rC (ldA_ (cs := [_, _, _, _, _, _, _]) ty_agg_110 ty_size_110 rfl) ?_
          refine ARun.call (lit_lt rfl) go_78 rfl (c1 _) ?_
          rintro _ S1 ⟨rfl, h1⟩
          rw [h1]; clear h1 S1
          refine rC (Calm.move rfl) ?_
          first | refine rS 7 ?_ | refine rU 7 ?_ | refine rG 7 (ldA_ (cs := [_, _, _, _, _, _, _]) ty_agg_110 ty_size_110 rfl) ?_
          refine ARun.callG 2 true 7 rfl (lit_lt rfl) rfl (lit_lt rfl) go_78 rfl (c2 _) ?_
          rintro _ S1 ⟨rfl, h1⟩
          rw [h1]; clear h1 S1
          refine rC ((by first | exact Calm.pickT rfl rfl | exact Calm.pickF rfl rfl)) ?_
          refine rC (Calm.move rfl) ?_
          first | refine rS 11 ?_ | refine rU 11 ?_ | refine rG 11 (Calm.fieldAddr ty_field_110_5 rfl) ?_
          first | refine rS 11 ?_ | refine rU 11 ?_ | refine rG 11 (ld_ ty_plain_58 rfl) ?_
          first | refine rS 11 ?_ | refine rU 11 ?_ | refine rG 11 (Calm.fieldAddr ty_field_110_5 rfl) ?_
          first | refine rS 11 ?_ | refine rU 11 ?_ | refine rG 11 (ld_ ty_plain_58 rfl) ?_
          first | refine rS 11 ?_ | refine rU 11 ?_ | refine rG 11 (Calm.bin rfl rfl (bin_bool (bin_eql _ _) (decide_eq_false q3))) ?_
          first | refine rS 11 ?_ | refine rU 11 ?_ | refine rG 11 (Calm.move rfl) ?_
          first | refine rS 17 ?_ | refine rU 17 ?_ | refine rG 17 (Calm.fieldAddr ty_field_110_0 rfl) ?_
          first | refine rS 17 ?_ | refine rU 17 ?_ | refine rG 17 (ld_ ty_plain_9 rfl) ?_
          first | refine rS 17 ?_ | refine rU 17 ?_ | refine rG 17 (Calm.fieldAddr ty_field_110_0 rfl) ?_
          first | refine rS 17 ?_ | refine rU 17 ?_ | refine rG 17 (ld_ ty_plain_9 rfl) ?_
          first | refine rS 17 ?_ | refine rU 17 ?_ | refine rG 17 (Calm.bin rfl rfl (bin_bool (bin_str_eql _ _) (decide_eq_true q4))) ?_
          first | refine rS 17 ?_ | refine rU 17 ?_ | refine rG 17 (Calm.move rfl) ?_
          first | refine rS 23 ?_ | refine rU 23 ?_ | refine rG 23 (Calm.fieldAddr ty_field_110_1 rfl) ?_
          first | refine rS 23 ?_ | refine rU 23 ?_ | refine rG 23 (ld_ ty_plain_3 rfl) ?_
          first | refine rS 23 ?_ | refine rU 23 ?_ | refine rG 23 (Calm.fieldAddr ty_field_110_1 rfl) ?_
          first | refine rS 23 ?_ | refine rU 23 ?_ | refine rG 23 (ld_ ty_plain_3 rfl) ?_
          first | refine rS 23 ?_ | refine rU 23 ?_ | refine rG 23 (Calm.bin rfl rfl b_eql) ?_
          first | refine rS 17 ?_ | refine rU 17 ?_ | refine rG 17 ((by first | exact Calm.pickT rfl rfl | exact Calm.pickF rfl rfl)) ?_
          first | refine rS 11 ?_ | refine rU 11 ?_ | refine rG 11 ((by first | exact Calm.pickT rfl rfl | exact Calm.pickF rfl rfl)) ?_
          refine rC ((by first | exact Calm.pickT rfl rfl | exact Calm.pickF rfl rfl)) ?_
          refine rC (Calm.assign rfl) ?_
          refine arun_nil ?_
          refine athen_n ?_
          refine AWP.sub [(0, _), (1, _), (2, _), (3, _), (4, _)] ⟨rfl, rfl, rfl, rfl, rfl, trivial⟩ ?_
          refine AWP.ret ?_
          refine ⟨_, S, ⟨_, _, rfl, rfl, rfl⟩, less_, ?_⟩
          exact ⟨rfl, rfl⟩
        · rw [decide_eq_false (show ¬ like x y from fun h => h.2.2.elim q3 (fun h => q4 h.1))]
          refine ACall.enter (args := [.agg #[.string x.name, .int .i64 x.sector, .string x.data, .int .i64 x.pins, .bool x.dirty, .int .u64 x.tick, .bool x.leased], .agg #[.string y.name, .int .i64 y.sector, .string y.data, .int .i64 y.pins, .bool y.dirty, .int .u64 y.tick, .bool y.leased]]) (rs := [.tmp 4]) 32 [(0, .agg #[.string x.name, .int .i64 x.sector, .string x.data, .int .i64 x.pins, .bool x.dirty, .int .u64 x.tick, .bool x.leased]), (1, .agg #[.string y.name, .int .i64 y.sector, .string y.data, .int .i64 y.pins, .bool y.dirty, .int .u64 y.tick, .bool y.leased])] Try.func107 rfl rfl (Nat.le_of_ble_eq_true rfl) rfl ⟨rfl, rfl, trivial⟩ ?_
          refine AWP.seq ?_
          refine AWP.region ?_
          refine ARun.boxA (cs := [_, _, _, _, _, _, _]) (lit_lt rfl) rfl ?_
          intro b2 f2
          have g2 := f2
          repeat ((with_reducible replace g2 := fresh_set g2); obtain ⟨g2, _⟩ := g2)
          (try simp only [List.length_cons, List.length_nil, Nat.zero_add, Nat.reduceAdd])
          refine ARun.boxA (cs := [_, _, _, _, _, _, _]) (lit_lt rfl) rfl ?_
          intro b3 f3
          have g3 := f3
          repeat ((with_reducible replace g3 := fresh_set g3); obtain ⟨g3, _⟩ := g3)
          (try simp only [List.length_cons, List.length_nil, Nat.zero_add, Nat.reduceAdd])
          refine rC (Calm.assign rfl) ?_
          refine arun_nil ?_
          refine athen_n ?_
          refine AWP.seq ?_
          refine AWP.region ?_
          refine rC (ldA_ (cs := [_, _, _, _, _, _, _]) ty_agg_110 ty_size_110 rfl) ?_
          refine ARun.call (lit_lt rfl) go_78 rfl (c1 _) ?_
          rintro _ S1 ⟨rfl, h1⟩
          rw [h1]; clear h1 S1
          refine rC (Calm.move rfl) ?_
          first | refine rS 7 ?_ | refine rU 7 ?_ | refine rG 7 (ldA_ (cs := [_, _, _, _, _, _, _]) ty_agg_110 ty_size_110 rfl) ?_
          refine ARun.callG 2 true 7 rfl (lit_lt rfl) rfl (lit_lt rfl) go_78 rfl (c2 _) ?_
          rintro _ S1 ⟨rfl, h1⟩
          rw [h1]; clear h1 S1
          refine rC ((by first | exact Calm.pickT rfl rfl | exact Calm.pickF rfl rfl)) ?_
          refine rC (Calm.move rfl) ?_
          first | refine rS 11 ?_ | refine rU 11 ?_ | refine rG 11 (Calm.fieldAddr ty_field_110_5 rfl) ?_
          first | refine rS 11 ?_ | refine rU 11 ?_ | refine rG 11 (ld_ ty_plain_58 rfl) ?_
          first | refine rS 11 ?_ | refine rU 11 ?_ | refine rG 11 (Calm.fieldAddr ty_field_110_5 rfl) ?_
          first | refine rS 11 ?_ | refine rU 11 ?_ | refine rG 11 (ld_ ty_plain_58 rfl) ?_
          first | refine rS 11 ?_ | refine rU 11 ?_ | refine rG 11 (Calm.bin rfl rfl (bin_bool (bin_eql _ _) (decide_eq_false q3))) ?_
          first | refine rS 11 ?_ | refine rU 11 ?_ | refine rG 11 (Calm.move rfl) ?_
          first | refine rS 17 ?_ | refine rU 17 ?_ | refine rG 17 (Calm.fieldAddr ty_field_110_0 rfl) ?_
          first | refine rS 17 ?_ | refine rU 17 ?_ | refine rG 17 (ld_ ty_plain_9 rfl) ?_
          first | refine rS 17 ?_ | refine rU 17 ?_ | refine rG 17 (Calm.fieldAddr ty_field_110_0 rfl) ?_
          first | refine rS 17 ?_ | refine rU 17 ?_ | refine rG 17 (ld_ ty_plain_9 rfl) ?_
          first | refine rS 17 ?_ | refine rU 17 ?_ | refine rG 17 (Calm.bin rfl rfl (bin_bool (bin_str_eql _ _) (decide_eq_false q4))) ?_
          first | refine rS 17 ?_ | refine rU 17 ?_ | refine rG 17 (Calm.move rfl) ?_
          first | refine rS 23 ?_ | refine rU 23 ?_ | refine rG 23 (Calm.fieldAddr ty_field_110_1 rfl) ?_
          first | refine rS 23 ?_ | refine rU 23 ?_ | refine rG 23 (ld_ ty_plain_3 rfl) ?_
          first | refine rS 23 ?_ | refine rU 23 ?_ | refine rG 23 (Calm.fieldAddr ty_field_110_1 rfl) ?_
          first | refine rS 23 ?_ | refine rU 23 ?_ | refine rG 23 (ld_ ty_plain_3 rfl) ?_
          first | refine rS 23 ?_ | refine rU 23 ?_ | refine rG 23 (Calm.bin rfl rfl b_eql) ?_
          first | refine rS 17 ?_ | refine rU 17 ?_ | refine rG 17 ((by first | exact Calm.pickT rfl rfl | exact Calm.pickF rfl rfl)) ?_
          first | refine rS 11 ?_ | refine rU 11 ?_ | refine rG 11 ((by first | exact Calm.pickT rfl rfl | exact Calm.pickF rfl rfl)) ?_
          refine rC ((by first | exact Calm.pickT rfl rfl | exact Calm.pickF rfl rfl)) ?_
          refine rC (Calm.assign rfl) ?_
          refine arun_nil ?_
          refine athen_n ?_
          refine AWP.sub [(0, _), (1, _), (2, _), (3, _), (4, _)] ⟨rfl, rfl, rfl, rfl, rfl, trivial⟩ ?_
          refine AWP.ret ?_
          refine ⟨_, S, ⟨_, _, rfl, rfl, rfl⟩, less_, ?_⟩
          exact ⟨rfl, rfl⟩
    · rw [decide_eq_false q2] at c2
      rw [decide_eq_false (show ¬ like x y from fun h => q2 h.2.1)]
      refine ACall.enter (args := [.agg #[.string x.name, .int .i64 x.sector, .string x.data, .int .i64 x.pins, .bool x.dirty, .int .u64 x.tick, .bool x.leased], .agg #[.string y.name, .int .i64 y.sector, .string y.data, .int .i64 y.pins, .bool y.dirty, .int .u64 y.tick, .bool y.leased]]) (rs := [.tmp 4]) 32 [(0, .agg #[.string x.name, .int .i64 x.sector, .string x.data, .int .i64 x.pins, .bool x.dirty, .int .u64 x.tick, .bool x.leased]), (1, .agg #[.string y.name, .int .i64 y.sector, .string y.data, .int .i64 y.pins, .bool y.dirty, .int .u64 y.tick, .bool y.leased])] Try.func107 rfl rfl (Nat.le_of_ble_eq_true rfl) rfl ⟨rfl, rfl, trivial⟩ ?_
      refine AWP.seq ?_
      refine AWP.region ?_
      refine ARun.boxA (cs := [_, _, _, _, _, _, _]) (lit_lt rfl) rfl ?_
      intro b2 f2
      have g2 := f2
      repeat ((with_reducible replace g2 := fresh_set g2); obtain ⟨g2, _⟩ := g2)
      (try simp only [List.length_cons, List.length_nil, Nat.zero_add, Nat.reduceAdd])
      refine ARun.boxA (cs := [_, _, _, _, _, _, _]) (lit_lt rfl) rfl ?_
      intro b3 f3
      have g3 := f3
      repeat ((with_reducible replace g3 := fresh_set g3); obtain ⟨g3, _⟩ := g3)
      (try simp only [List.length_cons, List.length_nil, Nat.zero_add, Nat.reduceAdd])
      refine rC (Calm.assign rfl) ?_
      refine arun_nil ?_
      refine athen_n ?_
      refine AWP.seq ?_
      refine AWP.region ?_
      refine rC (ldA_ (cs := [_, _, _, _, _, _, _]) ty_agg_110 ty_size_110 rfl) ?_
      refine ARun.call (lit_lt rfl) go_78 rfl (c1 _) ?_
      rintro _ S1 ⟨rfl, h1⟩
      rw [h1]; clear h1 S1
      refine rC (Calm.move rfl) ?_
      first | refine rS 7 ?_ | refine rU 7 ?_ | refine rG 7 (ldA_ (cs := [_, _, _, _, _, _, _]) ty_agg_110 ty_size_110 rfl) ?_
      refine ARun.callG 2 true 7 rfl (lit_lt rfl) rfl (lit_lt rfl) go_78 rfl (c2 _) ?_
      rintro _ S1 ⟨rfl, h1⟩
      rw [h1]; clear h1 S1
      refine rC ((by first | exact Calm.pickT rfl rfl | exact Calm.pickF rfl rfl)) ?_
      refine rC (Calm.move rfl) ?_
      first | refine rS 11 ?_ | refine rU 11 ?_ | refine rG 11 (Calm.fieldAddr ty_field_110_5 rfl) ?_
      first | refine rS 11 ?_ | refine rU 11 ?_ | refine rG 11 (ld_ ty_plain_58 rfl) ?_
      first | refine rS 11 ?_ | refine rU 11 ?_ | refine rG 11 (Calm.fieldAddr ty_field_110_5 rfl) ?_
      first | refine rS 11 ?_ | refine rU 11 ?_ | refine rG 11 (ld_ ty_plain_58 rfl) ?_
      first | refine rS 11 ?_ | refine rU 11 ?_ | refine rG 11 (Calm.bin rfl rfl b_eql) ?_
      first | refine rS 11 ?_ | refine rU 11 ?_ | refine rG 11 (Calm.move rfl) ?_
      first | refine rS 17 ?_ | refine rU 17 ?_ | refine rG 17 (Calm.fieldAddr ty_field_110_0 rfl) ?_
      first | refine rS 17 ?_ | refine rU 17 ?_ | refine rG 17 (ld_ ty_plain_9 rfl) ?_
      first | refine rS 17 ?_ | refine rU 17 ?_ | refine rG 17 (Calm.fieldAddr ty_field_110_0 rfl) ?_
      first | refine rS 17 ?_ | refine rU 17 ?_ | refine rG 17 (ld_ ty_plain_9 rfl) ?_
      first | refine rS 17 ?_ | refine rU 17 ?_ | refine rG 17 (Calm.bin rfl rfl (bin_str_eql _ _)) ?_
      first | refine rS 17 ?_ | refine rU 17 ?_ | refine rG 17 (Calm.move rfl) ?_
      first | refine rS 23 ?_ | refine rU 23 ?_ | refine rG 23 (Calm.fieldAddr ty_field_110_1 rfl) ?_
      first | refine rS 23 ?_ | refine rU 23 ?_ | refine rG 23 (ld_ ty_plain_3 rfl) ?_
      first | refine rS 23 ?_ | refine rU 23 ?_ | refine rG 23 (Calm.fieldAddr ty_field_110_1 rfl) ?_
      first | refine rS 23 ?_ | refine rU 23 ?_ | refine rG 23 (ld_ ty_plain_3 rfl) ?_
      first | refine rS 23 ?_ | refine rU 23 ?_ | refine rG 23 (Calm.bin rfl rfl b_eql) ?_
      first | refine rS 17 ?_ | refine rU 17 ?_ | refine rG 17 ((by first | exact Calm.pickT rfl rfl | exact Calm.pickF rfl rfl)) ?_
      first | refine rS 11 ?_ | refine rU 11 ?_ | refine rG 11 ((by first | exact Calm.pickT rfl rfl | exact Calm.pickF rfl rfl)) ?_
      refine rC ((by first | exact Calm.pickT rfl rfl | exact Calm.pickF rfl rfl)) ?_
      refine rC (Calm.assign rfl) ?_
      refine arun_nil ?_
      refine athen_n ?_
      refine AWP.sub [(0, _), (1, _), (2, _), (3, _), (4, _)] ⟨rfl, rfl, rfl, rfl, rfl, trivial⟩ ?_
      refine AWP.ret ?_
      refine ⟨_, S, ⟨_, _, rfl, rfl, rfl⟩, less_, ?_⟩
      exact ⟨rfl, rfl⟩
  · rw [decide_eq_false q1] at c1
    rw [decide_eq_false (show ¬ like x y from fun h => q1 h.1)]
    refine ACall.enter (args := [.agg #[.string x.name, .int .i64 x.sector, .string x.data, .int .i64 x.pins, .bool x.dirty, .int .u64 x.tick, .bool x.leased], .agg #[.string y.name, .int .i64 y.sector, .string y.data, .int .i64 y.pins, .bool y.dirty, .int .u64 y.tick, .bool y.leased]]) (rs := [.tmp 4]) 32 [(0, .agg #[.string x.name, .int .i64 x.sector, .string x.data, .int .i64 x.pins, .bool x.dirty, .int .u64 x.tick, .bool x.leased]), (1, .agg #[.string y.name, .int .i64 y.sector, .string y.data, .int .i64 y.pins, .bool y.dirty, .int .u64 y.tick, .bool y.leased])] Try.func107 rfl rfl (Nat.le_of_ble_eq_true rfl) rfl ⟨rfl, rfl, trivial⟩ ?_
    refine AWP.seq ?_
    refine AWP.region ?_
    refine ARun.boxA (cs := [_, _, _, _, _, _, _]) (lit_lt rfl) rfl ?_
    intro b2 f2
    have g2 := f2
    repeat ((with_reducible replace g2 := fresh_set g2); obtain ⟨g2, _⟩ := g2)
    (try simp only [List.length_cons, List.length_nil, Nat.zero_add, Nat.reduceAdd])
    refine ARun.boxA (cs := [_, _, _, _, _, _, _]) (lit_lt rfl) rfl ?_
    intro b3 f3
    have g3 := f3
    repeat ((with_reducible replace g3 := fresh_set g3); obtain ⟨g3, _⟩ := g3)
    (try simp only [List.length_cons, List.length_nil, Nat.zero_add, Nat.reduceAdd])
    refine rC (Calm.assign rfl) ?_
    refine arun_nil ?_
    refine athen_n ?_
    refine AWP.seq ?_
    refine AWP.region ?_
    refine rC (ldA_ (cs := [_, _, _, _, _, _, _]) ty_agg_110 ty_size_110 rfl) ?_
    refine ARun.call (lit_lt rfl) go_78 rfl (c1 _) ?_
    rintro _ S1 ⟨rfl, h1⟩
    rw [h1]; clear h1 S1
    refine rC (Calm.move rfl) ?_
    first | refine rS 7 ?_ | refine rU 7 ?_ | refine rG 7 (ldA_ (cs := [_, _, _, _, _, _, _]) ty_agg_110 ty_size_110 rfl) ?_
    first | refine rS 7 ?_ | refine rU 7 ?_
    refine rC ((by first | exact Calm.pickT rfl rfl | exact Calm.pickF rfl rfl)) ?_
    refine rC (Calm.move rfl) ?_
    first | refine rS 11 ?_ | refine rU 11 ?_ | refine rG 11 (Calm.fieldAddr ty_field_110_5 rfl) ?_
    first | refine rS 11 ?_ | refine rU 11 ?_ | refine rG 11 (ld_ ty_plain_58 rfl) ?_
    first | refine rS 11 ?_ | refine rU 11 ?_ | refine rG 11 (Calm.fieldAddr ty_field_110_5 rfl) ?_
    first | refine rS 11 ?_ | refine rU 11 ?_ | refine rG 11 (ld_ ty_plain_58 rfl) ?_
    first | refine rS 11 ?_ | refine rU 11 ?_ | refine rG 11 (Calm.bin rfl rfl b_eql) ?_
    first | refine rS 11 ?_ | refine rU 11 ?_ | refine rG 11 (Calm.move rfl) ?_
    first | refine rS 17 ?_ | refine rU 17 ?_ | refine rG 17 (Calm.fieldAddr ty_field_110_0 rfl) ?_
    first | refine rS 17 ?_ | refine rU 17 ?_ | refine rG 17 (ld_ ty_plain_9 rfl) ?_
    first | refine rS 17 ?_ | refine rU 17 ?_ | refine rG 17 (Calm.fieldAddr ty_field_110_0 rfl) ?_
    first | refine rS 17 ?_ | refine rU 17 ?_ | refine rG 17 (ld_ ty_plain_9 rfl) ?_
    first | refine rS 17 ?_ | refine rU 17 ?_ | refine rG 17 (Calm.bin rfl rfl (bin_str_eql _ _)) ?_
    first | refine rS 17 ?_ | refine rU 17 ?_ | refine rG 17 (Calm.move rfl) ?_
    first | refine rS 23 ?_ | refine rU 23 ?_ | refine rG 23 (Calm.fieldAddr ty_field_110_1 rfl) ?_
    first | refine rS 23 ?_ | refine rU 23 ?_ | refine rG 23 (ld_ ty_plain_3 rfl) ?_
    first | refine rS 23 ?_ | refine rU 23 ?_ | refine rG 23 (Calm.fieldAddr ty_field_110_1 rfl) ?_
    first | refine rS 23 ?_ | refine rU 23 ?_ | refine rG 23 (ld_ ty_plain_3 rfl) ?_
    first | refine rS 23 ?_ | refine rU 23 ?_ | refine rG 23 (Calm.bin rfl rfl b_eql) ?_
    first | refine rS 17 ?_ | refine rU 17 ?_ | refine rG 17 ((by first | exact Calm.pickT rfl rfl | exact Calm.pickF rfl rfl)) ?_
    first | refine rS 11 ?_ | refine rU 11 ?_ | refine rG 11 ((by first | exact Calm.pickT rfl rfl | exact Calm.pickF rfl rfl)) ?_
    refine rC ((by first | exact Calm.pickT rfl rfl | exact Calm.pickF rfl rfl)) ?_
    refine rC (Calm.assign rfl) ?_
    refine arun_nil ?_
    refine athen_n ?_
    refine AWP.sub [(0, _), (1, _), (2, _), (3, _), (4, _)] ⟨rfl, rfl, rfl, rfl, rfl, trivial⟩ ?_
    refine AWP.ret ?_
    refine ⟨_, S, ⟨_, _, rfl, rfl, rfl⟩, less_, ?_⟩
    exact ⟨rfl, rfl⟩
end Go.Proofs.Ytkeiphkccnfhoaa
namespace Go.Proofs.Ytkeiphkccnfhoaa
open Go.RowKit
open Mv Disk
set_option linter.unusedVariables false
set_option linter.unusedSimpArgs false
set_option maxRecDepth 20000
def Sound (d : D) (x : Fr) (tick : Int) : Prop :=
  (¬ x.holds ∧ (x = F0 ∨ x = F1)) ∨ (x.holds ∧ (readD d x.name x.sector).2 = 0 ∧ x.leased = false ∧ x.data.size = 64 ∧ 0 ≤ x.pins ∧ x.pins ≤ 256 ∧ 1 ≤ x.tick ∧ x.tick ≤ tick ∧ (x.dirty = true ∨ x.data = (readD d x.name x.sector).1))
instance (d : D) (x : Fr) (tick : Int) : Decidable (Sound d x tick) := by unfold Sound; infer_instance
theorem sound_no {d : D} {x : Fr} {tick : Int} (hh : x.holds) (h : ¬ ((readD d x.name x.sector).2 = 0 ∧ x.leased = false ∧ x.data.size = 64 ∧ 0 ≤ x.pins ∧ x.pins ≤ 256 ∧ 1 ≤ x.tick ∧ x.tick ≤ tick ∧ (x.dirty = true ∨ x.data = (readD d x.name x.sector).1))) : decide (Sound d x tick) = false :=
  decide_eq_false fun q => q.elim (fun q => q.1 hh) (fun q => h q.2)
set_option maxHeartbeats 4000000 in
theorem pl_sound (p : Nat) (d : D) (x : Fr) (tick : Int) (M : Mem) (h : RdV M p d) (hR : Right d) :
    ACall Try.prog 104 #[.pointer (some ⟨p, 0, none⟩), frV x, .int .u64 tick] M fun r S' => r = .bool (decide (Sound d x tick)) ∧ S' = M := by
  have cf := fun S => pl_free x S
  have ch := fun S => pl_holds x S
  have cr := fun S h => dev_Read p d x.name x.sector S h hR
  unfold frV at *
  by_cases q1 : x.holds
  · rw [decide_eq_true q1] at ch
    have hno := fun h => sound_no (d := d) (x := x) (tick := tick) q1 h
    have hyes : decide (Sound d x tick) = decide ((readD d x.name x.sector).2 = 0 ∧ x.leased = false ∧ x.data.size = 64 ∧ 0 ≤ x.pins ∧ x.pins ≤ 256 ∧ 1 ≤ x.tick ∧ x.tick ≤ tick ∧ (x.dirty = true ∨ x.data = (readD d x.name x.sector).1)) := by unfold Sound; simp [q1]
    generalize readD d x.name x.sector = u at *
    by_cases q2 : u.2 = 0
    · skip
      by_cases q3 : x.leased = true
      · rw [hno (fun h => by rw [q3] at h; exact absurd h.2.1 (by simp))]
        refine ACall.enter (args := [.pointer (some ⟨p, 0, none⟩), .agg #[.string x.name, .int .i64 x.sector, .string x.data, .int .i64 x.pins, .bool x.dirty, .int .u64 x.tick, .bool x.leased], .int .u64 tick]) (rs := [.tmp 6]) 69 [(0, .pointer (some ⟨p, 0, none⟩)), (1, .agg #[.string x.name, .int .i64 x.sector, .string x.data, .int .i64 x.pins, .bool x.dirty, .int .u64 x.tick, .bool x.leased]), (2, .int .u64 tick)] Try.func104 rfl rfl (Nat.le_of_ble_eq_true rfl) rfl ⟨rfl, rfl, rfl, trivial⟩ ?_
        refine AWP.seq ?_
        refine AWP.region ?_
        refine ARun.boxA (cs := [_, _, _, _, _, _, _]) (lit_lt rfl) rfl ?_
        intro b4 f4
        have g4 := f4
        repeat ((with_reducible replace g4 := fresh_set g4); obtain ⟨g4, _⟩ := g4)
        (try simp only [List.length_cons, List.length_nil, Nat.zero_add, Nat.reduceAdd])
        refine rC (Calm.assign rfl) ?_
        refine arun_nil ?_
        refine athen_n ?_
        refine AWP.seq ?_
        refine AWP.seq ?_
        refine AWP.region ?_
        refine rC (ldA_ (cs := [_, _, _, _, _, _, _]) ty_agg_110 ty_size_110 rfl) ?_
        refine ARun.call (lit_lt rfl) go_78 rfl (ch _) ?_
        rintro _ S1 ⟨rfl, h1⟩
        rw [h1]; clear h1 S1
        refine rC (Calm.un rfl (una_not _)) ?_
        refine arun_nil ?_
        refine athen_n ?_
        refine AWP.sub [(0, _), (1, _), (2, _), (4, _), (6, _), (11, _)] ⟨rfl, rfl, rfl, rfl, rfl, rfl, trivial⟩ ?_
        refine AWP.condF rfl (by first | rfl | (simp; done) | (simp; omega)) ?_
        refine AWP.skip ?_
        refine athen_n ?_
        refine AWP.seq ?_
        refine AWP.region ?_
        refine rC (Calm.move rfl) ?_
        refine rC (Calm.fieldAddr ty_field_110_0 rfl) ?_
        refine rC (ld_ ty_plain_9 rfl) ?_
        refine rC (Calm.fieldAddr ty_field_110_1 rfl) ?_
        refine rC (ld_ ty_plain_3 rfl) ?_
        refine ARun.call (lit_lt rfl) go_62 rfl (cr _ (h.less less_)) ?_
        rintro _ S1 ⟨rfl, h1⟩
        rw [h1]; clear h1 S1
        refine rC (Calm.move rfl) ?_
        refine rC (Calm.extract rfl rfl) ?_
        refine rC (Calm.extract rfl rfl) ?_
        refine rC (Calm.assign rfl) ?_
        refine rC (Calm.assign rfl) ?_
        refine arun_nil ?_
        refine athen_n ?_
        refine AWP.sub [(0, _), (1, _), (2, _), (4, _), (6, _), (11, _), (7, _), (8, _)] ⟨rfl, rfl, rfl, rfl, rfl, rfl, rfl, rfl, trivial⟩ ?_
        refine AWP.seq ?_
        refine AWP.seq ?_
        refine AWP.region ?_
        refine rC (Calm.move rfl) ?_
        refine rC (Calm.bin rfl rfl (bin_bool (bin_neq _ _) (bnot_dec_false q2))) ?_
        refine rC (Calm.move rfl) ?_
        first | refine rS 30 ?_ | refine rU 30 ?_ | refine rG 30 (Calm.fieldAddr ty_field_110_6 rfl) ?_
        first | refine rS 30 ?_ | refine rU 30 ?_ | refine rG 30 (Calm.as (congrArg Value.bool q3) (ld_ ty_plain_4 rfl)) ?_
        refine rC ((by first | exact Calm.pickT rfl rfl | exact Calm.pickF rfl rfl)) ?_
        refine rC (Calm.move rfl) ?_
        first | refine rS 34 ?_ | refine rU 34 ?_ | refine rG 34 (Calm.fieldAddr ty_field_110_2 rfl) ?_
        first | refine rS 34 ?_ | refine rU 34 ?_ | refine rG 34 (ld_ ty_plain_9 rfl) ?_
        first | refine rS 34 ?_ | refine rU 34 ?_ | refine rG 34 (Calm.lenStr (strT_spec ty_str_9) rfl) ?_
        first | refine rS 34 ?_ | refine rU 34 ?_ | refine rG 34 (Calm.bin rfl rfl b_neq) ?_
        refine rC ((by first | exact Calm.pickT rfl rfl | exact Calm.pickF rfl rfl)) ?_
        refine rC (Calm.move rfl) ?_
        first | refine rS 40 ?_ | refine rU 40 ?_ | refine rG 40 (Calm.fieldAddr ty_field_110_3 rfl) ?_
        first | refine rS 40 ?_ | refine rU 40 ?_ | refine rG 40 (ld_ ty_plain_3 rfl) ?_
        first | refine rS 40 ?_ | refine rU 40 ?_ | refine rG 40 (Calm.bin rfl rfl b_lss) ?_
        refine rC ((by first | exact Calm.pickT rfl rfl | exact Calm.pickF rfl rfl)) ?_
        refine rC (Calm.move rfl) ?_
        first | refine rS 45 ?_ | refine rU 45 ?_ | refine rG 45 (Calm.fieldAddr ty_field_110_3 rfl) ?_
        first | refine rS 45 ?_ | refine rU 45 ?_ | refine rG 45 (ld_ ty_plain_3 rfl) ?_
        first | refine rS 45 ?_ | refine rU 45 ?_ | refine rG 45 (Calm.bin rfl rfl b_gtr) ?_
        refine rC ((by first | exact Calm.pickT rfl rfl | exact Calm.pickF rfl rfl)) ?_
        refine arun_nil ?_
        refine athen_n ?_
        refine AWP.sub [(0, _), (1, _), (2, _), (4, _), (6, _), (11, _), (7, _), (8, _), (49, _)] ⟨rfl, rfl, rfl, rfl, rfl, rfl, rfl, rfl, rfl, trivial⟩ ?_
        refine AWP.condT rfl (by first | rfl | (simp; done) | (simp; omega)) ?_
        refine AWP.seq ?_
        refine AWP.region ?_
        refine rC (Calm.assign rfl) ?_
        refine arun_nil ?_
        refine athen_n ?_
        refine AWP.ret ?_
        refine athen_ret ?_
        refine ⟨_, M, ⟨_, _, rfl, rfl, rfl⟩, less_, ?_⟩
        exact ⟨rfl, rfl⟩
      · have q3 : x.leased = false := by simpa using q3
        by_cases q4 : x.data.size = 64
        · skip
          by_cases q5 : x.pins < 0
          · rw [hno (fun h => absurd h.2.2.2.1 (by omega))]
            refine ACall.enter (args := [.pointer (some ⟨p, 0, none⟩), .agg #[.string x.name, .int .i64 x.sector, .string x.data, .int .i64 x.pins, .bool x.dirty, .int .u64 x.tick, .bool x.leased], .int .u64 tick]) (rs := [.tmp 6]) 69 [(0, .pointer (some ⟨p, 0, none⟩)), (1, .agg #[.string x.name, .int .i64 x.sector, .string x.data, .int .i64 x.pins, .bool x.dirty, .int .u64 x.tick, .bool x.leased]), (2, .int .u64 tick)] Try.func104 rfl rfl (Nat.le_of_ble_eq_true rfl) rfl ⟨rfl, rfl, rfl, trivial⟩ ?_
            refine AWP.seq ?_
            refine AWP.region ?_
            refine ARun.boxA (cs := [_, _, _, _, _, _, _]) (lit_lt rfl) rfl ?_
            intro b4 f4
            have g4 := f4
            repeat ((with_reducible replace g4 := fresh_set g4); obtain ⟨g4, _⟩ := g4)
            (try simp only [List.length_cons, List.length_nil, Nat.zero_add, Nat.reduceAdd])
            refine rC (Calm.assign rfl) ?_
            refine arun_nil ?_
            refine athen_n ?_
            refine AWP.seq ?_
            refine AWP.seq ?_
            refine AWP.region ?_
            refine rC (ldA_ (cs := [_, _, _, _, _, _, _]) ty_agg_110 ty_size_110 rfl) ?_
            refine ARun.call (lit_lt rfl) go_78 rfl (ch _) ?_
            rintro _ S1 ⟨rfl, h1⟩
            rw [h1]; clear h1 S1
            refine rC (Calm.un rfl (una_not _)) ?_
            refine arun_nil ?_
            refine athen_n ?_
            refine AWP.sub [(0, _), (1, _), (2, _), (4, _), (6, _), (11, _)] ⟨rfl, rfl, rfl, rfl, rfl, rfl, trivial⟩ ?_
            refine AWP.condF rfl (by first | rfl | (simp; done) | (simp; omega)) ?_
            refine AWP.skip ?_
            refine athen_n ?_
            refine AWP.seq ?_
            refine AWP.region ?_
            refine rC (Calm.move rfl) ?_
            refine rC (Calm.fieldAddr ty_field_110_0 rfl) ?_
            refine rC (ld_ ty_plain_9 rfl) ?_
            refine rC (Calm.fieldAddr ty_field_110_1 rfl) ?_
            refine rC (ld_ ty_plain_3 rfl) ?_
            refine ARun.call (lit_lt rfl) go_62 rfl (cr _ (h.less less_)) ?_
            rintro _ S1 ⟨rfl, h1⟩
            rw [h1]; clear h1 S1
            refine rC (Calm.move rfl) ?_
            refine rC (Calm.extract rfl rfl) ?_
            refine rC (Calm.extract rfl rfl) ?_
            refine rC (Calm.assign rfl) ?_
            refine rC (Calm.assign rfl) ?_
            refine arun_nil ?_
            refine athen_n ?_
            refine AWP.sub [(0, _), (1, _), (2, _), (4, _), (6, _), (11, _), (7, _), (8, _)] ⟨rfl, rfl, rfl, rfl, rfl, rfl, rfl, rfl, trivial⟩ ?_
            refine AWP.seq ?_
            refine AWP.seq ?_
            refine AWP.region ?_
            refine rC (Calm.move rfl) ?_
            refine rC (Calm.bin rfl rfl (bin_bool (bin_neq _ _) (bnot_dec_false q2))) ?_
            refine rC (Calm.move rfl) ?_
            first | refine rS 30 ?_ | refine rU 30 ?_ | refine rG 30 (Calm.fieldAddr ty_field_110_6 rfl) ?_
            first | refine rS 30 ?_ | refine rU 30 ?_ | refine rG 30 (Calm.as (congrArg Value.bool q3) (ld_ ty_plain_4 rfl)) ?_
            refine rC ((by first | exact Calm.pickT rfl rfl | exact Calm.pickF rfl rfl)) ?_
            refine rC (Calm.move rfl) ?_
            first | refine rS 34 ?_ | refine rU 34 ?_ | refine rG 34 (Calm.fieldAddr ty_field_110_2 rfl) ?_
            first | refine rS 34 ?_ | refine rU 34 ?_ | refine rG 34 (ld_ ty_plain_9 rfl) ?_
            first | refine rS 34 ?_ | refine rU 34 ?_ | refine rG 34 (Calm.lenStr (strT_spec ty_str_9) rfl) ?_
            first | refine rS 34 ?_ | refine rU 34 ?_ | refine rG 34 (Calm.bin rfl rfl (bin_bool (bin_neq _ _) (bnot_dec_false (by omega)))) ?_
            refine rC ((by first | exact Calm.pickT rfl rfl | exact Calm.pickF rfl rfl)) ?_
            refine rC (Calm.move rfl) ?_
            first | refine rS 40 ?_ | refine rU 40 ?_ | refine rG 40 (Calm.fieldAddr ty_field_110_3 rfl) ?_
            first | refine rS 40 ?_ | refine rU 40 ?_ | refine rG 40 (ld_ ty_plain_3 rfl) ?_
            first | refine rS 40 ?_ | refine rU 40 ?_ | refine rG 40 (Calm.bin rfl rfl b_lss) ?_
            refine rC ((by first | exact Calm.pickT rfl rfl | exact Calm.pickF rfl rfl)) ?_
            refine rC (Calm.move rfl) ?_
            first | refine rS 45 ?_ | refine rU 45 ?_ | refine rG 45 (Calm.fieldAddr ty_field_110_3 rfl) ?_
            first | refine rS 45 ?_ | refine rU 45 ?_ | refine rG 45 (ld_ ty_plain_3 rfl) ?_
            first | refine rS 45 ?_ | refine rU 45 ?_ | refine rG 45 (Calm.bin rfl rfl b_gtr) ?_
            refine rC ((by first | exact Calm.pickT rfl rfl | exact Calm.pickF rfl rfl)) ?_
            refine arun_nil ?_
            refine athen_n ?_
            refine AWP.sub [(0, _), (1, _), (2, _), (4, _), (6, _), (11, _), (7, _), (8, _), (49, _)] ⟨rfl, rfl, rfl, rfl, rfl, rfl, rfl, rfl, rfl, trivial⟩ ?_
            refine AWP.condT rfl (by first | rfl | (simp; done) | (simp; omega)) ?_
            refine AWP.seq ?_
            refine AWP.region ?_
            refine rC (Calm.assign rfl) ?_
            refine arun_nil ?_
            refine athen_n ?_
            refine AWP.ret ?_
            refine athen_ret ?_
            refine ⟨_, M, ⟨_, _, rfl, rfl, rfl⟩, less_, ?_⟩
            exact ⟨rfl, rfl⟩
          · by_cases q6 : 256 < x.pins
            · rw [hno (fun h => absurd h.2.2.2.2.1 (by omega))]
              refine ACall.enter (args := [.pointer (some ⟨p, 0, none⟩), .agg #[.string x.name, .int .i64 x.sector, .string x.data, .int .i64 x.pins, .bool x.dirty, .int .u64 x.tick, .bool x.leased], .int .u64 tick]) (rs := [.tmp 6]) 69 [(0, .pointer (some ⟨p, 0, none⟩)), (1, .agg #[.string x.name, .int .i64 x.sector, .string x.data, .int .i64 x.pins, .bool x.dirty, .int .u64 x.tick, .bool x.leased]), (2, .int .u64 tick)] Try.func104 rfl rfl (Nat.le_of_ble_eq_true rfl) rfl ⟨rfl, rfl, rfl, trivial⟩ ?_
              refine AWP.seq ?_
              refine AWP.region ?_
              refine ARun.boxA (cs := [_, _, _, _, _, _, _]) (lit_lt rfl) rfl ?_
              intro b4 f4
              have g4 := f4
              repeat ((with_reducible replace g4 := fresh_set g4); obtain ⟨g4, _⟩ := g4)
              (try simp only [List.length_cons, List.length_nil, Nat.zero_add, Nat.reduceAdd])
              refine rC (Calm.assign rfl) ?_
              refine arun_nil ?_
              refine athen_n ?_
              refine AWP.seq ?_
              refine AWP.seq ?_
              refine AWP.region ?_
              refine rC (ldA_ (cs := [_, _, _, _, _, _, _]) ty_agg_110 ty_size_110 rfl) ?_
              refine ARun.call (lit_lt rfl) go_78 rfl (ch _) ?_
              rintro _ S1 ⟨rfl, h1⟩
              rw [h1]; clear h1 S1
              refine rC (Calm.un rfl (una_not _)) ?_
              refine arun_nil ?_
              refine athen_n ?_
              refine AWP.sub [(0, _), (1, _), (2, _), (4, _), (6, _), (11, _)] ⟨rfl, rfl, rfl, rfl, rfl, rfl, trivial⟩ ?_
              refine AWP.condF rfl (by first | rfl | (simp; done) | (simp; omega)) ?_
              refine AWP.skip ?_
              refine athen_n ?_
              refine AWP.seq ?_
              refine AWP.region ?_
              refine rC (Calm.move rfl) ?_
              refine rC (Calm.fieldAddr ty_field_110_0 rfl) ?_
              refine rC (ld_ ty_plain_9 rfl) ?_
              refine rC (Calm.fieldAddr ty_field_110_1 rfl) ?_
              refine rC (ld_ ty_plain_3 rfl) ?_
              refine ARun.call (lit_lt rfl) go_62 rfl (cr _ (h.less less_)) ?_
              rintro _ S1 ⟨rfl, h1⟩
              rw [h1]; clear h1 S1
              refine rC (Calm.move rfl) ?_
              refine rC (Calm.extract rfl rfl) ?_
              refine rC (Calm.extract rfl rfl) ?_
              refine rC (Calm.assign rfl) ?_
              refine rC (Calm.assign rfl) ?_
              refine arun_nil ?_
              refine athen_n ?_
              refine AWP.sub [(0, _), (1, _), (2, _), (4, _), (6, _), (11, _), (7, _), (8, _)] ⟨rfl, rfl, rfl, rfl, rfl, rfl, rfl, rfl, trivial⟩ ?_
              refine AWP.seq ?_
              refine AWP.seq ?_
              refine AWP.region ?_
              refine rC (Calm.move rfl) ?_
              refine rC (Calm.bin rfl rfl (bin_bool (bin_neq _ _) (bnot_dec_false q2))) ?_
              refine rC (Calm.move rfl) ?_
              first | refine rS 30 ?_ | refine rU 30 ?_ | refine rG 30 (Calm.fieldAddr ty_field_110_6 rfl) ?_
              first | refine rS 30 ?_ | refine rU 30 ?_ | refine rG 30 (Calm.as (congrArg Value.bool q3) (ld_ ty_plain_4 rfl)) ?_
              refine rC ((by first | exact Calm.pickT rfl rfl | exact Calm.pickF rfl rfl)) ?_
              refine rC (Calm.move rfl) ?_
              first | refine rS 34 ?_ | refine rU 34 ?_ | refine rG 34 (Calm.fieldAddr ty_field_110_2 rfl) ?_
              first | refine rS 34 ?_ | refine rU 34 ?_ | refine rG 34 (ld_ ty_plain_9 rfl) ?_
              first | refine rS 34 ?_ | refine rU 34 ?_ | refine rG 34 (Calm.lenStr (strT_spec ty_str_9) rfl) ?_
              first | refine rS 34 ?_ | refine rU 34 ?_ | refine rG 34 (Calm.bin rfl rfl (bin_bool (bin_neq _ _) (bnot_dec_false (by omega)))) ?_
              refine rC ((by first | exact Calm.pickT rfl rfl | exact Calm.pickF rfl rfl)) ?_
              refine rC (Calm.move rfl) ?_
              first | refine rS 40 ?_ | refine rU 40 ?_ | refine rG 40 (Calm.fieldAddr ty_field_110_3 rfl) ?_
              first | refine rS 40 ?_ | refine rU 40 ?_ | refine rG 40 (ld_ ty_plain_3 rfl) ?_
              first | refine rS 40 ?_ | refine rU 40 ?_ | refine rG 40 (Calm.bin rfl rfl b_lss) ?_
              refine rC ((by first | exact Calm.pickT rfl rfl | exact Calm.pickF rfl rfl)) ?_
              refine rC (Calm.move rfl) ?_
              first | refine rS 45 ?_ | refine rU 45 ?_ | refine rG 45 (Calm.fieldAddr ty_field_110_3 rfl) ?_
              first | refine rS 45 ?_ | refine rU 45 ?_ | refine rG 45 (ld_ ty_plain_3 rfl) ?_
              first | refine rS 45 ?_ | refine rU 45 ?_ | refine rG 45 (Calm.bin rfl rfl b_gtr) ?_
              refine rC ((by first | exact Calm.pickT rfl rfl | exact Calm.pickF rfl rfl)) ?_
              refine arun_nil ?_
              refine athen_n ?_
              refine AWP.sub [(0, _), (1, _), (2, _), (4, _), (6, _), (11, _), (7, _), (8, _), (49, _)] ⟨rfl, rfl, rfl, rfl, rfl, rfl, rfl, rfl, rfl, trivial⟩ ?_
              refine AWP.condT rfl (by first | rfl | (simp; done) | (simp; omega)) ?_
              refine AWP.seq ?_
              refine AWP.region ?_
              refine rC (Calm.assign rfl) ?_
              refine arun_nil ?_
              refine athen_n ?_
              refine AWP.ret ?_
              refine athen_ret ?_
              refine ⟨_, M, ⟨_, _, rfl, rfl, rfl⟩, less_, ?_⟩
              exact ⟨rfl, rfl⟩
            · by_cases q7 : 1 ≤ x.tick
              · by_cases q8 : x.tick ≤ tick
                · by_cases q9 : x.dirty = true
                  · rw [hyes, decide_eq_true ⟨q2, q3, q4, by omega, by omega, q7, q8, .inl q9⟩]
                    refine ACall.enter (args := [.pointer (some ⟨p, 0, none⟩), .agg #[.string x.name, .int .i64 x.sector, .string x.data, .int .i64 x.pins, .bool x.dirty, .int .u64 x.tick, .bool x.leased], .int .u64 tick]) (rs := [.tmp 6]) 69 [(0, .pointer (some ⟨p, 0, none⟩)), (1, .agg #[.string x.name, .int .i64 x.sector, .string x.data, .int .i64 x.pins, .bool x.dirty, .int .u64 x.tick, .bool x.leased]), (2, .int .u64 tick)] Try.func104 rfl rfl (Nat.le_of_ble_eq_true rfl) rfl ⟨rfl, rfl, rfl, trivial⟩ ?_
                    refine AWP.seq ?_
                    refine AWP.region ?_
                    refine ARun.boxA (cs := [_, _, _, _, _, _, _]) (lit_lt rfl) rfl ?_
                    intro b4 f4
                    have g4 := f4
                    repeat ((with_reducible replace g4 := fresh_set g4); obtain ⟨g4, _⟩ := g4)
                    (try simp only [List.length_cons, List.length_nil, Nat.zero_add, Nat.reduceAdd])
                    refine rC (Calm.assign rfl) ?_
                    refine arun_nil ?_
                    refine athen_n ?_
                    refine AWP.seq ?_
                    refine AWP.seq ?_
                    refine AWP.region ?_
                    refine rC (ldA_ (cs := [_, _, _, _, _, _, _]) ty_agg_110 ty_size_110 rfl) ?_
                    refine ARun.call (lit_lt rfl) go_78 rfl (ch _) ?_
                    rintro _ S1 ⟨rfl, h1⟩
                    rw [h1]; clear h1 S1
                    refine rC (Calm.un rfl (una_not _)) ?_
                    refine arun_nil ?_
                    refine athen_n ?_
                    refine AWP.sub [(0, _), (1, _), (2, _), (4, _), (6, _), (11, _)] ⟨rfl, rfl, rfl, rfl, rfl, rfl, trivial⟩ ?_
                    refine AWP.condF rfl (by first | rfl | (simp; done) | (simp; omega)) ?_
                    refine AWP.skip ?_
                    refine athen_n ?_
                    refine AWP.seq ?_
                    refine AWP.region ?_
                    refine rC (Calm.move rfl) ?_
                    refine rC (Calm.fieldAddr ty_field_110_0 rfl) ?_
                    refine rC (ld_ ty_plain_9 rfl) ?_
                    refine rC (Calm.fieldAddr ty_field_110_1 rfl) ?_
                    refine rC (ld_ ty_plain_3 rfl) ?_
                    refine ARun.call (lit_lt rfl) go_62 rfl (cr _ (h.less less_)) ?_
                    rintro _ S1 ⟨rfl, h1⟩
                    rw [h1]; clear h1 S1
                    refine rC (Calm.move rfl) ?_
                    refine rC (Calm.extract rfl rfl) ?_
                    refine rC (Calm.extract rfl rfl) ?_
                    refine rC (Calm.assign rfl) ?_
                    refine rC (Calm.assign rfl) ?_
                    refine arun_nil ?_
                    refine athen_n ?_
                    refine AWP.sub [(0, _), (1, _), (2, _), (4, _), (6, _), (11, _), (7, _), (8, _)] ⟨rfl, rfl, rfl, rfl, rfl, rfl, rfl, rfl, trivial⟩ ?_
                    refine AWP.seq ?_
                    refine AWP.seq ?_
                    refine AWP.region ?_
                    refine rC (Calm.move rfl) ?_
                    refine rC (Calm.bin rfl rfl (bin_bool (bin_neq _ _) (bnot_dec_false q2))) ?_
                    refine rC (Calm.move rfl) ?_
                    first | refine rS 30 ?_ | refine rU 30 ?_ | refine rG 30 (Calm.fieldAddr ty_field_110_6 rfl) ?_
                    first | refine rS 30 ?_ | refine rU 30 ?_ | refine rG 30 (Calm.as (congrArg Value.bool q3) (ld_ ty_plain_4 rfl)) ?_
                    refine rC ((by first | exact Calm.pickT rfl rfl | exact Calm.pickF rfl rfl)) ?_
                    refine rC (Calm.move rfl) ?_
                    first | refine rS 34 ?_ | refine rU 34 ?_ | refine rG 34 (Calm.fieldAddr ty_field_110_2 rfl) ?_
                    first | refine rS 34 ?_ | refine rU 34 ?_ | refine rG 34 (ld_ ty_plain_9 rfl) ?_
                    first | refine rS 34 ?_ | refine rU 34 ?_ | refine rG 34 (Calm.lenStr (strT_spec ty_str_9) rfl) ?_
                    first | refine rS 34 ?_ | refine rU 34 ?_ | refine rG 34 (Calm.bin rfl rfl (bin_bool (bin_neq _ _) (bnot_dec_false (by omega)))) ?_
                    refine rC ((by first | exact Calm.pickT rfl rfl | exact Calm.pickF rfl rfl)) ?_
                    refine rC (Calm.move rfl) ?_
                    first | refine rS 40 ?_ | refine rU 40 ?_ | refine rG 40 (Calm.fieldAddr ty_field_110_3 rfl) ?_
                    first | refine rS 40 ?_ | refine rU 40 ?_ | refine rG 40 (ld_ ty_plain_3 rfl) ?_
                    first | refine rS 40 ?_ | refine rU 40 ?_ | refine rG 40 (Calm.bin rfl rfl b_lss) ?_
                    refine rC ((by first | exact Calm.pickT rfl rfl | exact Calm.pickF rfl rfl)) ?_
                    refine rC (Calm.move rfl) ?_
                    first | refine rS 45 ?_ | refine rU 45 ?_ | refine rG 45 (Calm.fieldAddr ty_field_110_3 rfl) ?_
                    first | refine rS 45 ?_ | refine rU 45 ?_ | refine rG 45 (ld_ ty_plain_3 rfl) ?_
                    first | refine rS 45 ?_ | refine rU 45 ?_ | refine rG 45 (Calm.bin rfl rfl b_gtr) ?_
                    refine rC ((by first | exact Calm.pickT rfl rfl | exact Calm.pickF rfl rfl)) ?_
                    refine arun_nil ?_
                    refine athen_n ?_
                    refine AWP.sub [(0, _), (1, _), (2, _), (4, _), (6, _), (11, _), (7, _), (8, _), (49, _)] ⟨rfl, rfl, rfl, rfl, rfl, rfl, rfl, rfl, rfl, trivial⟩ ?_
                    refine AWP.condF rfl (by first | rfl | (simp; done) | (simp; omega)) ?_
                    refine AWP.skip ?_
                    refine athen_n ?_
                    refine AWP.seq ?_
                    refine AWP.region ?_
                    refine rC (Calm.fieldAddr ty_field_110_5 rfl) ?_
                    refine rC (ld_ ty_plain_58 rfl) ?_
                    refine rC (Calm.bin rfl rfl b_geq) ?_
                    refine rC (Calm.move rfl) ?_
                    first | refine rS 53 ?_ | refine rU 53 ?_ | refine rG 53 (Calm.fieldAddr ty_field_110_5 rfl) ?_
                    first | refine rS 53 ?_ | refine rU 53 ?_ | refine rG 53 (ld_ ty_plain_58 rfl) ?_
                    first | refine rS 53 ?_ | refine rU 53 ?_ | refine rG 53 (Calm.move rfl) ?_
                    first | refine rS 53 ?_ | refine rU 53 ?_ | refine rG 53 (Calm.bin rfl rfl b_leq) ?_
                    refine rC ((by first | exact Calm.pickT rfl rfl | exact Calm.pickF rfl rfl)) ?_
                    refine rC (Calm.move rfl) ?_
                    first | refine rS 59 ?_ | refine rU 59 ?_ | refine rG 59 (Calm.fieldAddr ty_field_110_4 rfl) ?_
                    first | refine rS 59 ?_ | refine rU 59 ?_ | refine rG 59 (Calm.as (congrArg Value.bool q9) (ld_ ty_plain_4 rfl)) ?_
                    first | refine rS 59 ?_ | refine rU 59 ?_ | refine rG 59 (Calm.move rfl) ?_
                    first | refine rS 62 ?_ | refine rU 62 ?_ | refine rG 62 (Calm.fieldAddr ty_field_110_2 rfl) ?_
                    first | refine rS 62 ?_ | refine rU 62 ?_ | refine rG 62 (ld_ ty_plain_9 rfl) ?_
                    first | refine rS 62 ?_ | refine rU 62 ?_ | refine rG 62 (Calm.move rfl) ?_
                    first | refine rS 62 ?_ | refine rU 62 ?_ | refine rG 62 (Calm.bin rfl rfl (bin_str_eql _ _)) ?_
                    first | refine rS 59 ?_ | refine rU 59 ?_ | refine rG 59 ((by first | exact Calm.pickT rfl rfl | exact Calm.pickF rfl rfl)) ?_
                    refine rC ((by first | exact Calm.pickT rfl rfl | exact Calm.pickF rfl rfl)) ?_
                    refine rC (Calm.assign rfl) ?_
                    refine arun_nil ?_
                    refine athen_n ?_
                    refine AWP.sub [(0, _), (1, _), (2, _), (4, _), (6, _), (11, _), (7, _), (8, _), (49, _)] ⟨rfl, rfl, rfl, rfl, rfl, rfl, rfl, rfl, rfl, trivial⟩ ?_
                    refine AWP.ret ?_
                    refine ⟨_, M, ⟨_, _, rfl, rfl, rfl⟩, less_, ?_⟩
                    exact ⟨rfl, rfl⟩
                  · have q9 : x.dirty = false := by simpa using q9
                    have ee : decide (u.2 = 0 ∧ x.leased = false ∧ x.data.size = 64 ∧ 0 ≤ x.pins ∧ x.pins ≤ 256 ∧ 1 ≤ x.tick ∧ x.tick ≤ tick ∧ (x.dirty = true ∨ x.data = u.1)) = decide (x.data = u.1) := decide_eq_decide.2 ⟨fun h => h.2.2.2.2.2.2.2.resolve_left (by rw [q9]; simp), fun h => ⟨q2, q3, q4, by omega, by omega, q7, q8, .inr h⟩⟩
                    rw [hyes, ee]
                    refine ACall.enter (args := [.pointer (some ⟨p, 0, none⟩), .agg #[.string x.name, .int .i64 x.sector, .string x.data, .int .i64 x.pins, .bool x.dirty, .int .u64 x.tick, .bool x.leased], .int .u64 tick]) (rs := [.tmp 6]) 69 [(0, .pointer (some ⟨p, 0, none⟩)), (1, .agg #[.string x.name, .int .i64 x.sector, .string x.data, .int .i64 x.pins, .bool x.dirty, .int .u64 x.tick, .bool x.leased]), (2, .int .u64 tick)] Try.func104 rfl rfl (Nat.le_of_ble_eq_true rfl) rfl ⟨rfl, rfl, rfl, trivial⟩ ?_
                    refine AWP.seq ?_
                    refine AWP.region ?_
                    refine ARun.boxA (cs := [_, _, _, _, _, _, _]) (lit_lt rfl) rfl ?_
                    intro b4 f4
                    have g4 := f4
                    repeat ((with_reducible replace g4 := fresh_set g4); obtain ⟨g4, _⟩ := g4)
                    (try simp only [List.length_cons, List.length_nil, Nat.zero_add, Nat.reduceAdd])
                    refine rC (Calm.assign rfl) ?_
                    refine arun_nil ?_
                    refine athen_n ?_
                    refine AWP.seq ?_
                    refine AWP.seq ?_
                    refine AWP.region ?_
                    refine rC (ldA_ (cs := [_, _, _, _, _, _, _]) ty_agg_110 ty_size_110 rfl) ?_
                    refine ARun.call (lit_lt rfl) go_78 rfl (ch _) ?_
                    rintro _ S1 ⟨rfl, h1⟩
                    rw [h1]; clear h1 S1
                    refine rC (Calm.un rfl (una_not _)) ?_
                    refine arun_nil ?_
                    refine athen_n ?_
                    refine AWP.sub [(0, _), (1, _), (2, _), (4, _), (6, _), (11, _)] ⟨rfl, rfl, rfl, rfl, rfl, rfl, trivial⟩ ?_
                    refine AWP.condF rfl (by first | rfl | (simp; done) | (simp; omega)) ?_
                    refine AWP.skip ?_
                    refine athen_n ?_
                    refine AWP.seq ?_
                    refine AWP.region ?_
                    refine rC (Calm.move rfl) ?_
                    refine rC (Calm.fieldAddr ty_field_110_0 rfl) ?_
                    refine rC (ld_ ty_plain_9 rfl) ?_
                    refine rC (Calm.fieldAddr ty_field_110_1 rfl) ?_
                    refine rC (ld_ ty_plain_3 rfl) ?_
                    refine ARun.call (lit_lt rfl) go_62 rfl (cr _ (h.less less_)) ?_
                    rintro _ S1 ⟨rfl, h1⟩
                    rw [h1]; clear h1 S1
                    refine rC (Calm.move rfl) ?_
                    refine rC (Calm.extract rfl rfl) ?_
                    refine rC (Calm.extract rfl rfl) ?_
                    refine rC (Calm.assign rfl) ?_
                    refine rC (Calm.assign rfl) ?_
                    refine arun_nil ?_
                    refine athen_n ?_
                    refine AWP.sub [(0, _), (1, _), (2, _), (4, _), (6, _), (11, _), (7, _), (8, _)] ⟨rfl, rfl, rfl, rfl, rfl, rfl, rfl, rfl, trivial⟩ ?_
                    refine AWP.seq ?_
                    refine AWP.seq ?_
                    refine AWP.region ?_
                    refine rC (Calm.move rfl) ?_
                    refine rC (Calm.bin rfl rfl (bin_bool (bin_neq _ _) (bnot_dec_false q2))) ?_
                    refine rC (Calm.move rfl) ?_
                    first | refine rS 30 ?_ | refine rU 30 ?_ | refine rG 30 (Calm.fieldAddr ty_field_110_6 rfl) ?_
                    first | refine rS 30 ?_ | refine rU 30 ?_ | refine rG 30 (Calm.as (congrArg Value.bool q3) (ld_ ty_plain_4 rfl)) ?_
                    refine rC ((by first | exact Calm.pickT rfl rfl | exact Calm.pickF rfl rfl)) ?_
                    refine rC (Calm.move rfl) ?_
                    first | refine rS 34 ?_ | refine rU 34 ?_ | refine rG 34 (Calm.fieldAddr ty_field_110_2 rfl) ?_
                    first | refine rS 34 ?_ | refine rU 34 ?_ | refine rG 34 (ld_ ty_plain_9 rfl) ?_
                    first | refine rS 34 ?_ | refine rU 34 ?_ | refine rG 34 (Calm.lenStr (strT_spec ty_str_9) rfl) ?_
                    first | refine rS 34 ?_ | refine rU 34 ?_ | refine rG 34 (Calm.bin rfl rfl (bin_bool (bin_neq _ _) (bnot_dec_false (by omega)))) ?_
                    refine rC ((by first | exact Calm.pickT rfl rfl | exact Calm.pickF rfl rfl)) ?_
                    refine rC (Calm.move rfl) ?_
                    first | refine rS 40 ?_ | refine rU 40 ?_ | refine rG 40 (Calm.fieldAddr ty_field_110_3 rfl) ?_
                    first | refine rS 40 ?_ | refine rU 40 ?_ | refine rG 40 (ld_ ty_plain_3 rfl) ?_
                    first | refine rS 40 ?_ | refine rU 40 ?_ | refine rG 40 (Calm.bin rfl rfl b_lss) ?_
                    refine rC ((by first | exact Calm.pickT rfl rfl | exact Calm.pickF rfl rfl)) ?_
                    refine rC (Calm.move rfl) ?_
                    first | refine rS 45 ?_ | refine rU 45 ?_ | refine rG 45 (Calm.fieldAddr ty_field_110_3 rfl) ?_
                    first | refine rS 45 ?_ | refine rU 45 ?_ | refine rG 45 (ld_ ty_plain_3 rfl) ?_
                    first | refine rS 45 ?_ | refine rU 45 ?_ | refine rG 45 (Calm.bin rfl rfl b_gtr) ?_
                    refine rC ((by first | exact Calm.pickT rfl rfl | exact Calm.pickF rfl rfl)) ?_
                    refine arun_nil ?_
                    refine athen_n ?_
                    refine AWP.sub [(0, _), (1, _), (2, _), (4, _), (6, _), (11, _), (7, _), (8, _), (49, _)] ⟨rfl, rfl, rfl, rfl, rfl, rfl, rfl, rfl, rfl, trivial⟩ ?_
                    refine AWP.condF rfl (by first | rfl | (simp; done) | (simp; omega)) ?_
                    refine AWP.skip ?_
                    refine athen_n ?_
                    refine AWP.seq ?_
                    refine AWP.region ?_
                    refine rC (Calm.fieldAddr ty_field_110_5 rfl) ?_
                    refine rC (ld_ ty_plain_58 rfl) ?_
                    refine rC (Calm.bin rfl rfl b_geq) ?_
                    refine rC (Calm.move rfl) ?_
                    first | refine rS 53 ?_ | refine rU 53 ?_ | refine rG 53 (Calm.fieldAddr ty_field_110_5 rfl) ?_
                    first | refine rS 53 ?_ | refine rU 53 ?_ | refine rG 53 (ld_ ty_plain_58 rfl) ?_
                    first | refine rS 53 ?_ | refine rU 53 ?_ | refine rG 53 (Calm.move rfl) ?_
                    first | refine rS 53 ?_ | refine rU 53 ?_ | refine rG 53 (Calm.bin rfl rfl b_leq) ?_
                    refine rC ((by first | exact Calm.pickT rfl rfl | exact Calm.pickF rfl rfl)) ?_
                    refine rC (Calm.move rfl) ?_
                    first | refine rS 59 ?_ | refine rU 59 ?_ | refine rG 59 (Calm.fieldAddr ty_field_110_4 rfl) ?_
                    first | refine rS 59 ?_ | refine rU 59 ?_ | refine rG 59 (Calm.as (congrArg Value.bool q9) (ld_ ty_plain_4 rfl)) ?_
                    first | refine rS 59 ?_ | refine rU 59 ?_ | refine rG 59 (Calm.move rfl) ?_
                    first | refine rS 62 ?_ | refine rU 62 ?_ | refine rG 62 (Calm.fieldAddr ty_field_110_2 rfl) ?_
                    first | refine rS 62 ?_ | refine rU 62 ?_ | refine rG 62 (ld_ ty_plain_9 rfl) ?_
                    first | refine rS 62 ?_ | refine rU 62 ?_ | refine rG 62 (Calm.move rfl) ?_
                    first | refine rS 62 ?_ | refine rU 62 ?_ | refine rG 62 (Calm.bin rfl rfl (bin_str_eql _ _)) ?_
                    first | refine rS 59 ?_ | refine rU 59 ?_ | refine rG 59 ((by first | exact Calm.pickT rfl rfl | exact Calm.pickF rfl rfl)) ?_
                    refine rC ((by first | exact Calm.pickT rfl rfl | exact Calm.pickF rfl rfl)) ?_
                    refine rC (Calm.assign rfl) ?_
                    refine arun_nil ?_
                    refine athen_n ?_
                    refine AWP.sub [(0, _), (1, _), (2, _), (4, _), (6, _), (11, _), (7, _), (8, _), (49, _)] ⟨rfl, rfl, rfl, rfl, rfl, rfl, rfl, rfl, rfl, trivial⟩ ?_
                    refine AWP.ret ?_
                    refine ⟨_, M, ⟨_, _, rfl, rfl, rfl⟩, less_, ?_⟩
                    exact ⟨rfl, rfl⟩
                · rw [hno (fun h => q8 h.2.2.2.2.2.2.1)]
                  refine ACall.enter (args := [.pointer (some ⟨p, 0, none⟩), .agg #[.string x.name, .int .i64 x.sector, .string x.data, .int .i64 x.pins, .bool x.dirty, .int .u64 x.tick, .bool x.leased], .int .u64 tick]) (rs := [.tmp 6]) 69 [(0, .pointer (some ⟨p, 0, none⟩)), (1, .agg #[.string x.name, .int .i64 x.sector, .string x.data, .int .i64 x.pins, .bool x.dirty, .int .u64 x.tick, .bool x.leased]), (2, .int .u64 tick)] Try.func104 rfl rfl (Nat.le_of_ble_eq_true rfl) rfl ⟨rfl, rfl, rfl, trivial⟩ ?_
                  refine AWP.seq ?_
                  refine AWP.region ?_
                  refine ARun.boxA (cs := [_, _, _, _, _, _, _]) (lit_lt rfl) rfl ?_
                  intro b4 f4
                  have g4 := f4
                  repeat ((with_reducible replace g4 := fresh_set g4); obtain ⟨g4, _⟩ := g4)
                  (try simp only [List.length_cons, List.length_nil, Nat.zero_add, Nat.reduceAdd])
                  refine rC (Calm.assign rfl) ?_
                  refine arun_nil ?_
                  refine athen_n ?_
                  refine AWP.seq ?_
                  refine AWP.seq ?_
                  refine AWP.region ?_
                  refine rC (ldA_ (cs := [_, _, _, _, _, _, _]) ty_agg_110 ty_size_110 rfl) ?_
                  refine ARun.call (lit_lt rfl) go_78 rfl (ch _) ?_
                  rintro _ S1 ⟨rfl, h1⟩
                  rw [h1]; clear h1 S1
                  refine rC (Calm.un rfl (una_not _)) ?_
                  refine arun_nil ?_
                  refine athen_n ?_
                  refine AWP.sub [(0, _), (1, _), (2, _), (4, _), (6, _), (11, _)] ⟨rfl, rfl, rfl, rfl, rfl, rfl, trivial⟩ ?_
                  refine AWP.condF rfl (by first | rfl | (simp; done) | (simp; omega)) ?_
                  refine AWP.skip ?_
                  refine athen_n ?_
                  refine AWP.seq ?_
                  refine AWP.region ?_
                  refine rC (Calm.move rfl) ?_
                  refine rC (Calm.fieldAddr ty_field_110_0 rfl) ?_
                  refine rC (ld_ ty_plain_9 rfl) ?_
                  refine rC (Calm.fieldAddr ty_field_110_1 rfl) ?_
                  refine rC (ld_ ty_plain_3 rfl) ?_
                  refine ARun.call (lit_lt rfl) go_62 rfl (cr _ (h.less less_)) ?_
                  rintro _ S1 ⟨rfl, h1⟩
                  rw [h1]; clear h1 S1
                  refine rC (Calm.move rfl) ?_
                  refine rC (Calm.extract rfl rfl) ?_
                  refine rC (Calm.extract rfl rfl) ?_
                  refine rC (Calm.assign rfl) ?_
                  refine rC (Calm.assign rfl) ?_
                  refine arun_nil ?_
                  refine athen_n ?_
                  refine AWP.sub [(0, _), (1, _), (2, _), (4, _), (6, _), (11, _), (7, _), (8, _)] ⟨rfl, rfl, rfl, rfl, rfl, rfl, rfl, rfl, trivial⟩ ?_
                  refine AWP.seq ?_
                  refine AWP.seq ?_
                  refine AWP.region ?_
                  refine rC (Calm.move rfl) ?_
                  refine rC (Calm.bin rfl rfl (bin_bool (bin_neq _ _) (bnot_dec_false q2))) ?_
                  refine rC (Calm.move rfl) ?_
                  first | refine rS 30 ?_ | refine rU 30 ?_ | refine rG 30 (Calm.fieldAddr ty_field_110_6 rfl) ?_
                  first | refine rS 30 ?_ | refine rU 30 ?_ | refine rG 30 (Calm.as (congrArg Value.bool q3) (ld_ ty_plain_4 rfl)) ?_
                  refine rC ((by first | exact Calm.pickT rfl rfl | exact Calm.pickF rfl rfl)) ?_
                  refine rC (Calm.move rfl) ?_
                  first | refine rS 34 ?_ | refine rU 34 ?_ | refine rG 34 (Calm.fieldAddr ty_field_110_2 rfl) ?_
                  first | refine rS 34 ?_ | refine rU 34 ?_ | refine rG 34 (ld_ ty_plain_9 rfl) ?_
                  first | refine rS 34 ?_ | refine rU 34 ?_ | refine rG 34 (Calm.lenStr (strT_spec ty_str_9) rfl) ?_
                  first | refine rS 34 ?_ | refine rU 34 ?_ | refine rG 34 (Calm.bin rfl rfl (bin_bool (bin_neq _ _) (bnot_dec_false (by omega)))) ?_
                  refine rC ((by first | exact Calm.pickT rfl rfl | exact Calm.pickF rfl rfl)) ?_
                  refine rC (Calm.move rfl) ?_
                  first | refine rS 40 ?_ | refine rU 40 ?_ | refine rG 40 (Calm.fieldAddr ty_field_110_3 rfl) ?_
                  first | refine rS 40 ?_ | refine rU 40 ?_ | refine rG 40 (ld_ ty_plain_3 rfl) ?_
                  first | refine rS 40 ?_ | refine rU 40 ?_ | refine rG 40 (Calm.bin rfl rfl b_lss) ?_
                  refine rC ((by first | exact Calm.pickT rfl rfl | exact Calm.pickF rfl rfl)) ?_
                  refine rC (Calm.move rfl) ?_
                  first | refine rS 45 ?_ | refine rU 45 ?_ | refine rG 45 (Calm.fieldAddr ty_field_110_3 rfl) ?_
                  first | refine rS 45 ?_ | refine rU 45 ?_ | refine rG 45 (ld_ ty_plain_3 rfl) ?_
                  first | refine rS 45 ?_ | refine rU 45 ?_ | refine rG 45 (Calm.bin rfl rfl b_gtr) ?_
                  refine rC ((by first | exact Calm.pickT rfl rfl | exact Calm.pickF rfl rfl)) ?_
                  refine arun_nil ?_
                  refine athen_n ?_
                  refine AWP.sub [(0, _), (1, _), (2, _), (4, _), (6, _), (11, _), (7, _), (8, _), (49, _)] ⟨rfl, rfl, rfl, rfl, rfl, rfl, rfl, rfl, rfl, trivial⟩ ?_
                  refine AWP.condF rfl (by first | rfl | (simp; done) | (simp; omega)) ?_
                  refine AWP.skip ?_
                  refine athen_n ?_
                  refine AWP.seq ?_
                  refine AWP.region ?_
                  refine rC (Calm.fieldAddr ty_field_110_5 rfl) ?_
                  refine rC (ld_ ty_plain_58 rfl) ?_
                  refine rC (Calm.bin rfl rfl b_geq) ?_
                  refine rC (Calm.move rfl) ?_
                  first | refine rS 53 ?_ | refine rU 53 ?_ | refine rG 53 (Calm.fieldAddr ty_field_110_5 rfl) ?_
                  first | refine rS 53 ?_ | refine rU 53 ?_ | refine rG 53 (ld_ ty_plain_58 rfl) ?_
                  first | refine rS 53 ?_ | refine rU 53 ?_ | refine rG 53 (Calm.move rfl) ?_
                  first | refine rS 53 ?_ | refine rU 53 ?_ | refine rG 53 (Calm.bin rfl rfl b_leq) ?_
                  refine rC ((by first | exact Calm.pickT rfl rfl | exact Calm.pickF rfl rfl)) ?_
                  refine rC (Calm.move rfl) ?_
                  first | refine rS 59 ?_ | refine rU 59 ?_ | refine rG 59 (Calm.fieldAddr ty_field_110_4 rfl) ?_
                  first | refine rS 59 ?_ | refine rU 59 ?_ | refine rG 59 (ld_ ty_plain_4 rfl) ?_
                  first | refine rS 59 ?_ | refine rU 59 ?_ | refine rG 59 (Calm.move rfl) ?_
                  first | refine rS 62 ?_ | refine rU 62 ?_ | refine rG 62 (Calm.fieldAddr ty_field_110_2 rfl) ?_
                  first | refine rS 62 ?_ | refine rU 62 ?_ | refine rG 62 (ld_ ty_plain_9 rfl) ?_
                  first | refine rS 62 ?_ | refine rU 62 ?_ | refine rG 62 (Calm.move rfl) ?_
                  first | refine rS 62 ?_ | refine rU 62 ?_ | refine rG 62 (Calm.bin rfl rfl (bin_str_eql _ _)) ?_
                  first | refine rS 59 ?_ | refine rU 59 ?_ | refine rG 59 ((by first | exact Calm.pickT rfl rfl | exact Calm.pickF rfl rfl)) ?_
                  refine rC ((by first | exact Calm.pickT rfl rfl | exact Calm.pickF rfl rfl)) ?_
                  refine rC (Calm.assign rfl) ?_
                  refine arun_nil ?_
                  refine athen_n ?_
                  refine AWP.sub [(0, _), (1, _), (2, _), (4, _), (6, _), (11, _), (7, _), (8, _), (49, _)] ⟨rfl, rfl, rfl, rfl, rfl, rfl, rfl, rfl, rfl, trivial⟩ ?_
                  refine AWP.ret ?_
                  refine ⟨_, M, ⟨_, _, rfl, rfl, rfl⟩, less_, ?_⟩
                  exact ⟨rfl, rfl⟩
              · rw [hno (fun h => q7 h.2.2.2.2.2.1)]
                refine ACall.enter (args := [.pointer (some ⟨p, 0, none⟩), .agg #[.string x.name, .int .i64 x.sector, .string x.data, .int .i64 x.pins, .bool x.dirty, .int .u64 x.tick, .bool x.leased], .int .u64 tick]) (rs := [.tmp 6]) 69 [(0, .pointer (some ⟨p, 0, none⟩)), (1, .agg #[.string x.name, .int .i64 x.sector, .string x.data, .int .i64 x.pins, .bool x.dirty, .int .u64 x.tick, .bool x.leased]), (2, .int .u64 tick)] Try.func104 rfl rfl (Nat.le_of_ble_eq_true rfl) rfl ⟨rfl, rfl, rfl, trivial⟩ ?_
                refine AWP.seq ?_
                refine AWP.region ?_
                refine ARun.boxA (cs := [_, _, _, _, _, _, _]) (lit_lt rfl) rfl ?_
                intro b4 f4
                have g4 := f4
                repeat ((with_reducible replace g4 := fresh_set g4); obtain ⟨g4, _⟩ := g4)
                (try simp only [List.length_cons, List.length_nil, Nat.zero_add, Nat.reduceAdd])
                refine rC (Calm.assign rfl) ?_
                refine arun_nil ?_
                refine athen_n ?_
                refine AWP.seq ?_
                refine AWP.seq ?_
                refine AWP.region ?_
                refine rC (ldA_ (cs := [_, _, _, _, _, _, _]) ty_agg_110 ty_size_110 rfl) ?_
                refine ARun.call (lit_lt rfl) go_78 rfl (ch _) ?_
                rintro _ S1 ⟨rfl, h1⟩
                rw [h1]; clear h1 S1
                refine rC (Calm.un rfl (una_not _)) ?_
                refine arun_nil ?_
                refine athen_n ?_
                refine AWP.sub [(0, _), (1, _), (2, _), (4, _), (6, _), (11, _)] ⟨rfl, rfl, rfl, rfl, rfl, rfl, trivial⟩ ?_
                refine AWP.condF rfl (by first | rfl | (simp; done) | (simp; omega)) ?_
                refine AWP.skip ?_
                refine athen_n ?_
                refine AWP.seq ?_
                refine AWP.region ?_
                refine rC (Calm.move rfl) ?_
                refine rC (Calm.fieldAddr ty_field_110_0 rfl) ?_
                refine rC (ld_ ty_plain_9 rfl) ?_
                refine rC (Calm.fieldAddr ty_field_110_1 rfl) ?_
                refine rC (ld_ ty_plain_3 rfl) ?_
                refine ARun.call (lit_lt rfl) go_62 rfl (cr _ (h.less less_)) ?_
                rintro _ S1 ⟨rfl, h1⟩
                rw [h1]; clear h1 S1
                refine rC (Calm.move rfl) ?_
                refine rC (Calm.extract rfl rfl) ?_
                refine rC (Calm.extract rfl rfl) ?_
                refine rC (Calm.assign rfl) ?_
                refine rC (Calm.assign rfl) ?_
                refine arun_nil ?_
                refine athen_n ?_
                refine AWP.sub [(0, _), (1, _), (2, _), (4, _), (6, _), (11, _), (7, _), (8, _)] ⟨rfl, rfl, rfl, rfl, rfl, rfl, rfl, rfl, trivial⟩ ?_
                refine AWP.seq ?_
                refine AWP.seq ?_
                refine AWP.region ?_
                refine rC (Calm.move rfl) ?_
                refine rC (Calm.bin rfl rfl (bin_bool (bin_neq _ _) (bnot_dec_false q2))) ?_
                refine rC (Calm.move rfl) ?_
                first | refine rS 30 ?_ | refine rU 30 ?_ | refine rG 30 (Calm.fieldAddr ty_field_110_6 rfl) ?_
                first | refine rS 30 ?_ | refine rU 30 ?_ | refine rG 30 (Calm.as (congrArg Value.bool q3) (ld_ ty_plain_4 rfl)) ?_
                refine rC ((by first | exact Calm.pickT rfl rfl | exact Calm.pickF rfl rfl)) ?_
                refine rC (Calm.move rfl) ?_
                first | refine rS 34 ?_ | refine rU 34 ?_ | refine rG 34 (Calm.fieldAddr ty_field_110_2 rfl) ?_
                first | refine rS 34 ?_ | refine rU 34 ?_ | refine rG 34 (ld_ ty_plain_9 rfl) ?_
                first | refine rS 34 ?_ | refine rU 34 ?_ | refine rG 34 (Calm.lenStr (strT_spec ty_str_9) rfl) ?_
                first | refine rS 34 ?_ | refine rU 34 ?_ | refine rG 34 (Calm.bin rfl rfl (bin_bool (bin_neq _ _) (bnot_dec_false (by omega)))) ?_
                refine rC ((by first | exact Calm.pickT rfl rfl | exact Calm.pickF rfl rfl)) ?_
                refine rC (Calm.move rfl) ?_
                first | refine rS 40 ?_ | refine rU 40 ?_ | refine rG 40 (Calm.fieldAddr ty_field_110_3 rfl) ?_
                first | refine rS 40 ?_ | refine rU 40 ?_ | refine rG 40 (ld_ ty_plain_3 rfl) ?_
                first | refine rS 40 ?_ | refine rU 40 ?_ | refine rG 40 (Calm.bin rfl rfl b_lss) ?_
                refine rC ((by first | exact Calm.pickT rfl rfl | exact Calm.pickF rfl rfl)) ?_
                refine rC (Calm.move rfl) ?_
                first | refine rS 45 ?_ | refine rU 45 ?_ | refine rG 45 (Calm.fieldAddr ty_field_110_3 rfl) ?_
                first | refine rS 45 ?_ | refine rU 45 ?_ | refine rG 45 (ld_ ty_plain_3 rfl) ?_
                first | refine rS 45 ?_ | refine rU 45 ?_ | refine rG 45 (Calm.bin rfl rfl b_gtr) ?_
                refine rC ((by first | exact Calm.pickT rfl rfl | exact Calm.pickF rfl rfl)) ?_
                refine arun_nil ?_
                refine athen_n ?_
                refine AWP.sub [(0, _), (1, _), (2, _), (4, _), (6, _), (11, _), (7, _), (8, _), (49, _)] ⟨rfl, rfl, rfl, rfl, rfl, rfl, rfl, rfl, rfl, trivial⟩ ?_
                refine AWP.condF rfl (by first | rfl | (simp; done) | (simp; omega)) ?_
                refine AWP.skip ?_
                refine athen_n ?_
                refine AWP.seq ?_
                refine AWP.region ?_
                refine rC (Calm.fieldAddr ty_field_110_5 rfl) ?_
                refine rC (ld_ ty_plain_58 rfl) ?_
                refine rC (Calm.bin rfl rfl b_geq) ?_
                refine rC (Calm.move rfl) ?_
                first | refine rS 53 ?_ | refine rU 53 ?_ | refine rG 53 (Calm.fieldAddr ty_field_110_5 rfl) ?_
                first | refine rS 53 ?_ | refine rU 53 ?_ | refine rG 53 (ld_ ty_plain_58 rfl) ?_
                first | refine rS 53 ?_ | refine rU 53 ?_ | refine rG 53 (Calm.move rfl) ?_
                first | refine rS 53 ?_ | refine rU 53 ?_ | refine rG 53 (Calm.bin rfl rfl b_leq) ?_
                refine rC ((by first | exact Calm.pickT rfl rfl | exact Calm.pickF rfl rfl)) ?_
                refine rC (Calm.move rfl) ?_
                first | refine rS 59 ?_ | refine rU 59 ?_ | refine rG 59 (Calm.fieldAddr ty_field_110_4 rfl) ?_
                first | refine rS 59 ?_ | refine rU 59 ?_ | refine rG 59 (ld_ ty_plain_4 rfl) ?_
                first | refine rS 59 ?_ | refine rU 59 ?_ | refine rG 59 (Calm.move rfl) ?_
                first | refine rS 62 ?_ | refine rU 62 ?_ | refine rG 62 (Calm.fieldAddr ty_field_110_2 rfl) ?_
                first | refine rS 62 ?_ | refine rU 62 ?_ | refine rG 62 (ld_ ty_plain_9 rfl) ?_
                first | refine rS 62 ?_ | refine rU 62 ?_ | refine rG 62 (Calm.move rfl) ?_
                first | refine rS 62 ?_ | refine rU 62 ?_ | refine rG 62 (Calm.bin rfl rfl (bin_str_eql _ _)) ?_
                first | refine rS 59 ?_ | refine rU 59 ?_ | refine rG 59 ((by first | exact Calm.pickT rfl rfl | exact Calm.pickF rfl rfl)) ?_
                refine rC ((by first | exact Calm.pickT rfl rfl | exact Calm.pickF rfl rfl)) ?_
                refine rC (Calm.assign rfl) ?_
                refine arun_nil ?_
                refine athen_n ?_
                refine AWP.sub [(0, _), (1, _), (2, _), (4, _), (6, _), (11, _), (7, _), (8, _), (49, _)] ⟨rfl, rfl, rfl, rfl, rfl, rfl, rfl, rfl, rfl, trivial⟩ ?_
                refine AWP.ret ?_
                refine ⟨_, M, ⟨_, _, rfl, rfl, rfl⟩, less_, ?_⟩
                exact ⟨rfl, rfl⟩
        · rw [hno (fun h => q4 h.2.2.1)]
          refine ACall.enter (args := [.pointer (some ⟨p, 0, none⟩), .agg #[.string x.name, .int .i64 x.sector, .string x.data, .int .i64 x.pins, .bool x.dirty, .int .u64 x.tick, .bool x.leased], .int .u64 tick]) (rs := [.tmp 6]) 69 [(0, .pointer (some ⟨p, 0, none⟩)), (1, .agg #[.string x.name, .int .i64 x.sector, .string x.data, .int .i64 x.pins, .bool x.dirty, .int .u64 x.tick, .bool x.leased]), (2, .int .u64 tick)] Try.func104 rfl rfl (Nat.le_of_ble_eq_true rfl) rfl ⟨rfl, rfl, rfl, trivial⟩ ?_
          refine AWP.seq ?_
          refine AWP.region ?_
          refine ARun.boxA (cs := [_, _, _, _, _, _, _]) (lit_lt rfl) rfl ?_
          intro b4 f4
          have g4 := f4
          repeat ((with_reducible replace g4 := fresh_set g4); obtain ⟨g4, _⟩ := g4)
          (try simp only [List.length_cons, List.length_nil, Nat.zero_add, Nat.reduceAdd])
          refine rC (Calm.assign rfl) ?_
          refine arun_nil ?_
          refine athen_n ?_
          refine AWP.seq ?_
          refine AWP.seq ?_
          refine AWP.region ?_
          refine rC (ldA_ (cs := [_, _, _, _, _, _, _]) ty_agg_110 ty_size_110 rfl) ?_
          refine ARun.call (lit_lt rfl) go_78 rfl (ch _) ?_
          rintro _ S1 ⟨rfl, h1⟩
          rw [h1]; clear h1 S1
          refine rC (Calm.un rfl (una_not _)) ?_
          refine arun_nil ?_
          refine athen_n ?_
          refine AWP.sub [(0, _), (1, _), (2, _), (4, _), (6, _), (11, _)] ⟨rfl, rfl, rfl, rfl, rfl, rfl, trivial⟩ ?_
          refine AWP.condF rfl (by first | rfl | (simp; done) | (simp; omega)) ?_
          refine AWP.skip ?_
          refine athen_n ?_
          refine AWP.seq ?_
          refine AWP.region ?_
          refine rC (Calm.move rfl) ?_
          refine rC (Calm.fieldAddr ty_field_110_0 rfl) ?_
          refine rC (ld_ ty_plain_9 rfl) ?_
          refine rC (Calm.fieldAddr ty_field_110_1 rfl) ?_
          refine rC (ld_ ty_plain_3 rfl) ?_
          refine ARun.call (lit_lt rfl) go_62 rfl (cr _ (h.less less_)) ?_
          rintro _ S1 ⟨rfl, h1⟩
          rw [h1]; clear h1 S1
          refine rC (Calm.move rfl) ?_
          refine rC (Calm.extract rfl rfl) ?_
          refine rC (Calm.extract rfl rfl) ?_
          refine rC (Calm.assign rfl) ?_
          refine rC (Calm.assign rfl) ?_
          refine arun_nil ?_
          refine athen_n ?_
          refine AWP.sub [(0, _), (1, _), (2, _), (4, _), (6, _), (11, _), (7, _), (8, _)] ⟨rfl, rfl, rfl, rfl, rfl, rfl, rfl, rfl, trivial⟩ ?_
          refine AWP.seq ?_
          refine AWP.seq ?_
          refine AWP.region ?_
          refine rC (Calm.move rfl) ?_
          refine rC (Calm.bin rfl rfl (bin_bool (bin_neq _ _) (bnot_dec_false q2))) ?_
          refine rC (Calm.move rfl) ?_
          first | refine rS 30 ?_ | refine rU 30 ?_ | refine rG 30 (Calm.fieldAddr ty_field_110_6 rfl) ?_
          first | refine rS 30 ?_ | refine rU 30 ?_ | refine rG 30 (Calm.as (congrArg Value.bool q3) (ld_ ty_plain_4 rfl)) ?_
          refine rC ((by first | exact Calm.pickT rfl rfl | exact Calm.pickF rfl rfl)) ?_
          refine rC (Calm.move rfl) ?_
          first | refine rS 34 ?_ | refine rU 34 ?_ | refine rG 34 (Calm.fieldAddr ty_field_110_2 rfl) ?_
          first | refine rS 34 ?_ | refine rU 34 ?_ | refine rG 34 (ld_ ty_plain_9 rfl) ?_
          first | refine rS 34 ?_ | refine rU 34 ?_ | refine rG 34 (Calm.lenStr (strT_spec ty_str_9) rfl) ?_
          first | refine rS 34 ?_ | refine rU 34 ?_ | refine rG 34 (Calm.bin rfl rfl (bin_bool (bin_neq _ _) (bnot_dec_true (by omega)))) ?_
          refine rC ((by first | exact Calm.pickT rfl rfl | exact Calm.pickF rfl rfl)) ?_
          refine rC (Calm.move rfl) ?_
          first | refine rS 40 ?_ | refine rU 40 ?_ | refine rG 40 (Calm.fieldAddr ty_field_110_3 rfl) ?_
          first | refine rS 40 ?_ | refine rU 40 ?_ | refine rG 40 (ld_ ty_plain_3 rfl) ?_
          first | refine rS 40 ?_ | refine rU 40 ?_ | refine rG 40 (Calm.bin rfl rfl b_lss) ?_
          refine rC ((by first | exact Calm.pickT rfl rfl | exact Calm.pickF rfl rfl)) ?_
          refine rC (Calm.move rfl) ?_
          first | refine rS 45 ?_ | refine rU 45 ?_ | refine rG 45 (Calm.fieldAddr ty_field_110_3 rfl) ?_
          first | refine rS 45 ?_ | refine rU 45 ?_ | refine rG 45 (ld_ ty_plain_3 rfl) ?_
          first | refine rS 45 ?_ | refine rU 45 ?_ | refine rG 45 (Calm.bin rfl rfl b_gtr) ?_
          refine rC ((by first | exact Calm.pickT rfl rfl | exact Calm.pickF rfl rfl)) ?_
          refine arun_nil ?_
          refine athen_n ?_
          refine AWP.sub [(0, _), (1, _), (2, _), (4, _), (6, _), (11, _), (7, _), (8, _), (49, _)] ⟨rfl, rfl, rfl, rfl, rfl, rfl, rfl, rfl, rfl, trivial⟩ ?_
          refine AWP.condT rfl (by first | rfl | (simp; done) | (simp; omega)) ?_
          refine AWP.seq ?_
          refine AWP.region ?_
          refine rC (Calm.assign rfl) ?_
          refine arun_nil ?_
          refine athen_n ?_
          refine AWP.ret ?_
          refine athen_ret ?_
          refine ⟨_, M, ⟨_, _, rfl, rfl, rfl⟩, less_, ?_⟩
          exact ⟨rfl, rfl⟩
    · rw [hno (fun h => q2 h.1)]
      refine ACall.enter (args := [.pointer (some ⟨p, 0, none⟩), .agg #[.string x.name, .int .i64 x.sector, .string x.data, .int .i64 x.pins, .bool x.dirty, .int .u64 x.tick, .bool x.leased], .int .u64 tick]) (rs := [.tmp 6]) 69 [(0, .pointer (some ⟨p, 0, none⟩)), (1, .agg #[.string x.name, .int .i64 x.sector, .string x.data, .int .i64 x.pins, .bool x.dirty, .int .u64 x.tick, .bool x.leased]), (2, .int .u64 tick)] Try.func104 rfl rfl (Nat.le_of_ble_eq_true rfl) rfl ⟨rfl, rfl, rfl, trivial⟩ ?_
      refine AWP.seq ?_
      refine AWP.region ?_
      refine ARun.boxA (cs := [_, _, _, _, _, _, _]) (lit_lt rfl) rfl ?_
      intro b4 f4
      have g4 := f4
      repeat ((with_reducible replace g4 := fresh_set g4); obtain ⟨g4, _⟩ := g4)
      (try simp only [List.length_cons, List.length_nil, Nat.zero_add, Nat.reduceAdd])
      refine rC (Calm.assign rfl) ?_
      refine arun_nil ?_
      refine athen_n ?_
      refine AWP.seq ?_
      refine AWP.seq ?_
      refine AWP.region ?_
      refine rC (ldA_ (cs := [_, _, _, _, _, _, _]) ty_agg_110 ty_size_110 rfl) ?_
      refine ARun.call (lit_lt rfl) go_78 rfl (ch _) ?_
      rintro _ S1 ⟨rfl, h1⟩
      rw [h1]; clear h1 S1
      refine rC (Calm.un rfl (una_not _)) ?_
      refine arun_nil ?_
      refine athen_n ?_
      refine AWP.sub [(0, _), (1, _), (2, _), (4, _), (6, _), (11, _)] ⟨rfl, rfl, rfl, rfl, rfl, rfl, trivial⟩ ?_
      refine AWP.condF rfl (by first | rfl | (simp; done) | (simp; omega)) ?_
      refine AWP.skip ?_
      refine athen_n ?_
      refine AWP.seq ?_
      refine AWP.region ?_
      refine rC (Calm.move rfl) ?_
      refine rC (Calm.fieldAddr ty_field_110_0 rfl) ?_
      refine rC (ld_ ty_plain_9 rfl) ?_
      refine rC (Calm.fieldAddr ty_field_110_1 rfl) ?_
      refine rC (ld_ ty_plain_3 rfl) ?_
      refine ARun.call (lit_lt rfl) go_62 rfl (cr _ (h.less less_)) ?_
      rintro _ S1 ⟨rfl, h1⟩
      rw [h1]; clear h1 S1
      refine rC (Calm.move rfl) ?_
      refine rC (Calm.extract rfl rfl) ?_
      refine rC (Calm.extract rfl rfl) ?_
      refine rC (Calm.assign rfl) ?_
      refine rC (Calm.assign rfl) ?_
      refine arun_nil ?_
      refine athen_n ?_
      refine AWP.sub [(0, _), (1, _), (2, _), (4, _), (6, _), (11, _), (7, _), (8, _)] ⟨rfl, rfl, rfl, rfl, rfl, rfl, rfl, rfl, trivial⟩ ?_
      refine AWP.seq ?_
      refine AWP.seq ?_
      refine AWP.region ?_
      refine rC (Calm.move rfl) ?_
      refine rC (Calm.bin rfl rfl (bin_bool (bin_neq _ _) (bnot_dec_true q2))) ?_
      refine rC (Calm.move rfl) ?_
      first | refine rS 30 ?_ | refine rU 30 ?_ | refine rG 30 (Calm.fieldAddr ty_field_110_6 rfl) ?_
      first | refine rS 30 ?_ | refine rU 30 ?_ | refine rG 30 (ld_ ty_plain_4 rfl) ?_
      refine rC ((by first | exact Calm.pickT rfl rfl | exact Calm.pickF rfl rfl)) ?_
      refine rC (Calm.move rfl) ?_
      first | refine rS 34 ?_ | refine rU 34 ?_ | refine rG 34 (Calm.fieldAddr ty_field_110_2 rfl) ?_
      first | refine rS 34 ?_ | refine rU 34 ?_ | refine rG 34 (ld_ ty_plain_9 rfl) ?_
      first | refine rS 34 ?_ | refine rU 34 ?_ | refine rG 34 (Calm.lenStr (strT_spec ty_str_9) rfl) ?_
      first | refine rS 34 ?_ | refine rU 34 ?_ | refine rG 34 (Calm.bin rfl rfl b_neq) ?_
      refine rC ((by first | exact Calm.pickT rfl rfl | exact Calm.pickF rfl rfl)) ?_
      refine rC (Calm.move rfl) ?_
      first | refine rS 40 ?_ | refine rU 40 ?_ | refine rG 40 (Calm.fieldAddr ty_field_110_3 rfl) ?_
      first | refine rS 40 ?_ | refine rU 40 ?_ | refine rG 40 (ld_ ty_plain_3 rfl) ?_
      first | refine rS 40 ?_ | refine rU 40 ?_ | refine rG 40 (Calm.bin rfl rfl b_lss) ?_
      refine rC ((by first | exact Calm.pickT rfl rfl | exact Calm.pickF rfl rfl)) ?_
      refine rC (Calm.move rfl) ?_
      first | refine rS 45 ?_ | refine rU 45 ?_ | refine rG 45 (Calm.fieldAddr ty_field_110_3 rfl) ?_
      first | refine rS 45 ?_ | refine rU 45 ?_ | refine rG 45 (ld_ ty_plain_3 rfl) ?_
      first | refine rS 45 ?_ | refine rU 45 ?_ | refine rG 45 (Calm.bin rfl rfl b_gtr) ?_
      refine rC ((by first | exact Calm.pickT rfl rfl | exact Calm.pickF rfl rfl)) ?_
      refine arun_nil ?_
      refine athen_n ?_
      refine AWP.sub [(0, _), (1, _), (2, _), (4, _), (6, _), (11, _), (7, _), (8, _), (49, _)] ⟨rfl, rfl, rfl, rfl, rfl, rfl, rfl, rfl, rfl, trivial⟩ ?_
      refine AWP.condT rfl (by first | rfl | (simp; done) | (simp; omega)) ?_
      refine AWP.seq ?_
      refine AWP.region ?_
      refine rC (Calm.assign rfl) ?_
      refine arun_nil ?_
      refine athen_n ?_
      refine AWP.ret ?_
      refine athen_ret ?_
      refine ⟨_, M, ⟨_, _, rfl, rfl, rfl⟩, less_, ?_⟩
      exact ⟨rfl, rfl⟩
  · rw [decide_eq_false q1] at ch
    by_cases q2 : x = F0
    · rw [decide_eq_true q2] at cf
      rw [decide_eq_true (show Sound d x tick from .inl ⟨q1, .inl q2⟩)]
      refine ACall.enter (args := [.pointer (some ⟨p, 0, none⟩), .agg #[.string x.name, .int .i64 x.sector, .string x.data, .int .i64 x.pins, .bool x.dirty, .int .u64 x.tick, .bool x.leased], .int .u64 tick]) (rs := [.tmp 6]) 69 [(0, .pointer (some ⟨p, 0, none⟩)), (1, .agg #[.string x.name, .int .i64 x.sector, .string x.data, .int .i64 x.pins, .bool x.dirty, .int .u64 x.tick, .bool x.leased]), (2, .int .u64 tick)] Try.func104 rfl rfl (Nat.le_of_ble_eq_true rfl) rfl ⟨rfl, rfl, rfl, trivial⟩ ?_
      refine AWP.seq ?_
      refine AWP.region ?_
      refine ARun.boxA (cs := [_, _, _, _, _, _, _]) (lit_lt rfl) rfl ?_
      intro b4 f4
      have g4 := f4
      repeat ((with_reducible replace g4 := fresh_set g4); obtain ⟨g4, _⟩ := g4)
      (try simp only [List.length_cons, List.length_nil, Nat.zero_add, Nat.reduceAdd])
      refine rC (Calm.assign rfl) ?_
      refine arun_nil ?_
      refine athen_n ?_
      refine AWP.seq ?_
      refine AWP.seq ?_
      refine AWP.region ?_
      refine rC (ldA_ (cs := [_, _, _, _, _, _, _]) ty_agg_110 ty_size_110 rfl) ?_
      refine ARun.call (lit_lt rfl) go_78 rfl (ch _) ?_
      rintro _ S1 ⟨rfl, h1⟩
      rw [h1]; clear h1 S1
      refine rC (Calm.un rfl (una_not _)) ?_
      refine arun_nil ?_
      refine athen_n ?_
      refine AWP.sub [(0, _), (1, _), (2, _), (4, _), (6, _), (11, _)] ⟨rfl, rfl, rfl, rfl, rfl, rfl, trivial⟩ ?_
      refine AWP.condT rfl (by first | rfl | (simp; done) | (simp; omega)) ?_
      refine AWP.seq ?_
      refine AWP.region ?_
      refine rC (ldA_ (cs := [_, _, _, _, _, _, _]) ty_agg_110 ty_size_110 rfl) ?_
      refine ARun.call (lit_lt rfl) go_128 rfl (cf _) ?_
      rintro _ S1 ⟨rfl, h1⟩
      rw [h1]; clear h1 S1
      refine rC (Calm.move rfl) ?_
      first | refine rS 14 ?_ | refine rU 14 ?_ | refine rG 14 (ldA_ (cs := [_, _, _, _, _, _, _]) ty_agg_110 ty_size_110 rfl) ?_
      first | refine rS 14 ?_ | refine rU 14 ?_ | refine rG 14 (Calm.build (cs := [_, _, _, _, _, _, _]) ty_bld_110 rfl rfl) ?_
      first | refine rS 14 ?_ | refine rU 14 ?_ | refine rG 14 (Calm.bin rfl rfl (BIN_struct)) ?_
      refine rC ((by first | exact Calm.pickT rfl rfl | exact Calm.pickF rfl rfl)) ?_
      refine rC (Calm.assign rfl) ?_
      refine arun_nil ?_
      refine athen_n ?_
      refine AWP.sub [(0, _), (1, _), (2, _), (4, _), (6, _), (11, _)] ⟨rfl, rfl, rfl, rfl, rfl, rfl, trivial⟩ ?_
      refine AWP.ret ?_
      refine athen_ret ?_
      refine ⟨_, M, ⟨_, _, rfl, rfl, rfl⟩, less_, ?_⟩
      exact ⟨rfl, rfl⟩
    · rw [decide_eq_false q2] at cf
      have ee : decide (Sound d x tick) = decide (x = F1) := decide_eq_decide.2 ⟨fun h => h.elim (fun h => h.2.resolve_left q2) (fun h => absurd h.1 q1), fun h => .inl ⟨q1, .inr h⟩⟩
      rw [ee]
      refine ACall.enter (args := [.pointer (some ⟨p, 0, none⟩), .agg #[.string x.name, .int .i64 x.sector, .string x.data, .int .i64 x.pins, .bool x.dirty, .int .u64 x.tick, .bool x.leased], .int .u64 tick]) (rs := [.tmp 6]) 69 [(0, .pointer (some ⟨p, 0, none⟩)), (1, .agg #[.string x.name, .int .i64 x.sector, .string x.data, .int .i64 x.pins, .bool x.dirty, .int .u64 x.tick, .bool x.leased]), (2, .int .u64 tick)] Try.func104 rfl rfl (Nat.le_of_ble_eq_true rfl) rfl ⟨rfl, rfl, rfl, trivial⟩ ?_
      refine AWP.seq ?_
      refine AWP.region ?_
      refine ARun.boxA (cs := [_, _, _, _, _, _, _]) (lit_lt rfl) rfl ?_
      intro b4 f4
      have g4 := f4
      repeat ((with_reducible replace g4 := fresh_set g4); obtain ⟨g4, _⟩ := g4)
      (try simp only [List.length_cons, List.length_nil, Nat.zero_add, Nat.reduceAdd])
      refine rC (Calm.assign rfl) ?_
      refine arun_nil ?_
      refine athen_n ?_
      refine AWP.seq ?_
      refine AWP.seq ?_
      refine AWP.region ?_
      refine rC (ldA_ (cs := [_, _, _, _, _, _, _]) ty_agg_110 ty_size_110 rfl) ?_
      refine ARun.call (lit_lt rfl) go_78 rfl (ch _) ?_
      rintro _ S1 ⟨rfl, h1⟩
      rw [h1]; clear h1 S1
      refine rC (Calm.un rfl (una_not _)) ?_
      refine arun_nil ?_
      refine athen_n ?_
      refine AWP.sub [(0, _), (1, _), (2, _), (4, _), (6, _), (11, _)] ⟨rfl, rfl, rfl, rfl, rfl, rfl, trivial⟩ ?_
      refine AWP.condT rfl (by first | rfl | (simp; done) | (simp; omega)) ?_
      refine AWP.seq ?_
      refine AWP.region ?_
      refine rC (ldA_ (cs := [_, _, _, _, _, _, _]) ty_agg_110 ty_size_110 rfl) ?_
      refine ARun.call (lit_lt rfl) go_128 rfl (cf _) ?_
      rintro _ S1 ⟨rfl, h1⟩
      rw [h1]; clear h1 S1
      refine rC (Calm.move rfl) ?_
      first | refine rS 14 ?_ | refine rU 14 ?_ | refine rG 14 (ldA_ (cs := [_, _, _, _, _, _, _]) ty_agg_110 ty_size_110 rfl) ?_
      first | refine rS 14 ?_ | refine rU 14 ?_ | refine rG 14 (Calm.build (cs := [_, _, _, _, _, _, _]) ty_bld_110 rfl rfl) ?_
      first | refine rS 14 ?_ | refine rU 14 ?_ | refine rG 14 (Calm.bin rfl rfl (bin_eql_frame x F1)) ?_
      refine rC ((by first | exact Calm.pickT rfl rfl | exact Calm.pickF rfl rfl)) ?_
      refine rC (Calm.assign rfl) ?_
      refine arun_nil ?_
      refine athen_n ?_
      refine AWP.sub [(0, _), (1, _), (2, _), (4, _), (6, _), (11, _)] ⟨rfl, rfl, rfl, rfl, rfl, rfl, trivial⟩ ?_
      refine AWP.ret ?_
      refine athen_ret ?_
      refine ⟨_, M, ⟨_, _, rfl, rfl, rfl⟩, less_, ?_⟩
      exact ⟨rfl, rfl⟩
end Go.Proofs.Ytkeiphkccnfhoaa
namespace Go.Proofs.Ytkeiphkccnfhoaa
open Go.RowKit
open Mv Disk
set_option linter.unusedVariables false
set_option linter.unusedSimpArgs false
set_option maxRecDepth 20000
theorem fr_len (x : Fr) : (frF x).length = 7 := rfl
theorem pl_check1 (x y : Fr) (nb : Nat) (S : Mem) (hk : S.Knows ⟨nb, 0, none⟩ (frF x)) :
    ACall Try.prog 106 #[frV y, .pointer (some ⟨nb, 0, none⟩)] S fun r S' => r = .bool (decide (like x y)) ∧ S' = S := by
  have c := fun S => pl_like x y S
  unfold frV frF at *
  refine ACall.enter (args := [.agg #[.string y.name, .int .i64 y.sector, .string y.data, .int .i64 y.pins, .bool y.dirty, .int .u64 y.tick, .bool y.leased], .pointer (some ⟨nb, 0, none⟩)]) (rs := [.tmp 3]) 7 [(0, .agg #[.string y.name, .int .i64 y.sector, .string y.data, .int .i64 y.pins, .bool y.dirty, .int .u64 y.tick, .bool y.leased]), (1, .pointer (some ⟨nb, 0, none⟩))] Try.func106 rfl rfl (Nat.le_of_ble_eq_true rfl) rfl ⟨rfl, rfl, trivial⟩ ?_
  refine AWP.seq ?_
  refine AWP.region ?_
  refine ARun.boxA (cs := [_, _, _, _, _, _, _]) (lit_lt rfl) rfl ?_
  intro b2 f2
  have g2 := f2
  repeat ((with_reducible replace g2 := fresh_set g2); obtain ⟨g2, _⟩ := g2)
  (try simp only [List.length_cons, List.length_nil, Nat.zero_add, Nat.reduceAdd])
  refine rC (Calm.assign rfl) ?_
  refine arun_nil ?_
  refine athen_n ?_
  refine AWP.seq ?_
  refine AWP.region ?_
  refine rC (ldA_ (cs := [_, _, _, _, _, _, _]) ty_agg_110 ty_size_110 rfl) ?_
  refine rC (ldA_ (cs := [_, _, _, _, _, _, _]) ty_agg_110 ty_size_110 rfl) ?_
  refine ARun.call (lit_lt rfl) go_107 rfl (c _) ?_
  rintro _ S1 ⟨rfl, h1⟩
  rw [h1]; clear h1 S1
  refine rC (Calm.assign rfl) ?_
  refine arun_nil ?_
  refine athen_n ?_
  refine AWP.sub [(0, _), (1, _), (2, _), (3, _)] ⟨rfl, rfl, rfl, rfl, trivial⟩ ?_
  refine AWP.ret ?_
  refine ⟨_, S, ⟨_, _, rfl, rfl, rfl⟩, less_, ?_⟩
  exact ⟨rfl, rfl⟩
set_option maxHeartbeats 1000000 in
theorem pl_index (v : Value) (l : List Fr) (x : Fr) (nb : Nat) (S : Mem) (hl : Sl 7 frF S v l) (hk : S.Knows ⟨nb, 0, none⟩ (frF x)) :
    ACall Try.prog 125 #[v, .func (.func 106) #[] #[.pointer (some ⟨nb, 0, none⟩)]] S fun r S' => (∃ n : Int, r = .int .i64 n ∧ (0 ≤ n ↔ ∃ y ∈ l, like x y)) ∧ S' = S := by
  obtain ⟨a, cap, rfl, h1, h2, h3⟩ := id hl
  refine ACall.enter (args := [.slice a l.length cap, .func (.func 106) #[] #[.pointer (some ⟨nb, 0, none⟩)]]) (rs := [.tmp 4]) 19 [(0, .slice a l.length cap), (1, .func (.func 106) #[] #[.pointer (some ⟨nb, 0, none⟩)])] Try.func125 rfl rfl (Nat.le_of_ble_eq_true rfl) rfl ⟨rfl, rfl, trivial⟩ ?_
  refine AWP.seq ?_
  refine AWP.region ?_
  refine rC (Calm.assign rfl) ?_
  refine arun_nil ?_
  refine athen_n ?_
  refine AWP.seq ?_
  refine AWP.seq ?_
  refine AWP.region ?_
  refine rC (Calm.move rfl) ?_
  refine rC (Calm.lenSl Try.underlying57 rfl) ?_
  refine rC (Calm.move rfl) ?_
  refine arun_nil ?_
  refine athen_n ?_
  refine AWP.sub [(0, _), (1, _), (4, _), (7, _), (8, _)] ⟨rfl, rfl, rfl, rfl, rfl, trivial⟩ ?_
  refine AWP.block ?_
  refine AWP.loop (X := Nat) (fun x => [(0, .slice a l.length cap), (1, .func (.func 106) #[] #[.pointer (some ⟨nb, 0, none⟩)]), (7, .int .i64 l.length), (8, .int .i64 x)]) (fun x => S) (fun i => i ≤ l.length ∧ ∀ j (h : j < l.length), j < i → ¬ like x l[j]) (fun x => l.length - x) (0) ⟨rfl, rfl, rfl, rfl, trivial⟩ (Mem.Less.refl _) (⟨Nat.zero_le _, fun j _ h => absurd h (Nat.not_lt_zero _)⟩) ?_
  rintro i ⟨hi, hall⟩
  (try dsimp only at *)
  refine AWP.seq ?_
  refine AWP.region ?_
  refine rC (Calm.bin rfl rfl b_lss) ?_
  refine arun_nil ?_
  refine athen_n ?_
  refine AWP.seq ?_
  refine AWP.condB rfl (fun hc => ?_) (fun hc => ?_)
  · have hc : i < l.length := by have := of_decide_eq_true hc; omega
    obtain ⟨b, off, rfl, hkk⟩ := h3.resolve_left (fun e => by subst e; simp at hc)
    have hki := hkk i hc
    have hall' : ¬ like x l[i] → ∀ j (h : j < l.length), j < i + 1 → ¬ like x l[j] := fun hn j h hj => by rcases Nat.lt_or_ge j i with h' | h'; exact hall j h h'; obtain rfl : j = i := (by omega); exact hn
    have hmem : l[i] ∈ l := List.getElem_mem hc
    generalize l[i] = y at *
    unfold frF at hki
    refine AWP.skip ?_
    refine athen_n ?_
    refine AWP.seq ?_
    refine AWP.block ?_
    refine AWP.seq ?_
    refine AWP.region ?_
    refine rC (Calm.move rfl) ?_
    refine rC (Calm.assign rfl) ?_
    refine arun_nil ?_
    refine athen_n ?_
    refine AWP.sub [(0, _), (1, _), (7, _), (8, _), (9, _), (5, _)] ⟨rfl, rfl, rfl, rfl, rfl, rfl, trivial⟩ ?_
    refine AWP.seq ?_
    refine AWP.region ?_
    refine rC (Calm.move rfl) ?_
    refine rC (Calm.move rfl) ?_
    refine rC (Calm.move rfl) ?_
    refine rC (Calm.indexS Try.underlying57 ty_size_110 rfl rfl (by omega) (by omega)) ?_
    refine rC (ldA_ (cs := [_, _, _, _, _, _, _]) ty_agg_110 ty_size_110 rfl) ?_
    refine ARun.callV (lit_lt rfl) go_106 rfl rfl (pl_check1 x y nb _ hk) ?_
    rintro _ S1 ⟨rfl, h1⟩
    rw [h1]; clear h1 S1
    refine arun_nil ?_
    refine athen_n ?_
    refine AWP.sub [(0, _), (1, _), (7, _), (8, _), (9, _), (5, _), (16, _)] ⟨rfl, rfl, rfl, rfl, rfl, rfl, rfl, trivial⟩ ?_
    refine AWP.condB rfl (fun hb => ?_) (fun hb => ?_)
    · refine AWP.seq ?_
      refine AWP.region ?_
      refine rC (Calm.move rfl) ?_
      refine rC (Calm.assign rfl) ?_
      refine arun_nil ?_
      refine athen_n ?_
      refine AWP.sub [(0, _), (1, _), (7, _), (8, _), (9, _), (5, _), (16, _), (4, _)] ⟨rfl, rfl, rfl, rfl, rfl, rfl, rfl, rfl, trivial⟩ ?_
      refine AWP.ret ?_
      refine ain_ret ?_
      refine athen_ret ?_
      refine athen_ret ?_
      refine ain_ret ?_
      refine athen_ret ?_
      refine ⟨_, S, ⟨_, _, rfl, rfl, rfl⟩, less_, ?_⟩
      exact ⟨⟨i, rfl, ⟨fun _ => ⟨y, hmem, of_decide_eq_true hb⟩, fun _ => by omega⟩⟩, rfl⟩
    · refine AWP.skip ?_
      refine ain_n ?_
      refine athen_n ?_
      refine AWP.region ?_
      refine rC (Calm.bin rfl rfl b_add_i64) ?_
      refine rC (Calm.move rfl) ?_
      refine arun_nil ?_
      refine athen_n ?_
      refine ⟨i + 1, ?_, ?_, ?_, ?_⟩
      all_goals (try dsimp only)
      · exact ⟨rfl, rfl, rfl, rfl, trivial⟩
      · exact less_
      · exact ⟨hc, hall' (of_decide_eq_false hb)⟩
      · omega
  · have hc : i = l.length := by have := of_decide_eq_false hc; omega
    refine AWP.exit ?_
    refine athen_exit ?_
    refine athen_exit ?_
    refine ain_same ?_
    refine athen_n ?_
    refine AWP.seq ?_
    refine AWP.region ?_
    refine rC (Calm.assign rfl) ?_
    refine arun_nil ?_
    refine athen_n ?_
    refine AWP.ret ?_
    refine ⟨_, S, ⟨_, _, rfl, rfl, rfl⟩, less_, ?_⟩
    exact ⟨⟨-1, rfl, ⟨fun h => by omega, fun ⟨y, hy, hn⟩ => by obtain ⟨j, hj, rfl⟩ := List.getElem_of_mem hy; exact absurd hn (hall j hj (by omega))⟩⟩, rfl⟩
theorem pl_contains (v : Value) (l : List Fr) (x : Fr) (nb : Nat) (S : Mem) (hl : Sl 7 frF S v l) (hk : S.Knows ⟨nb, 0, none⟩ (frF x)) :
    ACall Try.prog 105 #[v, .func (.func 106) #[] #[.pointer (some ⟨nb, 0, none⟩)]] S fun r S' => (∃ t : Bool, r = .bool t ∧ (t = true ↔ ∃ y ∈ l, like x y)) ∧ S' = S := by
  refine ACall.enter (args := [v, .func (.func 106) #[] #[.pointer (some ⟨nb, 0, none⟩)]]) (rs := [.tmp 4]) 9 [(0, v), (1, .func (.func 106) #[] #[.pointer (some ⟨nb, 0, none⟩)])] Try.func105 rfl rfl (Nat.le_of_ble_eq_true rfl) rfl ⟨rfl, rfl, trivial⟩ ?_
  refine AWP.seq ?_
  refine AWP.region ?_
  refine rC (Calm.assign rfl) ?_
  refine arun_nil ?_
  refine athen_n ?_
  refine AWP.seq ?_
  refine AWP.region ?_
  refine rC (Calm.move rfl) ?_
  refine rC (Calm.move rfl) ?_
  refine ARun.call (lit_lt rfl) go_125 rfl (pl_index v l x nb _ hl hk) ?_
  rintro _ S1 ⟨⟨n, rfl, hn⟩, h1⟩
  rw [h1]; clear h1 S1
  refine rC (Calm.bin rfl rfl b_geq) ?_
  refine rC (Calm.assign rfl) ?_
  refine arun_nil ?_
  refine athen_n ?_
  refine AWP.sub [(0, _), (1, _), (4, _)] ⟨rfl, rfl, rfl, trivial⟩ ?_
  refine AWP.ret ?_
  refine ⟨_, S, ⟨_, _, rfl, rfl, rfl⟩, less_, ?_⟩
  exact ⟨⟨decide (0 ≤ n), rfl, by rw [decide_eq_true_eq]; exact hn⟩, rfl⟩
end Go.Proofs.Ytkeiphkccnfhoaa
