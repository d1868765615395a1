/-
  Disk: settle.
-/
import Derived.Test.YtkeiphkccnfhoaaDisk18
namespace Go.Proofs.Ytkeiphkccnfhoaa
open Go.RowKit
open Mv Disk
set_option linter.unusedVariables false
set_option linter.unusedSimpArgs false
set_option maxRecDepth 4000
abbrev u8T : TypeId := 5
/-- What the bytes of an extent are in: none, or a block of one's own. -/
def OkB (M : Mem) (o : Option (Nat × Nat)) (n : Nat) : Prop := ∀ b c, o = some (b, c) → Fresh M b ∧ n ≤ c
set_option maxHeartbeats 8000000 in
theorem dev_settle (p : Nat) (d : D) (S : Mem) (oE oW : Option (Nat × Nat)) (hok : OkV S p d oE oW) (hR : Right d) (f : FuncId) (caps : List Value) (hgo : goFn Try.prog f = true) (kp : Nat → Bool)
    (hkeep : ∀ (k : Nat) (M : Mem), k < d.waits.length → S.Less M → ACall Try.prog f (([] : List Value) ++ [Value.int .i64 (k : Int)] ++ caps).toArray M fun r S' => r = .bool (kp k) ∧ S' = M) :
    ACall Try.prog 67 #[.pointer (some ⟨p, 0, none⟩), .func (.func f) #[] caps.toArray] (devM S p d oE oW) fun r S' => r = .tuple #[] ∧ OkV S p (settleD d kp) oE none ∧ S' = devM S p (settleD d kp) oE none := by
  have hrl := right_len hR
  have hlens := right_lens hR
  have hwl := hR.wl
  have hp : (devM S p d oE oW).own p = some (devB d oE oW) := Mem.own_set_same _ _ _
  obtain ⟨qe, de, hqe⟩ := outV_eq hok.dk.e
  obtain ⟨qw, dw, hqw⟩ := outV_eq hok.dk.w
  have hp' := hp
  unfold devB at hp'
  refine ACall.enter (args := [.pointer (some ⟨p, 0, none⟩), .func (.func f) #[] caps.toArray]) (rs := []) 73 [(0, .pointer (some ⟨p, 0, none⟩)), (1, .func (.func f) #[] caps.toArray)] Try.func67 rfl rfl (Nat.le_of_ble_eq_true rfl) rfl ⟨rfl, rfl, trivial⟩ ?_
  refine AWP.seq ?_
  refine AWP.seq ?_
  refine AWP.region ?_
  refine rC (Calm.move rfl) ?_
  refine rC (Calm.nilCheck rfl) ?_
  refine rC (Calm.fieldAddr ty_field_90_0 rfl) ?_
  refine rC (Calm.fieldAddr ty_field_25_1 rfl) ?_
  refine rC (ld_ ty_plain_22 rfl) ?_
  refine rC ((by rw [hqe]; exact Calm.lenSl Try.underlying22 rfl)) ?_
  refine rC (Calm.move rfl) ?_
  refine arun_nil ?_
  refine athen_n ?_
  refine AWP.sub [(0, _), (1, _), (13, _), (14, _), (15, _)] ⟨rfl, rfl, rfl, rfl, rfl, trivial⟩ ?_
  refine AWP.block ?_
  refine AWP.loop (X := Nat) (fun x => [(0, .pointer (some ⟨p, 0, none⟩)), (1, .func (.func f) #[] caps.toArray), (13, outV oE d.ext.length), (14, .int .i64 d.ext.length), (15, .int .i64 x)]) (fun x => devM S p { d with ext := mixE kp d.waits d.ext x } oE oW) (fun x => x ≤ d.ext.length ∧ OkV S p { d with ext := mixE kp d.waits d.ext x } oE oW) (fun x => d.ext.length - x) (0) ⟨rfl, rfl, rfl, rfl, rfl, trivial⟩ (by rw [mixE_zero]; exact Mem.Less.refl _) (⟨Nat.zero_le _, by rw [mixE_zero]; exact hok⟩) ?_
  rintro i ⟨hi, hoki⟩
  (try dsimp only at *)
  have hml := mixE_len kp d.waits d.ext i
  have hpi : (devM S p { d with ext := mixE kp d.waits d.ext i } oE oW).own p = some (devB { d with ext := mixE kp d.waits d.ext i } oE oW) := Mem.own_set_same _ _ _
  unfold devB at hpi
  simp only at hpi
  refine AWP.seq ?_
  refine AWP.region ?_
  refine rC (Calm.bin rfl rfl b_lss) ?_
  refine arun_nil ?_
  refine athen_n ?_
  refine AWP.seq ?_
  refine AWP.condB rfl (fun hc => ?_) (fun hc => ?_)
  · have hc : i < d.ext.length := by have := of_decide_eq_true hc; omega
    obtain ⟨⟨b, c⟩, rfl⟩ : ∃ q, oE = some q := by cases hq : oE with | none => (have := hoki.fits.e0 hq; simp only at this; omega) | some q => exact ⟨q, rfl⟩
    have hbE := dev_ownE hoki
    have hmg := mixE_get kp d.waits d.ext i hc (by omega)
    have hmsu := mixE_succ kp d.waits d.ext i hc
    have hxm := List.getElem_mem hc
    have hfit := right_fit hR hxm
    have hsx := right_sec hR hxm
    have hasz := fun n h => acc_size (kp := kp) hfit n h
    have hSi := hoki.less
    have hWS : Sl 3 wrF (devM S p { d with ext := mixE kp d.waits d.ext i } (some (b, c)) oW) (outV oW d.waits.length) d.waits := (sl_outN wr_len (e := wrT) hoki.dk.w rfl hlens.2).less (Mem.less_set _ _ _ hoki.fr.1)
    rw [hqw] at hWS
    have hki : (devM S p { d with ext := mixE kp d.waits d.ext i } (some (b, c)) oW).Knows ⟨b, 0 + i * 2, none⟩ (extF d.ext[i]) := Mem.own_knows hbE _ _ (fun j v hj => by have := flat_get ext_len (mixE kp d.waits d.ext i) i (by omega) j v (by rw [hmg]; exact hj); rw [← this]; congr 1; omega)
    have hdx : doneX kp d.waits d.ext[i] = (d.ext[i].1, (accW kp d.ext[i] d.waits d.waits.length).getD d.ext[i].2) := rfl
    rw [hdx] at hmsu
    have hasu := accW_succ kp d.ext[i] d.waits
    have hse := fun y => dev_setE (d' := { d with ext := (mixE kp d.waits d.ext i).set i y }) hoki rfl (by simp) rfl rfl rfl
    have hcl : 0 + i * 2 + 1 < ((mixE kp d.waits d.ext i).flatMap extF).length := by rw [flat_length ext_len, hml]; omega
    simp only at hbE hse
    generalize hxx : d.ext[i] = x at *
    unfold extF at hki
    generalize hMi : devM S p { d with ext := mixE kp d.waits d.ext i } (some (b, c)) oW = Mi at *
    refine AWP.skip ?_
    refine athen_n ?_
    refine AWP.seq ?_
    refine AWP.block ?_
    refine AWP.seq ?_
    refine AWP.region ?_
    refine rC (Calm.move rfl) ?_
    refine rC (Calm.indexS Try.underlying22 ty_size_54 rfl rfl (by omega) (by omega)) ?_
    refine rC (ldA_ (cs := [_, _]) ty_agg_54 ty_size_54 rfl) ?_
    refine ARun.alloc (lit_lt rfl) ty_zero_54 ?_
    intro b5 f5
    have g5 := f5
    repeat ((with_reducible replace g5 := fresh_set g5); obtain ⟨g5, _⟩ := g5)
    (try simp only [List.length_cons, List.length_nil, Nat.zero_add, Nat.reduceAdd])
    refine rC (Calm.assign rfl) ?_
    first | refine ARun.storeAll rfl rfl ty_size_54 own_ rfl rfl ?_ | refine ARun.store rfl rfl ty_size_54 own_ lens_ rfl ?_
    (try simp only [Mem.set_set, List.set_cons_zero, List.set_cons_succ, Nat.zero_add, Nat.reduceAdd])
    refine arun_nil ?_
    refine athen_n ?_
    refine AWP.sub [(0, _), (1, _), (13, _), (14, _), (15, _), (16, _), (5, _), (4, _)] ⟨rfl, rfl, rfl, rfl, rfl, rfl, rfl, rfl, trivial⟩ ?_
    have hpb5 := f5.ne hpi
    refine AWP.seq ?_
    refine AWP.region ?_
    refine rC (Calm.assign rfl) ?_
    refine arun_nil ?_
    refine athen_n ?_
    refine AWP.seq ?_
    refine AWP.seq ?_
    refine AWP.region ?_
    refine rC (Calm.move rfl) ?_
    refine rC (Calm.nilCheck rfl) ?_
    refine rC (Calm.fieldAddr ty_field_90_0 rfl) ?_
    refine rC (Calm.fieldAddr ty_field_25_2 rfl) ?_
    refine rC (ld_ ty_plain_23 rfl) ?_
    refine rC ((by rw [hqw]; exact Calm.lenSl Try.underlying23 rfl)) ?_
    rw [hqw]
    refine rC (Calm.move rfl) ?_
    refine arun_nil ?_
    refine athen_n ?_
    refine AWP.sub [(0, _), (1, _), (13, _), (14, _), (15, _), (16, _), (5, _), (4, _), (6, _), (24, _), (25, _), (26, _)] ⟨rfl, rfl, rfl, rfl, rfl, rfl, rfl, rfl, rfl, rfl, rfl, rfl, trivial⟩ ?_
    refine AWP.block ?_
    refine AWP.loop (X := Nat × Option (Nat × Nat)) (fun y => [(0, .pointer (some ⟨p, 0, none⟩)), (1, .func (.func f) #[] caps.toArray), (13, outV (some (b, c)) d.ext.length), (14, .int .i64 d.ext.length), (15, .int .i64 i), (4, .int .i64 i), (5, .pointer (some ⟨b5, 0, none⟩)), (6, outV y.2 x.2.size), (24, .slice qw d.waits.length dw), (25, .int .i64 d.waits.length), (26, .int .i64 y.1)]) (fun y => outM (Mi.set b5 ⟨54, [.string x.1, .string x.2], 2⟩) y.2 u8T (cellsB ((accW kp x d.waits y.1).getD x.2).data.toList)) (fun y => y.1 ≤ d.waits.length ∧ OkB (Mi.set b5 ⟨54, [.string x.1, .string x.2], 2⟩) y.2 x.2.size ∧ (y.2 = none ↔ accW kp x d.waits y.1 = none)) (fun y => d.waits.length - y.1) ((0, none)) ⟨rfl, rfl, rfl, rfl, rfl, rfl, rfl, rfl, rfl, rfl, rfl, trivial⟩ (Mem.Less.refl _) (⟨Nat.zero_le _, (fun b c e => by cases e), by simp [accW]⟩) ?_
    rintro ⟨k, ob⟩ ⟨hk, hob, hoa⟩
    (try dsimp only at *)
    have hsz := hasz k hk
    refine AWP.seq ?_
    refine AWP.region ?_
    refine rC (Calm.bin rfl rfl b_lss) ?_
    refine arun_nil ?_
    refine athen_n ?_
    refine AWP.seq ?_
    refine AWP.condB rfl (fun hc2 => ?_) (fun hc2 => ?_)
    · have hc2 : k < d.waits.length := by have := of_decide_eq_true hc2; omega
      obtain ⟨_, _, ew1, ew2, ew3, hW3⟩ := id hWS
      cases ew1
      obtain ⟨bw, ow, rfl, hkkw⟩ := hW3.resolve_left (fun e => by rw [e] at hc2; simp at hc2)
      have hkw := hkkw k hc2
      have hsu := hasu k hc2
      have hfw := hfit _ (List.getElem_mem hc2)
      generalize hw : d.waits[k] = w at *
      unfold wrF at hkw
      rcases ob with _ | ⟨bd, cd⟩
      · have hacc : accW kp x d.waits k = none := hoa.1 rfl
        rw [hacc] at hsu hsz
        simp only [Option.getD_none] at hsu hsz
        have hb5 : (Mi.set b5 ⟨54, [.string x.1, .string x.2], 2⟩).own b5 = some ⟨54, [.string x.1, .string x.2], 2⟩ := Mem.own_set_same _ _ _
        simp only [outM, outV]
        have hML : Mi.Less (Mi.set b5 ⟨54, [.string x.1, .string x.2], 2⟩) := Mem.less_set _ _ _ f5.1
        have hkw' := hkw.less hML
        refine AWP.skip ?_
        refine athen_n ?_
        refine AWP.seq ?_
        refine AWP.block ?_
        refine AWP.seq ?_
        refine AWP.region ?_
        refine rC (Calm.move rfl) ?_
        refine rC (Calm.indexS Try.underlying23 ty_size_51 rfl rfl (by omega) (by omega)) ?_
        refine rC (ldA_ (cs := [_, _, _]) ty_agg_51 ty_size_51 rfl) ?_
        refine ARun.alloc (lit_lt rfl) ty_zero_51 ?_
        intro b8 f8
        have g8 := f8
        repeat ((with_reducible replace g8 := fresh_set g8); obtain ⟨g8, _⟩ := g8)
        (try simp only [List.length_cons, List.length_nil, Nat.zero_add, Nat.reduceAdd])
        refine rC (Calm.assign rfl) ?_
        first | refine ARun.storeAll rfl rfl ty_size_51 own_ rfl rfl ?_ | refine ARun.store rfl rfl ty_size_51 own_ lens_ rfl ?_
        (try simp only [Mem.set_set, List.set_cons_zero, List.set_cons_succ, Nat.zero_add, Nat.reduceAdd])
        refine arun_nil ?_
        refine athen_n ?_
        refine AWP.sub [(0, _), (1, _), (13, _), (14, _), (15, _), (4, _), (5, _), (6, _), (24, _), (25, _), (26, _), (27, _), (8, _), (7, _)] ⟨rfl, rfl, rfl, rfl, rfl, rfl, rfl, rfl, rfl, rfl, rfl, rfl, rfl, rfl, trivial⟩ ?_
        by_cases hn : w.1 = x.1
        · by_cases hkk : kp k = true
          · rw [if_pos ⟨hn, hkk⟩] at hsu
            obtain ⟨hw0, hw1, hw2⟩ := hfw hn
            refine AWP.seq ?_
            refine AWP.seq ?_
            refine AWP.region ?_
            refine rC (Calm.fieldAddr ty_field_51_0 rfl) ?_
            refine rC (ld_ ty_plain_9 rfl) ?_
            refine rC (Calm.fieldAddr ty_field_54_0 rfl) ?_
            refine rC (ld_ ty_plain_9 rfl) ?_
            refine rC (Calm.bin rfl rfl (bin_bool (bin_str_neq _ _) (bnot_dec_false hn))) ?_
            refine rC (Calm.move rfl) ?_
            first | refine rS 36 ?_ | refine rU 36 ?_ | refine rG 36 (Calm.move rfl) ?_
            first | refine rS 36 ?_ | refine rU 36 ?_ | refine rG 36 (Calm.move rfl) ?_
            refine rUn 36 ?_
            refine ARun.callV (first := []) (cap := caps) (lit_lt rfl) hgo rfl rfl (hkeep k _ hc2 (hSi.trans (hML.trans less_))) ?_
            rintro _ S1 ⟨rfl, h1⟩
            rw [h1, hkk]; clear h1 S1
            first | refine rS 36 ?_ | refine rU 36 ?_ | refine rG 36 (Calm.un rfl (una_not _)) ?_
            refine rC ((by first | exact Calm.pickT rfl rfl | exact Calm.pickF rfl rfl)) ?_
            refine arun_nil ?_
            refine athen_n ?_
            refine AWP.sub [(0, _), (1, _), (13, _), (14, _), (15, _), (4, _), (5, _), (6, _), (24, _), (25, _), (26, _), (27, _), (8, _), (7, _), (41, _)] ⟨rfl, rfl, rfl, rfl, rfl, rfl, rfl, rfl, rfl, rfl, rfl, rfl, rfl, rfl, rfl, trivial⟩ ?_
            refine AWP.condF rfl (by first | rfl | (simp; done) | (simp; omega)) ?_
            refine AWP.skip ?_
            refine athen_n ?_
            refine AWP.seq ?_
            refine AWP.seq ?_
            refine AWP.region ?_
            refine rC (Calm.move rfl) ?_
            refine rC (Calm.bin rfl rfl (bin_nil_eql Try.underlying92)) ?_
            refine arun_nil ?_
            refine athen_n ?_
            refine AWP.sub [(0, _), (1, _), (13, _), (14, _), (15, _), (4, _), (5, _), (6, _), (24, _), (25, _), (26, _), (27, _), (8, _), (7, _), (41, _), (43, _)] ⟨rfl, rfl, rfl, rfl, rfl, rfl, rfl, rfl, rfl, rfl, rfl, rfl, rfl, rfl, rfl, rfl, trivial⟩ ?_
            refine AWP.condT rfl (by first | rfl | (simp; done) | (simp; omega)) ?_
            refine AWP.region ?_
            refine rC (Calm.fieldAddr ty_field_54_1 rfl) ?_
            refine rC (ld_ ty_plain_9 rfl) ?_
            refine ARun.toBytes (lit_lt rfl) ty_str_9 ty_bytes_92 rfl ?_
            intro b46 c46 f46 hc46
            have g46 := f46
            repeat ((with_reducible replace g46 := fresh_set g46); obtain ⟨g46, _⟩ := g46)
            refine rC (Calm.assign rfl) ?_
            refine arun_nil ?_
            refine athen_n ?_
            refine AWP.sub [(0, _), (1, _), (13, _), (14, _), (15, _), (4, _), (5, _), (6, _), (24, _), (25, _), (26, _), (27, _), (8, _), (7, _), (41, _), (43, _)] ⟨rfl, rfl, rfl, rfl, rfl, rfl, rfl, rfl, rfl, rfl, rfl, rfl, rfl, rfl, rfl, rfl, trivial⟩ ?_
            refine AWP.draw [(0, true), (1, true), (2, true), (3, true), (4, true), (5, true), (6, true), (7, false)] [7] mixed (by kernel_rfl) ?_
            refine dP (hc := fun _ => Calm.move rfl) (h := ?_)
            refine dP (hc := fun _ => Calm.fieldAddr ty_field_51_1 rfl) (h := ?_)
            refine dC (hc := ld_ ty_plain_3 rfl) (h := ?_)
            refine dP (hc := fun _ => Calm.bin rfl rfl b_mul_i64) (h := ?_)
            refine dP (hc := fun _ => Calm.sliceLo (64 * w.2.1.toNat) Try.underlying92 ty_size_5 rfl rfl (by omega) (by omega) (by omega)) (h := ?_)
            refine dP (hc := fun _ => Calm.fieldAddr ty_field_51_2 rfl) (h := ?_)
            refine dC (hc := ld_ ty_plain_9 rfl) (h := ?_)
            refine draw_only rfl ?_
            refine ARun.copyStr (lit_lt rfl) ty_sl_92 rfl own_ rfl (by omega) (by simp only [cellsB_length, size_data]; omega) ?_
            have hpc := putS_cells (x := x.2) (w := w) hw1 hw2
            refine arun_nil ⟨fun h => absurd h (by decide), ?_⟩
            refine draw_nil ?_
            refine ain_n ?_
            refine athen_n ?_
            refine AWP.sub [(0, _), (1, _), (13, _), (14, _), (15, _), (4, _), (5, _), (6, _), (24, _), (25, _), (26, _), (27, _), (8, _), (7, _), (41, _), (43, _)] ⟨rfl, rfl, rfl, rfl, rfl, rfl, rfl, rfl, rfl, rfl, rfl, rfl, rfl, rfl, rfl, rfl, trivial⟩ ?_
            refine AWP.region ?_
            refine rC (Calm.bin rfl rfl b_add_i64) ?_
            refine rC (Calm.move rfl) ?_
            refine arun_nil ?_
            refine athen_n ?_
            refine ⟨(k + 1, some (b46, c46)), ?_, ?_, ?_, ?_⟩
            all_goals (try dsimp only)
            · exact ⟨rfl, rfl, rfl, rfl, rfl, rfl, rfl, rfl, rfl, rfl, some_int (by simp), trivial⟩
            · simp only [hsu, Option.getD_some, ← hpc, outM]; exact less_
            · exact ⟨hc2, fun b' c' e => by cases e; exact ⟨fresh_more g46 (by assumption), hc46⟩, by simp [hsu]⟩
            · omega
          · rw [if_neg (fun h => hkk h.2)] at hsu
            refine AWP.seq ?_
            refine AWP.seq ?_
            refine AWP.region ?_
            refine rC (Calm.fieldAddr ty_field_51_0 rfl) ?_
            refine rC (ld_ ty_plain_9 rfl) ?_
            refine rC (Calm.fieldAddr ty_field_54_0 rfl) ?_
            refine rC (ld_ ty_plain_9 rfl) ?_
            refine rC (Calm.bin rfl rfl (bin_bool (bin_str_neq _ _) (bnot_dec_false hn))) ?_
            refine rC (Calm.move rfl) ?_
            first | refine rS 36 ?_ | refine rU 36 ?_ | refine rG 36 (Calm.move rfl) ?_
            first | refine rS 36 ?_ | refine rU 36 ?_ | refine rG 36 (Calm.move rfl) ?_
            refine rUn 36 ?_
            refine ARun.callV (first := []) (cap := caps) (lit_lt rfl) hgo rfl rfl (hkeep k _ hc2 (hSi.trans (hML.trans less_))) ?_
            rintro _ S1 ⟨rfl, h1⟩
            rw [h1, Bool.eq_false_iff.2 hkk]; clear h1 S1
            first | refine rS 36 ?_ | refine rU 36 ?_ | refine rG 36 (Calm.un rfl (una_not _)) ?_
            refine rC ((by first | exact Calm.pickT rfl rfl | exact Calm.pickF rfl rfl)) ?_
            refine arun_nil ?_
            refine athen_n ?_
            refine AWP.sub [(0, _), (1, _), (13, _), (14, _), (15, _), (4, _), (5, _), (6, _), (24, _), (25, _), (26, _), (27, _), (8, _), (7, _), (41, _)] ⟨rfl, rfl, rfl, rfl, rfl, rfl, rfl, rfl, rfl, rfl, rfl, rfl, rfl, rfl, rfl, trivial⟩ ?_
            refine AWP.condT rfl (by first | rfl | (simp; done) | (simp; omega)) ?_
            refine AWP.exit ?_
            refine athen_exit ?_
            refine ain_same ?_
            refine athen_n ?_
            refine AWP.region ?_
            refine rC (Calm.bin rfl rfl b_add_i64) ?_
            refine rC (Calm.move rfl) ?_
            refine arun_nil ?_
            refine athen_n ?_
            refine ⟨(k + 1, none), ?_, ?_, ?_, ?_⟩
            all_goals (try dsimp only)
            · exact ⟨rfl, rfl, rfl, rfl, rfl, rfl, rfl, rfl, rfl, rfl, some_int (by simp), trivial⟩
            · (try simp only [hsu, outM, Option.getD_none, Option.getD_some]); exact less_
            · exact ⟨hc2, hob, by simp [hsu]⟩
            · omega
        · rw [if_neg (fun h => hn h.1)] at hsu
          refine AWP.seq ?_
          refine AWP.seq ?_
          refine AWP.region ?_
          refine rC (Calm.fieldAddr ty_field_51_0 rfl) ?_
          refine rC (ld_ ty_plain_9 rfl) ?_
          refine rC (Calm.fieldAddr ty_field_54_0 rfl) ?_
          refine rC (ld_ ty_plain_9 rfl) ?_
          refine rC (Calm.bin rfl rfl (bin_bool (bin_str_neq _ _) (bnot_dec_true hn))) ?_
          refine rC (Calm.move rfl) ?_
          first | refine rS 36 ?_ | refine rU 36 ?_ | refine rG 36 (Calm.move rfl) ?_
          first | refine rS 36 ?_ | refine rU 36 ?_ | refine rG 36 (Calm.move rfl) ?_
          first | refine rS 36 ?_ | refine rU 36 ?_
          first | refine rS 36 ?_ | refine rU 36 ?_ | refine rG 36 (Calm.un rfl (una_not _)) ?_
          refine rC ((by first | exact Calm.pickT rfl rfl | exact Calm.pickF rfl rfl)) ?_
          refine arun_nil ?_
          refine athen_n ?_
          refine AWP.sub [(0, _), (1, _), (13, _), (14, _), (15, _), (4, _), (5, _), (6, _), (24, _), (25, _), (26, _), (27, _), (8, _), (7, _), (41, _)] ⟨rfl, rfl, rfl, rfl, rfl, rfl, rfl, rfl, rfl, rfl, rfl, rfl, rfl, rfl, rfl, trivial⟩ ?_
          refine AWP.condT rfl (by first | rfl | (simp; done) | (simp; omega)) ?_
          refine AWP.exit ?_
          refine athen_exit ?_
          refine ain_same ?_
          refine athen_n ?_
          refine AWP.region ?_
          refine rC (Calm.bin rfl rfl b_add_i64) ?_
          refine rC (Calm.move rfl) ?_
          refine arun_nil ?_
          refine athen_n ?_
          refine ⟨(k + 1, none), ?_, ?_, ?_, ?_⟩
          all_goals (try dsimp only)
          · exact ⟨rfl, rfl, rfl, rfl, rfl, rfl, rfl, rfl, rfl, rfl, some_int (by simp), trivial⟩
          · (try simp only [hsu, outM, Option.getD_none, Option.getD_some]); exact less_
          · exact ⟨hc2, hob, by simp [hsu]⟩
          · omega
      · obtain ⟨hfb, hcb⟩ := hob bd cd rfl
        obtain ⟨hfb1, hbd5⟩ := fresh_set hfb
        have hbd5' := Ne.symm hbd5
        obtain ⟨cur, hacc⟩ : ∃ cur, accW kp x d.waits k = some cur := by cases h : accW kp x d.waits k with | none => exact absurd (hoa.2 h) (by simp) | some cur => exact ⟨cur, rfl⟩
        rw [hacc] at hsu hsz ⊢
        simp only [Option.getD_some] at hsu hsz ⊢
        have hb5 : ((Mi.set b5 ⟨54, [.string x.1, .string x.2], 2⟩).set bd ⟨u8T, cellsB cur.data.toList, cd⟩).own b5 = some ⟨54, [.string x.1, .string x.2], 2⟩ := (Mem.own_set_other _ _ hbd5').trans (Mem.own_set_same _ _ _)
        simp only [outM, outV]
        have hML : Mi.Less ((Mi.set b5 ⟨54, [.string x.1, .string x.2], 2⟩).set bd ⟨u8T, cellsB cur.data.toList, cd⟩) := (Mem.less_set _ _ _ f5.1).trans (Mem.less_set _ _ _ hfb.1)
        have hkw' := hkw.less hML
        refine AWP.skip ?_
        refine athen_n ?_
        refine AWP.seq ?_
        refine AWP.block ?_
        refine AWP.seq ?_
        refine AWP.region ?_
        refine rC (Calm.move rfl) ?_
        refine rC (Calm.indexS Try.underlying23 ty_size_51 rfl rfl (by omega) (by omega)) ?_
        refine rC (ldA_ (cs := [_, _, _]) ty_agg_51 ty_size_51 rfl) ?_
        refine ARun.alloc (lit_lt rfl) ty_zero_51 ?_
        intro b8 f8
        have g8 := f8
        repeat ((with_reducible replace g8 := fresh_set g8); obtain ⟨g8, _⟩ := g8)
        (try simp only [List.length_cons, List.length_nil, Nat.zero_add, Nat.reduceAdd])
        refine rC (Calm.assign rfl) ?_
        first | refine ARun.storeAll rfl rfl ty_size_51 own_ rfl rfl ?_ | refine ARun.store rfl rfl ty_size_51 own_ lens_ rfl ?_
        (try simp only [Mem.set_set, List.set_cons_zero, List.set_cons_succ, Nat.zero_add, Nat.reduceAdd])
        refine arun_nil ?_
        refine athen_n ?_
        refine AWP.sub [(0, _), (1, _), (13, _), (14, _), (15, _), (4, _), (5, _), (6, _), (24, _), (25, _), (26, _), (27, _), (8, _), (7, _)] ⟨rfl, rfl, rfl, rfl, rfl, rfl, rfl, rfl, rfl, rfl, rfl, rfl, rfl, rfl, trivial⟩ ?_
        by_cases hn : w.1 = x.1
        · by_cases hkk : kp k = true
          · rw [if_pos ⟨hn, hkk⟩] at hsu
            obtain ⟨hw0, hw1, hw2⟩ := hfw hn
            refine AWP.seq ?_
            refine AWP.seq ?_
            refine AWP.region ?_
            refine rC (Calm.fieldAddr ty_field_51_0 rfl) ?_
            refine rC (ld_ ty_plain_9 rfl) ?_
            refine rC (Calm.fieldAddr ty_field_54_0 rfl) ?_
            refine rC (ld_ ty_plain_9 rfl) ?_
            refine rC (Calm.bin rfl rfl (bin_bool (bin_str_neq _ _) (bnot_dec_false hn))) ?_
            refine rC (Calm.move rfl) ?_
            first | refine rS 36 ?_ | refine rU 36 ?_ | refine rG 36 (Calm.move rfl) ?_
            first | refine rS 36 ?_ | refine rU 36 ?_ | refine rG 36 (Calm.move rfl) ?_
            refine rUn 36 ?_
            refine ARun.callV (first := []) (cap := caps) (lit_lt rfl) hgo rfl rfl (hkeep k _ hc2 (hSi.trans (hML.trans less_))) ?_
            rintro _ S1 ⟨rfl, h1⟩
            rw [h1, hkk]; clear h1 S1
            first | refine rS 36 ?_ | refine rU 36 ?_ | refine rG 36 (Calm.un rfl (una_not _)) ?_
            refine rC ((by first | exact Calm.pickT rfl rfl | exact Calm.pickF rfl rfl)) ?_
            refine arun_nil ?_
            refine athen_n ?_
            refine AWP.sub [(0, _), (1, _), (13, _), (14, _), (15, _), (4, _), (5, _), (6, _), (24, _), (25, _), (26, _), (27, _), (8, _), (7, _), (41, _)] ⟨rfl, rfl, rfl, rfl, rfl, rfl, rfl, rfl, rfl, rfl, rfl, rfl, rfl, rfl, rfl, trivial⟩ ?_
            refine AWP.condF rfl (by first | rfl | (simp; done) | (simp; omega)) ?_
            refine AWP.skip ?_
            refine athen_n ?_
            refine AWP.seq ?_
            refine AWP.seq ?_
            refine AWP.region ?_
            refine rC (Calm.move rfl) ?_
            refine rC (Calm.bin rfl rfl (bin_nil_eql Try.underlying92)) ?_
            refine arun_nil ?_
            refine athen_n ?_
            refine AWP.sub [(0, _), (1, _), (13, _), (14, _), (15, _), (4, _), (5, _), (6, _), (24, _), (25, _), (26, _), (27, _), (8, _), (7, _), (41, _), (43, _)] ⟨rfl, rfl, rfl, rfl, rfl, rfl, rfl, rfl, rfl, rfl, rfl, rfl, rfl, rfl, rfl, rfl, trivial⟩ ?_
            refine AWP.condF rfl (by first | rfl | (simp; done) | (simp; omega)) ?_
            refine AWP.skip ?_
            refine athen_n ?_
            refine AWP.draw [(0, true), (1, true), (2, true), (3, true), (4, true), (5, true), (6, true), (7, false)] [7] mixed (by kernel_rfl) ?_
            refine dP (hc := fun _ => Calm.move rfl) (h := ?_)
            refine dP (hc := fun _ => Calm.fieldAddr ty_field_51_1 rfl) (h := ?_)
            refine dC (hc := ld_ ty_plain_3 rfl) (h := ?_)
            refine dP (hc := fun _ => Calm.bin rfl rfl b_mul_i64) (h := ?_)
            refine dP (hc := fun _ => Calm.sliceLo (64 * w.2.1.toNat) Try.underlying92 ty_size_5 rfl rfl (by omega) (by omega) (by omega)) (h := ?_)
            refine dP (hc := fun _ => Calm.fieldAddr ty_field_51_2 rfl) (h := ?_)
            refine dC (hc := ld_ ty_plain_9 rfl) (h := ?_)
            refine draw_only rfl ?_
            refine ARun.copyStr (lit_lt rfl) ty_sl_92 rfl own_ rfl (by omega) (by simp only [cellsB_length, size_data]; omega) ?_
            have hpc := putS_cells (x := cur) (w := w) (by omega) hw2
            refine arun_nil ⟨fun h => absurd h (by decide), ?_⟩
            refine draw_nil ?_
            refine ain_n ?_
            refine athen_n ?_
            refine AWP.sub [(0, _), (1, _), (13, _), (14, _), (15, _), (4, _), (5, _), (6, _), (24, _), (25, _), (26, _), (27, _), (8, _), (7, _), (41, _), (43, _)] ⟨rfl, rfl, rfl, rfl, rfl, rfl, rfl, rfl, rfl, rfl, rfl, rfl, rfl, rfl, rfl, rfl, trivial⟩ ?_
            refine AWP.region ?_
            refine rC (Calm.bin rfl rfl b_add_i64) ?_
            refine rC (Calm.move rfl) ?_
            refine arun_nil ?_
            refine athen_n ?_
            refine ⟨(k + 1, some (bd, cd)), ?_, ?_, ?_, ?_⟩
            all_goals (try dsimp only)
            · exact ⟨rfl, rfl, rfl, rfl, rfl, rfl, rfl, rfl, rfl, rfl, some_int (by simp), trivial⟩
            · simp only [hsu, Option.getD_some, ← hpc, outM]; exact less_
            · exact ⟨hc2, hob, by simp [hsu]⟩
            · omega
          · rw [if_neg (fun h => hkk h.2)] at hsu
            refine AWP.seq ?_
            refine AWP.seq ?_
            refine AWP.region ?_
            refine rC (Calm.fieldAddr ty_field_51_0 rfl) ?_
            refine rC (ld_ ty_plain_9 rfl) ?_
            refine rC (Calm.fieldAddr ty_field_54_0 rfl) ?_
            refine rC (ld_ ty_plain_9 rfl) ?_
            refine rC (Calm.bin rfl rfl (bin_bool (bin_str_neq _ _) (bnot_dec_false hn))) ?_
            refine rC (Calm.move rfl) ?_
            first | refine rS 36 ?_ | refine rU 36 ?_ | refine rG 36 (Calm.move rfl) ?_
            first | refine rS 36 ?_ | refine rU 36 ?_ | refine rG 36 (Calm.move rfl) ?_
            refine rUn 36 ?_
            refine ARun.callV (first := []) (cap := caps) (lit_lt rfl) hgo rfl rfl (hkeep k _ hc2 (hSi.trans (hML.trans less_))) ?_
            rintro _ S1 ⟨rfl, h1⟩
            rw [h1, Bool.eq_false_iff.2 hkk]; clear h1 S1
            first | refine rS 36 ?_ | refine rU 36 ?_ | refine rG 36 (Calm.un rfl (una_not _)) ?_
            refine rC ((by first | exact Calm.pickT rfl rfl | exact Calm.pickF rfl rfl)) ?_
            refine arun_nil ?_
            refine athen_n ?_
            refine AWP.sub [(0, _), (1, _), (13, _), (14, _), (15, _), (4, _), (5, _), (6, _), (24, _), (25, _), (26, _), (27, _), (8, _), (7, _), (41, _)] ⟨rfl, rfl, rfl, rfl, rfl, rfl, rfl, rfl, rfl, rfl, rfl, rfl, rfl, rfl, rfl, trivial⟩ ?_
            refine AWP.condT rfl (by first | rfl | (simp; done) | (simp; omega)) ?_
            refine AWP.exit ?_
            refine athen_exit ?_
            refine ain_same ?_
            refine athen_n ?_
            refine AWP.region ?_
            refine rC (Calm.bin rfl rfl b_add_i64) ?_
            refine rC (Calm.move rfl) ?_
            refine arun_nil ?_
            refine athen_n ?_
            refine ⟨(k + 1, some (bd, cd)), ?_, ?_, ?_, ?_⟩
            all_goals (try dsimp only)
            · exact ⟨rfl, rfl, rfl, rfl, rfl, rfl, rfl, rfl, rfl, rfl, some_int (by simp), trivial⟩
            · (try simp only [hsu, outM, Option.getD_none, Option.getD_some]); exact less_
            · exact ⟨hc2, hob, by simp [hsu]⟩
            · omega
        · rw [if_neg (fun h => hn h.1)] at hsu
          refine AWP.seq ?_
          refine AWP.seq ?_
          refine AWP.region ?_
          refine rC (Calm.fieldAddr ty_field_51_0 rfl) ?_
          refine rC (ld_ ty_plain_9 rfl) ?_
          refine rC (Calm.fieldAddr ty_field_54_0 rfl) ?_
          refine rC (ld_ ty_plain_9 rfl) ?_
          refine rC (Calm.bin rfl rfl (bin_bool (bin_str_neq _ _) (bnot_dec_true hn))) ?_
          refine rC (Calm.move rfl) ?_
          first | refine rS 36 ?_ | refine rU 36 ?_ | refine rG 36 (Calm.move rfl) ?_
          first | refine rS 36 ?_ | refine rU 36 ?_ | refine rG 36 (Calm.move rfl) ?_
          first | refine rS 36 ?_ | refine rU 36 ?_
          first | refine rS 36 ?_ | refine rU 36 ?_ | refine rG 36 (Calm.un rfl (una_not _)) ?_
          refine rC ((by first | exact Calm.pickT rfl rfl | exact Calm.pickF rfl rfl)) ?_
          refine arun_nil ?_
          refine athen_n ?_
          refine AWP.sub [(0, _), (1, _), (13, _), (14, _), (15, _), (4, _), (5, _), (6, _), (24, _), (25, _), (26, _), (27, _), (8, _), (7, _), (41, _)] ⟨rfl, rfl, rfl, rfl, rfl, rfl, rfl, rfl, rfl, rfl, rfl, rfl, rfl, rfl, rfl, trivial⟩ ?_
          refine AWP.condT rfl (by first | rfl | (simp; done) | (simp; omega)) ?_
          refine AWP.exit ?_
          refine athen_exit ?_
          refine ain_same ?_
          refine athen_n ?_
          refine AWP.region ?_
          refine rC (Calm.bin rfl rfl b_add_i64) ?_
          refine rC (Calm.move rfl) ?_
          refine arun_nil ?_
          refine athen_n ?_
          refine ⟨(k + 1, some (bd, cd)), ?_, ?_, ?_, ?_⟩
          all_goals (try dsimp only)
          · exact ⟨rfl, rfl, rfl, rfl, rfl, rfl, rfl, rfl, rfl, rfl, some_int (by simp), trivial⟩
          · (try simp only [hsu, outM, Option.getD_none, Option.getD_some]); exact less_
          · exact ⟨hc2, hob, by simp [hsu]⟩
          · omega
    · have hc2 : k = d.waits.length := by have := of_decide_eq_false hc2; omega
      rw [hc2] at hoa hsz ⊢
      rcases ob with _ | ⟨bd, cd⟩
      · have hacc : accW kp x d.waits d.waits.length = none := hoa.1 rfl
        rw [hacc, Option.getD_none, show ((x.1, x.2) : Ext) = x from rfl, ← hmg, List.set_getElem_self] at hmsu
        simp only [outM, outV]
        refine AWP.exit ?_
        refine athen_exit ?_
        refine athen_exit ?_
        refine ain_same ?_
        refine athen_n ?_
        refine AWP.seq ?_
        refine AWP.region ?_
        refine rC (Calm.move rfl) ?_
        refine rC (Calm.bin rfl rfl (bin_nil_neq Try.underlying92)) ?_
        refine arun_nil ?_
        refine athen_n ?_
        refine AWP.sub [(0, _), (1, _), (13, _), (14, _), (15, _), (4, _), (5, _), (6, _), (24, _), (25, _), (26, _), (27, _), (57, _)] ⟨rfl, rfl, rfl, rfl, rfl, rfl, rfl, rfl, rfl, rfl, rfl, rfl, rfl, trivial⟩ ?_
        refine AWP.condF rfl (by first | rfl | (simp; done) | (simp; omega)) ?_
        refine AWP.skip ?_
        refine ain_n ?_
        refine athen_n ?_
        refine AWP.region ?_
        refine rC (Calm.bin rfl rfl b_add_i64) ?_
        refine rC (Calm.move rfl) ?_
        refine arun_nil ?_
        refine athen_n ?_
        refine ⟨i + 1, ?_, ?_, ?_, ?_⟩
        all_goals (try dsimp only)
        · exact ⟨rfl, rfl, rfl, rfl, rfl, trivial⟩
        · simp only [hmsu, hMi]; exact less_
        · exact ⟨hc, by simp only [hmsu]; exact hoki⟩
        · omega
      · obtain ⟨hfb, hcb⟩ := hob bd cd rfl
        obtain ⟨hfb1, hbd5⟩ := fresh_set hfb
        have hbd5' := Ne.symm hbd5
        obtain ⟨cur, hacc⟩ : ∃ cur, accW kp x d.waits d.waits.length = some cur := by cases h : accW kp x d.waits d.waits.length with | none => exact absurd (hoa.2 h) (by simp) | some cur => exact ⟨cur, rfl⟩
        rw [hacc] at hmsu hsz ⊢
        simp only [Option.getD_some] at hmsu hsz ⊢
        have n1 := hfb1.ne hpi
        have n2 := hfb1.ne hbE
        have n3 := f5.ne hbE
        have n2' := Ne.symm n2
        have n3' := Ne.symm n3
        have hfs := flat_set ext_len (mixE kp d.waits d.ext i) i (x.1, cur) (by omega) 1 (.string cur) (by decide) (by rw [hmg]; rfl)
        simp only [outM, outV]
        refine AWP.exit ?_
        refine athen_exit ?_
        refine athen_exit ?_
        refine ain_same ?_
        refine athen_n ?_
        refine AWP.seq ?_
        refine AWP.region ?_
        refine rC (Calm.move rfl) ?_
        refine rC (Calm.bin rfl rfl (bin_nil_neq Try.underlying92)) ?_
        refine arun_nil ?_
        refine athen_n ?_
        refine AWP.sub [(0, _), (1, _), (13, _), (14, _), (15, _), (4, _), (5, _), (6, _), (24, _), (25, _), (26, _), (27, _), (57, _)] ⟨rfl, rfl, rfl, rfl, rfl, rfl, rfl, rfl, rfl, rfl, rfl, rfl, rfl, trivial⟩ ?_
        refine AWP.condT rfl (by first | rfl | (simp; done) | (simp; omega)) ?_
        refine AWP.draw [(0, true), (1, true), (2, true), (3, true), (4, true), (5, true), (6, true), (7, true), (8, true), (9, true), (10, false)] [10] mixed (by kernel_rfl) ?_
        refine dP (hc := fun _ => Calm.move rfl) (h := ?_)
        refine dP (hc := fun _ => Calm.nilCheck rfl) (h := ?_)
        refine dP (hc := fun _ => Calm.fieldAddr ty_field_90_0 rfl) (h := ?_)
        refine dP (hc := fun _ => Calm.fieldAddr ty_field_25_1 rfl) (h := ?_)
        refine dC (hc := ld_ ty_plain_22 rfl) (h := ?_)
        refine dP (hc := fun _ => Calm.move rfl) (h := ?_)
        refine dP (hc := fun _ => Calm.move rfl) (h := ?_)
        refine dC (hc := Calm.toStr ty_bytes_92 ty_str_9 rfl (l := cur.data.toList) (by rw [size_data]; exact hsz) (rds_own (r := ⟨u8T, cellsB cur.data.toList, cd⟩) (b := bd) own_)) (h := ?_)
        refine dP (hc := fun _ => Calm.indexS Try.underlying22 ty_size_54 rfl rfl (by omega) (by omega)) (h := ?_)
        refine dP (hc := fun _ => Calm.fieldAddr ty_field_54_1 rfl) (h := ?_)
        refine draw_only rfl ?_
        refine ARun.store1 rfl rfl ty_size_9 rfl (r := ⟨extT, (mixE kp d.waits d.ext i).flatMap extF, c * 2⟩) own_ hcl rfl ?_
        (try simp only [Mem.set_set, List.set_cons_zero, List.set_cons_succ, Nat.zero_add, Nat.reduceAdd])
        refine arun_nil ⟨fun h => absurd h (by decide), ?_⟩
        refine draw_nil ?_
        refine ain_n ?_
        refine athen_n ?_
        refine AWP.sub [(0, _), (1, _), (13, _), (14, _), (15, _), (4, _), (5, _), (6, _), (24, _), (25, _), (26, _), (27, _), (57, _)] ⟨rfl, rfl, rfl, rfl, rfl, rfl, rfl, rfl, rfl, rfl, rfl, rfl, rfl, trivial⟩ ?_
        refine AWP.region ?_
        refine rC (Calm.bin rfl rfl b_add_i64) ?_
        refine rC (Calm.move rfl) ?_
        refine arun_nil ?_
        refine athen_n ?_
        refine ⟨i + 1, ?_, ?_, ?_, ?_⟩
        all_goals (try dsimp only)
        · exact ⟨rfl, rfl, rfl, rfl, rfl, trivial⟩
        · simp only [hmsu]; rw [← (hse (x.1, cur)).1, ← hfs]; exact less_
        · exact ⟨hc, by simp only [hmsu]; exact (hse (x.1, cur)).2⟩
        · omega
  · have hc : i = d.ext.length := by have := of_decide_eq_false hc; omega
    subst hc
    rw [mixE_all] at hoki hpi
    simp only [mixE_all]
    refine AWP.exit ?_
    refine athen_exit ?_
    refine athen_exit ?_
    refine ain_same ?_
    refine athen_n ?_
    refine AWP.region ?_
    refine rC (Calm.move rfl) ?_
    refine rC (Calm.nilCheck rfl) ?_
    refine rC (Calm.fieldAddr ty_field_90_0 rfl) ?_
    refine rC (Calm.fieldAddr ty_field_25_2 rfl) ?_
    refine ARun.store1 rfl rfl ty_size_23 rfl hpi (show 2 < 5 from by decide) rfl ?_
    (try simp only [Mem.set_set, List.set_cons_zero, List.set_cons_succ, Nat.zero_add, Nat.reduceAdd])
    refine arun_nil ?_
    have hfin : (devM S p (settleD d kp) oE none).Less ((devM S p { d with ext := d.ext.map (doneX kp d.waits) } oE oW).set p ⟨90, [.int .i64 d.size, outV oE (d.ext.map (doneX kp d.waits)).length, .slice none 0 0, .int .i64 d.fuse, .bool d.down], 5⟩) := by unfold devM; rw [Mem.set_set]; show ((outN 2 S oE extT ((d.ext.map (doneX kp d.waits)).flatMap extF)).set p ⟨90, [.int .i64 d.size, outV oE (d.ext.map (doneX kp d.waits)).length, .slice none 0 0, .int .i64 d.fuse, .bool d.down], 5⟩).Less _; exact Less.set (outN_over hoki.dk.w) _ _
    have hap := hoki.apart
    have hft := hoki.fits
    refine ⟨_, devM S p (settleD d kp) oE none, rfl, hfin, ?_⟩
    exact ⟨rfl, okV_mk ⟨hap.e, (fun b c e => by cases e), (fun b c b' c' e e' => by cases e'), hap.p⟩ ⟨hft.e0, fun _ => rfl, hft.e, (fun b c e => by cases e)⟩, rfl⟩
end Go.Proofs.Ytkeiphkccnfhoaa
