/-
  Disk, the document's side: a list with an extent more.
-/
import Derived.Test.YtkeiphkccnfhoaaDR4
import Derived.Test.YtkeiphkccnfhoaaDraw
namespace Go.Proofs.Ytkeiphkccnfhoaa
open Go.RowKit
open Mv Disk
set_option linter.unusedVariables false
set_option linter.unusedSimpArgs false
set_option maxRecDepth 4000
section
variable {P : Program} {N : Nat} {E : Env} {S : Mem} {dst : Option Nat} {ty : TypeId} {pos : String} {aft : Array Edge} {gd : Option (Nat × Bool)}
theorem Mv.Calm.sliceG {T e : TypeId} {x : Operand} {lo hi : Option Operand} {a : Option Addr} {len cap n l h : Nat} (hT : P.underlying T = some (.slice e)) (he : sizeT P e = some n) (hx : ev E x = some (.slice a len cap))
    (hh : bnd E hi len cap h) (hl : bnd E lo 0 h l) :
    ACalm P N ⟨dst, .slice T x lo hi none, ty, pos, aft, gd⟩ E S (.slice (if cap = l then a else a.map (·.add (l * n))) (h - l) (cap - l)) := fun c w g hv => by
  have e1 := run_bounds (P := P) (isS := true) g (bnd_none cap cap) (by simp) hh hl w
  simp only [Option.map_none] at e1
  simp only [execOp, g.ev hx, Instr.sliceAt, Sem.run_bind, run_underlying hT w, Instr.slice, e1, Result.andThen_ok, run_sizeT he w, Sem.run_pure, Option.map_none]
end
theorem sl_cut {α : Type} {n : Nat} {f : α → List Value} {S : Mem} {a : Option Addr} {cap : Nat} {l : List α} (hs : Sl n f S (.slice a l.length cap) l) {k h : Nat} (hk : k ≤ h) (hh : h ≤ l.length) :
    Sl n f S (.slice (if cap = k then a else a.map (·.add (k * n))) (h - k) (cap - k)) ((l.take h).drop k) := by
  obtain ⟨a', cap', e, h1, h2, h3⟩ := hs
  cases e
  have hl : ((l.take h).drop k).length = h - k := by simp; omega
  refine ⟨_, _, by rw [hl], by omega, by omega, ?_⟩
  by_cases q : h = k
  · left; exact List.eq_nil_of_length_eq_zero (by omega)
  · right
    obtain ⟨b, off, e, hk'⟩ := h3.resolve_left (fun e => by subst e; simp at hh; omega)
    subst e
    rw [if_neg (by omega)]
    refine ⟨b, off + k * n, by simp [addr_add], fun j hj => ?_⟩
    rw [List.getElem_drop, List.getElem_take]
    have := hk' (k + j) (by omega)
    rwa [Nat.add_mul, ← Nat.add_assoc] at this
theorem src_len {M : Mem} {v : Value} {m m' : Nat} {news : List Value} (h : Src M v m news) (e : m = m') : Src M v m' news := e ▸ h
theorem Mem.set_comm' (S : Mem) {b c : Nat} (r r' : Blk) (h : b ≠ c) : (S.set b r).set c r' = (S.set c r').set b r := by
  unfold Mem.set
  congr 1
  funext k
  by_cases e : k = c
  · subst e; simp [Ne.symm h]
  · simp [e]
theorem Mv.AppN.lessL {n : Nat} {M S S' : Mem} {o : Option (Nat × Nat)} {e : TypeId} {cs : List Value} (h : AppN n M S o e cs) (hl : S'.Less S) : AppN n M S' o e cs :=
  ⟨fun ho => ⟨(h.nil ho).1, hl.trans (h.nil ho).2⟩, fun b c ho => ⟨(h.own b c ho).1, hl.trans (h.own b c ho).2⟩⟩
theorem take_one {l : List Ext} {k : Nat} : (l.take k).drop 0 = l.take k := rfl
theorem outN_lessM {n : Nat} {S S' : Mem} {o : Option (Nat × Nat)} {e : TypeId} {cs : List Value} (h : S.Less S') : (outN n S o e cs).Less (outN n S' o e cs) := by
  cases o with
  | none => exact h
  | some z => exact Less.set h _ _
set_option maxHeartbeats 1000000 in
theorem rd_with (v : Value) (l : List Ext) (x : Ext) (S : Mem) (hl : Sl 2 extF S v l) (hz : l.length ≤ 1048576) :
    ACall Try.prog 52 #[v, .agg #[.string x.1, .string x.2]] S (OwnR 2 extF extT (insAt l (pos l x.1) x) S) := by
  obtain ⟨a, cap, rfl, hl1, hl2, hl3⟩ := id hl
  refine ACall.enter (args := [.slice a l.length cap, .agg #[.string x.1, .string x.2]]) (rs := [.tmp 4]) 34 [(0, .slice a l.length cap), (1, .agg #[.string x.1, .string x.2])] Try.func52 rfl rfl (Nat.le_of_ble_eq_true rfl) rfl ⟨rfl, rfl, trivial⟩ ?_
  refine AWP.seq ?_
  refine AWP.region ?_
  refine ARun.boxA (cs := [_, _]) (lit_lt rfl) rfl ?_
  intro b3 f3
  have g3 := f3
  repeat ((with_reducible replace g3 := fresh_set g3); obtain ⟨g3, _⟩ := g3)
  (try simp only [List.length_cons, List.length_nil, Nat.zero_add, Nat.reduceAdd])
  refine rC (Calm.assign rfl) ?_
  refine arun_nil ?_
  refine athen_n ?_
  refine AWP.seq ?_
  refine AWP.region ?_
  refine rC (Calm.assign rfl) ?_
  refine arun_nil ?_
  refine athen_n ?_
  refine AWP.seq ?_
  refine AWP.block ?_
  refine AWP.loop (X := Nat) (fun i => [(0, .slice a l.length cap), (3, .pointer (some ⟨b3, 0, none⟩)), (5, .int .i64 i)]) (fun i => S.set b3 ⟨extT, [.string x.1, .string x.2], 2⟩) (fun i => i ≤ l.length ∧ ∀ j (h : j < l.length), j < i → lt l[j].1 x.1 = true) (fun i => l.length - i) (0) ⟨rfl, rfl, rfl, trivial⟩ (Mem.Less.refl _) (⟨Nat.zero_le _, fun j _ h => absurd h (Nat.not_lt_zero _)⟩) ?_
  rintro i ⟨hi, hall⟩
  (try dsimp only at *)
  by_cases hc : i < l.length
  · obtain ⟨b, off, rfl, hk⟩ := hl3.resolve_left (fun e => by subst e; simp at hc)
    have hki := hk i hc
    unfold extF at hki
    have hki0 : S.Knows ⟨b, off + i * 2, none⟩ [.string l[i].1] := kn_at hki 0 rfl
    by_cases q : lt l[i].1 x.1 = true
    · refine AWP.seq ?_
      refine AWP.seq ?_
      refine AWP.draw [(0, true), (1, true), (2, true), (3, true), (4, true), (5, true), (6, true), (7, true), (8, true), (9, true), (10, true), (11, true), (12, true), (13, true)] [] mixed (by kernel_rfl) ?_
      refine dP (hc := fun _ => Calm.move rfl) (h := ?_)
      refine dP (hc := fun _ => Calm.move rfl) (h := ?_)
      refine dC (hc := Calm.lenSl Try.underlying22 rfl) (h := ?_)
      refine dP (hc := fun _ => Calm.bin rfl rfl b_lss) (h := ?_)
      refine dP (hc := fun _ => Calm.move rfl) (h := ?_)
      first | refine dS ?_ | refine dU ?_ | refine dG (hc := fun _ => Calm.move rfl) (h := ?_)
      first | refine dS ?_ | refine dU ?_ | refine dG (hc := fun _ => Calm.move rfl) (h := ?_)
      first | refine dS ?_ | refine dU ?_ | refine dG (hc := fun _ => Calm.indexS Try.underlying22 ty_size_54 rfl rfl (by omega) (by omega)) (h := ?_)
      first | refine dS ?_ | refine dU ?_ | refine dG (hc := fun _ => Calm.fieldAddr ty_field_54_0 rfl) (h := ?_)
      first | refine dS ?_ | refine dU ?_ | refine dL (hc := Calm.loadK ty_plain_9 rfl (hki0.less less_)) (h := ?_)
      first | refine dS ?_ | refine dU ?_ | refine dG (hc := fun _ => Calm.fieldAddr ty_field_54_0 rfl) (h := ?_)
      first | refine dS ?_ | refine dU ?_ | refine dL (hc := ld_ ty_plain_9 rfl) (h := ?_)
      first | refine dS ?_ | refine dU ?_ | refine dG (hc := fun _ => Calm.bin rfl rfl (bin_bool (bin_str_lss _ _) q)) (h := ?_)
      refine dP (hc := fun _ => (by first | exact Calm.pickT rfl rfl | exact Calm.pickF rfl rfl)) (h := ?_)
      refine draw_nil ?_
      refine athen_n ?_
      refine AWP.sub [(0, _), (3, _), (5, _), (19, _)] ⟨rfl, rfl, rfl, rfl, trivial⟩ ?_
      refine AWP.condT rfl (by first | rfl | (simp; done) | (simp; omega)) ?_
      refine AWP.skip ?_
      refine athen_n ?_
      refine AWP.block ?_
      refine AWP.region ?_
      refine rC (Calm.move rfl) ?_
      refine rC (Calm.bin rfl rfl b_add_i64) ?_
      refine rC (Calm.assign rfl) ?_
      refine arun_nil ?_
      refine ain_n ?_
      refine athen_n ?_
      refine ⟨i + 1, ?_, ?_, ?_, ?_⟩
      all_goals (try dsimp only)
      · exact ⟨rfl, rfl, rfl, trivial⟩
      · exact less_
      · exact ⟨hc, fun j h hj => by rcases Nat.lt_or_ge j i with h' | h'; exact hall j h h'; obtain rfl : j = i := (by omega); exact q⟩
      · omega
    · refine AWP.seq ?_
      refine AWP.seq ?_
      refine AWP.draw [(0, true), (1, true), (2, true), (3, true), (4, true), (5, true), (6, true), (7, true), (8, true), (9, true), (10, true), (11, true), (12, true), (13, true)] [] mixed (by kernel_rfl) ?_
      refine dP (hc := fun _ => Calm.move rfl) (h := ?_)
      refine dP (hc := fun _ => Calm.move rfl) (h := ?_)
      refine dC (hc := Calm.lenSl Try.underlying22 rfl) (h := ?_)
      refine dP (hc := fun _ => Calm.bin rfl rfl b_lss) (h := ?_)
      refine dP (hc := fun _ => Calm.move rfl) (h := ?_)
      first | refine dS ?_ | refine dU ?_ | refine dG (hc := fun _ => Calm.move rfl) (h := ?_)
      first | refine dS ?_ | refine dU ?_ | refine dG (hc := fun _ => Calm.move rfl) (h := ?_)
      first | refine dS ?_ | refine dU ?_ | refine dG (hc := fun _ => Calm.indexS Try.underlying22 ty_size_54 rfl rfl (by omega) (by omega)) (h := ?_)
      first | refine dS ?_ | refine dU ?_ | refine dG (hc := fun _ => Calm.fieldAddr ty_field_54_0 rfl) (h := ?_)
      first | refine dS ?_ | refine dU ?_ | refine dL (hc := Calm.loadK ty_plain_9 rfl (hki0.less less_)) (h := ?_)
      first | refine dS ?_ | refine dU ?_ | refine dG (hc := fun _ => Calm.fieldAddr ty_field_54_0 rfl) (h := ?_)
      first | refine dS ?_ | refine dU ?_ | refine dL (hc := ld_ ty_plain_9 rfl) (h := ?_)
      first | refine dS ?_ | refine dU ?_ | refine dG (hc := fun _ => Calm.bin rfl rfl (bin_bool (bin_str_lss _ _) (Bool.eq_false_iff.2 q))) (h := ?_)
      refine dP (hc := fun _ => (by first | exact Calm.pickT rfl rfl | exact Calm.pickF rfl rfl)) (h := ?_)
      refine draw_nil ?_
      refine athen_n ?_
      refine AWP.sub [(0, _), (3, _), (5, _), (19, _)] ⟨rfl, rfl, rfl, rfl, trivial⟩ ?_
      refine AWP.condF rfl (by first | rfl | (simp; done) | (simp; omega)) ?_
      have hp : pos l x.1 = i := pos_iff hi hall (fun h => Bool.eq_false_iff.2 q)
      have hs1 := sl_cut hl (Nat.zero_le i) hi
      have hs2 := sl_cut hl hi (Nat.le_refl _)
      have c1 : ∀ v ∈ ([.string x.1, .string x.2] : List Value), v.oneCell' = true := ext_one [x]
      have hSS0 : S.Less (S.set b3 ⟨extT, [.string x.1, .string x.2], 2⟩) := Mem.less_set _ _ _ f3.1
      have hc0 : ((l.take i).drop 0).flatMap extF = (l.take i).flatMap extF := rfl
      have hfl : ((l.take i).flatMap extF).length = i * 2 := by rw [flat_length ext_len]; simp; omega
      have hfl2 : ((l.take i).flatMap extF ++ [Value.string x.1, .string x.2]).length = (i + 1) * 2 := by rw [List.length_append, hfl]; simp; omega
      have hlen : (insAt l (pos l x.1) x).length = i + 1 + (l.length - i) := by rw [ins_len (pos_le _ _)]; omega
      have hcells : (insAt l (pos l x.1) x).flatMap extF = (l.take i).flatMap extF ++ [.string x.1, .string x.2] ++ ((l.take l.length).drop i).flatMap extF := by rw [ins_flat, hp, List.take_length, List.append_assoc]; rfl
      refine AWP.exit ?_
      repeat refine athen_exit ?_
      refine ain_same ?_
      refine athen_n ?_
      refine AWP.seq ?_
      refine AWP.drawG [7, 11] mixed ?_
      refine DG.pure 1 (by kernel_rfl) (by kernel_rfl) rfl rfl rfl rfl (lit_lt rfl) (fun _ => Calm.move rfl) ?_
      refine DG.pure 2 (by kernel_rfl) (by kernel_rfl) rfl rfl rfl rfl (lit_lt rfl) (fun _ => Calm.move rfl) ?_
      refine DG.pure 3 (by kernel_rfl) (by kernel_rfl) rfl rfl rfl rfl (lit_lt rfl) (fun _ => Calm.sliceG (e := extT) (n := 2) (l := 0) (h := i) (by kernel_rfl) (by kernel_rfl) rfl ⟨_, _, rfl, Int.natCast_nonneg _, Int.ofNat_le.2 (Nat.le_trans hi hl1), rfl⟩ rfl) ?_
      refine DG.pure 8 (by kernel_rfl) (by kernel_rfl) rfl rfl rfl rfl (lit_lt rfl) (fun _ => Calm.move rfl) ?_
      refine DG.pure 9 (by kernel_rfl) (by kernel_rfl) rfl rfl rfl rfl (lit_lt rfl) (fun _ => Calm.move rfl) ?_
      refine DG.pure 10 (by kernel_rfl) (by kernel_rfl) rfl rfl rfl rfl (lit_lt rfl) (fun _ => Calm.sliceG (e := extT) (n := 2) (l := i) (h := l.length) (by kernel_rfl) (by kernel_rfl) rfl rfl ⟨_, _, rfl, Int.natCast_nonneg _, Int.ofNat_le.2 hi, rfl⟩) ?_
      refine DG.look 5 (by kernel_rfl) (by kernel_rfl) rfl rfl rfl rfl (lit_lt rfl) (Mem.Less.refl _) (Calm.loadA (by kernel_rfl) (cs := [.string x.1, .string x.2]) (by kernel_rfl) rfl (rds_own (Mem.own_set_same _ _ _))) ?_
      refine DG.two 0 6 (by kernel_rfl) rfl ?_ rfl ?_
      · refine ARun.build0 (lit_lt rfl) ty_sl_22 ?_
        intro b22 f22
        refine arun_nil ⟨fun _ => Mem.less_set _ _ _ f22.1, ?_⟩
        refine DG.two 4 6 (by kernel_rfl) rfl ?_ rfl ?_
        · skip
          refine ARun.appendOK (n := 2) (o := some (b22, 0)) (k := 0) (m := i) (cs := []) (lit_lt rfl) ty_sl_22 rfl rfl rfl (okO_own f22 (Nat.le_refl _)) (appN_self (S := (S.set b3 ⟨extT, [.string x.1, .string x.2], 2⟩)) (okO_own f22 (Nat.le_refl 0)) rfl) rfl (src_len ((hs1.less (hSS0.trans (Mem.less_set _ _ _ f22.1))).src ext_len) (by simp; omega)) (by rw [flat_length ext_len]; simp; omega) (ext_one _) (by omega) (by omega) ?_
          intro o1 ho1
          rw [Nat.zero_add] at ho1 ⊢
          rw [List.nil_append, hc0]
          refine arun_nil ⟨fun _ => outN_over ho1, ?_⟩
          refine DG.only 6 (by kernel_rfl) rfl ?_
          refine ARun.build1 (lit_lt rfl) ty_sl_22 rfl (by decide) (by decide) rfl rfl ?_
          intro b28 f28
          refine arun_nil ⟨fun _ => (outN_over ho1).trans (Mem.less_set _ _ _ f28.1), ?_⟩
          refine DG.only 7 (by kernel_rfl) rfl ?_
          refine ARun.appendOK (n := 2) (o := o1) (k := i) (m := 1) (cs := (l.take i).flatMap extF) (lit_lt rfl) ty_sl_22 rfl rfl hfl (ho1) ((appN_self ho1 hfl).temp f28) rfl (src_own (Mem.own_set_same _ _ _) List.prefix_rfl) rfl c1 (by omega) (by omega) ?_
          intro o2 ho2
          refine arun_nil ⟨fun h => absurd h (by decide), ?_⟩
          refine DG.only 11 (by kernel_rfl) rfl ?_
          refine ARun.appendOK (n := 2) (o := o2) (k := i + 1) (m := l.length - i) (cs := (l.take i).flatMap extF ++ [.string x.1, .string x.2]) (lit_lt rfl) ty_sl_22 rfl rfl hfl2 ho2 (appN_self ho2 hfl2) rfl (src_len ((hs2.less (hSS0.trans (outN_over ho2))).src ext_len) (by simp)) (by rw [flat_length ext_len]; simp) (ext_one _) (by omega) (by omega) ?_
          intro o3 ho3
          refine arun_nil ⟨fun h => absurd h (by decide), ?_⟩
          refine DG.pure 12 (by kernel_rfl) (by kernel_rfl) rfl rfl rfl rfl (lit_lt rfl) (fun _ => Calm.assign rfl) ?_
          refine DG.end_ (by kernel_rfl) ?_
          refine athen_n ?_
          refine AWP.ret ?_
          refine ⟨_, outN 2 S o3 extT ((insAt l (pos l x.1) x).flatMap extF), ⟨_, _, rfl, rfl, rfl⟩, ?_, ?_⟩
          · rw [hcells]; exact outN_lessM hSS0
          · rw [← hlen] at ho3 ⊢; exact ⟨o3, ho3.unset, rfl, rfl⟩
        · skip
          refine ARun.build1 (lit_lt rfl) ty_sl_22 rfl (by decide) (by decide) rfl rfl ?_
          intro b28 f28
          refine arun_nil ⟨fun _ => (Mem.less_set _ _ _ f22.1).trans (Mem.less_set _ _ _ f28.1), ?_⟩
          obtain ⟨g28, n28⟩ := fresh_set f28
          have g22 : Fresh ((S.set b3 ⟨extT, [.string x.1, .string x.2], 2⟩).set b28 ⟨extT, [.string x.1, .string x.2], 2⟩) b22 := fresh_more f22 (Ne.symm n28)
          refine DG.only 4 (by kernel_rfl) rfl ?_
          rw [Mem.set_comm' _ _ _ (Ne.symm n28)]
          refine ARun.appendOK (n := 2) (o := some (b22, 0)) (k := 0) (m := i) (cs := []) (lit_lt rfl) ty_sl_22 rfl rfl rfl (okO_own g22 (Nat.le_refl _)) (appN_self (S := ((S.set b3 ⟨extT, [.string x.1, .string x.2], 2⟩).set b28 ⟨extT, [.string x.1, .string x.2], 2⟩)) (okO_own g22 (Nat.le_refl 0)) rfl) rfl (src_len ((hs1.less ((hSS0.trans (Mem.less_set _ _ _ g28.1)).trans (Mem.less_set _ _ _ g22.1))).src ext_len) (by simp; omega)) (by rw [flat_length ext_len]; simp; omega) (ext_one _) (by omega) (by omega) ?_
          intro o1 ho1
          rw [Nat.zero_add] at ho1 ⊢
          rw [List.nil_append, hc0]
          refine arun_nil ⟨fun _ => (Mem.less_set _ _ _ g28.1).trans (outN_over ho1), ?_⟩
          refine DG.only 7 (by kernel_rfl) rfl ?_
          refine ARun.appendOK (n := 2) (o := o1) (k := i) (m := 1) (cs := (l.take i).flatMap extF) (lit_lt rfl) ty_sl_22 rfl rfl hfl (ho1.unset) ((appN_self ho1 hfl).lessL (Mem.less_set _ _ _ g28.1)) rfl (src_own ((outN_over ho1).1 _ _ (Mem.own_set_same _ _ _)) List.prefix_rfl) rfl c1 (by omega) (by omega) ?_
          intro o2 ho2
          refine arun_nil ⟨fun h => absurd h (by decide), ?_⟩
          refine DG.only 11 (by kernel_rfl) rfl ?_
          refine ARun.appendOK (n := 2) (o := o2) (k := i + 1) (m := l.length - i) (cs := (l.take i).flatMap extF ++ [.string x.1, .string x.2]) (lit_lt rfl) ty_sl_22 rfl rfl hfl2 ho2 (appN_self ho2 hfl2) rfl (src_len ((hs2.less (hSS0.trans (outN_over ho2))).src ext_len) (by simp)) (by rw [flat_length ext_len]; simp) (ext_one _) (by omega) (by omega) ?_
          intro o3 ho3
          refine arun_nil ⟨fun h => absurd h (by decide), ?_⟩
          refine DG.pure 12 (by kernel_rfl) (by kernel_rfl) rfl rfl rfl rfl (lit_lt rfl) (fun _ => Calm.assign rfl) ?_
          refine DG.end_ (by kernel_rfl) ?_
          refine athen_n ?_
          refine AWP.ret ?_
          refine ⟨_, outN 2 S o3 extT ((insAt l (pos l x.1) x).flatMap extF), ⟨_, _, rfl, rfl, rfl⟩, ?_, ?_⟩
          · rw [hcells]; exact outN_lessM hSS0
          · rw [← hlen] at ho3 ⊢; exact ⟨o3, ho3.unset, rfl, rfl⟩
      · refine ARun.build1 (lit_lt rfl) ty_sl_22 rfl (by decide) (by decide) rfl rfl ?_
        intro b28 f28
        refine arun_nil ⟨fun _ => Mem.less_set _ _ _ f28.1, ?_⟩
        refine DG.only 0 (by kernel_rfl) rfl ?_
        refine ARun.build0 (lit_lt rfl) ty_sl_22 ?_
        intro b22 f22
        refine arun_nil ⟨fun _ => (Mem.less_set _ _ _ f28.1).trans (Mem.less_set _ _ _ f22.1), ?_⟩
        refine DG.only 4 (by kernel_rfl) rfl ?_
        refine ARun.appendOK (n := 2) (o := some (b22, 0)) (k := 0) (m := i) (cs := []) (lit_lt rfl) ty_sl_22 rfl rfl rfl (okO_own f22 (Nat.le_refl _)) (appN_self (S := ((S.set b3 ⟨extT, [.string x.1, .string x.2], 2⟩).set b28 ⟨extT, [.string x.1, .string x.2], 2⟩)) (okO_own f22 (Nat.le_refl 0)) rfl) rfl (src_len ((hs1.less ((hSS0.trans (Mem.less_set _ _ _ f28.1)).trans (Mem.less_set _ _ _ f22.1))).src ext_len) (by simp; omega)) (by rw [flat_length ext_len]; simp; omega) (ext_one _) (by omega) (by omega) ?_
        intro o1 ho1
        rw [Nat.zero_add] at ho1 ⊢
        rw [List.nil_append, hc0]
        refine arun_nil ⟨fun _ => (Mem.less_set _ _ _ f28.1).trans (outN_over ho1), ?_⟩
        refine DG.only 7 (by kernel_rfl) rfl ?_
        refine ARun.appendOK (n := 2) (o := o1) (k := i) (m := 1) (cs := (l.take i).flatMap extF) (lit_lt rfl) ty_sl_22 rfl rfl hfl (ho1.unset) ((appN_self ho1 hfl).lessL (Mem.less_set _ _ _ f28.1)) rfl (src_own ((outN_over ho1).1 _ _ (Mem.own_set_same _ _ _)) List.prefix_rfl) rfl c1 (by omega) (by omega) ?_
        intro o2 ho2
        refine arun_nil ⟨fun h => absurd h (by decide), ?_⟩
        refine DG.only 11 (by kernel_rfl) rfl ?_
        refine ARun.appendOK (n := 2) (o := o2) (k := i + 1) (m := l.length - i) (cs := (l.take i).flatMap extF ++ [.string x.1, .string x.2]) (lit_lt rfl) ty_sl_22 rfl rfl hfl2 ho2 (appN_self ho2 hfl2) rfl (src_len ((hs2.less (hSS0.trans (outN_over ho2))).src ext_len) (by simp)) (by rw [flat_length ext_len]; simp) (ext_one _) (by omega) (by omega) ?_
        intro o3 ho3
        refine arun_nil ⟨fun h => absurd h (by decide), ?_⟩
        refine DG.pure 12 (by kernel_rfl) (by kernel_rfl) rfl rfl rfl rfl (lit_lt rfl) (fun _ => Calm.assign rfl) ?_
        refine DG.end_ (by kernel_rfl) ?_
        refine athen_n ?_
        refine AWP.ret ?_
        refine ⟨_, outN 2 S o3 extT ((insAt l (pos l x.1) x).flatMap extF), ⟨_, _, rfl, rfl, rfl⟩, ?_, ?_⟩
        · rw [hcells]; exact outN_lessM hSS0
        · rw [← hlen] at ho3 ⊢; exact ⟨o3, ho3.unset, rfl, rfl⟩
  · refine AWP.seq ?_
    refine AWP.seq ?_
    refine AWP.draw [(0, true), (1, true), (2, true), (3, true), (4, true), (5, true), (6, true), (7, true), (8, true), (9, true), (10, true), (11, true), (12, true), (13, true)] [] mixed (by kernel_rfl) ?_
    refine dP (hc := fun _ => Calm.move rfl) (h := ?_)
    refine dP (hc := fun _ => Calm.move rfl) (h := ?_)
    refine dC (hc := Calm.lenSl Try.underlying22 rfl) (h := ?_)
    refine dP (hc := fun _ => Calm.bin rfl rfl b_lss) (h := ?_)
    refine dP (hc := fun _ => Calm.move rfl) (h := ?_)
    first | refine dS ?_ | refine dU ?_ | refine dG (hc := fun _ => Calm.move rfl) (h := ?_)
    first | refine dS ?_ | refine dU ?_ | refine dG (hc := fun _ => Calm.move rfl) (h := ?_)
    first | refine dS ?_ | refine dU ?_ | refine dG (hc := fun _ => Calm.indexS Try.underlying22 ty_size_54 rfl rfl (by omega) (by omega)) (h := ?_)
    first | refine dS ?_ | refine dU ?_ | refine dG (hc := fun _ => Calm.fieldAddr ty_field_54_0 rfl) (h := ?_)
    first | refine dS ?_ | refine dU ?_ | refine dL (hc := ld_ ty_plain_9 rfl) (h := ?_)
    first | refine dS ?_ | refine dU ?_ | refine dG (hc := fun _ => Calm.fieldAddr ty_field_54_0 rfl) (h := ?_)
    first | refine dS ?_ | refine dU ?_ | refine dL (hc := ld_ ty_plain_9 rfl) (h := ?_)
    first | refine dS ?_ | refine dU ?_ | refine dG (hc := fun _ => Calm.bin rfl rfl (bin_str_lss _ _)) (h := ?_)
    refine dP (hc := fun _ => (by first | exact Calm.pickT rfl rfl | exact Calm.pickF rfl rfl)) (h := ?_)
    refine draw_nil ?_
    refine athen_n ?_
    refine AWP.sub [(0, _), (3, _), (5, _), (19, _)] ⟨rfl, rfl, rfl, rfl, trivial⟩ ?_
    refine AWP.condF rfl (by first | rfl | (simp; done) | (simp; omega)) ?_
    have hp : pos l x.1 = i := pos_iff hi hall (fun h => absurd h hc)
    have hs1 := sl_cut hl (Nat.zero_le i) hi
    have hs2 := sl_cut hl hi (Nat.le_refl _)
    have c1 : ∀ v ∈ ([.string x.1, .string x.2] : List Value), v.oneCell' = true := ext_one [x]
    have hSS0 : S.Less (S.set b3 ⟨extT, [.string x.1, .string x.2], 2⟩) := Mem.less_set _ _ _ f3.1
    have hc0 : ((l.take i).drop 0).flatMap extF = (l.take i).flatMap extF := rfl
    have hfl : ((l.take i).flatMap extF).length = i * 2 := by rw [flat_length ext_len]; simp; omega
    have hfl2 : ((l.take i).flatMap extF ++ [Value.string x.1, .string x.2]).length = (i + 1) * 2 := by rw [List.length_append, hfl]; simp; omega
    have hlen : (insAt l (pos l x.1) x).length = i + 1 + (l.length - i) := by rw [ins_len (pos_le _ _)]; omega
    have hcells : (insAt l (pos l x.1) x).flatMap extF = (l.take i).flatMap extF ++ [.string x.1, .string x.2] ++ ((l.take l.length).drop i).flatMap extF := by rw [ins_flat, hp, List.take_length, List.append_assoc]; rfl
    refine AWP.exit ?_
    repeat refine athen_exit ?_
    refine ain_same ?_
    refine athen_n ?_
    refine AWP.seq ?_
    refine AWP.drawG [7, 11] mixed ?_
    refine DG.pure 1 (by kernel_rfl) (by kernel_rfl) rfl rfl rfl rfl (lit_lt rfl) (fun _ => Calm.move rfl) ?_
    refine DG.pure 2 (by kernel_rfl) (by kernel_rfl) rfl rfl rfl rfl (lit_lt rfl) (fun _ => Calm.move rfl) ?_
    refine DG.pure 3 (by kernel_rfl) (by kernel_rfl) rfl rfl rfl rfl (lit_lt rfl) (fun _ => Calm.sliceG (e := extT) (n := 2) (l := 0) (h := i) (by kernel_rfl) (by kernel_rfl) rfl ⟨_, _, rfl, Int.natCast_nonneg _, Int.ofNat_le.2 (Nat.le_trans hi hl1), rfl⟩ rfl) ?_
    refine DG.pure 8 (by kernel_rfl) (by kernel_rfl) rfl rfl rfl rfl (lit_lt rfl) (fun _ => Calm.move rfl) ?_
    refine DG.pure 9 (by kernel_rfl) (by kernel_rfl) rfl rfl rfl rfl (lit_lt rfl) (fun _ => Calm.move rfl) ?_
    refine DG.pure 10 (by kernel_rfl) (by kernel_rfl) rfl rfl rfl rfl (lit_lt rfl) (fun _ => Calm.sliceG (e := extT) (n := 2) (l := i) (h := l.length) (by kernel_rfl) (by kernel_rfl) rfl rfl ⟨_, _, rfl, Int.natCast_nonneg _, Int.ofNat_le.2 hi, rfl⟩) ?_
    refine DG.look 5 (by kernel_rfl) (by kernel_rfl) rfl rfl rfl rfl (lit_lt rfl) (Mem.Less.refl _) (Calm.loadA (by kernel_rfl) (cs := [.string x.1, .string x.2]) (by kernel_rfl) rfl (rds_own (Mem.own_set_same _ _ _))) ?_
    refine DG.two 0 6 (by kernel_rfl) rfl ?_ rfl ?_
    · refine ARun.build0 (lit_lt rfl) ty_sl_22 ?_
      intro b22 f22
      refine arun_nil ⟨fun _ => Mem.less_set _ _ _ f22.1, ?_⟩
      refine DG.two 4 6 (by kernel_rfl) rfl ?_ rfl ?_
      · skip
        refine ARun.appendOK (n := 2) (o := some (b22, 0)) (k := 0) (m := i) (cs := []) (lit_lt rfl) ty_sl_22 rfl rfl rfl (okO_own f22 (Nat.le_refl _)) (appN_self (S := (S.set b3 ⟨extT, [.string x.1, .string x.2], 2⟩)) (okO_own f22 (Nat.le_refl 0)) rfl) rfl (src_len ((hs1.less (hSS0.trans (Mem.less_set _ _ _ f22.1))).src ext_len) (by simp; omega)) (by rw [flat_length ext_len]; simp; omega) (ext_one _) (by omega) (by omega) ?_
        intro o1 ho1
        rw [Nat.zero_add] at ho1 ⊢
        rw [List.nil_append, hc0]
        refine arun_nil ⟨fun _ => outN_over ho1, ?_⟩
        refine DG.only 6 (by kernel_rfl) rfl ?_
        refine ARun.build1 (lit_lt rfl) ty_sl_22 rfl (by decide) (by decide) rfl rfl ?_
        intro b28 f28
        refine arun_nil ⟨fun _ => (outN_over ho1).trans (Mem.less_set _ _ _ f28.1), ?_⟩
        refine DG.only 7 (by kernel_rfl) rfl ?_
        refine ARun.appendOK (n := 2) (o := o1) (k := i) (m := 1) (cs := (l.take i).flatMap extF) (lit_lt rfl) ty_sl_22 rfl rfl hfl (ho1) ((appN_self ho1 hfl).temp f28) rfl (src_own (Mem.own_set_same _ _ _) List.prefix_rfl) rfl c1 (by omega) (by omega) ?_
        intro o2 ho2
        refine arun_nil ⟨fun h => absurd h (by decide), ?_⟩
        refine DG.only 11 (by kernel_rfl) rfl ?_
        refine ARun.appendOK (n := 2) (o := o2) (k := i + 1) (m := l.length - i) (cs := (l.take i).flatMap extF ++ [.string x.1, .string x.2]) (lit_lt rfl) ty_sl_22 rfl rfl hfl2 ho2 (appN_self ho2 hfl2) rfl (src_len ((hs2.less (hSS0.trans (outN_over ho2))).src ext_len) (by simp)) (by rw [flat_length ext_len]; simp) (ext_one _) (by omega) (by omega) ?_
        intro o3 ho3
        refine arun_nil ⟨fun h => absurd h (by decide), ?_⟩
        refine DG.pure 12 (by kernel_rfl) (by kernel_rfl) rfl rfl rfl rfl (lit_lt rfl) (fun _ => Calm.assign rfl) ?_
        refine DG.end_ (by kernel_rfl) ?_
        refine athen_n ?_
        refine AWP.ret ?_
        refine ⟨_, outN 2 S o3 extT ((insAt l (pos l x.1) x).flatMap extF), ⟨_, _, rfl, rfl, rfl⟩, ?_, ?_⟩
        · rw [hcells]; exact outN_lessM hSS0
        · rw [← hlen] at ho3 ⊢; exact ⟨o3, ho3.unset, rfl, rfl⟩
      · skip
        refine ARun.build1 (lit_lt rfl) ty_sl_22 rfl (by decide) (by decide) rfl rfl ?_
        intro b28 f28
        refine arun_nil ⟨fun _ => (Mem.less_set _ _ _ f22.1).trans (Mem.less_set _ _ _ f28.1), ?_⟩
        obtain ⟨g28, n28⟩ := fresh_set f28
        have g22 : Fresh ((S.set b3 ⟨extT, [.string x.1, .string x.2], 2⟩).set b28 ⟨extT, [.string x.1, .string x.2], 2⟩) b22 := fresh_more f22 (Ne.symm n28)
        refine DG.only 4 (by kernel_rfl) rfl ?_
        rw [Mem.set_comm' _ _ _ (Ne.symm n28)]
        refine ARun.appendOK (n := 2) (o := some (b22, 0)) (k := 0) (m := i) (cs := []) (lit_lt rfl) ty_sl_22 rfl rfl rfl (okO_own g22 (Nat.le_refl _)) (appN_self (S := ((S.set b3 ⟨extT, [.string x.1, .string x.2], 2⟩).set b28 ⟨extT, [.string x.1, .string x.2], 2⟩)) (okO_own g22 (Nat.le_refl 0)) rfl) rfl (src_len ((hs1.less ((hSS0.trans (Mem.less_set _ _ _ g28.1)).trans (Mem.less_set _ _ _ g22.1))).src ext_len) (by simp; omega)) (by rw [flat_length ext_len]; simp; omega) (ext_one _) (by omega) (by omega) ?_
        intro o1 ho1
        rw [Nat.zero_add] at ho1 ⊢
        rw [List.nil_append, hc0]
        refine arun_nil ⟨fun _ => (Mem.less_set _ _ _ g28.1).trans (outN_over ho1), ?_⟩
        refine DG.only 7 (by kernel_rfl) rfl ?_
        refine ARun.appendOK (n := 2) (o := o1) (k := i) (m := 1) (cs := (l.take i).flatMap extF) (lit_lt rfl) ty_sl_22 rfl rfl hfl (ho1.unset) ((appN_self ho1 hfl).lessL (Mem.less_set _ _ _ g28.1)) rfl (src_own ((outN_over ho1).1 _ _ (Mem.own_set_same _ _ _)) List.prefix_rfl) rfl c1 (by omega) (by omega) ?_
        intro o2 ho2
        refine arun_nil ⟨fun h => absurd h (by decide), ?_⟩
        refine DG.only 11 (by kernel_rfl) rfl ?_
        refine ARun.appendOK (n := 2) (o := o2) (k := i + 1) (m := l.length - i) (cs := (l.take i).flatMap extF ++ [.string x.1, .string x.2]) (lit_lt rfl) ty_sl_22 rfl rfl hfl2 ho2 (appN_self ho2 hfl2) rfl (src_len ((hs2.less (hSS0.trans (outN_over ho2))).src ext_len) (by simp)) (by rw [flat_length ext_len]; simp) (ext_one _) (by omega) (by omega) ?_
        intro o3 ho3
        refine arun_nil ⟨fun h => absurd h (by decide), ?_⟩
        refine DG.pure 12 (by kernel_rfl) (by kernel_rfl) rfl rfl rfl rfl (lit_lt rfl) (fun _ => Calm.assign rfl) ?_
        refine DG.end_ (by kernel_rfl) ?_
        refine athen_n ?_
        refine AWP.ret ?_
        refine ⟨_, outN 2 S o3 extT ((insAt l (pos l x.1) x).flatMap extF), ⟨_, _, rfl, rfl, rfl⟩, ?_, ?_⟩
        · rw [hcells]; exact outN_lessM hSS0
        · rw [← hlen] at ho3 ⊢; exact ⟨o3, ho3.unset, rfl, rfl⟩
    · refine ARun.build1 (lit_lt rfl) ty_sl_22 rfl (by decide) (by decide) rfl rfl ?_
      intro b28 f28
      refine arun_nil ⟨fun _ => Mem.less_set _ _ _ f28.1, ?_⟩
      refine DG.only 0 (by kernel_rfl) rfl ?_
      refine ARun.build0 (lit_lt rfl) ty_sl_22 ?_
      intro b22 f22
      refine arun_nil ⟨fun _ => (Mem.less_set _ _ _ f28.1).trans (Mem.less_set _ _ _ f22.1), ?_⟩
      refine DG.only 4 (by kernel_rfl) rfl ?_
      refine ARun.appendOK (n := 2) (o := some (b22, 0)) (k := 0) (m := i) (cs := []) (lit_lt rfl) ty_sl_22 rfl rfl rfl (okO_own f22 (Nat.le_refl _)) (appN_self (S := ((S.set b3 ⟨extT, [.string x.1, .string x.2], 2⟩).set b28 ⟨extT, [.string x.1, .string x.2], 2⟩)) (okO_own f22 (Nat.le_refl 0)) rfl) rfl (src_len ((hs1.less ((hSS0.trans (Mem.less_set _ _ _ f28.1)).trans (Mem.less_set _ _ _ f22.1))).src ext_len) (by simp; omega)) (by rw [flat_length ext_len]; simp; omega) (ext_one _) (by omega) (by omega) ?_
      intro o1 ho1
      rw [Nat.zero_add] at ho1 ⊢
      rw [List.nil_append, hc0]
      refine arun_nil ⟨fun _ => (Mem.less_set _ _ _ f28.1).trans (outN_over ho1), ?_⟩
      refine DG.only 7 (by kernel_rfl) rfl ?_
      refine ARun.appendOK (n := 2) (o := o1) (k := i) (m := 1) (cs := (l.take i).flatMap extF) (lit_lt rfl) ty_sl_22 rfl rfl hfl (ho1.unset) ((appN_self ho1 hfl).lessL (Mem.less_set _ _ _ f28.1)) rfl (src_own ((outN_over ho1).1 _ _ (Mem.own_set_same _ _ _)) List.prefix_rfl) rfl c1 (by omega) (by omega) ?_
      intro o2 ho2
      refine arun_nil ⟨fun h => absurd h (by decide), ?_⟩
      refine DG.only 11 (by kernel_rfl) rfl ?_
      refine ARun.appendOK (n := 2) (o := o2) (k := i + 1) (m := l.length - i) (cs := (l.take i).flatMap extF ++ [.string x.1, .string x.2]) (lit_lt rfl) ty_sl_22 rfl rfl hfl2 ho2 (appN_self ho2 hfl2) rfl (src_len ((hs2.less (hSS0.trans (outN_over ho2))).src ext_len) (by simp)) (by rw [flat_length ext_len]; simp) (ext_one _) (by omega) (by omega) ?_
      intro o3 ho3
      refine arun_nil ⟨fun h => absurd h (by decide), ?_⟩
      refine DG.pure 12 (by kernel_rfl) (by kernel_rfl) rfl rfl rfl rfl (lit_lt rfl) (fun _ => Calm.assign rfl) ?_
      refine DG.end_ (by kernel_rfl) ?_
      refine athen_n ?_
      refine AWP.ret ?_
      refine ⟨_, outN 2 S o3 extT ((insAt l (pos l x.1) x).flatMap extF), ⟨_, _, rfl, rfl, rfl⟩, ?_, ?_⟩
      · rw [hcells]; exact outN_lessM hSS0
      · rw [← hlen] at ho3 ⊢; exact ⟨o3, ho3.unset, rfl, rfl⟩
end Go.Proofs.Ytkeiphkccnfhoaa
