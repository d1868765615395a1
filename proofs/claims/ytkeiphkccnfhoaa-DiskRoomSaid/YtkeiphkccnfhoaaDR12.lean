/-
  Disk, the document's side: a write that is done.
-/
import Derived.Test.YtkeiphkccnfhoaaDR11
namespace Go.Proofs.Ytkeiphkccnfhoaa
open Go.RowKit
open Mv Disk
set_option linter.unusedVariables false
set_option linter.unusedSimpArgs false
set_option maxRecDepth 4000
theorem okD_as {S : Mem} {d d' : D} {oE oW : Option (Nat × Nat)} (h : OkD S d oE oW) (hl : d'.ext.length = d.ext.length) (hw : d'.waits.length = d.waits.length) : OkD S d' oE oW :=
  ⟨by rw [hl]; exact h.e, ⟨fun e => by rw [hw]; exact h.w.nil e, fun q c e => by
    obtain ⟨h1, h2⟩ := h.w.own q c e
    rw [hw]
    refine ⟨?_, h2⟩
    obtain ⟨g, hn⟩ := fresh_outN h1
    cases oE with
    | none => exact g
    | some z => exact fresh_more g (hn _ _ rfl)⟩⟩
theorem dk_ownE {S : Mem} {d : D} {b c : Nat} {oW : Option (Nat × Nat)} (h : OkD S d (some (b, c)) oW) : (dkM S d (some (b, c)) oW).own b = some ⟨extT, d.ext.flatMap extF, c * 2⟩ :=
  own_outN' (Mem.own_set_same _ _ _) (fun q c' e => by obtain ⟨g, hn⟩ := fresh_outN (h.w.own q c' e).1; exact hn _ _ rfl)
theorem dk_setE {S : Mem} {d d' : D} {b c : Nat} {oW : Option (Nat × Nat)} (h : OkD S d (some (b, c)) oW) (hw : d'.waits = d.waits) : (dkM S d (some (b, c)) oW).set b ⟨extT, d'.ext.flatMap extF, c * 2⟩ = dkM S d' (some (b, c)) oW := by
  have hne : ∀ q c', oW = some (q, c') → b ≠ q := fun q c' e => by obtain ⟨g, hn⟩ := fresh_outN (h.w.own q c' e).1; exact Ne.symm (hn _ _ rfl)
  unfold dkM
  rw [hw]
  exact outN_box hne
/-- With a write done, at place p. -/
def putD (d : D) (w : Wr) (p : Nat) (x : Ext) : D := { d with ext := d.ext.set p (w.1, putS x.2 w) }
theorem cat_put {x : ByteArray} {w : Wr} : (x.extract 0 (64 * w.2.1.toNat) ++ w.2.2) ++ x.extract (64 * w.2.1.toNat + 64) x.size = putS x w := by
  apply str_ext
  rw [data_append, data_append, data_extract, data_extract]
  unfold putS
  rw [bs_data, List.drop_zero, List.take_of_length_le (Nat.le_of_eq (size_data x))]
set_option maxHeartbeats 2000000 in
theorem rd_done (d : D) (w : Wr) (S : Mem) (oE oW : Option (Nat × Nat)) (hok : OkD S d oE oW) (hel : d.ext.length ≤ 16384) (hwl : d.waits.length ≤ 16384) (ha : Asc d.ext) (p : Nat) (x : Ext) (hp : p < d.ext.length) (hx : d.ext[p] = x) (he : x.1 = w.1) (h0 : 0 ≤ w.2.1) (h1 : 64 * w.2.1.toNat + 64 ≤ x.2.size) (h2 : w.2.2.size = 64) (hz : x.2.size ≤ 140737488351232) :
    ACall Try.prog 66 #[dkV d oE oW, .agg #[.string w.1, .int .i64 w.2.1, .string w.2.2]] (dkM S d oE oW) fun r S' => r = dkV (putD d w p x) oE oW ∧ S' = dkM S (putD d w p x) oE oW := by
  obtain ⟨⟨bE, cE⟩, rfl⟩ : ∃ z, oE = some z := by
    cases oE with
    | some z => exact ⟨z, rfl⟩
    | none => have := hok.e.nil rfl; omega
  have hown := dk_ownE hok
  have hset := fun d' h => dk_setE (d' := d') hok h
  have hdk := hok.dk (by omega) (by omega)
  have hok' : OkD S (putD d w p x) (some (bE, cE)) oW := okD_as hok (by unfold putD; simp) rfl
  have hset := hset (putD d w p x) rfl
  obtain ⟨qw, dw, hqw⟩ := outV_eq hok.w
  have hf : fnd d.ext w.1 = (p : Int) := fnd_at ha hp (by rw [hx]; exact he)
  have hv : dkV (putD d w p x) (some (bE, cE)) oW = .agg #[.int .i64 d.size, .slice (some ⟨bE, 0, none⟩) d.ext.length cE, .slice qw d.waits.length dw, .int .i64 d.fuse, .bool d.down] := by
    unfold dkV putD; simp only [List.length_set]; rw [hqw]; rfl
  rw [hv, ← hset]
  unfold dkV at hdk ⊢
  rw [hqw] at hdk ⊢
  obtain ⟨_, _, _, _, hxx, hE, hW⟩ := id hdk
  cases hxx
  generalize dkM S d (some (bE, cE)) oW = T at *
  obtain ⟨m, hm⟩ : ∃ m : Nat, w.2.1 = (m : Int) := ⟨w.2.1.toNat, by omega⟩
  have hcat := cat_put (x := x.2) (w := w)
  rw [hm, Int.toNat_natCast] at h1 hcat
  have hm1 : IntKind.i64.wrap (64 * (m : Int)) = ((64 * m : Nat) : Int) := by rw [IntWalk.i64_in _ (by omega)]; omega
  have hm2 : IntKind.i64.wrap ((m : Int) + 1) = ((m + 1 : Nat) : Int) := by rw [IntWalk.i64_in _ (by omega)]; omega
  have hm3 : IntKind.i64.wrap (64 * ((m + 1 : Nat) : Int)) = ((64 * m + 64 : Nat) : Int) := by rw [IntWalk.i64_in _ (by omega)]; omega
  have hki : T.Knows ⟨bE, 0 + p * 2, none⟩ [.string x.1, .string x.2] := by
    obtain ⟨_, _, e, _, _, h3⟩ := id hE
    cases e
    obtain ⟨b, off, e, hk⟩ := h3.resolve_left (fun e => by rw [e] at hp; simp at hp)
    cases e
    have := hk p hp
    rw [hx] at this; exact this
  have hki1 := kn_at hki 1 rfl
  have hfl := flat_length ext_len d.ext
  have hset2 : (d.ext.flatMap extF).set (p * 2 + 1) (.string (putS x.2 w)) = (putD d w p x).ext.flatMap extF := flat_set ext_len d.ext p (w.1, putS x.2 w) hp 1 _ (by omega) (by rw [hx]; unfold extF; rw [he]; rfl)
  rw [hm]
  refine ACall.enter (args := [.agg #[.int .i64 d.size, .slice (some ⟨bE, 0, none⟩) d.ext.length cE, .slice qw d.waits.length dw, .int .i64 d.fuse, .bool d.down], .agg #[.string w.1, .int .i64 (m : Int), .string w.2.2]]) (rs := [.cell 4 25]) 39 [(0, .agg #[.int .i64 d.size, .slice (some ⟨bE, 0, none⟩) d.ext.length cE, .slice qw d.waits.length dw, .int .i64 d.fuse, .bool d.down]), (1, .agg #[.string w.1, .int .i64 (m : Int), .string w.2.2])] Try.func66 rfl rfl (Nat.le_of_ble_eq_true rfl) rfl ⟨rfl, rfl, trivial⟩ ?_
  refine AWP.seq ?_
  refine AWP.region ?_
  refine ARun.boxA (cs := [_, _, _, _, _]) (lit_lt rfl) rfl ?_
  intro b2 f2
  have g2 := f2
  repeat ((with_reducible replace g2 := fresh_set g2); obtain ⟨g2, _⟩ := g2)
  (try simp only [List.length_cons, List.length_nil, Nat.zero_add, Nat.reduceAdd])
  refine ARun.boxA (cs := [_, _, _]) (lit_lt rfl) rfl ?_
  intro b3 f3
  have g3 := f3
  repeat ((with_reducible replace g3 := fresh_set g3); obtain ⟨g3, _⟩ := g3)
  (try simp only [List.length_cons, List.length_nil, Nat.zero_add, Nat.reduceAdd])
  refine ARun.alloc (lit_lt rfl) ty_zero_25 ?_
  intro b4 f4
  have g4 := f4
  repeat ((with_reducible replace g4 := fresh_set g4); obtain ⟨g4, _⟩ := g4)
  (try simp only [List.length_cons, List.length_nil, Nat.zero_add, Nat.reduceAdd])
  refine arun_nil ?_
  refine athen_n ?_
  have n2 := f2.ne hown
  have n3 := g3.ne hown
  have n4 := g4.ne hown
  refine AWP.seq ?_
  refine AWP.region ?_
  refine rC (Calm.fieldAddr ty_field_25_1 rfl) ?_
  refine rC (ld_ ty_plain_22 rfl) ?_
  refine rC (Calm.fieldAddr ty_field_51_0 rfl) ?_
  refine rC (ld_ ty_plain_9 rfl) ?_
  refine ARun.call (lit_lt rfl) go_50 rfl (rd_Find _ d.ext w.1 _ (hE.less less_) ha) ?_
  rintro _ S1 ⟨rfl, h1⟩
  rw [h1, hf]; clear h1 S1
  refine rC (Calm.assign rfl) ?_
  refine arun_nil ?_
  refine athen_n ?_
  refine AWP.sub [(0, _), (1, _), (2, _), (3, _), (4, _), (5, _)] ⟨rfl, rfl, rfl, rfl, rfl, rfl, trivial⟩ ?_
  refine AWP.seq ?_
  refine AWP.region ?_
  refine rC (Calm.fieldAddr ty_field_25_1 rfl) ?_
  refine rC (ld_ ty_plain_22 rfl) ?_
  refine rC (Calm.move rfl) ?_
  refine rC (Calm.indexS Try.underlying22 ty_size_54 rfl rfl (by omega) (by omega)) ?_
  refine rC (Calm.fieldAddr ty_field_54_1 rfl) ?_
  refine rC (Calm.loadK ty_plain_9 rfl (hki1.less less_)) ?_
  refine rC (Calm.assign rfl) ?_
  refine arun_nil ?_
  refine athen_n ?_
  refine AWP.sub [(0, _), (1, _), (2, _), (3, _), (4, _), (5, _), (6, _)] ⟨rfl, rfl, rfl, rfl, rfl, rfl, rfl, trivial⟩ ?_
  refine AWP.seq ?_
  refine AWP.draw [(0, true), (1, true), (2, true), (3, true), (4, true), (5, true), (6, true), (7, true), (8, true), (9, true), (10, true), (11, true), (12, true), (13, true), (14, true), (15, true), (16, true), (17, true), (18, true), (19, true), (20, false)] [20] mixed (by kernel_rfl) ?_
  refine dP (hc := fun _ => Calm.fieldAddr ty_field_25_1 rfl) (h := ?_)
  refine dC (hc := ld_ ty_plain_22 rfl) (h := ?_)
  refine dP (hc := fun _ => Calm.move rfl) (h := ?_)
  refine dP (hc := fun _ => Calm.move rfl) (h := ?_)
  refine dP (hc := fun _ => Calm.fieldAddr ty_field_51_1 rfl) (h := ?_)
  refine dC (hc := ld_ ty_plain_3 rfl) (h := ?_)
  refine dP (hc := fun _ => Calm.bin rfl rfl (bin_mulW hm1)) (h := ?_)
  refine draw_pure rfl rfl rfl rfl (lit_lt rfl) (fun _ => Calm.sliceStr (l := 0) (h := 64 * m) (by kernel_rfl) rfl ⟨_, _, rfl, Int.natCast_nonneg _, Int.ofNat_le.2 (by omega), rfl⟩ rfl) ?_
  refine dP (hc := fun _ => Calm.fieldAddr ty_field_51_2 rfl) (h := ?_)
  refine dC (hc := ld_ ty_plain_9 rfl) (h := ?_)
  refine dP (hc := fun _ => Calm.bin rfl rfl (bin_str_add (by rw [ByteArray.size_extract]; omega))) (h := ?_)
  refine dP (hc := fun _ => Calm.move rfl) (h := ?_)
  refine dP (hc := fun _ => Calm.fieldAddr ty_field_51_1 rfl) (h := ?_)
  refine dC (hc := ld_ ty_plain_3 rfl) (h := ?_)
  refine dP (hc := fun _ => Calm.bin rfl rfl (bin_addW hm2)) (h := ?_)
  refine dP (hc := fun _ => Calm.bin rfl rfl (bin_mulW hm3)) (h := ?_)
  refine draw_pure rfl rfl rfl rfl (lit_lt rfl) (fun _ => Calm.sliceStr (l := 64 * m + 64) (h := x.2.size) (by kernel_rfl) rfl rfl ⟨_, _, rfl, Int.natCast_nonneg _, Int.ofNat_le.2 h1, rfl⟩) ?_
  refine dP (hc := fun _ => Calm.as (congrArg Value.string hcat) (Calm.bin rfl rfl (bin_str_add (by rw [ByteArray.size_append, ByteArray.size_extract, ByteArray.size_extract]; omega)))) (h := ?_)
  refine dP (hc := fun _ => Calm.indexS Try.underlying22 ty_size_54 rfl rfl (by omega) (by omega)) (h := ?_)
  refine dP (hc := fun _ => Calm.fieldAddr ty_field_54_1 rfl) (h := ?_)
  refine draw_only rfl ?_
  refine ARun.store1 rfl rfl ty_size_9 rfl own_ (by show 0 + (p : Int).toNat * 2 + 1 < _; rw [hfl]; omega) rfl ?_
  (try simp only [Mem.set_set, List.set_cons_zero, List.set_cons_succ, Nat.zero_add, Nat.reduceAdd])
  refine arun_nil ⟨fun h => absurd h (by decide), ?_⟩
  refine draw_nil ?_
  refine athen_n ?_
  refine AWP.sub [(0, _), (1, _), (2, _), (3, _), (4, _), (5, _), (6, _)] ⟨rfl, rfl, rfl, rfl, rfl, rfl, rfl, trivial⟩ ?_
  rw [Int.toNat_natCast, hset2]
  refine AWP.seq ?_
  refine AWP.region ?_
  refine rC (ldA_ (cs := [_, _, _, _, _]) ty_agg_25 ty_size_25 rfl) ?_
  first | refine ARun.storeAll rfl rfl ty_size_25 own_ rfl rfl ?_ | refine ARun.store rfl rfl ty_size_25 own_ lens_ rfl ?_
  (try simp only [Mem.set_set, List.set_cons_zero, List.set_cons_succ, Nat.zero_add, Nat.reduceAdd])
  refine arun_nil ?_
  refine athen_n ?_
  refine AWP.sub [(0, _), (1, _), (2, _), (3, _), (4, _), (5, _), (6, _)] ⟨rfl, rfl, rfl, rfl, rfl, rfl, rfl, trivial⟩ ?_
  refine AWP.ret ?_
  refine ⟨_, T.set bE ⟨extT, (putD d w p x).ext.flatMap extF, cE * 2⟩, ⟨_, _, _, rfl, .inr ⟨ty_agg_25, [_, _, _, _, _], ty_size_25, rds_, rfl⟩, rfl, rfl⟩, less_, ?_⟩
  exact ⟨rfl, rfl⟩
end Go.Proofs.Ytkeiphkccnfhoaa
