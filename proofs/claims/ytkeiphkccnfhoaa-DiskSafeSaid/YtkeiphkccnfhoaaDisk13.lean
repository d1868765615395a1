/-
  Disk: forget, Free of a disk at work.
-/
import Derived.Test.YtkeiphkccnfhoaaDisk12
namespace Go.Proofs.Ytkeiphkccnfhoaa
open Go.RowKit
open Mv Disk
set_option linter.unusedVariables false
set_option linter.unusedSimpArgs false
set_option maxRecDepth 4000
def forgetD (d : D) (s : ByteArray) : D := { d with waits := filt s d.waits }
set_option maxHeartbeats 1000000 in
theorem dev_forget (p : Nat) (d : D) (s : ByteArray) (S : Mem) (oE oW : Option (Nat × Nat)) (hok : OkV S p d oE oW) (hwl : d.waits.length ≤ 16384) :
    ACall Try.prog 87 #[.pointer (some ⟨p, 0, none⟩), .string s] (devM S p d oE oW) fun r S' => r = .tuple #[] ∧ OkV S p (forgetD d s) oE oW ∧ S' = devM S p (forgetD d s) oE oW := by
  have hp : (devM S p d oE oW).own p = some (devB d oE oW) := Mem.own_set_same _ _ _
  have hap := hok.apart
  have hft := hok.fits
  have hME := devM_W hap (devB d oE oW) (d := d)
  have hoW := okO_baseW hap hft (devB d oE oW)
  rw [← devM_eq] at hME
  generalize hM : devM S p d oE oW = M at *
  unfold devB at hp
  refine ACall.enter (args := [.pointer (some ⟨p, 0, none⟩), .string s]) (rs := []) 15 [(0, .pointer (some ⟨p, 0, none⟩)), (1, .string s)] Try.func87 rfl rfl (Nat.le_of_ble_eq_true rfl) rfl ⟨rfl, rfl, trivial⟩ ?_
  refine AWP.seq ?_
  refine AWP.region ?_
  refine ARun.box1 (lit_lt rfl) rfl rfl ?_
  intro b3 f3
  have g3 := f3
  repeat ((with_reducible replace g3 := fresh_set g3); obtain ⟨g3, _⟩ := g3)
  have := g3.ne hp; have := g3.ne' hp
  (try simp only [List.length_cons, List.length_nil, Nat.zero_add, Nat.reduceAdd])
  refine arun_nil ?_
  refine athen_n ?_
  have nb : ∀ q c, oW = some (q, c) → q ≠ b3 := fun q c e h => by subst h; have := f3.1; rw [← hME, e] at this; rw [show (outN 3 _ (some (q, c)) _ _).own q = _ from Mem.own_set_same _ _ _] at this; cases this
  have hins := del_func ((baseW S p d oE (devB d oE oW)).set b3 ⟨9, [.string s], 1⟩) oW d.waits s b3 (hoW.set (fun q c e => Ne.symm (nb q c e))) hwl ((rds_cons (rd_own' (Mem.own_set_same _ _ _) rfl) (rds_nil _ _)).knows)
  rw [outN_set nb, hME] at hins
  refine AWP.region ?_
  refine rC (Calm.move rfl) ?_
  refine rC (Calm.move rfl) ?_
  refine rC (Calm.nilCheck rfl) ?_
  refine rC (Calm.fieldAddr ty_field_90_0 rfl) ?_
  refine rC (Calm.fieldAddr ty_field_25_2 rfl) ?_
  refine rC (ld_ ty_plain_23 rfl) ?_
  refine rC (Calm.makeFunc rfl rfl) ?_
  refine ARun.call (lit_lt rfl) go_121 rfl (hins) ?_
  rintro _ S1 ⟨ho', rfl, h1⟩
  rw [h1, outN_set nb]; clear h1 S1
  have ho2 : OkO (baseW S p d oE (devB d oE oW)) oW (filt s d.waits).length := ho'.unset
  have hp2 : ((outN 3 (baseW S p d oE (devB d oE oW)) oW wrT ((filt s d.waits).flatMap wrF)).set b3 ⟨9, [.string s], 1⟩).own p = some (devB d oE oW) := (Mem.own_set_other _ _ (by assumption)).trans (own_outN' (Mem.own_set_same _ _ _) (fun q c e => (hap.w q c e).2))
  have hE' := devM_W' (d' := forgetD d s) hap ho2 rfl
  unfold devB at hp2
  refine rC (Calm.nilCheck rfl) ?_
  refine rC (Calm.fieldAddr ty_field_90_0 rfl) ?_
  refine rC (Calm.fieldAddr ty_field_25_2 rfl) ?_
  refine ARun.store1 rfl rfl ty_size_23 (outV_cells _ _) hp2 (show 2 < 5 from by decide) (outV_one _ _) ?_
  (try simp only [Mem.set_set, List.set_cons_zero, List.set_cons_succ, Nat.zero_add, Nat.reduceAdd])
  refine arun_nil ?_
  have hf3 : Fresh (baseW S p d oE (devB d oE oW)) b3 := (fresh_outN (n := 3) (o := oW) (e := wrT) (cs := d.waits.flatMap wrF) (by rw [hME]; exact f3)).1
  refine ⟨_, devM S p (forgetD d s) oE oW, rfl, (by rw [← hE']; exact Less.set (Mem.less_set _ _ _ (fresh_outN_mk hf3 nb).1) _ _), ?_⟩
  exact ⟨rfl, okV_mk (apart_W hap ho2) (fits_W hft ho2 rfl rfl), rfl⟩
/-- An extent is no more. -/
def eraseD (d : D) (s : ByteArray) : D := { d with ext := d.ext.eraseIdx (pos d.ext s) }
theorem erase_len {d : D} (s : ByteArray) (h : pos d.ext s < d.ext.length) : (eraseD d s).ext.length = d.ext.length - 1 := by
  unfold eraseD; rw [List.length_eraseIdx_of_lt h]
/-- The extents of a disk at work, one of them gone; what is told of memory behind it. -/
theorem dev_erase {S : Mem} {p : Nat} {d : D} {oE oW : Option (Nat × Nat)} {s : ByteArray} (hap : Apart S p oE oW) (hft : Fits d oE oW) (h : pos d.ext s < d.ext.length) (ho : OkO (baseE S p d oW (devB d oE oW)) oE (d.ext.length - 1)) :
    OkV S p (eraseD d s) oE oW ∧ (outN 2 (baseE S p d oW (devB d oE oW)) oE extT ((d.ext.eraseIdx (pos d.ext s)).flatMap extF)).set p (devB (eraseD d s) oE oW) = devM S p (eraseD d s) oE oW ∧ (outN 2 (baseE S p d oW (devB d oE oW)) oE extT ((d.ext.eraseIdx (pos d.ext s)).flatMap extF)).own p = some (devB d oE oW) :=
  ⟨okV_mk (apart_E hap ho) (fits_E hft ho (erase_len s h) rfl), devM_E' (d' := eraseD d s) hap ho rfl, own_outN' (Mem.own_set_same _ _ _) (fun q c e => (hap.e q c e).2)⟩
def freeD (d : D) (s : ByteArray) : D × Int := if has d.ext s = true then (forgetD (eraseD d s) s, 0) else (d, 3)
set_option maxHeartbeats 1000000 in
theorem dev_Free (p : Nat) (d : D) (s : ByteArray) (S : Mem) (oE oW : Option (Nat × Nat)) (hok : OkV S p d oE oW) (hR : Right d) :
    ACall Try.prog 54 #[.pointer (some ⟨p, 0, none⟩), .string s] (devM S p d oE oW) (DevR S p (freeD d s)) := by
  have hrl := right_len hR
  have hp : (devM S p d oE oW).own p = some (devB d oE oW) := Mem.own_set_same _ _ _
  have hE : Sl 2 extF (devM S p d oE oW) (outV oE d.ext.length) d.ext := ((sl_outN ext_len (e := extT) hok.dk.e rfl (Nat.le_trans hrl.1 (by decide))).less (outN_over hok.dk.w)).less (Mem.less_set _ _ _ hok.fr.1)
  have hap := hok.apart
  have hft := hok.fits
  have hME := devM_E hap (devB d oE oW) (d := d)
  have hoE := okO_baseE hap hft (devB d oE oW)
  rw [← devM_eq] at hME
  have hhp := has_pos hR.ex.asc s
  have hwl := hR.wl
  unfold freeD
  by_cases q : has d.ext s = true
  · obtain ⟨hlt, he⟩ := hhp.1 q
    rw [if_pos q]
    have hdel := del_ext _ oE d.ext (pos d.ext s) hoE hlt hrl.1
    rw [hME] at hdel
    have hln := erase_len s hlt
    have hfor := fun oE' oW' h => dev_forget p (eraseD d s) s S oE' oW' h hwl
    generalize hM : devM S p d oE oW = M at *
    unfold devB at hp
    refine ACall.enter (args := [.pointer (some ⟨p, 0, none⟩), .string s]) (rs := [.tmp 4]) 35 [(0, .pointer (some ⟨p, 0, none⟩)), (1, .string s)] Try.func54 rfl rfl (Nat.le_of_ble_eq_true rfl) rfl ⟨rfl, rfl, trivial⟩ ?_
    refine AWP.seq ?_
    refine AWP.region ?_
    refine rC (Calm.assign rfl) ?_
    refine arun_nil ?_
    refine athen_n ?_
    refine AWP.seq ?_
    refine AWP.region ?_
    refine rC (Calm.move rfl) ?_
    refine rC (Calm.nilCheck rfl) ?_
    refine rC (Calm.fieldAddr ty_field_90_0 rfl) ?_
    refine rC (Calm.fieldAddr ty_field_25_1 rfl) ?_
    refine rC (ld_ ty_plain_22 rfl) ?_
    refine rC (Calm.move rfl) ?_
    refine ARun.call (lit_lt rfl) go_59 rfl (disk_find _ d.ext s _ hE hR.ex.asc (Nat.le_trans hrl.1 (by decide))) ?_
    rintro _ S1 ⟨rfl, h1⟩
    rw [h1, q]; clear h1 S1
    refine rC (Calm.move rfl) ?_
    refine rC (Calm.extract rfl rfl) ?_
    refine rC (Calm.extract rfl rfl) ?_
    refine rC (Calm.assign rfl) ?_
    refine rC (Calm.assign rfl) ?_
    refine arun_nil ?_
    refine athen_n ?_
    refine AWP.sub [(0, _), (1, _), (4, _), (5, _), (6, _)] ⟨rfl, rfl, rfl, rfl, rfl, trivial⟩ ?_
    refine AWP.seq ?_
    refine AWP.seq ?_
    refine AWP.region ?_
    refine rC (Calm.move rfl) ?_
    refine rC (Calm.un rfl (una_not _)) ?_
    refine arun_nil ?_
    refine athen_n ?_
    refine AWP.sub [(0, _), (1, _), (4, _), (5, _), (6, _), (18, _)] ⟨rfl, rfl, rfl, rfl, rfl, rfl, trivial⟩ ?_
    refine AWP.condF rfl (by first | rfl | (simp; done) | (simp; omega)) ?_
    refine AWP.skip ?_
    refine athen_n ?_
    refine AWP.seq ?_
    refine AWP.region ?_
    refine rC (Calm.move rfl) ?_
    refine rC (Calm.move rfl) ?_
    refine rC (Calm.nilCheck rfl) ?_
    refine rC (Calm.fieldAddr ty_field_90_0 rfl) ?_
    refine rC (Calm.fieldAddr ty_field_25_1 rfl) ?_
    refine rC (ld_ ty_plain_22 rfl) ?_
    refine rC (Calm.move rfl) ?_
    refine rC (Calm.move rfl) ?_
    refine rC (Calm.bin rfl rfl b_add_i64) ?_
    refine ARun.call (lit_lt rfl) go_86 rfl (hdel) ?_
    rintro _ S1 ⟨ho', rfl, h1⟩
    rw [h1]; clear h1 S1
    obtain ⟨hok2, hM2, hp2⟩ := dev_erase hap hft hlt ho'
    unfold devB at hp2
    refine rC (Calm.nilCheck rfl) ?_
    refine rC (Calm.fieldAddr ty_field_90_0 rfl) ?_
    refine rC (Calm.fieldAddr ty_field_25_1 rfl) ?_
    refine ARun.store1 rfl rfl ty_size_22 (outV_cells _ _) hp2 (show 1 < 5 from by decide) (outV_one _ _) ?_
    (try simp only [Mem.set_set, List.set_cons_zero, List.set_cons_succ, Nat.zero_add, Nat.reduceAdd])
    refine arun_nil ?_
    refine athen_n ?_
    refine AWP.sub [(0, _), (1, _), (4, _), (5, _), (6, _), (18, _)] ⟨rfl, rfl, rfl, rfl, rfl, rfl, trivial⟩ ?_
    rw [← hln]
    refine AWP.less (devM S p (eraseD d s) oE oW) (by rw [← hM2]; exact Mem.Less.refl _) ?_
    refine AWP.seq ?_
    refine AWP.region ?_
    refine rC (Calm.move rfl) ?_
    refine rC (Calm.move rfl) ?_
    refine ARun.call (lit_lt rfl) go_87 rfl (hfor oE oW hok2) ?_
    rintro _ S1 ⟨rfl, hok3, h1⟩
    rw [h1]; clear h1 S1
    refine arun_nil ?_
    refine athen_n ?_
    refine AWP.sub [(0, _), (1, _), (4, _), (5, _), (6, _), (18, _)] ⟨rfl, rfl, rfl, rfl, rfl, rfl, trivial⟩ ?_
    refine AWP.seq ?_
    refine AWP.region ?_
    refine rC (Calm.assign rfl) ?_
    refine arun_nil ?_
    refine athen_n ?_
    refine AWP.ret ?_
    refine ⟨_, _, ⟨_, _, rfl, rfl, rfl⟩, Mem.Less.refl _, ?_⟩
    exact ⟨oE, oW, hok3, rfl, rfl⟩
  · rw [if_neg q]
    generalize hM : devM S p d oE oW = M at *
    unfold devB at hp
    refine ACall.enter (args := [.pointer (some ⟨p, 0, none⟩), .string s]) (rs := [.tmp 4]) 35 [(0, .pointer (some ⟨p, 0, none⟩)), (1, .string s)] Try.func54 rfl rfl (Nat.le_of_ble_eq_true rfl) rfl ⟨rfl, rfl, trivial⟩ ?_
    refine AWP.seq ?_
    refine AWP.region ?_
    refine rC (Calm.assign rfl) ?_
    refine arun_nil ?_
    refine athen_n ?_
    refine AWP.seq ?_
    refine AWP.region ?_
    refine rC (Calm.move rfl) ?_
    refine rC (Calm.nilCheck rfl) ?_
    refine rC (Calm.fieldAddr ty_field_90_0 rfl) ?_
    refine rC (Calm.fieldAddr ty_field_25_1 rfl) ?_
    refine rC (ld_ ty_plain_22 rfl) ?_
    refine rC (Calm.move rfl) ?_
    refine ARun.call (lit_lt rfl) go_59 rfl (disk_find _ d.ext s _ hE hR.ex.asc (Nat.le_trans hrl.1 (by decide))) ?_
    rintro _ S1 ⟨rfl, h1⟩
    rw [h1, Bool.eq_false_iff.2 q]; clear h1 S1
    refine rC (Calm.move rfl) ?_
    refine rC (Calm.extract rfl rfl) ?_
    refine rC (Calm.extract rfl rfl) ?_
    refine rC (Calm.assign rfl) ?_
    refine rC (Calm.assign rfl) ?_
    refine arun_nil ?_
    refine athen_n ?_
    refine AWP.sub [(0, _), (1, _), (4, _), (5, _), (6, _)] ⟨rfl, rfl, rfl, rfl, rfl, trivial⟩ ?_
    refine AWP.seq ?_
    refine AWP.seq ?_
    refine AWP.region ?_
    refine rC (Calm.move rfl) ?_
    refine rC (Calm.un rfl (una_not _)) ?_
    refine arun_nil ?_
    refine athen_n ?_
    refine AWP.sub [(0, _), (1, _), (4, _), (5, _), (6, _), (18, _)] ⟨rfl, rfl, rfl, rfl, rfl, rfl, trivial⟩ ?_
    refine AWP.condT rfl (by first | rfl | (simp; done) | (simp; omega)) ?_
    refine AWP.seq ?_
    refine AWP.region ?_
    refine rC (Calm.assign rfl) ?_
    refine arun_nil ?_
    refine athen_n ?_
    refine AWP.ret ?_
    refine athen_ret ?_
    refine ⟨_, M, ⟨_, _, rfl, rfl, rfl⟩, less_, ?_⟩
    exact ⟨oE, oW, hok, rfl, hM.symm⟩
end Go.Proofs.Ytkeiphkccnfhoaa
