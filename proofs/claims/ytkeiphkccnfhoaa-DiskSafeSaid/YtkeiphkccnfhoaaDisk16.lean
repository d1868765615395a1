/-
  Disk: an extent is called otherwise.
-/
import Derived.Test.YtkeiphkccnfhoaaDisk15
namespace Go.Proofs.Ytkeiphkccnfhoaa
open Go.RowKit
open Mv Disk
set_option linter.unusedVariables false
set_option linter.unusedSimpArgs false
set_option maxRecDepth 4000
def renW (fr tn : ByteArray) (w : Wr) : Wr := if w.1 = fr then (tn, w.2) else w
def mixW (fr tn : ByteArray) (l : List Wr) (i : Nat) : List Wr := (l.take i).map (renW fr tn) ++ l.drop i
theorem mix_len (fr tn : ByteArray) (l : List Wr) (i : Nat) : (mixW fr tn l i).length = l.length := by unfold mixW; simp; omega
theorem mix_zero (fr tn : ByteArray) (l : List Wr) : mixW fr tn l 0 = l := by simp [mixW]
theorem mix_all (fr tn : ByteArray) (l : List Wr) : mixW fr tn l l.length = l.map (renW fr tn) := by simp [mixW]
theorem mix_at (fr tn : ByteArray) (l : List Wr) (i : Nat) (h : i < l.length) : mixW fr tn l i = (l.take i).map (renW fr tn) ++ l[i] :: l.drop (i + 1) := by unfold mixW; rw [drop_get h]
theorem mix_get (fr tn : ByteArray) (l : List Wr) (i : Nat) (h : i < l.length) (h' : i < (mixW fr tn l i).length) : (mixW fr tn l i)[i] = l[i] := by
  simp only [mix_at fr tn l i h]
  rw [List.getElem_append_right (by simp; omega)]
  simp [Nat.min_eq_left (Nat.le_of_lt h)]
theorem mix_succ (fr tn : ByteArray) (l : List Wr) (i : Nat) (h : i < l.length) : mixW fr tn l (i + 1) = (mixW fr tn l i).set i (renW fr tn l[i]) := by
  rw [mix_at fr tn l i h, List.set_append_right _ _ (by simp; omega)]
  unfold mixW
  rw [take_get h, List.map_append, List.append_assoc, List.length_map, List.length_take, Nat.min_eq_left (Nat.le_of_lt h), Nat.sub_self]
  rfl
theorem flat_set {α : Type} {n : Nat} {f : α → List Value} (hn : ∀ x, (f x).length = n) (l : List α) (k : Nat) (y : α) (h : k < l.length) (q : Nat) (v : Value) (hq : q < n) (he : (f l[k]).set q v = f y) : (l.flatMap f).set (k * n + q) v = (l.set k y).flatMap f := by
  have e1 : l = l.take k ++ l[k] :: l.drop (k + 1) := by rw [← drop_get h, List.take_append_drop]
  have e2 : l.set k y = l.take k ++ y :: l.drop (k + 1) := by rw [List.set_eq_take_append_cons_drop, if_pos h]
  rw [e2]
  conv => lhs; rw [e1]
  rw [List.flatMap_append, List.flatMap_append, List.flatMap_cons, List.flatMap_cons]
  have hl := flat_length hn (l.take k)
  rw [List.length_take, Nat.min_eq_left (Nat.le_of_lt h)] at hl
  rw [List.set_append_right _ _ (by omega), List.set_append_left _ _ (by rw [hn]; omega), show k * n + q - (List.flatMap f (List.take k l)).length = q from by omega, he]
def renD (d : D) (fr tn : ByteArray) : D := { d with waits := d.waits.map (renW fr tn) }
def setE (d : D) (s data : ByteArray) : D := { d with ext := d.ext.set (pos d.ext s) (s, data) }
def insE (d : D) (s data : ByteArray) : D := { d with ext := insAt d.ext (pos d.ext s) (s, data) }
def putE (d : D) (s data : ByteArray) : D := if has d.ext s = true then setE (forgetD d s) s data else insE d s data
def moveD (d : D) (fr tn : ByteArray) : D × Int := if ¬ nm tn then (d, 1) else if has d.ext fr = true then (if fr = tn then (d, 0) else (renD (putE (eraseD d fr) tn (exOf d.ext fr).2) fr tn, 0)) else (d, 3)
theorem disk_moved (b : Bool) (S : Mem) : ACall Try.prog 90 #[.bool b] S fun r S' => r = .int .i64 (if b = true then 0 else 3) ∧ S' = S := by
  cases b
  · skip
    refine ACall.enter (args := [.bool false]) (rs := [.tmp 2]) 4 [(0, .bool false)] Try.func90 rfl rfl (Nat.le_of_ble_eq_true rfl) rfl ⟨rfl, trivial⟩ ?_
    refine AWP.seq ?_
    refine AWP.region ?_
    refine rC (Calm.assign rfl) ?_
    refine arun_nil ?_
    refine athen_n ?_
    refine AWP.seq ?_
    refine AWP.seq ?_
    refine AWP.region ?_
    refine rC (Calm.move rfl) ?_
    refine arun_nil ?_
    refine athen_n ?_
    refine AWP.condF rfl (by first | rfl | (simp; done) | (simp; omega)) ?_
    refine AWP.skip ?_
    refine athen_n ?_
    refine AWP.seq ?_
    refine AWP.region ?_
    refine rC (Calm.assign rfl) ?_
    refine arun_nil ?_
    refine athen_n ?_
    refine AWP.ret ?_
    refine ⟨_, S, ⟨_, _, rfl, rfl, rfl⟩, less_, ?_⟩
    exact ⟨rfl, rfl⟩
  · skip
    refine ACall.enter (args := [.bool true]) (rs := [.tmp 2]) 4 [(0, .bool true)] Try.func90 rfl rfl (Nat.le_of_ble_eq_true rfl) rfl ⟨rfl, trivial⟩ ?_
    refine AWP.seq ?_
    refine AWP.region ?_
    refine rC (Calm.assign rfl) ?_
    refine arun_nil ?_
    refine athen_n ?_
    refine AWP.seq ?_
    refine AWP.seq ?_
    refine AWP.region ?_
    refine rC (Calm.move rfl) ?_
    refine arun_nil ?_
    refine athen_n ?_
    refine AWP.condT rfl (by first | rfl | (simp; done) | (simp; omega)) ?_
    refine AWP.seq ?_
    refine AWP.region ?_
    refine rC (Calm.assign rfl) ?_
    refine arun_nil ?_
    refine athen_n ?_
    refine AWP.ret ?_
    refine athen_ret ?_
    refine ⟨_, S, ⟨_, _, rfl, rfl, rfl⟩, less_, ?_⟩
    exact ⟨rfl, rfl⟩
theorem kn_at {S : Mem} {b o : Nat} {cs : List Value} (h : S.Knows ⟨b, o, none⟩ cs) (k : Nat) {v : Value} (hk : cs[k]? = some v) : S.Knows ⟨b, o + k, none⟩ [v] := fun w hv j u hj => by
  cases j with
  | zero =>
    simp only [List.getElem?_cons_zero, Option.some.injEq] at hj
    subst hj
    have := h w hv k v hk
    rw [addr_add] at this ⊢; exact this
  | succ j => simp at hj
theorem dev_ownE {S : Mem} {p : Nat} {d : D} {b c : Nat} {oW : Option (Nat × Nat)} (h : OkV S p d (some (b, c)) oW) : (devM S p d (some (b, c)) oW).own b = some ⟨extT, d.ext.flatMap extF, c * 2⟩ := by
  rw [devM_eq, ← devM_E h.apart]; exact Mem.own_set_same _ _ _
theorem dev_setE {S : Mem} {p : Nat} {d d' : D} {b c : Nat} {oW : Option (Nat × Nat)} (h : OkV S p d (some (b, c)) oW) (hw : d'.waits = d.waits) (hl : d'.ext.length = d.ext.length) (h1 : d'.size = d.size) (h2 : d'.fuse = d.fuse) (h3 : d'.down = d.down) : (devM S p d (some (b, c)) oW).set b ⟨extT, d'.ext.flatMap extF, c * 2⟩ = devM S p d' (some (b, c)) oW ∧ OkV S p d' (some (b, c)) oW := by
  have hf := h.fits
  have e : devB d (some (b, c)) oW = devB d' (some (b, c)) oW := by unfold devB; rw [hw, hl, h1, h2, h3]
  refine ⟨?_, okV_mk h.apart ⟨(fun x => by cases x), fun x => by rw [hw]; exact hf.w0 x, fun b c x => by rw [hl]; exact hf.e b c x, fun b c x => by rw [hw]; exact hf.w b c x⟩⟩
  rw [devM_eq, devM_eq, ← devM_E h.apart, ← devM_E h.apart, e]
  unfold baseE
  rw [hw]
  exact Mem.set_set _ _ _ _
theorem dev_ownW {S : Mem} {p : Nat} {d : D} {oE : Option (Nat × Nat)} {b c : Nat} (h : OkV S p d oE (some (b, c))) : (devM S p d oE (some (b, c))).own b = some ⟨wrT, d.waits.flatMap wrF, c * 3⟩ := by
  rw [devM_eq, ← devM_W h.apart]; exact Mem.own_set_same _ _ _
theorem dev_setW {S : Mem} {p : Nat} {d d' : D} {oE : Option (Nat × Nat)} {b c : Nat} (h : OkV S p d oE (some (b, c))) (he : d'.ext = d.ext) (hl : d'.waits.length = d.waits.length) (h1 : d'.size = d.size) (h2 : d'.fuse = d.fuse) (h3 : d'.down = d.down) : (devM S p d oE (some (b, c))).set b ⟨wrT, d'.waits.flatMap wrF, c * 3⟩ = devM S p d' oE (some (b, c)) ∧ OkV S p d' oE (some (b, c)) := by
  have hf := h.fits
  have e : devB d oE (some (b, c)) = devB d' oE (some (b, c)) := by unfold devB; rw [he, hl, h1, h2, h3]
  refine ⟨?_, okV_mk h.apart ⟨fun x => by rw [he]; exact hf.e0 x, (fun x => by cases x), fun b c x => by rw [he]; exact hf.e b c x, fun b c x => by rw [hl]; exact hf.w b c x⟩⟩
  rw [devM_eq, devM_eq, ← devM_W h.apart, ← devM_W h.apart, e]
  unfold baseW
  rw [he]
  exact Mem.set_set _ _ _ _
set_option maxHeartbeats 4000000 in
theorem dev_Move (p : Nat) (d : D) (fr tn : ByteArray) (S : Mem) (oE oW : Option (Nat × Nat)) (hok : OkV S p d oE oW) (hR : Right d) :
    ACall Try.prog 57 #[.pointer (some ⟨p, 0, none⟩), .string fr, .string tn] (devM S p d oE oW) (DevR S p (moveD d fr tn)) := by
  have hrl := right_len hR
  have hlens := right_lens hR
  have hwl := hR.wl
  have hp : (devM S p d oE oW).own p = some (devB d oE oW) := Mem.own_set_same _ _ _
  have hE : Sl 2 extF (devM S p d oE oW) (outV oE d.ext.length) d.ext := ((sl_outN ext_len (e := extT) hok.dk.e rfl hlens.1).less (outN_over hok.dk.w)).less (Mem.less_set _ _ _ hok.fr.1)
  have hap := hok.apart
  have hft := hok.fits
  have hME := devM_E hap (devB d oE oW) (d := d)
  have hoE := okO_baseE hap hft (devB d oE oW)
  rw [← devM_eq] at hME
  have hhp := has_pos hR.ex.asc fr
  unfold moveD
  by_cases q1 : nm tn
  · rw [if_neg (fun h => h q1)]
    by_cases q2 : has d.ext fr = true
    · rw [if_pos q2]
      by_cases q3 : fr = tn
      · rw [if_pos q3]
        generalize hM : devM S p d oE oW = M at *
        unfold devB at hp
        refine ACall.enter (args := [.pointer (some ⟨p, 0, none⟩), .string fr, .string tn]) (rs := [.tmp 6]) 126 [(0, .pointer (some ⟨p, 0, none⟩)), (1, .string fr), (2, .string tn)] Try.func57 rfl rfl (Nat.le_of_ble_eq_true rfl) rfl ⟨rfl, rfl, rfl, trivial⟩ ?_
        refine AWP.seq ?_
        refine AWP.region ?_
        refine rC (Calm.assign rfl) ?_
        refine arun_nil ?_
        refine athen_n ?_
        refine AWP.seq ?_
        refine AWP.seq ?_
        refine AWP.region ?_
        refine rC (Calm.move rfl) ?_
        refine ARun.build1s (lit_lt rfl) ty_sl_26 rfl rfl ?_
        intro b14 f14
        have g14 := f14
        repeat ((with_reducible replace g14 := fresh_set g14); obtain ⟨g14, _⟩ := g14)
        have := g14.ne hp; have := g14.ne' hp
        refine ARun.call (lit_lt rfl) go_83 rfl (disk_named _ [tn] _ (sl_str1 own_)) ?_
        rintro _ S1 ⟨⟨t, rfl, ht⟩, h1⟩
        rw [h1]; clear h1 S1
        obtain rfl : t = true := ht.2 (one_all.2 q1)
        refine rC (Calm.un rfl (una_not _)) ?_
        refine arun_nil ?_
        refine athen_n ?_
        refine AWP.sub [(0, _), (1, _), (2, _), (6, _), (16, _)] ⟨rfl, rfl, rfl, rfl, rfl, trivial⟩ ?_
        refine AWP.condF rfl (by first | rfl | (simp; done) | (simp; omega)) ?_
        refine AWP.skip ?_
        refine athen_n ?_
        refine AWP.seq ?_
        refine AWP.region ?_
        refine rC (Calm.move rfl) ?_
        refine rC (Calm.nilCheck rfl) ?_
        refine rC (Calm.fieldAddr ty_field_90_0 rfl) ?_
        refine rC (Calm.fieldAddr ty_field_25_1 rfl) ?_
        refine rC (ld_ ty_plain_22 rfl) ?_
        refine rC (Calm.move rfl) ?_
        refine ARun.call (lit_lt rfl) go_59 rfl (disk_find _ d.ext fr _ (hE.less less_) hR.ex.asc (Nat.le_trans hrl.1 (by decide))) ?_
        rintro _ S1 ⟨rfl, h1⟩
        rw [h1, q2]; clear h1 S1
        refine rC (Calm.move rfl) ?_
        refine rC (Calm.extract rfl rfl) ?_
        refine rC (Calm.extract rfl rfl) ?_
        refine rC (Calm.assign rfl) ?_
        refine rC (Calm.assign rfl) ?_
        refine arun_nil ?_
        refine athen_n ?_
        refine AWP.sub [(0, _), (1, _), (2, _), (6, _), (16, _), (7, _), (8, _)] ⟨rfl, rfl, rfl, rfl, rfl, rfl, rfl, trivial⟩ ?_
        refine AWP.seq ?_
        refine AWP.seq ?_
        refine AWP.region ?_
        refine rC (Calm.move rfl) ?_
        refine rC (Calm.un rfl (una_not _)) ?_
        refine rC (Calm.move rfl) ?_
        first | refine rS 29 ?_ | refine rU 29 ?_ | refine rG 29 (Calm.move rfl) ?_
        first | refine rS 29 ?_ | refine rU 29 ?_ | refine rG 29 (Calm.move rfl) ?_
        first | refine rS 29 ?_ | refine rU 29 ?_ | refine rG 29 (Calm.bin rfl rfl (bin_bool (bin_str_eql _ _) (decide_eq_true q3))) ?_
        refine rC ((by first | exact Calm.pickT rfl rfl | exact Calm.pickF rfl rfl)) ?_
        refine arun_nil ?_
        refine athen_n ?_
        refine AWP.sub [(0, _), (1, _), (2, _), (6, _), (16, _), (7, _), (8, _), (33, _)] ⟨rfl, rfl, rfl, rfl, rfl, rfl, rfl, rfl, trivial⟩ ?_
        refine AWP.condT rfl (by first | rfl | (simp; done) | (simp; omega)) ?_
        refine AWP.seq ?_
        refine AWP.region ?_
        refine rC (Calm.move rfl) ?_
        refine ARun.call (lit_lt rfl) go_90 rfl (disk_moved true _) ?_
        rintro _ S1 ⟨rfl, h1⟩
        rw [h1]; clear h1 S1
        refine rC (Calm.assign rfl) ?_
        refine arun_nil ?_
        refine athen_n ?_
        refine AWP.sub [(0, _), (1, _), (2, _), (6, _), (16, _), (7, _), (8, _), (33, _)] ⟨rfl, rfl, rfl, rfl, rfl, rfl, rfl, rfl, trivial⟩ ?_
        refine AWP.ret ?_
        refine athen_ret ?_
        refine ⟨_, M, ⟨_, _, rfl, rfl, rfl⟩, less_, ?_⟩
        exact ⟨oE, oW, hok, rfl, hM.symm⟩
      · rw [if_neg q3]
        obtain ⟨hlt, he⟩ := hhp.1 q2
        obtain ⟨⟨b, c⟩, rfl⟩ : ∃ q, oE = some q := by
          cases oE with
          | none => have := hok.dk.e.nil rfl; omega
          | some q => exact ⟨q, rfl⟩
        have hdel := del_ext _ (some (b, c)) d.ext (pos d.ext fr) hoE hlt hrl.1
        rw [hME] at hdel
        have hln := erase_len fr hlt
        have hkd := kn_at (hE.at1 _ hlt) 1 (v := .string d.ext[pos d.ext fr].2) rfl
        have hR1 := right_erase hR.ex hlt
        have hpp1 : ∀ oE', (devM S p (eraseD d fr) oE' oW).own p = some (devB (eraseD d fr) oE' oW) := fun oE' => Mem.own_set_same _ _ _
        rw [exOf_eq hlt]
        obtain ⟨data, hdata⟩ : ∃ data, d.ext[pos d.ext fr].2 = data := ⟨_, rfl⟩
        rw [hdata] at hkd ⊢
        generalize hM : devM S p d (some (b, c)) oW = M at *
        unfold devB at hp
        refine ACall.enter (args := [.pointer (some ⟨p, 0, none⟩), .string fr, .string tn]) (rs := [.tmp 6]) 126 [(0, .pointer (some ⟨p, 0, none⟩)), (1, .string fr), (2, .string tn)] Try.func57 rfl rfl (Nat.le_of_ble_eq_true rfl) rfl ⟨rfl, rfl, rfl, trivial⟩ ?_
        refine AWP.seq ?_
        refine AWP.region ?_
        refine rC (Calm.assign rfl) ?_
        refine arun_nil ?_
        refine athen_n ?_
        refine AWP.seq ?_
        refine AWP.seq ?_
        refine AWP.region ?_
        refine rC (Calm.move rfl) ?_
        refine ARun.build1s (lit_lt rfl) ty_sl_26 rfl rfl ?_
        intro b14 f14
        have g14 := f14
        repeat ((with_reducible replace g14 := fresh_set g14); obtain ⟨g14, _⟩ := g14)
        have := g14.ne hp; have := g14.ne' hp
        refine ARun.call (lit_lt rfl) go_83 rfl (disk_named _ [tn] _ (sl_str1 own_)) ?_
        rintro _ S1 ⟨⟨t, rfl, ht⟩, h1⟩
        rw [h1]; clear h1 S1
        obtain rfl : t = true := ht.2 (one_all.2 q1)
        refine rC (Calm.un rfl (una_not _)) ?_
        refine arun_nil ?_
        refine athen_n ?_
        refine AWP.sub [(0, _), (1, _), (2, _), (6, _), (16, _)] ⟨rfl, rfl, rfl, rfl, rfl, trivial⟩ ?_
        refine AWP.condF rfl (by first | rfl | (simp; done) | (simp; omega)) ?_
        refine AWP.skip ?_
        refine athen_n ?_
        refine AWP.seq ?_
        refine AWP.region ?_
        refine rC (Calm.move rfl) ?_
        refine rC (Calm.nilCheck rfl) ?_
        refine rC (Calm.fieldAddr ty_field_90_0 rfl) ?_
        refine rC (Calm.fieldAddr ty_field_25_1 rfl) ?_
        refine rC (ld_ ty_plain_22 rfl) ?_
        refine rC (Calm.move rfl) ?_
        refine ARun.call (lit_lt rfl) go_59 rfl (disk_find _ d.ext fr _ (hE.less less_) hR.ex.asc (Nat.le_trans hrl.1 (by decide))) ?_
        rintro _ S1 ⟨rfl, h1⟩
        rw [h1, q2]; clear h1 S1
        refine rC (Calm.move rfl) ?_
        refine rC (Calm.extract rfl rfl) ?_
        refine rC (Calm.extract rfl rfl) ?_
        refine rC (Calm.assign rfl) ?_
        refine rC (Calm.assign rfl) ?_
        refine arun_nil ?_
        refine athen_n ?_
        refine AWP.sub [(0, _), (1, _), (2, _), (6, _), (16, _), (7, _), (8, _)] ⟨rfl, rfl, rfl, rfl, rfl, rfl, rfl, trivial⟩ ?_
        refine AWP.seq ?_
        refine AWP.seq ?_
        refine AWP.region ?_
        refine rC (Calm.move rfl) ?_
        refine rC (Calm.un rfl (una_not _)) ?_
        refine rC (Calm.move rfl) ?_
        first | refine rS 29 ?_ | refine rU 29 ?_ | refine rG 29 (Calm.move rfl) ?_
        first | refine rS 29 ?_ | refine rU 29 ?_ | refine rG 29 (Calm.move rfl) ?_
        first | refine rS 29 ?_ | refine rU 29 ?_ | refine rG 29 (Calm.bin rfl rfl (bin_bool (bin_str_eql _ _) (decide_eq_false q3))) ?_
        refine rC ((by first | exact Calm.pickT rfl rfl | exact Calm.pickF rfl rfl)) ?_
        refine arun_nil ?_
        refine athen_n ?_
        refine AWP.sub [(0, _), (1, _), (2, _), (6, _), (16, _), (7, _), (8, _), (33, _)] ⟨rfl, rfl, rfl, rfl, rfl, rfl, rfl, rfl, trivial⟩ ?_
        refine AWP.condF rfl (by first | rfl | (simp; done) | (simp; omega)) ?_
        refine AWP.less M less_ ?_
        refine AWP.skip ?_
        refine athen_n ?_
        refine AWP.seq ?_
        refine AWP.region ?_
        refine rC (Calm.move rfl) ?_
        refine rC (Calm.nilCheck rfl) ?_
        refine rC (Calm.fieldAddr ty_field_90_0 rfl) ?_
        refine rC (Calm.fieldAddr ty_field_25_1 rfl) ?_
        refine rC (ld_ ty_plain_22 rfl) ?_
        refine rC (Calm.move rfl) ?_
        refine rC (Calm.indexS Try.underlying22 ty_size_54 rfl rfl (by omega) (by omega)) ?_
        refine rC (Calm.fieldAddr ty_field_54_1 rfl) ?_
        refine rC (ld_ ty_plain_9 rfl) ?_
        refine rC (Calm.assign rfl) ?_
        refine arun_nil ?_
        refine athen_n ?_
        refine AWP.sub [(0, _), (1, _), (2, _), (6, _), (16, _), (7, _), (8, _), (33, _), (9, _)] ⟨rfl, rfl, rfl, rfl, rfl, rfl, rfl, rfl, rfl, trivial⟩ ?_
        refine AWP.seq ?_
        refine AWP.region ?_
        refine rC (Calm.move rfl) ?_
        refine rC (Calm.move rfl) ?_
        refine rC (Calm.nilCheck rfl) ?_
        refine rC (Calm.fieldAddr ty_field_90_0 rfl) ?_
        refine rC (Calm.fieldAddr ty_field_25_1 rfl) ?_
        refine rC (ld_ ty_plain_22 rfl) ?_
        refine rC (Calm.move rfl) ?_
        refine rC (Calm.move rfl) ?_
        refine rC (Calm.bin rfl rfl b_add_i64) ?_
        refine ARun.call (lit_lt rfl) go_86 rfl (hdel) ?_
        rintro _ S1 ⟨ho', rfl, h1⟩
        rw [h1]; clear h1 S1
        obtain ⟨hok1, hM2, hp2⟩ := dev_erase hap hft hlt ho'
        unfold devB at hp2
        refine rC (Calm.nilCheck rfl) ?_
        refine rC (Calm.fieldAddr ty_field_90_0 rfl) ?_
        refine rC (Calm.fieldAddr ty_field_25_1 rfl) ?_
        refine ARun.store1 rfl rfl ty_size_22 (outV_cells _ _) hp2 (show 1 < 5 from by decide) (outV_one _ _) ?_
        (try simp only [Mem.set_set, List.set_cons_zero, List.set_cons_succ, Nat.zero_add, Nat.reduceAdd])
        refine arun_nil ?_
        refine athen_n ?_
        refine AWP.sub [(0, _), (1, _), (2, _), (6, _), (16, _), (7, _), (8, _), (33, _), (9, _)] ⟨rfl, rfl, rfl, rfl, rfl, rfl, rfl, rfl, rfl, trivial⟩ ?_
        rw [← hln]
        refine AWP.less (devM S p (eraseD d fr) (some (b, c)) oW) (by rw [← hM2]; exact Mem.Less.refl _) ?_
        have hp1 := hpp1 (some (b, c))
        have hl1 : (eraseD d fr).ext.length ≤ 16384 := by omega
        have hwl1 : (eraseD d fr).waits.length ≤ 16384 := hwl
        have hR1' : ERight (eraseD d fr).ext d.size := hR1
        generalize hd1 : eraseD d fr = d1 at *
        have hE1 : Sl 2 extF (devM S p d1 (some (b, c)) oW) (outV (some (b, c)) d1.ext.length) d1.ext := ((sl_outN ext_len (e := extT) hok1.dk.e rfl (Nat.le_trans hl1 (by decide))).less (outN_over hok1.dk.w)).less (Mem.less_set _ _ _ hok1.fr.1)
        unfold devB at hp1
        refine AWP.seq ?_
        refine AWP.region ?_
        refine rC (Calm.move rfl) ?_
        refine rC (Calm.nilCheck rfl) ?_
        refine rC (Calm.fieldAddr ty_field_90_0 rfl) ?_
        refine rC (Calm.fieldAddr ty_field_25_1 rfl) ?_
        refine rC (ld_ ty_plain_22 rfl) ?_
        refine rC (Calm.move rfl) ?_
        refine ARun.call (lit_lt rfl) go_59 rfl (disk_find _ d1.ext tn _ hE1 hR1'.asc (Nat.le_trans hl1 (by decide))) ?_
        rintro _ S1 ⟨rfl, h1⟩
        rw [h1]; clear h1 S1
        refine rC (Calm.move rfl) ?_
        refine rC (Calm.extract rfl rfl) ?_
        refine rC (Calm.extract rfl rfl) ?_
        refine rC (Calm.assign rfl) ?_
        refine rC (Calm.assign rfl) ?_
        refine arun_nil ?_
        refine athen_n ?_
        refine AWP.sub [(0, _), (1, _), (2, _), (6, _), (16, _), (7, _), (8, _), (33, _), (9, _), (10, _), (11, _)] ⟨rfl, rfl, rfl, rfl, rfl, rfl, rfl, rfl, rfl, rfl, rfl, trivial⟩ ?_
        by_cases q4 : has d1.ext tn = true
        · rw [q4]
          refine AWP.seq ?_
          refine AWP.seq ?_
          refine AWP.region ?_
          refine rC (Calm.move rfl) ?_
          refine arun_nil ?_
          refine athen_n ?_
          refine AWP.condT rfl (by first | rfl | (simp; done) | (simp; omega)) ?_
          have hpute : putE d1 tn data = setE (forgetD d1 tn) tn data := if_pos q4
          rw [hpute]
          refine AWP.seq ?_
          refine AWP.region ?_
          refine rC (Calm.move rfl) ?_
          refine rC (Calm.move rfl) ?_
          refine ARun.call (lit_lt rfl) go_87 rfl (dev_forget p d1 tn S _ _ hok1 hwl1) ?_
          rintro _ S1 ⟨rfl, hok2, h1⟩
          rw [h1]; clear h1 S1
          obtain ⟨hlt1, he1⟩ := (has_pos hR1'.asc tn).1 q4
          have hb2 := dev_ownE hok2
          have hp4 : (devM S p (forgetD d1 tn) (some (b, c)) oW).own p = some (devB (forgetD d1 tn) (some (b, c)) oW) := Mem.own_set_same _ _ _
          have hfs := flat_set ext_len d1.ext (pos d1.ext tn) (tn, data) hlt1 1 (.string data) (by decide) (by rw [extF, he1]; rfl)
          obtain ⟨hset, hok3⟩ := dev_setE (d' := setE (forgetD d1 tn) tn data) hok2 rfl (by simp [setE, forgetD]) rfl rfl rfl
          have hcl : 0 + pos d1.ext tn * 2 + 1 < (d1.ext.flatMap extF).length := by rw [flat_length ext_len]; omega
          unfold devB at hp4
          refine arun_nil ?_
          refine athen_n ?_
          refine AWP.sub [(0, _), (1, _), (2, _), (6, _), (16, _), (7, _), (8, _), (33, _), (9, _), (10, _), (11, _), (68, _)] ⟨rfl, rfl, rfl, rfl, rfl, rfl, rfl, rfl, rfl, rfl, rfl, rfl, trivial⟩ ?_
          refine AWP.region ?_
          refine rC (Calm.move rfl) ?_
          refine rC (Calm.nilCheck rfl) ?_
          refine rC (Calm.fieldAddr ty_field_90_0 rfl) ?_
          refine rC (Calm.fieldAddr ty_field_25_1 rfl) ?_
          refine rC (ld_ ty_plain_22 rfl) ?_
          refine rC (Calm.move rfl) ?_
          refine rC (Calm.move rfl) ?_
          refine rC (Calm.indexS Try.underlying22 ty_size_54 rfl rfl (by omega) (by show (_ : Int) < _; have : (forgetD d1 tn).ext.length = d1.ext.length := rfl; omega)) ?_
          refine rC (Calm.fieldAddr ty_field_54_1 rfl) ?_
          refine ARun.store1 rfl rfl ty_size_9 rfl hb2 hcl rfl ?_
          (try simp only [Mem.set_set, List.set_cons_zero, List.set_cons_succ, Nat.zero_add, Nat.reduceAdd])
          refine arun_nil ?_
          refine athen_n ?_
          refine AWP.sub [(0, _), (1, _), (2, _), (6, _), (16, _), (7, _), (8, _), (33, _), (9, _), (10, _), (11, _), (68, _)] ⟨rfl, rfl, rfl, rfl, rfl, rfl, rfl, rfl, rfl, rfl, rfl, rfl, trivial⟩ ?_
          refine AWP.less (devM S p (setE (forgetD d1 tn) tn data) (some (b, c)) oW) (by rw [← hset]; show Mem.Less _ (_ : Mem); rw [show (setE (forgetD d1 tn) tn data).ext = d1.ext.set (pos d1.ext tn) (tn, data) from rfl, ← hfs]; exact Mem.Less.refl _) ?_
          have hwl3 : (setE (forgetD d1 tn) tn data).waits.length ≤ 16384 := Nat.le_trans (filt_le tn d1.waits) hwl1
          generalize hd3 : setE (forgetD d1 tn) tn data = d3 at *
          obtain ⟨oE3, hoE3⟩ : ∃ oE3, oE3 = some (b, c) := ⟨_, rfl⟩
          rw [← hoE3] at hok3 ⊢
          obtain ⟨qw, dw, hqw⟩ := outV_eq hok3.dk.w
          have hp5 : (devM S p d3 oE3 oW).own p = some (devB d3 oE3 oW) := Mem.own_set_same _ _ _
          unfold devB at hp5
          refine AWP.seq ?_
          refine AWP.seq ?_
          refine AWP.region ?_
          refine rC (Calm.move rfl) ?_
          refine rC (Calm.nilCheck rfl) ?_
          refine rC (Calm.fieldAddr ty_field_90_0 rfl) ?_
          refine rC (Calm.fieldAddr ty_field_25_2 rfl) ?_
          refine rC (ld_ ty_plain_23 rfl) ?_
          refine rC ((by rw [hqw]; exact Calm.lenSl Try.underlying23 rfl)) ?_
          refine rC (Calm.move rfl) ?_
          refine arun_nil ?_
          refine athen_n ?_
          refine AWP.sub [(0, _), (1, _), (2, _), (6, _), (16, _), (7, _), (8, _), (33, _), (9, _), (10, _), (11, _), (68, _), (101, _), (102, _)] ⟨rfl, rfl, rfl, rfl, rfl, rfl, rfl, rfl, rfl, rfl, rfl, rfl, rfl, rfl, trivial⟩ ?_
          refine AWP.block ?_
          refine AWP.loop (X := Nat) (fun x => [(0, .pointer (some ⟨p, 0, none⟩)), (1, .string fr), (2, .string tn), (101, .int .i64 d3.waits.length), (102, .int .i64 x)]) (fun x => devM S p { d3 with waits := mixW fr tn d3.waits x } oE3 oW) (fun x => x ≤ d3.waits.length ∧ OkV S p { d3 with waits := mixW fr tn d3.waits x } oE3 oW) (fun x => d3.waits.length - x) (0) ⟨rfl, rfl, rfl, rfl, rfl, trivial⟩ (by rw [mix_zero]; exact Mem.Less.refl _) (⟨Nat.zero_le _, by rw [mix_zero]; exact hok3⟩) ?_
          rintro i ⟨hi, hoki⟩
          (try dsimp only at *)
          have hpi : (devM S p { d3 with waits := mixW fr tn d3.waits i } oE3 oW).own p = some (devB { d3 with waits := mixW fr tn d3.waits i } oE3 oW) := Mem.own_set_same _ _ _
          refine AWP.seq ?_
          refine AWP.region ?_
          refine rC (Calm.bin rfl rfl b_lss) ?_
          refine arun_nil ?_
          refine athen_n ?_
          refine AWP.seq ?_
          refine AWP.condB rfl (fun hc => ?_) (fun hc => ?_)
          · have hc : i < d3.waits.length := by have := of_decide_eq_true hc; omega
            have hml := mix_len fr tn d3.waits i
            obtain ⟨⟨bw, cw⟩, rfl⟩ : ∃ q, oW = some q := by cases hq : oW with | none => (have := hoki.fits.w0 hq; simp only at this; omega) | some q => exact ⟨q, rfl⟩
            have hbw := dev_ownW hoki
            have hmg := mix_get fr tn d3.waits i hc (by omega)
            have hmsu := mix_succ fr tn d3.waits i hc
            have hse := fun y => dev_setW (d' := { d3 with waits := (mixW fr tn d3.waits i).set i y }) hoki rfl (by simp) rfl rfl rfl
            have hfs := flat_set wr_len (mixW fr tn d3.waits i) i (tn, d3.waits[i].2) (by omega) 0 (.string tn) (by decide) (by rw [hmg]; rfl)
            have hrd : ((mixW fr tn d3.waits i).flatMap wrF)[0 + i * 3]? = some (.string d3.waits[i].1) := by have := flat_get wr_len (mixW fr tn d3.waits i) i (by omega) 0 (.string d3.waits[i].1) (by rw [hmg]; rfl); rw [← this]; congr 1; omega
            have hcl : 0 + i * 3 < ((mixW fr tn d3.waits i).flatMap wrF).length := by rw [flat_length wr_len, hml]; omega
            unfold devB at hpi
            simp only at hpi hbw hse
            have hren : renW fr tn d3.waits[i] = if d3.waits[i].1 = fr then (tn, d3.waits[i].2) else d3.waits[i] := rfl
            by_cases hb : d3.waits[i].1 = fr
            · rw [if_pos hb] at hren
              rw [hren] at hmsu
              refine AWP.skip ?_
              refine athen_n ?_
              refine AWP.seq ?_
              refine AWP.block ?_
              refine AWP.seq ?_
              refine AWP.region ?_
              refine rC (Calm.move rfl) ?_
              refine rC (Calm.assign rfl) ?_
              refine arun_nil ?_
              refine athen_n ?_
              refine AWP.sub [(0, _), (1, _), (2, _), (101, _), (102, _), (103, _), (12, _)] ⟨rfl, rfl, rfl, rfl, rfl, rfl, rfl, trivial⟩ ?_
              refine AWP.seq ?_
              refine AWP.region ?_
              refine rC (Calm.move rfl) ?_
              refine rC (Calm.nilCheck rfl) ?_
              refine rC (Calm.fieldAddr ty_field_90_0 rfl) ?_
              refine rC (Calm.fieldAddr ty_field_25_2 rfl) ?_
              refine rC (ld_ ty_plain_23 rfl) ?_
              refine rC (Calm.move rfl) ?_
              refine rC (Calm.indexS Try.underlying23 ty_size_51 rfl rfl (by omega) (by simp only [hml]; omega)) ?_
              refine rC (Calm.fieldAddr ty_field_51_0 rfl) ?_
              refine rC (Calm.load ty_plain_9 rfl (rd_own' hbw hrd)) ?_
              refine rC (Calm.move rfl) ?_
              refine rC (Calm.bin rfl rfl (bin_bool (bin_str_eql _ _) (decide_eq_true hb))) ?_
              refine arun_nil ?_
              refine athen_n ?_
              refine AWP.sub [(0, _), (1, _), (2, _), (101, _), (102, _), (103, _), (12, _), (115, _)] ⟨rfl, rfl, rfl, rfl, rfl, rfl, rfl, rfl, trivial⟩ ?_
              refine AWP.condT rfl (by first | rfl | (simp; done) | (simp; omega)) ?_
              refine AWP.region ?_
              refine rC (Calm.move rfl) ?_
              refine rC (Calm.nilCheck rfl) ?_
              refine rC (Calm.fieldAddr ty_field_90_0 rfl) ?_
              refine rC (Calm.fieldAddr ty_field_25_2 rfl) ?_
              refine rC (ld_ ty_plain_23 rfl) ?_
              refine rC (Calm.move rfl) ?_
              refine rC (Calm.move rfl) ?_
              refine rC (Calm.indexS Try.underlying23 ty_size_51 rfl rfl (by omega) (by simp only [hml]; omega)) ?_
              refine rC (Calm.fieldAddr ty_field_51_0 rfl) ?_
              refine ARun.store1 rfl rfl ty_size_9 rfl hbw hcl rfl ?_
              (try simp only [Mem.set_set, List.set_cons_zero, List.set_cons_succ, Nat.zero_add, Nat.reduceAdd])
              refine arun_nil ?_
              refine ain_n ?_
              refine athen_n ?_
              refine AWP.sub [(0, _), (1, _), (2, _), (101, _), (102, _), (103, _), (12, _), (115, _)] ⟨rfl, rfl, rfl, rfl, rfl, rfl, rfl, rfl, trivial⟩ ?_
              refine AWP.region ?_
              refine rC (Calm.bin rfl rfl b_add_i64) ?_
              refine rC (Calm.move rfl) ?_
              refine arun_nil ?_
              refine athen_n ?_
              refine ⟨i + 1, ?_, ?_, ?_, ?_⟩
              all_goals (try dsimp only)
              · exact ⟨rfl, rfl, rfl, rfl, rfl, trivial⟩
              · simp only [hmsu]; rw [← (hse _).1]; show Mem.Less _ (_ : Mem); rw [← hfs]; exact Mem.Less.refl _
              · exact ⟨hc, by simp only [hmsu]; exact (hse _).2⟩
              · omega
            · rw [if_neg hb] at hren
              rw [hren, ← hmg, List.set_getElem_self] at hmsu
              refine AWP.skip ?_
              refine athen_n ?_
              refine AWP.seq ?_
              refine AWP.block ?_
              refine AWP.seq ?_
              refine AWP.region ?_
              refine rC (Calm.move rfl) ?_
              refine rC (Calm.assign rfl) ?_
              refine arun_nil ?_
              refine athen_n ?_
              refine AWP.sub [(0, _), (1, _), (2, _), (101, _), (102, _), (103, _), (12, _)] ⟨rfl, rfl, rfl, rfl, rfl, rfl, rfl, trivial⟩ ?_
              refine AWP.seq ?_
              refine AWP.region ?_
              refine rC (Calm.move rfl) ?_
              refine rC (Calm.nilCheck rfl) ?_
              refine rC (Calm.fieldAddr ty_field_90_0 rfl) ?_
              refine rC (Calm.fieldAddr ty_field_25_2 rfl) ?_
              refine rC (ld_ ty_plain_23 rfl) ?_
              refine rC (Calm.move rfl) ?_
              refine rC (Calm.indexS Try.underlying23 ty_size_51 rfl rfl (by omega) (by simp only [hml]; omega)) ?_
              refine rC (Calm.fieldAddr ty_field_51_0 rfl) ?_
              refine rC (Calm.load ty_plain_9 rfl (rd_own' hbw hrd)) ?_
              refine rC (Calm.move rfl) ?_
              refine rC (Calm.bin rfl rfl (bin_bool (bin_str_eql _ _) (decide_eq_false hb))) ?_
              refine arun_nil ?_
              refine athen_n ?_
              refine AWP.sub [(0, _), (1, _), (2, _), (101, _), (102, _), (103, _), (12, _), (115, _)] ⟨rfl, rfl, rfl, rfl, rfl, rfl, rfl, rfl, trivial⟩ ?_
              refine AWP.condF rfl (by first | rfl | (simp; done) | (simp; omega)) ?_
              refine AWP.skip ?_
              refine ain_n ?_
              refine athen_n ?_
              refine AWP.region ?_
              refine rC (Calm.bin rfl rfl b_add_i64) ?_
              refine rC (Calm.move rfl) ?_
              refine arun_nil ?_
              refine athen_n ?_
              refine ⟨i + 1, ?_, ?_, ?_, ?_⟩
              all_goals (try dsimp only)
              · exact ⟨rfl, rfl, rfl, rfl, rfl, trivial⟩
              · simp only [hmsu]; exact Mem.Less.refl _
              · exact ⟨hc, by simp only [hmsu]; exact hoki⟩
              · omega
          · have hc : i = d3.waits.length := by have := of_decide_eq_false hc; omega
            subst hc
            rw [mix_all]
            rw [mix_all] at hoki
            refine AWP.exit ?_
            refine athen_exit ?_
            refine athen_exit ?_
            refine ain_same ?_
            refine athen_n ?_
            refine AWP.seq ?_
            refine AWP.region ?_
            refine rC (Calm.assign rfl) ?_
            refine arun_nil ?_
            refine athen_n ?_
            refine AWP.ret ?_
            refine ⟨_, _, ⟨_, _, rfl, rfl, rfl⟩, Mem.Less.refl _, ?_⟩
            exact ⟨oE3, oW, hoki, rfl, rfl⟩
        · rw [Bool.eq_false_iff.2 q4]
          refine AWP.seq ?_
          refine AWP.seq ?_
          refine AWP.region ?_
          refine rC (Calm.move rfl) ?_
          refine arun_nil ?_
          refine athen_n ?_
          refine AWP.condF rfl (by first | rfl | (simp; done) | (simp; omega)) ?_
          have hpute : putE d1 tn data = insE d1 tn data := if_neg q4
          rw [hpute]
          have hME1 := devM_E hok1.apart (devB d1 (some (b, c)) oW) (d := d1)
          rw [← devM_eq] at hME1
          have hoE1 := okO_baseE hok1.apart hok1.fits (devB d1 (some (b, c)) oW)
          refine AWP.region ?_
          refine rC (Calm.move rfl) ?_
          refine rC (Calm.move rfl) ?_
          refine rC (Calm.nilCheck rfl) ?_
          refine rC (Calm.fieldAddr ty_field_90_0 rfl) ?_
          refine rC (Calm.fieldAddr ty_field_25_1 rfl) ?_
          refine rC (ld_ ty_plain_22 rfl) ?_
          refine rC (Calm.move rfl) ?_
          refine rC (Calm.move rfl) ?_
          refine rC (Calm.move rfl) ?_
          refine rC (Calm.build (cs := [_, _]) ty_bld_54 rfl rfl) ?_
          refine ARun.build1 (lit_lt rfl) ty_sl_22 rfl (by decide) (by decide) rfl rfl ?_
          intro b91 f91
          have g91 := f91
          repeat ((with_reducible replace g91 := fresh_set g91); obtain ⟨g91, _⟩ := g91)
          have := g91.ne hp1; have := g91.ne' hp1
          have hins := ins_ext (baseE S p d1 oW (devB d1 (some (b, c)) oW)) (some (b, c)) d1.ext (pos d1.ext tn) (tn, data) b91 hoE1 (by rw [hME1]; exact f91) (pos_le _ _) hl1
          rw [hME1] at hins
          refine ARun.call (lit_lt rfl) go_84 rfl (hins) ?_
          rintro _ S1 ⟨o', ho3, rfl, h1⟩
          rw [h1]; clear h1 S1
          have hap' := apart_E hok1.apart ho3
          have hp4 : (outN 2 (baseE S p d1 oW (devB d1 (some (b, c)) oW)) o' extT ((insAt d1.ext (pos d1.ext tn) (tn, data)).flatMap extF)).own p = some (devB d1 (some (b, c)) oW) := own_outN' (Mem.own_set_same _ _ _) (fun q c e => (hap'.e q c e).2)
          have hE' := devM_E' (d' := insE d1 tn data) hok1.apart ho3 rfl
          have hln3 := ins_len (pos_le d1.ext tn) (tn, data)
          have hok3 : OkV S p (insE d1 tn data) o' oW := okV_mk hap' (fits_E hok1.fits ho3 hln3 rfl)
          unfold devB at hp4
          refine rC (Calm.nilCheck rfl) ?_
          refine rC (Calm.fieldAddr ty_field_90_0 rfl) ?_
          refine rC (Calm.fieldAddr ty_field_25_1 rfl) ?_
          refine ARun.store1 rfl rfl ty_size_22 (outV_cells _ _) hp4 (show 1 < 5 from by decide) (outV_one _ _) ?_
          (try simp only [Mem.set_set, List.set_cons_zero, List.set_cons_succ, Nat.zero_add, Nat.reduceAdd])
          refine arun_nil ?_
          refine athen_n ?_
          refine AWP.sub [(0, _), (1, _), (2, _), (6, _), (16, _), (7, _), (8, _), (33, _), (9, _), (10, _), (11, _), (68, _)] ⟨rfl, rfl, rfl, rfl, rfl, rfl, rfl, rfl, rfl, rfl, rfl, rfl, trivial⟩ ?_
          refine AWP.less (devM S p (insE d1 tn data) o' oW) (by rw [← hE']; unfold devB; rw [show (insE d1 tn data).ext.length = d1.ext.length + 1 from hln3]; exact Mem.Less.refl _) ?_
          have hwl3 : (insE d1 tn data).waits.length ≤ 16384 := hwl1
          generalize hd3 : insE d1 tn data = d3 at *
          obtain ⟨qw, dw, hqw⟩ := outV_eq hok3.dk.w
          have hp5 : (devM S p d3 o' oW).own p = some (devB d3 o' oW) := Mem.own_set_same _ _ _
          unfold devB at hp5
          refine AWP.seq ?_
          refine AWP.seq ?_
          refine AWP.region ?_
          refine rC (Calm.move rfl) ?_
          refine rC (Calm.nilCheck rfl) ?_
          refine rC (Calm.fieldAddr ty_field_90_0 rfl) ?_
          refine rC (Calm.fieldAddr ty_field_25_2 rfl) ?_
          refine rC (ld_ ty_plain_23 rfl) ?_
          refine rC ((by rw [hqw]; exact Calm.lenSl Try.underlying23 rfl)) ?_
          refine rC (Calm.move rfl) ?_
          refine arun_nil ?_
          refine athen_n ?_
          refine AWP.sub [(0, _), (1, _), (2, _), (6, _), (16, _), (7, _), (8, _), (33, _), (9, _), (10, _), (11, _), (68, _), (101, _), (102, _)] ⟨rfl, rfl, rfl, rfl, rfl, rfl, rfl, rfl, rfl, rfl, rfl, rfl, rfl, rfl, trivial⟩ ?_
          refine AWP.block ?_
          refine AWP.loop (X := Nat) (fun x => [(0, .pointer (some ⟨p, 0, none⟩)), (1, .string fr), (2, .string tn), (101, .int .i64 d3.waits.length), (102, .int .i64 x)]) (fun x => devM S p { d3 with waits := mixW fr tn d3.waits x } o' oW) (fun x => x ≤ d3.waits.length ∧ OkV S p { d3 with waits := mixW fr tn d3.waits x } o' oW) (fun x => d3.waits.length - x) (0) ⟨rfl, rfl, rfl, rfl, rfl, trivial⟩ (by rw [mix_zero]; exact Mem.Less.refl _) (⟨Nat.zero_le _, by rw [mix_zero]; exact hok3⟩) ?_
          rintro i ⟨hi, hoki⟩
          (try dsimp only at *)
          have hpi : (devM S p { d3 with waits := mixW fr tn d3.waits i } o' oW).own p = some (devB { d3 with waits := mixW fr tn d3.waits i } o' oW) := Mem.own_set_same _ _ _
          refine AWP.seq ?_
          refine AWP.region ?_
          refine rC (Calm.bin rfl rfl b_lss) ?_
          refine arun_nil ?_
          refine athen_n ?_
          refine AWP.seq ?_
          refine AWP.condB rfl (fun hc => ?_) (fun hc => ?_)
          · have hc : i < d3.waits.length := by have := of_decide_eq_true hc; omega
            have hml := mix_len fr tn d3.waits i
            obtain ⟨⟨bw, cw⟩, rfl⟩ : ∃ q, oW = some q := by cases hq : oW with | none => (have := hoki.fits.w0 hq; simp only at this; omega) | some q => exact ⟨q, rfl⟩
            have hbw := dev_ownW hoki
            have hmg := mix_get fr tn d3.waits i hc (by omega)
            have hmsu := mix_succ fr tn d3.waits i hc
            have hse := fun y => dev_setW (d' := { d3 with waits := (mixW fr tn d3.waits i).set i y }) hoki rfl (by simp) rfl rfl rfl
            have hfs := flat_set wr_len (mixW fr tn d3.waits i) i (tn, d3.waits[i].2) (by omega) 0 (.string tn) (by decide) (by rw [hmg]; rfl)
            have hrd : ((mixW fr tn d3.waits i).flatMap wrF)[0 + i * 3]? = some (.string d3.waits[i].1) := by have := flat_get wr_len (mixW fr tn d3.waits i) i (by omega) 0 (.string d3.waits[i].1) (by rw [hmg]; rfl); rw [← this]; congr 1; omega
            have hcl : 0 + i * 3 < ((mixW fr tn d3.waits i).flatMap wrF).length := by rw [flat_length wr_len, hml]; omega
            unfold devB at hpi
            simp only at hpi hbw hse
            have hren : renW fr tn d3.waits[i] = if d3.waits[i].1 = fr then (tn, d3.waits[i].2) else d3.waits[i] := rfl
            by_cases hb : d3.waits[i].1 = fr
            · rw [if_pos hb] at hren
              rw [hren] at hmsu
              refine AWP.skip ?_
              refine athen_n ?_
              refine AWP.seq ?_
              refine AWP.block ?_
              refine AWP.seq ?_
              refine AWP.region ?_
              refine rC (Calm.move rfl) ?_
              refine rC (Calm.assign rfl) ?_
              refine arun_nil ?_
              refine athen_n ?_
              refine AWP.sub [(0, _), (1, _), (2, _), (101, _), (102, _), (103, _), (12, _)] ⟨rfl, rfl, rfl, rfl, rfl, rfl, rfl, trivial⟩ ?_
              refine AWP.seq ?_
              refine AWP.region ?_
              refine rC (Calm.move rfl) ?_
              refine rC (Calm.nilCheck rfl) ?_
              refine rC (Calm.fieldAddr ty_field_90_0 rfl) ?_
              refine rC (Calm.fieldAddr ty_field_25_2 rfl) ?_
              refine rC (ld_ ty_plain_23 rfl) ?_
              refine rC (Calm.move rfl) ?_
              refine rC (Calm.indexS Try.underlying23 ty_size_51 rfl rfl (by omega) (by simp only [hml]; omega)) ?_
              refine rC (Calm.fieldAddr ty_field_51_0 rfl) ?_
              refine rC (Calm.load ty_plain_9 rfl (rd_own' hbw hrd)) ?_
              refine rC (Calm.move rfl) ?_
              refine rC (Calm.bin rfl rfl (bin_bool (bin_str_eql _ _) (decide_eq_true hb))) ?_
              refine arun_nil ?_
              refine athen_n ?_
              refine AWP.sub [(0, _), (1, _), (2, _), (101, _), (102, _), (103, _), (12, _), (115, _)] ⟨rfl, rfl, rfl, rfl, rfl, rfl, rfl, rfl, trivial⟩ ?_
              refine AWP.condT rfl (by first | rfl | (simp; done) | (simp; omega)) ?_
              refine AWP.region ?_
              refine rC (Calm.move rfl) ?_
              refine rC (Calm.nilCheck rfl) ?_
              refine rC (Calm.fieldAddr ty_field_90_0 rfl) ?_
              refine rC (Calm.fieldAddr ty_field_25_2 rfl) ?_
              refine rC (ld_ ty_plain_23 rfl) ?_
              refine rC (Calm.move rfl) ?_
              refine rC (Calm.move rfl) ?_
              refine rC (Calm.indexS Try.underlying23 ty_size_51 rfl rfl (by omega) (by simp only [hml]; omega)) ?_
              refine rC (Calm.fieldAddr ty_field_51_0 rfl) ?_
              refine ARun.store1 rfl rfl ty_size_9 rfl hbw hcl rfl ?_
              (try simp only [Mem.set_set, List.set_cons_zero, List.set_cons_succ, Nat.zero_add, Nat.reduceAdd])
              refine arun_nil ?_
              refine ain_n ?_
              refine athen_n ?_
              refine AWP.sub [(0, _), (1, _), (2, _), (101, _), (102, _), (103, _), (12, _), (115, _)] ⟨rfl, rfl, rfl, rfl, rfl, rfl, rfl, rfl, trivial⟩ ?_
              refine AWP.region ?_
              refine rC (Calm.bin rfl rfl b_add_i64) ?_
              refine rC (Calm.move rfl) ?_
              refine arun_nil ?_
              refine athen_n ?_
              refine ⟨i + 1, ?_, ?_, ?_, ?_⟩
              all_goals (try dsimp only)
              · exact ⟨rfl, rfl, rfl, rfl, rfl, trivial⟩
              · simp only [hmsu]; rw [← (hse _).1]; show Mem.Less _ (_ : Mem); rw [← hfs]; exact Mem.Less.refl _
              · exact ⟨hc, by simp only [hmsu]; exact (hse _).2⟩
              · omega
            · rw [if_neg hb] at hren
              rw [hren, ← hmg, List.set_getElem_self] at hmsu
              refine AWP.skip ?_
              refine athen_n ?_
              refine AWP.seq ?_
              refine AWP.block ?_
              refine AWP.seq ?_
              refine AWP.region ?_
              refine rC (Calm.move rfl) ?_
              refine rC (Calm.assign rfl) ?_
              refine arun_nil ?_
              refine athen_n ?_
              refine AWP.sub [(0, _), (1, _), (2, _), (101, _), (102, _), (103, _), (12, _)] ⟨rfl, rfl, rfl, rfl, rfl, rfl, rfl, trivial⟩ ?_
              refine AWP.seq ?_
              refine AWP.region ?_
              refine rC (Calm.move rfl) ?_
              refine rC (Calm.nilCheck rfl) ?_
              refine rC (Calm.fieldAddr ty_field_90_0 rfl) ?_
              refine rC (Calm.fieldAddr ty_field_25_2 rfl) ?_
              refine rC (ld_ ty_plain_23 rfl) ?_
              refine rC (Calm.move rfl) ?_
              refine rC (Calm.indexS Try.underlying23 ty_size_51 rfl rfl (by omega) (by simp only [hml]; omega)) ?_
              refine rC (Calm.fieldAddr ty_field_51_0 rfl) ?_
              refine rC (Calm.load ty_plain_9 rfl (rd_own' hbw hrd)) ?_
              refine rC (Calm.move rfl) ?_
              refine rC (Calm.bin rfl rfl (bin_bool (bin_str_eql _ _) (decide_eq_false hb))) ?_
              refine arun_nil ?_
              refine athen_n ?_
              refine AWP.sub [(0, _), (1, _), (2, _), (101, _), (102, _), (103, _), (12, _), (115, _)] ⟨rfl, rfl, rfl, rfl, rfl, rfl, rfl, rfl, trivial⟩ ?_
              refine AWP.condF rfl (by first | rfl | (simp; done) | (simp; omega)) ?_
              refine AWP.skip ?_
              refine ain_n ?_
              refine athen_n ?_
              refine AWP.region ?_
              refine rC (Calm.bin rfl rfl b_add_i64) ?_
              refine rC (Calm.move rfl) ?_
              refine arun_nil ?_
              refine athen_n ?_
              refine ⟨i + 1, ?_, ?_, ?_, ?_⟩
              all_goals (try dsimp only)
              · exact ⟨rfl, rfl, rfl, rfl, rfl, trivial⟩
              · simp only [hmsu]; exact Mem.Less.refl _
              · exact ⟨hc, by simp only [hmsu]; exact hoki⟩
              · omega
          · have hc : i = d3.waits.length := by have := of_decide_eq_false hc; omega
            subst hc
            rw [mix_all]
            rw [mix_all] at hoki
            refine AWP.exit ?_
            refine athen_exit ?_
            refine athen_exit ?_
            refine ain_same ?_
            refine athen_n ?_
            refine AWP.seq ?_
            refine AWP.region ?_
            refine rC (Calm.assign rfl) ?_
            refine arun_nil ?_
            refine athen_n ?_
            refine AWP.ret ?_
            refine ⟨_, _, ⟨_, _, rfl, rfl, rfl⟩, Mem.Less.refl _, ?_⟩
            exact ⟨o', oW, hoki, rfl, rfl⟩
    · rw [if_neg q2]
      generalize hM : devM S p d oE oW = M at *
      unfold devB at hp
      refine ACall.enter (args := [.pointer (some ⟨p, 0, none⟩), .string fr, .string tn]) (rs := [.tmp 6]) 126 [(0, .pointer (some ⟨p, 0, none⟩)), (1, .string fr), (2, .string tn)] Try.func57 rfl rfl (Nat.le_of_ble_eq_true rfl) rfl ⟨rfl, rfl, rfl, trivial⟩ ?_
      refine AWP.seq ?_
      refine AWP.region ?_
      refine rC (Calm.assign rfl) ?_
      refine arun_nil ?_
      refine athen_n ?_
      refine AWP.seq ?_
      refine AWP.seq ?_
      refine AWP.region ?_
      refine rC (Calm.move rfl) ?_
      refine ARun.build1s (lit_lt rfl) ty_sl_26 rfl rfl ?_
      intro b14 f14
      have g14 := f14
      repeat ((with_reducible replace g14 := fresh_set g14); obtain ⟨g14, _⟩ := g14)
      have := g14.ne hp; have := g14.ne' hp
      refine ARun.call (lit_lt rfl) go_83 rfl (disk_named _ [tn] _ (sl_str1 own_)) ?_
      rintro _ S1 ⟨⟨t, rfl, ht⟩, h1⟩
      rw [h1]; clear h1 S1
      obtain rfl : t = true := ht.2 (one_all.2 q1)
      refine rC (Calm.un rfl (una_not _)) ?_
      refine arun_nil ?_
      refine athen_n ?_
      refine AWP.sub [(0, _), (1, _), (2, _), (6, _), (16, _)] ⟨rfl, rfl, rfl, rfl, rfl, trivial⟩ ?_
      refine AWP.condF rfl (by first | rfl | (simp; done) | (simp; omega)) ?_
      refine AWP.skip ?_
      refine athen_n ?_
      refine AWP.seq ?_
      refine AWP.region ?_
      refine rC (Calm.move rfl) ?_
      refine rC (Calm.nilCheck rfl) ?_
      refine rC (Calm.fieldAddr ty_field_90_0 rfl) ?_
      refine rC (Calm.fieldAddr ty_field_25_1 rfl) ?_
      refine rC (ld_ ty_plain_22 rfl) ?_
      refine rC (Calm.move rfl) ?_
      refine ARun.call (lit_lt rfl) go_59 rfl (disk_find _ d.ext fr _ (hE.less less_) hR.ex.asc (Nat.le_trans hrl.1 (by decide))) ?_
      rintro _ S1 ⟨rfl, h1⟩
      rw [h1, Bool.eq_false_iff.2 q2]; clear h1 S1
      refine rC (Calm.move rfl) ?_
      refine rC (Calm.extract rfl rfl) ?_
      refine rC (Calm.extract rfl rfl) ?_
      refine rC (Calm.assign rfl) ?_
      refine rC (Calm.assign rfl) ?_
      refine arun_nil ?_
      refine athen_n ?_
      refine AWP.sub [(0, _), (1, _), (2, _), (6, _), (16, _), (7, _), (8, _)] ⟨rfl, rfl, rfl, rfl, rfl, rfl, rfl, trivial⟩ ?_
      refine AWP.seq ?_
      refine AWP.seq ?_
      refine AWP.region ?_
      refine rC (Calm.move rfl) ?_
      refine rC (Calm.un rfl (una_not _)) ?_
      refine rC (Calm.move rfl) ?_
      first | refine rS 29 ?_ | refine rU 29 ?_ | refine rG 29 (Calm.move rfl) ?_
      first | refine rS 29 ?_ | refine rU 29 ?_ | refine rG 29 (Calm.move rfl) ?_
      first | refine rS 29 ?_ | refine rU 29 ?_ | refine rG 29 (Calm.bin rfl rfl (bin_str_eql _ _)) ?_
      refine rC ((by first | exact Calm.pickT rfl rfl | exact Calm.pickF rfl rfl)) ?_
      refine arun_nil ?_
      refine athen_n ?_
      refine AWP.sub [(0, _), (1, _), (2, _), (6, _), (16, _), (7, _), (8, _), (33, _)] ⟨rfl, rfl, rfl, rfl, rfl, rfl, rfl, rfl, trivial⟩ ?_
      refine AWP.condT rfl (by first | rfl | (simp; done) | (simp; omega)) ?_
      refine AWP.seq ?_
      refine AWP.region ?_
      refine rC (Calm.move rfl) ?_
      refine ARun.call (lit_lt rfl) go_90 rfl (disk_moved false _) ?_
      rintro _ S1 ⟨rfl, h1⟩
      rw [h1]; clear h1 S1
      refine rC (Calm.assign rfl) ?_
      refine arun_nil ?_
      refine athen_n ?_
      refine AWP.sub [(0, _), (1, _), (2, _), (6, _), (16, _), (7, _), (8, _), (33, _)] ⟨rfl, rfl, rfl, rfl, rfl, rfl, rfl, rfl, trivial⟩ ?_
      refine AWP.ret ?_
      refine athen_ret ?_
      refine ⟨_, M, ⟨_, _, rfl, rfl, rfl⟩, less_, ?_⟩
      exact ⟨oE, oW, hok, rfl, hM.symm⟩
  · rw [if_pos q1]
    generalize hM : devM S p d oE oW = M at *
    unfold devB at hp
    refine ACall.enter (args := [.pointer (some ⟨p, 0, none⟩), .string fr, .string tn]) (rs := [.tmp 6]) 126 [(0, .pointer (some ⟨p, 0, none⟩)), (1, .string fr), (2, .string tn)] Try.func57 rfl rfl (Nat.le_of_ble_eq_true rfl) rfl ⟨rfl, rfl, rfl, trivial⟩ ?_
    refine AWP.seq ?_
    refine AWP.region ?_
    refine rC (Calm.assign rfl) ?_
    refine arun_nil ?_
    refine athen_n ?_
    refine AWP.seq ?_
    refine AWP.seq ?_
    refine AWP.region ?_
    refine rC (Calm.move rfl) ?_
    refine ARun.build1s (lit_lt rfl) ty_sl_26 rfl rfl ?_
    intro b14 f14
    have g14 := f14
    repeat ((with_reducible replace g14 := fresh_set g14); obtain ⟨g14, _⟩ := g14)
    have := g14.ne hp; have := g14.ne' hp
    refine ARun.call (lit_lt rfl) go_83 rfl (disk_named _ [tn] _ (sl_str1 own_)) ?_
    rintro _ S1 ⟨⟨t, rfl, ht⟩, h1⟩
    rw [h1]; clear h1 S1
    obtain rfl : t = false := Bool.eq_false_iff.2 (fun e => q1 (one_all.1 (ht.1 e)))
    refine rC (Calm.un rfl (una_not _)) ?_
    refine arun_nil ?_
    refine athen_n ?_
    refine AWP.sub [(0, _), (1, _), (2, _), (6, _), (16, _)] ⟨rfl, rfl, rfl, rfl, rfl, trivial⟩ ?_
    refine AWP.condT rfl (by first | rfl | (simp; done) | (simp; omega)) ?_
    refine AWP.seq ?_
    refine AWP.region ?_
    refine rC (Calm.assign rfl) ?_
    refine arun_nil ?_
    refine athen_n ?_
    refine AWP.ret ?_
    refine athen_ret ?_
    refine ⟨_, M, ⟨_, _, rfl, rfl, rfl⟩, less_, ?_⟩
    exact ⟨oE, oW, hok, rfl, hM.symm⟩
end Go.Proofs.Ytkeiphkccnfhoaa
