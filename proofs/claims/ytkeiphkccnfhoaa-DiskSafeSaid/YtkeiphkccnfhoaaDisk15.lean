/-
  Disk: a sector is written.
-/
import Derived.Test.YtkeiphkccnfhoaaDisk14
namespace Go.Proofs.Ytkeiphkccnfhoaa
open Go.RowKit
open Mv Disk
set_option linter.unusedVariables false
set_option linter.unusedSimpArgs false
set_option maxRecDepth 4000
def addW (d : D) (w : Wr) : D := { d with waits := d.waits ++ [w] }
def fuseD (d : D) : D × Int := if d.fuse = 0 then ({ d with down := true }, 10) else if 0 < d.fuse then ({ d with fuse := d.fuse - 1 }, 0) else (d, 0)
def writeD (d : D) (s : ByteArray) (i : Int) (data : ByteArray) : D × Int := if (placeD d s i).2 ≠ 0 then (d, (placeD d s i).2) else if data.size ≠ 64 then (d, 2) else if d.waits.length = 16384 then (d, 8) else fuseD (addW d (s, i, data))
theorem add_flat (d : D) (w : Wr) : (addW d w).waits.flatMap wrF = d.waits.flatMap wrF ++ wrF w := by unfold addW; simp
theorem add_len (d : D) (w : Wr) : (addW d w).waits.length = d.waits.length + 1 := by unfold addW; simp
set_option maxHeartbeats 2000000 in
theorem dev_Write (p : Nat) (d : D) (s : ByteArray) (i : Int) (data : ByteArray) (S : Mem) (oE oW : Option (Nat × Nat)) (hok : OkV S p d oE oW) (hR : Right d) (hf1 : d.fuse ≤ 9223372036854775807) :
    ACall Try.prog 64 #[.pointer (some ⟨p, 0, none⟩), .string s, .int .i64 i, .string data] (devM S p d oE oW) (DevR S p (writeD d s i data)) := by
  have hlens := right_lens hR
  have hwl := hR.wl
  have hf0 := hR.fu
  have hpl := dev_place p d s i _ (hok.rd hlens.1 hlens.2) hR
  have hp : (devM S p d oE oW).own p = some (devB d oE oW) := Mem.own_set_same _ _ _
  have hap := hok.apart
  have hft := hok.fits
  have hME := devM_W hap (devB d oE oW) (d := d)
  have hoW := okO_baseW hap hft (devB d oE oW)
  rw [← devM_eq] at hME
  have hfl := flat_length wr_len d.waits
  have happ := appN_self (e := wrT) hoW hfl
  rw [hME] at happ
  have hmeq := devM_eq S p d oE oW
  have hdc : ∀ oW', (devM S p (addW d (s, i, data)) oE oW').own p = some (devB (addW d (s, i, data)) oE oW') := fun oW' => Mem.own_set_same _ _ _
  obtain ⟨qw, dw, hqw⟩ := outV_eq hok.dk.w
  generalize hM : devM S p d oE oW = M at *
  unfold devB at hp
  unfold writeD
  by_cases q1 : (placeD d s i).2 = 0
  · rw [if_neg (fun h => h q1)]
    rw [q1] at hpl
    by_cases q2 : data.size = 64
    · rw [if_neg (fun h => h q2)]
      by_cases q3 : d.waits.length = 16384
      · rw [if_pos q3]
        rw [hqw] at hp
        refine ACall.enter (args := [.pointer (some ⟨p, 0, none⟩), .string s, .int .i64 i, .string data]) (rs := [.tmp 8]) 75 [(0, .pointer (some ⟨p, 0, none⟩)), (1, .string s), (2, .int .i64 i), (3, .string data)] Try.func64 rfl rfl (Nat.le_of_ble_eq_true rfl) rfl ⟨rfl, rfl, rfl, rfl, trivial⟩ ?_
        refine AWP.seq ?_
        refine AWP.region ?_
        refine rC (Calm.assign rfl) ?_
        refine arun_nil ?_
        refine athen_n ?_
        refine AWP.seq ?_
        refine AWP.seq ?_
        refine AWP.region ?_
        refine rC (Calm.move rfl) ?_
        refine rC (Calm.move rfl) ?_
        refine rC (Calm.move rfl) ?_
        refine ARun.call (lit_lt rfl) go_94 rfl (hpl) ?_
        rintro _ S1 ⟨rfl, h1⟩
        rw [h1]; clear h1 S1
        refine rC (Calm.move rfl) ?_
        refine rC (Calm.extract rfl rfl) ?_
        refine rC (Calm.extract rfl rfl) ?_
        refine rC (Calm.assign rfl) ?_
        refine rC (Calm.assign rfl) ?_
        refine arun_nil ?_
        refine athen_n ?_
        refine AWP.sub [(0, _), (1, _), (2, _), (3, _), (8, _), (10, _)] ⟨rfl, rfl, rfl, rfl, rfl, rfl, trivial⟩ ?_
        refine AWP.seq ?_
        refine AWP.region ?_
        refine rC (Calm.move rfl) ?_
        refine rC (Calm.bin rfl rfl b_neq) ?_
        refine arun_nil ?_
        refine athen_n ?_
        refine AWP.sub [(0, _), (1, _), (2, _), (3, _), (8, _), (10, _), (19, _)] ⟨rfl, rfl, rfl, rfl, rfl, rfl, rfl, trivial⟩ ?_
        refine AWP.condF rfl (by first | rfl | (simp; done) | (simp; omega)) ?_
        refine AWP.skip ?_
        refine athen_n ?_
        refine AWP.seq ?_
        refine AWP.block ?_
        refine AWP.seq ?_
        refine AWP.region ?_
        refine rC (Calm.move rfl) ?_
        refine rC (Calm.lenStr (strT_spec ty_str_9) rfl) ?_
        refine rC (Calm.bin rfl rfl b_neq) ?_
        refine rC (Calm.assign rfl) ?_
        refine arun_nil ?_
        refine athen_n ?_
        refine AWP.sub [(0, _), (1, _), (2, _), (3, _), (8, _), (10, _), (19, _), (21, _)] ⟨rfl, rfl, rfl, rfl, rfl, rfl, rfl, rfl, trivial⟩ ?_
        refine AWP.condF rfl (by first | rfl | (simp; done) | (simp; omega)) ?_
        refine AWP.seq ?_
        refine AWP.region ?_
        refine rC (Calm.move rfl) ?_
        refine rC (Calm.nilCheck rfl) ?_
        refine rC (Calm.fieldAddr ty_field_90_0 rfl) ?_
        refine rC (Calm.fieldAddr ty_field_25_2 rfl) ?_
        refine rC (ld_ ty_plain_23 rfl) ?_
        refine rC (Calm.lenSl Try.underlying23 rfl) ?_
        refine rC (Calm.bin rfl rfl b_eql) ?_
        refine rC (Calm.assign rfl) ?_
        refine arun_nil ?_
        refine athen_n ?_
        refine AWP.sub [(0, _), (1, _), (2, _), (3, _), (8, _), (10, _), (19, _), (21, _), (25, _)] ⟨rfl, rfl, rfl, rfl, rfl, rfl, rfl, rfl, rfl, trivial⟩ ?_
        refine AWP.condT rfl (by first | rfl | (simp; done) | (simp; omega)) ?_
        refine AWP.seq ?_
        refine AWP.region ?_
        refine rC (Calm.assign rfl) ?_
        refine arun_nil ?_
        refine athen_n ?_
        refine AWP.ret ?_
        refine ain_ret ?_
        refine athen_ret ?_
        refine ⟨_, M, ⟨_, _, rfl, rfl, rfl⟩, less_, ?_⟩
        exact ⟨oE, oW, hok, rfl, hM.symm⟩
      · rw [if_neg q3]
        refine ACall.enter (args := [.pointer (some ⟨p, 0, none⟩), .string s, .int .i64 i, .string data]) (rs := [.tmp 8]) 75 [(0, .pointer (some ⟨p, 0, none⟩)), (1, .string s), (2, .int .i64 i), (3, .string data)] Try.func64 rfl rfl (Nat.le_of_ble_eq_true rfl) rfl ⟨rfl, rfl, rfl, rfl, trivial⟩ ?_
        refine AWP.seq ?_
        refine AWP.region ?_
        refine rC (Calm.assign rfl) ?_
        refine arun_nil ?_
        refine athen_n ?_
        refine AWP.seq ?_
        refine AWP.seq ?_
        refine AWP.region ?_
        refine rC (Calm.move rfl) ?_
        refine rC (Calm.move rfl) ?_
        refine rC (Calm.move rfl) ?_
        refine ARun.call (lit_lt rfl) go_94 rfl (hpl) ?_
        rintro _ S1 ⟨rfl, h1⟩
        rw [h1]; clear h1 S1
        refine rC (Calm.move rfl) ?_
        refine rC (Calm.extract rfl rfl) ?_
        refine rC (Calm.extract rfl rfl) ?_
        refine rC (Calm.assign rfl) ?_
        refine rC (Calm.assign rfl) ?_
        refine arun_nil ?_
        refine athen_n ?_
        refine AWP.sub [(0, _), (1, _), (2, _), (3, _), (8, _), (10, _)] ⟨rfl, rfl, rfl, rfl, rfl, rfl, trivial⟩ ?_
        refine AWP.seq ?_
        refine AWP.region ?_
        refine rC (Calm.move rfl) ?_
        refine rC (Calm.bin rfl rfl b_neq) ?_
        refine arun_nil ?_
        refine athen_n ?_
        refine AWP.sub [(0, _), (1, _), (2, _), (3, _), (8, _), (10, _), (19, _)] ⟨rfl, rfl, rfl, rfl, rfl, rfl, rfl, trivial⟩ ?_
        refine AWP.condF rfl (by first | rfl | (simp; done) | (simp; omega)) ?_
        refine AWP.skip ?_
        refine athen_n ?_
        refine AWP.seq ?_
        refine AWP.block ?_
        refine AWP.seq ?_
        refine AWP.region ?_
        refine rC (Calm.move rfl) ?_
        refine rC (Calm.lenStr (strT_spec ty_str_9) rfl) ?_
        refine rC (Calm.bin rfl rfl b_neq) ?_
        refine rC (Calm.assign rfl) ?_
        refine arun_nil ?_
        refine athen_n ?_
        refine AWP.sub [(0, _), (1, _), (2, _), (3, _), (8, _), (10, _), (19, _), (21, _)] ⟨rfl, rfl, rfl, rfl, rfl, rfl, rfl, rfl, trivial⟩ ?_
        refine AWP.condF rfl (by first | rfl | (simp; done) | (simp; omega)) ?_
        refine AWP.seq ?_
        refine AWP.region ?_
        refine rC (Calm.move rfl) ?_
        refine rC (Calm.nilCheck rfl) ?_
        refine rC (Calm.fieldAddr ty_field_90_0 rfl) ?_
        refine rC (Calm.fieldAddr ty_field_25_2 rfl) ?_
        refine rC (ld_ ty_plain_23 rfl) ?_
        refine rC ((by rw [hqw]; exact Calm.lenSl Try.underlying23 rfl)) ?_
        refine rC (Calm.bin rfl rfl b_eql) ?_
        refine rC (Calm.assign rfl) ?_
        refine arun_nil ?_
        refine athen_n ?_
        refine AWP.sub [(0, _), (1, _), (2, _), (3, _), (8, _), (10, _), (19, _), (21, _), (25, _)] ⟨rfl, rfl, rfl, rfl, rfl, rfl, rfl, rfl, rfl, trivial⟩ ?_
        refine AWP.condF rfl (by first | rfl | (simp; done) | (simp; omega)) ?_
        refine AWP.skip ?_
        refine ain_n ?_
        refine athen_n ?_
        refine AWP.seq ?_
        refine AWP.region ?_
        refine rC (Calm.move rfl) ?_
        refine rC (Calm.move rfl) ?_
        refine rC (Calm.nilCheck rfl) ?_
        refine rC (Calm.fieldAddr ty_field_90_0 rfl) ?_
        refine rC (Calm.fieldAddr ty_field_25_2 rfl) ?_
        refine rC (ld_ ty_plain_23 rfl) ?_
        refine rC (Calm.move rfl) ?_
        refine rC (Calm.move rfl) ?_
        refine rC (Calm.move rfl) ?_
        refine rC (Calm.build (cs := [_, _, _]) ty_bld_51 rfl rfl) ?_
        refine ARun.build1 (lit_lt rfl) ty_sl_23 rfl (by decide) (by decide) rfl rfl ?_
        intro b43 f43
        have g43 := f43
        repeat ((with_reducible replace g43 := fresh_set g43); obtain ⟨g43, _⟩ := g43)
        have := g43.ne hp; have := g43.ne' hp
        refine ARun.appendOK (n := 3) (o := oW) (k := d.waits.length) (m := 1) (cs := d.waits.flatMap wrF) (lit_lt rfl) ty_sl_23 rfl rfl hfl hoW (happ.temp f43) rfl (src_own (Mem.own_set_same _ _ _) List.prefix_rfl) rfl (fun v hv => wr_one [(s, i, data)] v (by rw [List.flatMap_cons, List.flatMap_nil, List.append_nil]; exact hv)) (by omega) (by omega) ?_
        intro o' ho'
        have hp2 : ∀ cs, (outN 3 (baseW S p d oE (devB d oE oW)) o' wrT cs).own p = some (devB d oE oW) := fun cs => own_outN' (Mem.own_set_same _ _ _) (fun q c e => ((apart_W hap ho').w q c e).2)
        have hE' := devM_W' (d' := addW d (s, i, data)) hap ho' rfl
        rw [add_flat] at hE'
        unfold devB at hp2
        refine rC (Calm.nilCheck rfl) ?_
        refine rC (Calm.fieldAddr ty_field_90_0 rfl) ?_
        refine rC (Calm.fieldAddr ty_field_25_2 rfl) ?_
        refine ARun.store1 rfl rfl ty_size_23 (outV_cells _ _) (hp2 _) (show 2 < 5 from by decide) (outV_one _ _) ?_
        (try simp only [Mem.set_set, List.set_cons_zero, List.set_cons_succ, Nat.zero_add, Nat.reduceAdd])
        refine arun_nil ?_
        refine athen_n ?_
        refine AWP.sub [(0, _), (1, _), (2, _), (3, _), (8, _), (10, _), (19, _), (21, _), (25, _)] ⟨rfl, rfl, rfl, rfl, rfl, rfl, rfl, rfl, rfl, trivial⟩ ?_
        refine AWP.less (devM S p (addW d (s, i, data)) oE o') (by rw [← hE']; unfold devB; rw [add_len]; exact Mem.Less.refl _) ?_
        have hp3 := hdc o'
        have hokk : ∀ d', d'.waits = (addW d (s, i, data)).waits → d'.ext = d.ext → OkV S p d' oE o' := fun d' e1 e2 => okV_mk (apart_W hap ho') (fits_W hft ho' (by rw [e1, add_len]) e2)
        unfold devB at hp3
        simp only [show (addW d (s, i, data)).size = d.size from rfl, show (addW d (s, i, data)).fuse = d.fuse from rfl, show (addW d (s, i, data)).down = d.down from rfl] at hp3
        have hfu : (addW d (s, i, data)).fuse = d.fuse := rfl
        generalize hM2 : devM S p (addW d (s, i, data)) oE o' = M2 at *
        unfold fuseD
        rw [hfu]
        by_cases q4 : d.fuse = 0
        · rw [if_pos q4]
          refine AWP.seq ?_
          refine AWP.block ?_
          refine AWP.seq ?_
          refine AWP.region ?_
          refine rC (Calm.move rfl) ?_
          refine rC (Calm.nilCheck rfl) ?_
          refine rC (Calm.fieldAddr ty_field_90_0 rfl) ?_
          refine rC (Calm.fieldAddr ty_field_25_3 rfl) ?_
          refine rC (ld_ ty_plain_3 rfl) ?_
          refine rC (Calm.bin rfl rfl b_eql) ?_
          refine rC (Calm.assign rfl) ?_
          refine arun_nil ?_
          refine athen_n ?_
          refine AWP.sub [(0, _), (1, _), (2, _), (3, _), (8, _), (10, _), (19, _), (21, _), (25, _), (48, _)] ⟨rfl, rfl, rfl, rfl, rfl, rfl, rfl, rfl, rfl, rfl, trivial⟩ ?_
          refine AWP.condT rfl (by first | rfl | (simp; done) | (simp; omega)) ?_
          refine AWP.seq ?_
          refine AWP.region ?_
          refine rC (Calm.move rfl) ?_
          refine rC (Calm.nilCheck rfl) ?_
          refine rC (Calm.fieldAddr ty_field_90_0 rfl) ?_
          refine rC (Calm.fieldAddr ty_field_25_4 rfl) ?_
          refine ARun.store1 rfl rfl ty_size_4 rfl hp3 (show 4 < 5 from by decide) rfl ?_
          (try simp only [Mem.set_set, List.set_cons_zero, List.set_cons_succ, Nat.zero_add, Nat.reduceAdd])
          refine arun_nil ?_
          refine athen_n ?_
          refine AWP.sub [(0, _), (1, _), (2, _), (3, _), (8, _), (10, _), (19, _), (21, _), (25, _), (48, _)] ⟨rfl, rfl, rfl, rfl, rfl, rfl, rfl, rfl, rfl, rfl, trivial⟩ ?_
          refine AWP.seq ?_
          refine AWP.region ?_
          refine rC (Calm.assign rfl) ?_
          refine arun_nil ?_
          refine athen_n ?_
          refine AWP.ret ?_
          refine ain_ret ?_
          refine athen_ret ?_
          refine ⟨_, devM S p { addW d (s, i, data) with down := true } oE o', ⟨_, _, rfl, rfl, rfl⟩, (by rw [← hM2]; unfold devM; rw [Mem.set_set]; exact Mem.Less.refl _), ?_⟩
          exact ⟨oE, o', hokk _ rfl rfl, rfl, rfl⟩
        · rw [if_neg q4]
          by_cases q5 : 0 < d.fuse
          · rw [if_pos q5]
            refine AWP.seq ?_
            refine AWP.block ?_
            refine AWP.seq ?_
            refine AWP.region ?_
            refine rC (Calm.move rfl) ?_
            refine rC (Calm.nilCheck rfl) ?_
            refine rC (Calm.fieldAddr ty_field_90_0 rfl) ?_
            refine rC (Calm.fieldAddr ty_field_25_3 rfl) ?_
            refine rC (ld_ ty_plain_3 rfl) ?_
            refine rC (Calm.bin rfl rfl b_eql) ?_
            refine rC (Calm.assign rfl) ?_
            refine arun_nil ?_
            refine athen_n ?_
            refine AWP.sub [(0, _), (1, _), (2, _), (3, _), (8, _), (10, _), (19, _), (21, _), (25, _), (48, _)] ⟨rfl, rfl, rfl, rfl, rfl, rfl, rfl, rfl, rfl, rfl, trivial⟩ ?_
            refine AWP.condF rfl (by first | rfl | (simp; done) | (simp; omega)) ?_
            refine AWP.seq ?_
            refine AWP.region ?_
            refine rC (Calm.move rfl) ?_
            refine rC (Calm.nilCheck rfl) ?_
            refine rC (Calm.fieldAddr ty_field_90_0 rfl) ?_
            refine rC (Calm.fieldAddr ty_field_25_3 rfl) ?_
            refine rC (ld_ ty_plain_3 rfl) ?_
            refine rC (Calm.bin rfl rfl b_gtr) ?_
            refine rC (Calm.assign rfl) ?_
            refine arun_nil ?_
            refine athen_n ?_
            refine AWP.sub [(0, _), (1, _), (2, _), (3, _), (8, _), (10, _), (19, _), (21, _), (25, _), (48, _), (59, _)] ⟨rfl, rfl, rfl, rfl, rfl, rfl, rfl, rfl, rfl, rfl, rfl, trivial⟩ ?_
            refine AWP.condT rfl (by first | rfl | (simp; done) | (simp; omega)) ?_
            refine AWP.region ?_
            refine rC (Calm.move rfl) ?_
            refine rC (Calm.nilCheck rfl) ?_
            refine rC (Calm.fieldAddr ty_field_90_0 rfl) ?_
            refine rC (Calm.fieldAddr ty_field_25_3 rfl) ?_
            refine rC (ld_ ty_plain_3 rfl) ?_
            refine rC (Calm.bin rfl rfl b_sub_i64) ?_
            refine rC (Calm.nilCheck rfl) ?_
            refine rC (Calm.fieldAddr ty_field_90_0 rfl) ?_
            refine rC (Calm.fieldAddr ty_field_25_3 rfl) ?_
            refine ARun.store1 rfl rfl ty_size_3 rfl hp3 (show 3 < 5 from by decide) rfl ?_
            (try simp only [Mem.set_set, List.set_cons_zero, List.set_cons_succ, Nat.zero_add, Nat.reduceAdd])
            refine arun_nil ?_
            refine ain_n ?_
            refine athen_n ?_
            refine AWP.sub [(0, _), (1, _), (2, _), (3, _), (8, _), (10, _), (19, _), (21, _), (25, _), (48, _), (59, _)] ⟨rfl, rfl, rfl, rfl, rfl, rfl, rfl, rfl, rfl, rfl, rfl, trivial⟩ ?_
            refine AWP.seq ?_
            refine AWP.region ?_
            refine rC (Calm.assign rfl) ?_
            refine arun_nil ?_
            refine athen_n ?_
            refine AWP.ret ?_
            refine ⟨_, devM S p { addW d (s, i, data) with fuse := d.fuse - 1 } oE o', ⟨_, _, rfl, rfl, rfl⟩, (by rw [← hM2]; unfold devM; rw [Mem.set_set]; exact Mem.Less.refl _), ?_⟩
            exact ⟨oE, o', hokk _ rfl rfl, rfl, rfl⟩
          · rw [if_neg q5]
            refine AWP.seq ?_
            refine AWP.block ?_
            refine AWP.seq ?_
            refine AWP.region ?_
            refine rC (Calm.move rfl) ?_
            refine rC (Calm.nilCheck rfl) ?_
            refine rC (Calm.fieldAddr ty_field_90_0 rfl) ?_
            refine rC (Calm.fieldAddr ty_field_25_3 rfl) ?_
            refine rC (ld_ ty_plain_3 rfl) ?_
            refine rC (Calm.bin rfl rfl b_eql) ?_
            refine rC (Calm.assign rfl) ?_
            refine arun_nil ?_
            refine athen_n ?_
            refine AWP.sub [(0, _), (1, _), (2, _), (3, _), (8, _), (10, _), (19, _), (21, _), (25, _), (48, _)] ⟨rfl, rfl, rfl, rfl, rfl, rfl, rfl, rfl, rfl, rfl, trivial⟩ ?_
            refine AWP.condF rfl (by first | rfl | (simp; done) | (simp; omega)) ?_
            refine AWP.seq ?_
            refine AWP.region ?_
            refine rC (Calm.move rfl) ?_
            refine rC (Calm.nilCheck rfl) ?_
            refine rC (Calm.fieldAddr ty_field_90_0 rfl) ?_
            refine rC (Calm.fieldAddr ty_field_25_3 rfl) ?_
            refine rC (ld_ ty_plain_3 rfl) ?_
            refine rC (Calm.bin rfl rfl b_gtr) ?_
            refine rC (Calm.assign rfl) ?_
            refine arun_nil ?_
            refine athen_n ?_
            refine AWP.sub [(0, _), (1, _), (2, _), (3, _), (8, _), (10, _), (19, _), (21, _), (25, _), (48, _), (59, _)] ⟨rfl, rfl, rfl, rfl, rfl, rfl, rfl, rfl, rfl, rfl, rfl, trivial⟩ ?_
            refine AWP.condF rfl (by first | rfl | (simp; done) | (simp; omega)) ?_
            refine AWP.skip ?_
            refine ain_n ?_
            refine athen_n ?_
            refine AWP.seq ?_
            refine AWP.region ?_
            refine rC (Calm.assign rfl) ?_
            refine arun_nil ?_
            refine athen_n ?_
            refine AWP.ret ?_
            refine ⟨_, devM S p (addW d (s, i, data)) oE o', ⟨_, _, rfl, rfl, rfl⟩, (by rw [← hM2]; exact Mem.Less.refl _), ?_⟩
            exact ⟨oE, o', hokk _ rfl rfl, rfl, rfl⟩
    · rw [if_pos q2]
      refine ACall.enter (args := [.pointer (some ⟨p, 0, none⟩), .string s, .int .i64 i, .string data]) (rs := [.tmp 8]) 75 [(0, .pointer (some ⟨p, 0, none⟩)), (1, .string s), (2, .int .i64 i), (3, .string data)] Try.func64 rfl rfl (Nat.le_of_ble_eq_true rfl) rfl ⟨rfl, rfl, rfl, rfl, trivial⟩ ?_
      refine AWP.seq ?_
      refine AWP.region ?_
      refine rC (Calm.assign rfl) ?_
      refine arun_nil ?_
      refine athen_n ?_
      refine AWP.seq ?_
      refine AWP.seq ?_
      refine AWP.region ?_
      refine rC (Calm.move rfl) ?_
      refine rC (Calm.move rfl) ?_
      refine rC (Calm.move rfl) ?_
      refine ARun.call (lit_lt rfl) go_94 rfl (hpl) ?_
      rintro _ S1 ⟨rfl, h1⟩
      rw [h1]; clear h1 S1
      refine rC (Calm.move rfl) ?_
      refine rC (Calm.extract rfl rfl) ?_
      refine rC (Calm.extract rfl rfl) ?_
      refine rC (Calm.assign rfl) ?_
      refine rC (Calm.assign rfl) ?_
      refine arun_nil ?_
      refine athen_n ?_
      refine AWP.sub [(0, _), (1, _), (2, _), (3, _), (8, _), (10, _)] ⟨rfl, rfl, rfl, rfl, rfl, rfl, trivial⟩ ?_
      refine AWP.seq ?_
      refine AWP.region ?_
      refine rC (Calm.move rfl) ?_
      refine rC (Calm.bin rfl rfl b_neq) ?_
      refine arun_nil ?_
      refine athen_n ?_
      refine AWP.sub [(0, _), (1, _), (2, _), (3, _), (8, _), (10, _), (19, _)] ⟨rfl, rfl, rfl, rfl, rfl, rfl, rfl, trivial⟩ ?_
      refine AWP.condF rfl (by first | rfl | (simp; done) | (simp; omega)) ?_
      refine AWP.skip ?_
      refine athen_n ?_
      refine AWP.seq ?_
      refine AWP.block ?_
      refine AWP.seq ?_
      refine AWP.region ?_
      refine rC (Calm.move rfl) ?_
      refine rC (Calm.lenStr (strT_spec ty_str_9) rfl) ?_
      refine rC (Calm.bin rfl rfl b_neq) ?_
      refine rC (Calm.assign rfl) ?_
      refine arun_nil ?_
      refine athen_n ?_
      refine AWP.sub [(0, _), (1, _), (2, _), (3, _), (8, _), (10, _), (19, _), (21, _)] ⟨rfl, rfl, rfl, rfl, rfl, rfl, rfl, rfl, trivial⟩ ?_
      refine AWP.condT rfl (by first | rfl | (simp; done) | (simp; omega)) ?_
      refine AWP.seq ?_
      refine AWP.region ?_
      refine rC (Calm.assign rfl) ?_
      refine arun_nil ?_
      refine athen_n ?_
      refine AWP.ret ?_
      refine ain_ret ?_
      refine athen_ret ?_
      refine ⟨_, M, ⟨_, _, rfl, rfl, rfl⟩, less_, ?_⟩
      exact ⟨oE, oW, hok, rfl, hM.symm⟩
  · rw [if_pos q1]
    have hp1 : (placeD d s i).2 = 1 ∨ (placeD d s i).2 = 3 := by
      unfold placeD at q1 ⊢; repeat' split
      all_goals simp_all
    refine ACall.enter (args := [.pointer (some ⟨p, 0, none⟩), .string s, .int .i64 i, .string data]) (rs := [.tmp 8]) 75 [(0, .pointer (some ⟨p, 0, none⟩)), (1, .string s), (2, .int .i64 i), (3, .string data)] Try.func64 rfl rfl (Nat.le_of_ble_eq_true rfl) rfl ⟨rfl, rfl, rfl, rfl, trivial⟩ ?_
    refine AWP.seq ?_
    refine AWP.region ?_
    refine rC (Calm.assign rfl) ?_
    refine arun_nil ?_
    refine athen_n ?_
    refine AWP.seq ?_
    refine AWP.seq ?_
    refine AWP.region ?_
    refine rC (Calm.move rfl) ?_
    refine rC (Calm.move rfl) ?_
    refine rC (Calm.move rfl) ?_
    refine ARun.call (lit_lt rfl) go_94 rfl (hpl) ?_
    rintro _ S1 ⟨rfl, h1⟩
    rw [h1]; clear h1 S1
    refine rC (Calm.move rfl) ?_
    refine rC (Calm.extract rfl rfl) ?_
    refine rC (Calm.extract rfl rfl) ?_
    refine rC (Calm.assign rfl) ?_
    refine rC (Calm.assign rfl) ?_
    refine arun_nil ?_
    refine athen_n ?_
    refine AWP.sub [(0, _), (1, _), (2, _), (3, _), (8, _), (10, _)] ⟨rfl, rfl, rfl, rfl, rfl, rfl, trivial⟩ ?_
    refine AWP.seq ?_
    refine AWP.region ?_
    refine rC (Calm.move rfl) ?_
    refine rC (Calm.bin rfl rfl b_neq) ?_
    refine arun_nil ?_
    refine athen_n ?_
    refine AWP.sub [(0, _), (1, _), (2, _), (3, _), (8, _), (10, _), (19, _)] ⟨rfl, rfl, rfl, rfl, rfl, rfl, rfl, trivial⟩ ?_
    refine AWP.condT rfl (by first | rfl | (simp; done) | (simp; omega)) ?_
    refine AWP.seq ?_
    refine AWP.region ?_
    refine rC (Calm.move rfl) ?_
    refine rC (Calm.assign rfl) ?_
    refine arun_nil ?_
    refine athen_n ?_
    refine AWP.sub [(0, _), (1, _), (2, _), (3, _), (8, _), (10, _), (19, _)] ⟨rfl, rfl, rfl, rfl, rfl, rfl, rfl, trivial⟩ ?_
    refine AWP.ret ?_
    refine athen_ret ?_
    refine ⟨_, M, ⟨_, _, rfl, rfl, rfl⟩, less_, ?_⟩
    exact ⟨oE, oW, hok, rfl, hM.symm⟩
end Go.Proofs.Ytkeiphkccnfhoaa
