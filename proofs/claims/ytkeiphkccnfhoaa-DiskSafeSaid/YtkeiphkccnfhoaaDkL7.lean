/-
  Disk: the law DiskSafe walked.
-/
import Derived.Test.YtkeiphkccnfhoaaDiskLv
import Derived.Test.YtkeiphkccnfhoaaDiskOpen
import Derived.Test.YtkeiphkccnfhoaaDkP1
namespace Go.Proofs.Ytkeiphkccnfhoaa
open Go.RowKit
open Mv Disk
set_option linter.unusedVariables false
set_option linter.unusedSimpArgs false
set_option maxRecDepth 20000
namespace Mv
section
variable {P : Program} {N : Nat} {next : Env → Mem → Prop} {Q : Exit → Env → Mem → Prop} {E : Env} {S : Mem} {id : Nat}
theorem ain_other {j : Nat} (hj : (j == id) = false) (h : Q (.exit j) E S) : AinBlock id Q (.exit j) E S := by
  have : j ≠ id := by simpa using hj
  simpa [AinBlock, this] using h
end
end Mv
theorem less_app {M : Mem} {bo b5 b16 b17 b116 : Nat} {Y B W E Z : Blk} (h0 : M.own bo = none) (h16 : M.own b16 = none) (h116 : M.own b116 = none) (n1 : bo ≠ b5) (n2 : bo ≠ b17) (n3 : b16 ≠ b5) (n4 : b16 ≠ b17) (n5 : b116 ≠ b5) (n6 : b116 ≠ b17) :
    ((M.set b5 B).set b17 E).Less ((((((M.set bo Y).set b5 B).set b16 W).set b17 E).set b116 Z).del bo) := by
  refine ⟨fun k r hk => ?_, rfl⟩
  have hno : ∀ q, M.own q = none → q ≠ b5 → q ≠ b17 → k ≠ q := fun q hq ha hb e => by
    subst e; rw [Mem.own_set_other _ _ hb, Mem.own_set_other _ _ ha, hq] at hk; cases hk
  have k0 := hno bo h0 n1 n2
  have k16 := hno b16 h16 n3 n4
  have k116 := hno b116 h116 n5 n6
  rw [Mem.own_del_other _ k0, Mem.own_set_other _ _ k116]
  by_cases e : k = b17
  · subst e; rw [Mem.own_set_same] at hk ⊢; exact hk
  · rw [Mem.own_set_other _ _ e] at hk ⊢
    rw [Mem.own_set_other _ _ k16]
    by_cases e5 : k = b5
    · subst e5; rw [Mem.own_set_same] at hk ⊢; exact hk
    · rw [Mem.own_set_other _ _ e5] at hk ⊢
      rw [Mem.own_set_other _ _ k0]; exact hk
theorem write_any {d : D} (s y : ByteArray) (k : Int) (hR : Right d) (hf1 : d.fuse ≤ 9223372036854775807) :
    ((opened d (writeD d s k y)).2 = 0 ∧ d.down = false ∧ ∃ f : Int, f ≤ 9223372036854775807 ∧ (opened d (writeD d s k y)).1 = { addW d (s, k, y) with fuse := f } ∧ Right (opened d (writeD d s k y)).1) ∨
    ((opened d (writeD d s k y)).2 = 10 ∧ d.down = true ∧ (opened d (writeD d s k y)).1 = d) ∨
    ((opened d (writeD d s k y)).2 = 10 ∧ d.down = false ∧ (opened d (writeD d s k y)).1 = { addW d (s, k, y) with down := true } ∧ Right (opened d (writeD d s k y)).1) ∨
    ((opened d (writeD d s k y)).2 ≠ 0 ∧ (opened d (writeD d s k y)).2 ≠ 10) := by
  by_cases q : (opened d (writeD d s k y)).2 = 0
  · obtain ⟨_, hdn, hp, hs, hl, f, h1, h2, he⟩ := write_ok hf1 q
    left
    rw [he]
    exact ⟨rfl, hdn, f, h2, rfl, right_fuse (right_add hR hp hs hl) h1 (addW d (s, k, y)).down⟩
  · right
    unfold opened at q ⊢
    rcases openD_or d with ⟨ho, hR'⟩ | ⟨ho, _, hdn⟩ | ⟨ho, _, hdn⟩ <;> rw [ho] at q ⊢
    · exact absurd hR hR'
    · left; rw [if_neg (by simp)]; exact ⟨rfl, hdn, rfl⟩
    · right
      rw [if_pos rfl] at q ⊢
      unfold writeD at q ⊢
      by_cases q0 : (placeD d s k).2 ≠ 0
      · right
        rw [if_pos q0]
        refine ⟨q0, ?_⟩
        show (placeD d s k).2 ≠ 10
        unfold placeD
        split
        · split <;> simp
        · simp
      · rw [if_neg q0] at q ⊢
        by_cases q1 : y.size ≠ 64
        · right; rw [if_pos q1]; exact ⟨by simp, by simp⟩
        · rw [if_neg q1] at q ⊢
          by_cases q2 : d.waits.length = 16384
          · right; rw [if_pos q2]; exact ⟨by simp, by simp⟩
          · rw [if_neg q2] at q ⊢
            have hwl := hR.wl
            left
            unfold fuseD at q ⊢
            by_cases q3 : (addW d (s, k, y)).fuse = 0
            · rw [if_pos q3]
              exact ⟨rfl, hdn, rfl, right_fuse (right_add hR (by simpa using q0) (by simpa using q1) (by omega)) hR.fu true⟩
            · rw [if_neg q3] at q
              exfalso; apply q; split <;> rfl
/-- What stands between two rounds. -/
structure LS where
  i : Nat
  d : D
  M : Mem
  pe : Option Addr
  qe : Nat
  pw : Option Addr
  qw : Nat
  bo : Nat
  c : Nat
  ms : List ByteArray
abbrev strT : TypeId := 9
def LS.B (x : LS) : Blk := boxD x.d (.slice x.pe x.d.ext.length x.qe) (.slice x.pw x.d.waits.length x.qw)
def LS.Y (x : LS) : Blk := ⟨strT, x.ms.flatMap strs, x.c * 1⟩
structure LS.Ok (S : Mem) (E0 : List Ext) (n : Nat) (s : ByteArray) (k : Int) (base : ByteArray) (b5 : Nat) (x : LS) : Prop where
  i1 : x.i ≤ n
  i2 : x.i ≤ 30
  R : Right x.d
  fz : x.d.fuse ≤ 9223372036854775807
  ext : x.d.ext = E0
  hS : S.Less x.M
  f1 : Fresh x.M x.bo
  f2 : Fresh (x.M.set x.bo x.Y) b5
  dk : DkR x.M (.agg #[.int .i64 x.d.size, .slice x.pe x.d.ext.length x.qe, .slice x.pw x.d.waits.length x.qw, .int .i64 x.d.fuse, .bool x.d.down]) x.d
  bm : base ∈ x.ms
  hit : ∀ w ∈ x.d.waits, w.1 = s → w.2.1 = k → w.2.2 ∈ x.ms
  ml : x.ms.length ≤ x.i + 1
  cap : x.ms.length ≤ x.c
theorem str_len (x : ByteArray) : (strs x).length = 1 := rfl
theorem strs_one (l : List ByteArray) : ∀ v ∈ l.flatMap strs, v.oneCell' = true := fun v hv => by
  obtain ⟨x, _, hx⟩ := List.mem_flatMap.1 hv
  simp only [strs, List.mem_cons, List.not_mem_nil, or_false] at hx
  subst hx; rfl
theorem sl_ownS {S : Mem} {b : Nat} {r : Blk} {l : List ByteArray} {c : Nat} (h : S.own b = some r) (hc : r.cells = l.flatMap strs) (hl : l.length ≤ c) (h2 : l.length ≤ 1048576) : Sl 1 strs S (.slice (some ⟨b, 0, none⟩) l.length c) l := by
  obtain ⟨a, cap, e, h1, h3, h4⟩ := sl_own (n := 1) str_len h hc rfl h2
  cases e
  exact ⟨_, _, rfl, hl, h3, h4⟩
set_option maxHeartbeats 16000000 in
theorem law_DiskSafe (v vl vk : Value) (d : D) (l : List Wr) (s : ByteArray) (k : Int) (kl : List Bool) (S : Mem) (hd : DkR S v d) (hz : Dz d) (hl : Sl 3 wrF S vl l) (hk : Sl 1 bools S vk kl) :
    ACall Try.prog 7 #[v, vl, .string s, .int .i64 k, vk] S fun r S' => r = .bool true := by
  have c0 := fun v S h => disk_Sync v d S h hz
  obtain ⟨pe, ce, pw, cw, rfl, hE, hW⟩ := id hd
  obtain ⟨pl, cl, rfl, hl1, hl2, hl3⟩ := id hl
  obtain ⟨pk, ck, rfl, hk1, hk2, hk3⟩ := id hk
  by_cases q : (opened d (syncD d)).2 = 0
  · have hop : Right d ∧ d.down = false ∧ opened d (syncD d) = (settleD d (fun _ => true), 0) := by
      unfold opened at q ⊢
      rcases openD_or d with ⟨ho, hR'⟩ | ⟨ho, hR, hdn⟩ | ⟨ho, hR, hdn⟩ <;> rw [ho] at q ⊢
      · simp at q
      · simp at q
      · exact ⟨hR, hdn, if_pos rfl⟩
    obtain ⟨hR, hdn, hop⟩ := hop
    rw [hop] at c0
    have hR1 := right_settle hR (fun _ => true)
    have hw1 : (settleD d (fun _ => true)).waits = [] := rfl
    have hdn1 : (settleD d (fun _ => true)).down = false := hdn
    have hf1 : (settleD d (fun _ => true)).fuse ≤ 9223372036854775807 := hz.f1
    generalize settleD d (fun _ => true) = d1 at *
    clear q hop
    have hz1 := dz_right hR1 hf1
    have c1 := fun v S h => disk_Read v d1 s k S h hz1
    rw [read_ok hR1 hdn1] at c1
    by_cases q0 : (placeD d1 s k).2 ≠ 0
    · rw [if_pos q0] at c1
      generalize (placeD d1 s k).2 = er at *
      refine ACall.enter (args := [.agg #[.int .i64 d.size, .slice pe d.ext.length ce, .slice pw d.waits.length cw, .int .i64 d.fuse, .bool d.down], .slice pl l.length cl, .string s, .int .i64 k, .slice pk kl.length ck]) (rs := [.tmp 10]) 170 [(0, .agg #[.int .i64 d.size, .slice pe d.ext.length ce, .slice pw d.waits.length cw, .int .i64 d.fuse, .bool d.down]), (1, .slice pl l.length cl), (2, .string s), (3, .int .i64 k), (4, .slice pk kl.length ck)] Try.func7 rfl rfl (Nat.le_of_ble_eq_true rfl) rfl ⟨rfl, rfl, rfl, rfl, rfl, trivial⟩ ?_
      refine AWP.seq ?_
      refine AWP.region ?_
      refine ARun.boxA (cs := [_, _, _, _, _]) (lit_lt rfl) rfl ?_
      intro b5 f5
      have g5 := f5
      repeat ((with_reducible replace g5 := fresh_set g5); obtain ⟨g5, _⟩ := g5)
      (try simp only [List.length_cons, List.length_nil, Nat.zero_add, Nat.reduceAdd])
      refine rC (Calm.assign rfl) ?_
      refine arun_nil ?_
      refine athen_n ?_
      refine AWP.seq ?_
      refine AWP.seq ?_
      refine AWP.region ?_
      refine ARun.call (lit_lt rfl) go_23 rfl (lv_lives _) ?_
      rintro _ Sx ⟨rfl, h1⟩
      rw [h1]; clear h1 Sx
      refine rC (Calm.un rfl (una_not _)) ?_
      refine arun_nil ?_
      refine athen_n ?_
      refine AWP.sub [(0, _), (1, _), (2, _), (3, _), (4, _), (5, _), (10, _), (27, _)] ⟨rfl, rfl, rfl, rfl, rfl, rfl, rfl, rfl, trivial⟩ ?_
      refine AWP.condF rfl (by first | rfl | (simp; done) | (simp; omega)) ?_
      refine AWP.skip ?_
      refine athen_n ?_
      refine AWP.seq ?_
      refine AWP.region ?_
      refine rC (ldA_ (cs := [_, _, _, _, _]) ty_agg_25 ty_size_25 rfl) ?_
      refine ARun.call (lit_lt rfl) go_31 rfl ((c0 _ _ hd).frame f5) ?_
      rintro _ Sx ⟨M1, ⟨v, rfl, hM1, hd1⟩, fa, h1⟩
      rw [h1]; clear h1 Sx
      obtain ⟨p1, q1, r1, s1, rfl, hE1, hW1⟩ := id hd1
      refine rC (Calm.move rfl) ?_
      refine rC (Calm.extract rfl rfl) ?_
      refine rC (Calm.extract rfl rfl) ?_
      first | refine ARun.storeAll rfl rfl ty_size_25 own_ rfl rfl ?_ | refine ARun.store rfl rfl ty_size_25 own_ lens_ rfl ?_
      (try simp only [Mem.set_set, List.set_cons_zero, List.set_cons_succ, Nat.zero_add, Nat.reduceAdd])
      refine rC (Calm.assign rfl) ?_
      refine arun_nil ?_
      refine athen_n ?_
      refine AWP.sub [(0, _), (1, _), (2, _), (3, _), (4, _), (5, _), (10, _), (27, _), (11, _)] ⟨rfl, rfl, rfl, rfl, rfl, rfl, rfl, rfl, rfl, trivial⟩ ?_
      refine AWP.seq ?_
      refine AWP.region ?_
      refine rC (ldA_ (cs := [_, _, _, _, _]) ty_agg_25 ty_size_25 rfl) ?_
      refine rC (Calm.move rfl) ?_
      refine rC (Calm.move rfl) ?_
      refine ARun.call (lit_lt rfl) go_27 rfl (c1 _ _ (hd1.less less_)) ?_
      rintro _ Sx ⟨rfl, h1⟩
      rw [h1]; clear h1 Sx
      refine rC (Calm.move rfl) ?_
      refine rC (Calm.extract rfl rfl) ?_
      refine rC (Calm.extract rfl rfl) ?_
      refine rC (Calm.assign rfl) ?_
      refine rC (Calm.assign rfl) ?_
      refine arun_nil ?_
      refine athen_n ?_
      refine AWP.sub [(0, _), (1, _), (2, _), (3, _), (4, _), (5, _), (10, _), (27, _), (11, _), (12, _), (13, _)] ⟨rfl, rfl, rfl, rfl, rfl, rfl, rfl, rfl, rfl, rfl, rfl, trivial⟩ ?_
      refine AWP.seq ?_
      refine AWP.seq ?_
      refine AWP.region ?_
      refine rC (Calm.move rfl) ?_
      refine rC (Calm.bin rfl rfl b_neq) ?_
      refine rC (Calm.move rfl) ?_
      first | refine rS 42 ?_ | refine rU 42 ?_ | refine rG 42 (Calm.move rfl) ?_
      first | refine rS 42 ?_ | refine rU 42 ?_ | refine rG 42 (Calm.bin rfl rfl (bin_bool (bin_neq _ _) (bnot_dec_true q0))) ?_
      refine rC ((by first | exact Calm.pickT rfl rfl | exact Calm.pickF rfl rfl)) ?_
      refine arun_nil ?_
      refine athen_n ?_
      refine AWP.sub [(0, _), (1, _), (2, _), (3, _), (4, _), (5, _), (10, _), (27, _), (11, _), (12, _), (13, _), (45, _)] ⟨rfl, rfl, rfl, rfl, rfl, rfl, rfl, rfl, rfl, rfl, rfl, rfl, trivial⟩ ?_
      refine AWP.condT rfl (by first | rfl | (simp; done) | (simp; omega)) ?_
      refine AWP.seq ?_
      refine AWP.region ?_
      refine rC (Calm.assign rfl) ?_
      refine arun_nil ?_
      refine athen_n ?_
      refine AWP.ret ?_
      refine athen_ret ?_
      refine ⟨_, _, ⟨_, _, rfl, rfl, rfl⟩, less_, ?_⟩
      rfl
    · rw [if_neg q0] at c1
      have q0 : (placeD d1 s k).2 = 0 := by simpa using q0
      have hbase : seen d1 s k = (exOf d1.ext s).2.extract (64 * k.toNat) (64 * k.toNat + 64) := by unfold seen; rw [hw1]; rfl
      generalize hbb : seen d1 s k = base at *
      refine ACall.enter (args := [.agg #[.int .i64 d.size, .slice pe d.ext.length ce, .slice pw d.waits.length cw, .int .i64 d.fuse, .bool d.down], .slice pl l.length cl, .string s, .int .i64 k, .slice pk kl.length ck]) (rs := [.tmp 10]) 170 [(0, .agg #[.int .i64 d.size, .slice pe d.ext.length ce, .slice pw d.waits.length cw, .int .i64 d.fuse, .bool d.down]), (1, .slice pl l.length cl), (2, .string s), (3, .int .i64 k), (4, .slice pk kl.length ck)] Try.func7 rfl rfl (Nat.le_of_ble_eq_true rfl) rfl ⟨rfl, rfl, rfl, rfl, rfl, trivial⟩ ?_
      refine AWP.seq ?_
      refine AWP.region ?_
      refine ARun.boxA (cs := [_, _, _, _, _]) (lit_lt rfl) rfl ?_
      intro b5 f5
      have g5 := f5
      repeat ((with_reducible replace g5 := fresh_set g5); obtain ⟨g5, _⟩ := g5)
      (try simp only [List.length_cons, List.length_nil, Nat.zero_add, Nat.reduceAdd])
      refine rC (Calm.assign rfl) ?_
      refine arun_nil ?_
      refine athen_n ?_
      refine AWP.seq ?_
      refine AWP.seq ?_
      refine AWP.region ?_
      refine ARun.call (lit_lt rfl) go_23 rfl (lv_lives _) ?_
      rintro _ Sx ⟨rfl, h1⟩
      rw [h1]; clear h1 Sx
      refine rC (Calm.un rfl (una_not _)) ?_
      refine arun_nil ?_
      refine athen_n ?_
      refine AWP.sub [(0, _), (1, _), (2, _), (3, _), (4, _), (5, _), (10, _), (27, _)] ⟨rfl, rfl, rfl, rfl, rfl, rfl, rfl, rfl, trivial⟩ ?_
      refine AWP.condF rfl (by first | rfl | (simp; done) | (simp; omega)) ?_
      refine AWP.skip ?_
      refine athen_n ?_
      refine AWP.seq ?_
      refine AWP.region ?_
      refine rC (ldA_ (cs := [_, _, _, _, _]) ty_agg_25 ty_size_25 rfl) ?_
      refine ARun.call (lit_lt rfl) go_31 rfl ((c0 _ _ hd).frame f5) ?_
      rintro _ Sx ⟨M1, ⟨v, rfl, hM1, hd1⟩, fa, h1⟩
      rw [h1]; clear h1 Sx
      obtain ⟨p1, q1, r1, s1, rfl, hE1, hW1⟩ := id hd1
      refine rC (Calm.move rfl) ?_
      refine rC (Calm.extract rfl rfl) ?_
      refine rC (Calm.extract rfl rfl) ?_
      first | refine ARun.storeAll rfl rfl ty_size_25 own_ rfl rfl ?_ | refine ARun.store rfl rfl ty_size_25 own_ lens_ rfl ?_
      (try simp only [Mem.set_set, List.set_cons_zero, List.set_cons_succ, Nat.zero_add, Nat.reduceAdd])
      refine rC (Calm.assign rfl) ?_
      refine arun_nil ?_
      refine athen_n ?_
      refine AWP.sub [(0, _), (1, _), (2, _), (3, _), (4, _), (5, _), (10, _), (27, _), (11, _)] ⟨rfl, rfl, rfl, rfl, rfl, rfl, rfl, rfl, rfl, trivial⟩ ?_
      refine AWP.seq ?_
      refine AWP.region ?_
      refine rC (ldA_ (cs := [_, _, _, _, _]) ty_agg_25 ty_size_25 rfl) ?_
      refine rC (Calm.move rfl) ?_
      refine rC (Calm.move rfl) ?_
      refine ARun.call (lit_lt rfl) go_27 rfl (c1 _ _ (hd1.less less_)) ?_
      rintro _ Sx ⟨rfl, h1⟩
      rw [h1]; clear h1 Sx
      refine rC (Calm.move rfl) ?_
      refine rC (Calm.extract rfl rfl) ?_
      refine rC (Calm.extract rfl rfl) ?_
      refine rC (Calm.assign rfl) ?_
      refine rC (Calm.assign rfl) ?_
      refine arun_nil ?_
      refine athen_n ?_
      refine AWP.sub [(0, _), (1, _), (2, _), (3, _), (4, _), (5, _), (10, _), (27, _), (11, _), (12, _), (13, _)] ⟨rfl, rfl, rfl, rfl, rfl, rfl, rfl, rfl, rfl, rfl, rfl, trivial⟩ ?_
      refine AWP.seq ?_
      refine AWP.seq ?_
      refine AWP.region ?_
      refine rC (Calm.move rfl) ?_
      refine rC (Calm.bin rfl rfl b_neq) ?_
      refine rC (Calm.move rfl) ?_
      first | refine rS 42 ?_ | refine rU 42 ?_ | refine rG 42 (Calm.move rfl) ?_
      first | refine rS 42 ?_ | refine rU 42 ?_ | refine rG 42 (Calm.bin rfl rfl b_neq) ?_
      refine rC ((by first | exact Calm.pickT rfl rfl | exact Calm.pickF rfl rfl)) ?_
      refine arun_nil ?_
      refine athen_n ?_
      refine AWP.sub [(0, _), (1, _), (2, _), (3, _), (4, _), (5, _), (10, _), (27, _), (11, _), (12, _), (13, _), (45, _)] ⟨rfl, rfl, rfl, rfl, rfl, rfl, rfl, rfl, rfl, rfl, rfl, rfl, trivial⟩ ?_
      refine AWP.condF rfl (by first | rfl | (simp; done) | (simp; omega)) ?_
      refine AWP.skip ?_
      refine athen_n ?_
      refine AWP.seq ?_
      refine AWP.region ?_
      refine rC (Calm.move rfl) ?_
      refine ARun.build1s (lit_lt rfl) ty_sl_26 rfl rfl ?_
      intro b47 f47
      have g47 := f47
      repeat ((with_reducible replace g47 := fresh_set g47); obtain ⟨g47, _⟩ := g47)
      refine rC (Calm.assign rfl) ?_
      refine arun_nil ?_
      refine athen_n ?_
      refine AWP.sub [(0, _), (1, _), (2, _), (3, _), (4, _), (5, _), (10, _), (27, _), (11, _), (12, _), (13, _), (45, _), (14, _)] ⟨rfl, rfl, rfl, rfl, rfl, rfl, rfl, rfl, rfl, rfl, rfl, rfl, rfl, trivial⟩ ?_
      obtain ⟨g47, n47⟩ := fresh_set f47
      rw [Mem.set_comm' _ _ _ (Ne.symm n47)]
      refine AWP.seq ?_
      refine AWP.seq ?_
      refine AWP.region ?_
      refine rC (Calm.move rfl) ?_
      refine rC (Calm.lenSl Try.underlying23 rfl) ?_
      refine rC (Calm.move rfl) ?_
      refine arun_nil ?_
      refine athen_n ?_
      refine AWP.block ?_
      refine AWP.loop (X := LS) (fun x => [(1, .slice pl l.length cl), (2, .string s), (3, .int .i64 k), (4, .slice pk kl.length ck), (5, .pointer (some ⟨b5, 0, none⟩)), (14, .slice (some ⟨x.bo, 0, none⟩) x.ms.length x.c), (48, .slice pl l.length cl), (49, .int .i64 l.length), (50, .int .i64 x.i)]) (fun x => (x.M.set x.bo x.Y).set b5 x.B) (LS.Ok S d1.ext l.length s k base b5) (fun x => l.length - x.i) (⟨0, d1, M1, p1, q1, r1, s1, b47, 1, [base]⟩) ⟨rfl, rfl, rfl, rfl, rfl, rfl, rfl, rfl, rfl, trivial⟩ (Mem.Less.refl _) (⟨Nat.zero_le _, (by show 0 ≤ 30; decide), hR1, hf1, rfl, hM1, g47, fresh_more fa (Ne.symm n47), hd1, (by show base ∈ [base]; simp), (fun w hw => by rw [hw1] at hw; cases hw), (by show [base].length ≤ 1; simp), (by show [base].length ≤ 1; simp)⟩) ?_
      rintro ⟨i, dd, M, pe', qe', pw', qw', bo, c, ms⟩ ⟨i1, i2, hRd, hfz, hext, hSM, g1, g2, hdk, hbm, hhit, hml, hcap⟩
      (try dsimp only at *)
      simp only [LS.B, LS.Y, boxD] at *
      obtain ⟨g2m, nb⟩ := fresh_set g2
      refine AWP.seq ?_
      refine AWP.region ?_
      refine rC (Calm.bin rfl rfl b_lss) ?_
      refine arun_nil ?_
      refine athen_n ?_
      refine AWP.seq ?_
      refine AWP.condB rfl (fun hc => ?_) (fun hc => ?_)
      · have hc : i < l.length := by have := of_decide_eq_true hc; omega
        obtain ⟨bl, ol, rfl, hkl⟩ := hl3.resolve_left (fun e => by rw [e] at hc; simp at hc)
        have hki := (hkl i hc).less hSM
        generalize l[i] = w at *
        unfold wrF at hki
        refine AWP.skip ?_
        refine athen_n ?_
        refine AWP.seq ?_
        refine AWP.block ?_
        refine AWP.seq ?_
        refine AWP.region ?_
        refine rC (Calm.move rfl) ?_
        refine rC (Calm.indexS Try.underlying23 ty_size_51 rfl rfl (by omega) (by omega)) ?_
        refine rC (ldA_ (cs := [_, _, _]) ty_agg_51 ty_size_51 rfl) ?_
        refine ARun.alloc (lit_lt rfl) ty_zero_51 ?_
        intro b16 f16
        have g16 := f16
        repeat ((with_reducible replace g16 := fresh_set g16); obtain ⟨g16, _⟩ := g16)
        (try simp only [List.length_cons, List.length_nil, Nat.zero_add, Nat.reduceAdd])
        refine rC (Calm.assign rfl) ?_
        first | refine ARun.storeAll rfl rfl ty_size_51 own_ rfl rfl ?_ | refine ARun.store rfl rfl ty_size_51 own_ lens_ rfl ?_
        (try simp only [Mem.set_set, List.set_cons_zero, List.set_cons_succ, Nat.zero_add, Nat.reduceAdd])
        refine arun_nil ?_
        refine athen_n ?_
        refine AWP.sub [(1, _), (2, _), (3, _), (4, _), (5, _), (14, _), (48, _), (49, _), (50, _), (51, _), (16, _), (15, _)] ⟨rfl, rfl, rfl, rfl, rfl, rfl, rfl, rfl, rfl, rfl, rfl, rfl, trivial⟩ ?_
        refine AWP.seq ?_
        refine AWP.seq ?_
        refine AWP.region ?_
        refine rC (Calm.move rfl) ?_
        refine rC (Calm.bin rfl rfl b_eql) ?_
        refine arun_nil ?_
        refine athen_n ?_
        refine AWP.sub [(1, _), (2, _), (3, _), (4, _), (5, _), (14, _), (48, _), (49, _), (50, _), (51, _), (16, _), (15, _), (56, _)] ⟨rfl, rfl, rfl, rfl, rfl, rfl, rfl, rfl, rfl, rfl, rfl, rfl, rfl, trivial⟩ ?_
        refine AWP.condB rfl (fun hq => ?_) (fun hq => ?_)
        · refine AWP.less ((M.set bo ⟨strT, ms.flatMap strs, c * 1⟩).set b5 ⟨25, [.int .i64 dd.size, .slice pe' dd.ext.length qe', .slice pw' dd.waits.length qw', .int .i64 dd.fuse, .bool dd.down], 5⟩) (Mem.less_set _ _ _ f16.1) ?_
          have hcr := fun v vk S h hk => disk_Crash v vk dd kl S h (dz_right hRd hfz) hk
          have hcd : crashD dd kl = (upD (settleD dd (keepK kl)), 0) := by unfold crashD; rw [chkD_yes hRd, if_pos rfl]
          rw [hcd] at hcr
          have hRs := right_settle hRd (keepK kl)
          have hRc : Right (upD (settleD dd (keepK kl))) := right_fuse hRs (by decide) false
          have hpd : (placeD dd s k).2 = 0 := by rw [show placeD dd s k = placeD d1 s k from by unfold placeD; rw [hext]]; exact q0
          have hpc : (placeD (upD (settleD dd (keepK kl))) s k).2 = 0 := (place_settle hRd (keepK kl) s k).trans hpd
          have hrc := read_ok hRc (show (upD (settleD dd (keepK kl))).down = false from rfl) s k
          rw [hpc, if_neg (by simp)] at hrc
          have hsn : seen (upD (settleD dd (keepK kl))) s k ∈ ms := by have h1 := seen_settle hRd hpd (keepK kl); rw [hext, ← hbase] at h1; show seen (settleD dd (keepK kl)) s k ∈ ms; rw [h1]; rcases seeW_mem (keepK kl) dd.waits s k base dd.waits.length with h2 | ⟨w, hw, h3, h4, h5⟩; rw [h2]; exact hbm; rw [h5]; exact hhit w hw h3 h4
          have hrd := fun v S h => disk_Read v (upD (settleD dd (keepK kl))) s k S h (dz_right hRc (by show (-1 : Int) ≤ _; decide))
          have hck := fun v S h => disk_Check v (upD (settleD dd (keepK kl))) S h (dz_right hRc (by show (-1 : Int) ≤ _; decide))
          rw [hrc] at hrd
          rw [chkD_yes hRc] at hck
          have hfu : (upD (settleD dd (keepK kl))).fuse = -1 := rfl
          have hdw : (upD (settleD dd (keepK kl))).down = false := rfl
          generalize upD (settleD dd (keepK kl)) = cc at *
          generalize seen cc s k = is at *
          refine AWP.exit ?_
          refine athen_exit ?_
          refine ain_other rfl ?_
          refine athen_exit ?_
          refine athen_exit ?_
          refine ain_same ?_
          refine athen_n ?_
          refine AWP.seq ?_
          refine AWP.region ?_
          refine rC (ldA_ (cs := [_, _, _, _, _]) ty_agg_25 ty_size_25 rfl) ?_
          refine rC (Calm.move rfl) ?_
          refine ARun.call (lit_lt rfl) go_33 rfl (((hcr _ _ M hdk (hk.less hSM)).frame g1).frame g2) ?_
          rintro _ S1 ⟨Sa, ⟨M3, ⟨v', rfl, hM3, hdc⟩, ha, hSa⟩, hb, h1⟩
          rw [h1, hSa]; rw [hSa] at hb; clear h1 S1 hSa Sa
          obtain ⟨hbm3, nbb⟩ := fresh_set hb
          obtain ⟨p3, q3, r3, s3, rfl, hE3', hW3'⟩ := id hdc
          rw [hfu, hdw] at hdc ⊢
          refine rC (Calm.move rfl) ?_
          refine rC (Calm.extract rfl rfl) ?_
          refine rC (Calm.extract rfl rfl) ?_
          refine ARun.alloc (lit_lt rfl) ty_zero_25 ?_
          intro b19 f19
          have g19 := f19
          repeat ((with_reducible replace g19 := fresh_set g19); obtain ⟨g19, _⟩ := g19)
          (try simp only [List.length_cons, List.length_nil, Nat.zero_add, Nat.reduceAdd])
          first | refine ARun.storeAll rfl rfl ty_size_25 own_ rfl rfl ?_ | refine ARun.store rfl rfl ty_size_25 own_ lens_ rfl ?_
          (try simp only [Mem.set_set, List.set_cons_zero, List.set_cons_succ, Nat.zero_add, Nat.reduceAdd])
          refine rC (Calm.assign rfl) ?_
          refine arun_nil ?_
          refine athen_n ?_
          refine AWP.sub [(1, _), (2, _), (3, _), (4, _), (5, _), (14, _), (48, _), (49, _), (50, _), (51, _), (16, _), (15, _), (56, _), (19, _), (20, _)] ⟨rfl, rfl, rfl, rfl, rfl, rfl, rfl, rfl, rfl, rfl, rfl, rfl, rfl, rfl, rfl, trivial⟩ ?_
          refine AWP.seq ?_
          refine AWP.region ?_
          refine rC (ldA_ (cs := [_, _, _, _, _]) ty_agg_25 ty_size_25 rfl) ?_
          refine rC (Calm.move rfl) ?_
          refine rC (Calm.move rfl) ?_
          refine ARun.call (lit_lt rfl) go_27 rfl (hrd _ _ (hdc.less less_)) ?_
          rintro _ Sx ⟨rfl, h1⟩
          rw [h1]; clear h1 Sx
          refine rC (Calm.move rfl) ?_
          refine rC (Calm.extract rfl rfl) ?_
          refine rC (Calm.extract rfl rfl) ?_
          refine rC (Calm.assign rfl) ?_
          refine rC (Calm.assign rfl) ?_
          refine arun_nil ?_
          refine athen_n ?_
          refine AWP.sub [(1, _), (2, _), (3, _), (4, _), (5, _), (14, _), (48, _), (49, _), (50, _), (51, _), (16, _), (15, _), (56, _), (19, _), (20, _), (21, _), (22, _)] ⟨rfl, rfl, rfl, rfl, rfl, rfl, rfl, rfl, rfl, rfl, rfl, rfl, rfl, rfl, rfl, rfl, rfl, trivial⟩ ?_
          refine AWP.seq ?_
          refine AWP.region ?_
          refine rC (Calm.assign rfl) ?_
          refine arun_nil ?_
          refine athen_n ?_
          refine AWP.seq ?_
          refine AWP.seq ?_
          refine AWP.region ?_
          refine rC (Calm.move rfl) ?_
          refine rC (Calm.lenSl Try.underlying26 rfl) ?_
          refine rC (Calm.move rfl) ?_
          refine arun_nil ?_
          refine athen_n ?_
          refine AWP.block ?_
          refine AWP.loop (X := Nat × Bool) (fun x => [(19, .pointer (some ⟨b19, 0, none⟩)), (20, .int .i64 0), (21, .string is), (22, .int .i64 0), (23, .bool x.2), (133, .slice (some ⟨bo, 0, none⟩) ms.length c), (134, .int .i64 ms.length), (135, .int .i64 x.1)]) (fun x => ((M3.set bo ⟨strT, ms.flatMap strs, c * 1⟩).set b5 ⟨25, [.int .i64 dd.size, .slice pe' dd.ext.length qe', .slice pw' dd.waits.length qw', .int .i64 dd.fuse, .bool dd.down], 5⟩).set b19 ⟨25, [.int .i64 cc.size, .slice p3 cc.ext.length q3, .slice r3 cc.waits.length s3, .int .i64 (-1), .bool false], 5⟩) (fun x => x.1 ≤ ms.length ∧ (x.2 = true ↔ ∃ j, ∃ h : j < ms.length, j < x.1 ∧ ms[j] = is)) (fun x => ms.length - x.1) ((0, false)) ⟨rfl, rfl, rfl, rfl, rfl, rfl, rfl, rfl, trivial⟩ (Mem.Less.refl _) (⟨Nat.zero_le _, ⟨fun h => (by cases h), fun ⟨j, _, h, _⟩ => (absurd h (Nat.not_lt_zero _))⟩⟩) ?_
          rintro ⟨j, fb⟩ ⟨hj, hfb⟩
          (try dsimp only at *)
          refine AWP.seq ?_
          refine AWP.region ?_
          refine rC (Calm.bin rfl rfl b_lss) ?_
          refine arun_nil ?_
          refine athen_n ?_
          refine AWP.seq ?_
          refine AWP.condB rfl (fun hcj => ?_) (fun hcj => ?_)
          · have hcj : j < ms.length := by have := of_decide_eq_true hcj; omega
            have hslo := sl_ownS (S := ((M3.set bo ⟨strT, ms.flatMap strs, c * 1⟩).set b5 ⟨25, [.int .i64 dd.size, .slice pe' dd.ext.length qe', .slice pw' dd.waits.length qw', .int .i64 dd.fuse, .bool dd.down], 5⟩).set b19 ⟨25, [.int .i64 cc.size, .slice p3 cc.ext.length q3, .slice r3 cc.waits.length s3, .int .i64 (-1), .bool false], 5⟩) (b := bo) (r := ⟨strT, ms.flatMap strs, c * 1⟩) (l := ms) (c := c) own_ rfl hcap (by omega)
            obtain ⟨_, _, ee, _, _, h3⟩ := hslo
            cases ee
            obtain ⟨bx, ox, ex, hkx⟩ := h3.resolve_left (fun e => by rw [e] at hcj; simp at hcj)
            cases ex
            have hkj := hkx j hcj
            unfold strs at hkj
            cases fb
            · by_cases q9 : ms[j] = is
              · refine AWP.skip ?_
                refine athen_n ?_
                refine AWP.seq ?_
                refine AWP.block ?_
                refine AWP.seq ?_
                refine AWP.region ?_
                refine rC (Calm.indexS Try.underlying26 ty_size_9 rfl rfl (by omega) (by omega)) ?_
                refine rC (ld_ ty_plain_9 rfl) ?_
                refine rC (Calm.assign rfl) ?_
                refine arun_nil ?_
                refine athen_n ?_
                refine AWP.sub [(19, _), (20, _), (21, _), (22, _), (23, _), (133, _), (134, _), (135, _), (136, _), (25, _)] ⟨rfl, rfl, rfl, rfl, rfl, rfl, rfl, rfl, rfl, rfl, trivial⟩ ?_
                refine AWP.region ?_
                refine rC (Calm.move rfl) ?_
                refine rC (Calm.move rfl) ?_
                first | refine rS 140 ?_ | refine rU 140 ?_ | refine rG 140 (Calm.move rfl) ?_
                first | refine rS 140 ?_ | refine rU 140 ?_ | refine rG 140 (Calm.move rfl) ?_
                first | refine rS 140 ?_ | refine rU 140 ?_ | refine rG 140 (Calm.bin rfl rfl (bin_bool (bin_str_eql _ _) (decide_eq_true (q9)))) ?_
                refine rC ((by first | exact Calm.pickT rfl rfl | exact Calm.pickF rfl rfl)) ?_
                refine rC (Calm.assign rfl) ?_
                refine arun_nil ?_
                refine ain_n ?_
                refine athen_n ?_
                refine AWP.sub [(19, _), (20, _), (21, _), (22, _), (23, _), (133, _), (134, _), (135, _), (136, _), (25, _)] ⟨rfl, rfl, rfl, rfl, rfl, rfl, rfl, rfl, rfl, rfl, trivial⟩ ?_
                refine AWP.region ?_
                refine rC (Calm.bin rfl rfl b_add_i64) ?_
                refine rC (Calm.move rfl) ?_
                refine arun_nil ?_
                refine athen_n ?_
                refine ⟨(j + 1, true), ?_, ?_, ?_, ?_⟩
                all_goals (try dsimp only)
                · exact ⟨rfl, rfl, rfl, rfl, rfl, rfl, rfl, rfl, trivial⟩
                · exact less_
                · exact ⟨hcj, ⟨fun _ => ⟨j, hcj, by omega, q9⟩, fun _ => rfl⟩⟩
                · omega
              · refine AWP.skip ?_
                refine athen_n ?_
                refine AWP.seq ?_
                refine AWP.block ?_
                refine AWP.seq ?_
                refine AWP.region ?_
                refine rC (Calm.indexS Try.underlying26 ty_size_9 rfl rfl (by omega) (by omega)) ?_
                refine rC (ld_ ty_plain_9 rfl) ?_
                refine rC (Calm.assign rfl) ?_
                refine arun_nil ?_
                refine athen_n ?_
                refine AWP.sub [(19, _), (20, _), (21, _), (22, _), (23, _), (133, _), (134, _), (135, _), (136, _), (25, _)] ⟨rfl, rfl, rfl, rfl, rfl, rfl, rfl, rfl, rfl, rfl, trivial⟩ ?_
                refine AWP.region ?_
                refine rC (Calm.move rfl) ?_
                refine rC (Calm.move rfl) ?_
                first | refine rS 140 ?_ | refine rU 140 ?_ | refine rG 140 (Calm.move rfl) ?_
                first | refine rS 140 ?_ | refine rU 140 ?_ | refine rG 140 (Calm.move rfl) ?_
                first | refine rS 140 ?_ | refine rU 140 ?_ | refine rG 140 (Calm.bin rfl rfl (bin_bool (bin_str_eql _ _) (decide_eq_false (q9)))) ?_
                refine rC ((by first | exact Calm.pickT rfl rfl | exact Calm.pickF rfl rfl)) ?_
                refine rC (Calm.assign rfl) ?_
                refine arun_nil ?_
                refine ain_n ?_
                refine athen_n ?_
                refine AWP.sub [(19, _), (20, _), (21, _), (22, _), (23, _), (133, _), (134, _), (135, _), (136, _), (25, _)] ⟨rfl, rfl, rfl, rfl, rfl, rfl, rfl, rfl, rfl, rfl, trivial⟩ ?_
                refine AWP.region ?_
                refine rC (Calm.bin rfl rfl b_add_i64) ?_
                refine rC (Calm.move rfl) ?_
                refine arun_nil ?_
                refine athen_n ?_
                refine ⟨(j + 1, false), ?_, ?_, ?_, ?_⟩
                all_goals (try dsimp only)
                · exact ⟨rfl, rfl, rfl, rfl, rfl, rfl, rfl, rfl, trivial⟩
                · exact less_
                · exact ⟨hcj, ⟨(fun h => by cases h), fun ⟨a, h1, h2, h3⟩ => by rcases Nat.lt_or_ge a j with h4 | h4; exact hfb.2 ⟨a, h1, h4, h3⟩; obtain rfl : a = j := (by omega); exact absurd h3 q9⟩⟩
                · omega
            · refine AWP.skip ?_
              refine athen_n ?_
              refine AWP.seq ?_
              refine AWP.block ?_
              refine AWP.seq ?_
              refine AWP.region ?_
              refine rC (Calm.indexS Try.underlying26 ty_size_9 rfl rfl (by omega) (by omega)) ?_
              refine rC (ld_ ty_plain_9 rfl) ?_
              refine rC (Calm.assign rfl) ?_
              refine arun_nil ?_
              refine athen_n ?_
              refine AWP.sub [(19, _), (20, _), (21, _), (22, _), (23, _), (133, _), (134, _), (135, _), (136, _), (25, _)] ⟨rfl, rfl, rfl, rfl, rfl, rfl, rfl, rfl, rfl, rfl, trivial⟩ ?_
              refine AWP.region ?_
              refine rC (Calm.move rfl) ?_
              refine rC (Calm.move rfl) ?_
              first | refine rS 140 ?_ | refine rU 140 ?_ | refine rG 140 (Calm.move rfl) ?_
              first | refine rS 140 ?_ | refine rU 140 ?_ | refine rG 140 (Calm.move rfl) ?_
              first | refine rS 140 ?_ | refine rU 140 ?_ | refine rG 140 (Calm.bin rfl rfl (bin_str_eql _ _)) ?_
              refine rC ((by first | exact Calm.pickT rfl rfl | exact Calm.pickF rfl rfl)) ?_
              refine rC (Calm.assign rfl) ?_
              refine arun_nil ?_
              refine ain_n ?_
              refine athen_n ?_
              refine AWP.sub [(19, _), (20, _), (21, _), (22, _), (23, _), (133, _), (134, _), (135, _), (136, _), (25, _)] ⟨rfl, rfl, rfl, rfl, rfl, rfl, rfl, rfl, rfl, rfl, trivial⟩ ?_
              refine AWP.region ?_
              refine rC (Calm.bin rfl rfl b_add_i64) ?_
              refine rC (Calm.move rfl) ?_
              refine arun_nil ?_
              refine athen_n ?_
              refine ⟨(j + 1, true), ?_, ?_, ?_, ?_⟩
              all_goals (try dsimp only)
              · exact ⟨rfl, rfl, rfl, rfl, rfl, rfl, rfl, rfl, trivial⟩
              · exact less_
              · exact ⟨hcj, ⟨fun _ => (by obtain ⟨a, h1, h2, h3⟩ := hfb.1 rfl; exact ⟨a, h1, by omega, h3⟩), fun _ => rfl⟩⟩
              · omega
          · have hcj : j = ms.length := by have := of_decide_eq_false hcj; omega
            obtain ⟨a, ha1, ha2⟩ := List.getElem_of_mem hsn
            obtain rfl : fb = true := hfb.2 ⟨a, ha1, by omega, ha2⟩
            refine AWP.exit ?_
            refine athen_exit ?_
            refine athen_exit ?_
            refine ain_same ?_
            refine athen_n ?_
            refine AWP.seq ?_
            refine AWP.region ?_
            refine rC (Calm.move rfl) ?_
            refine rC (Calm.bin rfl rfl b_eql) ?_
            refine rC (Calm.move rfl) ?_
            first | refine rS 148 ?_ | refine rU 148 ?_ | refine rG 148 (Calm.move rfl) ?_
            first | refine rS 148 ?_ | refine rU 148 ?_ | refine rG 148 (Calm.bin rfl rfl b_eql) ?_
            refine rC ((by first | exact Calm.pickT rfl rfl | exact Calm.pickF rfl rfl)) ?_
            refine rC (Calm.move rfl) ?_
            first | refine rS 152 ?_ | refine rU 152 ?_ | refine rG 152 (Calm.move rfl) ?_
            refine rC ((by first | exact Calm.pickT rfl rfl | exact Calm.pickF rfl rfl)) ?_
            refine rC (Calm.move rfl) ?_
            first | refine rS 155 ?_ | refine rU 155 ?_ | refine rG 155 (Calm.fieldAddr ty_field_25_4 rfl) ?_
            first | refine rS 155 ?_ | refine rU 155 ?_ | refine rG 155 (ld_ ty_plain_4 rfl) ?_
            first | refine rS 155 ?_ | refine rU 155 ?_ | refine rG 155 (Calm.un rfl (una_not _)) ?_
            refine rC ((by first | exact Calm.pickT rfl rfl | exact Calm.pickF rfl rfl)) ?_
            refine rC (Calm.move rfl) ?_
            first | refine rS 160 ?_ | refine rU 160 ?_ | refine rG 160 (Calm.fieldAddr ty_field_25_3 rfl) ?_
            first | refine rS 160 ?_ | refine rU 160 ?_ | refine rG 160 (ld_ ty_plain_3 rfl) ?_
            first | refine rS 160 ?_ | refine rU 160 ?_ | refine rG 160 (Calm.bin rfl rfl b_eql) ?_
            refine rC ((by first | exact Calm.pickT rfl rfl | exact Calm.pickF rfl rfl)) ?_
            refine rC (Calm.move rfl) ?_
            first | refine rS 165 ?_ | refine rU 165 ?_ | refine rG 165 (ldA_ (cs := [_, _, _, _, _]) ty_agg_25 ty_size_25 rfl) ?_
            refine ARun.callG 19 true 165 rfl (lit_lt rfl) rfl (lit_lt rfl) go_25 rfl (hck _ _ (hdc.less less_)) ?_
            rintro _ Sx ⟨rfl, h1⟩
            rw [h1]; clear h1 Sx
            first | refine rS 165 ?_ | refine rU 165 ?_ | refine rG 165 (Calm.bin rfl rfl b_eql) ?_
            refine rC ((by first | exact Calm.pickT rfl rfl | exact Calm.pickF rfl rfl)) ?_
            refine rC (Calm.assign rfl) ?_
            refine arun_nil ?_
            refine athen_n ?_
            refine AWP.sub [(19, _), (20, _), (21, _), (22, _), (23, _), (133, _), (134, _), (135, _), (136, _), (10, _)] ⟨rfl, rfl, rfl, rfl, rfl, rfl, rfl, rfl, rfl, rfl, trivial⟩ ?_
            refine AWP.ret ?_
            refine ⟨_, _, ⟨_, _, rfl, rfl, rfl⟩, less_, ?_⟩
            rfl
        · have hq : i ≠ 30 := by have := of_decide_eq_false hq; omega
          have hwr := fun v S h => disk_Write v dd w.1 w.2.1 w.2.2 S h (dz_right hRd hfz)
          have hany := write_any w.1 w.2.2 w.2.1 hRd hfz
          generalize opened dd (writeD dd w.1 w.2.1 w.2.2) = r at *
          obtain ⟨e, er⟩ := r
          simp only at hany hwr
          refine AWP.skip ?_
          refine athen_n ?_
          refine AWP.seq ?_
          refine AWP.region ?_
          refine rC (ldA_ (cs := [_, _, _, _, _]) ty_agg_25 ty_size_25 rfl) ?_
          refine rC (Calm.fieldAddr ty_field_51_0 rfl) ?_
          refine rC (ld_ ty_plain_9 rfl) ?_
          refine rC (Calm.fieldAddr ty_field_51_1 rfl) ?_
          refine rC (ld_ ty_plain_3 rfl) ?_
          refine rC (Calm.fieldAddr ty_field_51_2 rfl) ?_
          refine rC (ld_ ty_plain_9 rfl) ?_
          refine ARun.call (lit_lt rfl) go_29 rfl ((((hwr _ M hdk).frame g1).frame g2).frame f16) ?_
          rintro _ S1 ⟨Sa, ⟨Sb, ⟨M2, ⟨v', rfl, hM2, hde⟩, ga, hSb⟩, gb, hSa⟩, gc, h1⟩
          rw [h1, hSa, hSb]; rw [hSa, hSb] at gc; rw [hSb] at gb; clear h1 S1 hSa Sa hSb Sb
          obtain ⟨gbm, nba⟩ := fresh_set gb
          obtain ⟨gc1, ncb⟩ := fresh_set gc
          obtain ⟨gcm, nca⟩ := fresh_set gc1
          obtain ⟨p2, q2, r2, s2, rfl, hE2, hW2⟩ := id hde
          refine rC (Calm.move rfl) ?_
          refine rC (Calm.extract rfl rfl) ?_
          refine rC (Calm.extract rfl rfl) ?_
          refine ARun.alloc (lit_lt rfl) ty_zero_25 ?_
          intro b17 f17
          have g17 := f17
          repeat ((with_reducible replace g17 := fresh_set g17); obtain ⟨g17, _⟩ := g17)
          (try simp only [List.length_cons, List.length_nil, Nat.zero_add, Nat.reduceAdd])
          first | refine ARun.storeAll rfl rfl ty_size_25 own_ rfl rfl ?_ | refine ARun.store rfl rfl ty_size_25 own_ lens_ rfl ?_
          (try simp only [Mem.set_set, List.set_cons_zero, List.set_cons_succ, Nat.zero_add, Nat.reduceAdd])
          refine rC (Calm.assign rfl) ?_
          refine arun_nil ?_
          refine athen_n ?_
          refine AWP.sub [(1, _), (2, _), (3, _), (4, _), (5, _), (14, _), (48, _), (49, _), (50, _), (51, _), (16, _), (15, _), (56, _), (17, _), (18, _)] ⟨rfl, rfl, rfl, rfl, rfl, rfl, rfl, rfl, rfl, rfl, rfl, rfl, rfl, rfl, rfl, trivial⟩ ?_
          rcases hany with ⟨rfl, hdd, f, hff, he, hRe⟩ | ⟨rfl, hdd, he⟩ | ⟨rfl, hdd, he, hRe⟩ | ⟨hn0, hn10⟩
          · refine AWP.seq ?_
            refine AWP.seq ?_
            refine AWP.region ?_
            refine rC (Calm.move rfl) ?_
            refine rC (Calm.bin rfl rfl b_neq) ?_
            refine rC (Calm.move rfl) ?_
            first | refine rS 70 ?_ | refine rU 70 ?_ | refine rG 70 (Calm.move rfl) ?_
            first | refine rS 70 ?_ | refine rU 70 ?_ | refine rG 70 (Calm.bin rfl rfl b_neq) ?_
            refine rC ((by first | exact Calm.pickT rfl rfl | exact Calm.pickF rfl rfl)) ?_
            refine arun_nil ?_
            refine athen_n ?_
            refine AWP.sub [(1, _), (2, _), (3, _), (4, _), (5, _), (14, _), (48, _), (49, _), (50, _), (51, _), (16, _), (15, _), (56, _), (17, _), (18, _), (73, _)] ⟨rfl, rfl, rfl, rfl, rfl, rfl, rfl, rfl, rfl, rfl, rfl, rfl, rfl, rfl, rfl, rfl, trivial⟩ ?_
            refine AWP.condF rfl (by first | rfl | (simp; done) | (simp; omega)) ?_
            by_cases qa : w.1 = s
            · by_cases qb : w.2.1 = k
              · refine AWP.skip ?_
                refine athen_n ?_
                refine AWP.seq ?_
                refine AWP.seq ?_
                refine AWP.region ?_
                refine rC (Calm.move rfl) ?_
                refine rC (Calm.bin rfl rfl b_eql) ?_
                refine rC (Calm.move rfl) ?_
                first | refine rS 76 ?_ | refine rU 76 ?_ | refine rG 76 (Calm.fieldAddr ty_field_51_0 rfl) ?_
                first | refine rS 76 ?_ | refine rU 76 ?_ | refine rG 76 (ld_ ty_plain_9 rfl) ?_
                first | refine rS 76 ?_ | refine rU 76 ?_ | refine rG 76 (Calm.move rfl) ?_
                first | refine rS 76 ?_ | refine rU 76 ?_ | refine rG 76 (Calm.bin rfl rfl (bin_bool (bin_str_eql _ _) (decide_eq_true (qa)))) ?_
                refine rC ((by first | exact Calm.pickT rfl rfl | exact Calm.pickF rfl rfl)) ?_
                refine rC (Calm.move rfl) ?_
                first | refine rS 82 ?_ | refine rU 82 ?_ | refine rG 82 (Calm.fieldAddr ty_field_51_1 rfl) ?_
                first | refine rS 82 ?_ | refine rU 82 ?_ | refine rG 82 (ld_ ty_plain_3 rfl) ?_
                first | refine rS 82 ?_ | refine rU 82 ?_ | refine rG 82 (Calm.move rfl) ?_
                first | refine rS 82 ?_ | refine rU 82 ?_ | refine rG 82 (Calm.bin rfl rfl (bin_bool b_eql (decide_eq_true (qb)))) ?_
                refine rC ((by first | exact Calm.pickT rfl rfl | exact Calm.pickF rfl rfl)) ?_
                refine rC (Calm.move rfl) ?_
                first | refine rS 88 ?_ | refine rU 88 ?_ | refine rG 88 (Calm.move rfl) ?_
                first | refine rS 88 ?_ | refine rU 88 ?_ | refine rG 88 (Calm.bin rfl rfl b_eql) ?_
                first | refine rS 88 ?_ | refine rU 88 ?_ | refine rG 88 (Calm.move rfl) ?_
                first | refine rS 91 ?_ | refine rU 91 ?_ | refine rG 91 (Calm.fieldAddr ty_field_25_4 rfl) ?_
                first | refine rS 91 ?_ | refine rU 91 ?_ | refine rG 91 (ld_ ty_plain_4 rfl) ?_
                first | refine rS 88 ?_ | refine rU 88 ?_ | refine rG 88 ((by first | exact Calm.pickT rfl rfl | exact Calm.pickF rfl rfl)) ?_
                first | refine rS 88 ?_ | refine rU 88 ?_ | refine rG 88 (Calm.move rfl) ?_
                first | refine rS 95 ?_ | refine rU 95 ?_ | refine rG 95 (Calm.fieldAddr ty_field_25_4 rfl) ?_
                first | refine rS 95 ?_ | refine rU 95 ?_ | refine rG 95 (ld_ ty_plain_4 rfl) ?_
                first | refine rS 95 ?_ | refine rU 95 ?_ | refine rG 95 (Calm.un rfl (una_not _)) ?_
                first | refine rS 88 ?_ | refine rU 88 ?_ | refine rG 88 ((by first | exact Calm.pickT rfl rfl | exact Calm.pickF rfl rfl)) ?_
                first | refine rS 88 ?_ | refine rU 88 ?_ | refine rG 88 (Calm.move rfl) ?_
                first | refine rS 100 ?_ | refine rU 100 ?_ | refine rG 100 (Calm.fieldAddr ty_field_51_0 rfl) ?_
                first | refine rS 100 ?_ | refine rU 100 ?_ | refine rG 100 (ld_ ty_plain_9 rfl) ?_
                first | refine rS 100 ?_ | refine rU 100 ?_ | refine rG 100 (Calm.move rfl) ?_
                first | refine rS 100 ?_ | refine rU 100 ?_ | refine rG 100 (Calm.bin rfl rfl (bin_str_eql _ _)) ?_
                first | refine rS 88 ?_ | refine rU 88 ?_ | refine rG 88 ((by first | exact Calm.pickT rfl rfl | exact Calm.pickF rfl rfl)) ?_
                first | refine rS 88 ?_ | refine rU 88 ?_ | refine rG 88 (Calm.move rfl) ?_
                first | refine rS 106 ?_ | refine rU 106 ?_ | refine rG 106 (Calm.fieldAddr ty_field_51_1 rfl) ?_
                first | refine rS 106 ?_ | refine rU 106 ?_ | refine rG 106 (ld_ ty_plain_3 rfl) ?_
                first | refine rS 106 ?_ | refine rU 106 ?_ | refine rG 106 (Calm.move rfl) ?_
                first | refine rS 106 ?_ | refine rU 106 ?_ | refine rG 106 (Calm.bin rfl rfl b_eql) ?_
                first | refine rS 88 ?_ | refine rU 88 ?_ | refine rG 88 ((by first | exact Calm.pickT rfl rfl | exact Calm.pickF rfl rfl)) ?_
                refine rC ((by first | exact Calm.pickT rfl rfl | exact Calm.pickF rfl rfl)) ?_
                refine arun_nil ?_
                refine athen_n ?_
                refine AWP.sub [(1, _), (2, _), (3, _), (4, _), (5, _), (14, _), (48, _), (49, _), (50, _), (51, _), (16, _), (15, _), (56, _), (17, _), (18, _), (73, _), (112, _)] ⟨rfl, rfl, rfl, rfl, rfl, rfl, rfl, rfl, rfl, rfl, rfl, rfl, rfl, rfl, rfl, rfl, rfl, trivial⟩ ?_
                refine AWP.condT rfl (by first | rfl | (simp; done) | (simp; omega)) ?_
                refine AWP.region ?_
                refine rC (Calm.move rfl) ?_
                refine rC (Calm.fieldAddr ty_field_51_2 rfl) ?_
                refine rC (ld_ ty_plain_9 rfl) ?_
                refine ARun.build1s (lit_lt rfl) ty_sl_26 rfl rfl ?_
                intro b116 f116
                have g116 := f116
                repeat ((with_reducible replace g116 := fresh_set g116); obtain ⟨g116, _⟩ := g116)
                refine ARun.appendOK (n := 1) (o := some (bo, c)) (k := ms.length) (m := 1) (cs := ms.flatMap strs) (news := [.string w.2.2]) (S := ((M2.set b5 ⟨25, [.int .i64 dd.size, .slice pe' dd.ext.length qe', .slice pw' dd.waits.length qw', .int .i64 dd.fuse, .bool dd.down], 5⟩).set b17 ⟨25, [.int .i64 e.size, .slice p2 e.ext.length q2, .slice r2 e.waits.length s2, .int .i64 e.fuse, .bool e.down], 5⟩)) (lit_lt rfl) ty_sl_26 rfl rfl (flat_length str_len ms) (okO_own (fresh_more (fresh_more ga (Ne.symm nba)) (by first | assumption | (apply Ne.symm; assumption))) hcap) ⟨(fun h => by cases h), (fun q c' h => by cases h; exact ⟨(by repeat (first | exact Mem.own_set_same _ _ _ | refine (Mem.own_set_other _ _ (by first | assumption | (apply Ne.symm; assumption))).trans ?_)), less_app ga.1 gcm.1 g116.1 (by first | assumption | (apply Ne.symm; assumption)) (by first | assumption | (apply Ne.symm; assumption)) (by first | assumption | (apply Ne.symm; assumption)) (by first | assumption | (apply Ne.symm; assumption)) (by first | assumption | (apply Ne.symm; assumption)) (by first | assumption | (apply Ne.symm; assumption))⟩)⟩ rfl (src_own (Mem.own_set_same _ _ _) List.prefix_rfl) rfl (strs_one [w.2.2]) (by omega) (by omega) ?_
                intro o2 ho2
                obtain ⟨bo2, c2, rfl⟩ := ho2.some (by omega)
                obtain ⟨hfr2, hc2⟩ := ho2.own bo2 c2 rfl
                obtain ⟨hfr3, n2a⟩ := fresh_set hfr2
                obtain ⟨hfr4, n2b⟩ := fresh_set hfr3
                have n2a' := Ne.symm n2a
                have n2b' := Ne.symm n2b
                show ARun _ _ _ _ _ _ (((M2.set b5 ⟨25, [.int .i64 dd.size, .slice pe' dd.ext.length qe', .slice pw' dd.waits.length qw', .int .i64 dd.fuse, .bool dd.down], 5⟩).set b17 ⟨25, [.int .i64 e.size, .slice p2 e.ext.length q2, .slice r2 e.waits.length s2, .int .i64 e.fuse, .bool e.down], 5⟩).set bo2 ⟨strT, ms.flatMap strs ++ [.string w.2.2], c2 * 1⟩)
                rw [show ms.flatMap strs ++ [.string w.2.2] = (ms ++ [w.2.2]).flatMap strs from by rw [List.flatMap_append]; rfl]
                refine rC (Calm.assign rfl) ?_
                refine arun_nil ?_
                refine athen_n ?_
                refine AWP.sub [(1, _), (2, _), (3, _), (4, _), (5, _), (14, _), (48, _), (49, _), (50, _), (51, _), (16, _), (15, _), (56, _), (17, _), (18, _), (73, _), (112, _)] ⟨rfl, rfl, rfl, rfl, rfl, rfl, rfl, rfl, rfl, rfl, rfl, rfl, rfl, rfl, rfl, rfl, rfl, trivial⟩ ?_
                refine AWP.region ?_
                refine rC (ldA_ (cs := [_, _, _, _, _]) ty_agg_25 ty_size_25 rfl) ?_
                first | refine ARun.storeAll rfl rfl ty_size_25 own_ rfl rfl ?_ | refine ARun.store rfl rfl ty_size_25 own_ lens_ rfl ?_
                (try simp only [Mem.set_set, List.set_cons_zero, List.set_cons_succ, Nat.zero_add, Nat.reduceAdd])
                refine arun_nil ?_
                refine ain_n ?_
                refine athen_n ?_
                refine AWP.sub [(1, _), (2, _), (3, _), (4, _), (5, _), (14, _), (48, _), (49, _), (50, _), (51, _), (16, _), (15, _), (56, _), (17, _), (18, _), (73, _), (112, _)] ⟨rfl, rfl, rfl, rfl, rfl, rfl, rfl, rfl, rfl, rfl, rfl, rfl, rfl, rfl, rfl, rfl, rfl, trivial⟩ ?_
                refine AWP.region ?_
                refine rC (Calm.bin rfl rfl b_add_i64) ?_
                refine rC (Calm.move rfl) ?_
                refine arun_nil ?_
                refine athen_n ?_
                refine ⟨⟨i + 1, e, M2, p2, q2, r2, s2, bo2, c2, (ms ++ [w.2.2])⟩, ?_, ?_, ?_, ?_⟩
                all_goals (try dsimp only)
                · exact ⟨rfl, rfl, rfl, rfl, rfl, some_val (by show Value.slice _ _ _ = _; rw [List.length_append]; rfl), rfl, rfl, rfl, trivial⟩
                · (try simp only [LS.B, LS.Y, boxD]); exact less_
                · exact ⟨hc, by show i + 1 ≤ 30; omega, hRe, (by show e.fuse ≤ _; rw [he]; exact hff), (by show e.ext = d1.ext; rw [he]; exact hext), hSM.trans hM2, hfr4, (fresh_more gbm n2b'), hde, (List.mem_append_left _ hbm), (fun y hy h1 h2 => by rw [he] at hy; rcases List.mem_append.1 hy with hy | hy; exact List.mem_append_left _ (hhit y hy h1 h2); obtain rfl := List.mem_singleton.1 hy; exact List.mem_append_right _ (by simp)), (by show (ms ++ [w.2.2]).length ≤ i + 1 + 1; have h' : ms.length ≤ i + 1 := hml; rw [List.length_append]; simp; omega), (by rw [List.length_append]; exact hc2)⟩
                · (show l.length - (i + 1) < l.length - i; omega)
              · have hno : ¬ (w.1 = s ∧ w.2.1 = k) := fun h => qb h.2
                refine AWP.skip ?_
                refine athen_n ?_
                refine AWP.seq ?_
                refine AWP.seq ?_
                refine AWP.region ?_
                refine rC (Calm.move rfl) ?_
                refine rC (Calm.bin rfl rfl b_eql) ?_
                refine rC (Calm.move rfl) ?_
                first | refine rS 76 ?_ | refine rU 76 ?_ | refine rG 76 (Calm.fieldAddr ty_field_51_0 rfl) ?_
                first | refine rS 76 ?_ | refine rU 76 ?_ | refine rG 76 (ld_ ty_plain_9 rfl) ?_
                first | refine rS 76 ?_ | refine rU 76 ?_ | refine rG 76 (Calm.move rfl) ?_
                first | refine rS 76 ?_ | refine rU 76 ?_ | refine rG 76 (Calm.bin rfl rfl (bin_bool (bin_str_eql _ _) (decide_eq_true (qa)))) ?_
                refine rC ((by first | exact Calm.pickT rfl rfl | exact Calm.pickF rfl rfl)) ?_
                refine rC (Calm.move rfl) ?_
                first | refine rS 82 ?_ | refine rU 82 ?_ | refine rG 82 (Calm.fieldAddr ty_field_51_1 rfl) ?_
                first | refine rS 82 ?_ | refine rU 82 ?_ | refine rG 82 (ld_ ty_plain_3 rfl) ?_
                first | refine rS 82 ?_ | refine rU 82 ?_ | refine rG 82 (Calm.move rfl) ?_
                first | refine rS 82 ?_ | refine rU 82 ?_ | refine rG 82 (Calm.bin rfl rfl (bin_bool b_eql (decide_eq_false qb))) ?_
                refine rC ((by first | exact Calm.pickT rfl rfl | exact Calm.pickF rfl rfl)) ?_
                refine rC (Calm.move rfl) ?_
                first | refine rS 88 ?_ | refine rU 88 ?_ | refine rG 88 (Calm.move rfl) ?_
                first | refine rS 88 ?_ | refine rU 88 ?_ | refine rG 88 (Calm.bin rfl rfl b_eql) ?_
                first | refine rS 88 ?_ | refine rU 88 ?_ | refine rG 88 (Calm.move rfl) ?_
                first | refine rS 91 ?_ | refine rU 91 ?_ | refine rG 91 (Calm.fieldAddr ty_field_25_4 rfl) ?_
                first | refine rS 91 ?_ | refine rU 91 ?_ | refine rG 91 (ld_ ty_plain_4 rfl) ?_
                first | refine rS 88 ?_ | refine rU 88 ?_ | refine rG 88 ((by first | exact Calm.pickT rfl rfl | exact Calm.pickF rfl rfl)) ?_
                first | refine rS 88 ?_ | refine rU 88 ?_ | refine rG 88 (Calm.move rfl) ?_
                first | refine rS 95 ?_ | refine rU 95 ?_ | refine rG 95 (Calm.fieldAddr ty_field_25_4 rfl) ?_
                first | refine rS 95 ?_ | refine rU 95 ?_ | refine rG 95 (ld_ ty_plain_4 rfl) ?_
                first | refine rS 95 ?_ | refine rU 95 ?_ | refine rG 95 (Calm.un rfl (una_not _)) ?_
                first | refine rS 88 ?_ | refine rU 88 ?_ | refine rG 88 ((by first | exact Calm.pickT rfl rfl | exact Calm.pickF rfl rfl)) ?_
                first | refine rS 88 ?_ | refine rU 88 ?_ | refine rG 88 (Calm.move rfl) ?_
                first | refine rS 100 ?_ | refine rU 100 ?_ | refine rG 100 (Calm.fieldAddr ty_field_51_0 rfl) ?_
                first | refine rS 100 ?_ | refine rU 100 ?_ | refine rG 100 (ld_ ty_plain_9 rfl) ?_
                first | refine rS 100 ?_ | refine rU 100 ?_ | refine rG 100 (Calm.move rfl) ?_
                first | refine rS 100 ?_ | refine rU 100 ?_ | refine rG 100 (Calm.bin rfl rfl (bin_str_eql _ _)) ?_
                first | refine rS 88 ?_ | refine rU 88 ?_ | refine rG 88 ((by first | exact Calm.pickT rfl rfl | exact Calm.pickF rfl rfl)) ?_
                first | refine rS 88 ?_ | refine rU 88 ?_ | refine rG 88 (Calm.move rfl) ?_
                first | refine rS 106 ?_ | refine rU 106 ?_ | refine rG 106 (Calm.fieldAddr ty_field_51_1 rfl) ?_
                first | refine rS 106 ?_ | refine rU 106 ?_ | refine rG 106 (ld_ ty_plain_3 rfl) ?_
                first | refine rS 106 ?_ | refine rU 106 ?_ | refine rG 106 (Calm.move rfl) ?_
                first | refine rS 106 ?_ | refine rU 106 ?_ | refine rG 106 (Calm.bin rfl rfl b_eql) ?_
                first | refine rS 88 ?_ | refine rU 88 ?_ | refine rG 88 ((by first | exact Calm.pickT rfl rfl | exact Calm.pickF rfl rfl)) ?_
                refine rC ((by first | exact Calm.pickT rfl rfl | exact Calm.pickF rfl rfl)) ?_
                refine arun_nil ?_
                refine athen_n ?_
                refine AWP.sub [(1, _), (2, _), (3, _), (4, _), (5, _), (14, _), (48, _), (49, _), (50, _), (51, _), (16, _), (15, _), (56, _), (17, _), (18, _), (73, _), (112, _)] ⟨rfl, rfl, rfl, rfl, rfl, rfl, rfl, rfl, rfl, rfl, rfl, rfl, rfl, rfl, rfl, rfl, rfl, trivial⟩ ?_
                refine AWP.condF rfl (by first | rfl | (simp; done) | (simp; omega)) ?_
                refine AWP.skip ?_
                refine athen_n ?_
                refine AWP.region ?_
                refine rC (ldA_ (cs := [_, _, _, _, _]) ty_agg_25 ty_size_25 rfl) ?_
                first | refine ARun.storeAll rfl rfl ty_size_25 own_ rfl rfl ?_ | refine ARun.store rfl rfl ty_size_25 own_ lens_ rfl ?_
                (try simp only [Mem.set_set, List.set_cons_zero, List.set_cons_succ, Nat.zero_add, Nat.reduceAdd])
                refine arun_nil ?_
                refine ain_n ?_
                refine athen_n ?_
                refine AWP.sub [(1, _), (2, _), (3, _), (4, _), (5, _), (14, _), (48, _), (49, _), (50, _), (51, _), (16, _), (15, _), (56, _), (17, _), (18, _), (73, _), (112, _)] ⟨rfl, rfl, rfl, rfl, rfl, rfl, rfl, rfl, rfl, rfl, rfl, rfl, rfl, rfl, rfl, rfl, rfl, trivial⟩ ?_
                refine AWP.region ?_
                refine rC (Calm.bin rfl rfl b_add_i64) ?_
                refine rC (Calm.move rfl) ?_
                refine arun_nil ?_
                refine athen_n ?_
                refine ⟨⟨i + 1, e, M2, p2, q2, r2, s2, bo, c, ms⟩, ?_, ?_, ?_, ?_⟩
                all_goals (try dsimp only)
                · exact ⟨rfl, rfl, rfl, rfl, rfl, rfl, rfl, rfl, rfl, trivial⟩
                · (try simp only [LS.B, LS.Y, boxD]); exact less_
                · exact ⟨hc, by show i + 1 ≤ 30; omega, hRe, (by show e.fuse ≤ _; rw [he]; exact hff), (by show e.ext = d1.ext; rw [he]; exact hext), hSM.trans hM2, ga, gb, hde, hbm, (fun y hy h1 h2 => by rw [he] at hy; rcases List.mem_append.1 hy with hy | hy; exact hhit y hy h1 h2; obtain rfl := List.mem_singleton.1 hy; exact absurd ⟨h1, h2⟩ hno), (by show ms.length ≤ i + 1 + 1; have h' : ms.length ≤ i + 1 := hml; omega), hcap⟩
                · (show l.length - (i + 1) < l.length - i; omega)
            · have hno : ¬ (w.1 = s ∧ w.2.1 = k) := fun h => qa h.1
              refine AWP.skip ?_
              refine athen_n ?_
              refine AWP.seq ?_
              refine AWP.seq ?_
              refine AWP.region ?_
              refine rC (Calm.move rfl) ?_
              refine rC (Calm.bin rfl rfl b_eql) ?_
              refine rC (Calm.move rfl) ?_
              first | refine rS 76 ?_ | refine rU 76 ?_ | refine rG 76 (Calm.fieldAddr ty_field_51_0 rfl) ?_
              first | refine rS 76 ?_ | refine rU 76 ?_ | refine rG 76 (ld_ ty_plain_9 rfl) ?_
              first | refine rS 76 ?_ | refine rU 76 ?_ | refine rG 76 (Calm.move rfl) ?_
              first | refine rS 76 ?_ | refine rU 76 ?_ | refine rG 76 (Calm.bin rfl rfl (bin_bool (bin_str_eql _ _) (decide_eq_false (qa)))) ?_
              refine rC ((by first | exact Calm.pickT rfl rfl | exact Calm.pickF rfl rfl)) ?_
              refine rC (Calm.move rfl) ?_
              first | refine rS 82 ?_ | refine rU 82 ?_ | refine rG 82 (Calm.fieldAddr ty_field_51_1 rfl) ?_
              first | refine rS 82 ?_ | refine rU 82 ?_ | refine rG 82 (ld_ ty_plain_3 rfl) ?_
              first | refine rS 82 ?_ | refine rU 82 ?_ | refine rG 82 (Calm.move rfl) ?_
              first | refine rS 82 ?_ | refine rU 82 ?_ | refine rG 82 (Calm.bin rfl rfl b_eql) ?_
              refine rC ((by first | exact Calm.pickT rfl rfl | exact Calm.pickF rfl rfl)) ?_
              refine rC (Calm.move rfl) ?_
              first | refine rS 88 ?_ | refine rU 88 ?_ | refine rG 88 (Calm.move rfl) ?_
              first | refine rS 88 ?_ | refine rU 88 ?_ | refine rG 88 (Calm.bin rfl rfl b_eql) ?_
              first | refine rS 88 ?_ | refine rU 88 ?_ | refine rG 88 (Calm.move rfl) ?_
              first | refine rS 91 ?_ | refine rU 91 ?_ | refine rG 91 (Calm.fieldAddr ty_field_25_4 rfl) ?_
              first | refine rS 91 ?_ | refine rU 91 ?_ | refine rG 91 (ld_ ty_plain_4 rfl) ?_
              first | refine rS 88 ?_ | refine rU 88 ?_ | refine rG 88 ((by first | exact Calm.pickT rfl rfl | exact Calm.pickF rfl rfl)) ?_
              first | refine rS 88 ?_ | refine rU 88 ?_ | refine rG 88 (Calm.move rfl) ?_
              first | refine rS 95 ?_ | refine rU 95 ?_ | refine rG 95 (Calm.fieldAddr ty_field_25_4 rfl) ?_
              first | refine rS 95 ?_ | refine rU 95 ?_ | refine rG 95 (ld_ ty_plain_4 rfl) ?_
              first | refine rS 95 ?_ | refine rU 95 ?_ | refine rG 95 (Calm.un rfl (una_not _)) ?_
              first | refine rS 88 ?_ | refine rU 88 ?_ | refine rG 88 ((by first | exact Calm.pickT rfl rfl | exact Calm.pickF rfl rfl)) ?_
              first | refine rS 88 ?_ | refine rU 88 ?_ | refine rG 88 (Calm.move rfl) ?_
              first | refine rS 100 ?_ | refine rU 100 ?_ | refine rG 100 (Calm.fieldAddr ty_field_51_0 rfl) ?_
              first | refine rS 100 ?_ | refine rU 100 ?_ | refine rG 100 (ld_ ty_plain_9 rfl) ?_
              first | refine rS 100 ?_ | refine rU 100 ?_ | refine rG 100 (Calm.move rfl) ?_
              first | refine rS 100 ?_ | refine rU 100 ?_ | refine rG 100 (Calm.bin rfl rfl (bin_str_eql _ _)) ?_
              first | refine rS 88 ?_ | refine rU 88 ?_ | refine rG 88 ((by first | exact Calm.pickT rfl rfl | exact Calm.pickF rfl rfl)) ?_
              first | refine rS 88 ?_ | refine rU 88 ?_ | refine rG 88 (Calm.move rfl) ?_
              first | refine rS 106 ?_ | refine rU 106 ?_ | refine rG 106 (Calm.fieldAddr ty_field_51_1 rfl) ?_
              first | refine rS 106 ?_ | refine rU 106 ?_ | refine rG 106 (ld_ ty_plain_3 rfl) ?_
              first | refine rS 106 ?_ | refine rU 106 ?_ | refine rG 106 (Calm.move rfl) ?_
              first | refine rS 106 ?_ | refine rU 106 ?_ | refine rG 106 (Calm.bin rfl rfl b_eql) ?_
              first | refine rS 88 ?_ | refine rU 88 ?_ | refine rG 88 ((by first | exact Calm.pickT rfl rfl | exact Calm.pickF rfl rfl)) ?_
              refine rC ((by first | exact Calm.pickT rfl rfl | exact Calm.pickF rfl rfl)) ?_
              refine arun_nil ?_
              refine athen_n ?_
              refine AWP.sub [(1, _), (2, _), (3, _), (4, _), (5, _), (14, _), (48, _), (49, _), (50, _), (51, _), (16, _), (15, _), (56, _), (17, _), (18, _), (73, _), (112, _)] ⟨rfl, rfl, rfl, rfl, rfl, rfl, rfl, rfl, rfl, rfl, rfl, rfl, rfl, rfl, rfl, rfl, rfl, trivial⟩ ?_
              refine AWP.condF rfl (by first | rfl | (simp; done) | (simp; omega)) ?_
              refine AWP.skip ?_
              refine athen_n ?_
              refine AWP.region ?_
              refine rC (ldA_ (cs := [_, _, _, _, _]) ty_agg_25 ty_size_25 rfl) ?_
              first | refine ARun.storeAll rfl rfl ty_size_25 own_ rfl rfl ?_ | refine ARun.store rfl rfl ty_size_25 own_ lens_ rfl ?_
              (try simp only [Mem.set_set, List.set_cons_zero, List.set_cons_succ, Nat.zero_add, Nat.reduceAdd])
              refine arun_nil ?_
              refine ain_n ?_
              refine athen_n ?_
              refine AWP.sub [(1, _), (2, _), (3, _), (4, _), (5, _), (14, _), (48, _), (49, _), (50, _), (51, _), (16, _), (15, _), (56, _), (17, _), (18, _), (73, _), (112, _)] ⟨rfl, rfl, rfl, rfl, rfl, rfl, rfl, rfl, rfl, rfl, rfl, rfl, rfl, rfl, rfl, rfl, rfl, trivial⟩ ?_
              refine AWP.region ?_
              refine rC (Calm.bin rfl rfl b_add_i64) ?_
              refine rC (Calm.move rfl) ?_
              refine arun_nil ?_
              refine athen_n ?_
              refine ⟨⟨i + 1, e, M2, p2, q2, r2, s2, bo, c, ms⟩, ?_, ?_, ?_, ?_⟩
              all_goals (try dsimp only)
              · exact ⟨rfl, rfl, rfl, rfl, rfl, rfl, rfl, rfl, rfl, trivial⟩
              · (try simp only [LS.B, LS.Y, boxD]); exact less_
              · exact ⟨hc, by show i + 1 ≤ 30; omega, hRe, (by show e.fuse ≤ _; rw [he]; exact hff), (by show e.ext = d1.ext; rw [he]; exact hext), hSM.trans hM2, ga, gb, hde, hbm, (fun y hy h1 h2 => by rw [he] at hy; rcases List.mem_append.1 hy with hy | hy; exact hhit y hy h1 h2; obtain rfl := List.mem_singleton.1 hy; exact absurd ⟨h1, h2⟩ hno), (by show ms.length ≤ i + 1 + 1; have h' : ms.length ≤ i + 1 := hml; omega), hcap⟩
              · (show l.length - (i + 1) < l.length - i; omega)
          · have hed : e.down = true := by rw [he]; exact hdd
            refine AWP.seq ?_
            refine AWP.seq ?_
            refine AWP.region ?_
            refine rC (Calm.move rfl) ?_
            refine rC (Calm.bin rfl rfl b_neq) ?_
            refine rC (Calm.move rfl) ?_
            first | refine rS 70 ?_ | refine rU 70 ?_ | refine rG 70 (Calm.move rfl) ?_
            first | refine rS 70 ?_ | refine rU 70 ?_ | refine rG 70 (Calm.bin rfl rfl b_neq) ?_
            refine rC ((by first | exact Calm.pickT rfl rfl | exact Calm.pickF rfl rfl)) ?_
            refine arun_nil ?_
            refine athen_n ?_
            refine AWP.sub [(1, _), (2, _), (3, _), (4, _), (5, _), (14, _), (48, _), (49, _), (50, _), (51, _), (16, _), (15, _), (56, _), (17, _), (18, _), (73, _)] ⟨rfl, rfl, rfl, rfl, rfl, rfl, rfl, rfl, rfl, rfl, rfl, rfl, rfl, rfl, rfl, rfl, trivial⟩ ?_
            refine AWP.condF rfl (by first | rfl | (simp; done) | (simp; omega)) ?_
            refine AWP.skip ?_
            refine athen_n ?_
            refine AWP.seq ?_
            refine AWP.seq ?_
            refine AWP.region ?_
            refine rC (Calm.move rfl) ?_
            refine rC (Calm.bin rfl rfl b_eql) ?_
            refine rC (Calm.move rfl) ?_
            first | refine rS 76 ?_ | refine rU 76 ?_ | refine rG 76 (Calm.fieldAddr ty_field_51_0 rfl) ?_
            first | refine rS 76 ?_ | refine rU 76 ?_ | refine rG 76 (ld_ ty_plain_9 rfl) ?_
            first | refine rS 76 ?_ | refine rU 76 ?_ | refine rG 76 (Calm.move rfl) ?_
            first | refine rS 76 ?_ | refine rU 76 ?_ | refine rG 76 (Calm.bin rfl rfl (bin_str_eql _ _)) ?_
            refine rC ((by first | exact Calm.pickT rfl rfl | exact Calm.pickF rfl rfl)) ?_
            refine rC (Calm.move rfl) ?_
            first | refine rS 82 ?_ | refine rU 82 ?_ | refine rG 82 (Calm.fieldAddr ty_field_51_1 rfl) ?_
            first | refine rS 82 ?_ | refine rU 82 ?_ | refine rG 82 (ld_ ty_plain_3 rfl) ?_
            first | refine rS 82 ?_ | refine rU 82 ?_ | refine rG 82 (Calm.move rfl) ?_
            first | refine rS 82 ?_ | refine rU 82 ?_ | refine rG 82 (Calm.bin rfl rfl b_eql) ?_
            refine rC ((by first | exact Calm.pickT rfl rfl | exact Calm.pickF rfl rfl)) ?_
            refine rC (Calm.move rfl) ?_
            first | refine rS 88 ?_ | refine rU 88 ?_ | refine rG 88 (Calm.move rfl) ?_
            first | refine rS 88 ?_ | refine rU 88 ?_ | refine rG 88 (Calm.bin rfl rfl b_eql) ?_
            first | refine rS 88 ?_ | refine rU 88 ?_ | refine rG 88 (Calm.move rfl) ?_
            first | refine rS 91 ?_ | refine rU 91 ?_ | refine rG 91 (Calm.fieldAddr ty_field_25_4 rfl) ?_
            first | refine rS 91 ?_ | refine rU 91 ?_ | refine rG 91 (Calm.as (congrArg Value.bool hed) (ld_ ty_plain_4 rfl)) ?_
            first | refine rS 88 ?_ | refine rU 88 ?_ | refine rG 88 ((by first | exact Calm.pickT rfl rfl | exact Calm.pickF rfl rfl)) ?_
            first | refine rS 88 ?_ | refine rU 88 ?_ | refine rG 88 (Calm.move rfl) ?_
            first | refine rS 95 ?_ | refine rU 95 ?_ | refine rG 95 (Calm.fieldAddr ty_field_25_4 rfl) ?_
            first | refine rS 95 ?_ | refine rU 95 ?_ | refine rG 95 (Calm.as (congrArg Value.bool hdd) (ld_ ty_plain_4 rfl)) ?_
            first | refine rS 95 ?_ | refine rU 95 ?_ | refine rG 95 (Calm.un rfl (una_not _)) ?_
            first | refine rS 88 ?_ | refine rU 88 ?_ | refine rG 88 ((by first | exact Calm.pickT rfl rfl | exact Calm.pickF rfl rfl)) ?_
            first | refine rS 88 ?_ | refine rU 88 ?_ | refine rG 88 (Calm.move rfl) ?_
            first | refine rS 100 ?_ | refine rU 100 ?_ | refine rG 100 (Calm.fieldAddr ty_field_51_0 rfl) ?_
            first | refine rS 100 ?_ | refine rU 100 ?_ | refine rG 100 (ld_ ty_plain_9 rfl) ?_
            first | refine rS 100 ?_ | refine rU 100 ?_ | refine rG 100 (Calm.move rfl) ?_
            first | refine rS 100 ?_ | refine rU 100 ?_ | refine rG 100 (Calm.bin rfl rfl (bin_str_eql _ _)) ?_
            first | refine rS 88 ?_ | refine rU 88 ?_ | refine rG 88 ((by first | exact Calm.pickT rfl rfl | exact Calm.pickF rfl rfl)) ?_
            first | refine rS 88 ?_ | refine rU 88 ?_ | refine rG 88 (Calm.move rfl) ?_
            first | refine rS 106 ?_ | refine rU 106 ?_ | refine rG 106 (Calm.fieldAddr ty_field_51_1 rfl) ?_
            first | refine rS 106 ?_ | refine rU 106 ?_ | refine rG 106 (ld_ ty_plain_3 rfl) ?_
            first | refine rS 106 ?_ | refine rU 106 ?_ | refine rG 106 (Calm.move rfl) ?_
            first | refine rS 106 ?_ | refine rU 106 ?_ | refine rG 106 (Calm.bin rfl rfl b_eql) ?_
            first | refine rS 88 ?_ | refine rU 88 ?_ | refine rG 88 ((by first | exact Calm.pickT rfl rfl | exact Calm.pickF rfl rfl)) ?_
            refine rC ((by first | exact Calm.pickT rfl rfl | exact Calm.pickF rfl rfl)) ?_
            refine arun_nil ?_
            refine athen_n ?_
            refine AWP.sub [(1, _), (2, _), (3, _), (4, _), (5, _), (14, _), (48, _), (49, _), (50, _), (51, _), (16, _), (15, _), (56, _), (17, _), (18, _), (73, _), (112, _)] ⟨rfl, rfl, rfl, rfl, rfl, rfl, rfl, rfl, rfl, rfl, rfl, rfl, rfl, rfl, rfl, rfl, rfl, trivial⟩ ?_
            refine AWP.condF rfl (by first | rfl | (simp; done) | (simp; omega)) ?_
            refine AWP.skip ?_
            refine athen_n ?_
            refine AWP.region ?_
            refine rC (ldA_ (cs := [_, _, _, _, _]) ty_agg_25 ty_size_25 rfl) ?_
            first | refine ARun.storeAll rfl rfl ty_size_25 own_ rfl rfl ?_ | refine ARun.store rfl rfl ty_size_25 own_ lens_ rfl ?_
            (try simp only [Mem.set_set, List.set_cons_zero, List.set_cons_succ, Nat.zero_add, Nat.reduceAdd])
            refine arun_nil ?_
            refine ain_n ?_
            refine athen_n ?_
            refine AWP.sub [(1, _), (2, _), (3, _), (4, _), (5, _), (14, _), (48, _), (49, _), (50, _), (51, _), (16, _), (15, _), (56, _), (17, _), (18, _), (73, _), (112, _)] ⟨rfl, rfl, rfl, rfl, rfl, rfl, rfl, rfl, rfl, rfl, rfl, rfl, rfl, rfl, rfl, rfl, rfl, trivial⟩ ?_
            refine AWP.region ?_
            refine rC (Calm.bin rfl rfl b_add_i64) ?_
            refine rC (Calm.move rfl) ?_
            refine arun_nil ?_
            refine athen_n ?_
            refine ⟨⟨i + 1, e, M2, p2, q2, r2, s2, bo, c, ms⟩, ?_, ?_, ?_, ?_⟩
            all_goals (try dsimp only)
            · exact ⟨rfl, rfl, rfl, rfl, rfl, rfl, rfl, rfl, rfl, trivial⟩
            · (try simp only [LS.B, LS.Y, boxD]); exact less_
            · exact ⟨hc, by show i + 1 ≤ 30; omega, (by rw [he]; exact hRd), (by show e.fuse ≤ _; rw [he]; exact hfz), (by show e.ext = d1.ext; rw [he]; exact hext), hSM.trans hM2, ga, gb, hde, hbm, (fun y hy h1 h2 => by rw [he] at hy; exact hhit y hy h1 h2), (by show ms.length ≤ i + 1 + 1; have h' : ms.length ≤ i + 1 := hml; omega), hcap⟩
            · (show l.length - (i + 1) < l.length - i; omega)
          · have hed : e.down = true := by rw [he]
            refine AWP.seq ?_
            refine AWP.seq ?_
            refine AWP.region ?_
            refine rC (Calm.move rfl) ?_
            refine rC (Calm.bin rfl rfl b_neq) ?_
            refine rC (Calm.move rfl) ?_
            first | refine rS 70 ?_ | refine rU 70 ?_ | refine rG 70 (Calm.move rfl) ?_
            first | refine rS 70 ?_ | refine rU 70 ?_ | refine rG 70 (Calm.bin rfl rfl b_neq) ?_
            refine rC ((by first | exact Calm.pickT rfl rfl | exact Calm.pickF rfl rfl)) ?_
            refine arun_nil ?_
            refine athen_n ?_
            refine AWP.sub [(1, _), (2, _), (3, _), (4, _), (5, _), (14, _), (48, _), (49, _), (50, _), (51, _), (16, _), (15, _), (56, _), (17, _), (18, _), (73, _)] ⟨rfl, rfl, rfl, rfl, rfl, rfl, rfl, rfl, rfl, rfl, rfl, rfl, rfl, rfl, rfl, rfl, trivial⟩ ?_
            refine AWP.condF rfl (by first | rfl | (simp; done) | (simp; omega)) ?_
            by_cases qa : w.1 = s
            · by_cases qb : w.2.1 = k
              · refine AWP.skip ?_
                refine athen_n ?_
                refine AWP.seq ?_
                refine AWP.seq ?_
                refine AWP.region ?_
                refine rC (Calm.move rfl) ?_
                refine rC (Calm.bin rfl rfl b_eql) ?_
                refine rC (Calm.move rfl) ?_
                first | refine rS 76 ?_ | refine rU 76 ?_ | refine rG 76 (Calm.fieldAddr ty_field_51_0 rfl) ?_
                first | refine rS 76 ?_ | refine rU 76 ?_ | refine rG 76 (ld_ ty_plain_9 rfl) ?_
                first | refine rS 76 ?_ | refine rU 76 ?_ | refine rG 76 (Calm.move rfl) ?_
                first | refine rS 76 ?_ | refine rU 76 ?_ | refine rG 76 (Calm.bin rfl rfl (bin_str_eql _ _)) ?_
                refine rC ((by first | exact Calm.pickT rfl rfl | exact Calm.pickF rfl rfl)) ?_
                refine rC (Calm.move rfl) ?_
                first | refine rS 82 ?_ | refine rU 82 ?_ | refine rG 82 (Calm.fieldAddr ty_field_51_1 rfl) ?_
                first | refine rS 82 ?_ | refine rU 82 ?_ | refine rG 82 (ld_ ty_plain_3 rfl) ?_
                first | refine rS 82 ?_ | refine rU 82 ?_ | refine rG 82 (Calm.move rfl) ?_
                first | refine rS 82 ?_ | refine rU 82 ?_ | refine rG 82 (Calm.bin rfl rfl b_eql) ?_
                refine rC ((by first | exact Calm.pickT rfl rfl | exact Calm.pickF rfl rfl)) ?_
                refine rC (Calm.move rfl) ?_
                first | refine rS 88 ?_ | refine rU 88 ?_ | refine rG 88 (Calm.move rfl) ?_
                first | refine rS 88 ?_ | refine rU 88 ?_ | refine rG 88 (Calm.bin rfl rfl b_eql) ?_
                first | refine rS 88 ?_ | refine rU 88 ?_ | refine rG 88 (Calm.move rfl) ?_
                first | refine rS 91 ?_ | refine rU 91 ?_ | refine rG 91 (Calm.fieldAddr ty_field_25_4 rfl) ?_
                first | refine rS 91 ?_ | refine rU 91 ?_ | refine rG 91 (Calm.as (congrArg Value.bool hed) (ld_ ty_plain_4 rfl)) ?_
                first | refine rS 88 ?_ | refine rU 88 ?_ | refine rG 88 ((by first | exact Calm.pickT rfl rfl | exact Calm.pickF rfl rfl)) ?_
                first | refine rS 88 ?_ | refine rU 88 ?_ | refine rG 88 (Calm.move rfl) ?_
                first | refine rS 95 ?_ | refine rU 95 ?_ | refine rG 95 (Calm.fieldAddr ty_field_25_4 rfl) ?_
                first | refine rS 95 ?_ | refine rU 95 ?_ | refine rG 95 (Calm.as (congrArg Value.bool hdd) (ld_ ty_plain_4 rfl)) ?_
                first | refine rS 95 ?_ | refine rU 95 ?_ | refine rG 95 (Calm.un rfl (una_not _)) ?_
                first | refine rS 88 ?_ | refine rU 88 ?_ | refine rG 88 ((by first | exact Calm.pickT rfl rfl | exact Calm.pickF rfl rfl)) ?_
                first | refine rS 88 ?_ | refine rU 88 ?_ | refine rG 88 (Calm.move rfl) ?_
                first | refine rS 100 ?_ | refine rU 100 ?_ | refine rG 100 (Calm.fieldAddr ty_field_51_0 rfl) ?_
                first | refine rS 100 ?_ | refine rU 100 ?_ | refine rG 100 (ld_ ty_plain_9 rfl) ?_
                first | refine rS 100 ?_ | refine rU 100 ?_ | refine rG 100 (Calm.move rfl) ?_
                first | refine rS 100 ?_ | refine rU 100 ?_ | refine rG 100 (Calm.bin rfl rfl (bin_bool (bin_str_eql _ _) (decide_eq_true (qa)))) ?_
                first | refine rS 88 ?_ | refine rU 88 ?_ | refine rG 88 ((by first | exact Calm.pickT rfl rfl | exact Calm.pickF rfl rfl)) ?_
                first | refine rS 88 ?_ | refine rU 88 ?_ | refine rG 88 (Calm.move rfl) ?_
                first | refine rS 106 ?_ | refine rU 106 ?_ | refine rG 106 (Calm.fieldAddr ty_field_51_1 rfl) ?_
                first | refine rS 106 ?_ | refine rU 106 ?_ | refine rG 106 (ld_ ty_plain_3 rfl) ?_
                first | refine rS 106 ?_ | refine rU 106 ?_ | refine rG 106 (Calm.move rfl) ?_
                first | refine rS 106 ?_ | refine rU 106 ?_ | refine rG 106 (Calm.bin rfl rfl (bin_bool b_eql (decide_eq_true (qb)))) ?_
                first | refine rS 88 ?_ | refine rU 88 ?_ | refine rG 88 ((by first | exact Calm.pickT rfl rfl | exact Calm.pickF rfl rfl)) ?_
                refine rC ((by first | exact Calm.pickT rfl rfl | exact Calm.pickF rfl rfl)) ?_
                refine arun_nil ?_
                refine athen_n ?_
                refine AWP.sub [(1, _), (2, _), (3, _), (4, _), (5, _), (14, _), (48, _), (49, _), (50, _), (51, _), (16, _), (15, _), (56, _), (17, _), (18, _), (73, _), (112, _)] ⟨rfl, rfl, rfl, rfl, rfl, rfl, rfl, rfl, rfl, rfl, rfl, rfl, rfl, rfl, rfl, rfl, rfl, trivial⟩ ?_
                refine AWP.condT rfl (by first | rfl | (simp; done) | (simp; omega)) ?_
                refine AWP.region ?_
                refine rC (Calm.move rfl) ?_
                refine rC (Calm.fieldAddr ty_field_51_2 rfl) ?_
                refine rC (ld_ ty_plain_9 rfl) ?_
                refine ARun.build1s (lit_lt rfl) ty_sl_26 rfl rfl ?_
                intro b116 f116
                have g116 := f116
                repeat ((with_reducible replace g116 := fresh_set g116); obtain ⟨g116, _⟩ := g116)
                refine ARun.appendOK (n := 1) (o := some (bo, c)) (k := ms.length) (m := 1) (cs := ms.flatMap strs) (news := [.string w.2.2]) (S := ((M2.set b5 ⟨25, [.int .i64 dd.size, .slice pe' dd.ext.length qe', .slice pw' dd.waits.length qw', .int .i64 dd.fuse, .bool dd.down], 5⟩).set b17 ⟨25, [.int .i64 e.size, .slice p2 e.ext.length q2, .slice r2 e.waits.length s2, .int .i64 e.fuse, .bool e.down], 5⟩)) (lit_lt rfl) ty_sl_26 rfl rfl (flat_length str_len ms) (okO_own (fresh_more (fresh_more ga (Ne.symm nba)) (by first | assumption | (apply Ne.symm; assumption))) hcap) ⟨(fun h => by cases h), (fun q c' h => by cases h; exact ⟨(by repeat (first | exact Mem.own_set_same _ _ _ | refine (Mem.own_set_other _ _ (by first | assumption | (apply Ne.symm; assumption))).trans ?_)), less_app ga.1 gcm.1 g116.1 (by first | assumption | (apply Ne.symm; assumption)) (by first | assumption | (apply Ne.symm; assumption)) (by first | assumption | (apply Ne.symm; assumption)) (by first | assumption | (apply Ne.symm; assumption)) (by first | assumption | (apply Ne.symm; assumption)) (by first | assumption | (apply Ne.symm; assumption))⟩)⟩ rfl (src_own (Mem.own_set_same _ _ _) List.prefix_rfl) rfl (strs_one [w.2.2]) (by omega) (by omega) ?_
                intro o2 ho2
                obtain ⟨bo2, c2, rfl⟩ := ho2.some (by omega)
                obtain ⟨hfr2, hc2⟩ := ho2.own bo2 c2 rfl
                obtain ⟨hfr3, n2a⟩ := fresh_set hfr2
                obtain ⟨hfr4, n2b⟩ := fresh_set hfr3
                have n2a' := Ne.symm n2a
                have n2b' := Ne.symm n2b
                show ARun _ _ _ _ _ _ (((M2.set b5 ⟨25, [.int .i64 dd.size, .slice pe' dd.ext.length qe', .slice pw' dd.waits.length qw', .int .i64 dd.fuse, .bool dd.down], 5⟩).set b17 ⟨25, [.int .i64 e.size, .slice p2 e.ext.length q2, .slice r2 e.waits.length s2, .int .i64 e.fuse, .bool e.down], 5⟩).set bo2 ⟨strT, ms.flatMap strs ++ [.string w.2.2], c2 * 1⟩)
                rw [show ms.flatMap strs ++ [.string w.2.2] = (ms ++ [w.2.2]).flatMap strs from by rw [List.flatMap_append]; rfl]
                refine rC (Calm.assign rfl) ?_
                refine arun_nil ?_
                refine athen_n ?_
                refine AWP.sub [(1, _), (2, _), (3, _), (4, _), (5, _), (14, _), (48, _), (49, _), (50, _), (51, _), (16, _), (15, _), (56, _), (17, _), (18, _), (73, _), (112, _)] ⟨rfl, rfl, rfl, rfl, rfl, rfl, rfl, rfl, rfl, rfl, rfl, rfl, rfl, rfl, rfl, rfl, rfl, trivial⟩ ?_
                refine AWP.region ?_
                refine rC (ldA_ (cs := [_, _, _, _, _]) ty_agg_25 ty_size_25 rfl) ?_
                first | refine ARun.storeAll rfl rfl ty_size_25 own_ rfl rfl ?_ | refine ARun.store rfl rfl ty_size_25 own_ lens_ rfl ?_
                (try simp only [Mem.set_set, List.set_cons_zero, List.set_cons_succ, Nat.zero_add, Nat.reduceAdd])
                refine arun_nil ?_
                refine ain_n ?_
                refine athen_n ?_
                refine AWP.sub [(1, _), (2, _), (3, _), (4, _), (5, _), (14, _), (48, _), (49, _), (50, _), (51, _), (16, _), (15, _), (56, _), (17, _), (18, _), (73, _), (112, _)] ⟨rfl, rfl, rfl, rfl, rfl, rfl, rfl, rfl, rfl, rfl, rfl, rfl, rfl, rfl, rfl, rfl, rfl, trivial⟩ ?_
                refine AWP.region ?_
                refine rC (Calm.bin rfl rfl b_add_i64) ?_
                refine rC (Calm.move rfl) ?_
                refine arun_nil ?_
                refine athen_n ?_
                refine ⟨⟨i + 1, e, M2, p2, q2, r2, s2, bo2, c2, (ms ++ [w.2.2])⟩, ?_, ?_, ?_, ?_⟩
                all_goals (try dsimp only)
                · exact ⟨rfl, rfl, rfl, rfl, rfl, some_val (by show Value.slice _ _ _ = _; rw [List.length_append]; rfl), rfl, rfl, rfl, trivial⟩
                · (try simp only [LS.B, LS.Y, boxD]); exact less_
                · exact ⟨hc, by show i + 1 ≤ 30; omega, hRe, (by show e.fuse ≤ _; rw [he]; exact hfz), (by show e.ext = d1.ext; rw [he]; exact hext), hSM.trans hM2, hfr4, (fresh_more gbm n2b'), hde, (List.mem_append_left _ hbm), (fun y hy h1 h2 => by rw [he] at hy; rcases List.mem_append.1 hy with hy | hy; exact List.mem_append_left _ (hhit y hy h1 h2); obtain rfl := List.mem_singleton.1 hy; exact List.mem_append_right _ (by simp)), (by show (ms ++ [w.2.2]).length ≤ i + 1 + 1; have h' : ms.length ≤ i + 1 := hml; rw [List.length_append]; simp; omega), (by rw [List.length_append]; exact hc2)⟩
                · (show l.length - (i + 1) < l.length - i; omega)
              · have hno : ¬ (w.1 = s ∧ w.2.1 = k) := fun h => qb h.2
                refine AWP.skip ?_
                refine athen_n ?_
                refine AWP.seq ?_
                refine AWP.seq ?_
                refine AWP.region ?_
                refine rC (Calm.move rfl) ?_
                refine rC (Calm.bin rfl rfl b_eql) ?_
                refine rC (Calm.move rfl) ?_
                first | refine rS 76 ?_ | refine rU 76 ?_ | refine rG 76 (Calm.fieldAddr ty_field_51_0 rfl) ?_
                first | refine rS 76 ?_ | refine rU 76 ?_ | refine rG 76 (ld_ ty_plain_9 rfl) ?_
                first | refine rS 76 ?_ | refine rU 76 ?_ | refine rG 76 (Calm.move rfl) ?_
                first | refine rS 76 ?_ | refine rU 76 ?_ | refine rG 76 (Calm.bin rfl rfl (bin_str_eql _ _)) ?_
                refine rC ((by first | exact Calm.pickT rfl rfl | exact Calm.pickF rfl rfl)) ?_
                refine rC (Calm.move rfl) ?_
                first | refine rS 82 ?_ | refine rU 82 ?_ | refine rG 82 (Calm.fieldAddr ty_field_51_1 rfl) ?_
                first | refine rS 82 ?_ | refine rU 82 ?_ | refine rG 82 (ld_ ty_plain_3 rfl) ?_
                first | refine rS 82 ?_ | refine rU 82 ?_ | refine rG 82 (Calm.move rfl) ?_
                first | refine rS 82 ?_ | refine rU 82 ?_ | refine rG 82 (Calm.bin rfl rfl b_eql) ?_
                refine rC ((by first | exact Calm.pickT rfl rfl | exact Calm.pickF rfl rfl)) ?_
                refine rC (Calm.move rfl) ?_
                first | refine rS 88 ?_ | refine rU 88 ?_ | refine rG 88 (Calm.move rfl) ?_
                first | refine rS 88 ?_ | refine rU 88 ?_ | refine rG 88 (Calm.bin rfl rfl b_eql) ?_
                first | refine rS 88 ?_ | refine rU 88 ?_ | refine rG 88 (Calm.move rfl) ?_
                first | refine rS 91 ?_ | refine rU 91 ?_ | refine rG 91 (Calm.fieldAddr ty_field_25_4 rfl) ?_
                first | refine rS 91 ?_ | refine rU 91 ?_ | refine rG 91 (Calm.as (congrArg Value.bool hed) (ld_ ty_plain_4 rfl)) ?_
                first | refine rS 88 ?_ | refine rU 88 ?_ | refine rG 88 ((by first | exact Calm.pickT rfl rfl | exact Calm.pickF rfl rfl)) ?_
                first | refine rS 88 ?_ | refine rU 88 ?_ | refine rG 88 (Calm.move rfl) ?_
                first | refine rS 95 ?_ | refine rU 95 ?_ | refine rG 95 (Calm.fieldAddr ty_field_25_4 rfl) ?_
                first | refine rS 95 ?_ | refine rU 95 ?_ | refine rG 95 (Calm.as (congrArg Value.bool hdd) (ld_ ty_plain_4 rfl)) ?_
                first | refine rS 95 ?_ | refine rU 95 ?_ | refine rG 95 (Calm.un rfl (una_not _)) ?_
                first | refine rS 88 ?_ | refine rU 88 ?_ | refine rG 88 ((by first | exact Calm.pickT rfl rfl | exact Calm.pickF rfl rfl)) ?_
                first | refine rS 88 ?_ | refine rU 88 ?_ | refine rG 88 (Calm.move rfl) ?_
                first | refine rS 100 ?_ | refine rU 100 ?_ | refine rG 100 (Calm.fieldAddr ty_field_51_0 rfl) ?_
                first | refine rS 100 ?_ | refine rU 100 ?_ | refine rG 100 (ld_ ty_plain_9 rfl) ?_
                first | refine rS 100 ?_ | refine rU 100 ?_ | refine rG 100 (Calm.move rfl) ?_
                first | refine rS 100 ?_ | refine rU 100 ?_ | refine rG 100 (Calm.bin rfl rfl (bin_bool (bin_str_eql _ _) (decide_eq_true (qa)))) ?_
                first | refine rS 88 ?_ | refine rU 88 ?_ | refine rG 88 ((by first | exact Calm.pickT rfl rfl | exact Calm.pickF rfl rfl)) ?_
                first | refine rS 88 ?_ | refine rU 88 ?_ | refine rG 88 (Calm.move rfl) ?_
                first | refine rS 106 ?_ | refine rU 106 ?_ | refine rG 106 (Calm.fieldAddr ty_field_51_1 rfl) ?_
                first | refine rS 106 ?_ | refine rU 106 ?_ | refine rG 106 (ld_ ty_plain_3 rfl) ?_
                first | refine rS 106 ?_ | refine rU 106 ?_ | refine rG 106 (Calm.move rfl) ?_
                first | refine rS 106 ?_ | refine rU 106 ?_ | refine rG 106 (Calm.bin rfl rfl (bin_bool b_eql (decide_eq_false qb))) ?_
                first | refine rS 88 ?_ | refine rU 88 ?_ | refine rG 88 ((by first | exact Calm.pickT rfl rfl | exact Calm.pickF rfl rfl)) ?_
                refine rC ((by first | exact Calm.pickT rfl rfl | exact Calm.pickF rfl rfl)) ?_
                refine arun_nil ?_
                refine athen_n ?_
                refine AWP.sub [(1, _), (2, _), (3, _), (4, _), (5, _), (14, _), (48, _), (49, _), (50, _), (51, _), (16, _), (15, _), (56, _), (17, _), (18, _), (73, _), (112, _)] ⟨rfl, rfl, rfl, rfl, rfl, rfl, rfl, rfl, rfl, rfl, rfl, rfl, rfl, rfl, rfl, rfl, rfl, trivial⟩ ?_
                refine AWP.condF rfl (by first | rfl | (simp; done) | (simp; omega)) ?_
                refine AWP.skip ?_
                refine athen_n ?_
                refine AWP.region ?_
                refine rC (ldA_ (cs := [_, _, _, _, _]) ty_agg_25 ty_size_25 rfl) ?_
                first | refine ARun.storeAll rfl rfl ty_size_25 own_ rfl rfl ?_ | refine ARun.store rfl rfl ty_size_25 own_ lens_ rfl ?_
                (try simp only [Mem.set_set, List.set_cons_zero, List.set_cons_succ, Nat.zero_add, Nat.reduceAdd])
                refine arun_nil ?_
                refine ain_n ?_
                refine athen_n ?_
                refine AWP.sub [(1, _), (2, _), (3, _), (4, _), (5, _), (14, _), (48, _), (49, _), (50, _), (51, _), (16, _), (15, _), (56, _), (17, _), (18, _), (73, _), (112, _)] ⟨rfl, rfl, rfl, rfl, rfl, rfl, rfl, rfl, rfl, rfl, rfl, rfl, rfl, rfl, rfl, rfl, rfl, trivial⟩ ?_
                refine AWP.region ?_
                refine rC (Calm.bin rfl rfl b_add_i64) ?_
                refine rC (Calm.move rfl) ?_
                refine arun_nil ?_
                refine athen_n ?_
                refine ⟨⟨i + 1, e, M2, p2, q2, r2, s2, bo, c, ms⟩, ?_, ?_, ?_, ?_⟩
                all_goals (try dsimp only)
                · exact ⟨rfl, rfl, rfl, rfl, rfl, rfl, rfl, rfl, rfl, trivial⟩
                · (try simp only [LS.B, LS.Y, boxD]); exact less_
                · exact ⟨hc, by show i + 1 ≤ 30; omega, hRe, (by show e.fuse ≤ _; rw [he]; exact hfz), (by show e.ext = d1.ext; rw [he]; exact hext), hSM.trans hM2, ga, gb, hde, hbm, (fun y hy h1 h2 => by rw [he] at hy; rcases List.mem_append.1 hy with hy | hy; exact hhit y hy h1 h2; obtain rfl := List.mem_singleton.1 hy; exact absurd ⟨h1, h2⟩ hno), (by show ms.length ≤ i + 1 + 1; have h' : ms.length ≤ i + 1 := hml; omega), hcap⟩
                · (show l.length - (i + 1) < l.length - i; omega)
            · have hno : ¬ (w.1 = s ∧ w.2.1 = k) := fun h => qa h.1
              refine AWP.skip ?_
              refine athen_n ?_
              refine AWP.seq ?_
              refine AWP.seq ?_
              refine AWP.region ?_
              refine rC (Calm.move rfl) ?_
              refine rC (Calm.bin rfl rfl b_eql) ?_
              refine rC (Calm.move rfl) ?_
              first | refine rS 76 ?_ | refine rU 76 ?_ | refine rG 76 (Calm.fieldAddr ty_field_51_0 rfl) ?_
              first | refine rS 76 ?_ | refine rU 76 ?_ | refine rG 76 (ld_ ty_plain_9 rfl) ?_
              first | refine rS 76 ?_ | refine rU 76 ?_ | refine rG 76 (Calm.move rfl) ?_
              first | refine rS 76 ?_ | refine rU 76 ?_ | refine rG 76 (Calm.bin rfl rfl (bin_str_eql _ _)) ?_
              refine rC ((by first | exact Calm.pickT rfl rfl | exact Calm.pickF rfl rfl)) ?_
              refine rC (Calm.move rfl) ?_
              first | refine rS 82 ?_ | refine rU 82 ?_ | refine rG 82 (Calm.fieldAddr ty_field_51_1 rfl) ?_
              first | refine rS 82 ?_ | refine rU 82 ?_ | refine rG 82 (ld_ ty_plain_3 rfl) ?_
              first | refine rS 82 ?_ | refine rU 82 ?_ | refine rG 82 (Calm.move rfl) ?_
              first | refine rS 82 ?_ | refine rU 82 ?_ | refine rG 82 (Calm.bin rfl rfl b_eql) ?_
              refine rC ((by first | exact Calm.pickT rfl rfl | exact Calm.pickF rfl rfl)) ?_
              refine rC (Calm.move rfl) ?_
              first | refine rS 88 ?_ | refine rU 88 ?_ | refine rG 88 (Calm.move rfl) ?_
              first | refine rS 88 ?_ | refine rU 88 ?_ | refine rG 88 (Calm.bin rfl rfl b_eql) ?_
              first | refine rS 88 ?_ | refine rU 88 ?_ | refine rG 88 (Calm.move rfl) ?_
              first | refine rS 91 ?_ | refine rU 91 ?_ | refine rG 91 (Calm.fieldAddr ty_field_25_4 rfl) ?_
              first | refine rS 91 ?_ | refine rU 91 ?_ | refine rG 91 (Calm.as (congrArg Value.bool hed) (ld_ ty_plain_4 rfl)) ?_
              first | refine rS 88 ?_ | refine rU 88 ?_ | refine rG 88 ((by first | exact Calm.pickT rfl rfl | exact Calm.pickF rfl rfl)) ?_
              first | refine rS 88 ?_ | refine rU 88 ?_ | refine rG 88 (Calm.move rfl) ?_
              first | refine rS 95 ?_ | refine rU 95 ?_ | refine rG 95 (Calm.fieldAddr ty_field_25_4 rfl) ?_
              first | refine rS 95 ?_ | refine rU 95 ?_ | refine rG 95 (Calm.as (congrArg Value.bool hdd) (ld_ ty_plain_4 rfl)) ?_
              first | refine rS 95 ?_ | refine rU 95 ?_ | refine rG 95 (Calm.un rfl (una_not _)) ?_
              first | refine rS 88 ?_ | refine rU 88 ?_ | refine rG 88 ((by first | exact Calm.pickT rfl rfl | exact Calm.pickF rfl rfl)) ?_
              first | refine rS 88 ?_ | refine rU 88 ?_ | refine rG 88 (Calm.move rfl) ?_
              first | refine rS 100 ?_ | refine rU 100 ?_ | refine rG 100 (Calm.fieldAddr ty_field_51_0 rfl) ?_
              first | refine rS 100 ?_ | refine rU 100 ?_ | refine rG 100 (ld_ ty_plain_9 rfl) ?_
              first | refine rS 100 ?_ | refine rU 100 ?_ | refine rG 100 (Calm.move rfl) ?_
              first | refine rS 100 ?_ | refine rU 100 ?_ | refine rG 100 (Calm.bin rfl rfl (bin_bool (bin_str_eql _ _) (decide_eq_false (qa)))) ?_
              first | refine rS 88 ?_ | refine rU 88 ?_ | refine rG 88 ((by first | exact Calm.pickT rfl rfl | exact Calm.pickF rfl rfl)) ?_
              first | refine rS 88 ?_ | refine rU 88 ?_ | refine rG 88 (Calm.move rfl) ?_
              first | refine rS 106 ?_ | refine rU 106 ?_ | refine rG 106 (Calm.fieldAddr ty_field_51_1 rfl) ?_
              first | refine rS 106 ?_ | refine rU 106 ?_ | refine rG 106 (ld_ ty_plain_3 rfl) ?_
              first | refine rS 106 ?_ | refine rU 106 ?_ | refine rG 106 (Calm.move rfl) ?_
              first | refine rS 106 ?_ | refine rU 106 ?_ | refine rG 106 (Calm.bin rfl rfl b_eql) ?_
              first | refine rS 88 ?_ | refine rU 88 ?_ | refine rG 88 ((by first | exact Calm.pickT rfl rfl | exact Calm.pickF rfl rfl)) ?_
              refine rC ((by first | exact Calm.pickT rfl rfl | exact Calm.pickF rfl rfl)) ?_
              refine arun_nil ?_
              refine athen_n ?_
              refine AWP.sub [(1, _), (2, _), (3, _), (4, _), (5, _), (14, _), (48, _), (49, _), (50, _), (51, _), (16, _), (15, _), (56, _), (17, _), (18, _), (73, _), (112, _)] ⟨rfl, rfl, rfl, rfl, rfl, rfl, rfl, rfl, rfl, rfl, rfl, rfl, rfl, rfl, rfl, rfl, rfl, trivial⟩ ?_
              refine AWP.condF rfl (by first | rfl | (simp; done) | (simp; omega)) ?_
              refine AWP.skip ?_
              refine athen_n ?_
              refine AWP.region ?_
              refine rC (ldA_ (cs := [_, _, _, _, _]) ty_agg_25 ty_size_25 rfl) ?_
              first | refine ARun.storeAll rfl rfl ty_size_25 own_ rfl rfl ?_ | refine ARun.store rfl rfl ty_size_25 own_ lens_ rfl ?_
              (try simp only [Mem.set_set, List.set_cons_zero, List.set_cons_succ, Nat.zero_add, Nat.reduceAdd])
              refine arun_nil ?_
              refine ain_n ?_
              refine athen_n ?_
              refine AWP.sub [(1, _), (2, _), (3, _), (4, _), (5, _), (14, _), (48, _), (49, _), (50, _), (51, _), (16, _), (15, _), (56, _), (17, _), (18, _), (73, _), (112, _)] ⟨rfl, rfl, rfl, rfl, rfl, rfl, rfl, rfl, rfl, rfl, rfl, rfl, rfl, rfl, rfl, rfl, rfl, trivial⟩ ?_
              refine AWP.region ?_
              refine rC (Calm.bin rfl rfl b_add_i64) ?_
              refine rC (Calm.move rfl) ?_
              refine arun_nil ?_
              refine athen_n ?_
              refine ⟨⟨i + 1, e, M2, p2, q2, r2, s2, bo, c, ms⟩, ?_, ?_, ?_, ?_⟩
              all_goals (try dsimp only)
              · exact ⟨rfl, rfl, rfl, rfl, rfl, rfl, rfl, rfl, rfl, trivial⟩
              · (try simp only [LS.B, LS.Y, boxD]); exact less_
              · exact ⟨hc, by show i + 1 ≤ 30; omega, hRe, (by show e.fuse ≤ _; rw [he]; exact hfz), (by show e.ext = d1.ext; rw [he]; exact hext), hSM.trans hM2, ga, gb, hde, hbm, (fun y hy h1 h2 => by rw [he] at hy; rcases List.mem_append.1 hy with hy | hy; exact hhit y hy h1 h2; obtain rfl := List.mem_singleton.1 hy; exact absurd ⟨h1, h2⟩ hno), (by show ms.length ≤ i + 1 + 1; have h' : ms.length ≤ i + 1 := hml; omega), hcap⟩
              · (show l.length - (i + 1) < l.length - i; omega)
          · refine AWP.seq ?_
            refine AWP.seq ?_
            refine AWP.region ?_
            refine rC (Calm.move rfl) ?_
            refine rC (Calm.bin rfl rfl (bin_bool (bin_neq _ _) (bnot_dec_true hn0))) ?_
            refine rC (Calm.move rfl) ?_
            first | refine rS 70 ?_ | refine rU 70 ?_ | refine rG 70 (Calm.move rfl) ?_
            first | refine rS 70 ?_ | refine rU 70 ?_ | refine rG 70 (Calm.bin rfl rfl (bin_bool (bin_neq _ _) (bnot_dec_true hn10))) ?_
            refine rC ((by first | exact Calm.pickT rfl rfl | exact Calm.pickF rfl rfl)) ?_
            refine arun_nil ?_
            refine athen_n ?_
            refine AWP.sub [(1, _), (2, _), (3, _), (4, _), (5, _), (14, _), (48, _), (49, _), (50, _), (51, _), (16, _), (15, _), (56, _), (17, _), (18, _), (73, _)] ⟨rfl, rfl, rfl, rfl, rfl, rfl, rfl, rfl, rfl, rfl, rfl, rfl, rfl, rfl, rfl, rfl, trivial⟩ ?_
            refine AWP.condT rfl (by first | rfl | (simp; done) | (simp; omega)) ?_
            refine AWP.exit ?_
            refine athen_exit ?_
            refine ain_same ?_
            refine athen_n ?_
            refine AWP.region ?_
            refine rC (Calm.bin rfl rfl b_add_i64) ?_
            refine rC (Calm.move rfl) ?_
            refine arun_nil ?_
            refine athen_n ?_
            refine ⟨⟨i + 1, dd, M2, pe', qe', pw', qw', bo, c, ms⟩, ?_, ?_, ?_, ?_⟩
            all_goals (try dsimp only)
            · exact ⟨rfl, rfl, rfl, rfl, rfl, rfl, rfl, rfl, rfl, trivial⟩
            · (try simp only [LS.B, LS.Y, boxD]); exact less_
            · exact ⟨hc, by show i + 1 ≤ 30; omega, hRd, hfz, hext, hSM.trans hM2, ga, gb, (hdk.less hM2), hbm, hhit, (by show ms.length ≤ i + 1 + 1; have h' : ms.length ≤ i + 1 := hml; omega), hcap⟩
            · (show l.length - (i + 1) < l.length - i; omega)
      · have hcr := fun v vk S h hk => disk_Crash v vk dd kl S h (dz_right hRd hfz) hk
        have hcd : crashD dd kl = (upD (settleD dd (keepK kl)), 0) := by unfold crashD; rw [chkD_yes hRd, if_pos rfl]
        rw [hcd] at hcr
        have hRs := right_settle hRd (keepK kl)
        have hRc : Right (upD (settleD dd (keepK kl))) := right_fuse hRs (by decide) false
        have hpd : (placeD dd s k).2 = 0 := by rw [show placeD dd s k = placeD d1 s k from by unfold placeD; rw [hext]]; exact q0
        have hpc : (placeD (upD (settleD dd (keepK kl))) s k).2 = 0 := (place_settle hRd (keepK kl) s k).trans hpd
        have hrc := read_ok hRc (show (upD (settleD dd (keepK kl))).down = false from rfl) s k
        rw [hpc, if_neg (by simp)] at hrc
        have hsn : seen (upD (settleD dd (keepK kl))) s k ∈ ms := by have h1 := seen_settle hRd hpd (keepK kl); rw [hext, ← hbase] at h1; show seen (settleD dd (keepK kl)) s k ∈ ms; rw [h1]; rcases seeW_mem (keepK kl) dd.waits s k base dd.waits.length with h2 | ⟨w, hw, h3, h4, h5⟩; rw [h2]; exact hbm; rw [h5]; exact hhit w hw h3 h4
        have hrd := fun v S h => disk_Read v (upD (settleD dd (keepK kl))) s k S h (dz_right hRc (by show (-1 : Int) ≤ _; decide))
        have hck := fun v S h => disk_Check v (upD (settleD dd (keepK kl))) S h (dz_right hRc (by show (-1 : Int) ≤ _; decide))
        rw [hrc] at hrd
        rw [chkD_yes hRc] at hck
        have hfu : (upD (settleD dd (keepK kl))).fuse = -1 := rfl
        have hdw : (upD (settleD dd (keepK kl))).down = false := rfl
        generalize upD (settleD dd (keepK kl)) = cc at *
        generalize seen cc s k = is at *
        refine AWP.exit ?_
        refine athen_exit ?_
        refine athen_exit ?_
        refine ain_same ?_
        refine athen_n ?_
        refine AWP.seq ?_
        refine AWP.region ?_
        refine rC (ldA_ (cs := [_, _, _, _, _]) ty_agg_25 ty_size_25 rfl) ?_
        refine rC (Calm.move rfl) ?_
        refine ARun.call (lit_lt rfl) go_33 rfl (((hcr _ _ M hdk (hk.less hSM)).frame g1).frame g2) ?_
        rintro _ S1 ⟨Sa, ⟨M3, ⟨v', rfl, hM3, hdc⟩, ha, hSa⟩, hb, h1⟩
        rw [h1, hSa]; rw [hSa] at hb; clear h1 S1 hSa Sa
        obtain ⟨hbm3, nbb⟩ := fresh_set hb
        obtain ⟨p3, q3, r3, s3, rfl, hE3', hW3'⟩ := id hdc
        rw [hfu, hdw] at hdc ⊢
        refine rC (Calm.move rfl) ?_
        refine rC (Calm.extract rfl rfl) ?_
        refine rC (Calm.extract rfl rfl) ?_
        refine ARun.alloc (lit_lt rfl) ty_zero_25 ?_
        intro b19 f19
        have g19 := f19
        repeat ((with_reducible replace g19 := fresh_set g19); obtain ⟨g19, _⟩ := g19)
        (try simp only [List.length_cons, List.length_nil, Nat.zero_add, Nat.reduceAdd])
        first | refine ARun.storeAll rfl rfl ty_size_25 own_ rfl rfl ?_ | refine ARun.store rfl rfl ty_size_25 own_ lens_ rfl ?_
        (try simp only [Mem.set_set, List.set_cons_zero, List.set_cons_succ, Nat.zero_add, Nat.reduceAdd])
        refine rC (Calm.assign rfl) ?_
        refine arun_nil ?_
        refine athen_n ?_
        refine AWP.sub [(1, _), (2, _), (3, _), (4, _), (5, _), (14, _), (48, _), (49, _), (50, _), (51, _), (19, _), (20, _)] ⟨rfl, rfl, rfl, rfl, rfl, rfl, rfl, rfl, rfl, rfl, rfl, rfl, trivial⟩ ?_
        refine AWP.seq ?_
        refine AWP.region ?_
        refine rC (ldA_ (cs := [_, _, _, _, _]) ty_agg_25 ty_size_25 rfl) ?_
        refine rC (Calm.move rfl) ?_
        refine rC (Calm.move rfl) ?_
        refine ARun.call (lit_lt rfl) go_27 rfl (hrd _ _ (hdc.less less_)) ?_
        rintro _ Sx ⟨rfl, h1⟩
        rw [h1]; clear h1 Sx
        refine rC (Calm.move rfl) ?_
        refine rC (Calm.extract rfl rfl) ?_
        refine rC (Calm.extract rfl rfl) ?_
        refine rC (Calm.assign rfl) ?_
        refine rC (Calm.assign rfl) ?_
        refine arun_nil ?_
        refine athen_n ?_
        refine AWP.sub [(1, _), (2, _), (3, _), (4, _), (5, _), (14, _), (48, _), (49, _), (50, _), (51, _), (19, _), (20, _), (21, _), (22, _)] ⟨rfl, rfl, rfl, rfl, rfl, rfl, rfl, rfl, rfl, rfl, rfl, rfl, rfl, rfl, trivial⟩ ?_
        refine AWP.seq ?_
        refine AWP.region ?_
        refine rC (Calm.assign rfl) ?_
        refine arun_nil ?_
        refine athen_n ?_
        refine AWP.seq ?_
        refine AWP.seq ?_
        refine AWP.region ?_
        refine rC (Calm.move rfl) ?_
        refine rC (Calm.lenSl Try.underlying26 rfl) ?_
        refine rC (Calm.move rfl) ?_
        refine arun_nil ?_
        refine athen_n ?_
        refine AWP.block ?_
        refine AWP.loop (X := Nat × Bool) (fun x => [(19, .pointer (some ⟨b19, 0, none⟩)), (20, .int .i64 0), (21, .string is), (22, .int .i64 0), (23, .bool x.2), (133, .slice (some ⟨bo, 0, none⟩) ms.length c), (134, .int .i64 ms.length), (135, .int .i64 x.1)]) (fun x => ((M3.set bo ⟨strT, ms.flatMap strs, c * 1⟩).set b5 ⟨25, [.int .i64 dd.size, .slice pe' dd.ext.length qe', .slice pw' dd.waits.length qw', .int .i64 dd.fuse, .bool dd.down], 5⟩).set b19 ⟨25, [.int .i64 cc.size, .slice p3 cc.ext.length q3, .slice r3 cc.waits.length s3, .int .i64 (-1), .bool false], 5⟩) (fun x => x.1 ≤ ms.length ∧ (x.2 = true ↔ ∃ j, ∃ h : j < ms.length, j < x.1 ∧ ms[j] = is)) (fun x => ms.length - x.1) ((0, false)) ⟨rfl, rfl, rfl, rfl, rfl, rfl, rfl, rfl, trivial⟩ (Mem.Less.refl _) (⟨Nat.zero_le _, ⟨fun h => (by cases h), fun ⟨j, _, h, _⟩ => (absurd h (Nat.not_lt_zero _))⟩⟩) ?_
        rintro ⟨j, fb⟩ ⟨hj, hfb⟩
        (try dsimp only at *)
        refine AWP.seq ?_
        refine AWP.region ?_
        refine rC (Calm.bin rfl rfl b_lss) ?_
        refine arun_nil ?_
        refine athen_n ?_
        refine AWP.seq ?_
        refine AWP.condB rfl (fun hcj => ?_) (fun hcj => ?_)
        · have hcj : j < ms.length := by have := of_decide_eq_true hcj; omega
          have hslo := sl_ownS (S := ((M3.set bo ⟨strT, ms.flatMap strs, c * 1⟩).set b5 ⟨25, [.int .i64 dd.size, .slice pe' dd.ext.length qe', .slice pw' dd.waits.length qw', .int .i64 dd.fuse, .bool dd.down], 5⟩).set b19 ⟨25, [.int .i64 cc.size, .slice p3 cc.ext.length q3, .slice r3 cc.waits.length s3, .int .i64 (-1), .bool false], 5⟩) (b := bo) (r := ⟨strT, ms.flatMap strs, c * 1⟩) (l := ms) (c := c) own_ rfl hcap (by omega)
          obtain ⟨_, _, ee, _, _, h3⟩ := hslo
          cases ee
          obtain ⟨bx, ox, ex, hkx⟩ := h3.resolve_left (fun e => by rw [e] at hcj; simp at hcj)
          cases ex
          have hkj := hkx j hcj
          unfold strs at hkj
          cases fb
          · by_cases q9 : ms[j] = is
            · refine AWP.skip ?_
              refine athen_n ?_
              refine AWP.seq ?_
              refine AWP.block ?_
              refine AWP.seq ?_
              refine AWP.region ?_
              refine rC (Calm.indexS Try.underlying26 ty_size_9 rfl rfl (by omega) (by omega)) ?_
              refine rC (ld_ ty_plain_9 rfl) ?_
              refine rC (Calm.assign rfl) ?_
              refine arun_nil ?_
              refine athen_n ?_
              refine AWP.sub [(19, _), (20, _), (21, _), (22, _), (23, _), (133, _), (134, _), (135, _), (136, _), (25, _)] ⟨rfl, rfl, rfl, rfl, rfl, rfl, rfl, rfl, rfl, rfl, trivial⟩ ?_
              refine AWP.region ?_
              refine rC (Calm.move rfl) ?_
              refine rC (Calm.move rfl) ?_
              first | refine rS 140 ?_ | refine rU 140 ?_ | refine rG 140 (Calm.move rfl) ?_
              first | refine rS 140 ?_ | refine rU 140 ?_ | refine rG 140 (Calm.move rfl) ?_
              first | refine rS 140 ?_ | refine rU 140 ?_ | refine rG 140 (Calm.bin rfl rfl (bin_bool (bin_str_eql _ _) (decide_eq_true (q9)))) ?_
              refine rC ((by first | exact Calm.pickT rfl rfl | exact Calm.pickF rfl rfl)) ?_
              refine rC (Calm.assign rfl) ?_
              refine arun_nil ?_
              refine ain_n ?_
              refine athen_n ?_
              refine AWP.sub [(19, _), (20, _), (21, _), (22, _), (23, _), (133, _), (134, _), (135, _), (136, _), (25, _)] ⟨rfl, rfl, rfl, rfl, rfl, rfl, rfl, rfl, rfl, rfl, trivial⟩ ?_
              refine AWP.region ?_
              refine rC (Calm.bin rfl rfl b_add_i64) ?_
              refine rC (Calm.move rfl) ?_
              refine arun_nil ?_
              refine athen_n ?_
              refine ⟨(j + 1, true), ?_, ?_, ?_, ?_⟩
              all_goals (try dsimp only)
              · exact ⟨rfl, rfl, rfl, rfl, rfl, rfl, rfl, rfl, trivial⟩
              · exact less_
              · exact ⟨hcj, ⟨fun _ => ⟨j, hcj, by omega, q9⟩, fun _ => rfl⟩⟩
              · omega
            · refine AWP.skip ?_
              refine athen_n ?_
              refine AWP.seq ?_
              refine AWP.block ?_
              refine AWP.seq ?_
              refine AWP.region ?_
              refine rC (Calm.indexS Try.underlying26 ty_size_9 rfl rfl (by omega) (by omega)) ?_
              refine rC (ld_ ty_plain_9 rfl) ?_
              refine rC (Calm.assign rfl) ?_
              refine arun_nil ?_
              refine athen_n ?_
              refine AWP.sub [(19, _), (20, _), (21, _), (22, _), (23, _), (133, _), (134, _), (135, _), (136, _), (25, _)] ⟨rfl, rfl, rfl, rfl, rfl, rfl, rfl, rfl, rfl, rfl, trivial⟩ ?_
              refine AWP.region ?_
              refine rC (Calm.move rfl) ?_
              refine rC (Calm.move rfl) ?_
              first | refine rS 140 ?_ | refine rU 140 ?_ | refine rG 140 (Calm.move rfl) ?_
              first | refine rS 140 ?_ | refine rU 140 ?_ | refine rG 140 (Calm.move rfl) ?_
              first | refine rS 140 ?_ | refine rU 140 ?_ | refine rG 140 (Calm.bin rfl rfl (bin_bool (bin_str_eql _ _) (decide_eq_false (q9)))) ?_
              refine rC ((by first | exact Calm.pickT rfl rfl | exact Calm.pickF rfl rfl)) ?_
              refine rC (Calm.assign rfl) ?_
              refine arun_nil ?_
              refine ain_n ?_
              refine athen_n ?_
              refine AWP.sub [(19, _), (20, _), (21, _), (22, _), (23, _), (133, _), (134, _), (135, _), (136, _), (25, _)] ⟨rfl, rfl, rfl, rfl, rfl, rfl, rfl, rfl, rfl, rfl, trivial⟩ ?_
              refine AWP.region ?_
              refine rC (Calm.bin rfl rfl b_add_i64) ?_
              refine rC (Calm.move rfl) ?_
              refine arun_nil ?_
              refine athen_n ?_
              refine ⟨(j + 1, false), ?_, ?_, ?_, ?_⟩
              all_goals (try dsimp only)
              · exact ⟨rfl, rfl, rfl, rfl, rfl, rfl, rfl, rfl, trivial⟩
              · exact less_
              · exact ⟨hcj, ⟨(fun h => by cases h), fun ⟨a, h1, h2, h3⟩ => by rcases Nat.lt_or_ge a j with h4 | h4; exact hfb.2 ⟨a, h1, h4, h3⟩; obtain rfl : a = j := (by omega); exact absurd h3 q9⟩⟩
              · omega
          · refine AWP.skip ?_
            refine athen_n ?_
            refine AWP.seq ?_
            refine AWP.block ?_
            refine AWP.seq ?_
            refine AWP.region ?_
            refine rC (Calm.indexS Try.underlying26 ty_size_9 rfl rfl (by omega) (by omega)) ?_
            refine rC (ld_ ty_plain_9 rfl) ?_
            refine rC (Calm.assign rfl) ?_
            refine arun_nil ?_
            refine athen_n ?_
            refine AWP.sub [(19, _), (20, _), (21, _), (22, _), (23, _), (133, _), (134, _), (135, _), (136, _), (25, _)] ⟨rfl, rfl, rfl, rfl, rfl, rfl, rfl, rfl, rfl, rfl, trivial⟩ ?_
            refine AWP.region ?_
            refine rC (Calm.move rfl) ?_
            refine rC (Calm.move rfl) ?_
            first | refine rS 140 ?_ | refine rU 140 ?_ | refine rG 140 (Calm.move rfl) ?_
            first | refine rS 140 ?_ | refine rU 140 ?_ | refine rG 140 (Calm.move rfl) ?_
            first | refine rS 140 ?_ | refine rU 140 ?_ | refine rG 140 (Calm.bin rfl rfl (bin_str_eql _ _)) ?_
            refine rC ((by first | exact Calm.pickT rfl rfl | exact Calm.pickF rfl rfl)) ?_
            refine rC (Calm.assign rfl) ?_
            refine arun_nil ?_
            refine ain_n ?_
            refine athen_n ?_
            refine AWP.sub [(19, _), (20, _), (21, _), (22, _), (23, _), (133, _), (134, _), (135, _), (136, _), (25, _)] ⟨rfl, rfl, rfl, rfl, rfl, rfl, rfl, rfl, rfl, rfl, trivial⟩ ?_
            refine AWP.region ?_
            refine rC (Calm.bin rfl rfl b_add_i64) ?_
            refine rC (Calm.move rfl) ?_
            refine arun_nil ?_
            refine athen_n ?_
            refine ⟨(j + 1, true), ?_, ?_, ?_, ?_⟩
            all_goals (try dsimp only)
            · exact ⟨rfl, rfl, rfl, rfl, rfl, rfl, rfl, rfl, trivial⟩
            · exact less_
            · exact ⟨hcj, ⟨fun _ => (by obtain ⟨a, h1, h2, h3⟩ := hfb.1 rfl; exact ⟨a, h1, by omega, h3⟩), fun _ => rfl⟩⟩
            · omega
        · have hcj : j = ms.length := by have := of_decide_eq_false hcj; omega
          obtain ⟨a, ha1, ha2⟩ := List.getElem_of_mem hsn
          obtain rfl : fb = true := hfb.2 ⟨a, ha1, by omega, ha2⟩
          refine AWP.exit ?_
          refine athen_exit ?_
          refine athen_exit ?_
          refine ain_same ?_
          refine athen_n ?_
          refine AWP.seq ?_
          refine AWP.region ?_
          refine rC (Calm.move rfl) ?_
          refine rC (Calm.bin rfl rfl b_eql) ?_
          refine rC (Calm.move rfl) ?_
          first | refine rS 148 ?_ | refine rU 148 ?_ | refine rG 148 (Calm.move rfl) ?_
          first | refine rS 148 ?_ | refine rU 148 ?_ | refine rG 148 (Calm.bin rfl rfl b_eql) ?_
          refine rC ((by first | exact Calm.pickT rfl rfl | exact Calm.pickF rfl rfl)) ?_
          refine rC (Calm.move rfl) ?_
          first | refine rS 152 ?_ | refine rU 152 ?_ | refine rG 152 (Calm.move rfl) ?_
          refine rC ((by first | exact Calm.pickT rfl rfl | exact Calm.pickF rfl rfl)) ?_
          refine rC (Calm.move rfl) ?_
          first | refine rS 155 ?_ | refine rU 155 ?_ | refine rG 155 (Calm.fieldAddr ty_field_25_4 rfl) ?_
          first | refine rS 155 ?_ | refine rU 155 ?_ | refine rG 155 (ld_ ty_plain_4 rfl) ?_
          first | refine rS 155 ?_ | refine rU 155 ?_ | refine rG 155 (Calm.un rfl (una_not _)) ?_
          refine rC ((by first | exact Calm.pickT rfl rfl | exact Calm.pickF rfl rfl)) ?_
          refine rC (Calm.move rfl) ?_
          first | refine rS 160 ?_ | refine rU 160 ?_ | refine rG 160 (Calm.fieldAddr ty_field_25_3 rfl) ?_
          first | refine rS 160 ?_ | refine rU 160 ?_ | refine rG 160 (ld_ ty_plain_3 rfl) ?_
          first | refine rS 160 ?_ | refine rU 160 ?_ | refine rG 160 (Calm.bin rfl rfl b_eql) ?_
          refine rC ((by first | exact Calm.pickT rfl rfl | exact Calm.pickF rfl rfl)) ?_
          refine rC (Calm.move rfl) ?_
          first | refine rS 165 ?_ | refine rU 165 ?_ | refine rG 165 (ldA_ (cs := [_, _, _, _, _]) ty_agg_25 ty_size_25 rfl) ?_
          refine ARun.callG 19 true 165 rfl (lit_lt rfl) rfl (lit_lt rfl) go_25 rfl (hck _ _ (hdc.less less_)) ?_
          rintro _ Sx ⟨rfl, h1⟩
          rw [h1]; clear h1 Sx
          first | refine rS 165 ?_ | refine rU 165 ?_ | refine rG 165 (Calm.bin rfl rfl b_eql) ?_
          refine rC ((by first | exact Calm.pickT rfl rfl | exact Calm.pickF rfl rfl)) ?_
          refine rC (Calm.assign rfl) ?_
          refine arun_nil ?_
          refine athen_n ?_
          refine AWP.sub [(19, _), (20, _), (21, _), (22, _), (23, _), (133, _), (134, _), (135, _), (136, _), (10, _)] ⟨rfl, rfl, rfl, rfl, rfl, rfl, rfl, rfl, rfl, rfl, trivial⟩ ?_
          refine AWP.ret ?_
          refine ⟨_, _, ⟨_, _, rfl, rfl, rfl⟩, less_, ?_⟩
          rfl
  · have hze : Dz (opened d (syncD d)).1 := by
      unfold opened at q ⊢
      rcases openD_or d with ⟨ho, hR'⟩ | ⟨ho, hR, hdn⟩ | ⟨ho, hR, hdn⟩ <;> rw [ho] at q ⊢
      · rw [if_neg (by simp)]
        exact ⟨by decide, by decide, by decide, by decide, by decide, by decide, fun x hx => (by cases hx), fun w hw => (by cases hw)⟩
      · rw [if_neg (by simp)]; exact hz
      · exact absurd rfl q
    generalize opened d (syncD d) = r at *
    obtain ⟨e, er⟩ := r
    simp only at q c0 hze
    have c1 := fun v S h => disk_Read v e s k S h hze
    generalize readO e s k = u at *
    refine ACall.enter (args := [.agg #[.int .i64 d.size, .slice pe d.ext.length ce, .slice pw d.waits.length cw, .int .i64 d.fuse, .bool d.down], .slice pl l.length cl, .string s, .int .i64 k, .slice pk kl.length ck]) (rs := [.tmp 10]) 170 [(0, .agg #[.int .i64 d.size, .slice pe d.ext.length ce, .slice pw d.waits.length cw, .int .i64 d.fuse, .bool d.down]), (1, .slice pl l.length cl), (2, .string s), (3, .int .i64 k), (4, .slice pk kl.length ck)] Try.func7 rfl rfl (Nat.le_of_ble_eq_true rfl) rfl ⟨rfl, rfl, rfl, rfl, rfl, trivial⟩ ?_
    refine AWP.seq ?_
    refine AWP.region ?_
    refine ARun.boxA (cs := [_, _, _, _, _]) (lit_lt rfl) rfl ?_
    intro b5 f5
    have g5 := f5
    repeat ((with_reducible replace g5 := fresh_set g5); obtain ⟨g5, _⟩ := g5)
    (try simp only [List.length_cons, List.length_nil, Nat.zero_add, Nat.reduceAdd])
    refine rC (Calm.assign rfl) ?_
    refine arun_nil ?_
    refine athen_n ?_
    refine AWP.seq ?_
    refine AWP.seq ?_
    refine AWP.region ?_
    refine ARun.call (lit_lt rfl) go_23 rfl (lv_lives _) ?_
    rintro _ Sx ⟨rfl, h1⟩
    rw [h1]; clear h1 Sx
    refine rC (Calm.un rfl (una_not _)) ?_
    refine arun_nil ?_
    refine athen_n ?_
    refine AWP.sub [(0, _), (1, _), (2, _), (3, _), (4, _), (5, _), (10, _), (27, _)] ⟨rfl, rfl, rfl, rfl, rfl, rfl, rfl, rfl, trivial⟩ ?_
    refine AWP.condF rfl (by first | rfl | (simp; done) | (simp; omega)) ?_
    refine AWP.skip ?_
    refine athen_n ?_
    refine AWP.seq ?_
    refine AWP.region ?_
    refine rC (ldA_ (cs := [_, _, _, _, _]) ty_agg_25 ty_size_25 rfl) ?_
    refine ARun.call (lit_lt rfl) go_31 rfl ((c0 _ _ hd).frame f5) ?_
    rintro _ Sx ⟨M1, ⟨v, rfl, hM1, hd1⟩, fa, h1⟩
    rw [h1]; clear h1 Sx
    obtain ⟨p1, q1, r1, s1, rfl, hE1, hW1⟩ := id hd1
    refine rC (Calm.move rfl) ?_
    refine rC (Calm.extract rfl rfl) ?_
    refine rC (Calm.extract rfl rfl) ?_
    first | refine ARun.storeAll rfl rfl ty_size_25 own_ rfl rfl ?_ | refine ARun.store rfl rfl ty_size_25 own_ lens_ rfl ?_
    (try simp only [Mem.set_set, List.set_cons_zero, List.set_cons_succ, Nat.zero_add, Nat.reduceAdd])
    refine rC (Calm.assign rfl) ?_
    refine arun_nil ?_
    refine athen_n ?_
    refine AWP.sub [(0, _), (1, _), (2, _), (3, _), (4, _), (5, _), (10, _), (27, _), (11, _)] ⟨rfl, rfl, rfl, rfl, rfl, rfl, rfl, rfl, rfl, trivial⟩ ?_
    refine AWP.seq ?_
    refine AWP.region ?_
    refine rC (ldA_ (cs := [_, _, _, _, _]) ty_agg_25 ty_size_25 rfl) ?_
    refine rC (Calm.move rfl) ?_
    refine rC (Calm.move rfl) ?_
    refine ARun.call (lit_lt rfl) go_27 rfl (c1 _ _ (hd1.less less_)) ?_
    rintro _ Sx ⟨rfl, h1⟩
    rw [h1]; clear h1 Sx
    refine rC (Calm.move rfl) ?_
    refine rC (Calm.extract rfl rfl) ?_
    refine rC (Calm.extract rfl rfl) ?_
    refine rC (Calm.assign rfl) ?_
    refine rC (Calm.assign rfl) ?_
    refine arun_nil ?_
    refine athen_n ?_
    refine AWP.sub [(0, _), (1, _), (2, _), (3, _), (4, _), (5, _), (10, _), (27, _), (11, _), (12, _), (13, _)] ⟨rfl, rfl, rfl, rfl, rfl, rfl, rfl, rfl, rfl, rfl, rfl, trivial⟩ ?_
    refine AWP.seq ?_
    refine AWP.seq ?_
    refine AWP.region ?_
    refine rC (Calm.move rfl) ?_
    refine rC (Calm.bin rfl rfl (bin_bool (bin_neq _ _) (bnot_dec_true q))) ?_
    refine rC (Calm.move rfl) ?_
    first | refine rS 42 ?_ | refine rU 42 ?_ | refine rG 42 (Calm.move rfl) ?_
    first | refine rS 42 ?_ | refine rU 42 ?_ | refine rG 42 (Calm.bin rfl rfl b_neq) ?_
    refine rC ((by first | exact Calm.pickT rfl rfl | exact Calm.pickF rfl rfl)) ?_
    refine arun_nil ?_
    refine athen_n ?_
    refine AWP.sub [(0, _), (1, _), (2, _), (3, _), (4, _), (5, _), (10, _), (27, _), (11, _), (12, _), (13, _), (45, _)] ⟨rfl, rfl, rfl, rfl, rfl, rfl, rfl, rfl, rfl, rfl, rfl, rfl, trivial⟩ ?_
    refine AWP.condT rfl (by first | rfl | (simp; done) | (simp; omega)) ?_
    refine AWP.seq ?_
    refine AWP.region ?_
    refine rC (Calm.assign rfl) ?_
    refine arun_nil ?_
    refine athen_n ?_
    refine AWP.ret ?_
    refine athen_ret ?_
    refine ⟨_, _, ⟨_, _, rfl, rfl, rfl⟩, less_, ?_⟩
    rfl
theorem walk_DiskSafe (cs : List Value) (y : D) (vl : Value) (l : List Wr) (s : ByteArray) (k : Int) (vk : Value) (kl : List Bool) (W : World) (w0 : DkV (roM W) cs y) (w1 : WritesV (roM W) [vl] l) (w2 : s.size ≤ maxLen) (z2 : s.size < 140737488355328) (w3 : (Lit.int .i64 k).wf = true) (w4 : BoolsV (roM W) [vk] kl) :
    Calls Try.prog 7 #[.agg cs.toArray, vl, .string s, .int .i64 k, vk] W fun e w' => e = .returned (.bool true) ∧ Below W.heap.size W w' := by
  obtain ⟨v1, e1, hv1, _⟩ := w1
  obtain ⟨v2, e2, hv2⟩ := w4
  cases e1; cases e2
  exact ACall.callsW (law_DiskSafe _ _ _ y l s k kl _ w0.1 w0.2 hv1 hv2)
end Go.Proofs.Ytkeiphkccnfhoaa
