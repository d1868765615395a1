/-
  Disk: Dev.Read as a contract over memory; disk.Read.
-/
import Derived.Test.YtkeiphkccnfhoaaDisk21
namespace Go.Proofs.Ytkeiphkccnfhoaa
open Go.RowKit
open Mv Disk
set_option linter.unusedVariables false
set_option linter.unusedSimpArgs false
set_option maxRecDepth 4000
theorem Mv.Sl.at_roM {α : Type} {n : Nat} {f : α → List Value} {M : Mem} {v : Value} {l : List α} (h : Sl n f M v l) {w : World} (hv : View M w) : Sl n f (roM w) v l := by
  obtain ⟨a, cap, rfl, h1, h2, h3⟩ := h
  exact ⟨a, cap, rfl, h1, h2, h3.imp id fun ⟨b, off, e, hk⟩ => ⟨b, off, e, fun j hj => roM_knows (hk j hj w hv)⟩⟩
theorem waits_of {M : Mem} {v : Value} {l : List Wr} (h : Sl 3 wrF M v l) {w : World} (hv : View M w) : Waits w.heap.size w v l := by
  obtain ⟨a, cap, rfl, h1, h2, h3⟩ := h
  refine ⟨a, cap, rfl, h3.elim .inl fun ⟨b, off, e, hk⟩ => ?_⟩
  cases hl : l with
  | nil => exact .inl rfl
  | cons x r =>
    right
    subst hl
    refine ⟨b, off, e, ?_, fun j hj q v hq => ?_⟩
    · have h0 := hk 0 (by simp) w hv 0 _ rfl
      rcases Nat.lt_or_ge b w.heap.size with q | q
      · exact q
      · simp [World.cell?, Addr.add, Array.getElem?_eq_none q] at h0
    · have h0 := hk j hj w hv q v hq
      have e : (⟨b, off + j * 3, none⟩ : Addr).add q = ⟨b, off + j * 3 + q, none⟩ := by unfold Addr.add; cases q <;> simp
      rw [e] at h0; exact h0
theorem dev_Read (p : Nat) (d : D) (s : ByteArray) (k : Int) (M : Mem) (h : RdV M p d) (hR : Right d) :
    ACall Try.prog 62 #[.pointer (some ⟨p, 0, none⟩), .string s, .int .i64 k] M fun r S' => r = .tuple #[.string (readD d s k).1, .int .i64 (readD d s k).2] ∧ S' = M := by
  obtain ⟨qe, de, qw, dw, hp, hE, hW⟩ := h
  intro w hv
  have hk : RdK (roM w) p d qe de (.slice qw d.waits.length dw) := ⟨roM_knows fun j v hj => by
    refine hv.rd ?_
    have e : (⟨p, 0, none⟩ : Addr).add j = ⟨p, j, none⟩ := by unfold Addr.add; cases j <;> simp
    rw [e]; unfold Mem.rd; rw [hp]; exact hj, hE.at_roM hv⟩
  exact (readW p d s k w qe de _ hk hR (hv.lt hp) (waits_of hW hv) hR.wl).mono fun _ _ ⟨he, hb⟩ => ⟨_, _, he, ⟨rfl, rfl⟩, Step.below hv hb⟩
noncomputable def readO (d : D) (s : ByteArray) (k : Int) : ByteArray × Int := if (openD d).2 ≠ 0 then (ByteArray.empty, (openD d).2) else readD d s k
set_option maxHeartbeats 1000000 in
theorem disk_Read (v : Value) (d : D) (s : ByteArray) (k : Int) (S : Mem) (hd : DkR S v d) (hz : Dz d) :
    ACall Try.prog 27 #[v, .string s, .int .i64 k] S fun r S' => r = .tuple #[.string (readO d s k).1, .int .i64 (readO d s k).2] ∧ S' = S := by
  have hopen := disk_Open v d S hd hz
  obtain ⟨pe, ce, pw, cw, rfl, hE, hW⟩ := id hd
  unfold readO
  rcases openD_or d with ⟨ho, hR⟩ | ⟨ho, hR, hdn⟩ | ⟨ho, hR, hdn⟩ <;> rw [ho] at hopen ⊢
  · skip
    refine ACall.enter (args := [.agg #[.int .i64 d.size, .slice pe d.ext.length ce, .slice pw d.waits.length cw, .int .i64 d.fuse, .bool d.down], .string s, .int .i64 k]) (rs := [.tmp 6, .tmp 7]) 24 [(0, .agg #[.int .i64 d.size, .slice pe d.ext.length ce, .slice pw d.waits.length cw, .int .i64 d.fuse, .bool d.down]), (1, .string s), (2, .int .i64 k)] Try.func27 rfl rfl (Nat.le_of_ble_eq_true rfl) rfl ⟨rfl, rfl, rfl, trivial⟩ ?_
    refine AWP.seq ?_
    refine AWP.region ?_
    refine ARun.boxA (cs := [_, _, _, _, _]) (lit_lt rfl) rfl ?_
    intro b3 f3
    have g3 := f3
    repeat ((with_reducible replace g3 := fresh_set g3); obtain ⟨g3, _⟩ := g3)
    (try simp only [List.length_cons, List.length_nil, Nat.zero_add, Nat.reduceAdd])
    refine rC (Calm.assign rfl) ?_
    refine rC (Calm.assign rfl) ?_
    refine arun_nil ?_
    refine athen_n ?_
    refine AWP.seq ?_
    refine AWP.region ?_
    refine rC (ldA_ (cs := [_, _, _, _, _]) ty_agg_25 ty_size_25 rfl) ?_
    refine ARun.call (lit_lt rfl) go_44 rfl (hopen.frame f3) ?_
    rintro _ S1 ⟨M, ⟨p, oE, oW, hok, rfl, hM⟩, f1', h1⟩
    rw [h1]; clear h1 S1
    have hSM : S.Less M := by rw [hM]; exact hok.less
    refine rC (Calm.move rfl) ?_
    refine rC (Calm.extract rfl rfl) ?_
    refine rC (Calm.extract rfl rfl) ?_
    refine rC (Calm.assign rfl) ?_
    refine rC (Calm.assign rfl) ?_
    refine arun_nil ?_
    refine athen_n ?_
    refine AWP.sub [(0, _), (1, _), (2, _), (3, _), (6, _), (7, _), (8, _), (9, _)] ⟨rfl, rfl, rfl, rfl, rfl, rfl, rfl, rfl, trivial⟩ ?_
    refine AWP.seq ?_
    refine AWP.seq ?_
    refine AWP.region ?_
    refine rC (Calm.move rfl) ?_
    refine rC (Calm.bin rfl rfl b_neq) ?_
    refine arun_nil ?_
    refine athen_n ?_
    refine AWP.sub [(0, _), (1, _), (2, _), (3, _), (6, _), (7, _), (8, _), (9, _), (16, _)] ⟨rfl, rfl, rfl, rfl, rfl, rfl, rfl, rfl, rfl, trivial⟩ ?_
    refine AWP.condT rfl (by first | rfl | (simp; done) | (simp; omega)) ?_
    refine AWP.seq ?_
    refine AWP.region ?_
    refine rC (Calm.move rfl) ?_
    refine rC (Calm.assign rfl) ?_
    refine rC (Calm.assign rfl) ?_
    refine arun_nil ?_
    refine athen_n ?_
    refine AWP.sub [(0, _), (1, _), (2, _), (3, _), (6, _), (7, _), (8, _), (9, _), (16, _)] ⟨rfl, rfl, rfl, rfl, rfl, rfl, rfl, rfl, rfl, trivial⟩ ?_
    refine AWP.ret ?_
    refine athen_ret ?_
    refine ⟨_, S, ⟨_, _, rfl, ⟨_, _, rfl, rfl, rfl⟩, rfl⟩, less_, ?_⟩
    exact ⟨rfl, rfl⟩
  · skip
    refine ACall.enter (args := [.agg #[.int .i64 d.size, .slice pe d.ext.length ce, .slice pw d.waits.length cw, .int .i64 d.fuse, .bool d.down], .string s, .int .i64 k]) (rs := [.tmp 6, .tmp 7]) 24 [(0, .agg #[.int .i64 d.size, .slice pe d.ext.length ce, .slice pw d.waits.length cw, .int .i64 d.fuse, .bool d.down]), (1, .string s), (2, .int .i64 k)] Try.func27 rfl rfl (Nat.le_of_ble_eq_true rfl) rfl ⟨rfl, rfl, rfl, trivial⟩ ?_
    refine AWP.seq ?_
    refine AWP.region ?_
    refine ARun.boxA (cs := [_, _, _, _, _]) (lit_lt rfl) rfl ?_
    intro b3 f3
    have g3 := f3
    repeat ((with_reducible replace g3 := fresh_set g3); obtain ⟨g3, _⟩ := g3)
    (try simp only [List.length_cons, List.length_nil, Nat.zero_add, Nat.reduceAdd])
    refine rC (Calm.assign rfl) ?_
    refine rC (Calm.assign rfl) ?_
    refine arun_nil ?_
    refine athen_n ?_
    refine AWP.seq ?_
    refine AWP.region ?_
    refine rC (ldA_ (cs := [_, _, _, _, _]) ty_agg_25 ty_size_25 rfl) ?_
    refine ARun.call (lit_lt rfl) go_44 rfl (hopen.frame f3) ?_
    rintro _ S1 ⟨M, ⟨p, oE, oW, hok, rfl, hM⟩, f1', h1⟩
    rw [h1]; clear h1 S1
    have hSM : S.Less M := by rw [hM]; exact hok.less
    refine rC (Calm.move rfl) ?_
    refine rC (Calm.extract rfl rfl) ?_
    refine rC (Calm.extract rfl rfl) ?_
    refine rC (Calm.assign rfl) ?_
    refine rC (Calm.assign rfl) ?_
    refine arun_nil ?_
    refine athen_n ?_
    refine AWP.sub [(0, _), (1, _), (2, _), (3, _), (6, _), (7, _), (8, _), (9, _)] ⟨rfl, rfl, rfl, rfl, rfl, rfl, rfl, rfl, trivial⟩ ?_
    refine AWP.seq ?_
    refine AWP.seq ?_
    refine AWP.region ?_
    refine rC (Calm.move rfl) ?_
    refine rC (Calm.bin rfl rfl b_neq) ?_
    refine arun_nil ?_
    refine athen_n ?_
    refine AWP.sub [(0, _), (1, _), (2, _), (3, _), (6, _), (7, _), (8, _), (9, _), (16, _)] ⟨rfl, rfl, rfl, rfl, rfl, rfl, rfl, rfl, rfl, trivial⟩ ?_
    refine AWP.condT rfl (by first | rfl | (simp; done) | (simp; omega)) ?_
    refine AWP.seq ?_
    refine AWP.region ?_
    refine rC (Calm.move rfl) ?_
    refine rC (Calm.assign rfl) ?_
    refine rC (Calm.assign rfl) ?_
    refine arun_nil ?_
    refine athen_n ?_
    refine AWP.sub [(0, _), (1, _), (2, _), (3, _), (6, _), (7, _), (8, _), (9, _), (16, _)] ⟨rfl, rfl, rfl, rfl, rfl, rfl, rfl, rfl, rfl, trivial⟩ ?_
    refine AWP.ret ?_
    refine athen_ret ?_
    refine ⟨_, S, ⟨_, _, rfl, ⟨_, _, rfl, rfl, rfl⟩, rfl⟩, less_, ?_⟩
    exact ⟨rfl, rfl⟩
  · skip
    refine ACall.enter (args := [.agg #[.int .i64 d.size, .slice pe d.ext.length ce, .slice pw d.waits.length cw, .int .i64 d.fuse, .bool d.down], .string s, .int .i64 k]) (rs := [.tmp 6, .tmp 7]) 24 [(0, .agg #[.int .i64 d.size, .slice pe d.ext.length ce, .slice pw d.waits.length cw, .int .i64 d.fuse, .bool d.down]), (1, .string s), (2, .int .i64 k)] Try.func27 rfl rfl (Nat.le_of_ble_eq_true rfl) rfl ⟨rfl, rfl, rfl, trivial⟩ ?_
    refine AWP.seq ?_
    refine AWP.region ?_
    refine ARun.boxA (cs := [_, _, _, _, _]) (lit_lt rfl) rfl ?_
    intro b3 f3
    have g3 := f3
    repeat ((with_reducible replace g3 := fresh_set g3); obtain ⟨g3, _⟩ := g3)
    (try simp only [List.length_cons, List.length_nil, Nat.zero_add, Nat.reduceAdd])
    refine rC (Calm.assign rfl) ?_
    refine rC (Calm.assign rfl) ?_
    refine arun_nil ?_
    refine athen_n ?_
    refine AWP.seq ?_
    refine AWP.region ?_
    refine rC (ldA_ (cs := [_, _, _, _, _]) ty_agg_25 ty_size_25 rfl) ?_
    refine ARun.call (lit_lt rfl) go_44 rfl (hopen.frame f3) ?_
    rintro _ S1 ⟨M, ⟨p, oE, oW, hok, rfl, hM⟩, f1', h1⟩
    rw [h1]; clear h1 S1
    have hSM : S.Less M := by rw [hM]; exact hok.less
    have hrd : RdV M p d := by rw [hM]; exact hok.rd (Nat.le_trans (right_len hR).1 (by decide)) (Nat.le_trans hR.wl (by decide))
    refine rC (Calm.move rfl) ?_
    refine rC (Calm.extract rfl rfl) ?_
    refine rC (Calm.extract rfl rfl) ?_
    refine rC (Calm.assign rfl) ?_
    refine rC (Calm.assign rfl) ?_
    refine arun_nil ?_
    refine athen_n ?_
    refine AWP.sub [(0, _), (1, _), (2, _), (3, _), (6, _), (7, _), (8, _), (9, _)] ⟨rfl, rfl, rfl, rfl, rfl, rfl, rfl, rfl, trivial⟩ ?_
    refine AWP.seq ?_
    refine AWP.seq ?_
    refine AWP.region ?_
    refine rC (Calm.move rfl) ?_
    refine rC (Calm.bin rfl rfl b_neq) ?_
    refine arun_nil ?_
    refine athen_n ?_
    refine AWP.sub [(0, _), (1, _), (2, _), (3, _), (6, _), (7, _), (8, _), (9, _), (16, _)] ⟨rfl, rfl, rfl, rfl, rfl, rfl, rfl, rfl, rfl, trivial⟩ ?_
    refine AWP.condF rfl (by first | rfl | (simp; done) | (simp; omega)) ?_
    refine AWP.skip ?_
    refine athen_n ?_
    refine AWP.seq ?_
    refine AWP.region ?_
    refine rC (Calm.move rfl) ?_
    refine rC (Calm.move rfl) ?_
    refine rC (Calm.move rfl) ?_
    refine ARun.call (lit_lt rfl) go_62 rfl (dev_Read p d s k _ (hrd.less less_) hR) ?_
    rintro _ S1 ⟨rfl, h1⟩
    rw [h1]; clear h1 S1
    refine rC (Calm.extract rfl rfl) ?_
    refine rC (Calm.extract rfl rfl) ?_
    refine rC (Calm.assign rfl) ?_
    refine rC (Calm.assign rfl) ?_
    refine arun_nil ?_
    refine athen_n ?_
    refine AWP.sub [(0, _), (1, _), (2, _), (3, _), (6, _), (7, _), (8, _), (9, _), (16, _)] ⟨rfl, rfl, rfl, rfl, rfl, rfl, rfl, rfl, rfl, trivial⟩ ?_
    refine AWP.ret ?_
    refine ⟨_, S, ⟨_, _, rfl, ⟨_, _, rfl, rfl, rfl⟩, rfl⟩, less_, ?_⟩
    exact ⟨rfl, rfl⟩
end Go.Proofs.Ytkeiphkccnfhoaa
