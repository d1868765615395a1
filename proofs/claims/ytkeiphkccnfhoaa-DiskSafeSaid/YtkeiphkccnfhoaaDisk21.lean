/-
  Disk: Dev.Read: the loop over slices.Backward; disk.Read.
-/
import Derived.Test.YtkeiphkccnfhoaaDisk20
import Derived.Test.YtkeiphkccnfhoaaDiskSee
import Derived.Test.YtkeiphkccnfhoaaRegion
namespace Go.Proofs.Ytkeiphkccnfhoaa
open Go.RowKit Go.Shelf
open Mv Disk
set_option linter.unusedVariables false
set_option linter.unusedSimpArgs false
set_option maxRecDepth 4000
/-- A disk at work of which we know the cells. -/
def RdK (M : Mem) (p : Nat) (d : D) (qe : Option Addr) (de : Nat) (sv : Value) : Prop := M.Knows ⟨p, 0, none⟩ [.int .i64 d.size, .slice qe d.ext.length de, sv, .int .i64 d.fuse, .bool d.down] ∧ Sl 2 extF M (.slice qe d.ext.length de) d.ext
set_option maxHeartbeats 1000000 in
theorem dev_placeK (p : Nat) (d : D) (s : ByteArray) (i : Int) (M : Mem) (qe : Option Addr) (de : Nat) (sv : Value) (h : RdK M p d qe de sv) (hR : Right d) : ACall Try.prog 94 #[.pointer (some ⟨p, 0, none⟩), .string s, .int .i64 i] M fun r S' => r = .tuple #[.int .i64 ((placeD d s i).1 : Nat), .int .i64 (placeD d s i).2] ∧ S' = M := by
  obtain ⟨hp, hME⟩ := h
  have hp1 := kn_at hp 1 rfl
  have hhp := has_pos hR.ex.asc s
  unfold placeD
  by_cases q : has d.ext s = true
  · obtain ⟨hlt, he⟩ := hhp.1 q
    have hsx := right_sec hR (List.getElem_mem hlt)
    have hfind := disk_find _ d.ext s M hME hR.ex.asc (Nat.le_trans (right_len hR).1 (by decide))
    rw [if_pos q, exOf_eq hlt]
    obtain ⟨_, _, ee1, ee2, ee3, hE3⟩ := id hME
    cases ee1
    obtain ⟨b, off, rfl, hk⟩ := hE3.resolve_left (fun e => by rw [e] at hlt; simp at hlt)
    have hki := hk _ hlt
    generalize hpp : pos d.ext s = k at *
    generalize d.ext[k] = x at *
    unfold extF at hki
    by_cases q1 : i < 0
    · rw [if_pos (.inl q1)]
      refine ACall.enter (args := [.pointer (some ⟨p, 0, none⟩), .string s, .int .i64 i]) (rs := [.tmp 6, .tmp 7]) 40 [(0, .pointer (some ⟨p, 0, none⟩)), (1, .string s), (2, .int .i64 i)] Try.func94 rfl rfl (Nat.le_of_ble_eq_true rfl) rfl ⟨rfl, rfl, rfl, trivial⟩ ?_
      refine AWP.seq ?_
      refine AWP.region ?_
      refine rC (Calm.assign rfl) ?_
      refine rC (Calm.assign rfl) ?_
      refine arun_nil ?_
      refine athen_n ?_
      refine AWP.seq ?_
      refine AWP.region ?_
      refine rC (Calm.move rfl) ?_
      refine rC (Calm.nilCheck rfl) ?_
      refine rC (Calm.fieldAddr ty_field_90_0 rfl) ?_
      refine rC (Calm.fieldAddr ty_field_25_1 rfl) ?_
      refine rC (ld_ ty_plain_22 rfl) ?_
      refine rC (Calm.move rfl) ?_
      refine ARun.call (lit_lt rfl) go_59 rfl (hfind) ?_
      rintro _ S1 ⟨rfl, h1⟩
      rw [h1, q]; clear h1 S1
      refine rC (Calm.move rfl) ?_
      refine rC (Calm.extract rfl rfl) ?_
      refine rC (Calm.extract rfl rfl) ?_
      refine rC (Calm.assign rfl) ?_
      refine rC (Calm.assign rfl) ?_
      refine arun_nil ?_
      refine athen_n ?_
      refine AWP.sub [(0, _), (1, _), (2, _), (6, _), (7, _), (8, _), (9, _)] ⟨rfl, rfl, rfl, rfl, rfl, rfl, rfl, trivial⟩ ?_
      refine AWP.seq ?_
      refine AWP.block ?_
      refine AWP.seq ?_
      refine AWP.region ?_
      refine rC (Calm.move rfl) ?_
      refine rC (Calm.un rfl (una_not _)) ?_
      refine rC (Calm.assign rfl) ?_
      refine arun_nil ?_
      refine athen_n ?_
      refine AWP.sub [(0, _), (1, _), (2, _), (6, _), (7, _), (8, _), (9, _), (20, _)] ⟨rfl, rfl, rfl, rfl, rfl, rfl, rfl, rfl, trivial⟩ ?_
      refine AWP.condF rfl (by first | rfl | (simp; done) | (simp; omega)) ?_
      refine AWP.seq ?_
      refine AWP.region ?_
      refine rC (Calm.move rfl) ?_
      refine rC (Calm.bin rfl rfl b_lss) ?_
      refine rC (Calm.move rfl) ?_
      first | refine rS 26 ?_ | refine rU 26 ?_ | refine rG 26 (Calm.move rfl) ?_
      first | refine rS 26 ?_ | refine rU 26 ?_ | refine rG 26 (Calm.move rfl) ?_
      first | refine rS 26 ?_ | refine rU 26 ?_ | refine rG 26 (Calm.nilCheck rfl) ?_
      first | refine rS 26 ?_ | refine rU 26 ?_ | refine rG 26 (Calm.fieldAddr ty_field_90_0 rfl) ?_
      first | refine rS 26 ?_ | refine rU 26 ?_ | refine rG 26 (Calm.fieldAddr ty_field_25_1 rfl) ?_
      first | refine rS 26 ?_ | refine rU 26 ?_ | refine rG 26 (ld_ ty_plain_22 rfl) ?_
      first | refine rS 26 ?_ | refine rU 26 ?_ | refine rG 26 (Calm.move rfl) ?_
      first | refine rS 26 ?_ | refine rU 26 ?_ | refine rG 26 (Calm.indexS Try.underlying22 ty_size_54 rfl rfl (by omega) (by omega)) ?_
      first | refine rS 26 ?_ | refine rU 26 ?_ | refine rG 26 (ldA_ (cs := [_, _]) ty_agg_54 ty_size_54 rfl) ?_
      first | refine rS 26 ?_ | refine rU 26 ?_
      first | refine rS 26 ?_ | refine rU 26 ?_ | refine rG 26 (Calm.bin rfl rfl b_geq) ?_
      refine rC ((by first | exact Calm.pickT rfl rfl | exact Calm.pickF rfl rfl)) ?_
      refine rC (Calm.assign rfl) ?_
      refine arun_nil ?_
      refine athen_n ?_
      refine AWP.sub [(0, _), (1, _), (2, _), (6, _), (7, _), (8, _), (9, _), (20, _), (23, _)] ⟨rfl, rfl, rfl, rfl, rfl, rfl, rfl, rfl, rfl, trivial⟩ ?_
      refine AWP.condT rfl (by first | rfl | (simp; done) | (simp; omega)) ?_
      refine AWP.seq ?_
      refine AWP.region ?_
      refine rC (Calm.assign rfl) ?_
      refine rC (Calm.assign rfl) ?_
      refine arun_nil ?_
      refine athen_n ?_
      refine AWP.ret ?_
      refine ain_ret ?_
      refine athen_ret ?_
      refine ⟨_, M, ⟨_, _, rfl, ⟨_, _, rfl, rfl, rfl⟩, rfl⟩, less_, ?_⟩
      exact ⟨rfl, rfl⟩
    · by_cases q2 : (sec x : Int) ≤ i
      · rw [if_pos (.inr q2)]
        refine ACall.enter (args := [.pointer (some ⟨p, 0, none⟩), .string s, .int .i64 i]) (rs := [.tmp 6, .tmp 7]) 40 [(0, .pointer (some ⟨p, 0, none⟩)), (1, .string s), (2, .int .i64 i)] Try.func94 rfl rfl (Nat.le_of_ble_eq_true rfl) rfl ⟨rfl, rfl, rfl, trivial⟩ ?_
        refine AWP.seq ?_
        refine AWP.region ?_
        refine rC (Calm.assign rfl) ?_
        refine rC (Calm.assign rfl) ?_
        refine arun_nil ?_
        refine athen_n ?_
        refine AWP.seq ?_
        refine AWP.region ?_
        refine rC (Calm.move rfl) ?_
        refine rC (Calm.nilCheck rfl) ?_
        refine rC (Calm.fieldAddr ty_field_90_0 rfl) ?_
        refine rC (Calm.fieldAddr ty_field_25_1 rfl) ?_
        refine rC (ld_ ty_plain_22 rfl) ?_
        refine rC (Calm.move rfl) ?_
        refine ARun.call (lit_lt rfl) go_59 rfl (hfind) ?_
        rintro _ S1 ⟨rfl, h1⟩
        rw [h1, q]; clear h1 S1
        refine rC (Calm.move rfl) ?_
        refine rC (Calm.extract rfl rfl) ?_
        refine rC (Calm.extract rfl rfl) ?_
        refine rC (Calm.assign rfl) ?_
        refine rC (Calm.assign rfl) ?_
        refine arun_nil ?_
        refine athen_n ?_
        refine AWP.sub [(0, _), (1, _), (2, _), (6, _), (7, _), (8, _), (9, _)] ⟨rfl, rfl, rfl, rfl, rfl, rfl, rfl, trivial⟩ ?_
        refine AWP.seq ?_
        refine AWP.block ?_
        refine AWP.seq ?_
        refine AWP.region ?_
        refine rC (Calm.move rfl) ?_
        refine rC (Calm.un rfl (una_not _)) ?_
        refine rC (Calm.assign rfl) ?_
        refine arun_nil ?_
        refine athen_n ?_
        refine AWP.sub [(0, _), (1, _), (2, _), (6, _), (7, _), (8, _), (9, _), (20, _)] ⟨rfl, rfl, rfl, rfl, rfl, rfl, rfl, rfl, trivial⟩ ?_
        refine AWP.condF rfl (by first | rfl | (simp; done) | (simp; omega)) ?_
        refine AWP.seq ?_
        refine AWP.region ?_
        refine rC (Calm.move rfl) ?_
        refine rC (Calm.bin rfl rfl b_lss) ?_
        refine rC (Calm.move rfl) ?_
        first | refine rS 26 ?_ | refine rU 26 ?_ | refine rG 26 (Calm.move rfl) ?_
        first | refine rS 26 ?_ | refine rU 26 ?_ | refine rG 26 (Calm.move rfl) ?_
        first | refine rS 26 ?_ | refine rU 26 ?_ | refine rG 26 (Calm.nilCheck rfl) ?_
        first | refine rS 26 ?_ | refine rU 26 ?_ | refine rG 26 (Calm.fieldAddr ty_field_90_0 rfl) ?_
        first | refine rS 26 ?_ | refine rU 26 ?_ | refine rG 26 (Calm.fieldAddr ty_field_25_1 rfl) ?_
        first | refine rS 26 ?_ | refine rU 26 ?_ | refine rG 26 (ld_ ty_plain_22 rfl) ?_
        first | refine rS 26 ?_ | refine rU 26 ?_ | refine rG 26 (Calm.move rfl) ?_
        first | refine rS 26 ?_ | refine rU 26 ?_ | refine rG 26 (Calm.indexS Try.underlying22 ty_size_54 rfl rfl (by omega) (by omega)) ?_
        first | refine rS 26 ?_ | refine rU 26 ?_ | refine rG 26 (ldA_ (cs := [_, _]) ty_agg_54 ty_size_54 rfl) ?_
        refine ARun.callG 2 false 26 rfl (lit_lt rfl) rfl (lit_lt rfl) go_60 rfl (disk_sectors x _ (by omega)) ?_
        rintro _ S1 ⟨rfl, h1⟩
        rw [h1]; clear h1 S1
        first | refine rS 26 ?_ | refine rU 26 ?_ | refine rG 26 (Calm.bin rfl rfl b_geq) ?_
        refine rC ((by first | exact Calm.pickT rfl rfl | exact Calm.pickF rfl rfl)) ?_
        refine rC (Calm.assign rfl) ?_
        refine arun_nil ?_
        refine athen_n ?_
        refine AWP.sub [(0, _), (1, _), (2, _), (6, _), (7, _), (8, _), (9, _), (20, _), (23, _)] ⟨rfl, rfl, rfl, rfl, rfl, rfl, rfl, rfl, rfl, trivial⟩ ?_
        refine AWP.condT rfl (by first | rfl | (simp; done) | (simp; omega)) ?_
        refine AWP.seq ?_
        refine AWP.region ?_
        refine rC (Calm.assign rfl) ?_
        refine rC (Calm.assign rfl) ?_
        refine arun_nil ?_
        refine athen_n ?_
        refine AWP.ret ?_
        refine ain_ret ?_
        refine athen_ret ?_
        refine ⟨_, M, ⟨_, _, rfl, ⟨_, _, rfl, rfl, rfl⟩, rfl⟩, less_, ?_⟩
        exact ⟨rfl, rfl⟩
      · rw [if_neg (by omega)]
        refine ACall.enter (args := [.pointer (some ⟨p, 0, none⟩), .string s, .int .i64 i]) (rs := [.tmp 6, .tmp 7]) 40 [(0, .pointer (some ⟨p, 0, none⟩)), (1, .string s), (2, .int .i64 i)] Try.func94 rfl rfl (Nat.le_of_ble_eq_true rfl) rfl ⟨rfl, rfl, rfl, trivial⟩ ?_
        refine AWP.seq ?_
        refine AWP.region ?_
        refine rC (Calm.assign rfl) ?_
        refine rC (Calm.assign rfl) ?_
        refine arun_nil ?_
        refine athen_n ?_
        refine AWP.seq ?_
        refine AWP.region ?_
        refine rC (Calm.move rfl) ?_
        refine rC (Calm.nilCheck rfl) ?_
        refine rC (Calm.fieldAddr ty_field_90_0 rfl) ?_
        refine rC (Calm.fieldAddr ty_field_25_1 rfl) ?_
        refine rC (ld_ ty_plain_22 rfl) ?_
        refine rC (Calm.move rfl) ?_
        refine ARun.call (lit_lt rfl) go_59 rfl (hfind) ?_
        rintro _ S1 ⟨rfl, h1⟩
        rw [h1, q]; clear h1 S1
        refine rC (Calm.move rfl) ?_
        refine rC (Calm.extract rfl rfl) ?_
        refine rC (Calm.extract rfl rfl) ?_
        refine rC (Calm.assign rfl) ?_
        refine rC (Calm.assign rfl) ?_
        refine arun_nil ?_
        refine athen_n ?_
        refine AWP.sub [(0, _), (1, _), (2, _), (6, _), (7, _), (8, _), (9, _)] ⟨rfl, rfl, rfl, rfl, rfl, rfl, rfl, trivial⟩ ?_
        refine AWP.seq ?_
        refine AWP.block ?_
        refine AWP.seq ?_
        refine AWP.region ?_
        refine rC (Calm.move rfl) ?_
        refine rC (Calm.un rfl (una_not _)) ?_
        refine rC (Calm.assign rfl) ?_
        refine arun_nil ?_
        refine athen_n ?_
        refine AWP.sub [(0, _), (1, _), (2, _), (6, _), (7, _), (8, _), (9, _), (20, _)] ⟨rfl, rfl, rfl, rfl, rfl, rfl, rfl, rfl, trivial⟩ ?_
        refine AWP.condF rfl (by first | rfl | (simp; done) | (simp; omega)) ?_
        refine AWP.seq ?_
        refine AWP.region ?_
        refine rC (Calm.move rfl) ?_
        refine rC (Calm.bin rfl rfl b_lss) ?_
        refine rC (Calm.move rfl) ?_
        first | refine rS 26 ?_ | refine rU 26 ?_ | refine rG 26 (Calm.move rfl) ?_
        first | refine rS 26 ?_ | refine rU 26 ?_ | refine rG 26 (Calm.move rfl) ?_
        first | refine rS 26 ?_ | refine rU 26 ?_ | refine rG 26 (Calm.nilCheck rfl) ?_
        first | refine rS 26 ?_ | refine rU 26 ?_ | refine rG 26 (Calm.fieldAddr ty_field_90_0 rfl) ?_
        first | refine rS 26 ?_ | refine rU 26 ?_ | refine rG 26 (Calm.fieldAddr ty_field_25_1 rfl) ?_
        first | refine rS 26 ?_ | refine rU 26 ?_ | refine rG 26 (ld_ ty_plain_22 rfl) ?_
        first | refine rS 26 ?_ | refine rU 26 ?_ | refine rG 26 (Calm.move rfl) ?_
        first | refine rS 26 ?_ | refine rU 26 ?_ | refine rG 26 (Calm.indexS Try.underlying22 ty_size_54 rfl rfl (by omega) (by omega)) ?_
        first | refine rS 26 ?_ | refine rU 26 ?_ | refine rG 26 (ldA_ (cs := [_, _]) ty_agg_54 ty_size_54 rfl) ?_
        refine ARun.callG 2 false 26 rfl (lit_lt rfl) rfl (lit_lt rfl) go_60 rfl (disk_sectors x _ (by omega)) ?_
        rintro _ S1 ⟨rfl, h1⟩
        rw [h1]; clear h1 S1
        first | refine rS 26 ?_ | refine rU 26 ?_ | refine rG 26 (Calm.bin rfl rfl b_geq) ?_
        refine rC ((by first | exact Calm.pickT rfl rfl | exact Calm.pickF rfl rfl)) ?_
        refine rC (Calm.assign rfl) ?_
        refine arun_nil ?_
        refine athen_n ?_
        refine AWP.sub [(0, _), (1, _), (2, _), (6, _), (7, _), (8, _), (9, _), (20, _), (23, _)] ⟨rfl, rfl, rfl, rfl, rfl, rfl, rfl, rfl, rfl, trivial⟩ ?_
        refine AWP.condF rfl (by first | rfl | (simp; done) | (simp; omega)) ?_
        refine AWP.skip ?_
        refine ain_n ?_
        refine athen_n ?_
        refine AWP.seq ?_
        refine AWP.region ?_
        refine rC (Calm.move rfl) ?_
        refine rC (Calm.assign rfl) ?_
        refine rC (Calm.assign rfl) ?_
        refine arun_nil ?_
        refine athen_n ?_
        refine AWP.sub [(0, _), (1, _), (2, _), (6, _), (7, _), (8, _), (9, _), (20, _), (23, _)] ⟨rfl, rfl, rfl, rfl, rfl, rfl, rfl, rfl, rfl, trivial⟩ ?_
        refine AWP.ret ?_
        refine ⟨_, M, ⟨_, _, rfl, ⟨_, _, rfl, rfl, rfl⟩, rfl⟩, less_, ?_⟩
        exact ⟨rfl, rfl⟩
  · rw [if_neg q]
    refine ACall.enter (args := [.pointer (some ⟨p, 0, none⟩), .string s, .int .i64 i]) (rs := [.tmp 6, .tmp 7]) 40 [(0, .pointer (some ⟨p, 0, none⟩)), (1, .string s), (2, .int .i64 i)] Try.func94 rfl rfl (Nat.le_of_ble_eq_true rfl) rfl ⟨rfl, rfl, rfl, trivial⟩ ?_
    refine AWP.seq ?_
    refine AWP.region ?_
    refine rC (Calm.assign rfl) ?_
    refine rC (Calm.assign rfl) ?_
    refine arun_nil ?_
    refine athen_n ?_
    refine AWP.seq ?_
    refine AWP.region ?_
    refine rC (Calm.move rfl) ?_
    refine rC (Calm.nilCheck rfl) ?_
    refine rC (Calm.fieldAddr ty_field_90_0 rfl) ?_
    refine rC (Calm.fieldAddr ty_field_25_1 rfl) ?_
    refine rC (ld_ ty_plain_22 rfl) ?_
    refine rC (Calm.move rfl) ?_
    refine ARun.call (lit_lt rfl) go_59 rfl (disk_find _ d.ext s _ hME hR.ex.asc (Nat.le_trans (right_len hR).1 (by decide))) ?_
    rintro _ S1 ⟨rfl, h1⟩
    rw [h1, Bool.eq_false_iff.2 q]; clear h1 S1
    refine rC (Calm.move rfl) ?_
    refine rC (Calm.extract rfl rfl) ?_
    refine rC (Calm.extract rfl rfl) ?_
    refine rC (Calm.assign rfl) ?_
    refine rC (Calm.assign rfl) ?_
    refine arun_nil ?_
    refine athen_n ?_
    refine AWP.sub [(0, _), (1, _), (2, _), (6, _), (7, _), (8, _), (9, _)] ⟨rfl, rfl, rfl, rfl, rfl, rfl, rfl, trivial⟩ ?_
    refine AWP.seq ?_
    refine AWP.block ?_
    refine AWP.seq ?_
    refine AWP.region ?_
    refine rC (Calm.move rfl) ?_
    refine rC (Calm.un rfl (una_not _)) ?_
    refine rC (Calm.assign rfl) ?_
    refine arun_nil ?_
    refine athen_n ?_
    refine AWP.sub [(0, _), (1, _), (2, _), (6, _), (7, _), (8, _), (9, _), (20, _)] ⟨rfl, rfl, rfl, rfl, rfl, rfl, rfl, rfl, trivial⟩ ?_
    refine AWP.condT rfl (by first | rfl | (simp; done) | (simp; omega)) ?_
    refine AWP.seq ?_
    refine AWP.region ?_
    refine rC (Calm.assign rfl) ?_
    refine rC (Calm.assign rfl) ?_
    refine arun_nil ?_
    refine athen_n ?_
    refine AWP.ret ?_
    refine ain_ret ?_
    refine athen_ret ?_
    refine ⟨_, M, ⟨_, _, rfl, ⟨_, _, rfl, rfl, rfl⟩, rfl⟩, less_, ?_⟩
    exact ⟨rfl, rfl⟩
/-- What stands in a world stands in a later one. -/
theorem view_later {w w1 : World} (h : Below w.heap.size w w1) : View (roM w) w1 :=
  ⟨fun _ _ h => (by cases h), fun a v hv => ⟨by
    have hb : a.block < w.heap.size := by
      rcases Nat.lt_or_ge a.block w.heap.size with q | q
      · exact q
      · have hv' : w.cell? a = some v := hv
        simp [World.cell?, Array.getElem?_eq_none q] at hv'
    exact (h.cell hb).trans hv, rfl⟩⟩
theorem place_calls (p : Nat) (d : D) (s : ByteArray) (i : Int) (w : World) (qe : Option Addr) (de : Nat) (sv : Value) (h : RdK (roM w) p d qe de sv) (hR : Right d) (w1 : World) (hb : Below w.heap.size w w1) :
    Calls Try.prog 94 #[.pointer (some ⟨p, 0, none⟩), .string s, .int .i64 i] w1 fun e w2 => e = .returned (.tuple #[.int .i64 ((placeD d s i).1 : Nat), .int .i64 (placeD d s i).2]) ∧ Below w1.heap.size w1 w2 :=
  (dev_placeK p d s i (roM w) qe de sv h hR w1 (view_later hb)).mono fun _ _ ⟨v, S', he, ⟨hr, _⟩, st⟩ => ⟨by rw [he, hr], st.toBelow fun _ => rfl⟩
theorem boxes4 {w w2 : World} {t1 t2 t3 t4 : TypeId} {v1 v2 v3 v4 : Value} (h : Below ((((w.alloc (.cells #[v1] t1)).alloc (.cells #[v2] t2)).alloc (.cells #[v3] t3)).alloc (.cells #[v4] t4)).heap.size ((((w.alloc (.cells #[v1] t1)).alloc (.cells #[v2] t2)).alloc (.cells #[v3] t3)).alloc (.cells #[v4] t4)) w2) :
    Boxed w2 w.heap.size t1 v1 ∧ Boxed w2 (w.heap.size + 1) t2 v2 ∧ Boxed w2 (w.heap.size + 1 + 1) t3 v3 ∧ Boxed w2 (w.heap.size + 1 + 1 + 1) t4 v4 ∧ Below w.heap.size w w2 ∧ w.heap.size + 4 ≤ w2.heap.size := by
  have b1 := (((Boxed.new w t1 v1).alloc (.cells #[v2] t2)).alloc (.cells #[v3] t3)).alloc (.cells #[v4] t4)
  have b2 := ((Boxed.new (w.alloc (.cells #[v1] t1)) t2 v2).alloc (.cells #[v3] t3)).alloc (.cells #[v4] t4)
  have b3 := (Boxed.new ((w.alloc (.cells #[v1] t1)).alloc (.cells #[v2] t2)) t3 v3).alloc (.cells #[v4] t4)
  have b4 := Boxed.new (((w.alloc (.cells #[v1] t1)).alloc (.cells #[v2] t2)).alloc (.cells #[v3] t3)) t4 v4
  have hB0 : Below w.heap.size w ((((w.alloc (.cells #[v1] t1)).alloc (.cells #[v2] t2)).alloc (.cells #[v3] t3)).alloc (.cells #[v4] t4)) := ((((Below.refl _ w).alloc (Nat.le_refl _) _).alloc (by simp) _).alloc (by simp; omega) _).alloc (by simp; omega) _
  have hsz : ((((w.alloc (.cells #[v1] t1)).alloc (.cells #[v2] t2)).alloc (.cells #[v3] t3)).alloc (.cells #[v4] t4)).heap.size = w.heap.size + 4 := by simp
  simp only [World.size_alloc] at b2 b3 b4
  rw [hsz] at h
  exact ⟨(h.block _ (by omega)).trans b1, (h.block _ (by omega)).trans b2, (h.block _ (by omega)).trans b3, (h.block _ (by omega)).trans b4, hB0.trans (h.mono (by omega)), by rw [← hsz]; exact h.size⟩
theorem cell_new3 (W : World) (cs : Array Value) (t : TypeId) (i : Nat) {v : Value} (h : cs[i]? = some v) : (W.alloc (.cells cs t)).cell? ⟨W.heap.size, i, none⟩ = some v := by
  have e := World.alloc_heap_new W (.cells cs t)
  unfold World.cell?
  rw [e]
  exact h
theorem place_ok {d : D} {s : ByteArray} {k : Int} {j : Nat} (hR : Right d) (h : placeD d s k = (j, 0)) : ∃ hlt : j < d.ext.length, exOf d.ext s = d.ext[j] ∧ 0 ≤ k ∧ k < sec d.ext[j] := by
  unfold placeD at h
  by_cases q : has d.ext s = true
  · obtain ⟨hlt, _⟩ := (has_pos hR.ex.asc s).1 q
    rw [if_pos q] at h
    by_cases q1 : k < 0 ∨ (sec (exOf d.ext s) : Int) ≤ k
    · rw [if_pos q1] at h; simp at h
    · rw [if_neg q1] at h
      obtain rfl : pos d.ext s = j := by simpa using h
      rw [exOf_eq hlt] at q1 ⊢
      exact ⟨hlt, rfl, by omega, by omega⟩
  · rw [if_neg q] at h; simp at h
attribute [local go_sem] Oper.semAt_some
theorem boxed_below {n B : Nat} {W W' : World} {t : TypeId} {v : Value} (h : Below n W W') (hb : B < n) (hx : Boxed W B t v) : Boxed W' B t v := (h.block _ hb).trans hx
theorem Waits.grow {n m : Nat} {W : World} {sv : Value} {zs : List Wr} (h : Waits n W sv zs) (hl : n ≤ m) : Waits m W sv zs := by
  obtain ⟨A, cap, e, h1⟩ := h
  exact ⟨A, cap, e, h1.imp id fun ⟨b, off, e1, hb, hc⟩ => ⟨b, off, e1, by omega, hc⟩⟩
theorem wr_facts {m : Nat} {ex : Ext} (h1 : sec ex ≤ 16384 ∧ ex.2.size = 64 * sec ex ∧ 1 ≤ sec ex) (h2 : (m : Int) < (sec ex : Int)) : IntKind.i64.wrap (64 * (m : Int)) = ((64 * m : Nat) : Int) ∧ IntKind.i64.wrap ((m : Int) + 1) = ((m + 1 : Nat) : Int) ∧ IntKind.i64.wrap (64 * ((m + 1 : Nat) : Int)) = ((64 * (m + 1) : Nat) : Int) ∧ 64 * (m + 1) ≤ ex.2.size := by
  refine ⟨?_, ?_, ?_, by omega⟩
  · rw [IntWalk.i64_in _ (by omega)]; omega
  · rw [IntWalk.i64_in _ (by omega)]; omega
  · rw [IntWalk.i64_in _ (by omega)]; omega
/-! ### A region behind a deferred mark -/
def Lk (a : Act) : Env → Prop
  | [] => True
  | (k, v) :: E => a.tmps.getD k undef = v ∧ Lk a E
theorem Lk.at_ {a : Act} : ∀ {E : Env}, Lk a E → ∀ d v, lk E d = some v → a.tmps.getD d undef = v
  | [], _, d, v, h => by cases h
  | (k, u) :: E, ⟨h1, h2⟩, d, v, h => by
    simp only [lk] at h
    split at h
    · rename_i e; cases h; rw [← e]; exact h1
    · exact h2.at_ d v h
theorem yield_calm {P : Program} {N : Nat} {o : Oper} {E : Env} {v : Value} {R : Value → World → Prop} {a : Act} {w : World} (hsz : a.tmps.size = N) (hE : Lk a E) (hc : ACalm P N o E (roM w) v) (hR : R v w) : Reg.Yield P (execOp a.eval o) w R := by
  unfold Reg.Yield
  have := hc ⟨a.tmps, []⟩ w ⟨hsz, rfl, hE.at_⟩ (view_roM w)
  have e : (execOp a.eval o).run P w = .ok (.value v) w := this
  rw [e]; exact hR
theorem rd_roM {w : World} {a : Addr} {v : Value} (h : w.cell? a = some v) : (roM w).rd a = some v := h
theorem yield_store {P : Program} {T : TypeId} {x y : Operand} {a : Act} {w : World} {b : Nat} {t : TypeId} {v0 v : Value} {ty : TypeId} {pos : String} {aft : Array Edge} {gd : Option (Nat × Bool)} {R : Value → World → Prop} (hs : sizeT P T = some 1) (hc : v.cells = #[v]) (h1 : v.oneCell' = true) (hb : Boxed w b t v0) (hx : a.eval x = .pointer (some ⟨b, 0, none⟩)) (hy : a.eval y = v) (hR : R undef (w.setCell ⟨b, 0, none⟩ v)) : Reg.Yield P (execOp a.eval ⟨none, .store T x y, ty, pos, aft, gd⟩) w R := by
  have hv : View ⟨fun k => if k = b then some ⟨t, [v0], 1⟩ else none, fun _ => none⟩ w := ⟨fun k r hk => (by
    by_cases e : k = b
    · subst e
      simp only [if_true] at hk
      cases hk
      exact ⟨#[v0], (0, 0), hb, List.prefix_refl _, Nat.le_refl _, fun j _ h => by omega⟩
    · simp only [if_neg e] at hk; cases hk), fun _ _ h => (by cases h)⟩
  obtain ⟨h2, _⟩ := store_cells (P := P) hv (b := b) (o := 0) (r := ⟨t, [v0], 1⟩) (vs := [v]) (by simp) (Nat.zero_le _) (.inl (Nat.le_refl _)) (by simpa using h1)
  have e : (execOp a.eval ⟨none, .store T x y, ty, pos, aft, gd⟩).run P w = .ok .skip (w.setCell ⟨b, 0, none⟩ v) := by
    have hs' : sizeT P T = some v.cells.size := by rw [hc]; exact hs
    have h2' : (storeCells ⟨b, 0, none⟩ v.cells.toList).run P w = .ok () (w.setCell ⟨b, 0, none⟩ v) := by rw [hc]; exact h2
    simp [execOp, hx, hy, Instr.storeAt, Instr.sureAddr, storeVar, run_sizeT hs' w, h2']
  unfold Reg.Yield
  rw [e]; exact hR
theorem no_dst {ops : Array Oper} {d : Nat} (h : (ops.toList.all fun o => o.dst != some d) = true) : ∀ (k : Nat) (o : Oper), ops[k]? = some o → o.dst ≠ some d := fun k o hk e => by
  have := List.all_eq_true.1 h o (by simpa using Array.mem_of_getElem? hk)
  rw [e] at this; simp at this
/-- The two stores of the answer, as far as they are done. -/
def two (W : World) (B6 B7 : Nat) (v6 v7 : Value) : Bool → Bool → World
  | _, true => (W.setCell ⟨B6, 0, none⟩ v6).setCell ⟨B7, 0, none⟩ v7
  | true, false => W.setCell ⟨B6, 0, none⟩ v6
  | false, false => W
theorem keep_two {W : World} {B6 B7 : Nat} {v6 v7 : Value} {st : Nat → Bool} {w1 : World} {i : Nat} (h : w1 = two W B6 B7 v6 v7 (st 15) (st 16)) (h1 : 15 ≠ i) (h2 : 16 ≠ i) : w1 = two W B6 B7 v6 v7 (Reg.upd st i 15) (Reg.upd st i 16) := by
  rw [Reg.upd_other _ h1, Reg.upd_other _ h2]; exact h
theorem two_none {W : World} {B6 B7 : Nat} {v6 v7 : Value} {st : Nat → Bool} {w1 : World} (h : w1 = two W B6 B7 v6 v7 (st 15) (st 16)) (h1 : st 15 = false) (h2 : st 16 = false) : w1 = W := by
  rw [h, h1, h2]; rfl
set_option maxRecDepth 100000 in
set_option maxHeartbeats 4000000 in
theorem readW (p : Nat) (d : D) (s : ByteArray) (k : Int) (w : World) (qe : Option Addr) (de : Nat) (sv : Value) (h : RdK (roM w) p d qe de sv) (hR : Right d) (hpn : p < w.heap.size) (hWt : Waits w.heap.size w sv d.waits) (hlen : d.waits.length ≤ 16384) :
    Calls Try.prog 62 #[.pointer (some ⟨p, 0, none⟩), .string s, .int .i64 k] w fun e w' => e = .returned (.tuple #[.string (readD d s k).1, .int .i64 (readD d s k).2]) ∧ Below w.heap.size w w' := by
  have hpl := place_calls p d s k w qe de sv h hR
  generalize hrv : readD d s k = rv
  obtain ⟨rv1, rv2⟩ := rv
  unfold readD at hrv
  generalize hpd : placeD d s k = pl at *
  obtain ⟨j, er⟩ := pl
  have hc : ∀ i v, [Value.int .i64 d.size, .slice qe d.ext.length de, sv, .int .i64 d.fuse, .bool d.down][i]? = some v → ∀ w2, Below w.heap.size w w2 → w2.cell? ⟨p, i, none⟩ = some v := fun i v hi w2 hb => by
    have := h.1 w (view_roM w) i v hi
    have e : (⟨p, 0, none⟩ : Addr).add i = ⟨p, i, none⟩ := by unfold Addr.add; cases i <;> simp
    rw [e] at this
    exact (hb.cell (p := ⟨p, i, none⟩) hpn).trans this
  refine (callsIn_wide (n := 6)).1 ?_
  refine callsIn_of_wp_marks Try.func62 rfl trivial ?_ rfl
  simp only [Try.ntmps62, List.size_toArray, List.length_cons, List.length_nil, Nat.reduceAdd, Nat.reduceSub, Array.replicate_succ, Array.replicate_zero, List.push_toArray, List.append_toArray, List.nil_append, List.cons_append]
  have hB4 : ∀ (u1 u2 u3 u4 : Value) (t1 t2 t3 t4 : TypeId), Below w.heap.size w ((((w.alloc (.cells #[u1] t1)).alloc (.cells #[u2] t2)).alloc (.cells #[u3] t3)).alloc (.cells #[u4] t4)) := fun _ _ _ _ _ _ _ _ => ((((Below.refl _ w).alloc (Nat.le_refl _) _).alloc (by simp) _).alloc (by simp; omega) _).alloc (by simp; omega) _
  by_cases q : er = 0
  · subst q
    rw [if_neg (by simp)] at hrv
    obtain ⟨A, cap, rfl, hW1⟩ := id hWt
    gi_wp2_with (first
      | (refine ⟨trivial, ?_⟩; gi_at_call 94; refine (callsIn_wide.2 (hpl _ (hB4 _ _ _ _ _ _ _ _))).mono ?_; rintro e w2 ⟨rfl, hb2⟩; obtain ⟨b4, b5, b6, b7, hB2, hs2⟩ := boxes4 hb2; have cW := hc 2 _ rfl w2 hB2)
      | (refine ⟨trivial, ?_⟩; gi_at_call 95; refine (back_in Fence.wide _ trivial rfl _ _ _ _).mono ?_; rintro e w' ⟨rfl, rfl⟩))
    obtain ⟨W0, hW0⟩ : ∃ W0, w2.alloc (.cells #[.slice A d.waits.length cap] 23) = W0 := ⟨_, rfl⟩
    have bL : Boxed W0 w2.heap.size 23 (.slice A d.waits.length cap) := by rw [← hW0]; exact Boxed.new _ _ _
    have b4' : Boxed W0 w.heap.size 9 (.string s) := by rw [← hW0]; exact b4.alloc _
    have b5' : Boxed W0 (w.heap.size + 1) 3 (.int .i64 k) := by rw [← hW0]; exact b5.alloc _
    have b6' : Boxed W0 (w.heap.size + 1 + 1) 9 (.string { data := #[] }) := by rw [← hW0]; exact b6.alloc _
    have b7' : Boxed W0 (w.heap.size + 1 + 1 + 1) 28 (.int .i64 0) := by rw [← hW0]; exact b7.alloc _
    have hB0 : Below w.heap.size w W0 := by rw [← hW0]; exact hB2.alloc hB2.size _
    have hsz : W0.heap.size = w2.heap.size + 1 := by rw [← hW0]; simp
    rw [hW0]
    clear hW0 b4 b5 b6 b7 hb2
    have hWt0 : Waits W0.heap.size W0 (.slice A d.waits.length cap) d.waits := (hWt.below hB0).grow (by omega)
    refine wpIn_rangeFunc_ownH rfl (by omega) (gf := 124) (lb := #[.pointer (some ⟨w2.heap.size, 0, none⟩)]) rfl trivial (enters_of Try.func124 (by kernel_rfl) rfl)
      (back_stops Fence.wide (6 - 1) trivial rfl (by omega) w2.heap.size W0.heap.size _ d.waits hlen W0 (by omega) (Nat.le_refl _) bL.cell hWt0) belowK_t (belowK_b (Nat.le_refl _)) (Below.refl _ _) (fun _ => rfl)
      (fun pre W => (∀ y ∈ pre, hit s k y = false) ∧ Below W0.heap.size W0 W)
      (fun c pre W => (c = .ret ∧ ∃ pre' y, pre = pre' ++ [y] ∧ (∀ z ∈ pre', hit s k z = false) ∧ hit s k y = true ∧ Boxed W (w.heap.size + 1 + 1) 9 (.string y.2.2.2) ∧ Boxed W (w.heap.size + 1 + 1 + 1) 28 (.int .i64 0)) ∧ Below w.heap.size w W)
      (OwnFrom.and (ownFrom_pure _ _) (ownFrom_below (Nat.le_refl _) (Nat.le_refl _)))
      (fun c => OwnFrom.and (Own.from (fun st A B row hs hg hr => by obtain ⟨e0, pre', y, e1, e2, e3, e4, e5⟩ := hs; exact ⟨e0, pre', y, e1, e2, e3, boxed_own _ _ (fun (_ : Unit) => Value.string y.2.2.2) () A B row e4 hg hr, boxed_own _ _ (fun (_ : Unit) => Value.int .i64 0) () A B row e5 hg hr⟩) _) (ownFrom_below (Nat.le_refl _) hB0.size))
      ⟨by simp, Below.refl _ _⟩
      (fun x a' W => ∃ Bx, (W.cell? ⟨Bx, 0, none⟩ = some (.string x.2.1) ∧ W.cell? ⟨Bx, 1, none⟩ = some (.int .i64 x.2.2.1) ∧ W.cell? ⟨Bx, 2, none⟩ = some (.string x.2.2.2)) ∧ a' = { tmps := #[.pointer (some ⟨p, 0, none⟩), .string s, .int .i64 k, undef, .pointer (some ⟨w.heap.size, 0, none⟩), .pointer (some ⟨w.heap.size + 1, 0, none⟩), .pointer (some ⟨w.heap.size + 1 + 1, 0, none⟩), .pointer (some ⟨w.heap.size + 1 + 1 + 1, 0, none⟩), .int .i64 j, .int .i64 0, undef, .pointer (some ⟨Bx, 0, none⟩), .tuple #[.int .i64 j, .int .i64 0], .pointer (some ⟨p, 0, none⟩), .string s, .int .i64 k, .tuple #[.int .i64 j, .int .i64 0], .int .i64 j, .int .i64 0, .int .i64 0, .bool false, undef, .pointer (some ⟨p, 0, none⟩), .pointer (some ⟨p, 0, none⟩), .pointer (some ⟨p, 0, none⟩), .pointer (some ⟨p, 2, none⟩), .slice A d.waits.length cap, .func (.func 124) #[] #[.pointer (some ⟨w2.heap.size, 0, none⟩)], .int .i64 x.1, wrV x.2, undef, undef, undef, undef, undef, undef, undef, undef, undef, undef, undef, undef, undef, undef, undef, undef, undef, undef, undef, undef, undef, undef, undef, undef, undef, undef, undef], defers := [] })
      (fun x a' st X Y row hs hg hr => by obtain ⟨Bx, ⟨h1, h2, h3⟩, h4⟩ := hs; exact ⟨Bx, ⟨cell_kept h1 hg (fun r e => (hr r e).2), cell_kept h2 hg (fun r e => (hr r e).2), cell_kept h3 hg (fun r e => (hr r e).2)⟩, h4⟩)
      ?assign ?body ?done ?stop
    case assign =>
      rintro l pre x W K ⟨hI1, hI2⟩ hK
      simp only [wrV] at hK ⊢
      gi_wp2
      exact hK _ _ ((KeepsOthers.alloc _ _).from _) ((Below.refl _ W).alloc hI2.size _) ⟨hI1, hI2.alloc hI2.size _⟩ ⟨W.heap.size, ⟨cell_new3 W _ _ 0 rfl, cell_new3 W _ _ 1 rfl, cell_new3 W _ _ 2 rfl⟩, rfl⟩
    case body =>
      rintro l pre x a' W hl ⟨r, hr⟩ ⟨hI1, hI2⟩ ⟨Bx, ⟨c0, c1, c2⟩, rfl⟩ hlt
      simp only [wrV]
      have cs := (boxed_below hI2 (by omega) b4').cell
      have ck := (boxed_below hI2 (by omega) b5').cell
      have bs := boxed_below hI2 (by omega) b6'
      have be := boxed_below hI2 (by omega) b7'
      have cs6 := bs.cell
      have fs6 := bs.frozen
      have cs7 := be.cell
      have fs7 := be.frozen
      have hBW : Below w.heap.size w W := hB0.trans (hI2.mono hB0.size)
      gi_wp2
      · rename_i hx1 hx2
        refine ⟨((KeepsOthers.setCell _ _ _).trans (KeepsOthers.setCell _ _ _)).from _, ⟨rfl, pre, x, rfl, hI1, by unfold hit; rw [hx2, hx1]; simp, (bs.set _).other (by omega) _, (be.other (by omega) _).set _⟩, (hBW.setCell (p := ⟨w.heap.size + 1 + 1, 0, none⟩) (by simp; omega) _).setCell (p := ⟨w.heap.size + 1 + 1 + 1, 0, none⟩) (by simp; omega) _⟩
      · rename_i hx1 hx2
        exact ⟨KeepsFrom.refl _ _, Below.refl _ _, fun y hy => (List.mem_append.1 hy).elim (hI1 y) (fun e => by simp at e; subst e; unfold hit; rw [hx2]; simp), hI2⟩
      · rename_i hx1
        exact ⟨KeepsFrom.refl _ _, Below.refl _ _, fun y hy => (List.mem_append.1 hy).elim (hI1 y) (fun e => by simp at e; subst e; unfold hit; rw [beq_eq_false_iff_ne.2 hx1]; rfl), hI2⟩
    case done =>
      rintro D ys W hD rfl ⟨hI1, hI2⟩ hK
      have hBW : Below w.heap.size w W := hB0.trans (hI2.mono hB0.size)
      obtain ⟨hlt, hex, hk0, hk1⟩ := place_ok hR hpd
      obtain ⟨_, _, ee1, ee2, ee3, hE3⟩ := id h.2
      cases ee1
      obtain ⟨b, off, rfl, hkk⟩ := hE3.resolve_left (fun e => by rw [e] at hlt; simp at hlt)
      have cE := hc 1 _ rfl W hBW
      have ck := (boxed_below hI2 (by omega) b5').cell
      have bs := boxed_below hI2 (by omega) b6'
      have be := boxed_below hI2 (by omega) b7'
      have cs6 := bs.cell
      have fs6 := bs.frozen
      have cs7 := be.cell
      have fs7 := be.frozen
      gi_wp2
      have cX : W.cell? ⟨b, off + j * 2 + 1, none⟩ = some (.string d.ext[j].2) := kn_at (hkk _ hlt) 1 rfl W (view_later hBW) 0 _ rfl
      have hsx := right_sec hR (List.getElem_mem hlt)
      obtain ⟨m, rfl⟩ : ∃ m : Nat, k = m := ⟨k.toNat, by omega⟩
      have hnone : lastW d.waits s m = none := by
        unfold lastW; rw [List.find?_eq_none]; intro y hy; rw [hI1 y hy]; simp
      rw [hnone, hex] at hrv
      clear hex hnone
      generalize d.ext[j] = ex at *
      obtain ⟨hm1, hm2, hm3, hm4⟩ := wr_facts hsx hk1
      clear hpl hc hW1 hWt0 hB4 hB2 cW bL b4' b5' b6' b7' hI1 hkk hE3 hk0
      refine wpIn_wide.2 ?_
      refine Reg.wp_steps rfl (by kernel_rfl) (fun k v _ => v = ([.pointer (some ⟨p, 0, none⟩), .pointer (some ⟨p, 0, none⟩), .pointer (some ⟨p, 0, none⟩), .pointer (some ⟨p, 1, none⟩), .slice (some ⟨b, off, none⟩) d.ext.length de, .int .i64 (j : Int), .pointer (some ⟨b, off + j * 2, none⟩), .pointer (some ⟨b, off + j * 2 + 1, none⟩), .string ex.2, .int .i64 (m : Int), .int .i64 ((64 * m : Nat) : Int), .int .i64 (m : Int), .int .i64 ((m + 1 : Nat) : Int), .int .i64 ((64 * (m + 1) : Nat) : Int), .string (ex.2.extract (64 * m) (64 * (m + 1)))] : List Value).getD k undef) (fun st w' => w' = two W.drew (w.heap.size + 1 + 1) (w.heap.size + 1 + 1 + 1) (.string (ex.2.extract (64 * m) (64 * (m + 1)))) (.int .i64 0) (st 15) (st 16)) (fun _ _ => True) rfl (fun _ _ _ _ _ h => h) (Reg.each ?_) ?fin
      case fin =>
        intro tm w' st hsz' hI hall hDf hbase
        have e15 : st 15 = true := hall 15 (by decide)
        have e16 : st 16 = true := hall 16 (by decide)
        have g6 : tm[6]?.getD undef = .pointer (some ⟨w.heap.size + 1 + 1, 0, none⟩) := by rw [← Array.getD_eq_getD_getElem?]; exact hbase 6 (no_dst (by kernel_rfl))
        have g7 : tm[7]?.getD undef = .pointer (some ⟨w.heap.size + 1 + 1 + 1, 0, none⟩) := by rw [← Array.getD_eq_getD_getElem?]; exact hbase 7 (no_dst (by kernel_rfl))
        have hw' : w' = (W.drew.setCell ⟨w.heap.size + 1 + 1, 0, none⟩ (.string (ex.2.extract (64 * m) (64 * (m + 1))))).setCell ⟨w.heap.size + 1 + 1 + 1, 0, none⟩ (.int .i64 0) := by have h : w' = two _ _ _ _ _ (st 15) (st 16) := hI; rw [h, e15, e16]; rfl
        obtain ⟨rfl, rfl⟩ : ex.2.extract (64 * m) (64 * (m + 1)) = rv1 ∧ (0 : Int) = rv2 := by simpa [Int.toNat_natCast, Nat.mul_succ] using hrv
        have b6 := ((bs.set (W := W.drew) (.string (ex.2.extract (64 * m) (64 * (m + 1))))).other (B' := w.heap.size + 1 + 1 + 1) (by omega) (.int .i64 0))
        have b7 := ((be.other (W := W.drew) (B' := w.heap.size + 1 + 1) (by omega) (.string (ex.2.extract (64 * m) (64 * (m + 1))))).set (.int .i64 0))
        have hB' : Below w.heap.size w w' := by rw [hw']; exact ((hBW.drew).setCell (p := ⟨w.heap.size + 1 + 1, 0, none⟩) (by simp; omega) _).setCell (p := ⟨w.heap.size + 1 + 1 + 1, 0, none⟩) (by simp; omega) _
        have hK' : w'.heap[D]? = some (.deferred (some [])) := by rw [hw', Below.heap_setCell _ _ _ _ (by show D ≠ w.heap.size + 1 + 1 + 1; omega), Below.heap_setCell _ _ _ _ (by show D ≠ w.heap.size + 1 + 1; omega)]; exact hK
        rw [← hw'] at b6 b7
        clear hDf hm1 hm2 hm3 hm4 hsz' hbase hall hI hw' e15 e16 hrv ck cE cX cs6 cs7 fs6 fs7 bs be
        rename_i K1 aK
        refine aK _ _ ?_
        gi_wp2
        refine ⟨by simp, .inl ⟨_, _, rfl, run_takeDeferred hK', ?_⟩⟩
        have h6 := cell_kept b6.cell (grownBy_putObj' _ D (.deferred none)) (fun r e => by cases e; exact ⟨_, hK', rfl⟩)
        have h7 := cell_kept b7.cell (grownBy_putObj' _ D (.deferred none)) (fun r e => by cases e; exact ⟨_, hK', rfl⟩)
        refine ⟨.tuple #[.string (ex.2.extract (64 * m) (64 * (m + 1))), .int .i64 0], ?_, rfl, hB'.trans (belowK_b (w := w) (Nat.le_refl _) _ D _ _ (by omega) hK' rfl rfl)⟩
        simp [results, Try.f62, go_sem, h6, h7, g6, g7]
      refine ⟨?_, ?_, ?_, ?_, ?_, ?_, ?_, ?_, ?_, ?_, ?_, ?_, ?_, ?_, ?_, ?_, ?_, trivial⟩
      all_goals (intro a w1 st ha hI hd hs hi hw hT; clear hK hBW hI2 hB0 hWt hpd hrv h)
      · obtain rfl := two_none hI (hw 15 (by kernel_rfl)) (hw 16 (by kernel_rfl))
        exact yield_calm ha (E := [(0, .pointer (some ⟨p, 0, none⟩))]) ⟨hT 0 (by kernel_rfl), trivial⟩ (Calm.move rfl) ⟨rfl, keep_two hI (by decide) (by decide), trivial⟩
      · obtain rfl := two_none hI (hw 15 (by kernel_rfl)) (hw 16 (by kernel_rfl))
        exact yield_calm ha (E := [(42, .pointer (some ⟨p, 0, none⟩))]) ⟨hd ⟨0, .data⟩ (by simp) rfl _ _ rfl rfl, trivial⟩ (Calm.nilCheck rfl) ⟨rfl, keep_two hI (by decide) (by decide), trivial⟩
      · obtain rfl := two_none hI (hw 15 (by kernel_rfl)) (hw 16 (by kernel_rfl))
        exact yield_calm ha (E := [(43, .pointer (some ⟨p, 0, none⟩))]) ⟨hd ⟨1, .data⟩ (by simp) rfl _ _ rfl rfl, trivial⟩ (Calm.fieldAddr (n := 4) (off := 0) (by kernel_rfl) rfl) ⟨rfl, keep_two hI (by decide) (by decide), trivial⟩
      · obtain rfl := two_none hI (hw 15 (by kernel_rfl)) (hw 16 (by kernel_rfl))
        exact yield_calm ha (E := [(44, .pointer (some ⟨p, 0, none⟩))]) ⟨hd ⟨2, .data⟩ (by simp) rfl _ _ rfl rfl, trivial⟩ (Calm.fieldAddr (n := 0) (off := 1) (by kernel_rfl) rfl) ⟨rfl, keep_two hI (by decide) (by decide), trivial⟩
      · obtain rfl := two_none hI (hw 15 (by kernel_rfl)) (hw 16 (by kernel_rfl))
        exact yield_calm ha (E := [(45, .pointer (some ⟨p, 1, none⟩))]) ⟨hd ⟨3, .data⟩ (by simp) rfl _ _ rfl rfl, trivial⟩ (Calm.load (by kernel_rfl) rfl (rd_roM cE)) ⟨rfl, keep_two hI (by decide) (by decide), trivial⟩
      · obtain rfl := two_none hI (hw 15 (by kernel_rfl)) (hw 16 (by kernel_rfl))
        exact yield_calm ha (E := [(8, .int .i64 (j : Int))]) ⟨hT 8 (by kernel_rfl), trivial⟩ (Calm.move rfl) ⟨rfl, keep_two hI (by decide) (by decide), trivial⟩
      · obtain rfl := two_none hI (hw 15 (by kernel_rfl)) (hw 16 (by kernel_rfl))
        exact yield_calm ha (E := [(46, .slice (some ⟨b, off, none⟩) d.ext.length de), (47, .int .i64 (j : Int))]) ⟨hd ⟨4, .data⟩ (by simp) rfl _ _ rfl rfl, hd ⟨5, .data⟩ (by simp) rfl _ _ rfl rfl, trivial⟩ (Calm.indexS (e := 54) (n := 2) (by kernel_rfl) (by kernel_rfl) rfl rfl (Int.natCast_nonneg _) (Int.ofNat_lt.2 hlt)) ⟨rfl, keep_two hI (by decide) (by decide), trivial⟩
      · obtain rfl := two_none hI (hw 15 (by kernel_rfl)) (hw 16 (by kernel_rfl))
        exact yield_calm ha (E := [(48, .pointer (some ⟨b, off + j * 2, none⟩))]) ⟨hd ⟨6, .data⟩ (by simp) rfl _ _ rfl rfl, trivial⟩ (Calm.fieldAddr (n := 0) (off := 1) (by kernel_rfl) rfl) ⟨rfl, keep_two hI (by decide) (by decide), trivial⟩
      · obtain rfl := two_none hI (hw 15 (by kernel_rfl)) (hw 16 (by kernel_rfl))
        exact yield_calm ha (E := [(49, .pointer (some ⟨b, off + j * 2 + 1, none⟩))]) ⟨hd ⟨7, .data⟩ (by simp) rfl _ _ rfl rfl, trivial⟩ (Calm.load (by kernel_rfl) rfl (rd_roM cX)) ⟨rfl, keep_two hI (by decide) (by decide), trivial⟩
      · obtain rfl := two_none hI (hw 15 (by kernel_rfl)) (hw 16 (by kernel_rfl))
        exact yield_calm ha (E := [(5, .pointer (some ⟨w.heap.size + 1, 0, none⟩))]) ⟨hT 5 (by kernel_rfl), trivial⟩ (Calm.load (by kernel_rfl) rfl (rd_roM ck)) ⟨rfl, keep_two hI (by decide) (by decide), trivial⟩
      · obtain rfl := two_none hI (hw 15 (by kernel_rfl)) (hw 16 (by kernel_rfl))
        exact yield_calm ha (E := [(51, .int .i64 (m : Int))]) ⟨hd ⟨9, .data⟩ (by simp) rfl _ _ rfl rfl, trivial⟩ (Calm.bin rfl rfl (bin_mulW hm1)) ⟨rfl, keep_two hI (by decide) (by decide), trivial⟩
      · obtain rfl := two_none hI (hw 15 (by kernel_rfl)) (hw 16 (by kernel_rfl))
        exact yield_calm ha (E := [(5, .pointer (some ⟨w.heap.size + 1, 0, none⟩))]) ⟨hT 5 (by kernel_rfl), trivial⟩ (Calm.load (by kernel_rfl) rfl (rd_roM ck)) ⟨rfl, keep_two hI (by decide) (by decide), trivial⟩
      · obtain rfl := two_none hI (hw 15 (by kernel_rfl)) (hw 16 (by kernel_rfl))
        exact yield_calm ha (E := [(53, .int .i64 (m : Int))]) ⟨hd ⟨11, .data⟩ (by simp) rfl _ _ rfl rfl, trivial⟩ (Calm.bin rfl rfl (bin_addW hm2)) ⟨rfl, keep_two hI (by decide) (by decide), trivial⟩
      · obtain rfl := two_none hI (hw 15 (by kernel_rfl)) (hw 16 (by kernel_rfl))
        exact yield_calm ha (E := [(54, .int .i64 ((m + 1 : Nat) : Int))]) ⟨hd ⟨12, .data⟩ (by simp) rfl _ _ rfl rfl, trivial⟩ (Calm.bin rfl rfl (bin_mulW hm3)) ⟨rfl, keep_two hI (by decide) (by decide), trivial⟩
      · obtain rfl := two_none hI (hw 15 (by kernel_rfl)) (hw 16 (by kernel_rfl))
        exact yield_calm ha (E := [(50, .string ex.2), (52, .int .i64 ((64 * m : Nat) : Int)), (55, .int .i64 ((64 * (m + 1) : Nat) : Int))]) ⟨hd ⟨8, .data⟩ (by simp) rfl _ _ rfl rfl, hd ⟨10, .data⟩ (by simp) rfl _ _ rfl rfl, hd ⟨13, .data⟩ (by simp) rfl _ _ rfl rfl, trivial⟩ (Calm.sliceStr (l := 64 * m) (h := 64 * (m + 1)) (by kernel_rfl) rfl ⟨_, _, rfl, Int.natCast_nonneg _, Int.ofNat_le.2 hm4, rfl⟩ ⟨_, _, rfl, Int.natCast_nonneg _, Int.ofNat_le.2 (Nat.mul_le_mul_left 64 (Nat.le_succ m)), rfl⟩) ⟨rfl, keep_two hI (by decide) (by decide), trivial⟩
      · obtain rfl := two_none hI hi (hw 16 (by kernel_rfl))
        refine yield_store (v := .string (ex.2.extract (64 * m) (64 * (m + 1)))) (by kernel_rfl) rfl rfl bs (hT 6 (by kernel_rfl)) (hd ⟨14, .data⟩ (by simp) rfl _ _ rfl rfl) ⟨rfl, ?_, trivial⟩
        show _ = two _ _ _ _ _ (Reg.upd st 15 15) (Reg.upd st 15 16)
        rw [Reg.upd_same, Reg.upd_other _ (by decide), show st 16 = false from hw 16 (by kernel_rfl)]; rfl
      · have e15 : st 15 = true := hs ⟨15, .chain⟩ (by simp) rfl
        have e16 : st 16 = false := hi
        have hw1 : w1 = W.drew.setCell ⟨w.heap.size + 1 + 1, 0, none⟩ (.string (ex.2.extract (64 * m) (64 * (m + 1)))) := by have h : w1 = two _ _ _ _ _ (st 15) (st 16) := hI; rw [h, e15, e16]; rfl
        subst hw1
        refine yield_store (v := .int .i64 0) (by kernel_rfl) rfl rfl (be.other (W := W.drew) (by omega) _) (hT 7 (by kernel_rfl)) rfl ⟨rfl, ?_, trivial⟩
        show _ = two _ _ _ _ _ (Reg.upd st 16 15) (Reg.upd st 16 16)
        rw [Reg.upd_same, Reg.upd_other _ (by decide), e15]; rfl
    case stop =>
      rintro D c pre W hD ⟨n, hn, rfl⟩ ⟨⟨rfl, pre', y, e1, e2, e3, e4, e5⟩, hB⟩ hK
      have c6 := e4.cell
      have c7 := e5.cell
      have hsome : lastW d.waits s k = some y := by
        unfold lastW
        obtain ⟨r, hr⟩ : ∃ r, upto (backF d.waits) d.waits.length = upto (backF d.waits) n ++ r := by
          refine ⟨((List.range d.waits.length).drop n).map (backF d.waits), ?_⟩
          unfold upto
          rw [← List.map_append]
          congr 1
          rw [show List.range n = (List.range d.waits.length).take n from by rw [List.take_range]; congr 1; omega, List.take_append_drop]
        rw [hr, e1, List.append_assoc, List.find?_append, List.find?_eq_none.2 (fun z hz => by rw [e2 z hz]; simp)]
        simp [e3]
      rw [hsome] at hrv
      obtain ⟨rfl, rfl⟩ : y.2.2.2 = rv1 ∧ (0 : Int) = rv2 := by simpa using hrv
      gi_wp2
      refine ⟨by simp, .inl ⟨_, _, rfl, run_takeDeferred hK, ?_⟩⟩
      have h6 := cell_kept c6 (grownBy_putObj' _ D (.deferred none)) (fun r e => by cases e; exact ⟨_, hK, rfl⟩)
      have h7 := cell_kept c7 (grownBy_putObj' _ D (.deferred none)) (fun r e => by cases e; exact ⟨_, hK, rfl⟩)
      refine ⟨.tuple #[.string y.2.2.2, .int .i64 0], ?_, rfl, hB.trans (belowK_b (w := w) (Nat.le_refl _) W D _ _ (by omega) hK rfl rfl)⟩
      simp [results, Try.f62, go_sem, h6, h7]
  · rw [if_pos q] at hrv
    obtain ⟨rfl, rfl⟩ : ByteArray.empty = rv1 ∧ er = rv2 := by simpa using hrv
    gi_wp2_with (refine ⟨trivial, ?_⟩; gi_at_call 94; refine (callsIn_wide.2 (hpl _ (hB4 _ _ _ _ _ _ _ _))).mono ?_; rintro e w2 ⟨rfl, hb2⟩; obtain ⟨b4, b5, b6, b7, hB2, hs2⟩ := boxes4 hb2; have c6 := b6.cell; have f6 := b6.frozen; have c7 := b7.cell; have f7 := b7.frozen)
    have c6' := ((b6.set (.string ⟨#[]⟩)).other (B' := w.heap.size + 1 + 1 + 1) (by omega) (.int .i64 er)).cell
    have c7' := ((b7.other (B' := w.heap.size + 1 + 1) (by omega) (.string ⟨#[]⟩)).set (.int .i64 er)).cell
    refine ⟨.tuple #[.string ⟨#[]⟩, .int .i64 er], ?_, rfl, (hB2.setCell (p := ⟨w.heap.size + 1 + 1, 0, none⟩) (by simp; omega) _).setCell (p := ⟨w.heap.size + 1 + 1 + 1, 0, none⟩) (by simp; omega) _⟩
    simp [results, Try.f62, go_sem, c6', c7']
end Go.Proofs.Ytkeiphkccnfhoaa
