/-
  Disk: the law DiskMakes walked.
-/
import Derived.Test.YtkeiphkccnfhoaaDiskLv
import Derived.Test.YtkeiphkccnfhoaaDiskOpen
namespace Go.Proofs.Ytkeiphkccnfhoaa
open Go.RowKit
open Mv Disk
set_option linter.unusedVariables false
set_option linter.unusedSimpArgs false
set_option maxRecDepth 20000
set_option maxHeartbeats 2000000 in
theorem law_DiskMakes (n : Int) (S : Mem) : ACall Try.prog 5 #[.int .i64 n] S fun r S' => r = .bool true := by
  have c1 := fun S => disk_Make n S
  have c2 := fun S => rdisk_Make n S
  generalize makeD n = u1 at *
  refine ACall.enter (args := [.int .i64 n]) (rs := [.tmp 2]) 28 [(0, .int .i64 n)] Try.func5 rfl rfl (Nat.le_of_ble_eq_true rfl) rfl ⟨rfl, trivial⟩ ?_
  refine AWP.seq ?_
  refine AWP.region ?_
  refine rC (Calm.assign rfl) ?_
  refine arun_nil ?_
  refine athen_n ?_
  refine AWP.seq ?_
  refine AWP.region ?_
  refine rC (Calm.move rfl) ?_
  refine ARun.call (lit_lt rfl) go_35 rfl (c1 _) ?_
  rintro _ S1 ⟨v, rfl, hS1, hd1⟩
  obtain ⟨p1, q1, r1, s1, rfl, hE1, hW1⟩ := id hd1
  refine rC (Calm.move rfl) ?_
  refine rC (Calm.extract rfl rfl) ?_
  refine rC (Calm.extract rfl rfl) ?_
  refine ARun.alloc (lit_lt rfl) ty_zero_25 ?_
  intro b3 f3
  have g3 := f3
  repeat ((with_reducible replace g3 := fresh_set g3); obtain ⟨g3, _⟩ := g3)
  (try simp only [List.length_cons, List.length_nil, Nat.zero_add, Nat.reduceAdd])
  first | refine ARun.storeAll rfl rfl ty_size_25 own_ rfl rfl ?_ | refine ARun.store rfl rfl ty_size_25 own_ lens_ rfl ?_
  (try simp only [Mem.set_set, List.set_cons_zero, List.set_cons_succ, Nat.zero_add, Nat.reduceAdd])
  refine rC (Calm.assign rfl) ?_
  refine arun_nil ?_
  refine athen_n ?_
  refine AWP.sub [(0, _), (2, _), (3, _), (4, _)] ⟨rfl, rfl, rfl, rfl, trivial⟩ ?_
  refine named (S := S1) (b := b3) g3.1 ?_
  intro T3 hT3 kb3
  replace hd1 := hd1.less hT3
  refine AWP.seq ?_
  refine AWP.region ?_
  refine rC (Calm.move rfl) ?_
  refine ARun.call (lit_lt rfl) go_36 rfl (c2 _) ?_
  rintro _ S2 ⟨v, rfl, hS2, hd2⟩
  obtain ⟨p2, q2, r2, s2, rfl, hE2, hW2⟩ := id hd2
  replace hd1 := hd1.less hS2
  replace kb3 := hS2.own kb3
  refine rC (Calm.move rfl) ?_
  refine rC (Calm.extract rfl rfl) ?_
  refine rC (Calm.extract rfl rfl) ?_
  refine ARun.alloc (lit_lt rfl) ty_zero_25 ?_
  intro b5 f5
  have g5 := f5
  repeat ((with_reducible replace g5 := fresh_set g5); obtain ⟨g5, _⟩ := g5)
  have := g5.ne kb3; have := g5.ne' kb3
  (try simp only [List.length_cons, List.length_nil, Nat.zero_add, Nat.reduceAdd])
  first | refine ARun.storeAll rfl rfl ty_size_25 own_ rfl rfl ?_ | refine ARun.store rfl rfl ty_size_25 own_ lens_ rfl ?_
  (try simp only [Mem.set_set, List.set_cons_zero, List.set_cons_succ, Nat.zero_add, Nat.reduceAdd])
  refine rC (Calm.assign rfl) ?_
  refine arun_nil ?_
  refine athen_n ?_
  refine AWP.sub [(0, _), (2, _), (3, _), (4, _), (5, _), (6, _)] ⟨rfl, rfl, rfl, rfl, rfl, rfl, trivial⟩ ?_
  refine named (S := S2) (b := b5) g5.1 ?_
  intro T5 hT5 kb5
  replace hd1 := hd1.less hT5
  replace kb3 := hT5.own kb3
  replace hd2 := hd2.less hT5
  refine AWP.seq ?_
  refine AWP.region ?_
  refine ARun.call (lit_lt rfl) go_23 rfl (lv_lives _) ?_
  rintro _ Sx ⟨rfl, h1⟩
  rw [h1]; clear h1 Sx
  refine rC (Calm.move rfl) ?_
  first | refine rS 18 ?_ | refine rU 18 ?_ | refine rG 18 (ldA_ (cs := [_, _, _, _, _]) ty_agg_25 ty_size_25 rfl) ?_
  first | refine rS 18 ?_ | refine rU 18 ?_ | refine rG 18 (ldA_ (cs := [_, _, _, _, _]) ty_agg_25 ty_size_25 rfl) ?_
  refine ARun.callG 1 true 18 rfl (lit_lt rfl) rfl (lit_lt rfl) go_24 rfl (rd_Same _ _ u1.1 _ hd1 hd2) ?_
  rintro _ Sx ⟨rfl, h1⟩
  rw [h1]; clear h1 Sx
  refine rC ((by first | exact Calm.pickT rfl rfl | exact Calm.pickF rfl rfl)) ?_
  refine rC (Calm.move rfl) ?_
  first | refine rS 23 ?_ | refine rU 23 ?_ | refine rG 23 (Calm.move rfl) ?_
  first | refine rS 23 ?_ | refine rU 23 ?_ | refine rG 23 (Calm.move rfl) ?_
  first | refine rS 23 ?_ | refine rU 23 ?_ | refine rG 23 (Calm.bin rfl rfl (bin_bool b_eql (decide_eq_true rfl))) ?_
  refine rC ((by first | exact Calm.pickT rfl rfl | exact Calm.pickF rfl rfl)) ?_
  refine rC (Calm.assign rfl) ?_
  refine arun_nil ?_
  refine athen_n ?_
  refine AWP.sub [(0, _), (2, _), (3, _), (4, _), (5, _), (6, _)] ⟨rfl, rfl, rfl, rfl, rfl, rfl, trivial⟩ ?_
  refine AWP.ret ?_
  refine ⟨_, _, ⟨_, _, rfl, rfl, rfl⟩, less_, ?_⟩
  rfl
theorem walk_DiskMakes (n : Int) (W : World) (w0 : (Lit.int .i64 n).wf = true) : Calls Try.prog 5 #[.int .i64 n] W fun e w' => e = .returned (.bool true) ∧ Below W.heap.size W w' :=
  ACall.callsW (law_DiskMakes n _)
end Go.Proofs.Ytkeiphkccnfhoaa
