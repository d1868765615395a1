/-
  Sel: rows of a list of bits, by the document.
-/
import Derived.Test.YtddabbfjoejalaaSel9
namespace Go.Proofs.Ytddabbfjoejalaa
open Go.RowKit
open Mv Bits Sel
set_option linter.unusedVariables false
set_option linter.unusedSimpArgs false
set_option maxRecDepth 20000
namespace Sel
noncomputable def ofP (L : List Bool) : ByteArray × Int × List Int × Int := if 65536 < L.length then (ByteArray.empty, 0, [], 1) else makeR (bs (pack L)) (L.length : Nat)
end Sel
set_option maxHeartbeats 1000000 in
theorem rselV_Of (a : Option Addr) (n cap : Nat) (L : List Bool) (S : Mem) (hL : IsBl S a n L) (hz : L.length ≤ 65536 → (bs (pack L)).size ≤ 281474976710656) :
    ACall Try.prog 33 #[.slice a n cap] S (RwR (ofP L) S) := by
  have hn : L.length = n := hL.1
  unfold ofP
  by_cases hb : 65536 < L.length
  · rw [if_pos hb]
    refine ACall.enter (args := [.slice a n cap]) (rs := [.cell 2 49, .tmp 3]) 13 [(0, .slice a n cap)] Try.func33 rfl rfl (Nat.le_of_ble_eq_true rfl) rfl ⟨rfl, trivial⟩ ?_
    refine AWP.seq ?_
    refine AWP.region ?_
    refine ARun.alloc (lit_lt rfl) ty_zero_49 ?_
    intro b2 f2
    have g2 := f2
    repeat ((with_reducible replace g2 := fresh_set g2); obtain ⟨g2, _⟩ := g2)
    (try simp only [List.length_cons, List.length_nil, Nat.zero_add, Nat.reduceAdd])
    refine rC (Calm.assign rfl) ?_
    refine arun_nil ?_
    refine athen_n ?_
    refine AWP.seq ?_
    refine AWP.seq ?_
    refine AWP.region ?_
    refine rC (Calm.move rfl) ?_
    refine rC (Calm.lenSl Try.underlying43 rfl) ?_
    refine rC (Calm.bin rfl rfl b_gtr) ?_
    refine arun_nil ?_
    refine athen_n ?_
    refine AWP.sub [(0, _), (2, _), (3, _), (6, _)] ⟨rfl, rfl, rfl, rfl, trivial⟩ ?_
    refine AWP.condT rfl (by first | rfl | (simp; done) | (simp; omega)) ?_
    refine AWP.seq ?_
    refine AWP.region ?_
    refine rC (Calm.build (cs := [_, _, _]) ty_bld_49 rfl rfl) ?_
    first | refine ARun.storeAll rfl rfl ty_size_49 own_ rfl rfl ?_ | refine ARun.store rfl rfl ty_size_49 own_ lens_ rfl ?_
    (try simp only [Mem.set_set, List.set_cons_zero, List.set_cons_succ, Nat.zero_add, Nat.reduceAdd])
    refine rC (Calm.assign rfl) ?_
    refine arun_nil ?_
    refine athen_n ?_
    refine AWP.sub [(0, _), (2, _), (3, _), (6, _)] ⟨rfl, rfl, rfl, rfl, trivial⟩ ?_
    refine AWP.ret ?_
    refine athen_ret ?_
    refine ⟨_, S, ⟨_, _, _, rfl, .inr ⟨ty_agg_49, [_, _, _], ty_size_49, rds_, rfl⟩, ⟨_, _, rfl, rfl, rfl⟩, rfl⟩, less_, ?_⟩
    exact ⟨_, rfl, Mem.Less.refl _, Sl.nil _ _ _⟩
  · rw [if_neg hb]
    have hof := refV_Of a n cap L S hL
    rw [hn]
    refine ACall.enter (args := [.slice a n cap]) (rs := [.cell 2 49, .tmp 3]) 13 [(0, .slice a n cap)] Try.func33 rfl rfl (Nat.le_of_ble_eq_true rfl) rfl ⟨rfl, trivial⟩ ?_
    refine AWP.seq ?_
    refine AWP.region ?_
    refine ARun.alloc (lit_lt rfl) ty_zero_49 ?_
    intro b2 f2
    have g2 := f2
    repeat ((with_reducible replace g2 := fresh_set g2); obtain ⟨g2, _⟩ := g2)
    (try simp only [List.length_cons, List.length_nil, Nat.zero_add, Nat.reduceAdd])
    refine rC (Calm.assign rfl) ?_
    refine arun_nil ?_
    refine athen_n ?_
    refine AWP.seq ?_
    refine AWP.seq ?_
    refine AWP.region ?_
    refine rC (Calm.move rfl) ?_
    refine rC (Calm.lenSl Try.underlying43 rfl) ?_
    refine rC (Calm.bin rfl rfl b_gtr) ?_
    refine arun_nil ?_
    refine athen_n ?_
    refine AWP.sub [(0, _), (2, _), (3, _), (6, _)] ⟨rfl, rfl, rfl, rfl, trivial⟩ ?_
    refine AWP.condF rfl (by first | rfl | (simp; done) | (simp; omega)) ?_
    refine AWP.skip ?_
    refine athen_n ?_
    refine AWP.seq ?_
    refine AWP.region ?_
    refine rC (Calm.move rfl) ?_
    refine ARun.call (lit_lt rfl) go_62 rfl (hof.frame f2) ?_
    rintro _ S1 ⟨M, ⟨rfl, hM⟩, f2', h1⟩
    rw [h1, hM]; clear h1 hM f2' S1 M; unfold bv
    refine ARun.call (lit_lt rfl) go_31 rfl ((rselV_Make (bs (pack L)) (n : Int) S (hz (by omega))).frame f2) ?_
    rintro _ S1 ⟨M, ⟨hc, rfl, hM, hvv⟩, f2', rfl⟩
    obtain ⟨pm, cm, rfl, _⟩ := id hvv
    refine rC (Calm.extract rfl rfl) ?_
    refine rC (Calm.extract rfl rfl) ?_
    first | refine ARun.storeAll rfl rfl ty_size_49 own_ rfl rfl ?_ | refine ARun.store rfl rfl ty_size_49 own_ lens_ rfl ?_
    (try simp only [Mem.set_set, List.set_cons_zero, List.set_cons_succ, Nat.zero_add, Nat.reduceAdd])
    refine rC (Calm.assign rfl) ?_
    refine arun_nil ?_
    refine athen_n ?_
    refine AWP.sub [(0, _), (2, _), (3, _), (6, _)] ⟨rfl, rfl, rfl, rfl, trivial⟩ ?_
    refine AWP.ret ?_
    refine ⟨_, M, ⟨_, _, _, rfl, .inr ⟨ty_agg_49, [_, _, _], ty_size_49, rds_, rfl⟩, ⟨_, _, rfl, rfl, rfl⟩, rfl⟩, less_, ?_⟩
    exact ⟨_, rfl, hM, hvv⟩
end Go.Proofs.Ytddabbfjoejalaa
