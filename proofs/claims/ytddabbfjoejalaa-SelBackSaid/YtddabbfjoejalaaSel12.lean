/-
  Sel: rows of any list of bits that comes in; the answers that each law asks for first.
-/
import Derived.Test.YtddabbfjoejalaaSel11
namespace Go.Proofs.Ytddabbfjoejalaa
open Go.RowKit
open Mv Bits Sel
set_option linter.unusedVariables false
set_option linter.unusedSimpArgs false
set_option maxRecDepth 20000
def bools (b : Bool) : List Value := [.bool b]
theorem isBl_sl {S : Mem} {a : Option Addr} {n cap : Nat} {L : List Bool} (h : Sl 1 bools S (.slice a n cap) L) (hn : n ≤ 65536) : IsBl S a n L := by
  obtain ⟨a', c', e1, e2, e3, e4⟩ := h
  cases e1
  refine ⟨rfl, by omega, ?_⟩
  rcases e4 with e4 | ⟨b, off, e5, e6⟩
  · left; rw [e4]; rfl
  · right
    refine ⟨b, off, e5, fun i hi => ?_⟩
    have := e6 i hi
    rw [Nat.mul_one] at this
    have e : L.getD i false = L[i] := by simp [List.getD, List.getElem?_eq_getElem hi]
    rw [e]; exact this
theorem RwR.slices {p : ByteArray × Int × List Int × Int} {S S' : Mem} {r : Value} (h : RwR p S r S') : ∃ pa ca, r = .tuple #[.agg #[.string p.1, .int .i64 p.2.1, .slice pa p.2.2.1.length ca], .int .i64 p.2.2.2] ∧ S.Less S' ∧ Sl 1 i64s S' (.slice pa p.2.2.1.length ca) p.2.2.1 := by
  obtain ⟨hc, rfl, hl, hs⟩ := h
  obtain ⟨pa, ca, rfl, _⟩ := id hs
  exact ⟨pa, ca, rfl, hl, hs⟩
theorem selV_OfS (v : Value) (L : List Bool) (S : Mem) (h : Sl 1 bools S v L) :
    ACall Try.prog 32 #[v] S (RwR (ofP L) S) := by
  obtain ⟨a, cap, rfl, h2, h3, h4⟩ := id h
  by_cases hn : L.length ≤ 65536
  · exact selV_Of a L.length cap L S (isBl_sl h hn) hn
  · unfold ofP
    rw [if_pos (by omega)]
    clear h h4
    generalize L.length = n at *
    refine ACall.enter (args := [.slice a n cap]) (rs := [.cell 2 49, .tmp 3]) 30 [(0, .slice a n cap)] Try.func32 rfl rfl (Nat.le_of_ble_eq_true rfl) rfl ⟨rfl, trivial⟩ ?_
    refine AWP.seq ?_
    refine AWP.region ?_
    refine ARun.alloc (lit_lt rfl) ty_zero_49 ?_
    intro b2 f2
    have g2 := f2
    repeat ((with_reducible replace g2 := fresh_set g2); obtain ⟨g2, _⟩ := g2)
    (try simp only [List.length_cons, List.length_nil, Nat.zero_add, Nat.reduceAdd])
    refine rC (Calm.assign rfl) ?_
    refine arun_nil ?_
    refine athen_n ?_
    refine AWP.seq ?_
    refine AWP.seq ?_
    refine AWP.region ?_
    refine rC (Calm.move rfl) ?_
    refine rC (Calm.lenSl Try.underlying43 rfl) ?_
    refine rC (Calm.bin rfl rfl b_gtr) ?_
    refine arun_nil ?_
    refine athen_n ?_
    refine AWP.sub [(0, _), (2, _), (3, _), (10, _)] ⟨rfl, rfl, rfl, rfl, trivial⟩ ?_
    refine AWP.condT rfl (by first | rfl | (simp; done) | (simp; omega)) ?_
    refine AWP.seq ?_
    refine AWP.region ?_
    refine rC (Calm.build (cs := [_, _, _]) ty_bld_49 rfl rfl) ?_
    first | refine ARun.storeAll rfl rfl ty_size_49 own_ rfl rfl ?_ | refine ARun.store rfl rfl ty_size_49 own_ lens_ rfl ?_
    (try simp only [Mem.set_set, List.set_cons_zero, List.set_cons_succ, Nat.zero_add, Nat.reduceAdd])
    refine rC (Calm.assign rfl) ?_
    refine arun_nil ?_
    refine athen_n ?_
    refine AWP.sub [(0, _), (2, _), (3, _), (10, _)] ⟨rfl, rfl, rfl, rfl, trivial⟩ ?_
    refine AWP.ret ?_
    refine athen_ret ?_
    refine ⟨_, S, ⟨_, _, _, rfl, .inr ⟨ty_agg_49, [_, _, _], ty_size_49, rds_, rfl⟩, ⟨_, _, rfl, rfl, rfl⟩, rfl⟩, less_, ?_⟩
    exact ⟨_, rfl, Mem.Less.refl _, Sl.nil _ _ _⟩
theorem rselV_OfS (v : Value) (L : List Bool) (S : Mem) (h : Sl 1 bools S v L) :
    ACall Try.prog 33 #[v] S (RwR (ofP L) S) := by
  obtain ⟨a, cap, rfl, h2, h3, h4⟩ := id h
  by_cases hn : L.length ≤ 65536
  · exact rselV_Of a L.length cap L S (isBl_sl h hn) (fun _ => by rw [bs_size, pack_length]; omega)
  · unfold ofP
    rw [if_pos (by omega)]
    clear h h4
    generalize L.length = n at *
    refine ACall.enter (args := [.slice a n cap]) (rs := [.cell 2 49, .tmp 3]) 13 [(0, .slice a n cap)] Try.func33 rfl rfl (Nat.le_of_ble_eq_true rfl) rfl ⟨rfl, trivial⟩ ?_
    refine AWP.seq ?_
    refine AWP.region ?_
    refine ARun.alloc (lit_lt rfl) ty_zero_49 ?_
    intro b2 f2
    have g2 := f2
    repeat ((with_reducible replace g2 := fresh_set g2); obtain ⟨g2, _⟩ := g2)
    (try simp only [List.length_cons, List.length_nil, Nat.zero_add, Nat.reduceAdd])
    refine rC (Calm.assign rfl) ?_
    refine arun_nil ?_
    refine athen_n ?_
    refine AWP.seq ?_
    refine AWP.seq ?_
    refine AWP.region ?_
    refine rC (Calm.move rfl) ?_
    refine rC (Calm.lenSl Try.underlying43 rfl) ?_
    refine rC (Calm.bin rfl rfl b_gtr) ?_
    refine arun_nil ?_
    refine athen_n ?_
    refine AWP.sub [(0, _), (2, _), (3, _), (6, _)] ⟨rfl, rfl, rfl, rfl, trivial⟩ ?_
    refine AWP.condT rfl (by first | rfl | (simp; done) | (simp; omega)) ?_
    refine AWP.seq ?_
    refine AWP.region ?_
    refine rC (Calm.build (cs := [_, _, _]) ty_bld_49 rfl rfl) ?_
    first | refine ARun.storeAll rfl rfl ty_size_49 own_ rfl rfl ?_ | refine ARun.store rfl rfl ty_size_49 own_ lens_ rfl ?_
    (try simp only [Mem.set_set, List.set_cons_zero, List.set_cons_succ, Nat.zero_add, Nat.reduceAdd])
    refine rC (Calm.assign rfl) ?_
    refine arun_nil ?_
    refine athen_n ?_
    refine AWP.sub [(0, _), (2, _), (3, _), (6, _)] ⟨rfl, rfl, rfl, rfl, trivial⟩ ?_
    refine AWP.ret ?_
    refine athen_ret ?_
    refine ⟨_, S, ⟨_, _, _, rfl, .inr ⟨ty_agg_49, [_, _, _], ty_size_49, rds_, rfl⟩, ⟨_, _, rfl, rfl, rfl⟩, rfl⟩, less_, ?_⟩
    exact ⟨_, rfl, Mem.Less.refl _, Sl.nil _ _ _⟩
namespace Sel
def t3 : List Bool := [false, true, true]
theorem pk3 : pack t3 = [96] := by decide +kernel
theorem chk3 : chk (bs [96]).data.toList 3 = 0 := by
  have h : chk (bs (pack t3)).data.toList (t3.length : Nat) = 0 := chk_yes ⟨by omega, by decide, by rw [bs_data, Int.toNat_natCast]; exact right_pack t3⟩
  rwa [pk3] at h
theorem rows3 : rows (bs [96]).data.toList (3 : Int).toNat = [0] := by decide +kernel
theorem make3 : makeR (bs [96]) 3 = (bs [96], 3, [0], 0) := by unfold makeR; rw [if_pos chk3, rows3]
theorem of3 : ofP t3 = (bs [96], 3, [0], 0) := by
  unfold ofP; rw [if_neg (by decide), pk3]; exact make3
theorem chkR3 : chkR (bs [96]) 3 [0] = 0 := by unfold chkR; rw [if_pos ⟨chk3, rows3.symm⟩]
theorem rank3 : rankP (bs [96]) 3 [0] 2 = (1, 0) := by unfold rankP; rw [if_neg (by rw [chkR3]; decide), if_neg (by decide)]; decide +kernel
theorem rank4 : rankP (bs [96]) 3 [0] 4 = (0, 1) := by unfold rankP; rw [if_neg (by rw [chkR3]; decide), if_pos (by decide)]
theorem select1 : selectP (bs [96]) 3 [0] 1 = (2, 0) := by unfold selectP; rw [if_neg (by rw [chkR3]; decide), if_neg (by decide)]; decide +kernel
theorem select2 : selectP (bs [96]) 3 [0] 2 = (0, 3) := by unfold selectP; rw [if_neg (by rw [chkR3]; decide), if_neg (by decide)]; decide +kernel
theorem next2 : nextP (bs [96]) 3 [0] 2 = (2, 0) := by unfold nextP; rw [if_neg (by rw [chkR3]; decide), if_neg (by decide)]; decide +kernel
theorem lit96 : (⟨#[96]⟩ : ByteArray) = bs [96] := rfl
end Sel
set_option maxHeartbeats 4000000 in
theorem selV_lives (S : Mem) : ACall Try.prog 29 #[] S fun r S' => r = .bool true ∧ S' = S := by
  have z : (bs [96]).size ≤ 281474976710656 := by decide +kernel
  have q1 := of3; have q2 := rank3; have q3 := select1; have q4 := next2; have q5 := select2; have q6 := rank4; have q7 := make3; have q8 := chkR3
  unfold t3 at q1
  have hsame : ∀ B : ByteArray, (decide (B = B ∧ (3 : Int) = 3) && decide (([0] : List Int) = [0])) = true := fun B => by simp
  generalize hB : bs [96] = B at *
  refine ACall.enter (args := []) (rs := [.tmp 0]) 104 [] Try.func29 rfl rfl (Nat.le_of_ble_eq_true rfl) rfl trivial ?_
  refine AWP.seq ?_
  refine AWP.region ?_
  refine rC (Calm.assign rfl) ?_
  refine arun_nil ?_
  refine athen_n ?_
  refine AWP.seq ?_
  refine AWP.region ?_
  refine ARun.buildN (cs := [_, _, _]) (lit_lt rfl) ty_sl_43 rfl rfl rfl rfl ?_
  intro b16 f16
  have g16 := f16
  repeat ((with_reducible replace g16 := fresh_set g16); obtain ⟨g16, _⟩ := g16)
  refine ARun.call (lit_lt rfl) go_32 rfl (selV_OfS _ [false, true, true] _ (Sl.own1 (g := fun b : Bool => .bool b) own_ List.prefix_rfl rfl (by decide) (by decide))) ?_
  rintro _ S1 hr1
  rw [q1] at hr1
  obtain ⟨pa1, ca1, rfl, hS1, hv1⟩ := hr1.slices
  have hST : S.Less S1 := Mem.Less.trans less_ hS1
  refine rC (Calm.move rfl) ?_
  refine rC (Calm.extract rfl rfl) ?_
  refine rC (Calm.extract rfl rfl) ?_
  refine ARun.alloc (lit_lt rfl) ty_zero_49 ?_
  intro b1 f1
  have g1 := f1
  repeat ((with_reducible replace g1 := fresh_set g1); obtain ⟨g1, _⟩ := g1)
  (try simp only [List.length_cons, List.length_nil, Nat.zero_add, Nat.reduceAdd])
  first | refine ARun.storeAll rfl rfl ty_size_49 own_ rfl rfl ?_ | refine ARun.store rfl rfl ty_size_49 own_ lens_ rfl ?_
  (try simp only [Mem.set_set, List.set_cons_zero, List.set_cons_succ, Nat.zero_add, Nat.reduceAdd])
  refine rC (Calm.assign rfl) ?_
  refine arun_nil ?_
  refine athen_n ?_
  refine AWP.sub [(0, _), (1, _), (2, _)] ⟨rfl, rfl, rfl, trivial⟩ ?_
  refine named (S := S1) (b := b1) g1.1 ?_
  intro T1 hT1 kb1
  replace hST := hST.trans hT1
  replace hv1 := hv1.less hT1
  refine AWP.seq ?_
  refine AWP.region ?_
  refine rC (ldA_ (cs := [_, _, _]) ty_agg_49 ty_size_49 rfl) ?_
  refine ARun.call (lit_lt rfl) go_37 rfl (selV_Rank B 3 2 _ [0] _ z hv1) ?_
  rintro _ S2 ⟨rfl, h1⟩
  rw [h1, q2]; clear h1 S2
  refine rC (Calm.move rfl) ?_
  refine rC (Calm.extract rfl rfl) ?_
  refine rC (Calm.extract rfl rfl) ?_
  refine rC (Calm.assign rfl) ?_
  refine rC (Calm.assign rfl) ?_
  refine arun_nil ?_
  refine athen_n ?_
  refine AWP.sub [(0, _), (1, _), (2, _), (3, _), (4, _)] ⟨rfl, rfl, rfl, rfl, rfl, trivial⟩ ?_
  refine AWP.seq ?_
  refine AWP.region ?_
  refine rC (ldA_ (cs := [_, _, _]) ty_agg_49 ty_size_49 rfl) ?_
  refine ARun.call (lit_lt rfl) go_39 rfl (selV_Select B 3 1 _ [0] _ z hv1 (by omega)) ?_
  rintro _ S2 ⟨rfl, h1⟩
  rw [h1, q3]; clear h1 S2
  refine rC (Calm.move rfl) ?_
  refine rC (Calm.extract rfl rfl) ?_
  refine rC (Calm.extract rfl rfl) ?_
  refine rC (Calm.assign rfl) ?_
  refine rC (Calm.assign rfl) ?_
  refine arun_nil ?_
  refine athen_n ?_
  refine AWP.sub [(0, _), (1, _), (2, _), (3, _), (4, _), (5, _), (6, _)] ⟨rfl, rfl, rfl, rfl, rfl, rfl, rfl, trivial⟩ ?_
  refine AWP.seq ?_
  refine AWP.region ?_
  refine rC (ldA_ (cs := [_, _, _]) ty_agg_49 ty_size_49 rfl) ?_
  refine ARun.call (lit_lt rfl) go_41 rfl (selV_Next B 3 2 _ [0] _ z hv1) ?_
  rintro _ S2 ⟨rfl, h1⟩
  rw [h1, q4]; clear h1 S2
  refine rC (Calm.move rfl) ?_
  refine rC (Calm.extract rfl rfl) ?_
  refine rC (Calm.extract rfl rfl) ?_
  refine rC (Calm.assign rfl) ?_
  refine rC (Calm.assign rfl) ?_
  refine arun_nil ?_
  refine athen_n ?_
  refine AWP.sub [(0, _), (1, _), (2, _), (3, _), (4, _), (5, _), (6, _), (7, _), (8, _)] ⟨rfl, rfl, rfl, rfl, rfl, rfl, rfl, rfl, rfl, trivial⟩ ?_
  refine AWP.seq ?_
  refine AWP.region ?_
  refine rC (ldA_ (cs := [_, _, _]) ty_agg_49 ty_size_49 rfl) ?_
  refine ARun.call (lit_lt rfl) go_39 rfl (selV_Select B 3 2 _ [0] _ z hv1 (by omega)) ?_
  rintro _ S2 ⟨rfl, h1⟩
  rw [h1, q5]; clear h1 S2
  refine rC (Calm.move rfl) ?_
  refine rC (Calm.extract rfl rfl) ?_
  refine rC (Calm.extract rfl rfl) ?_
  refine rC (Calm.assign rfl) ?_
  refine rC (Calm.assign rfl) ?_
  refine arun_nil ?_
  refine athen_n ?_
  refine AWP.sub [(0, _), (1, _), (2, _), (3, _), (4, _), (5, _), (6, _), (7, _), (8, _), (10, _)] ⟨rfl, rfl, rfl, rfl, rfl, rfl, rfl, rfl, rfl, rfl, trivial⟩ ?_
  refine AWP.seq ?_
  refine AWP.region ?_
  refine rC (ldA_ (cs := [_, _, _]) ty_agg_49 ty_size_49 rfl) ?_
  refine ARun.call (lit_lt rfl) go_37 rfl (selV_Rank B 3 4 _ [0] _ z hv1) ?_
  rintro _ S2 ⟨rfl, h1⟩
  rw [h1, q6]; clear h1 S2
  rw [show (⟨#[96]⟩ : ByteArray) = B from hB]
  refine rC (Calm.move rfl) ?_
  refine rC (Calm.extract rfl rfl) ?_
  refine rC (Calm.extract rfl rfl) ?_
  refine rC (Calm.assign rfl) ?_
  refine rC (Calm.assign rfl) ?_
  refine arun_nil ?_
  refine athen_n ?_
  refine AWP.sub [(0, _), (1, _), (2, _), (3, _), (4, _), (5, _), (6, _), (7, _), (8, _), (10, _), (12, _)] ⟨rfl, rfl, rfl, rfl, rfl, rfl, rfl, rfl, rfl, rfl, rfl, trivial⟩ ?_
  refine AWP.seq ?_
  refine AWP.region ?_
  refine rC (Calm.build (cs := [_, _]) ty_bld_47 rfl rfl) ?_
  refine ARun.call (lit_lt rfl) go_30 rfl (selV_Make B 3 _ z) ?_
  rintro _ S2 hr2
  rw [q7] at hr2
  obtain ⟨pa2, ca2, rfl, hS2, hv2⟩ := hr2.slices
  replace hST := hST.trans hS2
  replace hv1 := hv1.less hS2
  replace kb1 := hS2.own kb1
  refine rC (Calm.move rfl) ?_
  refine rC (Calm.extract rfl rfl) ?_
  refine rC (Calm.extract rfl rfl) ?_
  refine ARun.alloc (lit_lt rfl) ty_zero_49 ?_
  intro b13 f13
  have g13 := f13
  repeat ((with_reducible replace g13 := fresh_set g13); obtain ⟨g13, _⟩ := g13)
  (try simp only [List.length_cons, List.length_nil, Nat.zero_add, Nat.reduceAdd])
  first | refine ARun.storeAll rfl rfl ty_size_49 own_ rfl rfl ?_ | refine ARun.store rfl rfl ty_size_49 own_ lens_ rfl ?_
  (try simp only [Mem.set_set, List.set_cons_zero, List.set_cons_succ, Nat.zero_add, Nat.reduceAdd])
  refine rC (Calm.assign rfl) ?_
  refine arun_nil ?_
  refine athen_n ?_
  refine AWP.sub [(0, _), (1, _), (2, _), (3, _), (4, _), (5, _), (6, _), (7, _), (8, _), (10, _), (12, _), (13, _), (14, _)] ⟨rfl, rfl, rfl, rfl, rfl, rfl, rfl, rfl, rfl, rfl, rfl, rfl, rfl, trivial⟩ ?_
  refine named (S := S2) (b := b13) g13.1 ?_
  intro T13 hT13 kb13
  replace hST := hST.trans hT13
  replace hv1 := hv1.less hT13
  replace kb1 := hT13.own kb1
  replace hv2 := hv2.less hT13
  refine AWP.seq ?_
  refine AWP.region ?_
  refine rC (Calm.move rfl) ?_
  refine rC (Calm.bin rfl rfl b_eql) ?_
  refine rC (Calm.move rfl) ?_
  first | refine rS 52 ?_ | refine rU 52 ?_ | refine rG 52 (Calm.move rfl) ?_
  first | refine rS 52 ?_ | refine rU 52 ?_ | refine rG 52 (Calm.bin rfl rfl b_eql) ?_
  refine rC ((by first | exact Calm.pickT rfl rfl | exact Calm.pickF rfl rfl)) ?_
  refine rC (Calm.move rfl) ?_
  first | refine rS 56 ?_ | refine rU 56 ?_ | refine rG 56 (Calm.move rfl) ?_
  first | refine rS 56 ?_ | refine rU 56 ?_ | refine rG 56 (Calm.bin rfl rfl b_eql) ?_
  refine rC ((by first | exact Calm.pickT rfl rfl | exact Calm.pickF rfl rfl)) ?_
  refine rC (Calm.move rfl) ?_
  first | refine rS 60 ?_ | refine rU 60 ?_ | refine rG 60 (Calm.move rfl) ?_
  first | refine rS 60 ?_ | refine rU 60 ?_ | refine rG 60 (Calm.bin rfl rfl b_eql) ?_
  refine rC ((by first | exact Calm.pickT rfl rfl | exact Calm.pickF rfl rfl)) ?_
  refine rC (Calm.move rfl) ?_
  first | refine rS 64 ?_ | refine rU 64 ?_ | refine rG 64 (Calm.move rfl) ?_
  first | refine rS 64 ?_ | refine rU 64 ?_ | refine rG 64 (Calm.bin rfl rfl b_eql) ?_
  refine rC ((by first | exact Calm.pickT rfl rfl | exact Calm.pickF rfl rfl)) ?_
  refine rC (Calm.move rfl) ?_
  first | refine rS 68 ?_ | refine rU 68 ?_ | refine rG 68 (Calm.move rfl) ?_
  first | refine rS 68 ?_ | refine rU 68 ?_ | refine rG 68 (Calm.bin rfl rfl b_eql) ?_
  refine rC ((by first | exact Calm.pickT rfl rfl | exact Calm.pickF rfl rfl)) ?_
  refine rC (Calm.move rfl) ?_
  first | refine rS 72 ?_ | refine rU 72 ?_ | refine rG 72 (Calm.move rfl) ?_
  first | refine rS 72 ?_ | refine rU 72 ?_ | refine rG 72 (Calm.bin rfl rfl b_eql) ?_
  refine rC ((by first | exact Calm.pickT rfl rfl | exact Calm.pickF rfl rfl)) ?_
  refine rC (Calm.move rfl) ?_
  first | refine rS 76 ?_ | refine rU 76 ?_ | refine rG 76 (Calm.move rfl) ?_
  first | refine rS 76 ?_ | refine rU 76 ?_ | refine rG 76 (Calm.bin rfl rfl b_eql) ?_
  refine rC ((by first | exact Calm.pickT rfl rfl | exact Calm.pickF rfl rfl)) ?_
  refine rC (Calm.move rfl) ?_
  first | refine rS 80 ?_ | refine rU 80 ?_ | refine rG 80 (Calm.move rfl) ?_
  first | refine rS 80 ?_ | refine rU 80 ?_ | refine rG 80 (Calm.bin rfl rfl b_eql) ?_
  refine rC ((by first | exact Calm.pickT rfl rfl | exact Calm.pickF rfl rfl)) ?_
  refine rC (Calm.move rfl) ?_
  first | refine rS 84 ?_ | refine rU 84 ?_ | refine rG 84 (Calm.move rfl) ?_
  first | refine rS 84 ?_ | refine rU 84 ?_ | refine rG 84 (Calm.bin rfl rfl b_eql) ?_
  refine rC ((by first | exact Calm.pickT rfl rfl | exact Calm.pickF rfl rfl)) ?_
  refine rC (Calm.move rfl) ?_
  first | refine rS 88 ?_ | refine rU 88 ?_ | refine rG 88 (ldA_ (cs := [_, _, _]) ty_agg_49 ty_size_49 rfl) ?_
  first | refine rS 88 ?_ | refine rU 88 ?_ | refine rG 88 (ldA_ (cs := [_, _, _]) ty_agg_49 ty_size_49 rfl) ?_
  refine ARun.callG 38 true 88 rfl (lit_lt rfl) rfl (lit_lt rfl) go_34 rfl (rselV_Same B B 3 3 _ _ [0] [0] _ hv2 hv1) ?_
  rintro _ S3 ⟨rfl, h1⟩
  rw [h1, hsame]; clear h1 S3
  refine rC ((by first | exact Calm.pickT rfl rfl | exact Calm.pickF rfl rfl)) ?_
  refine rC (Calm.move rfl) ?_
  first | refine rS 93 ?_ | refine rU 93 ?_ | refine rG 93 (Calm.fieldAddr ty_field_49_1 rfl) ?_
  first | refine rS 93 ?_ | refine rU 93 ?_ | refine rG 93 (ld_ ty_plain_23 rfl) ?_
  first | refine rS 93 ?_ | refine rU 93 ?_ | refine rG 93 (Calm.lenSl Try.underlying23 rfl) ?_
  first | refine rS 93 ?_ | refine rU 93 ?_ | refine rG 93 (Calm.bin rfl rfl b_eql) ?_
  refine rC ((by first | exact Calm.pickT rfl rfl | exact Calm.pickF rfl rfl)) ?_
  refine rC (Calm.move rfl) ?_
  first | refine rS 99 ?_ | refine rU 99 ?_ | refine rG 99 (ldA_ (cs := [_, _, _]) ty_agg_49 ty_size_49 rfl) ?_
  refine ARun.callG 49 true 99 rfl (lit_lt rfl) rfl (lit_lt rfl) go_35 rfl (selV_Check B 3 _ [0] _ z hv1) ?_
  rintro _ S3 ⟨rfl, h1⟩
  rw [h1, q8]; clear h1 S3
  first | refine rS 99 ?_ | refine rU 99 ?_ | refine rG 99 (Calm.bin rfl rfl b_eql) ?_
  refine rC ((by first | exact Calm.pickT rfl rfl | exact Calm.pickF rfl rfl)) ?_
  refine rC (Calm.assign rfl) ?_
  refine arun_nil ?_
  refine athen_n ?_
  refine AWP.sub [(0, _), (1, _), (2, _), (3, _), (4, _), (5, _), (6, _), (7, _), (8, _), (10, _), (12, _), (13, _), (14, _)] ⟨rfl, rfl, rfl, rfl, rfl, rfl, rfl, rfl, rfl, rfl, rfl, rfl, rfl, trivial⟩ ?_
  refine AWP.ret ?_
  refine ⟨_, S, ⟨_, _, rfl, rfl, rfl⟩, hST, ?_⟩
  exact ⟨rfl, rfl⟩
end Go.Proofs.Ytddabbfjoejalaa
