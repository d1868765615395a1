/-
  Loser: own copies, what is right, what is made, the winner, the path, by the program.
-/
import Derived.Test.YtddabbfjoejalaaVLos1
namespace Go.Proofs.Ytddabbfjoejalaa
open Go.RowKit
open Mv Num Loser
set_option linter.unusedVariables false
set_option linter.unusedSimpArgs false
set_option maxRecDepth 4000
set_option maxHeartbeats 1000000 in
theorem losV_CloneI (l : List Int) (v : Value) (S : Mem) (hv : Sl 1 i64s S v l) (hl : l.length ≤ 17592186043904) :
    ACall Try.prog 51 #[v] S fun r S' => CloneR (fun x : Int => Value.int .i64 x) 3 l S r S' := by
  obtain ⟨a, cap, rfl, h1, h2, h3⟩ := id hv
  cases a with
  | none =>
    have hl0 : l = [] := h3.resolve_right (by rintro ⟨b, off, h, _⟩; cases h)
    refine ACall.enter (args := [.slice none l.length cap]) (rs := [.tmp 2]) 8 [(0, .slice none l.length cap)] Try.func51 rfl rfl (Nat.le_of_ble_eq_true rfl) rfl ⟨rfl, trivial⟩ ?_
    refine AWP.seq ?_
    refine AWP.region ?_
    refine rC (Calm.assign rfl) ?_
    refine arun_nil ?_
    refine athen_n ?_
    refine AWP.seq ?_
    refine AWP.seq ?_
    refine AWP.region ?_
    refine rC (Calm.move rfl) ?_
    refine rC (Calm.bin rfl rfl (bin_nil_eql Try.underlying23)) ?_
    refine arun_nil ?_
    refine athen_n ?_
    refine AWP.sub [(0, _), (2, _), (4, _)] ⟨rfl, rfl, rfl, trivial⟩ ?_
    refine AWP.condT rfl (by first | rfl | (simp; done) | (simp; omega)) ?_
    refine AWP.seq ?_
    refine AWP.region ?_
    refine rC (Calm.assign rfl) ?_
    refine arun_nil ?_
    refine athen_n ?_
    refine AWP.ret ?_
    refine athen_ret ?_
    refine ⟨_, S, ⟨_, _, rfl, rfl, rfl⟩, less_, ?_⟩
    exact .inl ⟨hl0, rfl, _, rfl⟩
  | some a =>
    by_cases hl0 : l = []
    · subst hl0
      refine ACall.enter (args := [.slice (some a) 0 cap]) (rs := [.tmp 2]) 8 [(0, .slice (some a) 0 cap)] Try.func51 rfl rfl (Nat.le_of_ble_eq_true rfl) rfl ⟨rfl, trivial⟩ ?_
      refine AWP.seq ?_
      refine AWP.region ?_
      refine rC (Calm.assign rfl) ?_
      refine arun_nil ?_
      refine athen_n ?_
      refine AWP.seq ?_
      refine AWP.seq ?_
      refine AWP.region ?_
      refine rC (Calm.move rfl) ?_
      refine rC (Calm.bin rfl rfl (bin_nil_eql Try.underlying23)) ?_
      refine arun_nil ?_
      refine athen_n ?_
      refine AWP.sub [(0, _), (2, _), (4, _)] ⟨rfl, rfl, rfl, trivial⟩ ?_
      refine AWP.condF rfl (by first | rfl | (simp; done) | (simp; omega)) ?_
      refine AWP.skip ?_
      refine athen_n ?_
      refine AWP.seq ?_
      refine AWP.region ?_
      refine ARun.build0 (lit_lt rfl) ty_sl_23 ?_
      intro b5 f5
      have g5 := f5
      repeat ((with_reducible replace g5 := fresh_set g5); obtain ⟨g5, _⟩ := g5)
      refine rC (Calm.move rfl) ?_
      refine ARun.appendNone (lit_lt rfl) ty_sl_23 (Nat.le_refl 0) rfl rfl ?_
      refine rC (Calm.assign rfl) ?_
      refine arun_nil ?_
      refine athen_n ?_
      refine AWP.sub [(0, _), (2, _), (4, _)] ⟨rfl, rfl, rfl, trivial⟩ ?_
      refine AWP.ret ?_
      refine ⟨_, S, ⟨_, _, rfl, rfl, rfl⟩, less_, ?_⟩
      exact .inl ⟨rfl, rfl, _, rfl⟩
    · obtain ⟨b, off, hab, hkn⟩ := h3.resolve_left hl0
      cases hab
      have hall := Sl.all (g := fun x : Int => Value.int .i64 x) hv
      refine ACall.enter (args := [.slice (some ⟨b, off, none⟩) l.length cap]) (rs := [.tmp 2]) 8 [(0, .slice (some ⟨b, off, none⟩) l.length cap)] Try.func51 rfl rfl (Nat.le_of_ble_eq_true rfl) rfl ⟨rfl, trivial⟩ ?_
      refine AWP.seq ?_
      refine AWP.region ?_
      refine rC (Calm.assign rfl) ?_
      refine arun_nil ?_
      refine athen_n ?_
      refine AWP.seq ?_
      refine AWP.seq ?_
      refine AWP.region ?_
      refine rC (Calm.move rfl) ?_
      refine rC (Calm.bin rfl rfl (bin_nil_eql Try.underlying23)) ?_
      refine arun_nil ?_
      refine athen_n ?_
      refine AWP.sub [(0, _), (2, _), (4, _)] ⟨rfl, rfl, rfl, trivial⟩ ?_
      refine AWP.condF rfl (by first | rfl | (simp; done) | (simp; omega)) ?_
      refine AWP.skip ?_
      refine athen_n ?_
      refine AWP.seq ?_
      refine AWP.region ?_
      refine ARun.build0 (lit_lt rfl) ty_sl_23 ?_
      intro b5 f5
      have g5 := f5
      repeat ((with_reducible replace g5 := fresh_set g5); obtain ⟨g5, _⟩ := g5)
      refine rC (Calm.move rfl) ?_
      refine ARun.append1K (lit_lt rfl) ty_sl_23 rfl own_ rfl rfl (hall.less less_) (by simp) (fun v hv => by obtain ⟨x, _, rfl⟩ := List.mem_map.1 hv; rfl) (by omega) (by omega) ?_
      intro b7 c7 f7 hc7
      rw [List.nil_append, set_del_same' (del_base g5)] at *
      rw [Nat.zero_add] at *
      refine rC (Calm.assign rfl) ?_
      refine arun_nil ?_
      refine athen_n ?_
      refine AWP.sub [(0, _), (2, _), (4, _)] ⟨rfl, rfl, rfl, trivial⟩ ?_
      refine AWP.ret ?_
      refine ⟨_, _, ⟨_, _, rfl, rfl, rfl⟩, Mem.Less.refl _, ?_⟩
      exact .inr ⟨b7, c7, f7, hc7, rfl, rfl⟩
set_option maxHeartbeats 1000000 in
theorem losV_EqualI (a b : List Int) (va vb : Value) (S : Mem) (ha : Sl 1 i64s S va a) (hb : Sl 1 i64s S vb b) :
    ACall Try.prog 54 #[va, vb] S fun r S' => r = .bool (decide (a = b)) ∧ S' = S := by
  obtain ⟨pa, ca, rfl, ha1, ha2, ha3⟩ := ha
  obtain ⟨pb, cb, rfl, hb1, hb2, hb3⟩ := hb
  by_cases hlen : a.length = b.length
  · have hlen0 := hlen
    refine ACall.enter (args := [.slice pa a.length ca, .slice pb b.length cb]) (rs := [.tmp 4]) 26 [(0, .slice pa a.length ca), (1, .slice pb b.length cb)] Try.func54 rfl rfl (Nat.le_of_ble_eq_true rfl) rfl ⟨rfl, rfl, trivial⟩ ?_
    refine AWP.seq ?_
    refine AWP.region ?_
    refine rC (Calm.assign rfl) ?_
    refine arun_nil ?_
    refine athen_n ?_
    refine AWP.seq ?_
    refine AWP.seq ?_
    refine AWP.region ?_
    refine rC (Calm.move rfl) ?_
    refine rC (Calm.lenSl Try.underlying23 rfl) ?_
    refine rC (Calm.move rfl) ?_
    refine rC (Calm.lenSl Try.underlying23 rfl) ?_
    refine rC (Calm.bin rfl rfl b_neq) ?_
    refine arun_nil ?_
    refine athen_n ?_
    refine AWP.sub [(0, _), (1, _), (4, _), (10, _)] ⟨rfl, rfl, rfl, rfl, trivial⟩ ?_
    refine AWP.condF rfl (by first | rfl | (simp; done) | (simp; omega)) ?_
    refine AWP.skip ?_
    refine athen_n ?_
    refine AWP.seq ?_
    refine AWP.seq ?_
    refine AWP.region ?_
    refine rC (Calm.move rfl) ?_
    refine rC (Calm.lenSl Try.underlying23 rfl) ?_
    refine rC (Calm.move rfl) ?_
    refine arun_nil ?_
    refine athen_n ?_
    refine AWP.sub [(0, _), (1, _), (4, _), (10, _), (12, _), (13, _)] ⟨rfl, rfl, rfl, rfl, rfl, rfl, trivial⟩ ?_
    refine AWP.block ?_
    refine AWP.loop (X := Nat) (fun x => [(0, .slice pa a.length ca), (1, .slice pb b.length cb), (12, .int .i64 a.length), (13, .int .i64 x)]) (fun x => S) (fun x => x ≤ a.length ∧ ∀ j (hj : j < a.length) (hj2 : j < b.length), j < x → a[j] = b[j]) (fun x => a.length - x) (0) ⟨rfl, rfl, rfl, rfl, trivial⟩ (Mem.Less.refl _) (⟨Nat.zero_le _, fun _ _ _ h => absurd h (Nat.not_lt_zero _)⟩) ?_
    rintro i ⟨hi1, hq⟩
    (try dsimp only at *)
    refine AWP.seq ?_
    refine AWP.region ?_
    refine rC (Calm.bin rfl rfl b_lss) ?_
    refine arun_nil ?_
    refine athen_n ?_
    refine AWP.seq ?_
    refine AWP.condB rfl (fun hl => ?_) (fun hl => ?_)
    · have hl : i < a.length := by have := of_decide_eq_true hl; omega
      have hlb : i < b.length := by omega
      obtain ⟨b0, off, rfl, hkn⟩ := ha3.resolve_left (by intro h; rw [h] at hl; exact absurd hl (Nat.not_lt_zero _))
      obtain ⟨b1, off1, rfl, hkn1⟩ := hb3.resolve_left (by intro h; rw [h] at hlb; exact absurd hlb (Nat.not_lt_zero _))
      have hkk := hkn i hl
      have hkk1 := hkn1 i hlb
      by_cases c1 : a[i] = b[i]
      · refine AWP.skip ?_
        refine athen_n ?_
        refine AWP.seq ?_
        refine AWP.block ?_
        refine AWP.seq ?_
        refine AWP.region ?_
        refine rC (Calm.move rfl) ?_
        refine rC (Calm.assign rfl) ?_
        refine arun_nil ?_
        refine athen_n ?_
        refine AWP.sub [(0, _), (1, _), (12, _), (13, _), (14, _), (5, _)] ⟨rfl, rfl, rfl, rfl, rfl, rfl, trivial⟩ ?_
        refine AWP.seq ?_
        refine AWP.draw [(0, true), (1, true), (2, true), (3, true), (4, true), (5, true), (6, true), (7, true), (8, true)] [] mixed (by kernel_rfl) ?_
        refine draw_pure rfl rfl rfl rfl (lit_lt rfl) (fun _ => Calm.move rfl) ?_
        refine draw_pure rfl rfl rfl rfl (lit_lt rfl) (fun _ => Calm.move rfl) ?_
        refine draw_pure rfl rfl rfl rfl (lit_lt rfl) (fun _ => Calm.indexS Try.underlying23 ty_size_3 rfl rfl (by omega) (by omega)) ?_
        refine draw_calm rfl rfl rfl (lit_lt rfl) less_ (fun S' hS' => by obtain rfl := hS'.resolve_left (by decide); exact ld_ ty_plain_3 rfl) ?_
        refine draw_pure rfl rfl rfl rfl (lit_lt rfl) (fun _ => Calm.move rfl) ?_
        refine draw_pure rfl rfl rfl rfl (lit_lt rfl) (fun _ => Calm.move rfl) ?_
        refine draw_pure rfl rfl rfl rfl (lit_lt rfl) (fun _ => Calm.indexS Try.underlying23 ty_size_3 rfl rfl (by omega) (by omega)) ?_
        refine draw_calm rfl rfl rfl (lit_lt rfl) less_ (fun S' hS' => by obtain rfl := hS'.resolve_left (by decide); exact ld_ ty_plain_3 rfl) ?_
        refine draw_pure rfl rfl rfl rfl (lit_lt rfl) (fun _ => Calm.bin rfl rfl b_neq) ?_
        refine draw_nil ?_
        refine athen_n ?_
        refine AWP.sub [(0, _), (1, _), (12, _), (13, _), (14, _), (5, _), (24, _)] ⟨rfl, rfl, rfl, rfl, rfl, rfl, rfl, trivial⟩ ?_
        refine AWP.condF rfl (by first | rfl | (simp; done) | (simp; omega)) ?_
        refine AWP.skip ?_
        refine ain_n ?_
        refine athen_n ?_
        refine AWP.region ?_
        refine rC (Calm.bin rfl rfl b_add_i64) ?_
        refine rC (Calm.move rfl) ?_
        refine arun_nil ?_
        refine athen_n ?_
        refine ⟨i + 1, ?_, ?_, ?_, ?_⟩
        all_goals (try dsimp only)
        · exact ⟨rfl, rfl, rfl, rfl, trivial⟩
        · exact Mem.Less.refl _
        · exact ⟨hl, fun j hj hj2 hji => by rcases Nat.lt_or_ge j i with h | h; exact hq j hj hj2 h; obtain rfl : j = i := (by omega); exact c1⟩
        · omega
      · refine AWP.skip ?_
        refine athen_n ?_
        refine AWP.seq ?_
        refine AWP.block ?_
        refine AWP.seq ?_
        refine AWP.region ?_
        refine rC (Calm.move rfl) ?_
        refine rC (Calm.assign rfl) ?_
        refine arun_nil ?_
        refine athen_n ?_
        refine AWP.sub [(0, _), (1, _), (12, _), (13, _), (14, _), (5, _)] ⟨rfl, rfl, rfl, rfl, rfl, rfl, trivial⟩ ?_
        refine AWP.seq ?_
        refine AWP.draw [(0, true), (1, true), (2, true), (3, true), (4, true), (5, true), (6, true), (7, true), (8, true)] [] mixed (by kernel_rfl) ?_
        refine draw_pure rfl rfl rfl rfl (lit_lt rfl) (fun _ => Calm.move rfl) ?_
        refine draw_pure rfl rfl rfl rfl (lit_lt rfl) (fun _ => Calm.move rfl) ?_
        refine draw_pure rfl rfl rfl rfl (lit_lt rfl) (fun _ => Calm.indexS Try.underlying23 ty_size_3 rfl rfl (by omega) (by omega)) ?_
        refine draw_calm rfl rfl rfl (lit_lt rfl) less_ (fun S' hS' => by obtain rfl := hS'.resolve_left (by decide); exact ld_ ty_plain_3 rfl) ?_
        refine draw_pure rfl rfl rfl rfl (lit_lt rfl) (fun _ => Calm.move rfl) ?_
        refine draw_pure rfl rfl rfl rfl (lit_lt rfl) (fun _ => Calm.move rfl) ?_
        refine draw_pure rfl rfl rfl rfl (lit_lt rfl) (fun _ => Calm.indexS Try.underlying23 ty_size_3 rfl rfl (by omega) (by omega)) ?_
        refine draw_calm rfl rfl rfl (lit_lt rfl) less_ (fun S' hS' => by obtain rfl := hS'.resolve_left (by decide); exact ld_ ty_plain_3 rfl) ?_
        refine draw_pure rfl rfl rfl rfl (lit_lt rfl) (fun _ => Calm.bin rfl rfl b_neq) ?_
        refine draw_nil ?_
        refine athen_n ?_
        refine AWP.sub [(0, _), (1, _), (12, _), (13, _), (14, _), (5, _), (24, _)] ⟨rfl, rfl, rfl, rfl, rfl, rfl, rfl, trivial⟩ ?_
        refine AWP.condT rfl (by first | rfl | (simp; done) | (simp; omega)) ?_
        refine AWP.seq ?_
        refine AWP.region ?_
        refine rC (Calm.assign rfl) ?_
        refine arun_nil ?_
        refine athen_n ?_
        refine AWP.ret ?_
        refine ain_ret ?_
        refine athen_ret ?_
        refine athen_ret ?_
        refine ain_ret ?_
        refine athen_ret ?_
        refine ⟨_, S, ⟨_, _, rfl, rfl, rfl⟩, less_, ?_⟩
        exact ⟨by rw [decide_eq_false (fun e => c1 (by subst e; rfl))]; rfl, rfl⟩
    · have hl : i = a.length := by have := of_decide_eq_false hl; omega
      refine AWP.exit ?_
      refine athen_exit ?_
      refine athen_exit ?_
      refine ain_same ?_
      refine athen_n ?_
      refine AWP.seq ?_
      refine AWP.region ?_
      refine rC (Calm.assign rfl) ?_
      refine arun_nil ?_
      refine athen_n ?_
      refine AWP.ret ?_
      refine ⟨_, S, ⟨_, _, rfl, rfl, rfl⟩, less_, ?_⟩
      exact ⟨by rw [decide_eq_true (List.ext_getElem hlen fun j h1 h2 => hq j h1 h2 (by omega))]; rfl, rfl⟩
  · have hlen0 := hlen
    refine ACall.enter (args := [.slice pa a.length ca, .slice pb b.length cb]) (rs := [.tmp 4]) 26 [(0, .slice pa a.length ca), (1, .slice pb b.length cb)] Try.func54 rfl rfl (Nat.le_of_ble_eq_true rfl) rfl ⟨rfl, rfl, trivial⟩ ?_
    refine AWP.seq ?_
    refine AWP.region ?_
    refine rC (Calm.assign rfl) ?_
    refine arun_nil ?_
    refine athen_n ?_
    refine AWP.seq ?_
    refine AWP.seq ?_
    refine AWP.region ?_
    refine rC (Calm.move rfl) ?_
    refine rC (Calm.lenSl Try.underlying23 rfl) ?_
    refine rC (Calm.move rfl) ?_
    refine rC (Calm.lenSl Try.underlying23 rfl) ?_
    refine rC (Calm.bin rfl rfl b_neq) ?_
    refine arun_nil ?_
    refine athen_n ?_
    refine AWP.sub [(0, _), (1, _), (4, _), (10, _)] ⟨rfl, rfl, rfl, rfl, trivial⟩ ?_
    refine AWP.condT rfl (by first | rfl | (simp; done) | (simp; omega)) ?_
    refine AWP.seq ?_
    refine AWP.region ?_
    refine rC (Calm.assign rfl) ?_
    refine arun_nil ?_
    refine athen_n ?_
    refine AWP.ret ?_
    refine athen_ret ?_
    refine ⟨_, S, ⟨_, _, rfl, rfl, rfl⟩, less_, ?_⟩
    exact ⟨by rw [decide_eq_false (fun e => hlen (by rw [e]))]; rfl, rfl⟩
/-- A copy beside a block of one's own. -/
theorem clone_step {α : Type} {g : α → Value} {e : TypeId} {l : List α} {M S' : Mem} {b : Nat} {r : Blk} {v : Value} (h : CloneR g e l (M.set b r) v S') (hf : Fresh M b) (hl : l.length ≤ 9223372036854775807) :
    ∃ M1 a c, M.Less M1 ∧ Fresh M1 b ∧ S' = M1.set b r ∧ v = .slice a l.length c ∧ Sl 1 (fun x => [g x]) M1 v l := by
  rcases h with ⟨rfl, rfl, a, rfl⟩ | ⟨b', c, hf', hc, rfl, rfl⟩
  · exact ⟨M, a, 0, Mem.Less.refl _, hf, rfl, rfl, a, 0, rfl, Nat.le_refl _, by simp, .inl rfl⟩
  · obtain ⟨h1, h2⟩ := fresh_set hf'
    exact ⟨M.set b' ⟨e, l.map g, c⟩, _, c, Mem.less_set _ _ _ h1.1, fresh_more hf (Ne.symm h2), Mem.set_comm _ _ _ (Ne.symm h2), rfl, Sl.own1 (r := ⟨e, l.map g, c⟩) (Mem.own_set_same _ _ _) List.prefix_rfl rfl hc hl⟩
theorem pad_set (hs : List Value) (k i : Nat) (z v : Value) (hi : hs.length = i) (h : i < k) : (hs ++ List.replicate (k - i) z).set i v = (hs ++ [v]) ++ List.replicate (k - (i + 1)) z := by
  obtain ⟨m, hm⟩ : ∃ m, k - i = m + 1 := ⟨k - i - 1, by omega⟩
  rw [hm, List.set_append_right _ _ (by omega), hi, Nat.sub_self, List.replicate_succ, List.set_cons_zero, List.append_assoc, show k - (i + 1) = m from by omega]
  rfl
/-- Keys that are a tree's own. -/
def OwnK (ks : List (List Nat)) (S M : Mem) (b : Nat) (hs : List Value) : Prop := S.Less M ∧ Fresh M b ∧ hs.length = ks.length ∧ ∀ i (h : i < ks.length) (h' : i < hs.length), RowR M hs[i] ks[i]
def keysB (hs : List Value) : Blk := ⟨32, hs, hs.length⟩
theorem OwnK.slOf {ks : List (List Nat)} {S M : Mem} {b : Nat} {hs : List Value} (h : OwnK ks S M b hs) (hk : ks.length ≤ 256) : SlOf RowR (M.set b (keysB hs)) (.slice (some ⟨b, 0, none⟩) ks.length ks.length) ks := by
  obtain ⟨h1, h2, h3, h4⟩ := h
  have := Sl.own1 (g := fun x : Value => x) (S := M.set b (keysB hs)) (b := b) (l := hs) (cap := ks.length) (len := ks.length) (Mem.own_set_same _ _ _) (by simp [keysB]) h3 (Nat.le_refl _) (by omega)
  exact ⟨hs, h3, this, fun i h h' => rowR_less _ _ _ _ (h4 i h h') (Mem.less_set _ _ _ h2.1)⟩
set_option maxHeartbeats 2000000 in
theorem losV_own (v : Value) (ks : List (List Nat)) (S : Mem) (hks : SlOf RowR S v ks) (hk : ks.length ≤ 256) (hrow : ∀ x ∈ ks, x.length ≤ 17592186043904) :
    ACall Try.prog 46 #[v] S fun r S' => ∃ M b hs, OwnK ks S M b hs ∧ r = .slice (some ⟨b, 0, none⟩) ks.length ks.length ∧ S' = M.set b (keysB hs) := by
  obtain ⟨gs, hgl, ⟨pa, ca, rfl, h1, h2, h3⟩, hge⟩ := hks
  unfold OwnK keysB
  rw [← hgl] at hk
  refine ACall.enter (args := [.slice pa gs.length ca]) (rs := [.tmp 2]) 23 [(0, .slice pa gs.length ca)] Try.func46 rfl rfl (Nat.le_of_ble_eq_true rfl) rfl ⟨rfl, trivial⟩ ?_
  refine AWP.seq ?_
  refine AWP.region ?_
  refine rC (Calm.assign rfl) ?_
  refine arun_nil ?_
  refine athen_n ?_
  refine AWP.seq ?_
  refine AWP.region ?_
  refine rC (Calm.move rfl) ?_
  refine rC (Calm.lenSl Try.underlying22 rfl) ?_
  refine ARun.makeSlice (lit_lt rfl) ty_sl_22 rfl rfl (by omega) (by omega) (by omega) (by omega) ?_
  intro b8 f8
  have g8 := f8
  repeat ((with_reducible replace g8 := fresh_set g8); obtain ⟨g8, _⟩ := g8)
  refine rC (Calm.assign rfl) ?_
  refine arun_nil ?_
  refine athen_n ?_
  refine AWP.sub [(0, _), (2, _), (3, _)] ⟨rfl, rfl, rfl, trivial⟩ ?_
  simp only [Nat.mul_one, madeL_one, Int.toNat_natCast]
  refine AWP.seq ?_
  refine AWP.seq ?_
  refine AWP.region ?_
  refine rC (Calm.move rfl) ?_
  refine rC (Calm.lenSl Try.underlying22 rfl) ?_
  refine rC (Calm.move rfl) ?_
  refine arun_nil ?_
  refine athen_n ?_
  refine AWP.block ?_
  refine AWP.loop (X := Nat × Mem × List Value) (fun x => [(3, .slice (some ⟨b8, 0, none⟩) gs.length gs.length), (9, .slice pa gs.length ca), (10, .int .i64 gs.length), (11, .int .i64 x.1)]) (fun x => x.2.1.set b8 ⟨32, x.2.2 ++ List.replicate (gs.length - x.1) (.slice none 0 0), gs.length⟩) (fun x => x.1 ≤ gs.length ∧ S.Less x.2.1 ∧ Fresh x.2.1 b8 ∧ x.2.2.length = x.1 ∧ ∀ i (h : i < ks.length) (h' : i < x.2.2.length), RowR x.2.1 x.2.2[i] ks[i]) (fun x => gs.length - x.1) ((0, S, [])) ⟨rfl, rfl, rfl, rfl, trivial⟩ (Mem.Less.refl _) (⟨Nat.zero_le _, Mem.Less.refl _, g8, rfl, fun i h h' => by cases h'⟩) ?_
  rintro ⟨i, M, hs⟩ ⟨hi, hM, hfM, hhl, hr⟩
  (try dsimp only at *)
  refine AWP.seq ?_
  refine AWP.region ?_
  refine rC (Calm.bin rfl rfl b_lss) ?_
  refine arun_nil ?_
  refine athen_n ?_
  refine AWP.seq ?_
  refine AWP.condB rfl (fun hil => ?_) (fun hil => ?_)
  · have hil : i < gs.length := by have := of_decide_eq_true hil; omega
    obtain ⟨b0, off, rfl, hkn⟩ := h3.resolve_left (by intro h; rw [h] at hil; exact absurd hil (Nat.not_lt_zero _))
    have hik : i < ks.length := by omega
    have hlM := hM.trans (Mem.less_set M b8 ⟨32, hs ++ List.replicate (gs.length - i) (.slice none 0 0), gs.length⟩ hfM.1)
    have hkk := (hkn i hil).less hlM
    have hrw := rowR_less _ _ _ _ (hge i hik hil) hlM
    have hrl := hrow ks[i] (List.getElem_mem _)
    have hpl : (hs ++ List.replicate (gs.length - i) (Value.slice none 0 0)).length = gs.length := by simp; omega
    refine AWP.skip ?_
    refine athen_n ?_
    refine AWP.seq ?_
    refine AWP.block ?_
    refine AWP.seq ?_
    refine AWP.region ?_
    refine rC (Calm.move rfl) ?_
    refine rC (Calm.indexS Try.underlying22 ty_size_32 rfl rfl (by omega) (by omega)) ?_
    refine rC (ld_ ty_plain_32 rfl) ?_
    refine rC (Calm.assign rfl) ?_
    refine rC (Calm.assign rfl) ?_
    refine arun_nil ?_
    refine athen_n ?_
    refine AWP.sub [(3, _), (9, _), (10, _), (11, _), (12, _), (4, _), (5, _)] ⟨rfl, rfl, rfl, rfl, rfl, rfl, rfl, trivial⟩ ?_
    refine AWP.region ?_
    refine rC (Calm.move rfl) ?_
    refine rC (Calm.move rfl) ?_
    refine rC (Calm.move rfl) ?_
    refine ARun.call (lit_lt rfl) go_50 rfl (losV_CloneU ks[i] gs[i] _ hrw hrl) ?_
    rintro vc S1 hcl
    obtain ⟨M1, ac, cc, q1, q2, rfl, rfl, q5⟩ := clone_step hcl hfM (by omega); clear hcl
    refine rC (Calm.indexS Try.underlying22 ty_size_32 rfl rfl (by omega) (by omega)) ?_
    refine ARun.store1 rfl rfl ty_size_32 rfl own_ lens_ rfl ?_
    (try simp only [Mem.set_set, List.set_cons_zero, List.set_cons_succ, Nat.zero_add, Nat.reduceAdd])
    refine arun_nil ?_
    refine ain_n ?_
    refine athen_n ?_
    refine AWP.sub [(3, _), (9, _), (10, _), (11, _), (12, _), (4, _), (5, _)] ⟨rfl, rfl, rfl, rfl, rfl, rfl, rfl, trivial⟩ ?_
    simp only [Nat.zero_add, Nat.mul_one, Int.toNat_natCast, pad_set hs gs.length i _ _ hhl hil]
    refine AWP.region ?_
    refine rC (Calm.bin rfl rfl b_add_i64) ?_
    refine rC (Calm.move rfl) ?_
    refine arun_nil ?_
    refine athen_n ?_
    refine ⟨(i + 1, M1, hs ++ [.slice ac ks[i].length cc]), ?_, ?_, ?_, ?_⟩
    all_goals (try dsimp only)
    · exact ⟨rfl, rfl, rfl, rfl, trivial⟩
    · exact Mem.Less.refl _
    · exact ⟨hil, hM.trans q1, q2, by simp [hhl], fun j hj hj' => by by_cases e : j < hs.length; (rw [List.getElem_append_left e]; exact rowR_less _ _ _ _ (hr j hj e) q1); (obtain rfl : j = hs.length := (by simp at hj'; omega); subst hhl; rw [List.getElem_append_right (Nat.le_refl _)]; simp only [Nat.sub_self, List.getElem_cons_zero]; exact q5)⟩
    · omega
  · have hil : i = gs.length := by have := of_decide_eq_false hil; omega
    rw [hil, Nat.sub_self, List.replicate_zero, List.append_nil]
    have hhg : gs.length = hs.length := by omega
    refine AWP.exit ?_
    refine athen_exit ?_
    refine athen_exit ?_
    refine ain_same ?_
    refine athen_n ?_
    refine AWP.seq ?_
    refine AWP.region ?_
    refine rC (Calm.move rfl) ?_
    refine rC (Calm.assign rfl) ?_
    refine arun_nil ?_
    refine athen_n ?_
    refine AWP.sub [(3, _), (9, _), (10, _), (11, _), (12, _), (2, _)] ⟨rfl, rfl, rfl, rfl, rfl, rfl, trivial⟩ ?_
    refine AWP.ret ?_
    refine ⟨_, _, ⟨_, _, rfl, rfl, rfl⟩, Mem.Less.refl _, ?_⟩
    exact ⟨M, b8, hs, ⟨hM, hfM, by omega, hr⟩, by rw [← hgl]; rfl, by rw [hhg]⟩
/-! ### Plain answers -/
namespace Loser
noncomputable def chkP (ks : List (List Nat)) (tr : List Int) : Int := if 1 ≤ ks.length ∧ ks.length ≤ 256 ∧ tr = treeOf ks then 0 else 2
noncomputable def topP (ks : List (List Nat)) (tr : List Int) : Int × List Nat × Int := if chkP ks tr ≠ 0 then (0, [], 2) else if key ks (win ks 1) = [] then (0, [], 3) else ((win ks 1 : Int), key ks (win ks 1), 0)
noncomputable def putP (ks : List (List Nat)) (tr : List Int) (x : List Nat) : List (List Nat) × List Int × Int := if chkP ks tr ≠ 0 then ([], [], 2) else if key ks (win ks 1) = [] then (ks, tr, 3) else if x ≠ [] ∧ lessB x (key ks (win ks 1)) = true then (ks, tr, 12) else (ks.set (win ks 1) x, treeOf (ks.set (win ks 1) x), 0)
def makeP (ks : List (List Nat)) : List (List Nat) × List Int × Int := if 1 ≤ ks.length ∧ ks.length ≤ 256 then (ks, treeOf ks, 0) else ([], [], 1)
def pathF : Nat → Nat → List Int
  | 0, _ => []
  | f + 1, n => if n < 1 then [] else (n : Int) :: pathF f (n / 2)
noncomputable def pathP (ks : List (List Nat)) (tr : List Int) (leaf : Int) : List Int × Int := if chkP ks tr ≠ 0 then ([], 2) else if leaf < 0 ∨ (ks.length : Int) ≤ leaf then ([], 1) else (pathF 10 ((ks.length + leaf.toNat) / 2), 0)
theorem chk_two {ks : List (List Nat)} {tr : List Int} (h : ¬ (1 ≤ ks.length ∧ ks.length ≤ 256 ∧ tr = treeOf ks)) : chkP ks tr = 2 := by unfold chkP; rw [if_neg h]
theorem chk_ok {ks : List (List Nat)} {tr : List Int} (h : 1 ≤ ks.length ∧ ks.length ≤ 256 ∧ tr = treeOf ks) : chkP ks tr = 0 := by unfold chkP; rw [if_pos h]
theorem chk_or (ks : List (List Nat)) (tr : List Int) : (chkP ks tr = 0 ∧ 1 ≤ ks.length ∧ ks.length ≤ 256 ∧ tr = treeOf ks) ∨ chkP ks tr = 2 := by
  by_cases h : 1 ≤ ks.length ∧ ks.length ≤ 256 ∧ tr = treeOf ks
  · exact .inl ⟨chk_ok h, h⟩
  · exact .inr (chk_two h)
end Loser
/-- A tree that is known. -/
def LoV (S : Mem) (hk ht : Value) (ks : List (List Nat)) (tr : List Int) : Prop := SlOf RowR S hk ks ∧ Sl 1 i64s S ht tr
theorem LoV.less {S S' : Mem} {hk ht : Value} {ks : List (List Nat)} {tr : List Int} (h : LoV S hk ht ks tr) (hl : S.Less S') : LoV S' hk ht ks tr := ⟨h.1.less rowR_less hl, h.2.less hl⟩
theorem sl_intB {S : Mem} {q : Nat} {l : List Int} {c len : Nat} (h : S.own q = some (intB l c)) (hl : l.length = len) (hc : len ≤ c) (hm : len ≤ 9223372036854775807) : Sl 1 i64s S (.slice (some ⟨q, 0, none⟩) len c) l :=
  Sl.own1 (g := fun x : Int => Value.int .i64 x) h List.prefix_rfl hl hc hm
set_option maxHeartbeats 2000000 in
theorem losV_Check (hk ht : Value) (ks : List (List Nat)) (tr : List Int) (S : Mem) (hl : LoV S hk ht ks tr) :
    ACall Try.prog 26 #[.agg #[hk, ht]] S fun r S' => r = .int .i64 (chkP ks tr) ∧ S' = S := by
  obtain ⟨hks, hts⟩ := hl
  obtain ⟨pt, ct, rfl, t1, t2, _⟩ := id hts
  obtain ⟨gs, hgl, ⟨pa, ca, rfl, h1, h2, h3⟩, hge⟩ := id hks
  by_cases c1 : gs.length < 1
  · rw [chk_two (by omega)]
    refine ACall.enter (args := [.agg #[.slice pa gs.length ca, .slice pt tr.length ct]]) (rs := [.tmp 2]) 33 [(0, .agg #[.slice pa gs.length ca, .slice pt tr.length ct])] Try.func26 rfl rfl (Nat.le_of_ble_eq_true rfl) rfl ⟨rfl, trivial⟩ ?_
    refine AWP.seq ?_
    refine AWP.region ?_
    refine ARun.boxA (cs := [_, _]) (lit_lt rfl) rfl ?_
    intro b1 f1
    have g1 := f1
    repeat ((with_reducible replace g1 := fresh_set g1); obtain ⟨g1, _⟩ := g1)
    (try simp only [List.length_cons, List.length_nil, Nat.zero_add, Nat.reduceAdd])
    refine rC (Calm.assign rfl) ?_
    refine arun_nil ?_
    refine athen_n ?_
    refine AWP.seq ?_
    refine AWP.region ?_
    refine rC (Calm.fieldAddr ty_field_25_0 rfl) ?_
    refine rC (ld_ ty_plain_22 rfl) ?_
    refine rC (Calm.lenSl Try.underlying22 rfl) ?_
    refine rC (Calm.assign rfl) ?_
    refine arun_nil ?_
    refine athen_n ?_
    refine AWP.sub [(0, _), (1, _), (2, _), (3, _)] ⟨rfl, rfl, rfl, rfl, trivial⟩ ?_
    refine AWP.seq ?_
    refine AWP.seq ?_
    refine AWP.draw [(0, true), (1, true), (2, true), (3, true), (4, true), (5, true), (6, true), (7, true), (8, true), (9, true), (10, true), (11, true), (12, true), (13, true), (14, true), (15, true), (21, true), (22, true), (16, false), (17, true), (18, true), (19, true), (20, true), (23, false), (24, true), (25, true)] [] mixed (by kernel_rfl) ?_
    refine draw_pure rfl rfl rfl rfl (lit_lt rfl) (fun _ => Calm.move rfl) ?_
    refine draw_pure rfl rfl rfl rfl (lit_lt rfl) (fun _ => Calm.bin rfl rfl b_lss) ?_
    refine draw_pure rfl rfl rfl rfl (lit_lt rfl) (fun _ => Calm.move rfl) ?_
    first | refine draw_skipG 2 false _ 9 rfl rfl rfl (lit_lt rfl) rfl rfl rfl (lit_lt rfl) less_ ?_ | refine draw_skipU 2 false 9 rfl rfl rfl (lit_lt rfl) rfl rfl (lit_lt rfl) less_ ?_ | refine draw_calmG 2 false 9 rfl rfl rfl (lit_lt rfl) rfl rfl (lit_lt rfl) less_ (fun S' hS' => Calm.move rfl) ?_
    first | refine draw_skipG 2 false _ 9 rfl rfl rfl (lit_lt rfl) rfl rfl rfl (lit_lt rfl) less_ ?_ | refine draw_skipU 2 false 9 rfl rfl rfl (lit_lt rfl) rfl rfl (lit_lt rfl) less_ ?_ | refine draw_calmG 2 false 9 rfl rfl rfl (lit_lt rfl) rfl rfl (lit_lt rfl) less_ (fun S' hS' => Calm.bin rfl rfl b_gtr) ?_
    refine draw_pure rfl rfl rfl rfl (lit_lt rfl) (fun _ => (by first | exact Calm.pickT rfl rfl | exact Calm.pickF rfl rfl)) ?_
    refine draw_pure rfl rfl rfl rfl (lit_lt rfl) (fun _ => Calm.move rfl) ?_
    first | refine draw_skipG 6 false _ 13 rfl rfl rfl (lit_lt rfl) rfl rfl rfl (lit_lt rfl) less_ ?_ | refine draw_skipU 6 false 13 rfl rfl rfl (lit_lt rfl) rfl rfl (lit_lt rfl) less_ ?_ | refine draw_calmG 6 false 13 rfl rfl rfl (lit_lt rfl) rfl rfl (lit_lt rfl) less_ (fun S' hS' => Calm.fieldAddr ty_field_25_1 rfl) ?_
    first | refine draw_skipG 6 false _ 13 rfl rfl rfl (lit_lt rfl) rfl rfl rfl (lit_lt rfl) less_ ?_ | refine draw_skipU 6 false 13 rfl rfl rfl (lit_lt rfl) rfl rfl (lit_lt rfl) less_ ?_ | refine draw_calmG 6 false 13 rfl rfl rfl (lit_lt rfl) rfl rfl (lit_lt rfl) less_ (fun S' hS' => by obtain rfl := hS'.resolve_left (by decide); exact ld_ ty_plain_23 rfl) ?_
    first | refine draw_skipG 6 false _ 13 rfl rfl rfl (lit_lt rfl) rfl rfl rfl (lit_lt rfl) less_ ?_ | refine draw_skipU 6 false 13 rfl rfl rfl (lit_lt rfl) rfl rfl (lit_lt rfl) less_ ?_ | refine draw_calmG 6 false 13 rfl rfl rfl (lit_lt rfl) rfl rfl (lit_lt rfl) less_ (fun S' hS' => by obtain rfl := hS'.resolve_left (by decide); exact Calm.lenSl Try.underlying23 rfl) ?_
    first | refine draw_skipG 6 false _ 13 rfl rfl rfl (lit_lt rfl) rfl rfl rfl (lit_lt rfl) less_ ?_ | refine draw_skipU 6 false 13 rfl rfl rfl (lit_lt rfl) rfl rfl (lit_lt rfl) less_ ?_ | refine draw_calmG 6 false 13 rfl rfl rfl (lit_lt rfl) rfl rfl (lit_lt rfl) less_ (fun S' hS' => Calm.move rfl) ?_
    first | refine draw_skipG 6 false _ 13 rfl rfl rfl (lit_lt rfl) rfl rfl rfl (lit_lt rfl) less_ ?_ | refine draw_skipU 6 false 13 rfl rfl rfl (lit_lt rfl) rfl rfl (lit_lt rfl) less_ ?_ | refine draw_calmG 6 false 13 rfl rfl rfl (lit_lt rfl) rfl rfl (lit_lt rfl) less_ (fun S' hS' => Calm.bin rfl rfl b_neq) ?_
    refine draw_pure rfl rfl rfl rfl (lit_lt rfl) (fun _ => (by first | exact Calm.pickT rfl rfl | exact Calm.pickF rfl rfl)) ?_
    refine draw_pure rfl rfl rfl rfl (lit_lt rfl) (fun _ => Calm.move rfl) ?_
    first | refine draw_skipG 13 false _ 20 rfl rfl rfl (lit_lt rfl) rfl rfl rfl (lit_lt rfl) less_ ?_ | refine draw_skipU 13 false 20 rfl rfl rfl (lit_lt rfl) rfl rfl (lit_lt rfl) less_ ?_ | refine draw_calmG 13 false 20 rfl rfl rfl (lit_lt rfl) rfl rfl (lit_lt rfl) less_ (fun S' hS' => Calm.fieldAddr ty_field_25_0 rfl) ?_
    first | refine draw_skipG 13 false _ 20 rfl rfl rfl (lit_lt rfl) rfl rfl rfl (lit_lt rfl) less_ ?_ | refine draw_skipU 13 false 20 rfl rfl rfl (lit_lt rfl) rfl rfl (lit_lt rfl) less_ ?_ | refine draw_calmG 13 false 20 rfl rfl rfl (lit_lt rfl) rfl rfl (lit_lt rfl) less_ (fun S' hS' => by obtain rfl := hS'.resolve_left (by decide); exact ld_ ty_plain_22 rfl) ?_
    first | refine draw_skipG 13 false _ 20 rfl rfl rfl (lit_lt rfl) rfl rfl rfl (lit_lt rfl) less_ ?_ | refine draw_skipU 13 false 20 rfl rfl rfl (lit_lt rfl) rfl rfl (lit_lt rfl) less_ ?_ | refine draw_calmG 13 false 20 rfl rfl rfl (lit_lt rfl) rfl rfl (lit_lt rfl) less_ (fun S' hS' => Calm.fieldAddr ty_field_25_1 rfl) ?_
    first | refine draw_skipG 13 false _ 20 rfl rfl rfl (lit_lt rfl) rfl rfl rfl (lit_lt rfl) less_ ?_ | refine draw_skipU 13 false 20 rfl rfl rfl (lit_lt rfl) rfl rfl (lit_lt rfl) less_ ?_ | refine draw_calmG 13 false 20 rfl rfl rfl (lit_lt rfl) rfl rfl (lit_lt rfl) less_ (fun S' hS' => by obtain rfl := hS'.resolve_left (by decide); exact ld_ ty_plain_23 rfl) ?_
    refine draw_only rfl ?_
    first | refine rS 20 ?_ | refine rU 20 ?_
    refine arun_nil ⟨fun _ => less_, ?_⟩
    first | refine draw_skipG 13 false _ 20 rfl rfl rfl (lit_lt rfl) rfl rfl rfl (lit_lt rfl) less_ ?_ | refine draw_skipU 13 false 20 rfl rfl rfl (lit_lt rfl) rfl rfl (lit_lt rfl) less_ ?_ | refine draw_calmG 13 false 20 rfl rfl rfl (lit_lt rfl) rfl rfl (lit_lt rfl) less_ (fun S' hS' => Calm.nilCheck rfl) ?_
    first | refine draw_skipG 13 false _ 20 rfl rfl rfl (lit_lt rfl) rfl rfl rfl (lit_lt rfl) less_ ?_ | refine draw_skipU 13 false 20 rfl rfl rfl (lit_lt rfl) rfl rfl (lit_lt rfl) less_ ?_ | refine draw_calmG 13 false 20 rfl rfl rfl (lit_lt rfl) rfl rfl (lit_lt rfl) less_ (fun S' hS' => Calm.fieldAddr ty_field_64_0 rfl) ?_
    first | refine draw_skipG 13 false _ 20 rfl rfl rfl (lit_lt rfl) rfl rfl rfl (lit_lt rfl) less_ ?_ | refine draw_skipU 13 false 20 rfl rfl rfl (lit_lt rfl) rfl rfl (lit_lt rfl) less_ ?_ | refine draw_calmG 13 false 20 rfl rfl rfl (lit_lt rfl) rfl rfl (lit_lt rfl) less_ (fun S' hS' => Calm.fieldAddr ty_field_25_1 rfl) ?_
    first | refine draw_skipG 13 false _ 20 rfl rfl rfl (lit_lt rfl) rfl rfl rfl (lit_lt rfl) less_ ?_ | refine draw_skipU 13 false 20 rfl rfl rfl (lit_lt rfl) rfl rfl (lit_lt rfl) less_ ?_ | refine draw_calmG 13 false 20 rfl rfl rfl (lit_lt rfl) rfl rfl (lit_lt rfl) less_ (fun S' hS' => by obtain rfl := hS'.resolve_left (by decide); exact ld_ ty_plain_23 rfl) ?_
    refine draw_only rfl ?_
    first | refine rS 20 ?_ | refine rU 20 ?_
    refine arun_nil ⟨fun _ => less_, ?_⟩
    first | refine draw_skipG 13 false _ 20 rfl rfl rfl (lit_lt rfl) rfl rfl rfl (lit_lt rfl) less_ ?_ | refine draw_skipU 13 false 20 rfl rfl rfl (lit_lt rfl) rfl rfl (lit_lt rfl) less_ ?_ | refine draw_calmG 13 false 20 rfl rfl rfl (lit_lt rfl) rfl rfl (lit_lt rfl) less_ (fun S' hS' => Calm.un rfl (una_not _)) ?_
    refine draw_pure rfl rfl rfl rfl (lit_lt rfl) (fun _ => (by first | exact Calm.pickT rfl rfl | exact Calm.pickF rfl rfl)) ?_
    refine draw_nil ?_
    refine athen_n ?_
    refine AWP.sub [(0, _), (1, _), (2, _), (3, _), (32, _)] ⟨rfl, rfl, rfl, rfl, rfl, trivial⟩ ?_
    refine AWP.condT rfl (by first | rfl | (simp; done) | (simp; omega)) ?_
    refine AWP.seq ?_
    refine AWP.region ?_
    refine rC (Calm.assign rfl) ?_
    refine arun_nil ?_
    refine athen_n ?_
    refine AWP.ret ?_
    refine athen_ret ?_
    refine ⟨_, S, ⟨_, _, rfl, rfl, rfl⟩, less_, ?_⟩
    exact ⟨rfl, rfl⟩
  by_cases c2 : 256 < gs.length
  · rw [chk_two (by omega)]
    refine ACall.enter (args := [.agg #[.slice pa gs.length ca, .slice pt tr.length ct]]) (rs := [.tmp 2]) 33 [(0, .agg #[.slice pa gs.length ca, .slice pt tr.length ct])] Try.func26 rfl rfl (Nat.le_of_ble_eq_true rfl) rfl ⟨rfl, trivial⟩ ?_
    refine AWP.seq ?_
    refine AWP.region ?_
    refine ARun.boxA (cs := [_, _]) (lit_lt rfl) rfl ?_
    intro b1 f1
    have g1 := f1
    repeat ((with_reducible replace g1 := fresh_set g1); obtain ⟨g1, _⟩ := g1)
    (try simp only [List.length_cons, List.length_nil, Nat.zero_add, Nat.reduceAdd])
    refine rC (Calm.assign rfl) ?_
    refine arun_nil ?_
    refine athen_n ?_
    refine AWP.seq ?_
    refine AWP.region ?_
    refine rC (Calm.fieldAddr ty_field_25_0 rfl) ?_
    refine rC (ld_ ty_plain_22 rfl) ?_
    refine rC (Calm.lenSl Try.underlying22 rfl) ?_
    refine rC (Calm.assign rfl) ?_
    refine arun_nil ?_
    refine athen_n ?_
    refine AWP.sub [(0, _), (1, _), (2, _), (3, _)] ⟨rfl, rfl, rfl, rfl, trivial⟩ ?_
    refine AWP.seq ?_
    refine AWP.seq ?_
    refine AWP.draw [(0, true), (1, true), (2, true), (3, true), (4, true), (5, true), (6, true), (7, true), (8, true), (9, true), (10, true), (11, true), (12, true), (13, true), (14, true), (15, true), (21, true), (22, true), (16, false), (17, true), (18, true), (19, true), (20, true), (23, false), (24, true), (25, true)] [] mixed (by kernel_rfl) ?_
    refine draw_pure rfl rfl rfl rfl (lit_lt rfl) (fun _ => Calm.move rfl) ?_
    refine draw_pure rfl rfl rfl rfl (lit_lt rfl) (fun _ => Calm.bin rfl rfl b_lss) ?_
    refine draw_pure rfl rfl rfl rfl (lit_lt rfl) (fun _ => Calm.move rfl) ?_
    first | refine draw_skipG 2 false _ 9 rfl rfl rfl (lit_lt rfl) rfl rfl rfl (lit_lt rfl) less_ ?_ | refine draw_skipU 2 false 9 rfl rfl rfl (lit_lt rfl) rfl rfl (lit_lt rfl) less_ ?_ | refine draw_calmG 2 false 9 rfl rfl rfl (lit_lt rfl) rfl rfl (lit_lt rfl) less_ (fun S' hS' => Calm.move rfl) ?_
    first | refine draw_skipG 2 false _ 9 rfl rfl rfl (lit_lt rfl) rfl rfl rfl (lit_lt rfl) less_ ?_ | refine draw_skipU 2 false 9 rfl rfl rfl (lit_lt rfl) rfl rfl (lit_lt rfl) less_ ?_ | refine draw_calmG 2 false 9 rfl rfl rfl (lit_lt rfl) rfl rfl (lit_lt rfl) less_ (fun S' hS' => Calm.bin rfl rfl b_gtr) ?_
    refine draw_pure rfl rfl rfl rfl (lit_lt rfl) (fun _ => (by first | exact Calm.pickT rfl rfl | exact Calm.pickF rfl rfl)) ?_
    refine draw_pure rfl rfl rfl rfl (lit_lt rfl) (fun _ => Calm.move rfl) ?_
    first | refine draw_skipG 6 false _ 13 rfl rfl rfl (lit_lt rfl) rfl rfl rfl (lit_lt rfl) less_ ?_ | refine draw_skipU 6 false 13 rfl rfl rfl (lit_lt rfl) rfl rfl (lit_lt rfl) less_ ?_ | refine draw_calmG 6 false 13 rfl rfl rfl (lit_lt rfl) rfl rfl (lit_lt rfl) less_ (fun S' hS' => Calm.fieldAddr ty_field_25_1 rfl) ?_
    first | refine draw_skipG 6 false _ 13 rfl rfl rfl (lit_lt rfl) rfl rfl rfl (lit_lt rfl) less_ ?_ | refine draw_skipU 6 false 13 rfl rfl rfl (lit_lt rfl) rfl rfl (lit_lt rfl) less_ ?_ | refine draw_calmG 6 false 13 rfl rfl rfl (lit_lt rfl) rfl rfl (lit_lt rfl) less_ (fun S' hS' => by obtain rfl := hS'.resolve_left (by decide); exact ld_ ty_plain_23 rfl) ?_
    first | refine draw_skipG 6 false _ 13 rfl rfl rfl (lit_lt rfl) rfl rfl rfl (lit_lt rfl) less_ ?_ | refine draw_skipU 6 false 13 rfl rfl rfl (lit_lt rfl) rfl rfl (lit_lt rfl) less_ ?_ | refine draw_calmG 6 false 13 rfl rfl rfl (lit_lt rfl) rfl rfl (lit_lt rfl) less_ (fun S' hS' => by obtain rfl := hS'.resolve_left (by decide); exact Calm.lenSl Try.underlying23 rfl) ?_
    first | refine draw_skipG 6 false _ 13 rfl rfl rfl (lit_lt rfl) rfl rfl rfl (lit_lt rfl) less_ ?_ | refine draw_skipU 6 false 13 rfl rfl rfl (lit_lt rfl) rfl rfl (lit_lt rfl) less_ ?_ | refine draw_calmG 6 false 13 rfl rfl rfl (lit_lt rfl) rfl rfl (lit_lt rfl) less_ (fun S' hS' => Calm.move rfl) ?_
    first | refine draw_skipG 6 false _ 13 rfl rfl rfl (lit_lt rfl) rfl rfl rfl (lit_lt rfl) less_ ?_ | refine draw_skipU 6 false 13 rfl rfl rfl (lit_lt rfl) rfl rfl (lit_lt rfl) less_ ?_ | refine draw_calmG 6 false 13 rfl rfl rfl (lit_lt rfl) rfl rfl (lit_lt rfl) less_ (fun S' hS' => Calm.bin rfl rfl b_neq) ?_
    refine draw_pure rfl rfl rfl rfl (lit_lt rfl) (fun _ => (by first | exact Calm.pickT rfl rfl | exact Calm.pickF rfl rfl)) ?_
    refine draw_pure rfl rfl rfl rfl (lit_lt rfl) (fun _ => Calm.move rfl) ?_
    first | refine draw_skipG 13 false _ 20 rfl rfl rfl (lit_lt rfl) rfl rfl rfl (lit_lt rfl) less_ ?_ | refine draw_skipU 13 false 20 rfl rfl rfl (lit_lt rfl) rfl rfl (lit_lt rfl) less_ ?_ | refine draw_calmG 13 false 20 rfl rfl rfl (lit_lt rfl) rfl rfl (lit_lt rfl) less_ (fun S' hS' => Calm.fieldAddr ty_field_25_0 rfl) ?_
    first | refine draw_skipG 13 false _ 20 rfl rfl rfl (lit_lt rfl) rfl rfl rfl (lit_lt rfl) less_ ?_ | refine draw_skipU 13 false 20 rfl rfl rfl (lit_lt rfl) rfl rfl (lit_lt rfl) less_ ?_ | refine draw_calmG 13 false 20 rfl rfl rfl (lit_lt rfl) rfl rfl (lit_lt rfl) less_ (fun S' hS' => by obtain rfl := hS'.resolve_left (by decide); exact ld_ ty_plain_22 rfl) ?_
    first | refine draw_skipG 13 false _ 20 rfl rfl rfl (lit_lt rfl) rfl rfl rfl (lit_lt rfl) less_ ?_ | refine draw_skipU 13 false 20 rfl rfl rfl (lit_lt rfl) rfl rfl (lit_lt rfl) less_ ?_ | refine draw_calmG 13 false 20 rfl rfl rfl (lit_lt rfl) rfl rfl (lit_lt rfl) less_ (fun S' hS' => Calm.fieldAddr ty_field_25_1 rfl) ?_
    first | refine draw_skipG 13 false _ 20 rfl rfl rfl (lit_lt rfl) rfl rfl rfl (lit_lt rfl) less_ ?_ | refine draw_skipU 13 false 20 rfl rfl rfl (lit_lt rfl) rfl rfl (lit_lt rfl) less_ ?_ | refine draw_calmG 13 false 20 rfl rfl rfl (lit_lt rfl) rfl rfl (lit_lt rfl) less_ (fun S' hS' => by obtain rfl := hS'.resolve_left (by decide); exact ld_ ty_plain_23 rfl) ?_
    refine draw_only rfl ?_
    first | refine rS 20 ?_ | refine rU 20 ?_
    refine arun_nil ⟨fun _ => less_, ?_⟩
    first | refine draw_skipG 13 false _ 20 rfl rfl rfl (lit_lt rfl) rfl rfl rfl (lit_lt rfl) less_ ?_ | refine draw_skipU 13 false 20 rfl rfl rfl (lit_lt rfl) rfl rfl (lit_lt rfl) less_ ?_ | refine draw_calmG 13 false 20 rfl rfl rfl (lit_lt rfl) rfl rfl (lit_lt rfl) less_ (fun S' hS' => Calm.nilCheck rfl) ?_
    first | refine draw_skipG 13 false _ 20 rfl rfl rfl (lit_lt rfl) rfl rfl rfl (lit_lt rfl) less_ ?_ | refine draw_skipU 13 false 20 rfl rfl rfl (lit_lt rfl) rfl rfl (lit_lt rfl) less_ ?_ | refine draw_calmG 13 false 20 rfl rfl rfl (lit_lt rfl) rfl rfl (lit_lt rfl) less_ (fun S' hS' => Calm.fieldAddr ty_field_64_0 rfl) ?_
    first | refine draw_skipG 13 false _ 20 rfl rfl rfl (lit_lt rfl) rfl rfl rfl (lit_lt rfl) less_ ?_ | refine draw_skipU 13 false 20 rfl rfl rfl (lit_lt rfl) rfl rfl (lit_lt rfl) less_ ?_ | refine draw_calmG 13 false 20 rfl rfl rfl (lit_lt rfl) rfl rfl (lit_lt rfl) less_ (fun S' hS' => Calm.fieldAddr ty_field_25_1 rfl) ?_
    first | refine draw_skipG 13 false _ 20 rfl rfl rfl (lit_lt rfl) rfl rfl rfl (lit_lt rfl) less_ ?_ | refine draw_skipU 13 false 20 rfl rfl rfl (lit_lt rfl) rfl rfl (lit_lt rfl) less_ ?_ | refine draw_calmG 13 false 20 rfl rfl rfl (lit_lt rfl) rfl rfl (lit_lt rfl) less_ (fun S' hS' => by obtain rfl := hS'.resolve_left (by decide); exact ld_ ty_plain_23 rfl) ?_
    refine draw_only rfl ?_
    first | refine rS 20 ?_ | refine rU 20 ?_
    refine arun_nil ⟨fun _ => less_, ?_⟩
    first | refine draw_skipG 13 false _ 20 rfl rfl rfl (lit_lt rfl) rfl rfl rfl (lit_lt rfl) less_ ?_ | refine draw_skipU 13 false 20 rfl rfl rfl (lit_lt rfl) rfl rfl (lit_lt rfl) less_ ?_ | refine draw_calmG 13 false 20 rfl rfl rfl (lit_lt rfl) rfl rfl (lit_lt rfl) less_ (fun S' hS' => Calm.un rfl (una_not _)) ?_
    refine draw_pure rfl rfl rfl rfl (lit_lt rfl) (fun _ => (by first | exact Calm.pickT rfl rfl | exact Calm.pickF rfl rfl)) ?_
    refine draw_nil ?_
    refine athen_n ?_
    refine AWP.sub [(0, _), (1, _), (2, _), (3, _), (32, _)] ⟨rfl, rfl, rfl, rfl, rfl, trivial⟩ ?_
    refine AWP.condT rfl (by first | rfl | (simp; done) | (simp; omega)) ?_
    refine AWP.seq ?_
    refine AWP.region ?_
    refine rC (Calm.assign rfl) ?_
    refine arun_nil ?_
    refine athen_n ?_
    refine AWP.ret ?_
    refine athen_ret ?_
    refine ⟨_, S, ⟨_, _, rfl, rfl, rfl⟩, less_, ?_⟩
    exact ⟨rfl, rfl⟩
  by_cases c3 : tr.length = gs.length
  · have hof := losV_Of (.slice pa gs.length ca) ks
    have hcd : chkP ks tr = if treeOf ks = tr then 0 else 2 := by
      unfold chkP
      by_cases e : treeOf ks = tr
      · rw [if_pos ⟨by omega, by omega, e.symm⟩, if_pos e]
      · rw [if_neg (fun h => e h.2.2.symm), if_neg e]
    have htl := treeOf_length ks
    rw [hcd]
    refine ACall.enter (args := [.agg #[.slice pa gs.length ca, .slice pt tr.length ct]]) (rs := [.tmp 2]) 33 [(0, .agg #[.slice pa gs.length ca, .slice pt tr.length ct])] Try.func26 rfl rfl (Nat.le_of_ble_eq_true rfl) rfl ⟨rfl, trivial⟩ ?_
    refine AWP.seq ?_
    refine AWP.region ?_
    refine ARun.boxA (cs := [_, _]) (lit_lt rfl) rfl ?_
    intro b1 f1
    have g1 := f1
    repeat ((with_reducible replace g1 := fresh_set g1); obtain ⟨g1, _⟩ := g1)
    (try simp only [List.length_cons, List.length_nil, Nat.zero_add, Nat.reduceAdd])
    refine rC (Calm.assign rfl) ?_
    refine arun_nil ?_
    refine athen_n ?_
    refine AWP.seq ?_
    refine AWP.region ?_
    refine rC (Calm.fieldAddr ty_field_25_0 rfl) ?_
    refine rC (ld_ ty_plain_22 rfl) ?_
    refine rC (Calm.lenSl Try.underlying22 rfl) ?_
    refine rC (Calm.assign rfl) ?_
    refine arun_nil ?_
    refine athen_n ?_
    refine AWP.sub [(0, _), (1, _), (2, _), (3, _)] ⟨rfl, rfl, rfl, rfl, trivial⟩ ?_
    refine AWP.seq ?_
    refine AWP.seq ?_
    refine AWP.draw [(0, true), (1, true), (2, true), (3, true), (4, true), (5, true), (6, true), (7, true), (8, true), (9, true), (10, true), (11, true), (12, true), (13, true), (14, true), (15, true), (21, true), (22, true), (16, false), (17, true), (18, true), (19, true), (20, false), (23, false), (24, true), (25, true)] [] mixed (by kernel_rfl) ?_
    refine draw_pure rfl rfl rfl rfl (lit_lt rfl) (fun _ => Calm.move rfl) ?_
    refine draw_pure rfl rfl rfl rfl (lit_lt rfl) (fun _ => Calm.bin rfl rfl b_lss) ?_
    refine draw_pure rfl rfl rfl rfl (lit_lt rfl) (fun _ => Calm.move rfl) ?_
    first | refine draw_skipG 2 false _ 9 rfl rfl rfl (lit_lt rfl) rfl rfl rfl (lit_lt rfl) less_ ?_ | refine draw_skipU 2 false 9 rfl rfl rfl (lit_lt rfl) rfl rfl (lit_lt rfl) less_ ?_ | refine draw_calmG 2 false 9 rfl rfl rfl (lit_lt rfl) rfl rfl (lit_lt rfl) less_ (fun S' hS' => Calm.move rfl) ?_
    first | refine draw_skipG 2 false _ 9 rfl rfl rfl (lit_lt rfl) rfl rfl rfl (lit_lt rfl) less_ ?_ | refine draw_skipU 2 false 9 rfl rfl rfl (lit_lt rfl) rfl rfl (lit_lt rfl) less_ ?_ | refine draw_calmG 2 false 9 rfl rfl rfl (lit_lt rfl) rfl rfl (lit_lt rfl) less_ (fun S' hS' => Calm.bin rfl rfl b_gtr) ?_
    refine draw_pure rfl rfl rfl rfl (lit_lt rfl) (fun _ => (by first | exact Calm.pickT rfl rfl | exact Calm.pickF rfl rfl)) ?_
    refine draw_pure rfl rfl rfl rfl (lit_lt rfl) (fun _ => Calm.move rfl) ?_
    first | refine draw_skipG 6 false _ 13 rfl rfl rfl (lit_lt rfl) rfl rfl rfl (lit_lt rfl) less_ ?_ | refine draw_skipU 6 false 13 rfl rfl rfl (lit_lt rfl) rfl rfl (lit_lt rfl) less_ ?_ | refine draw_calmG 6 false 13 rfl rfl rfl (lit_lt rfl) rfl rfl (lit_lt rfl) less_ (fun S' hS' => Calm.fieldAddr ty_field_25_1 rfl) ?_
    first | refine draw_skipG 6 false _ 13 rfl rfl rfl (lit_lt rfl) rfl rfl rfl (lit_lt rfl) less_ ?_ | refine draw_skipU 6 false 13 rfl rfl rfl (lit_lt rfl) rfl rfl (lit_lt rfl) less_ ?_ | refine draw_calmG 6 false 13 rfl rfl rfl (lit_lt rfl) rfl rfl (lit_lt rfl) less_ (fun S' hS' => by obtain rfl := hS'.resolve_left (by decide); exact ld_ ty_plain_23 rfl) ?_
    first | refine draw_skipG 6 false _ 13 rfl rfl rfl (lit_lt rfl) rfl rfl rfl (lit_lt rfl) less_ ?_ | refine draw_skipU 6 false 13 rfl rfl rfl (lit_lt rfl) rfl rfl (lit_lt rfl) less_ ?_ | refine draw_calmG 6 false 13 rfl rfl rfl (lit_lt rfl) rfl rfl (lit_lt rfl) less_ (fun S' hS' => by obtain rfl := hS'.resolve_left (by decide); exact Calm.lenSl Try.underlying23 rfl) ?_
    first | refine draw_skipG 6 false _ 13 rfl rfl rfl (lit_lt rfl) rfl rfl rfl (lit_lt rfl) less_ ?_ | refine draw_skipU 6 false 13 rfl rfl rfl (lit_lt rfl) rfl rfl (lit_lt rfl) less_ ?_ | refine draw_calmG 6 false 13 rfl rfl rfl (lit_lt rfl) rfl rfl (lit_lt rfl) less_ (fun S' hS' => Calm.move rfl) ?_
    first | refine draw_skipG 6 false _ 13 rfl rfl rfl (lit_lt rfl) rfl rfl rfl (lit_lt rfl) less_ ?_ | refine draw_skipU 6 false 13 rfl rfl rfl (lit_lt rfl) rfl rfl (lit_lt rfl) less_ ?_ | refine draw_calmG 6 false 13 rfl rfl rfl (lit_lt rfl) rfl rfl (lit_lt rfl) less_ (fun S' hS' => Calm.bin rfl rfl b_neq) ?_
    refine draw_pure rfl rfl rfl rfl (lit_lt rfl) (fun _ => (by first | exact Calm.pickT rfl rfl | exact Calm.pickF rfl rfl)) ?_
    refine draw_pure rfl rfl rfl rfl (lit_lt rfl) (fun _ => Calm.move rfl) ?_
    first | refine draw_skipG 13 false _ 20 rfl rfl rfl (lit_lt rfl) rfl rfl rfl (lit_lt rfl) less_ ?_ | refine draw_skipU 13 false 20 rfl rfl rfl (lit_lt rfl) rfl rfl (lit_lt rfl) less_ ?_ | refine draw_calmG 13 false 20 rfl rfl rfl (lit_lt rfl) rfl rfl (lit_lt rfl) less_ (fun S' hS' => Calm.fieldAddr ty_field_25_0 rfl) ?_
    first | refine draw_skipG 13 false _ 20 rfl rfl rfl (lit_lt rfl) rfl rfl rfl (lit_lt rfl) less_ ?_ | refine draw_skipU 13 false 20 rfl rfl rfl (lit_lt rfl) rfl rfl (lit_lt rfl) less_ ?_ | refine draw_calmG 13 false 20 rfl rfl rfl (lit_lt rfl) rfl rfl (lit_lt rfl) less_ (fun S' hS' => by obtain rfl := hS'.resolve_left (by decide); exact ld_ ty_plain_22 rfl) ?_
    first | refine draw_skipG 13 false _ 20 rfl rfl rfl (lit_lt rfl) rfl rfl rfl (lit_lt rfl) less_ ?_ | refine draw_skipU 13 false 20 rfl rfl rfl (lit_lt rfl) rfl rfl (lit_lt rfl) less_ ?_ | refine draw_calmG 13 false 20 rfl rfl rfl (lit_lt rfl) rfl rfl (lit_lt rfl) less_ (fun S' hS' => Calm.fieldAddr ty_field_25_1 rfl) ?_
    first | refine draw_skipG 13 false _ 20 rfl rfl rfl (lit_lt rfl) rfl rfl rfl (lit_lt rfl) less_ ?_ | refine draw_skipU 13 false 20 rfl rfl rfl (lit_lt rfl) rfl rfl (lit_lt rfl) less_ ?_ | refine draw_calmG 13 false 20 rfl rfl rfl (lit_lt rfl) rfl rfl (lit_lt rfl) less_ (fun S' hS' => by obtain rfl := hS'.resolve_left (by decide); exact ld_ ty_plain_23 rfl) ?_
    refine draw_only rfl ?_
    refine ARun.callG 13 false 20 rfl (lit_lt rfl) rfl (lit_lt rfl) go_45 rfl (hof _ (hks.less rowR_less less_) (by omega) (by omega)) ?_
    rintro _ S1 ⟨p, q, hp, hq, hqp, rfl, h1⟩
    rw [h1]; clear h1 S1; unfold treeB
    have gp := (fresh_set hp).1
    have gq := (fresh_set hq).1
    refine arun_nil ⟨fun _ => less_, ?_⟩
    first | refine draw_skipG 13 false _ 20 rfl rfl rfl (lit_lt rfl) rfl rfl rfl (lit_lt rfl) less_ ?_ | refine draw_skipU 13 false 20 rfl rfl rfl (lit_lt rfl) rfl rfl (lit_lt rfl) less_ ?_ | refine draw_calmG 13 false 20 rfl rfl rfl (lit_lt rfl) rfl rfl (lit_lt rfl) less_ (fun S' hS' => Calm.nilCheck rfl) ?_
    first | refine draw_skipG 13 false _ 20 rfl rfl rfl (lit_lt rfl) rfl rfl rfl (lit_lt rfl) less_ ?_ | refine draw_skipU 13 false 20 rfl rfl rfl (lit_lt rfl) rfl rfl (lit_lt rfl) less_ ?_ | refine draw_calmG 13 false 20 rfl rfl rfl (lit_lt rfl) rfl rfl (lit_lt rfl) less_ (fun S' hS' => Calm.fieldAddr ty_field_64_0 rfl) ?_
    first | refine draw_skipG 13 false _ 20 rfl rfl rfl (lit_lt rfl) rfl rfl rfl (lit_lt rfl) less_ ?_ | refine draw_skipU 13 false 20 rfl rfl rfl (lit_lt rfl) rfl rfl (lit_lt rfl) less_ ?_ | refine draw_calmG 13 false 20 rfl rfl rfl (lit_lt rfl) rfl rfl (lit_lt rfl) less_ (fun S' hS' => Calm.fieldAddr ty_field_25_1 rfl) ?_
    refine draw_only rfl ?_
    first | refine rS 20 ?_ | refine rU 20 ?_ | refine rG 20 (ld_ ty_plain_23 rfl) ?_
    refine arun_nil ⟨fun _ => less_, ?_⟩
    refine draw_only rfl ?_
    refine ARun.callG 13 false 20 rfl (lit_lt rfl) rfl (lit_lt rfl) go_54 rfl (losV_EqualI (treeOf ks) tr _ _ _ (sl_intB own_ htl (Nat.le_refl _) (by omega)) (hts.less less_)) ?_
    rintro _ S1 ⟨rfl, h1⟩
    rw [h1]; clear h1 S1
    refine arun_nil ⟨fun _ => less_, ?_⟩
    first | refine draw_skipG 13 false _ 20 rfl rfl rfl (lit_lt rfl) rfl rfl rfl (lit_lt rfl) less_ ?_ | refine draw_skipU 13 false 20 rfl rfl rfl (lit_lt rfl) rfl rfl (lit_lt rfl) less_ ?_ | refine draw_calmG 13 false 20 rfl rfl rfl (lit_lt rfl) rfl rfl (lit_lt rfl) less_ (fun S' hS' => Calm.un rfl (una_not _)) ?_
    refine draw_pure rfl rfl rfl rfl (lit_lt rfl) (fun _ => (by first | exact Calm.pickT rfl rfl | exact Calm.pickF rfl rfl)) ?_
    refine draw_nil ?_
    refine athen_n ?_
    refine AWP.sub [(0, _), (1, _), (2, _), (3, _), (32, _)] ⟨rfl, rfl, rfl, rfl, rfl, trivial⟩ ?_
    by_cases e : treeOf ks = tr
    · refine AWP.condF rfl ((by rw [decide_eq_true e]; rfl)) ?_
      refine AWP.skip ?_
      refine athen_n ?_
      refine AWP.seq ?_
      refine AWP.region ?_
      refine rC (Calm.assign rfl) ?_
      refine arun_nil ?_
      refine athen_n ?_
      refine AWP.ret ?_
      refine ⟨_, S, ⟨_, _, rfl, rfl, rfl⟩, less_, ?_⟩
      exact ⟨by rw [if_pos e]; rfl, rfl⟩
    · refine AWP.condT rfl ((by rw [decide_eq_false e]; rfl)) ?_
      refine AWP.seq ?_
      refine AWP.region ?_
      refine rC (Calm.assign rfl) ?_
      refine arun_nil ?_
      refine athen_n ?_
      refine AWP.ret ?_
      refine athen_ret ?_
      refine ⟨_, S, ⟨_, _, rfl, rfl, rfl⟩, less_, ?_⟩
      exact ⟨by rw [if_neg e]; rfl, rfl⟩
  · rw [chk_two (by rintro ⟨_, _, e⟩; rw [e, treeOf_length] at c3; omega)]
    refine ACall.enter (args := [.agg #[.slice pa gs.length ca, .slice pt tr.length ct]]) (rs := [.tmp 2]) 33 [(0, .agg #[.slice pa gs.length ca, .slice pt tr.length ct])] Try.func26 rfl rfl (Nat.le_of_ble_eq_true rfl) rfl ⟨rfl, trivial⟩ ?_
    refine AWP.seq ?_
    refine AWP.region ?_
    refine ARun.boxA (cs := [_, _]) (lit_lt rfl) rfl ?_
    intro b1 f1
    have g1 := f1
    repeat ((with_reducible replace g1 := fresh_set g1); obtain ⟨g1, _⟩ := g1)
    (try simp only [List.length_cons, List.length_nil, Nat.zero_add, Nat.reduceAdd])
    refine rC (Calm.assign rfl) ?_
    refine arun_nil ?_
    refine athen_n ?_
    refine AWP.seq ?_
    refine AWP.region ?_
    refine rC (Calm.fieldAddr ty_field_25_0 rfl) ?_
    refine rC (ld_ ty_plain_22 rfl) ?_
    refine rC (Calm.lenSl Try.underlying22 rfl) ?_
    refine rC (Calm.assign rfl) ?_
    refine arun_nil ?_
    refine athen_n ?_
    refine AWP.sub [(0, _), (1, _), (2, _), (3, _)] ⟨rfl, rfl, rfl, rfl, trivial⟩ ?_
    refine AWP.seq ?_
    refine AWP.seq ?_
    refine AWP.draw [(0, true), (1, true), (2, true), (3, true), (4, true), (5, true), (6, true), (7, true), (8, true), (9, true), (10, true), (11, true), (12, true), (13, true), (14, true), (15, true), (21, true), (22, true), (16, false), (17, true), (18, true), (19, true), (20, true), (23, false), (24, true), (25, true)] [] mixed (by kernel_rfl) ?_
    refine draw_pure rfl rfl rfl rfl (lit_lt rfl) (fun _ => Calm.move rfl) ?_
    refine draw_pure rfl rfl rfl rfl (lit_lt rfl) (fun _ => Calm.bin rfl rfl b_lss) ?_
    refine draw_pure rfl rfl rfl rfl (lit_lt rfl) (fun _ => Calm.move rfl) ?_
    first | refine draw_skipG 2 false _ 9 rfl rfl rfl (lit_lt rfl) rfl rfl rfl (lit_lt rfl) less_ ?_ | refine draw_skipU 2 false 9 rfl rfl rfl (lit_lt rfl) rfl rfl (lit_lt rfl) less_ ?_ | refine draw_calmG 2 false 9 rfl rfl rfl (lit_lt rfl) rfl rfl (lit_lt rfl) less_ (fun S' hS' => Calm.move rfl) ?_
    first | refine draw_skipG 2 false _ 9 rfl rfl rfl (lit_lt rfl) rfl rfl rfl (lit_lt rfl) less_ ?_ | refine draw_skipU 2 false 9 rfl rfl rfl (lit_lt rfl) rfl rfl (lit_lt rfl) less_ ?_ | refine draw_calmG 2 false 9 rfl rfl rfl (lit_lt rfl) rfl rfl (lit_lt rfl) less_ (fun S' hS' => Calm.bin rfl rfl b_gtr) ?_
    refine draw_pure rfl rfl rfl rfl (lit_lt rfl) (fun _ => (by first | exact Calm.pickT rfl rfl | exact Calm.pickF rfl rfl)) ?_
    refine draw_pure rfl rfl rfl rfl (lit_lt rfl) (fun _ => Calm.move rfl) ?_
    first | refine draw_skipG 6 false _ 13 rfl rfl rfl (lit_lt rfl) rfl rfl rfl (lit_lt rfl) less_ ?_ | refine draw_skipU 6 false 13 rfl rfl rfl (lit_lt rfl) rfl rfl (lit_lt rfl) less_ ?_ | refine draw_calmG 6 false 13 rfl rfl rfl (lit_lt rfl) rfl rfl (lit_lt rfl) less_ (fun S' hS' => Calm.fieldAddr ty_field_25_1 rfl) ?_
    first | refine draw_skipG 6 false _ 13 rfl rfl rfl (lit_lt rfl) rfl rfl rfl (lit_lt rfl) less_ ?_ | refine draw_skipU 6 false 13 rfl rfl rfl (lit_lt rfl) rfl rfl (lit_lt rfl) less_ ?_ | refine draw_calmG 6 false 13 rfl rfl rfl (lit_lt rfl) rfl rfl (lit_lt rfl) less_ (fun S' hS' => by obtain rfl := hS'.resolve_left (by decide); exact ld_ ty_plain_23 rfl) ?_
    first | refine draw_skipG 6 false _ 13 rfl rfl rfl (lit_lt rfl) rfl rfl rfl (lit_lt rfl) less_ ?_ | refine draw_skipU 6 false 13 rfl rfl rfl (lit_lt rfl) rfl rfl (lit_lt rfl) less_ ?_ | refine draw_calmG 6 false 13 rfl rfl rfl (lit_lt rfl) rfl rfl (lit_lt rfl) less_ (fun S' hS' => by obtain rfl := hS'.resolve_left (by decide); exact Calm.lenSl Try.underlying23 rfl) ?_
    first | refine draw_skipG 6 false _ 13 rfl rfl rfl (lit_lt rfl) rfl rfl rfl (lit_lt rfl) less_ ?_ | refine draw_skipU 6 false 13 rfl rfl rfl (lit_lt rfl) rfl rfl (lit_lt rfl) less_ ?_ | refine draw_calmG 6 false 13 rfl rfl rfl (lit_lt rfl) rfl rfl (lit_lt rfl) less_ (fun S' hS' => Calm.move rfl) ?_
    first | refine draw_skipG 6 false _ 13 rfl rfl rfl (lit_lt rfl) rfl rfl rfl (lit_lt rfl) less_ ?_ | refine draw_skipU 6 false 13 rfl rfl rfl (lit_lt rfl) rfl rfl (lit_lt rfl) less_ ?_ | refine draw_calmG 6 false 13 rfl rfl rfl (lit_lt rfl) rfl rfl (lit_lt rfl) less_ (fun S' hS' => Calm.bin rfl rfl b_neq) ?_
    refine draw_pure rfl rfl rfl rfl (lit_lt rfl) (fun _ => (by first | exact Calm.pickT rfl rfl | exact Calm.pickF rfl rfl)) ?_
    refine draw_pure rfl rfl rfl rfl (lit_lt rfl) (fun _ => Calm.move rfl) ?_
    first | refine draw_skipG 13 false _ 20 rfl rfl rfl (lit_lt rfl) rfl rfl rfl (lit_lt rfl) less_ ?_ | refine draw_skipU 13 false 20 rfl rfl rfl (lit_lt rfl) rfl rfl (lit_lt rfl) less_ ?_ | refine draw_calmG 13 false 20 rfl rfl rfl (lit_lt rfl) rfl rfl (lit_lt rfl) less_ (fun S' hS' => Calm.fieldAddr ty_field_25_0 rfl) ?_
    first | refine draw_skipG 13 false _ 20 rfl rfl rfl (lit_lt rfl) rfl rfl rfl (lit_lt rfl) less_ ?_ | refine draw_skipU 13 false 20 rfl rfl rfl (lit_lt rfl) rfl rfl (lit_lt rfl) less_ ?_ | refine draw_calmG 13 false 20 rfl rfl rfl (lit_lt rfl) rfl rfl (lit_lt rfl) less_ (fun S' hS' => by obtain rfl := hS'.resolve_left (by decide); exact ld_ ty_plain_22 rfl) ?_
    first | refine draw_skipG 13 false _ 20 rfl rfl rfl (lit_lt rfl) rfl rfl rfl (lit_lt rfl) less_ ?_ | refine draw_skipU 13 false 20 rfl rfl rfl (lit_lt rfl) rfl rfl (lit_lt rfl) less_ ?_ | refine draw_calmG 13 false 20 rfl rfl rfl (lit_lt rfl) rfl rfl (lit_lt rfl) less_ (fun S' hS' => Calm.fieldAddr ty_field_25_1 rfl) ?_
    first | refine draw_skipG 13 false _ 20 rfl rfl rfl (lit_lt rfl) rfl rfl rfl (lit_lt rfl) less_ ?_ | refine draw_skipU 13 false 20 rfl rfl rfl (lit_lt rfl) rfl rfl (lit_lt rfl) less_ ?_ | refine draw_calmG 13 false 20 rfl rfl rfl (lit_lt rfl) rfl rfl (lit_lt rfl) less_ (fun S' hS' => by obtain rfl := hS'.resolve_left (by decide); exact ld_ ty_plain_23 rfl) ?_
    refine draw_only rfl ?_
    first | refine rS 20 ?_ | refine rU 20 ?_
    refine arun_nil ⟨fun _ => less_, ?_⟩
    first | refine draw_skipG 13 false _ 20 rfl rfl rfl (lit_lt rfl) rfl rfl rfl (lit_lt rfl) less_ ?_ | refine draw_skipU 13 false 20 rfl rfl rfl (lit_lt rfl) rfl rfl (lit_lt rfl) less_ ?_ | refine draw_calmG 13 false 20 rfl rfl rfl (lit_lt rfl) rfl rfl (lit_lt rfl) less_ (fun S' hS' => Calm.nilCheck rfl) ?_
    first | refine draw_skipG 13 false _ 20 rfl rfl rfl (lit_lt rfl) rfl rfl rfl (lit_lt rfl) less_ ?_ | refine draw_skipU 13 false 20 rfl rfl rfl (lit_lt rfl) rfl rfl (lit_lt rfl) less_ ?_ | refine draw_calmG 13 false 20 rfl rfl rfl (lit_lt rfl) rfl rfl (lit_lt rfl) less_ (fun S' hS' => Calm.fieldAddr ty_field_64_0 rfl) ?_
    first | refine draw_skipG 13 false _ 20 rfl rfl rfl (lit_lt rfl) rfl rfl rfl (lit_lt rfl) less_ ?_ | refine draw_skipU 13 false 20 rfl rfl rfl (lit_lt rfl) rfl rfl (lit_lt rfl) less_ ?_ | refine draw_calmG 13 false 20 rfl rfl rfl (lit_lt rfl) rfl rfl (lit_lt rfl) less_ (fun S' hS' => Calm.fieldAddr ty_field_25_1 rfl) ?_
    first | refine draw_skipG 13 false _ 20 rfl rfl rfl (lit_lt rfl) rfl rfl rfl (lit_lt rfl) less_ ?_ | refine draw_skipU 13 false 20 rfl rfl rfl (lit_lt rfl) rfl rfl (lit_lt rfl) less_ ?_ | refine draw_calmG 13 false 20 rfl rfl rfl (lit_lt rfl) rfl rfl (lit_lt rfl) less_ (fun S' hS' => by obtain rfl := hS'.resolve_left (by decide); exact ld_ ty_plain_23 rfl) ?_
    refine draw_only rfl ?_
    first | refine rS 20 ?_ | refine rU 20 ?_
    refine arun_nil ⟨fun _ => less_, ?_⟩
    first | refine draw_skipG 13 false _ 20 rfl rfl rfl (lit_lt rfl) rfl rfl rfl (lit_lt rfl) less_ ?_ | refine draw_skipU 13 false 20 rfl rfl rfl (lit_lt rfl) rfl rfl (lit_lt rfl) less_ ?_ | refine draw_calmG 13 false 20 rfl rfl rfl (lit_lt rfl) rfl rfl (lit_lt rfl) less_ (fun S' hS' => Calm.un rfl (una_not _)) ?_
    refine draw_pure rfl rfl rfl rfl (lit_lt rfl) (fun _ => (by first | exact Calm.pickT rfl rfl | exact Calm.pickF rfl rfl)) ?_
    refine draw_nil ?_
    refine athen_n ?_
    refine AWP.sub [(0, _), (1, _), (2, _), (3, _), (32, _)] ⟨rfl, rfl, rfl, rfl, rfl, trivial⟩ ?_
    refine AWP.condT rfl (by first | rfl | (simp; done) | (simp; omega)) ?_
    refine AWP.seq ?_
    refine AWP.region ?_
    refine rC (Calm.assign rfl) ?_
    refine arun_nil ?_
    refine athen_n ?_
    refine AWP.ret ?_
    refine athen_ret ?_
    refine ⟨_, S, ⟨_, _, rfl, rfl, rfl⟩, less_, ?_⟩
    exact ⟨rfl, rfl⟩
end Go.Proofs.Ytddabbfjoejalaa
