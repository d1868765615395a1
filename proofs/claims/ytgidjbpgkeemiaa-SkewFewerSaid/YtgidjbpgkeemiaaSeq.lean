/-
  Slices that grow by one thing at a time, and small closing steps of walks. No program in sight.
-/
import Derived.Test.YtgidjbpgkeemiaaMem
namespace Go.Proofs.Ytgidjbpgkeemiaa
open Go.RowKit
open Mv
set_option linter.unusedVariables false
theorem push_sub {α : Type} {b c n : Nat} {L : List α} {x : α} (h : n = L.length + 1) : some (outV (some (b, c)) n) = some (outV (some (b, c)) (L ++ [x]).length) := by
  rw [h, List.length_append]; rfl
theorem push_map {α : Type} {g : α → Value} {L : List α} {x : α} : L.map g ++ [g x] = (L ++ [x]).map g := by rw [List.map_append]; rfl
theorem push_less {α : Type} {S : Mem} {o : Option (Nat × Nat)} {e : TypeId} {g : α → Value} {L : List α} {x : α} {v : Value} (h : v = g x) : (outM S o e ((L ++ [x]).map g)).Less (outM S o e (L.map g ++ [v])) := by
  rw [h, push_map]; exact Mem.Less.refl _
theorem push_ok {α : Type} {S : Mem} {b c n : Nat} {L : List α} {x : α} (h : OkO S (some (b, c)) n) (hn : n = L.length + 1) : OkO S (some (b, c)) (L ++ [x]).length := by
  rw [List.length_append]; subst hn; exact h
/-- Slots that are as told. -/
theorem sq_ {p : Prop} (h : p := by first | rfl | (refine some_int ?_; first | omega | (dsimp only; omega)) | exact push_sub (by first | rfl | omega)) : p := h
theorem map_len {α β : Type} {g : α → β} {L : List α} : (L.map g).length = L.length := List.length_map ..
/-- A value that is read: what was known stays, and it is this list. -/
def RdL {α : Type} (g : α → Value) (l : List α) (S : Mem) (r : Value) (S' : Mem) : Prop := S.Less S' ∧ Sl 1 (fun x => [g x]) S' r l
theorem RdL.of_out {α : Type} {g : α → Value} {S : Mem} {o : Option (Nat × Nat)} {e : TypeId} {l : List α} {n : Nat} (h : OkO S o n) (hn : l.length = n) (hm : n ≤ 9223372036854775807) : RdL g l S (outV o n) (outM S o e (l.map g)) :=
  ⟨outM_over h, sl_outV h hn hm⟩
/-- A new slice that is the call's own. -/
def NewL {α : Type} (g : α → Value) (e : TypeId) (l : List α) (S : Mem) (r : Value) (S' : Mem) : Prop := ∃ o, OkO S o l.length ∧ r = outV o l.length ∧ S' = outM S o e (l.map g)
theorem NewL.rd {α : Type} {g : α → Value} {e : TypeId} {l : List α} {S : Mem} {r : Value} {S' : Mem} (h : NewL g e l S r S') (hm : l.length ≤ 9223372036854775807) : RdL g l S r S' := by
  obtain ⟨o, ho, rfl, rfl⟩ := h
  exact RdL.of_out ho rfl hm
theorem Sl.len_eq {α : Type} {n : Nat} {f : α → List Value} {S : Mem} {v : Value} {l : List α} (h : Sl n f S v l) : ∃ a cap, v = .slice a l.length cap ∧ l.length ≤ 9223372036854775807 := by
  obtain ⟨a, cap, e, _, h2, _⟩ := h; exact ⟨a, cap, e, h2⟩
/-- A call where a slice of one's own lies over the memory. -/
theorem frameM {P : Program} {f : FuncId} {args : Array Value} {S : Mem} {R : Value → Mem → Prop} (h : ACall P f args S R) {m : Nat} {o : Option (Nat × Nat)} {e : TypeId} {cs : List Value} (ho : OkO S o m) :
    ACall P f args (outM S o e cs) fun r S' => ∃ M, R r M ∧ OkO M o m ∧ S' = outM M o e cs := by
  cases o with
  | none => exact h.mono fun r S' hr => ⟨S', hr, ⟨ho.nil, fun b c e => (by cases e)⟩, rfl⟩
  | some q => exact (h.frame (ho.own q.1 q.2 rfl).1).mono fun r S' ⟨M, hr, hf, he⟩ => ⟨M, hr, ⟨fun x => (by cases x), fun b c e => (by cases e; exact ⟨hf, (ho.own _ _ rfl).2⟩)⟩, he⟩
/-- A list that is filled from its beginning on. -/
theorem fill_set {α : Type} (hs : List α) (z v : α) (m i : Nat) (h : hs.length = i) (hi : i < m) : (hs ++ List.replicate (m - i) z).set i v = (hs ++ [v]) ++ List.replicate (m - (i + 1)) z := by
  subst h
  rw [List.set_append_right _ _ (Nat.le_refl _), Nat.sub_self, show m - hs.length = (m - (hs.length + 1)) + 1 by omega, List.replicate_succ, List.set_cons_zero, List.append_assoc]; rfl
theorem fill_map {α β : Type} (g : α → β) (L : List α) (z : α) (m i : Nat) (x : α) (h : L.length = i) (hi : i < m) : (L.map g ++ List.replicate (m - i) (g z)).set i (g x) = (L ++ [x]).map g ++ List.replicate (m - (i + 1)) (g z) := by
  rw [fill_set _ _ _ _ _ (by rw [List.length_map]; exact h) hi, List.map_append]; rfl
/-- Headers that are told one behind the other. -/
theorem heads_step {β : Type} {R : Mem → Value → β → Prop} (hR : ∀ S S' v x, R S v x → S.Less S' → R S' v x) {M M' : Mem} {hs : List Value} {f : Nat → β} (h : ∀ j (h : j < hs.length), R M hs[j] (f j)) (hl : M.Less M') {v : Value} (hv : R M' v (f hs.length)) :
    ∀ j (h : j < (hs ++ [v]).length), R M' (hs ++ [v])[j] (f j) := by
  intro j hj
  rw [List.length_append] at hj
  rcases Nat.lt_or_ge j hs.length with h' | h'
  · rw [List.getElem_append_left h']; exact hR _ _ _ _ (h j h') hl
  · obtain rfl : j = hs.length := by simp at hj; omega
    rw [List.getElem_append_right (Nat.le_refl _)]
    simpa using hv
theorem heads_slOf {β : Type} {R : Mem → Value → β → Prop} (hR : ∀ S S' v x, R S v x → S.Less S' → R S' v x) {M S : Mem} {hs : List Value} {f : Nat → β} (h : ∀ j (h : j < hs.length), R M hs[j] (f j)) {xs : List β} (hlen : hs.length = xs.length) (hx : ∀ j (h : j < xs.length), xs[j] = f j)
    {b n cap room : Nat} {T : TypeId} (ho : S.own b = some ⟨T, hs, room⟩) (hml : M.Less S) (hn : hs.length = n) (hc : n ≤ cap) (hm : n ≤ 9223372036854775807) : SlOf R S (.slice (some ⟨b, 0, none⟩) n cap) xs := by
  refine ⟨hs, hlen, Sl.own1 (g := fun x => x) ho (by rw [List.map_id']; exact List.prefix_rfl) hn hc hm, fun i h1 h2 => ?_⟩
  rw [hx i h1]; exact hR _ _ _ _ (h i h2) hml
theorem rd_list {α : Type} {S : Mem} {b : Nat} {T : TypeId} {g : α → Value} {L : List α} {room o : Nat} (k : Nat) (hk : k < L.length) (h : S.own b = some ⟨T, L.map g, room⟩) (ho : o = k) : S.rd ⟨b, o, none⟩ = some (g L[k]) := by
  rw [rd_own h, ho]; simp [hk]
/-- A slice without its first thing. -/
theorem Sl.tail1 {α : Type} {f : α → List Value} {S : Mem} {b o n cap : Nat} {x : α} {l : List α} (h : Sl 1 f S (.slice (some ⟨b, o, none⟩) n cap) (x :: l)) : Sl 1 f S (.slice (some ⟨b, if cap = 1 then o else o + 1 * 1, none⟩) (n - 1) (cap - 1)) l := by
  obtain ⟨a, c, e, h1, h2, h3⟩ := h
  cases e
  obtain ⟨b', o', e', hk⟩ := h3.resolve_left (fun h => by cases h)
  cases e'
  simp only [List.length_cons] at h1 h2
  refine ⟨_, cap - 1, by rw [List.length_cons, Nat.add_sub_cancel], by omega, by omega, ?_⟩
  by_cases hl : l = []
  · exact .inl hl
  · refine .inr ⟨b, _, rfl, fun i hi => ?_⟩
    have hne : ¬ cap = 1 := by omega
    rw [if_neg hne]
    have := hk (i + 1) (by rw [List.length_cons]; omega)
    rw [show o + 1 * 1 + i * 1 = o + (i + 1) * 1 by omega]
    exact this
theorem Sl.head1 {α : Type} {f : α → List Value} {S : Mem} {b o n cap : Nat} {x : α} {l : List α} (h : Sl 1 f S (.slice (some ⟨b, o, none⟩) n cap) (x :: l)) : S.Knows ⟨b, o + 0 * 1, none⟩ (f x) ∧ n = l.length + 1 := by
  obtain ⟨a, c, e, h1, h2, h3⟩ := h
  cases e
  obtain ⟨b', o', e', hk⟩ := h3.resolve_left (fun h => by cases h)
  cases e'
  exact ⟨hk 0 (by simp), rfl⟩
theorem Sl.cons_addr {α : Type} {f : α → List Value} {S : Mem} {v : Value} {x : α} {l : List α} (h : Sl 1 f S v (x :: l)) : ∃ b o cap, v = .slice (some ⟨b, o, none⟩) (l.length + 1) cap ∧ l.length + 1 ≤ cap ∧ cap ≤ cap := by
  obtain ⟨a, c, e, h1, h2, h3⟩ := h
  obtain ⟨b', o', e', hk⟩ := h3.resolve_left (fun h => by cases h)
  subst e'
  exact ⟨b', o', c, e, h1, Nat.le_refl _⟩
end Go.Proofs.Ytgidjbpgkeemiaa
