/-
  What the reach of what comes in gives: lengths of slices, of slices of slices. No program in sight.
-/
import Derived.Test.YtddabbfjoejalaaViewLaw
import Derived.SizedLaws
namespace Go.Proofs.Ytddabbfjoejalaa
open Go.RowKit
set_option linter.unusedVariables false
namespace Mv
section
variable {H : Type} {P : Program}
/-- What is read is within reach. -/
def Small (P : Program) (t : TypeId) (d : DataW H) : Prop := ∀ n ∈ d.weights P t, n ≤ reachBytes
theorem small_arg {ts : List TypeId} {ds : List (DataW H)} {t : TypeId} {d : DataW H} {j : Nat} (h : (DataW.weightsEach P ts ds).all (· ≤ reachBytes) = true) (ht : ts[j]? = some t) (hd : ds[j]? = some d) : Small P t d := fun n hn => by
  simpa using List.all_eq_true.1 h n (DataW.weights_mem_each ht hd n hn)
theorem weightsAll_mem {e : TypeId} : ∀ (ds : List (DataW H)) (i : Nat) (h : i < ds.length) (n : Nat), n ∈ ds[i].weights P e → n ∈ DataW.weightsAll P e ds
  | [], i, h, _, _ => by simp at h
  | d :: r, 0, h, n, hn => by simp only [DataW.weightsAll, List.mem_append]; left; simpa using hn
  | d :: r, i + 1, h, n, hn => by
    simp only [DataW.weightsAll, List.mem_append]; right
    exact weightsAll_mem r i (by simpa using h) n (by simpa using hn)
theorem small_elem {t e : TypeId} {ds rest : List (DataW H)} (ht : P.underlying t = some (.slice e)) (h : Small P t (.slice ds rest)) (i : Nat) (hi : i < ds.length) : Small P e ds[i] := fun n hn => by
  refine h n ?_
  simp only [DataW.weights, ht, List.mem_cons, List.mem_append]
  exact .inr (.inl (weightsAll_mem ds i hi n hn))
theorem small_len {t e : TypeId} {ds rest : List (DataW H)} (ht : P.underlying t = some (.slice e)) (h : Small P t (.slice ds rest)) : ds.length * P.bytesOf e ≤ reachBytes := by
  have := h ((ds.length + rest.length) * P.bytesOf e) (by simp [DataW.weights, ht])
  exact Nat.le_trans (Nat.mul_le_mul_right _ (Nat.le_add_right _ _)) this
theorem small_part {t t' : TypeId} {fs : Array Field} {parts : List (DataW H)} {d : DataW H} {j : Nat} (ht : P.underlying t = some (.struct fs)) (h : Small P t (.agg parts)) (h1 : (fs.toList.map (·.type))[j]? = some t') (h2 : parts[j]? = some d) : Small P t' d := fun n hn => by
  refine h n ?_
  simp only [DataW.weights, ht]
  exact DataW.weights_mem_each h1 h2 n hn
variable {enc : TypeId × Value → H} {W : World} {base : Nat} {held : Bool}
theorem sl_ints_sized {t e : TypeId} {k : IntKind} {a : Option Addr} {len cap : Nat} {d : DataW H} {ps : List MemPlace} (ht : P.underlying t = some (.slice e)) (he : P.underlying e = some (.int k)) (hc : P.cellsOf e = 1)
    (h : DataW.Trod enc P W base (fun _ => true) held t (.slice a len cap) d ps) :
    ∃ l : List Int, Sl 1 (fun x => [.int k x]) (roM W) (.slice a len cap) l ∧ (∀ x ∈ l, (Lit.int k x).wf = true) ∧ (Small P t d → l.length * P.bytesOf e ≤ reachBytes) := by
  have : Nonempty Int := ⟨0⟩
  obtain ⟨l, h1, h2⟩ := sl_of (α := Int) (n := 1) (f := fun x => [.int k x]) (Q := fun x _ => (Lit.int k x).wf = true) ht hc (by decide) (fun _ => rfl) (fun fuel cs x hx => by
    obtain ⟨m, e1, _, hw⟩ := DataW.trod_int he hx
    exact ⟨m, e1, hw⟩) h
  refine ⟨l, h1, fun x hx => ?_, fun hs => ?_⟩
  · rcases h2 with rfl | ⟨ds, rest, rfl, hl, hq⟩
    · cases hx
    · obtain ⟨i, hi, rfl⟩ := List.getElem_of_mem hx
      exact hq i hi (by omega)
  · rcases h2 with rfl | ⟨ds, rest, rfl, hl, hq⟩
    · simp
    · have := small_len ht hs; rwa [hl] at this
theorem sl_nats_sized {t e : TypeId} {a : Option Addr} {len cap : Nat} {d : DataW H} {ps : List MemPlace} (ht : P.underlying t = some (.slice e)) (he : P.underlying e = some (.int .u64)) (hc : P.cellsOf e = 1)
    (h : DataW.Trod enc P W base (fun _ => true) held t (.slice a len cap) d ps) :
    ∃ l : List Nat, Sl 1 (fun x : Nat => [.int .u64 (x : Int)]) (roM W) (.slice a len cap) l ∧ (∀ x ∈ l, x < 18446744073709551616) ∧ (Small P t d → l.length * P.bytesOf e ≤ reachBytes) := by
  obtain ⟨l, h1, h2, h4⟩ := sl_ints_sized ht he hc h
  obtain ⟨m, rfl, h3⟩ := nats_of l 18446744073709551615 (fun x hx => by
    have := h2 x hx
    simp [Lit.wf, IntKind.min, IntKind.max, IntKind.signed, IntKind.bits] at this; omega)
  exact ⟨m, h1.map _ (fun _ => rfl), fun x hx => by have := h3 x hx; omega, by simpa using h4⟩
/-- Slices of numbers that came in, with the reach. -/
theorem rows_sized {t te e : TypeId} {a : Option Addr} {len cap : Nat} {d : DataW H} {ps : List MemPlace} (ht : P.underlying t = some (.slice te)) (hc : P.cellsOf te = 1) (hte : P.underlying te = some (.slice e)) (he : P.underlying e = some (.int .u64)) (hce : P.cellsOf e = 1)
    (h : DataW.Trod enc P W base (fun _ => true) held t (.slice a len cap) d ps) :
    ∃ l : List (List Nat), SlOf (fun S v l => Sl 1 (fun x : Nat => [Value.int .u64 (x : Int)]) S v l) (roM W) (.slice a len cap) l ∧ (∀ x ∈ l, ∀ n ∈ x, n < 18446744073709551616) ∧ (Small P t d → l.length * P.bytesOf te ≤ reachBytes) ∧ (Small P t d → ∀ x ∈ l, x.length * P.bytesOf e ≤ reachBytes) := by
  obtain ⟨l, h1, h2⟩ := slOf_of (R := fun S v (l : List Nat) => Sl 1 (fun x : Nat => [Value.int .u64 (x : Int)]) S v l) (Q := fun (x : List Nat) dx => (∀ n ∈ x, n < 18446744073709551616) ∧ (Small P te dx → x.length * P.bytesOf e ≤ reachBytes)) ht hc (fun fuel cs x hx => by
    obtain ⟨p, ln, cp, hcs⟩ := trod_slice_cells hte hx
    subst hcs
    obtain ⟨m, h3, h4, h5⟩ := sl_nats_sized (W := W) (enc := enc) (base := base) (held := held) (d := x.1) (ps := x.2) hte he hce ⟨fuel, hx⟩
    exact ⟨_, m, rfl, h3, h4, h5⟩) h
  refine ⟨l, h1, fun x hx => ?_, fun hs => ?_, fun hs x hx => ?_⟩
  · rcases h2 with rfl | ⟨ds, rest, rfl, hl, hq⟩
    · cases hx
    · obtain ⟨i, hi, rfl⟩ := List.getElem_of_mem hx
      exact (hq i hi (by omega)).1
  · rcases h2 with rfl | ⟨ds, rest, rfl, hl, hq⟩
    · simp
    · have := small_len ht hs; rwa [hl] at this
  · rcases h2 with rfl | ⟨ds, rest, rfl, hl, hq⟩
    · cases hx
    · obtain ⟨i, hi, rfl⟩ := List.getElem_of_mem hx
      exact (hq i hi (by omega)).2 (small_elem ht hs i (by omega))
end
theorem reach8 {n b : Nat} (h : n * b ≤ reachBytes) (hb : b = 8) : n ≤ 17592186043904 := by
  subst hb; have : reachBytes = 140737488351232 := by decide
  omega
theorem reach24 {n b : Nat} (h : n * b ≤ reachBytes) (hb : b = 24) : n ≤ 5864062014634 := by
  subst hb; have : reachBytes = 140737488351232 := by decide
  omega
end Mv
end Go.Proofs.Ytddabbfjoejalaa
