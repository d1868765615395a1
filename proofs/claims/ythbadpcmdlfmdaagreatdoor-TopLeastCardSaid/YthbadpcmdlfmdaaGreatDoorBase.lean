/-
  Small facts that all texts use: endings, texts as lists of bytes, rows of cells, what a call leaves alone.
-/
import Derived.Test.YthbadpcmdlfmdaaGreatDoorRows
import Derived.WalkKit
import Derived.WalkSpells
import Derived.WalkLawsBesides
import Derived.Handy
import Derived.ProofKit
import Derived.OpenShut
import Derived.SliceStrings
import Derived.Lib.Hide
import Derived.Lib.ConvBytes
import Derived.Deep.RegionHeld3
import Derived.Deep.DeepMust
import Derived.Deep.QuietTactic
import Derived.BigQuiet
namespace Go.Proofs.YthbadpcmdlfmdaaGreatDoor
open Go.RowKit
set_option linter.unusedVariables false

theorem ret_int {k : IntKind} {a b : Int} (h : a = b) : Ending.returned (.int k a) = .returned (.int k b) := by rw [h]
theorem val_int {k : IntKind} {a b : Int} (h : a = b) : Value.int k a = .int k b := by rw [h]
theorem ret_str {a b : ByteArray} (h : a = b) : Ending.returned (.string a) = .returned (.string b) := by rw [h]
theorem val_str {a b : ByteArray} (h : a = b) : Value.string a = .string b := by rw [h]

/-! ### What a call leaves alone -/
theorem below_then {w W w' : World} (h : Below w.heap.size w W) (hb : Below W.heap.size W w') : Below w.heap.size w w' := h.trans (hb.mono h.size)
theorem below_alloc' {w W : World} (h : Below w.heap.size w W) (o : Obj) : Below w.heap.size w (W.alloc o) := h.alloc h.size o
theorem below_call {B : Nat} {w W w' : World} (h : Below B w W) (hb : Below W.heap.size W w') (hle : B ≤ W.heap.size) : Below B w w' := h.trans (hb.mono hle)
theorem below_freeze {B : Nat} {w W : World} (h : Below B w W) (a : Addr) (n : Nat) (ha : B ≤ a.block) : Below B w (W.freeze a n) := by
  refine h.trans ?_
  unfold World.freeze
  split
  · exact Below.refl _ _
  · refine ⟨rfl, rfl, rfl, by simp, fun k hk => ?_⟩
    simp only [Array.getElem?_modify]
    rw [if_neg (by omega)]

/-- What a call may have turned: blocks of S, and new ones. -/
structure Touch (S : Nat → Prop) (w w' : World) : Prop where
  os : w'.os = w.os
  tape : w'.tape = w.tape
  output : w'.output = w.output
  size : w.heap.size ≤ w'.heap.size
  block : ∀ k, k < w.heap.size → ¬ S k → w'.heap[k]? = w.heap[k]?
theorem Touch.refl (S : Nat → Prop) (w : World) : Touch S w w := ⟨rfl, rfl, rfl, Nat.le_refl _, fun _ _ _ => rfl⟩
theorem Touch.trans {S S' : Nat → Prop} {a b c : World} (h : Touch S a b) (k : Touch S' b c) (hs : ∀ i, i < a.heap.size → S' i → S i) : Touch S a c :=
  ⟨k.os.trans h.os, k.tape.trans h.tape, k.output.trans h.output, Nat.le_trans h.size k.size, fun i hi hn => (k.block i (Nat.lt_of_lt_of_le hi h.size) fun x => hn (hs i hi x)).trans (h.block i hi hn)⟩
theorem Touch.mono {S S' : Nat → Prop} {a b : World} (h : Touch S a b) (hs : ∀ i, i < a.heap.size → S i → S' i) : Touch S' a b := ⟨h.os, h.tape, h.output, h.size, fun i hi hn => h.block i hi fun x => hn (hs i hi x)⟩
theorem Touch.below {S : Nat → Prop} {a b : World} {B : Nat} (h : Touch S a b) (hB : B ≤ a.heap.size) (hs : ∀ i, i < B → ¬ S i) : Below B a b :=
  ⟨h.os, h.tape, h.output, h.size, fun i hi => h.block i (Nat.lt_of_lt_of_le hi hB) (hs i hi)⟩
theorem below_touch {a b : World} (h : Below a.heap.size a b) (S : Nat → Prop) : Touch S a b := ⟨h.os, h.tape, h.output, h.size, fun i hi _ => h.block i hi⟩
theorem Touch.drew {S : Nat → Prop} {a b : World} (h : Touch S a b) : Touch S a b.drew := ⟨h.os, h.tape, h.output, h.size, h.block⟩
theorem Touch.drewN {S : Nat → Prop} {a b : World} (h : Touch S a b) (n : Nat) : Touch S a (b.drewN n) := ⟨h.os, h.tape, h.output, h.size, h.block⟩
theorem Touch.alloc {S : Nat → Prop} {a b : World} (h : Touch S a b) (o : Obj) : Touch S a (b.alloc o) :=
  h.trans (below_touch ((Below.refl _ _).alloc (Nat.le_refl _) o) (fun _ => False)) fun _ _ x => x.elim
theorem Touch.setCell {S : Nat → Prop} {a b : World} (h : Touch S a b) {p : Addr} (hp : S p.block ∨ a.heap.size ≤ p.block) (v : Value) : Touch S a (b.setCell p v) :=
  ⟨h.os, h.tape, h.output, by rw [World.size_setCell]; exact h.size, fun i hi hn => by
    rw [Below.heap_setCell _ _ _ _ (fun e => by subst e; rcases hp with hp | hp; exact hn hp; omega)]; exact h.block i hi hn⟩
theorem Touch.grown {S : Nat → Prop} {a b c : World} {row : Option Nat} (h : Touch S a b) (hg : b.grownBy c row) (hr : ∀ k, row = some k → k < a.heap.size → S k) : Touch S a c :=
  ⟨hg.os.trans h.os, hg.tape.trans h.tape, hg.output.trans h.output, Nat.le_trans h.size hg.size, fun i hi hn =>
    (hg.block i (Nat.lt_of_lt_of_le hi h.size) (fun e => hn (hr i e.symm hi))).trans (h.block i hi hn)⟩
theorem Touch.cell {S : Nat → Prop} {w w' : World} (h : Touch S w w') {p : Addr} (hl : p.block < w.heap.size) (hn : ¬ S p.block) : w'.cell? p = w.cell? p := World.cell?_of_block (w := w) (h.block _ hl hn)
theorem Touch.frozen {S : Nat → Prop} {w w' : World} (h : Touch S w w') {p : Addr} (hl : p.block < w.heap.size) (hn : ¬ S p.block) : w'.frozen? p = w.frozen? p := World.frozen?_of_block (w := w) (h.block _ hl hn)

/-- Behind a new block, a draw and an append another block is as it was. -/
theorem grown_keep {W w : World} {o : Obj} {row : Option Nat} {b : Nat} (h : (W.alloc o).drew.grownBy w row) (hb : b < W.heap.size) (hne : some b ≠ row) : w.heap[b]? = W.heap[b]? :=
  (h.block b (by show b < (W.alloc o).heap.size; rw [World.size_alloc]; omega) hne).trans (Below.heap_alloc W o b hb)
theorem grown_touch {S : Nat → Prop} {a W w : World} {o : Obj} {row : Option Nat} (ht : Touch S a W) (h : (W.alloc o).drew.grownBy w row) (hr : ∀ k, row = some k → k < a.heap.size → S k) : Touch S a w :=
  (ht.alloc o).drew.grown h hr
/-- The world under a name. -/
theorem wp_world {P : Program} {c : Code} {Q : Exit → Act → World → Prop} {a : Act} {W : World} (h : ∀ W1, W1 = W → c.wp P Q a W1) : c.wp P Q a W := h W rfl

/-! ### Texts as lists of bytes -/
theorem take_snoc (s : ByteArray) (k : Nat) (h : k < s.size) : s.data.toList.take (k + 1) = s.data.toList.take k ++ [s[k]] := by
  rw [List.take_succ_eq_append_getElem (by simpa using h)]; rfl
theorem take_all (s : ByteArray) : s.data.toList.take s.size = s.data.toList := List.take_of_length_le (by simp)

/-! ### Rows of cells: 'f j' stands in cell 'off + j' of block b, and may be written -/
def Row (w : World) (b off n : Nat) (f : Nat → Value) : Prop := ∀ j, j < n → w.cell? ⟨b, off + j, none⟩ = some (f j) ∧ w.frozen? ⟨b, off + j, none⟩ = false
theorem Row.cell {w : World} {b off n : Nat} {f : Nat → Value} (h : Row w b off n f) {j : Nat} (hj : j < n) : w.cell? ⟨b, off + j, none⟩ = some (f j) := (h j hj).1
theorem Row.free {w : World} {b off n : Nat} {f : Nat → Value} (h : Row w b off n f) {j : Nat} (hj : j < n) : w.frozen? ⟨b, off + j, none⟩ = false := (h j hj).2
theorem Row.cell0 {w : World} {b n : Nat} {f : Nat → Value} (h : Row w b 0 n f) {j : Nat} (hj : j < n) : w.cell? ⟨b, j, none⟩ = some (f j) := by
  have := (h j hj).1; rwa [Nat.zero_add] at this
theorem Row.free0 {w : World} {b n : Nat} {f : Nat → Value} (h : Row w b 0 n f) {j : Nat} (hj : j < n) : w.frozen? ⟨b, j, none⟩ = false := by
  have := (h j hj).2; rwa [Nat.zero_add] at this
/-- The block is as it was. -/
theorem Row.block {w w' : World} {b off n : Nat} {f : Nat → Value} (h : Row w b off n f) (hb : w'.heap[b]? = w.heap[b]?) : Row w' b off n f := fun j hj =>
  ⟨(World.cell?_of_block (w := w) hb).trans (h j hj).1, (World.frozen?_of_block (w := w) hb).trans (h j hj).2⟩
theorem Row.below {w w' : World} {b off n B : Nat} {f : Nat → Value} (h : Row w b off n f) (hb : Below B w w') (hB : b < B) : Row w' b off n f := h.block (hb.block b hB)
theorem Row.lt {w : World} {b off n : Nat} {f : Nat → Value} (h : Row w b off n f) (hn : 0 < n) : b < w.heap.size := World.block_lt_of_cell? _ _ (h 0 hn).1
theorem Row.later {w w' : World} {b off n : Nat} {f : Nat → Value} (h : Row w b off n f) (hb : Below w.heap.size w w') : Row w' b off n f := fun j hj =>
  (h.below hb (h.lt (by omega))) j hj
theorem Row.alloc {w : World} {b off n : Nat} {f : Nat → Value} (h : Row w b off n f) (o : Obj) : Row (w.alloc o) b off n f := h.later ((Below.refl _ _).alloc (Nat.le_refl _) _)
theorem Row.drew {w : World} {b off n : Nat} {f : Nat → Value} (h : Row w b off n f) : Row w.drew b off n f := h.block rfl
theorem Row.drewN {w : World} {b off n : Nat} {f : Nat → Value} (h : Row w b off n f) (k : Nat) : Row (w.drewN k) b off n f := h.block rfl
theorem Row.set {w : World} {b off n : Nat} {f : Nat → Value} (h : Row w b off n f) {k : Nat} (hk : k < n) (v : Value) :
    Row (w.setCell ⟨b, off + k, none⟩ v) b off n (fun j => if j = k then v else f j) := fun j hj => by
  refine ⟨?_, by rw [World.frozen?_setCell]; exact (h j hj).2⟩
  by_cases e : j = k
  · subst e; simp only [if_true]; exact World.cell?_setCell_same _ _ _ (h j hj).1
  · simp only [if_neg e]
    rw [World.cell?_setCell_other _ _ _ _ (fun x => e (by have := congrArg Addr.off x; simp only at this; omega))]
    exact (h j hj).1
theorem Row.set0 {w : World} {b n : Nat} {f : Nat → Value} (h : Row w b 0 n f) {k : Nat} (hk : k < n) (v : Value) :
    Row (w.setCell ⟨b, k, none⟩ v) b 0 n (fun j => if j = k then v else f j) := by
  have := h.set hk v; rwa [Nat.zero_add] at this
theorem Row.other {w : World} {b off n : Nat} {f : Nat → Value} (h : Row w b off n f) {a : Addr} (ha : a.block ≠ b) (v : Value) : Row (w.setCell a v) b off n f :=
  h.block (Below.heap_setCell _ _ _ _ (Ne.symm ha))
theorem Row.congr {w : World} {b off n : Nat} {f g : Nat → Value} (h : Row w b off n f) (e : ∀ j, j < n → f j = g j) : Row w b off n g := fun j hj => by rw [← e j hj]; exact h j hj
theorem Row.sub {w : World} {b off n : Nat} {f : Nat → Value} (h : Row w b off n f) (k m : Nat) (hk : k + m ≤ n) : Row w b (off + k) m (fun j => f (k + j)) := fun j hj => by
  rw [Nat.add_assoc]; exact h (k + j) (by omega)

/-! ### Bytes in a row -/
/-- A byte as the number that a slot holds. -/
def nb (b : UInt8) : Int := (b.toNat : Int)
theorem nb_nonneg (b : UInt8) : 0 ≤ nb b := Int.natCast_nonneg _
theorem nb_le (b : UInt8) : nb b ≤ 255 := by have := b.toNat_lt; unfold nb; omega
theorem nb_inj {a b : UInt8} (h : nb a = nb b) : a = b := UInt8.toNat_inj.1 (by unfold nb at h; omega)
theorem nb_of {x : Int} (h0 : 0 ≤ x) (h1 : x ≤ 255) : nb (UInt8.ofNat x.toNat) = x := by
  unfold nb; rw [UInt8.toNat_ofNat']; omega
theorem nb_xor (a b : UInt8) : bits .xor .u8 (nb a) (nb b) = nb (a ^^^ b) := by
  have ha := a.toNat_lt; have hb := b.toNat_lt; have hc := (a ^^^ b).toNat_lt
  rw [UInt8.toNat_xor] at hc
  show IntKind.u8.wrap (((BitVec.ofInt 8 (nb a)) ^^^ (BitVec.ofInt 8 (nb b))).toNat : Int) = nb (a ^^^ b)
  rw [IntKind.wrap_u8]
  unfold nb
  rw [BitVec.ofInt_natCast, BitVec.ofInt_natCast, BitVec.toNat_xor, BitVec.toNat_ofNat, BitVec.toNat_ofNat, Nat.mod_eq_of_lt (by omega), Nat.mod_eq_of_lt (by omega), UInt8.toNat_xor]
  omega
theorem nb_byte (b : UInt8) : nb b = (b.toNat : Int) := rfl
/-- The byte at a place of a list. -/
def at8 (l : List UInt8) (j : Nat) : UInt8 := l.getD j 0
theorem at8_get (l : List UInt8) (j : Nat) (h : j < l.length) : at8 l j = l[j] := by simp [at8, List.getD, List.getElem?_eq_getElem h]
theorem at8_str (s : ByteArray) (j : Nat) (h : j < s.size) : ((s[j]'h).toNat : Int) = nb (at8 s.data.toList j) := by
  rw [at8_get _ _ (by simpa using h)]; rfl
theorem at8_set_same (l : List UInt8) (k : Nat) (v : UInt8) (h : k < l.length) : at8 (l.set k v) k = v := by simp [at8, List.getD, h]
theorem at8_set_other (l : List UInt8) (k j : Nat) (v : UInt8) (h : j ≠ k) : at8 (l.set k v) j = at8 l j := by simp [at8, List.getD, Ne.symm h]
theorem at8_ext {l m : List UInt8} (hl : l.length = m.length) (h : ∀ j, j < l.length → at8 l j = at8 m j) : l = m := by
  apply List.ext_getElem hl
  intro j h1 h2
  rw [← at8_get l j h1, ← at8_get m j h2]
  exact h j h1
def bs (l : List UInt8) : ByteArray := ⟨l.toArray⟩
theorem bs_data (l : List UInt8) : (bs l).data.toList = l := by simp [bs]
theorem bs_size (l : List UInt8) : (bs l).size = l.length := by simp [bs, ByteArray.size]
theorem bs_of (s : ByteArray) : bs s.data.toList = s := by simp [bs]
/-- A row of the bytes of a list. -/
def L8 (l : List UInt8) : Nat → Value := fun j => .int .u8 (nb (at8 l j))
/-- '[]byte(s)': a new row of the bytes. -/
theorem conv_row (w : World) (e : TypeId) (s : ByteArray) : Row (Lib.bytesWorld w e s) w.heap.size 0 s.size (L8 s.data.toList) := fun j hj => by
  rw [Nat.zero_add]
  refine ⟨Lib.bytesWorld_cell w e s j hj, ?_⟩
  have hsz : s.size ≤ (Lib.bytesCells w e s).size := by simp [Lib.bytesCells]
  simp only [World.frozen?, Lib.bytesWorld_at_new]
  simp
  omega
theorem conv_below (w : World) (e : TypeId) (s : ByteArray) : Below w.heap.size w (Lib.bytesWorld w e s) :=
  below_freeze (((Below.refl _ _).drew).alloc (Nat.le_refl _) _) _ _ (Nat.le_refl _)
theorem conv_size (w : World) (e : TypeId) (s : ByteArray) : (Lib.bytesWorld w e s).heap.size = w.heap.size + 1 := Lib.bytesWorld_size w e s
/-- 'string(b)' of a row of bytes. -/
theorem run_string_row {P : Program} (w : World) (src e dst : TypeId) (hs : P.underlying src = some (.slice e)) (he : P.underlying e = some (.int .u8)) (hd : P.underlying dst = some .string)
    (b off n cap : Nat) (l : List UInt8) (hn : l.length = n) (h : ∀ j (hj : j < l.length), w.cell? ⟨b, off + j, none⟩ = some (.int .u8 (nb l[j]))) :
    (convert src dst (.slice (some ⟨b, off, none⟩) n cap)).run P w = .ok (.string (bs l)) w := by
  subst hn
  refine run_convert_bytes_back w src dst e ⟨b, off, none⟩ cap l hs he hd fun j hj => ?_
  have e1 : (⟨b, off, none⟩ : Addr).add j = ⟨b, off + j, none⟩ := by unfold Addr.add; split <;> simp_all
  rw [e1, h j hj]; rfl
theorem Row.setL {w : World} {b n : Nat} {l : List UInt8} (h : Row w b 0 n (L8 l)) (hl : l.length = n) {k : Nat} (hk : k < n) (v : UInt8) :
    Row (w.setCell ⟨b, k, none⟩ (.int .u8 (nb v))) b 0 n (L8 (l.set k v)) :=
  (h.set0 hk _).congr fun j hj => by
    unfold L8
    by_cases e : j = k
    · subst e
      rw [if_pos rfl, at8_set_same l j v (by omega)]
    · simp only [if_neg e]
      rw [at8_set_other l k j v e]
theorem run_string_L8 {P : Program} (w : World) (src e dst : TypeId) (hs : P.underlying src = some (.slice e)) (he : P.underlying e = some (.int .u8)) (hd : P.underlying dst = some .string)
    (b n cap : Nat) (l : List UInt8) (hn : l.length = n) (h : Row w b 0 n (L8 l)) :
    (convert src dst (.slice (some ⟨b, 0, none⟩) n cap)).run P w = .ok (.string (bs l)) w :=
  run_string_row w src e dst hs he hd b 0 n cap l hn fun j hj => by
    rw [(h j (by omega)).1, L8, at8_get l j hj]

/-! ### Texts in a row -/
def strAt (ss : List ByteArray) (i : Nat) : ByteArray := ss.getD i ByteArray.empty
/-- What a slice of texts holds: nothing, or a row of cells. -/
def IsStrs (w : World) (a : Option Addr) (len : Nat) (ss : List ByteArray) : Prop :=
  ss.length = len ∧ len ≤ maxLen ∧ (len = 0 ∨ ∃ b off, a = some ⟨b, off, none⟩ ∧ ∀ i, i < len → w.cell? ⟨b, off + i, none⟩ = some (.string (strAt ss i))) ∧ ∀ s ∈ ss, s.size ≤ maxLen
theorem strAt_size (ss : List ByteArray) (j : Nat) (h : j < ss.length) (hs : ∀ s ∈ ss, s.size ≤ maxLen) : (strAt ss j).size ≤ maxLen := by
  simp only [strAt, List.getD, List.getElem?_eq_getElem h, Option.getD_some]
  exact hs _ (List.getElem_mem h)
theorem isStrs_one (W : World) (b off : Nat) (s : ByteArray) (hs : s.size ≤ maxLen) (h : W.cell? ⟨b, off, none⟩ = some (.string s)) : IsStrs W (some ⟨b, off, none⟩) 1 [s] := by
  refine ⟨rfl, by decide, .inr ⟨b, off, rfl, fun i hi => ?_⟩, ?_⟩
  · obtain rfl : i = 0 := by omega
    exact h
  · intro x hx
    simp at hx
    rw [hx]; exact hs
theorem isStrs_two (W : World) (b off : Nat) (s t : ByteArray) (hs : s.size ≤ maxLen) (ht : t.size ≤ maxLen) (h : W.cell? ⟨b, off, none⟩ = some (.string s)) (h' : W.cell? ⟨b, off + 1, none⟩ = some (.string t)) : IsStrs W (some ⟨b, off, none⟩) 2 [s, t] := by
  refine ⟨rfl, by decide, .inr ⟨b, off, rfl, fun i hi => ?_⟩, ?_⟩
  · match i, hi with
    | 0, _ => exact h
    | 1, _ => exact h'
  · intro x hx
    simp at hx
    rcases hx with hx | hx <;> (rw [hx]; assumption)
theorem isStrs_of {H : Type} {enc : TypeId × Value → H} {P : Program} {W : World} {t e : TypeId} {a : Option Addr} {len cap : Nat} {d : DataW H} {ps : List MemPlace} {base : Nat} {held : Bool}
    (ht : P.underlying t = some (.slice e)) (he : P.underlying e = some .string) (hc : P.cellsOf e = 1)
    (h : DataW.Trod enc P W base (fun _ => true) held t (.slice a len cap) d ps) : ∃ ss, IsStrs W a len ss := by
  obtain ⟨fuel, hf⟩ := h
  rcases Go.ChangeShapes.open_strings ht he hc hf with ⟨hcs, _⟩ | ⟨x, l, c, ss, hcs, _, hl, hm, hz, _, hcell, hs⟩
  · simp [Value.cells] at hcs
    obtain ⟨rfl, rfl, rfl⟩ := hcs
    exact ⟨[], rfl, by decide, .inl rfl, by simp⟩
  · simp [Value.cells] at hcs
    obtain ⟨rfl, rfl, rfl⟩ := hcs
    have hz' : ss.length = cap := by simpa using hz
    refine ⟨ss.take len, by simp; omega, by unfold maxLen at *; omega, ?_, fun s h => hs s (List.mem_of_mem_take h)⟩
    by_cases h0 : len = 0
    · exact .inl h0
    · right
      obtain ⟨b, off, spot⟩ := x
      have hc0 := hcell 0 (by omega)
      have hspot : spot = none := by simpa [Addr.add] using World.cell?_spot hc0
      subst hspot
      refine ⟨b, off, rfl, fun i hi => ?_⟩
      have := hcell i (by omega)
      have e : (⟨b, off, none⟩ : Addr).add i = ⟨b, off + i, none⟩ := by unfold Addr.add; split <;> simp_all
      rw [e] at this
      rw [this]
      simp [strAt, List.getD, hi]
theorem IsStrs.later {w w' : World} {a : Option Addr} {len : Nat} {ss : List ByteArray} (h : IsStrs w a len ss) (hb : Below w.heap.size w w') : IsStrs w' a len ss := by
  obtain ⟨h1, h2, h3, h4⟩ := h
  refine ⟨h1, h2, ?_, h4⟩
  rcases h3 with h3 | ⟨b, off, ha, h3⟩
  · exact .inl h3
  · exact .inr ⟨b, off, ha, fun i hi => cell_later hb (h3 i hi)⟩
end Go.Proofs.YthbadpcmdlfmdaaGreatDoor
