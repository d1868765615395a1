/-
  Small facts that all texts use: endings,texts as lists of bytes,rows of cells,what a call leaves alone.
-/
import Derived.Test.YtbgjkpkakoggbaaGreatDoorRows
import Derived.WalkKit
import Derived.WalkSpells
import Derived.WalkLawsBesides
import Derived.Handy
import Derived.ProofKit
import Derived.OpenShut
import Derived.SliceStrings
import Derived.Lib.Hide
import Derived.Lib.ConvBytes
import Derived.Deep.RegionHeld3
import Derived.Deep.DeepMust
import Derived.Deep.QuietTactic
import Derived.BigQuiet
namespace Go.Proofs.YtbgjkpkakoggbaaGreatDoor
open Go.RowKit
set_option linter.unusedVariables false

theorem ret_int {k:IntKind} {a b:Int} (h:a=b):Ending.returned (.int k a) = .returned (.int k b):=by rw [h]
theorem val_int {k:IntKind} {a b:Int} (h:a=b):Value.int k a = .int k b:=by rw [h]
/-! ### What a call leaves alone -/
theorem below_call {B:Nat} {w W w':World} (h:Below B w W) (hb:Below W.heap.size W w') (hle:B≤W.heap.size):Below B w w':=h.trans (hb.mono hle)
theorem below_freeze {B:Nat} {w W:World} (h:Below B w W) (a:Addr) (n:Nat) (ha:B≤a.block):Below B w (W.freeze a n):=by
  refine h.trans ?_
  unfold World.freeze
  split
  · exact Below.refl _ _
  · refine ⟨rfl,rfl,rfl,by simp,fun k hk=>?_⟩
    simp only [Array.getElem?_modify]
    rw [if_neg (by omega)]

structure Touch (S:Nat→Prop) (w w':World):Prop where
  os:w'.os=w.os
  tape:w'.tape=w.tape
  output:w'.output=w.output
  size:w.heap.size≤w'.heap.size
  block:∀ k,k<w.heap.size → ¬ S k→w'.heap[k]?=w.heap[k]?
theorem Touch.refl (S:Nat→Prop) (w:World):Touch S w w:=⟨rfl,rfl,rfl,Nat.le_refl _,fun _ _ _=>rfl⟩
theorem Touch.trans {S S':Nat→Prop} {a b c:World} (h:Touch S a b) (k:Touch S' b c) (hs:∀ i,i<a.heap.size→S' i→S i):Touch S a c :=
  ⟨k.os.trans h.os,k.tape.trans h.tape,k.output.trans h.output,Nat.le_trans h.size k.size,fun i hi hn=>(k.block i (Nat.lt_of_lt_of_le hi h.size) fun x=>hn (hs i hi x)).trans (h.block i hi hn)⟩
theorem Touch.mono {S S':Nat→Prop} {a b:World} (h:Touch S a b) (hs:∀ i,i<a.heap.size→S i→S' i):Touch S' a b:=⟨h.os,h.tape,h.output,h.size,fun i hi hn=>h.block i hi fun x=>hn (hs i hi x)⟩
theorem Touch.below {S:Nat→Prop} {a b:World} {B:Nat} (h:Touch S a b) (hB:B≤a.heap.size) (hs:∀ i,i<B → ¬ S i):Below B a b :=
  ⟨h.os,h.tape,h.output,h.size,fun i hi=>h.block i (Nat.lt_of_lt_of_le hi hB) (hs i hi)⟩
theorem below_touch {a b:World} (h:Below a.heap.size a b) (S:Nat→Prop):Touch S a b:=⟨h.os,h.tape,h.output,h.size,fun i hi _=>h.block i hi⟩
theorem Touch.drew {S:Nat→Prop} {a b:World} (h:Touch S a b):Touch S a b.drew:=⟨h.os,h.tape,h.output,h.size,h.block⟩
theorem Touch.drewN {S:Nat→Prop} {a b:World} (h:Touch S a b) (n:Nat):Touch S a (b.drewN n):=⟨h.os,h.tape,h.output,h.size,h.block⟩
theorem Touch.alloc {S:Nat→Prop} {a b:World} (h:Touch S a b) (o:Obj):Touch S a (b.alloc o) :=
  h.trans (below_touch ((Below.refl _ _).alloc (Nat.le_refl _) o) (fun _=>False)) fun _ _ x=>x.elim
theorem Touch.setCell {S:Nat→Prop} {a b:World} (h:Touch S a b) {p:Addr} (hp:S p.block∨a.heap.size≤p.block) (v:Value):Touch S a (b.setCell p v) :=
  ⟨h.os,h.tape,h.output,by rw [World.size_setCell];exact h.size,fun i hi hn=>by
    rw [Below.heap_setCell _ _ _ _ (fun e=>by subst e;rcases hp with hp | hp;exact hn hp;omega)];exact h.block i hi hn⟩
theorem Touch.grown {S:Nat→Prop} {a b c:World} {row:Option Nat} (h:Touch S a b) (hg:b.grownBy c row) (hr:∀ k,row=some k→k<a.heap.size→S k):Touch S a c :=
  ⟨hg.os.trans h.os,hg.tape.trans h.tape,hg.output.trans h.output,Nat.le_trans h.size hg.size,fun i hi hn =>
    (hg.block i (Nat.lt_of_lt_of_le hi h.size) (fun e=>hn (hr i e.symm hi))).trans (h.block i hi hn)⟩
theorem Touch.cell {S:Nat→Prop} {w w':World} (h:Touch S w w') {p:Addr} (hl:p.block<w.heap.size) (hn : ¬ S p.block):w'.cell? p=w.cell? p:=World.cell?_of_block (w:=w) (h.block _ hl hn)
theorem Touch.frozen {S:Nat→Prop} {w w':World} (h:Touch S w w') {p:Addr} (hl:p.block<w.heap.size) (hn : ¬ S p.block):w'.frozen? p=w.frozen? p:=World.frozen?_of_block (w:=w) (h.block _ hl hn)

/-! ### Texts as lists of bytes -/
theorem take_snoc (s:ByteArray) (k:Nat) (h:k<s.size):s.data.toList.take (k+1)=s.data.toList.take k ++ [s[k]]:=by
  rw [List.take_succ_eq_append_getElem (by simpa using h)];rfl
theorem take_all (s:ByteArray):s.data.toList.take s.size=s.data.toList:=List.take_of_length_le (by simp)

/-! ### Rows of cells: 'f j' stands in cell 'off + j' of block b, and may be written -/
def Row (w:World) (b off n:Nat) (f:Nat→Value):Prop:=∀ j,j<n→w.cell? ⟨b,off+j,none⟩=some (f j)∧w.frozen? ⟨b,off+j,none⟩=false
theorem Row.cell {w:World} {b off n:Nat} {f:Nat→Value} (h:Row w b off n f) {j:Nat} (hj:j<n):w.cell? ⟨b,off+j,none⟩=some (f j):=(h j hj).1
theorem Row.free {w:World} {b off n:Nat} {f:Nat→Value} (h:Row w b off n f) {j:Nat} (hj:j<n):w.frozen? ⟨b,off+j,none⟩=false:=(h j hj).2
theorem Row.block {w w':World} {b off n:Nat} {f:Nat→Value} (h:Row w b off n f) (hb:w'.heap[b]?=w.heap[b]?):Row w' b off n f:=fun j hj =>
  ⟨(World.cell?_of_block (w:=w) hb).trans (h j hj).1,(World.frozen?_of_block (w:=w) hb).trans (h j hj).2⟩
theorem Row.below {w w':World} {b off n B:Nat} {f:Nat→Value} (h:Row w b off n f) (hb:Below B w w') (hB:b<B):Row w' b off n f:=h.block (hb.block b hB)
theorem Row.lt {w:World} {b off n:Nat} {f:Nat→Value} (h:Row w b off n f) (hn:0<n):b<w.heap.size:=World.block_lt_of_cell? _ _ (h 0 hn).1
theorem Row.later {w w':World} {b off n:Nat} {f:Nat→Value} (h:Row w b off n f) (hb:Below w.heap.size w w'):Row w' b off n f:=fun j hj =>
  (h.below hb (h.lt (by omega))) j hj
theorem Row.alloc {w:World} {b off n:Nat} {f:Nat→Value} (h:Row w b off n f) (o:Obj):Row (w.alloc o) b off n f:=h.later ((Below.refl _ _).alloc (Nat.le_refl _) _)
theorem Row.drew {w:World} {b off n:Nat} {f:Nat→Value} (h:Row w b off n f):Row w.drew b off n f:=h.block rfl
theorem Row.drewN {w:World} {b off n:Nat} {f:Nat→Value} (h:Row w b off n f) (k:Nat):Row (w.drewN k) b off n f:=h.block rfl
theorem Row.set {w:World} {b off n:Nat} {f:Nat→Value} (h:Row w b off n f) {k:Nat} (hk:k<n) (v:Value) :
    Row (w.setCell ⟨b,off+k,none⟩ v) b off n (fun j=>if j=k then v else f j):=fun j hj=>by
  refine ⟨?_,by rw [World.frozen?_setCell];exact (h j hj).2⟩
  by_cases e:j=k
  · subst e;simp only [if_true];exact World.cell?_setCell_same _ _ _ (h j hj).1
  · simp only [if_neg e]
    rw [World.cell?_setCell_other _ _ _ _ (fun x=>e (by have:=congrArg Addr.off x;simp only at this;omega))]
    exact (h j hj).1
theorem Row.other {w:World} {b off n:Nat} {f:Nat→Value} (h:Row w b off n f) {a:Addr} (ha:a.block≠b) (v:Value):Row (w.setCell a v) b off n f :=
  h.block (Below.heap_setCell _ _ _ _ (Ne.symm ha))
theorem Row.congr {w:World} {b off n:Nat} {f g:Nat→Value} (h:Row w b off n f) (e:∀ j,j<n→f j=g j):Row w b off n g:=fun j hj=>by rw [← e j hj];exact h j hj
theorem Row.sub {w:World} {b off n:Nat} {f:Nat→Value} (h:Row w b off n f) (k m:Nat) (hk:k+m≤n):Row w b (off+k) m (fun j=>f (k+j)):=fun j hj=>by
  rw [Nat.add_assoc];exact h (k+j) (by omega)

/-! ### Bytes in a row -/
def nb (b:UInt8):Int:=(b.toNat:Int)
theorem nb_nonneg (b:UInt8):0≤nb b:=Int.natCast_nonneg _
theorem nb_le (b:UInt8):nb b≤255:=by have:=b.toNat_lt;unfold nb;omega
theorem nb_inj {a b:UInt8} (h:nb a=nb b):a=b:=UInt8.toNat_inj.1 (by unfold nb at h;omega)
theorem nb_byte (b:UInt8):nb b=(b.toNat:Int):=rfl
def at8 (l:List UInt8) (j:Nat):UInt8:=l.getD j 0
theorem at8_get (l:List UInt8) (j:Nat) (h:j<l.length):at8 l j=l[j]:=by simp [at8,List.getD,List.getElem?_eq_getElem h]
theorem at8_str (s:ByteArray) (j:Nat) (h:j<s.size):((s[j]'h).toNat:Int)=nb (at8 s.data.toList j):=by
  rw [at8_get _ _ (by simpa using h)];rfl
def bs (l:List UInt8):ByteArray:=⟨l.toArray⟩
theorem bs_data (l:List UInt8):(bs l).data.toList=l:=by simp [bs]
theorem bs_size (l:List UInt8):(bs l).size=l.length:=by simp [bs,ByteArray.size]
theorem bs_of (s:ByteArray):bs s.data.toList=s:=by simp [bs]
theorem conv_below (w:World) (e:TypeId) (s:ByteArray):Below w.heap.size w (Lib.bytesWorld w e s) :=
  below_freeze (((Below.refl _ _).drew).alloc (Nat.le_refl _) _) _ _ (Nat.le_refl _)
/-! ### Texts in a row -/
def strAt (ss:List ByteArray) (i:Nat):ByteArray:=ss.getD i ByteArray.empty
def IsStrs (w:World) (a:Option Addr) (len:Nat) (ss:List ByteArray):Prop :=
  ss.length=len∧len≤maxLen∧(len=0 ∨ ∃ b off,a=some ⟨b,off,none⟩ ∧ ∀ i,i<len→w.cell? ⟨b,off+i,none⟩=some (.string (strAt ss i))) ∧ ∀ s ∈ ss,s.size≤maxLen
theorem strAt_size (ss:List ByteArray) (j:Nat) (h:j<ss.length) (hs:∀ s ∈ ss,s.size≤maxLen):(strAt ss j).size≤maxLen:=by
  simp only [strAt,List.getD,List.getElem?_eq_getElem h,Option.getD_some]
  exact hs _ (List.getElem_mem h)
theorem isStrs_one (W:World) (b off:Nat) (s:ByteArray) (hs:s.size≤maxLen) (h:W.cell? ⟨b,off,none⟩=some (.string s)):IsStrs W (some ⟨b,off,none⟩) 1 [s]:=by
  refine ⟨rfl,by decide,.inr ⟨b,off,rfl,fun i hi=>?_⟩,?_⟩
  · obtain rfl:i=0:=by omega
    exact h
  · intro x hx
    simp at hx
    rw [hx];exact hs
theorem IsStrs.later {w w':World} {a:Option Addr} {len:Nat} {ss:List ByteArray} (h:IsStrs w a len ss) (hb:Below w.heap.size w w'):IsStrs w' a len ss:=by
  obtain ⟨h1,h2,h3,h4⟩:=h
  refine ⟨h1,h2,?_,h4⟩
  rcases h3 with h3 | ⟨b,off,ha,h3⟩
  · exact .inl h3
  · exact .inr ⟨b,off,ha,fun i hi=>cell_later hb (h3 i hi)⟩
end Go.Proofs.YtbgjkpkakoggbaaGreatDoor
